/- Lemmas for the law on the console: the parts App,Dec,DecN,Money,DecI,Tabs,TabsR,Src,Byt,Zs,Own. -/
import Derived.Test.YtpiehlfffjhoaaaGreatDoorQ0
import Derived.Laws.ResultCell
import Derived.Lib.ItoaNum
import Derived.Test.YtpiehlfffjhoaaaGreatDoorShelf
import Derived.Lib.AppendIntMem
import Derived.WalkSmall
import Derived.Test.YtpiehlfffjhoaaaGreatDoorCards
import Derived.Test.YtpiehlfffjhoaaaGreatDoorTie
import Derived.Lib.LaidTab
import Derived.ChangeVars
import Derived.LaidMore
import Derived.LaidLaws
import Derived.Stop.Joined
import Derived.SevenTiedAt
import Derived.HandedShaped
import Derived.Lay
import Derived.Shelf.Vars
import Derived.Deep.QuietTactic
import Derived.BigQuiet
import Derived.Laws.Bits64b
import Derived.Laws.Tables
namespace Go.Proofs.YtpiehlfffjhoaaaGreatDoor
open Go.RowKit
set_option maxRecDepth 100000
set_option maxHeartbeats 2000000
theorem xp {P:Program} {ops:Array Oper} {rest:List Oper} {o:Oper} {a:Act} {Q:Exit→Act→World→Prop} (w:World) (C:Array Value) (hgd:o.guard=none) (s x:Operand) (t e:TypeId)
 (ho:o.op=.call { callee:=.builtin .append,args:=#[s,x],argTypes:=#[t,t] })
 (i:TypeInfo) (z:Value) (size bytes:Nat) (ht:P.underlying t=some (.slice e)) (hi:P.info? e=some i) (hz:i.zero=some z)
 (hsize:i.size=size) (hby:i.bytes=bytes) (hzs:z.cells.size=size) (hsz:0 < size)
 (base:Nat) (v:Value) (n:Nat) (cs:List Value) (hs:a.eval s=v) (hx:a.eval x=.slice (some ⟨w.heap.size,0,none⟩) 1 1) (hown:w.ownsRow base e size v n cs)
 (hl:C.size=size) (h1:∀ u ∈ C.toList,u.oneCell'=true) (h63:n + 1≤maxLen) (hbytes:(n + 1) * bytes≤140737488355328) (hbase:base≤w.heap.size)
 (h:∀ A c w',w'.ownsRow base e size (.slice A (n + 1) c) (n + 1) (cs ++ C.toList)→w.grownBy w' v.ownBlock→wpList P ops Q rest (a.put o.dst (.slice A (n + 1) c)) w') :
 wpList P ops Q (o :: rest) a (w.alloc (.cells C e)):=by
 refine wpList_append_own (w.alloc (.cells C e)) hgd s x t ho base e i z size bytes ht hi hz hsize hby hzs hsz v n cs hs (hown.alloc _) ⟨w.heap.size,0,none⟩ 1 1 C.toList hx (by simp [hl]) ?_ h1 h63 hbytes (by simp;omega) ?_
 · intro j u hu;have hadd:(⟨w.heap.size,0,none⟩:Addr).add j=⟨w.heap.size,j,none⟩:=by unfold Addr.add;split <;> simp_all
   rw [hadd,World.cell?_alloc_at C e w.heap.size j rfl];simpa using hu
 · intro v' w' hown' hg _;obtain ⟨A,c,rfl,_,_⟩:=xT hown';exact h A c w' hown' (vL (oy (World.grownBy.refl w _) _) hg)
theorem vQ {P:Program} {ops:Array Oper} {rest:List Oper} {o:Oper} {a:Act} {Q:Exit→Act→World→Prop} (w:World) (hgd:o.guard=none) (s x:Operand) (t e:TypeId)
 (ho:o.op=.call { callee:=.builtin .append,args:=#[s,x],argTypes:=#[t,t] })
 (i:TypeInfo) (z:Value) (size bytes:Nat) (ht:P.underlying t=some (.slice e)) (hi:P.info? e=some i) (hz:i.zero=some z)
 (hsize:i.size=size) (hby:i.bytes=bytes) (hzs:z.cells.size=size) (hsz:0 < size)
 (base:Nat) (v:Value) (n:Nat) (cs:List Value) (hs:a.eval s=v) (hown:w.ownsRow base e size v n cs)
 (ad:Addr) (m c:Nat) (C:List Value) (hx:a.eval x=.slice (some ad) m c) (hA:Arr w (some ad) C)
 (hl:C.length=m * size) (h1:∀ u ∈ C,u.oneCell'=true) (h63:n + m≤maxLen) (hbytes:(n + m) * bytes≤140737488355328) (hbase:base≤w.heap.size)
 (h:∀ A c w',w'.ownsRow base e size (.slice A (n + m) c) (n + m) (cs ++ C)→w.grownBy w' v.ownBlock→wpList P ops Q rest (a.put o.dst (.slice A (n + m) c)) w') :
 wpList P ops Q (o :: rest) a w:=by
 refine wpList_append_own w hgd s x t ho base e i z size bytes ht hi hz hsize hby hzs hsz v n cs hs hown ad m c C hx hl ?_ h1 h63 hbytes hbase ?_
 · intro j u hu;obtain ⟨ad',e',_,hc⟩:=hA (by have:=(List.getElem?_eq_some_iff.1 hu).1;omega);injection e' with e';subst e';exact hc j u hu
 · intro v' w' hown' hg _;obtain ⟨A,c,rfl,_,_⟩:=xT hown';exact h A c w' hown' hg
theorem zk {P:Program} {fn:Func} {p u:Tmp} {ty:TypeId} (h:fn.results=#[.cell p ty,.tmp u]) (tmps:Array Value) (w:World) (g:Nat) (t:TypeId) (cs:Array Value) (fr:Nat × Nat) (d:TypeDesc)
 (hp:tmps.getD p undef=.pointer (some ⟨g,0,none⟩)) (hg:w.heap[g]?=some (.cells cs t fr))
 (hu:P.underlying ty=some d) (hd:(match d with | .struct _ | .array _ _=>true | _=>false)=true) (hi:(P.info? ty).map (·.size)=some cs.size) :
 (results fn tmps).run P w=.ok (.tuple #[.agg cs,tmps.getD u undef]) w:=by
 rw [results_cell_tmp h,hp];simp [asAddr,run_loadVar_row w g t ty cs fr d hg hu hd hi]
def sO (E size n:Nat) (cs:List Value) (w:World) (e:Ending) (w':World):Prop:=
 ∃ A c,e=.returned (.slice A n c)∧w'.ownsRow w.heap.size E size (.slice A n c) n cs∧Below w.heap.size w w'
theorem zG (w:World) (base:Nat) (e size:Nat) (hb:base≤w.heap.size):(w.alloc (.cells #[] e)).ownsRow base e size (.slice (some ⟨w.heap.size,0,none⟩) 0 0) 0 []:=
 World.ownsRow_made w #[] 0 hb (by simp [maxLen]) (by simp)
theorem zl {w:World} {base e size n:Nat} {v:Value} {cs:List Value} (h:w.ownsRow base e size v n cs):∀ k,v.ownBlock=some k→base≤k:=by
 intro k hk;rcases h.2 with ⟨hv,_⟩ | ⟨g,cap,cur,hv,hg,_⟩ <;> subst hv
 · simp [Value.ownBlock] at hk
 · have:g=k:=by simpa [Value.ownBlock] using hk
   omega
def OutL (E size:Nat) (n:Nat) (cs:List Value) (code:Int) (w:World) (e:Ending) (w':World):Prop:=
 ∃ A c,e=.returned (.tuple #[.slice A n c,.int .i64 code])∧w'.ownsRow w.heap.size E size (.slice A n c) n cs∧Below w.heap.size w w'
theorem OutL.nil {E size:Nat} {code:Int} {w w':World} (hb:Below w.heap.size w w'):OutL E size 0 [] code w (.returned (.tuple #[.slice none 0 0,.int .i64 code])) w':=
 ⟨none,0,rfl,World.ownsRow_nil _ _ _ _,hb⟩
theorem OutL.mk {E size n:Nat} {cs cs':List Value} {code code':Int} {A:Option Addr} {c m:Nat} {w w':World} (h:w'.ownsRow w.heap.size E size (.slice A m c) m cs') (hm:m=n) (hc:cs'=cs) (hcode:code'=code) (hb:Below w.heap.size w w') :
 OutL E size n cs code w (.returned (.tuple #[.slice A m c,.int .i64 code'])) w':=by
 subst hm;subst hc;subst hcode;exact ⟨A,c,rfl,h,hb⟩
theorem qf {P:Program} {ops:Array Oper} {rest:List Oper} {o:Oper} {a:Act} {Q:Exit→Act→World→Prop} (w:World) (C:Array Value) (hgd:o.guard=none) (s x:Operand) (t e:TypeId)
 (ho:o.op=.call { callee:=.builtin .append,args:=#[s,x],argTypes:=#[t,t] })
 (i:TypeInfo) (z:Value) (size bytes:Nat) (ht:P.underlying t=some (.slice e)) (hi:P.info? e=some i) (hz:i.zero=some z)
 (hsize:i.size=size) (hby:i.bytes=bytes) (hzs:z.cells.size=size) (hsz:0 < size)
 (base:Nat) (v:Value) (n:Nat) (cs:List Value) (hs:a.eval s=v) (gx:Nat) (hgx:gx=w.heap.size) (hx:a.eval x=.slice (some ⟨gx,0,none⟩) 1 1) (hown:w.ownsRow base e size v n cs)
 (hl:C.size=size) (h1:∀ u ∈ C.toList,u.oneCell'=true) (h63:n + 1≤maxLen) (hbytes:(n + 1) * bytes≤140737488355328) (hbase:base≤w.heap.size)
 (h:∀ A c w',w'.ownsRow base e size (.slice A (n + 1) c) (n + 1) (cs ++ C.toList)→w.grownBy w' v.ownBlock→wpList P ops Q rest (a.put o.dst (.slice A (n + 1) c)) w') :
 wpList P ops Q (o :: rest) a (w.alloc (.cells C e)):=by
 subst hgx;exact xp w C hgd s x t e ho i z size bytes ht hi hz hsize hby hzs hsz base v n cs hs hx hown hl h1 h63 hbytes hbase h
def u8v (b:UInt8):Value:=.int .u8 b.toNat
def wW:Nat→List UInt8→List UInt8
 | m,acc=>if h:m=0 then acc else wW (m / 10) (UInt8.ofNat (48 + m % 10) :: acc)
termination_by m=>m
decreasing_by omega
theorem tR (acc:List UInt8):wW 0 acc=acc:=by rw [wW,dif_pos rfl]
theorem pk {m:Nat} (h:0 < m) (acc:List UInt8):wW m acc=wW (m / 10) (UInt8.ofNat (48 + m % 10) :: acc):=by rw [wW,dif_neg (by omega)]
theorem ul:∀ (m:Nat),0 < m→∀ acc,wW m acc=Lib.decDigits m ++ acc:=by
 intro m
 induction m using Nat.strongRecOn with
 | ind m ih=>
   intro h acc;rw [pk h];by_cases h10:m < 10
   · rw [show m / 10=0 from by omega,tR,Lib.decDigits,dif_pos h10,show m % 10=m from by omega];rfl
   · have e:Lib.decDigits m=Lib.decDigits (m / 10) ++ [UInt8.ofNat (48 + m % 10)]:=by rw [Lib.decDigits,dif_neg h10]
     rw [ih (m / 10) (by omega) (by omega),e];simp
theorem kH (n:Nat):Lib.itoa (n:Int)=if n=0 then [48] else wW n []:=by
 unfold Lib.itoa;rw [if_neg (by omega),Int.toNat_natCast];by_cases h:n=0
 · subst h;rw [if_pos rfl,Lib.decDigits,dif_pos (by omega)];rfl
 · rw [if_neg h,ul n (by omega)];simp
theorem jp (m:Nat):((UInt8.ofNat (48 + m % 10)).toNat:Int)=48 + ((m % 10:Nat):Int):=by
 rw [UInt8.toNat_ofNat'];omega
theorem jh:∀ (acc:List UInt8) (r:ByteArray),(acc.map fun b:UInt8=>(b.toNat:Int)).foldl (fun r n=>r.push (UInt8.ofNat n.toNat)) r=⟨r.data ++ acc.toArray⟩
 | [],r=>by simp
 | b :: bs,r=>by
   simp only [List.map_cons,List.foldl_cons];rw [jh bs];cases r with
   | mk d=>
     simp only [ByteArray.push,Int.toNat_natCast,UInt8.ofNat_toNat,ByteArray.mk.injEq];simp
theorem pJ {P:Program} (src dst e:TypeId) (hs:P.underlying src=some (.slice e)) (he:P.underlying e=some (.int .u8)) (hd:P.underlying dst=some .string) (W:World) (ad:Addr) (c:Nat) (acc:List UInt8) (hA:Arr W (some ad) (acc.map u8v)) (h0:0 < acc.length) :
 (convert src dst (.slice (some ad) acc.length c)).run P W=.ok (.string ⟨acc.toArray⟩) W:=by
 rw [run_convert_bytes_string _ _ _ _ _ _ _ hs he hd];have hc:(loadCells ad acc.length).run P W=.ok ((acc.map fun b:UInt8=>(b.toNat:Int)).map (Value.int .u8)).toArray W:=by
  obtain ⟨ad',e',_,hcell⟩:=hA (by simpa using h0);injection e' with e';subst e';have:=run_loadCells_list (P:=P) (w:=W) ad (acc.map u8v) hcell;have e:(acc.map (fun b:UInt8=>(b.toNat:Int))).map (Value.int .u8)=acc.map u8v:=by rw [List.map_map];rfl
  rw [e];simpa using this
 rw [run_bytesToString _ _ _ _ (acc.map fun b:UInt8=>(b.toNat:Int)) hc,jh];simp
theorem gI:∀ (k u:Nat),u < 10 ^ (k + 1)→Lib.nDigits u≤k + 1:=by
 intro k
 induction k with
 | zero=>intro u hu;rw [Lib.nDigits_small (by simpa using hu)];exact Nat.le_refl _
 | succ k ih=>
   intro u hu;by_cases hs:u < 10
   · rw [Lib.nDigits_small hs];omega
   · rw [Lib.nDigits_big hs];have:=ih (u / 10) (by rw [Nat.pow_succ] at hu;exact Nat.div_lt_of_lt_mul (by omega));omega
theorem bY {n:Nat} {acc:List UInt8} (hn:(n:Int)≤9223372036854775808) (h:wW n []=acc):acc.length≤19:=by
 rw [←h];rcases Nat.eq_zero_or_pos n with h0 | h0
 · subst h0;rw [tR];simp
 · rw [ul n h0,List.append_nil,Lib.decDigits_length];exact gI 18 n (by omega)
theorem mG {n m:Nat} {acc:List UInt8} (hn:(n:Int)≤9223372036854775808) (hm:0 < m) (h:wW n []=wW m acc):acc.length + 1≤20:=by
 have h1:(wW n []).length≤19:=by
  rcases Nat.eq_zero_or_pos n with h0 | h0
  · subst h0;rw [tR];simp
  · rw [ul n h0,List.append_nil,Lib.decDigits_length];exact gI 18 n (by omega)
 rw [h,ul m hm,List.length_append] at h1;omega
def bX (n:Nat):ByteArray:=⟨(Lib.itoa (n:Int)).toArray⟩
theorem gq:(Tryz.prog.info? 5).map (fun i=>(i.zero,i.size,i.bytes))=some (some (.int .u8 0),1,1):=by kernel_rfl
theorem aK (n:Nat) (hn:(n:Int)≤9223372036854775807) (w:World):Calls Tryz.prog 165 #[.int .i64 n] w (Ret (.string (bX n)) w):=by
 obtain ⟨i0,hi0,hz0,hz1,hz2⟩:=info_parts (P:=Tryz.prog) (e:=5) (z:=.int .u8 0) (size:=1) (bytes:=1) gq;go_enter Tryz.func165,Tryz.ntmps165;go_wp2_with fail;have hR:=qH (show wW n []=wW n [] from rfl)
 go_loopw [3,4] (fun o k wr=>∃ (m:Nat) (acc:List UInt8) (ad:Addr) (c:Nat),k=.int .i64 m∧o=.slice (some ad) acc.length c∧wr.ownsRow w.heap.size 5 1 (.slice (some ad) acc.length c) acc.length (acc.map u8v)∧acc.length + m≤n∧(n=0∨0 < m∨0 < acc.length)∧Hid (wW n []=wW m acc)∧Below w.heap.size w wr) (fun _ k _=>(intOf k).toNat)
 case atStart=>exact ⟨n,[],⟨w.heap.size,0,none⟩,0,rfl,rfl,zG w _ _ _ (Nat.le_refl _),by simp,by omega,qH rfl,zc (Below.refl _ _) _⟩
 case round=>
  obtain ⟨m,acc,ad,c,rfl,rfl,hown,hle,hor,hR,hv⟩:=hrel;by_cases h0:m=0
  · subst h0;have hne:(((0:Nat):Int) != 0)=false:=by rfl
    have hR2:=qH (hR.out.trans (tR acc));by_cases hl:acc.length=0
    · have hn0:n=0:=by omega
      have hle0:((acc.length:Int) == 0)=true:=by simp;exact List.length_eq_zero_iff.1 hl
      have HN:=qH hn0;clear hn0 hl;go_wp2_with fail;go_returns;exact Ret.mk (by rw [bX,HN.out,kH];rfl) hv
    · have hle0:((acc.length:Int) == 0)=false:=by simp;intro e;exact hl (by rw [e];rfl)
      have hrun:=pJ (P:=Tryz.prog) 22 9 5 Tryz.underlying22 Tryz.underlying5 Tryz.underlying9 wr ad c acc (Arr.own hown) (by omega);have hnn:¬ (n:Int) < 0:=by omega
      have hn0:n≠0:=by omega
      have HN:=qH hn0;clear hl hn0;go_wp2_with fail;go_returns;exact Ret.mk (by rw [bX,kH,if_neg HN.out,hR2.out];rfl) hv
  · have hne:((m:Int) != 0)=true:=by rw [bne_iff_ne];omega
    have hR2:=qH (hR.out.trans (pk (by omega) acc));have hroom:=mG (by omega) (by omega) hR.out;have hX:=World.ownsRow_lit (base:=w.heap.size) (e:=5) (size:=1) wr #[Value.int IntKind.u8 (48 + ((m % 10:Nat):Int))] 1 hv.size (by simp [maxLen]) (by simp);have HX:=qH hX;have hAr:=Arr.own hown;have hsz:w.heap.size≤(wr.alloc (Obj.cells #[.int IntKind.u8 (48 + ((m % 10:Nat):Int))] 5)).heap.size:=by have:=hv.size;simp;omega
    have HSZ:=qH hsz;have HAr:=qH hAr;clear hX hAr hsz;go_wp2_with (at_builtin;go_loud (refine vQ _ rfl _ _ 22 5 rfl i0 _ 1 1 Tryz.underlying22 hi0 hz0 hz1 hz2 rfl (by omega) w.heap.size (.slice (some ⟨wr.heap.size,0,none⟩) 1 1) 1 [.int .u8 (48 + ((m % 10:Nat):Int))] rfl HX.out ad acc.length c (acc.map u8v) rfl (HAr.out.alloc _) (by simp) (by intro u hu;simp only [List.mem_map] at hu;obtain ⟨b,_,rfl⟩:=hu;rfl) (by unfold maxLen;omega) (by omega) HSZ.out ?_);intro A2 c2 w2 hown2 hg2;obtain ⟨g2,hA2⟩:=xj hown2 (by omega);subst hA2)
    have e1:1 + acc.length=(UInt8.ofNat (48 + m % 10) :: acc).length:=by simp;omega
    have e2:[Value.int IntKind.u8 (48 + ((m % 10:Nat):Int))] ++ acc.map u8v=(UInt8.ofNat (48 + m % 10) :: acc).map u8v:=by simp only [List.map_cons,u8v];rw [jp];rfl
    rw [e1,e2] at hown2;refine ⟨⟨m / 10,UInt8.ofNat (48 + m % 10) :: acc,⟨g2,0,none⟩,c2,by go_num,by rw [e1],hown2,by simp;omega,by simp,hR2,?_⟩,by simp [intOf];omega⟩;exact zh (zc hv _) hg2 (fun k e=>by
     have h1:=hv.size;have h2:wr.heap.size=k:=by simpa [Value.ownBlock] using e
     omega)
def zm (n:Int):ByteArray:=⟨(Lib.itoa n).toArray⟩
theorem itoa_neg (n:Nat) (h:0 < n):Lib.itoa (-(n:Int))=45 :: wW n []:=by
 unfold Lib.itoa;rw [if_pos (by omega),ul n h,show (-(n:Int)).natAbs=n from by omega];simp
theorem zav (m:Nat):Int.tmod (-(m:Int)) 10 = -((m % 10:Nat):Int):=by
 rw [Int.neg_tmod,Int.tmod_eq_emod_of_nonneg (by omega)];rfl
theorem zas (m:Nat):Int.tdiv (-(m:Int)) 10 = -((m / 10:Nat):Int):=by
 rw [Int.neg_tdiv,Int.tdiv_eq_ediv_of_nonneg (by omega)];rfl
theorem fS (n:Nat) (hn0:0 < n) (hn:(n:Int)≤9223372036854775808) (w:World):Calls Tryz.prog 165 #[.int .i64 (-(n:Int))] w (Ret (.string (zm (-(n:Int)))) w):=by
 obtain ⟨i0,hi0,hz0,hz1,hz2⟩:=info_parts (P:=Tryz.prog) (e:=5) (z:=.int .u8 0) (size:=1) (bytes:=1) gq;go_enter Tryz.func165,Tryz.ntmps165;go_wp2_with fail
 go_loopw [3,4] (fun o k wr=>∃ (m:Nat) (acc:List UInt8) (ad:Addr) (c:Nat),k=.int .i64 (-(m:Int))∧o=.slice (some ad) acc.length c∧wr.ownsRow w.heap.size 5 1 (.slice (some ad) acc.length c) acc.length (acc.map u8v)∧acc.length + m≤n∧(0 < m∨0 < acc.length)∧Hid (wW n []=wW m acc)∧Below w.heap.size w wr) (fun _ k _=>(-(intOf k)).toNat)
 case atStart=>exact ⟨n,[],⟨w.heap.size,0,none⟩,0,rfl,rfl,zG w _ _ _ (Nat.le_refl _),by simp,by omega,qH rfl,zc (Below.refl _ _) _⟩
 case round=>
  obtain ⟨m,acc,ad,c,rfl,rfl,hown,hle,hor,hR,hv⟩:=hrel;by_cases h0:m=0
  · subst h0;have hR2:=qH (hR.out.trans (tR acc));have hl:acc.length≠0:=by omega
    have hle0:((acc.length:Int) == 0)=false:=by simp;intro e;exact hl (by rw [e];rfl)
    have hrun:=pJ (P:=Tryz.prog) 22 9 5 Tryz.underlying22 Tryz.underlying5 Tryz.underlying9 wr ad c acc (Arr.own hown) (by omega);have hl19:=bY hn hR2.out;have hadd:=fun (w:World)=>run_string_add_sum (P:=Tryz.prog) w ⟨#[45]⟩ ⟨acc.toArray⟩ (by rw [ByteArray.size_mk',ByteArray.size_mk'];simp;omega);have hnn:-(n:Int) < 0:=by omega
    clear hl;go_wp2_with fail;go_returns;refine Ret.mk ?_ hv;rw [zm,itoa_neg n hn0,hR2.out];exact congrArg Value.string (ByteArray.mk_append_mk [45] acc)
  · have hne:(-(m:Int) != 0)=true:=by rw [bne_iff_ne];omega
    have hR2:=qH (hR.out.trans (pk (by omega) acc));have hroom:=mG (by omega) (by omega) hR.out;obtain ⟨r,hr⟩:∃ r:Nat,r=m % 10:=⟨_,rfl⟩
    obtain ⟨q,hq⟩:∃ q:Nat,q=m / 10:=⟨_,rfl⟩
    have ht:Int.tmod (-(m:Int)) 10 = -(r:Int):=by rw [hr];exact zav m
    have hd:Int.tdiv (-(m:Int)) 10 = -(q:Int):=by rw [hq];exact zas m
    have hr9:(r:Int)≤9:=by omega
    have hqm:q < m:=by omega
    have hqm2:(q:Int)≤1000000000000000000:=by omega
    have HQ:=qH hq;have HR':=qH hr;clear hr hq;rcases Nat.eq_zero_or_pos r with hr0 | hrp
    · have ht0:Int.tmod (-(m:Int)) 10=0:=by rw [ht,hr0];rfl
      have HR0:=qH hr0;clear ht hr0;have hX:=World.ownsRow_lit (base:=w.heap.size) (e:=5) (size:=1) wr #[Value.int IntKind.u8 48] 1 hv.size (by simp [maxLen]) (by simp);have HX:=qH hX;have hAr:=Arr.own hown;have hsz:w.heap.size≤(wr.alloc (Obj.cells #[.int IntKind.u8 48] 5)).heap.size:=by have:=hv.size;simp;omega
      have HSZ:=qH hsz;have HAr:=qH hAr;clear hX hAr hsz;go_wp2_with (at_builtin;go_loud (refine vQ _ rfl _ _ 22 5 rfl i0 _ 1 1 Tryz.underlying22 hi0 hz0 hz1 hz2 rfl (by omega) w.heap.size (.slice (some ⟨wr.heap.size,0,none⟩) 1 1) 1 [.int .u8 48] rfl HX.out ad acc.length c (acc.map u8v) rfl (HAr.out.alloc _) (by simp) (by intro u hu;simp only [List.mem_map] at hu;obtain ⟨b,_,rfl⟩:=hu;rfl) (by unfold maxLen;omega) (by omega) HSZ.out ?_);intro A2 c2 w2 hown2 hg2;obtain ⟨g2,hA2⟩:=xj hown2 (by omega);subst hA2)
      have e1:1 + acc.length=(UInt8.ofNat (48 + m % 10) :: acc).length:=by simp;omega
      have e2:[Value.int IntKind.u8 48] ++ acc.map u8v=(UInt8.ofNat (48 + m % 10) :: acc).map u8v:=by
       have h:=jp m;rw [←HR'.out] at h ⊢;simp only [List.map_cons,u8v];rw [h];rw [HR0.out];rfl
      rw [e1,e2] at hown2;have hqe:wW (m / 10) (UInt8.ofNat (48 + m % 10) :: acc)=wW q (UInt8.ofNat (48 + m % 10) :: acc):=by rw [HQ.out]
      refine ⟨⟨q,UInt8.ofNat (48 + m % 10) :: acc,⟨g2,0,none⟩,c2,by go_num,by rw [e1],hown2,by simp;omega,by simp,qH (hR2.out.trans hqe),?_⟩,by simp [intOf];omega⟩;exact zh (zc hv _) hg2 (fun k e=>by
       have h1:=hv.size;have h2:wr.heap.size=k:=by simpa [Value.ownBlock] using e
       omega)
    · have hrn:-(r:Int) < 0:=by omega
      have hrn2:(r:Int)≠0:=by omega
      have hX:=World.ownsRow_lit (base:=w.heap.size) (e:=5) (size:=1) wr #[Value.int IntKind.u8 (48 + (r:Int))] 1 hv.size (by simp [maxLen]) (by simp);have HX:=qH hX;have hAr:=Arr.own hown;have hsz:w.heap.size≤(wr.alloc (Obj.cells #[.int IntKind.u8 (48 + (r:Int))] 5)).heap.size:=by have:=hv.size;simp;omega
      have HSZ:=qH hsz;have HAr:=qH hAr;clear hX hAr hsz;go_wp2_with (at_builtin;go_loud (refine vQ _ rfl _ _ 22 5 rfl i0 _ 1 1 Tryz.underlying22 hi0 hz0 hz1 hz2 rfl (by omega) w.heap.size (.slice (some ⟨wr.heap.size,0,none⟩) 1 1) 1 [.int .u8 (48 + (r:Int))] rfl HX.out ad acc.length c (acc.map u8v) rfl (HAr.out.alloc _) (by simp) (by intro u hu;simp only [List.mem_map] at hu;obtain ⟨b,_,rfl⟩:=hu;rfl) (by unfold maxLen;omega) (by omega) HSZ.out ?_);intro A2 c2 w2 hown2 hg2;obtain ⟨g2,hA2⟩:=xj hown2 (by omega);subst hA2)
      have e1:1 + acc.length=(UInt8.ofNat (48 + m % 10) :: acc).length:=by simp;omega
      have e2:[Value.int IntKind.u8 (48 + (r:Int))] ++ acc.map u8v=(UInt8.ofNat (48 + m % 10) :: acc).map u8v:=by
       have h:=jp m;rw [←HR'.out] at h ⊢;simp only [List.map_cons,u8v];rw [h];rfl
      rw [e1,e2] at hown2;have hqe:wW (m / 10) (UInt8.ofNat (48 + m % 10) :: acc)=wW q (UInt8.ofNat (48 + m % 10) :: acc):=by rw [HQ.out]
      refine ⟨⟨q,UInt8.ofNat (48 + m % 10) :: acc,⟨g2,0,none⟩,c2,by go_num,by rw [e1],hown2,by simp;omega,by simp,qH (hR2.out.trans hqe),?_⟩,by simp [intOf];omega⟩;exact zh (zc hv _) hg2 (fun k e=>by
       have h1:=hv.size;have h2:wr.heap.size=k:=by simpa [Value.ownBlock] using e
       omega)
theorem xf (n:Int) (h0:-9223372036854775808≤n) (h1:n≤9223372036854775807) (w:World):Calls Tryz.prog 165 #[.int .i64 n] w (Ret (.string (zm n)) w):=by
 by_cases h:0≤n
 · obtain ⟨c,rfl⟩:=Int.eq_ofNat_of_zero_le h;exact aK c h1 w
 · obtain ⟨c,hc⟩:∃ c:Nat,n = -(c:Int):=⟨n.natAbs,by omega⟩
   subst hc;exact fS c (by omega) (by omega) w
def Pow10 (w : World) : Prop := Lib.TabIs Tryz.prog w "internal/strconv.uint64pow10" .u64 Lib.pow10Tab
theorem g_pow10 : Tryz.prog.globalNamed "internal/strconv.uint64pow10" = some 5 := by kernel_rfl
theorem Pow10.lt {w:World} (h:Pow10 w):5 < w.heap.size:=by
 have h1:=Lib.TabIs.cell h g_pow10 0 (by rw [Lib.pow10Tab_length];omega);exact block_lt_of_cell h1
theorem Pow10.below {w w':World} (h:Pow10 w) (hb:Below w.heap.size w w'):Pow10 w':=var?_below hb g_pow10 h.lt h
theorem fY:∀ u:Nat,Lib.nDigits u≤u + 1:=by
 intro u
 induction u using Nat.strongRecOn with
 | ind u ih=>
   by_cases h:u < 10
   · rw [Lib.nDigits_small h];omega
   · rw [Lib.nDigits_big h];have:=ih (u / 10) (by omega);omega
theorem xo (n:Int) (h0:-1000000000000000000≤n) (h1:n≤1000000000000000000) (w:World) (hT:Pow10 w):Calls Tryz.prog 38 #[.int .i64 n] w (Ret (.string (zm n)) w):=by
 have HT:=qH hT;clear hT;go_enter Tryz.func38,Tryz.ntmps38;go_wp2_with fail;refine (Tryz.strconv_FormatInt_10 n (by omega) (by omega) _ HT.out).mono ?_;rintro e W ⟨rfl,k,os,rfl⟩;go_wp2_with fail;go_returns;exact Ret.mk rfl (Lib.below_grow _ w (Nat.le_refl _) k os)
def IfaceAt (w:World) (g:Nat):Prop:=∃ ev,w.cell? ⟨g,0,none⟩=some ev∧(ev=.nilIface∨∃ te pe,ev=.iface te pe)
theorem IfaceAt.below {w w':World} {g:Nat} (h:IfaceAt w g) (hb:Below w.heap.size w w'):IfaceAt w' g:=by
 obtain ⟨ev,hc,he⟩:=h;exact ⟨ev,zb hb hc,he⟩
structure Tabs (w:World):Prop where
 pow:Pow10 w
 len:∃ m,w.cell? ⟨2,0,none⟩=some (.int .i64 m)
 syn:IfaceAt w 3
 rng:IfaceAt w 4
theorem Tabs.below {w w':World} (h:Tabs w) (hb:Below w.heap.size w w'):Tabs w':=by
 obtain ⟨m,hm⟩:=h.len;exact ⟨h.pow.below hb,⟨m,zb hb hm⟩,h.syn.below hb,h.rng.below hb⟩
end Go.Proofs.YtpiehlfffjhoaaaGreatDoor
namespace Go.Proofs.YtpiehlfffjhoaaaGreatDoor
open Go.ChangeShapes Go.WideShapes Go.ChangeAt Go.RowKit Go.Deep Go.Joins
theorem ol {H:Type} {enc:TypeId × Value→H} {a:Assume} {C:Checked} {os:Os} {f:FuncId} {fn:Func} {s:ChangeSpec} {conds:List PathCond} {apart fresh handsOn again:Bool} {X:World→Array Value→Prop}
 (hX:∀ (w w':World) (args:Array Value),w.heap=w'.heap→X w args→X w' args)
 (own:ownKnob C.prog.godebug=none) (started:os.Started) (noInit:C.prog.inits.idxOf? f=none) (hfn:C.prog.funcs[f]?=some fn)
 (witness:∃ (w:World) (tape:Tape) (i:Input),w.os=os∧(w.forCall tape i).Shaped C.prog∧i.vars=[]∧Input.okWide C.prog (w.forCall tape i) .any w.heap.size f i ∧
   ((s.pre enc C.prog fn conds apart (w.forCall tape i).memory i.args∧X (w.forCall tape i).memory i.args)∧sizedMet enc C.prog fn (OpenSpec.ofChange s) apart (w.forCall tape i).memory i.args)∧a.holds C.prog (lone (Frame.enter C.prog f i.args .normal) [] (w.forCall tape i)))
 (contract:∀ (W:World) (base:Nat) (args:Array Value) (ds gs:List (DataW H)) (before:List MemPlace),
   (∀ (j:Nat) t v,fn.params[j]?=some t→args[j]?=some v→Value.okWide C.prog W .any base t v) →
   DataW.Whole enc C.prog fn.params.toList s.vars apart W args.toList ds gs before →
   X W args→W.ShapedOpen C.prog →
   Calls C.prog f args W fun e W'=>∃ v,e=.returned v∧s.post enc C.prog fn apart fresh handsOn again W args v W') :
 ReturnsInHanded a C os f .any (fun w args=>(s.pre enc C.prog fn conds apart w args∧X w args)∧sizedMet enc C.prog fn (OpenSpec.ofChange s) apart w args) (s.post enc C.prog fn apart fresh handsOn again):=by
 refine returnsInHanded_of_calls own started noInit witness fun w tape i _ hsh _ hok hpre _=>?_;obtain ⟨_,_,_,g,hg,_,_,_,_,hval⟩:=hok;obtain rfl:=Option.some.inj (hg.symm.trans hfn);obtain ⟨⟨⟨ds,gs,before,hw,_⟩,hx⟩,_⟩:=hpre;refine (contract (w.forCall tape i) w.heap.size i.args ds gs before hval (DataW.Whole.of_heap (w':=w.forCall tape i) (by rfl) hw) (hX _ _ _ (by rfl) hx) hsh).mono fun e W' ⟨v,he,hp⟩=>?_;subst he;exact ChangeSpec.post_blind hp
theorem t_pow10:(Tryz.prog.globals[5]?).map (·.type)=some 273:=by kernel_rfl
theorem zch:Tryz.prog.cellsOf 89=1:=by kernel_rfl
theorem zaV:Tryz.prog.cellsOf 273=20:=by kernel_rfl
theorem eo:(Rows.laid_internal_strconv_uint64pow10:DataW Unit)=Lib.tabData .u64 Lib.pow10Tab:=by kernel_rfl
theorem g_syn : Tryz.prog.globalNamed "strconv.ErrSyntax" = some 3 := by kernel_rfl
theorem g_rng : Tryz.prog.globalNamed "strconv.ErrRange" = some 4 := by kernel_rfl
theorem t_syn:(Tryz.prog.globals[3]?).map (·.type)=some 103:=by kernel_rfl
theorem t_rng:(Tryz.prog.globals[4]?).map (·.type)=some 103:=by kernel_rfl
theorem zbT {W:World} (hsh:W.ShapedOpen Tryz.prog):∃ m,W.cell? ⟨2,0,none⟩=some (.int .i64 m):=Go.Proofs.cell_of_shapedOpen_int (zero:=#[.int .i64 0]) (t:=3) hsh (of_decide_eq_true (by kernel_rfl)) (by kernel_rfl) rfl (by kernel_rfl) (by kernel_rfl) Tryz.underlying3
def bvS (b:UInt8):Value:=.int .u8 b.toNat
def Src (w:World) (g q:Nat):Prop:=
 ∃ (C:Option Addr) (n c:Nat) (cs:List UInt8) (k:Nat) (sd:Int),Blk w g 91 #[.slice C n c,.int .i64 k,.int .u64 sd]∧Arr w C (cs.map bvS)∧cs.length=n∧n≤1048576∧k≤q∧0≤sd∧sd≤18446744073709551615∧∀ ad,C=some ad→ad.block < g
theorem Src.step {w w0 w':World} {g q n c k:Nat} {C:Option Addr} {cs:List UInt8} {sd sd':Int} (hB:Blk w g 91 #[.slice C n c,.int .i64 k,.int .u64 sd]) (hA:Arr w C (cs.map bvS)) (hn:cs.length=n) (hnb:n≤1048576) (hk:k≤q) (h0:0≤sd') (h1:sd'≤18446744073709551615) (hC:∀ ad,C=some ad→ad.block < g)
 (hw0:Below w.heap.size w w0) (hw:Below ((w0.setCell ⟨g,1,none⟩ (.int .i64 ((k:Int) + 1))).setCell ⟨g,2,none⟩ (.int .u64 sd')).heap.size ((w0.setCell ⟨g,1,none⟩ (.int .i64 ((k:Int) + 1))).setCell ⟨g,2,none⟩ (.int .u64 sd')) w') :
 Src w' g (q + 1)∧w.grownBy w' (some g):=by
 have hB1:=(((hB.below hw0).set_ 1 (.int .i64 ((k:Int) + 1))).set_ 2 (.int .u64 sd')).below hw;have hg:w.grownBy ((w0.setCell ⟨g,1,none⟩ (.int .i64 ((k:Int) + 1))).setCell ⟨g,2,none⟩ (.int .u64 sd')) (some g):=zZ (zZ (yU hw0 (some g)) (.inl rfl) _) (.inl rfl) _;have hg2:=wA hg hw;refine ⟨⟨C,n,c,cs,k + 1,sd',?_,hA.grown hg2 (fun ad e h=>absurd (Option.some.inj h) (Nat.ne_of_lt (hC ad e))),hn,hnb,by omega,h0,h1,hC⟩,hg2⟩;have e:((k + 1:Nat):Int)=(k:Int) + 1:=by omega
 rw [e];exact hB1
theorem Src.more {w:World} {g q q':Nat} (h:Src w g q) (hq:q≤q'):Src w g q':=by
 obtain ⟨C,n,c,cs,k,sd,hB,hA,hn,hnb,hk,s0,s1,hC⟩:=h;exact ⟨C,n,c,cs,k,sd,hB,hA,hn,hnb,by omega,s0,s1,hC⟩
theorem Src.lt {w:World} {g q:Nat} (h:Src w g q):g < w.heap.size:=by
 obtain ⟨C,n,c,cs,k,sd,hB,_⟩:=h;exact hB.lt
theorem Src.below {w w':World} {g q:Nat} (h:Src w g q) (hb:Below w.heap.size w w'):Src w' g q:=by
 obtain ⟨C,n,c,cs,k,sd,hB,hA,hn,hnb,hk,s0,s1,hC⟩:=h;exact ⟨C,n,c,cs,k,sd,hB.below hb,hA.below hb,hn,hnb,hk,s0,s1,hC⟩
theorem Src.far {w:World} {g q:Nat} (h:Src w g q) {p:Addr} (hp:g < p.block) (u:Value):Src (w.setCell p u) g q:=by
 obtain ⟨C,n,c,cs,k,sd,hB,hA,hn,hnb,hk,s0,s1,hC⟩:=h;exact ⟨C,n,c,cs,k,sd,hB.far (by omega) u,hA.grown (zZ (g:=p.block) (World.grownBy.refl w _) (.inl rfl) u) (fun ad e h=>by have:=hC ad e;injection h;omega),hn,hnb,hk,s0,s1,hC⟩
theorem Src.kept {w w':World} {g q k:Nat} (h:Src w g q) (hb:w.grownBy w' (some k)) (hk:g < k):Src w' g q:=by
 obtain ⟨C,n,c,cs,j,sd,hB,hA,hn,hnb,hj,s0,s1,hC⟩:=h;exact ⟨C,n,c,cs,j,sd,hB.grown hb (by intro e;injection e;omega),hA.grown hb (fun ad e h=>by have:=hC ad e;injection h;omega),hn,hnb,hj,s0,s1,hC⟩
theorem Src.over {w w':World} {g q:Nat} {row:Option Nat} (h:Src w g q) (hb:w.grownBy w' row) (hr:∀ i,row=some i→g < i):Src w' g q:=by
 obtain ⟨C,n,c,cs,j,sd,hB,hA,hn,hnb,hj,s0,s1,hC⟩:=h;exact ⟨C,n,c,cs,j,sd,hB.grown hb (fun e=>by have:=hr g e.symm;omega),hA.grown hb (fun ad e h=>by have:=hC ad e;have:=hr ad.block h.symm;omega),hn,hnb,hj,s0,s1,hC⟩
end Go.Proofs.YtpiehlfffjhoaaaGreatDoor
namespace Go.Proofs.YtpiehlfffjhoaaaGreatDoor
open Go.ChangeShapes Go.WideShapes Go.ChangeAt Go.RowKit Go.Deep Go.Joins
theorem qR {P:Program} {f:FuncId} {args:Array Value} {w:World} {v:Value} {Q:Ending→World→Prop} (h:Calls P f args w (RetQ v w)) (k:Q (.returned v) w):Calls P f args w Q:=
 h.mono (fun e w' h=>by obtain ⟨rfl,rfl⟩:=h;exact k)
theorem qS {P:Program} {f:FuncId} {args:Array Value} {w:World} {v:Value} {R:World→Prop} {Q:Ending→World→Prop} (h:Calls P f args w (fun e w'=>e=.returned v∧R w')) (k:∀ w',R w'→Q (.returned v) w'):Calls P f args w Q:=
 h.mono (fun e w' h=>by obtain ⟨rfl,h⟩:=h;exact k _ h)
theorem zN {α:Sort _} (e:α):∃ z,z=e:=⟨e,rfl⟩
section
variable {P:Program} {ops:Array Oper} {rest:List Oper} {o:Oper} {a a':Act} {w:World} {Q:Exit→Act→World→Prop}
theorem yS (g:Nat) (cells:Array Value) {old:Array Value} {t ty:TypeId} {x y:Operand} (hg:Blk w g t old) (h:wpList P ops Q rest (a.put o.dst undef) (w.setRow g cells))
 (hgd:o.guard=none:=by exact rfl) (ho:o.op=.store ty x y:=by exact rfl) (hx:a.eval x=.pointer (some ⟨g,0,none⟩):=by exact rfl) (hy:a.eval y=.agg cells:=by exact rfl)
 (hi:(P.info? ty).map (·.size)=some cells.size:=by kernel_rfl) (hold:old.size=cells.size:=by exact rfl) (h1:cells.all (·.oneCell')=true:=by simp [Value.oneCell']):wpList P ops Q (o :: rest) a w:=
 wpList_store_row hgd ty x y ho g cells hx hy t old hg hi hold h1 h
theorem yL (g:Nat) {cs:Array Value} {t ty:TypeId} {x:Operand} {d:TypeDesc} (hg:Blk w g t cs) (hu:P.underlying ty=some d) (h:wpList P ops Q rest (a.put o.dst (.agg cs)) w)
 (hgd:o.guard=none:=by exact rfl) (ho:o.op=.load ty x:=by exact rfl) (hx:a.eval x=.pointer (some ⟨g,0,none⟩):=by exact rfl)
 (hd:(match d with | .struct _ | .array _ _=>true | _=>false)=true:=by exact rfl) (hi:(P.info? ty).map (·.size)=some cs.size:=by kernel_rfl):wpList P ops Q (o :: rest) a w:=
 wpList_load_row hgd ty x ho g hx t cs (0,0) d hg hu hd hi h
variable {md:Region.Mode} {S:World→Prop} {fuel:Nat} {listed:Array Bool}
theorem zH (S:World→Prop) {id:Nat} (hS:S w.drew) (h:S w.drew→wpAnyH P .any ops Q S ops.size (Array.replicate ops.size false) a w.drew) (hm:P.follows .mixedOrders=true:=by as_aux_lemma=>kernel_rfl):(Code.region id ops true).wp P Q a w:=
 wp_region_held_drew hm hS h
theorem zD (h:Q .normal a w) (hr:Region.ready md ops listed=[]:=by as_aux_lemma=>kernel_rfl):wpAnyH P md ops Q S fuel listed a w:=wpAnyH_done hr h fuel
theorem zK {R K:Act→World→Prop} (hK:Shut (∀ a w,S w→(S w→R a w)→K a w)) (hS:S w) (h:S w→R a' w) (ha:a=a':=by (try simp only [Act.put,zA,zB,zC]);exact rfl):K a w:=
 ha ▸ hK.out a w hS (fun hs=>ha ▸ h hs)
end
abbrev cL (x:Last):Array Value:=#[.string x.name,.int .i64 x.length,.int .i64 x.b,.int .i64 x.i,.int .i64 x.h,.int .i64 x.p]
abbrev cM:Array Value:=#[.string ⟨#[]⟩,.int .i64 0,.int .i64 0,.int .i64 0,.int .i64 0,.int .i64 0]
abbrev cS (x:Style):Array Value:=#[.string x.u,.string x.c,.string x.l,.string x.s,.int .i64 x.t,.int .i64 x.h,.int .i64 x.e,.int .i64 x.d,.bool x.q]
abbrev cT:Array Value:=#[.string ⟨#[]⟩,.string ⟨#[]⟩,.string ⟨#[]⟩,.string ⟨#[]⟩,.int .i64 0,.int .i64 0,.int .i64 0,.int .i64 0,.bool false]
abbrev cF (x:Foot):Array Value:=#[.int .i64 x.length,.int .i64 x.b,.int .i64 x.i,.int .i64 x.h]
abbrev cH (x:Last):Array Value:=#[.int .i64 x.length,.int .i64 x.b,.int .i64 x.i,.int .i64 x.h]
abbrev cG:Array Value:=#[.int .i64 0,.int .i64 0,.int .i64 0,.int .i64 0]
abbrev cD (f:Foot) (A:Option Addr) (n c:Nat) (s:Style) (lg:ByteArray):Array Value:=#[.int .i64 f.length,.int .i64 f.b,.int .i64 f.i,.int .i64 f.h,.slice A n c,.string s.u,.string s.c,.string s.l,.string s.s,.int .i64 s.t,.int .i64 s.h,.int .i64 s.e,.int .i64 s.d,.bool s.q,.string lg]
abbrev cE:Array Value:=#[.int .i64 0,.int .i64 0,.int .i64 0,.int .i64 0,.slice none 0 0,.string ⟨#[]⟩,.string ⟨#[]⟩,.string ⟨#[]⟩,.string ⟨#[]⟩,.int .i64 0,.int .i64 0,.int .i64 0,.int .i64 0,.bool false,.string ⟨#[]⟩]
def Own (w:World) (lo hi E size n:Nat) (v:Value) (cs:List Value):Prop:=w.ownsRow lo E size v n cs∧lo≤hi∧hi≤w.heap.size∧∀ k,v.ownBlock=some k→k < hi
theorem yw {w:World} {base e size n:Nat} {v:Value} {cs:List Value} (h:w.ownsRow base e size v n cs):∀ k,v.ownBlock=some k→k < w.heap.size:=by
 intro k hk;rcases xT h with ⟨A,c,hv,_⟩
 subst hv;rcases h.2 with ⟨hv,_⟩ | ⟨g,cap,cur,hv,_,hh⟩
 · rw [hv] at hk;simp [Value.ownBlock] at hk
 · rw [hv] at hk;have hgk:g=k:=by simpa [Value.ownBlock] using hk
   subst hgk;simp only [World.ownsRow,hv] at h;cases Nat.lt_or_ge g w.heap.size with
   | inl hlt=>exact hlt
   | inr hge=>exfalso;simp_all
theorem Own.of {w w':World} {e size n:Nat} {v:Value} {cs:List Value} (h:w'.ownsRow w.heap.size e size v n cs) (hb:Below w.heap.size w w'):Own w' w.heap.size w'.heap.size e size n v cs:=
 ⟨h,hb.size,Nat.le_refl _,yw h⟩
theorem Own.named {w w':World} {e size n:Nat} {v:Value} {cs:List Value} (h:w'.ownsRow w.heap.size e size v n cs) (hb:Below w.heap.size w w'):∃ lo hi,Own w' lo hi e size n v cs∧Hid (lo=w.heap.size)∧Hid (hi=w'.heap.size):=
 ⟨_,_,Own.of h hb,qH rfl,qH rfl⟩
theorem Own.below {w w':World} {lo hi e size n:Nat} {v:Value} {cs:List Value} (h:Own w lo hi e size n v cs) (hb:Below w.heap.size w w'):Own w' lo hi e size n v cs:=
 ⟨ze h.1 hb,h.2.1,Nat.le_trans h.2.2.1 hb.size,h.2.2.2⟩
theorem Own.drew {w:World} {lo hi e size n:Nat} {v:Value} {cs:List Value} (h:Own w lo hi e size n v cs):Own w.drew lo hi e size n v cs:=h.below (Below.refl _ _).drew
theorem Own.grown {w w':World} {lo hi e size n:Nat} {v:Value} {cs:List Value} {row:Option Nat} (h:Own w lo hi e size n v cs) (hg:w.grownBy w' row) (hr:∀ k,row=some k→hi≤k∨k < lo):Own w' lo hi e size n v cs:=
 ⟨h.1.kept hg (by
   cases hv:v.ownBlock with
   | none=>exact .inl rfl
   | some g=>
     refine .inr (fun e=>?_);have h1:=h.2.2.2 g hv;have h2:=zl h.1 g hv;rcases hr g e.symm with h3 | h3 <;> omega),h.2.1,Nat.le_trans h.2.2.1 hg.size,h.2.2.2⟩
theorem Own.row {w:World} {lo hi e size n c:Nat} {A:Option Addr} {cs:List Value} (h:Own w lo hi e size n (.slice A n c) cs):∀ k,A.map (·.block)=some k→lo≤k∧k < hi:=by
 intro k hk;cases A with
 | none=>simp at hk
 | some a=>
   have:(Value.slice (some a) n c).ownBlock=some k:=by simpa [Value.ownBlock] using hk
   exact ⟨zl h.1 k this,h.2.2.2 k this⟩
theorem Own.arr {w:World} {lo hi e size n c:Nat} {A:Option Addr} {cs:List Value} (h:Own w lo hi e size n (.slice A n c) cs):Arr w A cs:=Arr.own h.1
theorem Own.marked {w w':World} {lo hi e size n c:Nat} {A:Option Addr} {cs cs':List Value} (h:Own w lo hi e size n (.slice A n c) cs) (hg:w.grownBy w' (A.map (·.block))) (ho:w'.ownsRow lo e size (.slice A n c) n cs'):Own w' lo hi e size n (.slice A n c) cs':=
 ⟨ho,h.2.1,Nat.le_trans h.2.2.1 hg.size,h.2.2.2⟩
end Go.Proofs.YtpiehlfffjhoaaaGreatDoor
