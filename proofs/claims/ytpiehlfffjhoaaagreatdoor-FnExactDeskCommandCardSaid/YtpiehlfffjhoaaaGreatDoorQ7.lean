/- Lemmas for the law on the console: the parts StampA,LogP,LogR,LogT. -/
import Derived.Test.YtpiehlfffjhoaaaGreatDoorQ6
namespace Go.Proofs.YtpiehlfffjhoaaaGreatDoor
open Go.RowKit Go.Proofs.Tryz
set_option maxRecDepth 100000
set_option maxHeartbeats 4000000
theorem wk(n:Int):(zm n).size<=n.natAbs + 2:=by
 have h:=dB n.natAbs;unfold zm Lib.itoa;rw [ByteArray.size_mk',List.size_toArray];split
 ·simp [Lib.decDigits_length];omega
 ·rw [Lib.decDigits_length,show n.toNat=n.natAbs from by omega];omega
def yd(x:Entry):ByteArray:=zm x.day ++ ⟨#[32]⟩ ++ x.what ++ ⟨#[32]⟩ ++ zm x.value
theorem uo{x:Entry}(h:xa x=true):0<=x.day/\x.day<=100000/\ -1000000<=x.value/\x.value<=1000000/\x.what.size<=12:=by
 simp only [xa,Bool.and_eq_true,inB_iff] at h;have h2:=h.1.2;simp only [zo,sV,Bool.and_eq_true,decide_eq_true_eq,zu] at h2;omega
theorem sR(g:Addr)(x:Entry)(hx:xa x=true)(w:World)(c0:w.cell? g=some (.int .i64 x.day))(c1:w.cell? ⟨g.block,g.off + 1,none⟩=some (.string x.what))(c2:w.cell? ⟨g.block,g.off + 2,none⟩=some (.int .i64 x.value)) :
 Calls prog 174 #[.pointer (some g)] w (Ret (.string (yd x)) w):=by
 obtain ⟨d0,d1,v0,v1,ws⟩:=uo hx;have sa:=wk x.day;have sb:=wk x.value;have hadd1:=fun (w:World)=>run_string_add_sum (P:=prog) w (zm x.day) ⟨#[32]⟩ (by rw [show (ByteArray.mk #[32]).size=1 from rfl];omega);have hadd2:=fun (w:World)=>run_string_add_sum (P:=prog) w (zm x.day ++ ⟨#[32]⟩) x.what (by rw [ByteArray.size_append',show (ByteArray.mk #[32]).size=1 from rfl];omega)
 have hadd3:=fun (w:World)=>run_string_add_sum (P:=prog) w (zm x.day ++ ⟨#[32]⟩ ++ x.what) ⟨#[32]⟩ (by rw [ByteArray.size_append',ByteArray.size_append',show (ByteArray.mk #[32]).size=1 from rfl];omega);have hadd4:=fun (w:World)=>run_string_add_sum (P:=prog) w (zm x.day ++ ⟨#[32]⟩ ++ x.what ++ ⟨#[32]⟩) (zm x.value) (by rw [ByteArray.size_append',ByteArray.size_append',ByteArray.size_append',show (ByteArray.mk #[32]).size=1 from rfl];omega);clear sa sb ws;clear hx;have hv:=Below.refl w.heap.size w;go_in;go_wp2_with fail
 go_region_held3 (fun w'=>Below w.heap.size w w'/\w'.cell? g=some (.int .i64 x.day)/\w'.cell? ⟨g.block,g.off + 1,none⟩=some (.string x.what)/\w'.cell? ⟨g.block,g.off + 2,none⟩=some (.int .i64 x.value))
  (first | exact ⟨hv.drew,c0,c1,c2⟩ | (go_split_ands;exact ⟨za (by assumption) hb,zb hb (by assumption),zb hb (by assumption),zb hb (by assumption)⟩))
  (first | (go_at_call 165;refine (xh _ (by omega) (by omega) _).mono ?_;rintro e W ⟨rfl,hb⟩))
 go_split_ands;go_wp2;go_returns;exact Ret.mk (vs (by rw [yd])) (by assumption)
theorem oN(x:Entry)(hx:xa x=true)(w:World)(hT:Pow10 w) :
 Calls prog 89 #[.agg #[.int .i64 x.day,.string x.what,.int .i64 x.value]] w (Ret (.string (yd x)) w):=by
 obtain ⟨d0,d1,v0,v1,ws⟩:=uo hx;have sa:=wk x.day;have sb:=wk x.value;have hadd1:=fun (w:World)=>run_string_add_sum (P:=prog) w (zm x.day) ⟨#[32]⟩ (by rw [show (ByteArray.mk #[32]).size=1 from rfl];omega);have hadd2:=fun (w:World)=>run_string_add_sum (P:=prog) w (zm x.day ++ ⟨#[32]⟩) x.what (by rw [ByteArray.size_append',show (ByteArray.mk #[32]).size=1 from rfl];omega)
 have hadd3:=fun (w:World)=>run_string_add_sum (P:=prog) w (zm x.day ++ ⟨#[32]⟩ ++ x.what) ⟨#[32]⟩ (by rw [ByteArray.size_append',ByteArray.size_append',show (ByteArray.mk #[32]).size=1 from rfl];omega);have hadd4:=fun (w:World)=>run_string_add_sum (P:=prog) w (zm x.day ++ ⟨#[32]⟩ ++ x.what ++ ⟨#[32]⟩) (zm x.value) (by rw [ByteArray.size_append',ByteArray.size_append',ByteArray.size_append',show (ByteArray.mk #[32]).size=1 from rfl];omega);clear sa sb ws;clear hx;have HT:=qH hT;clear hT;go_in;go_wp2_with fail;obtain ⟨W0,hW0⟩:=zN (w.alloc (Obj.cells #[.int .i64 x.day,.string x.what,.int .i64 x.value] 141));obtain ⟨g,hg⟩:=zN w.heap.size;have hv:Below w.heap.size w W0:=by rw [hW0];exact zc (Below.refl _ _) _
 have hB0:Blk W0 g 141 #[.int .i64 x.day,.string x.what,.int .i64 x.value]:=by rw [hW0,hg];exact Blk.new _ _ _
 rw [<-hW0,<-hg];clear hW0 hg;obtain ⟨c0,c1,c2⟩:=qC3 hB0
 go_region_held3 (fun w'=>Below w.heap.size w w'/\w'.cell? ⟨g,0,none⟩=some (.int .i64 x.day)/\w'.cell? ⟨g,1,none⟩=some (.string x.what)/\w'.cell? ⟨g,2,none⟩=some (.int .i64 x.value))
  (first | exact ⟨hv.drew,c0,c1,c2⟩ | (go_split_ands;exact ⟨za (by assumption) hb,zb hb (by assumption),zb hb (by assumption),zb hb (by assumption)⟩))
  (first | (go_at_call 38;go_split_ands;refine (xp _ (by omega) (by omega) _ (HT.out.below (by assumption))).mono ?_;rintro e W ⟨rfl,hb⟩))
 go_split_ands;go_wp2;go_returns;exact Ret.mk (vs (by rw [yd])) (by assumption)
def td:List UInt8->Int->Int
 | [],s=>s
 | b :: r,s=>td r ((37 * s + (b.toNat:Int)) % 65519)
def tI(before:Int)(s:ByteArray):Int:=td s.data.toList ((before + 29) % 65519)
theorem mA{s:ByteArray}{k:Nat}(h:k < s.size)(a:Int):td (s.data.toList.drop k) a=td (s.data.toList.drop (k + 1)) ((37 * a + (s[k].toNat:Int)) % 65519):=by
 rw [yM (xU h)];rfl
theorem nZ(before:Int)(s:ByteArray)(h0:0<=before)(h1:before<=65518)(hs:s.size<=9223372036854775807)(w:World) :
 Calls prog 232 #[.int .i64 before,.string s] w (RetQ (.int .i64 (tI before s)) w):=by
 go_in;go_wp2_with fail
 go_loop [5,6] (fun sm i=>∃ (k:Nat) (a:Int),k<=s.size/\i=.int .i64 k/\sm=.int .i64 a/\0<=a/\a < 65519/\Hid (tI before s=td (s.data.toList.drop k) a)) (fun _ i=>s.size - (intOf i).toNat)
 case atStart=>exact ⟨0,(before + 29) % 65519,by omega,rfl,rfl,by omega,by omega,qH rfl⟩
 case round=>
  obtain ⟨k,a,hk,rfl,rfl,ha0,ha1,hR⟩:=hrel;by_cases hlt:k < s.size
  · have hR2:=qH (hR.out.trans (mA hlt a));have hb:(s[k].toNat:Int)<=255:=by have:=s[k].toNat_lt;omega
    clear hR;go_wp2_with fail;exact ⟨⟨k + 1,_,by omega,by go_num,rfl,by omega,by omega,hR2⟩,by simp [intOf];omega⟩
  ·have hR2:=qH (hR.out.trans (by rw [List.drop_eq_nil_of_le (by rw [zu];omega)];rfl:_=a));clear hR;go_wp2;go_returns;exact RetQ.mk (vi hR2.out.symm)
theorem rU(before:Int)(x:Entry)(h0:0<=before)(h1:before<=65518)(hx:xa x=true)(w:World)(hT:Pow10 w) :
 Calls prog 146 #[.int .i64 before,.agg #[.int .i64 x.day,.string x.what,.int .i64 x.value]] w (Ret (.int .i64 (tI before (yd x))) w):=by
 have hsz:(yd x).size<=9223372036854775807:=by
  obtain ⟨d0,d1,v0,v1,ws⟩:=uo hx;have sa:=wk x.day;have sb:=wk x.value;unfold yd;rw [ByteArray.size_append',ByteArray.size_append',ByteArray.size_append',ByteArray.size_append',show (ByteArray.mk #[32]).size=1 from rfl];omega
 have HT:=qH hT;have hwd:=fun w hT=>oN x hx w hT;obtain ⟨s,hs⟩:=zN (yd x);rw [<-hs] at hwd hsz |-;replace hwd:=qH hwd;clear hT hs hx;go_in;go_wp2_with fail;refine qS (hwd.out _ (HT.out.below (zc (Below.refl _ _) _))) fun W hb=>?_;have hv:Below w.heap.size w W:=za (zc (Below.refl _ _) _) hb;go_wp2_with fail
 go_loop [5,15] (fun sm i=>∃ (k:Nat) (a:Int),k<=s.size/\i=.int .i64 k/\sm=.int .i64 a/\0<=a/\a < 65519/\Hid (tI before s=td (s.data.toList.drop k) a)) (fun _ i=>s.size - (intOf i).toNat)
 case atStart=>exact ⟨0,(before + 29) % 65519,by omega,rfl,rfl,by omega,by omega,qH rfl⟩
 case round=>
  obtain ⟨k,a,hk,rfl,rfl,ha0,ha1,hR⟩:=hrel;by_cases hlt:k < s.size
  · have hR2:=qH (hR.out.trans (mA hlt a));have hb:(s[k].toNat:Int)<=255:=by have:=s[k].toNat_lt;omega
    clear hR;go_wp2_with fail;exact ⟨⟨k + 1,_,by omega,by go_num,rfl,by omega,by omega,hR2⟩,by simp [intOf];omega⟩
  ·have hR2:=qH (hR.out.trans (by rw [List.drop_eq_nil_of_le (by rw [zu];omega)];rfl:_=a));clear hR;go_wp2;go_returns;exact Ret.mk (vi hR2.out.symm) hv
def stp(s:Int)(x:Entry):Int:=tI s (yd x)
def yI(s:Int)(x:Entry):ByteArray:=yd x ++ ⟨#[32]⟩ ++ zm s ++ ⟨#[10]⟩
theorem dU:∀ (l:List UInt8) (s:Int),0<=s->s<=65518->0<=td l s/\td l s<=65518:=by
 intro l
 induction l with
 | nil=>intro s h0 h1;exact ⟨h0,h1⟩
 | cons b r ih=>intro s h0 h1;exact ih _ (by omega) (by omega)
theorem rB(s:Int)(x:Entry):0<=stp s x/\stp s x<=65518:=dU _ _ (by omega) (by omega)
theorem vA{x:Entry}(h:xa x=true):(yd x).size<=1100100:=by
 obtain ⟨d0,d1,v0,v1,ws⟩:=uo h;have sa:=wk x.day;have sb:=wk x.value;unfold yd;rw [ByteArray.size_append',ByteArray.size_append',ByteArray.size_append',ByteArray.size_append',show (ByteArray.mk #[32]).size=1 from rfl];omega
theorem qZ{x:Entry}(h:xa x=true)(s:Int)(h0:0<=s)(h1:s<=65518):(yI s x).size<=1200000:=by
 have a:=vA h;have b:=wk s;unfold yI;rw [ByteArray.size_append',ByteArray.size_append',ByteArray.size_append',show (ByteArray.mk #[32]).size=1 from rfl,show (ByteArray.mk #[10]).size=1 from rfl];omega
def zZ(l:List UInt8):Nat:=(l.takeWhile (fun b=>b != 10)).length
def vU(w:List UInt8):Option (Entry × Int):=
 match spl 32 w with
 | [a,b,c,d]=>if (okN a && okN c && okN d && xa ⟨xk a,⟨b.toArray⟩,xk c⟩)=true then some (⟨xk a,⟨b.toArray⟩,xk c⟩,xk d) else none
 | _=>none
def xx(es:List Entry):Int:=match es.getLast? with
 | none=>0
 | some e=>e.day
def xP(l:List UInt8)(es:List Entry)(st:Int):Option (Entry × Nat):=
 if zZ l < l.length then
  match vU (l.take (zZ l)) with
  | some (e,s)=>if xx es<=e.day/\stp st e=s then some (e,zZ l + 1) else none
  | none=>none
 else none
def rdF(l:List UInt8):Nat->List Entry->Int->Nat->List Entry × Int × Nat
 | 0,es,st,n=>(es,st,n)
 | f + 1,es,st,n=>match xP (l.drop n) es st with
   | none=>(es,st,n)
   | some (e,m)=>rdF l f (es ++ [e]) (stp st e) (n + m)
def rdL(s:ByteArray):List Entry × Int × Nat:=rdF s.data.toList (s.size + 1) [] 0 0
structure Good (s:ByteArray) (es:List Entry) (st:Int) (n:Nat):Prop where
 le:n<=s.size
 few:es.length<=n
 ent:∀ e ∈ es,xa e=true
 s0:0<=st
 s1:st<=65518
theorem Good.nil(s:ByteArray):Good s [] 0 0:=⟨by omega,by simp,by simp,by omega,by omega⟩
theorem zcB(l:List UInt8):zZ l<=l.length:=by
 unfold zZ;exact (List.takeWhile_prefix _).length_le
theorem ss(b:UInt8)(r:List UInt8):zZ (b :: r)=if b=10 then 0 else zZ r + 1:=by
 unfold zZ;rw [List.takeWhile_cons];by_cases h:b=10
 ·simp [h]
 · have:(b != 10)=true:=by simpa using h
   simp [this,h]
theorem mR:∀ l:List UInt8,zZ l < l.length->l[zZ l]?=some 10:=by
 intro l
 induction l with
 | nil=>intro h;simp at h
 | cons b r ih=>
   intro h;rw [ss] at h |-;split
   ·rename_i hb;simp [hb]
   ·rename_i hb;rw [if_neg hb] at h;rw [List.getElem?_cons_succ];exact ih (by simpa using h)
theorem fU:∀ (l:List UInt8) (j:Nat) (b:UInt8),j < zZ l->l[j]?=some b->b≠10:=by
 intro l
 induction l with
 | nil=>intro j b h;simp [zZ] at h
 | cons c r ih=>
   intro j b h hb;rw [ss] at h;split at h
   ·omega
   · rename_i hc;cases j with
     | zero=>simp at hb;subst hb;exact hc
     | succ j=>
       rw [List.getElem?_cons_succ] at hb;exact ih j b (by omega) hb
theorem dC:∀ l:List UInt8,Lib.index l [10]=if zZ l < l.length then (zZ l:Int) else -1:=by
 intro l;rw [Lib.index_one]
 induction l with
 | nil=>simp [Lib.indexByte,zZ]
 | cons b r ih=>
   rw [Lib.indexByte,ss];by_cases h:b=10
   ·subst h;simp
   · have hb:(b == 10)=false:=by simpa using h
     rw [hb,ih,if_neg h];by_cases hk:zZ r < r.length
     · have h1:zZ r + 1 < (b :: r).length:=by rw [List.length_cons];omega
       have h2:((zZ r:Int) == -1)=false:=by rw [beq_eq_false_iff_ne];omega
       simp only [hk,h1,if_true,h2,Bool.false_eq_true,if_false];omega
     · have h1:¬ zZ r + 1 < (b :: r).length:=by rw [List.length_cons];omega
       simp only [hk,h1,if_false,Bool.false_eq_true];rfl
theorem zcS{l:List UInt8}(h:zZ l < l.length):l.take (zZ l + 1)=l.take (zZ l) ++ [10]:=by
 rw [List.take_add_one,mR l h];rfl
theorem ra{s:ByteArray}{es:List Entry}{st:Int}{n m:Nat}{e:Entry}(hg:Good s es st n)(h:xP (s.data.toList.drop n) es st=some (e,m)):Good s (es ++ [e]) (stp st e) (n + m)/\1<=m:=by
 unfold xP at h;split at h
 · rename_i hk;split at h
   · rename_i e' s' hl;split at h
     · rename_i hc;simp only [Option.some.injEq,Prod.mk.injEq] at h;obtain ⟨rfl,rfl⟩:=h;have hl2:(s.data.toList.drop n).length=s.size - n:=by rw [List.length_drop,zu]
       have he:xa e'=true:=by
        unfold vU at hl;split at hl
        · split at hl
          ·rename_i hq;simp only [Option.some.injEq,Prod.mk.injEq] at hl;simp only [Bool.and_eq_true] at hq;rw [<-hl.1];exact hq.2
          ·cases hl
        ·cases hl
       refine ⟨⟨by have:=hg.le;omega,by have:=hg.few;simp;omega,?_,(rB st e').1,(rB st e').2⟩,by omega⟩;intro x hx;rcases List.mem_append.1 hx with h1 | h1
       ·exact hg.ent x h1
       ·simp at h1;subst h1;exact he
     ·cases h
   ·cases h
 ·cases h
theorem nD{l:List UInt8}{f:Nat}{es:List Entry}{st:Int}{n m:Nat}{e:Entry}(h:xP (l.drop n) es st=some (e,m)):rdF l (f + 1) es st n=rdF l f (es ++ [e]) (stp st e) (n + m):=by
 rw [rdF,h]
theorem tY{l:List UInt8}{f:Nat}{es:List Entry}{st:Int}{n:Nat}(h:xP (l.drop n) es st=none):rdF l f es st n=(es,st,n):=by
 cases f with
 | zero=>rfl
 | succ f=>rw [rdF,h]
theorem zbp{s:ByteArray}:∀ (f:Nat) (es:List Entry) (st:Int) (n:Nat),Good s es st n->Good s (rdF s.data.toList f es st n).1 (rdF s.data.toList f es st n).2.1 (rdF s.data.toList f es st n).2.2:=by
 intro f
 induction f with
 | zero=>intro es st n h;exact h
 | succ f ih=>
   intro es st n h;rw [rdF];split
   ·exact h
   ·rename_i e m hs;exact ih _ _ _ (ra h hs).1
theorem vO(s:ByteArray):Good s (rdL s).1 (rdL s).2.1 (rdL s).2.2:=zbp _ _ _ _ (Good.nil s)
theorem ua(a b:ByteArray):(a ++ b).data.toList=a.data.toList ++ b.data.toList:=by
 rw [ByteArray.data_append,Array.toList_append]
theorem zcy{w a b c d:List UInt8}(h:spl 32 w=[a,b,c,d])(ha:okN a=true)(hc:okN c=true){st:Int}(h0:0<=st)(h1:st<=65518) :
 (yI st ⟨xk a,⟨b.toArray⟩,xk c⟩).data.toList=w ++ [10] ↔ (okN d=true/\xk d=st):=by
 have hw:=zbx h;have ea:=(okN_iff.1 ha).2.2.2;have ec:=(okN_iff.1 hc).2.2.2;have e1:(yI st ⟨xk a,⟨b.toArray⟩,xk c⟩).data.toList=a ++ 32 :: (b ++ 32 :: (c ++ 32 :: (Lib.itoa st ++ [10]))):=by
  simp only [yI,yd,zm,ua,ea,ec];simp
 rw [e1,hw];simp only [List.append_assoc,List.cons_append,List.append_cancel_left_eq,List.cons.injEq,true_and];constructor
 ·intro e;have e2:Lib.itoa st=d:=List.append_cancel_right e;rw [<-e2];exact ⟨uf (by omega) (by omega),(xr st).2⟩
 ·rintro ⟨hd,rfl⟩;rw [(okN_iff.1 hd).2.2.2]
theorem nz{es:List Entry}{x:Entry}{n:Nat}(hn:es.length=n + 1)(h:es[n]?=some x):xx es=x.day:=by
 unfold xx;rw [List.getLast?_eq_getElem?,hn,Nat.add_sub_cancel,h]
theorem zX{P:Program}{fn:Func}{p u u':Tmp}{ty:TypeId}(h:fn.results=#[.cell p ty,.tmp u,.tmp u'])(tmps:Array Value)(w:World)(g:Nat)(t:TypeId)(cs:Array Value)(fr:Nat × Nat)(d:TypeDesc)(hp:tmps.getD p undef=.pointer (some ⟨g,0,none⟩))(hg:w.heap[g]?=some (.cells cs t fr))(hu:P.underlying ty=some d)(hd:(match d with | .struct _ | .array _ _=>true | _=>false)=true)(hi:(P.info? ty).map (·.size)=some cs.size) :
 (results fn tmps).run P w=.ok (.tuple #[.agg cs,tmps.getD u undef,tmps.getD u' undef]) w:=by
 have hp':tmps[p]?.getD undef=.pointer (some ⟨g,0,none⟩):=by simpa using hp
 simp only [results,h];simp [Result.andThen,hp',asAddr,run_loadVar_row w g t ty cs fr d hg hu hd hi]
def wM(s:ByteArray):List ByteArray:=(spl 32 s.data.toList).map (fun l=>⟨l.toArray⟩)
theorem vI(s:ByteArray):(⟨s.data.toList.toArray⟩:ByteArray)=s:=by cases s;simp
theorem zcN(s:ByteArray):Lib.splitB ⟨#[32]⟩ 0 (Lib.countB s ⟨#[32]⟩) s=wM s:=by
 have h:=Lib.splitB_data ⟨#[32]⟩ 0 (Lib.countB s ⟨#[32]⟩) s;have e:Lib.countB s ⟨#[32]⟩=Lib.count s.data.toList [32]:=rfl;rw [show (ByteArray.mk #[32]).data.toList=[32] from rfl,e,mx] at h;unfold wM;rw [<-h,List.map_map,e]
 conv=>lhs;rw [<-List.map_id (Lib.splitB ⟨#[32]⟩ 0 (Lib.count s.data.toList [32]) s)]
 exact List.map_congr_left fun x _=>(vI x).symm
theorem zbu(s:ByteArray):(wM s).length=Lib.countB s ⟨#[32]⟩ + 1:=by
 unfold wM;rw [List.length_map,qo];have e:Lib.countB s ⟨#[32]⟩=Lib.count s.data.toList [32]:=rfl;rw [e,Lib.count_one]
theorem zcM(s:ByteArray):(wM s).length<=s.size + 1:=by
 unfold wM;rw [List.length_map,qo];have:=List.count_le_length (a:=(32:UInt8)) (l:=s.data.toList);rw [zu] at this;omega
theorem zbB{c:UInt8}:∀ (l x:List UInt8),x ∈ spl c l->x.length<=l.length:=by
 intro l
 induction l with
 | nil=>intro x h;simp [spl] at h;subst h;simp
 | cons b r ih=>
   intro x h;simp only [spl] at h;split at h
   · rcases List.mem_cons.1 h with h | h
     ·subst h;simp
     ·have:=ih x h;simp only [List.length_cons];omega
   · cases hs:spl c r with
     | nil=>exact absurd hs (uk c r)
     | cons a t=>
       rw [hs] at h ih;simp only [wL] at h;rcases List.mem_cons.1 h with h | h
       ·subst h;have:=ih a (by simp);simp only [List.length_append,List.length_cons,List.length_nil];omega
       ·have:=ih x (List.mem_cons_of_mem _ h);simp only [List.length_cons];omega
theorem vH{s x:ByteArray}(h:x ∈ wM s):x.size<=s.size:=by
 unfold wM at h;obtain ⟨l,hl,rfl⟩:=List.mem_map.1 h;have h1:=zbB _ _ hl;rw [zu] at h1;rw [show (ByteArray.mk l.toArray).size=l.length from by simp only [ByteArray.size,List.size_toArray]];exact h1
theorem ci(s:ByteArray)(hs:s.size<=4000000000)(w:World)(hT:Tabs w):Calls prog 27 #[.string s,.string ⟨#[32]⟩] w fun e w'=>e=.returned (.slice (some ⟨w.heap.size,0,none⟩) (wM s).length (wM s).length)/\w'=w.alloc (.cells ((wM s).map Value.string).toArray 9):=by
 obtain ⟨m,hm⟩:=hT.len;have h:=Tryz.strings_Split s ⟨#[32]⟩ m w (by omega) hm (by decide);rw [<-zbu,zcN] at h;exact h
def zdy(s:ByteArray)(w:World)(e:Ending)(w':World):Prop:=
 ∃ (x:Entry) (st:Int) (ok:Bool),e=.returned (.tuple #[.agg #[.int .i64 x.day,.string x.what,.int .i64 x.value],.int .i64 st,.bool ok])/\x.what.size<=s.size /\
  (-1000000000000000000 < x.day/\x.day < 1000000000000000000)/\(-1000000000000000000 < st/\st < 1000000000000000000)/\vU s.data.toList=(if ok=true then some (x,st) else none)/\Below w.heap.size w w'
theorem fS{s:ByteArray}(h:(wM s).length≠4):vU s.data.toList=none:=by
 unfold vU;split
 ·rename_i a b c d hs;exfalso;apply h;unfold wM;rw [hs];rfl
 ·rfl
theorem lJ{s a b c d:ByteArray}(h:wM s=[a,b,c,d]):vU s.data.toList=(if (okN a.data.toList && okN c.data.toList && okN d.data.toList && xa ⟨zq a,b,zq c⟩)=true then some (⟨zq a,b,zq c⟩,zq d) else none):=by
 have hs:spl 32 s.data.toList=[a.data.toList,b.data.toList,c.data.toList,d.data.toList]:=by
  have h1:(wM s).map (·.data.toList)=spl 32 s.data.toList:=by
   unfold wM;rw [List.map_map]
   conv=>rhs;rw [<-List.map_id (spl 32 s.data.toList)]
   exact List.map_congr_left fun x _=>by simp
  rw [<-h1,h];rfl
 unfold vU;rw [hs];simp only [];cases ha:okN a.data.toList
 ·simp
 cases hc:okN c.data.toList
 ·simp
 cases hd:okN d.data.toList
 ·simp
 rw [xe ha,xe hc,xe hd,vI]
theorem fE{s:ByteArray}(h:(wM s).length=4):∃ a b c d,wM s=[a,b,c,d]:=by
 match hs:wM s,h with
 | [a,b,c,d],_=>exact ⟨a,b,c,d,rfl⟩
theorem dN(s:ByteArray)(hs:s.size<=1048576)(w:World)(hT:Tabs w):Calls prog 145 #[.string s] w (zdy s w):=by
 have HT:=qH hT;have hle:=zcM s;clear hT;go_in;go_wp2_with fail;have hv:=zc (Below.refl w.heap.size w) (Obj.cells #[.int .i64 0,.string ⟨#[]⟩,.int .i64 0] 141);have hR:=Blk.new w 141 #[Value.int .i64 0,Value.string ⟨#[]⟩,Value.int .i64 0];refine qS (ci s (by omega) _ (HT.out.below hv)) fun W hW=>?_;have hv1:=zc hv (Obj.cells ((wM s).map Value.string).toArray 9);have hS:=Blk.new (w.alloc (Obj.cells #[.int .i64 0,.string ⟨#[]⟩,.int .i64 0] 141)) 9 ((wM s).map Value.string).toArray;replace hR:=hR.alloc (Obj.cells ((wM s).map Value.string).toArray 9);rw [<-hW] at hv1 hS hR;obtain ⟨gS,hgS⟩:=zN ((w.alloc (Obj.cells #[.int .i64 0,.string ⟨#[]⟩,.int .i64 0] 141)).heap.size);have hgS1:w.heap.size < gS:=by rw [hgS];simp
 obtain ⟨gR,hgR⟩:=zN w.heap.size;rw [<-hgS] at hS |-;have hgR1:w.heap.size<=gR:=by omega
 have hne:gR≠gS:=by omega
 rw [<-hgR] at hR;have HGR:=qH hgR;clear hW hgS hv;by_cases h4:(wM s).length=4
 case neg=>
  have HL:=qH (fS h4);have h4':¬ ((wM s).length:Int)=4:=by omega
  obtain ⟨r0,r1,r2⟩:=qC3 hR;have f0:=hR.frozen 0;have f1:=hR.frozen 1;have f2:=hR.frozen 2;generalize (wM s).length=n at h4 h4' hle |-;rw [<-hgR];clear hgR;go_wp2_with fail;refine bodyPost_ret (zX (P:=prog) rfl _ _ gR 141 #[Value.int .i64 0,Value.string ⟨#[]⟩,Value.int .i64 0] (0,0) _ rfl ?_ underlying141 rfl (by kernel_rfl)) rfl ?_
  ·exact ((hR.set_ 0 _).set_ 1 _).set_ 2 _
  ·exact ⟨⟨0,⟨#[]⟩,0⟩,0,false,rfl,Nat.zero_le _,by simp,by simp,by rw [HL.out];rfl,zk (zk (zk hv1 hgR1 _) hgR1 _) hgR1 _⟩
 obtain ⟨a,b,c,d,hq⟩:=fE h4;have hsa:=vH (s:=s) (x:=a) (by rw [hq];simp);have hsb:=vH (s:=s) (x:=b) (by rw [hq];simp);have hsc:=vH (s:=s) (x:=c) (by rw [hq];simp);have hsd:=vH (s:=s) (x:=d) (by rw [hq];simp);have HL:=qH (lJ hq);have hS2:Blk W gS 9 #[.string a,.string b,.string c,.string d]:=by rw [hq] at hS;exact hS
 rw [hq];simp only [List.length_cons,List.length_nil];clear hS hq h4 hle;obtain ⟨ba0,ba1⟩:=qk a;obtain ⟨bc0,bc1⟩:=qk c;obtain ⟨bd0,bd1⟩:=qk d;have HA:=qH (fun w hT=>xO a (by omega) w hT);have HC:=qH (fun w hT=>xO c (by omega) w hT);have HD:=qH (fun w hT=>xO d (by omega) w hT);obtain ⟨oa,hoa⟩:=zN (okN a.data.toList);obtain ⟨oc,hoc⟩:=zN (okN c.data.toList);obtain ⟨od,hod⟩:=zN (okN d.data.toList);obtain ⟨na,hna⟩:=zN (zq a);obtain ⟨nc,hnc⟩:=zN (zq c);obtain ⟨nd,hnd⟩:=zN (zq d);rw [<-hoa,<-hna] at HA;rw [<-hoc,<-hnc] at HC;rw [<-hod,<-hnd] at HD;rw [<-hoa,<-hoc,<-hod,<-hna,<-hnc,<-hnd] at HL;rw [<-hna] at ba0 ba1;rw [<-hnc] at bc0 bc1;rw [<-hnd] at bd0 bd1;clear hoa hoc hod hna hnc hnd;rw [<-hgR];clear hgR;have s0:=yc0 hS2;go_wp2_with fail;refine qS (HA.out _ (HT.out.below hv1)) fun W2 hb=>?_;replace hv1:=za hv1 hb;replace hR:=hR.below hb;replace hS2:=hS2.below hb;clear hb s0;have s2:=yc2 hS2;go_wp2_with fail;refine qS (HC.out _ (HT.out.below hv1)) fun W3 hb=>?_;replace hv1:=za hv1 hb;replace hR:=hR.below hb;replace hS2:=hS2.below hb;clear hb s2;have s3:=yc3 hS2;go_wp2_with fail;refine qS (HD.out _ (HT.out.below hv1)) fun W4 hb=>?_;replace hv1:=za hv1 hb;replace hR:=hR.below hb;replace hS2:=hS2.below hb;clear hb s3;have s1:=yc1 hS2;obtain ⟨W5,hW5⟩:=zN (W4.alloc (Obj.cells #[.int .i64 na,.string b,.int .i64 nc] 141));obtain ⟨gE,hgE⟩:=zN W4.heap.size;have hE:Blk W5 gE 141 #[.int .i64 na,.string b,.int .i64 nc]:=by rw [hW5,hgE];exact Blk.new _ _ _
 have hb:Below W4.heap.size W4 W5:=by rw [hW5];exact zc (Below.refl _ _) _
 have hgE1:gR≠gE:=by have:=hR.lt;omega
 go_wp2_with fail;rw [<-hW5,<-hgE];clear hW5 hgE s1;replace hv1:=za hv1 hb;replace hR:=hR.below hb;clear hb hS2;replace hv1:Below w.heap.size w W5.drew:=hv1.drew;replace hR:=hR.below (Below.refl W5.heap.size W5).drew;have hE2:=hE.below (Below.refl W5.heap.size W5).drew;cases oa
 · refine zH (fun w'=>Blk w' gE 141 #[Value.int .i64 na,Value.string b,Value.int .i64 nc]) ?_ (fun hHeld=>?_)
   ·exact hE2
   refine zT 0 46 rfl (fun w hSw=>by
    obtain ⟨k0,k1,k2⟩:=qC3 hSw;go_simp;try with_reducible rfl) ?_
   refine zU 1 47 ?_;refine zU 2 48 ?_;refine zU 3 49 ?_;refine zS 4 50 ?_;refine zU 5 51 ?_;refine zU 6 52 ?_;refine zS 7 53 ?_;refine zU 8 54 ?_;refine zU 9 55 ?_;refine zS 10 56 ?_;refine zS 11 57 ?_;refine zU 12 58 ?_;have f0:W5.frozen? ⟨gR,0,none⟩=false:=hR.frozen 0;have r0:W5.cell? ⟨gR,0,none⟩=some (.int .i64 0):=hR.cell 0;have f1:W5.frozen? ⟨gR,1,none⟩=false:=hR.frozen 1;have r1:W5.cell? ⟨gR,1,none⟩=some (.string ⟨#[]⟩):=hR.cell 1;have f2:W5.frozen? ⟨gR,2,none⟩=false:=hR.frozen 2;have r2:W5.cell? ⟨gR,2,none⟩=some (.int .i64 0):=hR.cell 2;refine zR 13 none rfl (fun K hK=>?_);go_simp;go_split_ands;have hR2:=((hR.set_ 0 (.int .i64 na)).set_ 1 (.string b)).set_ 2 (.int .i64 nc);have hv2:=zk (zk (zk hv1 (p:=⟨gR,0,none⟩) hgR1 (.int .i64 na)) (p:=⟨gR,1,none⟩) hgR1 (.string b)) (p:=⟨gR,2,none⟩) hgR1 (.int .i64 nc);refine hK.out _ _ ?_ (fun hHeld=>?_)
   ·(try dsimp only);go_split_ands;exact ((hE2.far hgE1.symm _).far hgE1.symm _).far hgE1.symm _
   clear hK K;(try simp only [Act.put]);refine zU 14 3 ?_;refine zU 15 4 ?_;refine zD ?_;go_wp2_with fail;refine bodyPost_ret (zX (P:=prog) rfl _ _ gR 141 _ (0,0) _ rfl hR2 underlying141 rfl (by kernel_rfl)) rfl ?_;exact ⟨⟨na,b,nc⟩,nd,false,rfl,hsb,⟨ba0,ba1⟩,⟨bd0,bd1⟩,by rw [HL.out];rfl,hv2⟩
 cases oc
 · refine zH (fun w'=>Blk w' gE 141 #[Value.int .i64 na,Value.string b,Value.int .i64 nc]) ?_ (fun hHeld=>?_)
   ·exact hE2
   refine zT 0 46 rfl (fun w hSw=>by
    obtain ⟨k0,k1,k2⟩:=qC3 hSw;go_simp;try with_reducible rfl) ?_
   refine zU 1 47 ?_;refine zU 2 48 ?_;refine zU 3 49 ?_;refine zU 4 50 ?_;refine zU 5 51 ?_;refine zU 6 52 ?_;refine zS 7 53 ?_;refine zU 8 54 ?_;refine zU 9 55 ?_;refine zS 10 56 ?_;refine zS 11 57 ?_;refine zU 12 58 ?_;have f0:W5.frozen? ⟨gR,0,none⟩=false:=hR.frozen 0;have r0:W5.cell? ⟨gR,0,none⟩=some (.int .i64 0):=hR.cell 0;have f1:W5.frozen? ⟨gR,1,none⟩=false:=hR.frozen 1;have r1:W5.cell? ⟨gR,1,none⟩=some (.string ⟨#[]⟩):=hR.cell 1;have f2:W5.frozen? ⟨gR,2,none⟩=false:=hR.frozen 2;have r2:W5.cell? ⟨gR,2,none⟩=some (.int .i64 0):=hR.cell 2;refine zR 13 none rfl (fun K hK=>?_);go_simp;go_split_ands;have hR2:=((hR.set_ 0 (.int .i64 na)).set_ 1 (.string b)).set_ 2 (.int .i64 nc);have hv2:=zk (zk (zk hv1 (p:=⟨gR,0,none⟩) hgR1 (.int .i64 na)) (p:=⟨gR,1,none⟩) hgR1 (.string b)) (p:=⟨gR,2,none⟩) hgR1 (.int .i64 nc);refine hK.out _ _ ?_ (fun hHeld=>?_)
   ·(try dsimp only);go_split_ands;exact ((hE2.far hgE1.symm _).far hgE1.symm _).far hgE1.symm _
   clear hK K;(try simp only [Act.put]);refine zU 14 3 ?_;refine zU 15 4 ?_;refine zD ?_;go_wp2_with fail;refine bodyPost_ret (zX (P:=prog) rfl _ _ gR 141 _ (0,0) _ rfl hR2 underlying141 rfl (by kernel_rfl)) rfl ?_;exact ⟨⟨na,b,nc⟩,nd,false,rfl,hsb,⟨ba0,ba1⟩,⟨bd0,bd1⟩,by rw [HL.out];rfl,hv2⟩
 cases od
 · refine zH (fun w'=>Blk w' gE 141 #[Value.int .i64 na,Value.string b,Value.int .i64 nc]) ?_ (fun hHeld=>?_)
   ·exact hE2
   refine zT 0 46 rfl (fun w hSw=>by
    obtain ⟨k0,k1,k2⟩:=qC3 hSw;go_simp;try with_reducible rfl) ?_
   refine zU 1 47 ?_;refine zU 2 48 ?_;refine zU 3 49 ?_;refine zU 4 50 ?_;refine zU 5 51 ?_;refine zU 6 52 ?_;refine zU 7 53 ?_;refine zU 8 54 ?_;refine zU 9 55 ?_;refine zS 10 56 ?_;refine zS 11 57 ?_;refine zU 12 58 ?_;have f0:W5.frozen? ⟨gR,0,none⟩=false:=hR.frozen 0;have r0:W5.cell? ⟨gR,0,none⟩=some (.int .i64 0):=hR.cell 0;have f1:W5.frozen? ⟨gR,1,none⟩=false:=hR.frozen 1;have r1:W5.cell? ⟨gR,1,none⟩=some (.string ⟨#[]⟩):=hR.cell 1;have f2:W5.frozen? ⟨gR,2,none⟩=false:=hR.frozen 2;have r2:W5.cell? ⟨gR,2,none⟩=some (.int .i64 0):=hR.cell 2;refine zR 13 none rfl (fun K hK=>?_);go_simp;go_split_ands;have hR2:=((hR.set_ 0 (.int .i64 na)).set_ 1 (.string b)).set_ 2 (.int .i64 nc);have hv2:=zk (zk (zk hv1 (p:=⟨gR,0,none⟩) hgR1 (.int .i64 na)) (p:=⟨gR,1,none⟩) hgR1 (.string b)) (p:=⟨gR,2,none⟩) hgR1 (.int .i64 nc);refine hK.out _ _ ?_ (fun hHeld=>?_)
   ·(try dsimp only);go_split_ands;exact ((hE2.far hgE1.symm _).far hgE1.symm _).far hgE1.symm _
   clear hK K;(try simp only [Act.put]);refine zU 14 3 ?_;refine zU 15 4 ?_;refine zD ?_;go_wp2_with fail;refine bodyPost_ret (zX (P:=prog) rfl _ _ gR 141 _ (0,0) _ rfl hR2 underlying141 rfl (by kernel_rfl)) rfl ?_;exact ⟨⟨na,b,nc⟩,nd,false,rfl,hsb,⟨ba0,ba1⟩,⟨bd0,bd1⟩,by rw [HL.out];rfl,hv2⟩
 refine zH (fun w'=>Blk w' gE 141 #[Value.int .i64 na,Value.string b,Value.int .i64 nc]) ?_ (fun hHeld=>?_)
 ·exact hE2
 refine zT 0 46 rfl (fun w hSw=>by
  obtain ⟨k0,k1,k2⟩:=qC3 hSw;go_simp;try with_reducible rfl) ?_
 refine zU 1 47 ?_;refine zU 2 48 ?_;refine zU 3 49 ?_;refine zU 4 50 ?_;refine zU 5 51 ?_;refine zU 6 52 ?_;refine zU 7 53 ?_;refine zU 8 54 ?_;refine zU 9 55 ?_;refine zT 10 56 rfl (fun w hSw=>by
  obtain ⟨k0,k1,k2⟩:=qC3 hSw;go_simp;try with_reducible rfl) ?_
 refine zR 11 (some 57) rfl (fun K hK=>?_);go_simp;go_split_ands;refine qS (pC ⟨na,b,nc⟩ (show b.size<=_ by omega) _) fun W6 hb=>?_;replace hv1:=za hv1 hb;replace hR:=hR.below hb;replace hE2:=hE2.below hb;clear hb;go_wp2_with fail;refine zK hK hE2 (fun hHeld=>?_);clear hK K;refine zU 12 58 ?_;have f0:W6.frozen? ⟨gR,0,none⟩=false:=hR.frozen 0;have r0:W6.cell? ⟨gR,0,none⟩=some (.int .i64 0):=hR.cell 0;have f1:W6.frozen? ⟨gR,1,none⟩=false:=hR.frozen 1;have r1:W6.cell? ⟨gR,1,none⟩=some (.string ⟨#[]⟩):=hR.cell 1;have f2:W6.frozen? ⟨gR,2,none⟩=false:=hR.frozen 2;have r2:W6.cell? ⟨gR,2,none⟩=some (.int .i64 0):=hR.cell 2;refine zR 13 none rfl (fun K hK=>?_);go_simp;go_split_ands;have hR2:=((hR.set_ 0 (.int .i64 na)).set_ 1 (.string b)).set_ 2 (.int .i64 nc);have hv2:=zk (zk (zk hv1 (p:=⟨gR,0,none⟩) hgR1 (.int .i64 na)) (p:=⟨gR,1,none⟩) hgR1 (.string b)) (p:=⟨gR,2,none⟩) hgR1 (.int .i64 nc);refine hK.out _ _ ?_ (fun hHeld=>?_)
 ·(try dsimp only);go_split_ands;exact ((hE2.far hgE1.symm _).far hgE1.symm _).far hgE1.symm _
 clear hK K;try simp only [Act.put]
 refine zU 14 3 ?_;refine zU 15 4 ?_;refine zD ?_;go_wp2_with fail;refine bodyPost_ret (zX (P:=prog) rfl _ _ gR 141 _ (0,0) _ rfl hR2 underlying141 rfl (by kernel_rfl)) rfl ?_;exact ⟨⟨na,b,nc⟩,nd,xa ⟨na,b,nc⟩,rfl,hsb,⟨ba0,ba1⟩,⟨bd0,bd1⟩,by rw [HL.out];rfl,hv2⟩
end Go.Proofs.YtpiehlfffjhoaaaGreatDoor
