/- Lemmas for the law on the console: the parts LogW,SplP,StyP,StyQ. -/
import Derived.Test.YtpiehlfffjhoaaaGreatDoorQ1
import Derived.Test.YtpiehlfffjhoaaaGreatDoorQ0
import Derived.Test.YtpiehlfffjhoaaaGreatDoorQ6
import Derived.Test.YtpiehlfffjhoaaaGreatDoorQ3
import Derived.Test.YtpiehlfffjhoaaaGreatDoorQ5
namespace Go.Proofs.YtpiehlfffjhoaaaGreatDoor
open Go.RowKit
set_option maxRecDepth 100000
set_option maxHeartbeats 2000000
def cdL (s:ByteArray):Int:=if 4000 < s.size then 5 else if (rdL s).2.2≠s.size then 8 else 0
theorem oJ {s:ByteArray} (h:4000 < s.size):cdL s=5:=by unfold cdL;rw [if_pos h]
theorem ml {s:ByteArray} (h:¬ 4000 < s.size) (h2:(rdL s).2.2≠s.size):cdL s=8:=by unfold cdL;rw [if_neg h,if_pos h2]
theorem kf {s:ByteArray} (h:¬ 4000 < s.size) (h2:(rdL s).2.2=s.size):cdL s=0:=by unfold cdL;rw [if_neg h,if_neg (by simpa using h2)]
def OutR (s:ByteArray) (w:World) (e:Ending) (w':World):Prop:=
 ∃ g,e=.returned (.pointer (some ⟨g,0,none⟩))∧w.heap.size≤g∧RS s g (rdL s).1 (rdL s).2.1 (rdL s).2.2 (rdL s).1.length w.heap.size w'∧Below w.heap.size w w'
theorem OutR.mk {s:ByteArray} {w w':World} {g:Nat} {es:List Entry} {st:Int} {n m:Nat} (hr:rdL s=(es,st,n)) (hm:es.length=m) (hg:w.heap.size≤g) (hRS:RS s g es st n m w.heap.size w') (hb:Below w.heap.size w w') :
 OutR s w (.returned (.pointer (some ⟨g,0,none⟩))) w':=by
 subst hm;unfold OutR;rw [hr];exact ⟨g,rfl,hg,hRS,hb⟩
theorem cd (s:ByteArray) (hs:s.size≤1048576) (w:World):Calls Tryz.prog 147 #[.string s] w (OutR s w):=by
 go_enter Tryz.func147,Tryz.ntmps147;go_wp2_with fail;obtain ⟨W,hW⟩:=zN ((w.alloc (Obj.cells #[] 141)).alloc (Obj.cells #[.string s,.int .i64 0,.int .i64 0,.slice (some ⟨w.heap.size,0,none⟩) 0 0] 201));obtain ⟨g,hg⟩:=zN (w.heap.size + 1);have hv:Below w.heap.size w W:=by rw [hW];exact zc (zc (Below.refl _ _) _) _
 have hB:Blk W g 201 (RV s 0 0 (some ⟨w.heap.size,0,none⟩) 0 0):=by
  rw [hW,hg,show w.heap.size + 1=(w.alloc (Obj.cells #[] 141)).heap.size from by simp];exact Blk.new _ _ _
 have hown:W.ownsRow w.heap.size 141 3 (.slice (some ⟨w.heap.size,0,none⟩) 0 0) 0 (zd Entry.cells []):=by
  rw [hW];exact (zG w w.heap.size 141 3 (Nat.le_refl _)).alloc _
 have hRS:RS s g [] 0 0 0 w.heap.size W:=⟨_,_,hB,hown,fun k e=>(by
  have h1:w.heap.size=k:=by simpa [Value.ownBlock] using e
  omega)⟩
 have hgw:w.heap.size≤g:=by omega
 rw [←hW,←hg];clear hW hg hB hown;have hR0:=qH (show rdL s=rdF s.data.toList (s.size + 1) [] 0 0 from rfl)
 go_loopw [8] (fun _ wr=>∃ (es:List Entry) (st:Int) (n f m:Nat),Good s es st n∧s.size + 1≤n + f∧Hid (es.length=m)∧Hid (rdL s=rdF s.data.toList f es st n)∧RS s g es st n m w.heap.size wr∧Below w.heap.size w wr) (fun _ wr=>s.size - pP wr ⟨g,1,none⟩)
 case atStart=>exact ⟨[],0,0,s.size + 1,0,Good.nil s,by omega,qH rfl,hR0,hRS,hv⟩
 case round=>
  clear hR0 hRS hv;obtain ⟨es,st,n,f,m,hG,hf,hm,hRd,hRS,hv⟩:=hrel;have hn:=hG.le;have hmeas:Hid (pP wr ⟨g,1,none⟩=n):=by
   obtain ⟨A,c,hB,_,_⟩:=hRS;exact qH (sW (hB.cell 1))
  go_wp2_with fail;refine (zbU s hs g es st n m w.heap.size hG hm hgw _ hRS).mono ?_;rintro e W2 (⟨hS,rfl,hRS2,hb⟩ | ⟨x,k,hS,rfl,hRS2,hb⟩)
  · have HS:=qH hS;clear hS;go_wp2_with fail;go_returns;exact OutR.mk (hRd.out.trans (tJ HS.out)) hm.out hgw hRS2 (hv.trans hb)
  · have HG:=sK hG hS;obtain ⟨f',rfl⟩:∃ f',f=f' + 1:=⟨f - 1,by omega⟩
    have hR2:=qH (hRd.out.trans (oW hS));have hm2:Hid (pP W2 ⟨g,1,none⟩=n + k):=by
     obtain ⟨A,c,hB,_,_⟩:=hRS2;exact qH (sW (hB.cell 1))
    have hle:=HG.1.le;have hk1:=HG.2;clear hS;go_wp2_with fail;refine ⟨⟨es ++ [x],stp st x,n + k,f',m + 1,HG.1,by omega,qH (by rw [List.length_append,hm.out];rfl),hR2,hRS2,hv.trans hb⟩,?_⟩;have h1:=hmeas.out;have h2:=hm2.out;rw [h1,h2];omega
def zay (s:ByteArray) (w:World) (e:Ending) (w':World):Prop:=
 ∃ g,e=.returned (.tuple #[.pointer (some ⟨g,0,none⟩),.int .i64 (cdL s)])∧w.heap.size≤g∧(cdL s=0→RS s g (rdL s).1 (rdL s).2.1 (rdL s).2.2 (rdL s).1.length w.heap.size w')∧Below w.heap.size w w'
theorem pt (s:ByteArray) (hs:s.size≤1048576) (w:World):Calls Tryz.prog 90 #[.string s] w (zay s w):=by
 by_cases h4:4000 < (s.size:Int)
 · have HC:=qH (oJ (s:=s) (by omega));go_enter Tryz.func90,Tryz.ntmps90;go_wp2_with fail;go_returns;exact ⟨w.heap.size,by rw [HC.out];rfl,Nat.le_refl _,(fun h=>by rw [HC.out] at h;cases h),zc (Below.refl _ _) _⟩
 · have hd4:decide (4000 < (s.size:Int))=false:=decide_eq_false h4;have H4:=qH (show ¬ 4000 < s.size by omega);go_enter Tryz.func90,Tryz.ntmps90;go_wp2_with fail;refine (cd s hs _).mono ?_;rintro e W ⟨g,rfl,hg,hRS,hb⟩;obtain ⟨es,hes⟩:=zN ((rdL s).1);obtain ⟨st,hst⟩:=zN ((rdL s).2.1);obtain ⟨n,hn⟩:=zN ((rdL s).2.2);have HRS:=qH hRS;rw [←hes,←hst,←hn] at hRS;have HN:=qH hn;obtain ⟨A,c,hB,_,_⟩:=hRS;have k1:W.cell? ⟨g,1,none⟩=some (.int .i64 n):=hB.cell 1;clear hes hst hn hB;by_cases hq:n=s.size
   · have HC:=qH (kf (s:=s) H4.out (by rw [←HN.out];exact hq));subst hq;go_wp2_with fail;go_returns;exact ⟨g,by rw [HC.out];rfl,hg,fun _=>HRS.out,hb⟩
   · have HC:=qH (ml (s:=s) H4.out (by rw [←HN.out];exact hq));have hne:((n:Int) != (s.size:Int))=true:=by rw [bne_iff_ne];omega
     clear hq;go_wp2_with fail;go_returns;exact ⟨g,by rw [HC.out];rfl,hg,(fun h=>by rw [HC.out] at h;cases h),hb⟩
def zaz (s:ByteArray) (w:World) (e:Ending) (w':World):Prop:=
 ∃ (A:Option Addr) (c m:Nat) (es:List Entry) (st:Int) (n:Nat),e=.returned (.tuple #[.agg #[.slice A m c,.int .i64 st,.int .i64 n],.int .i64 (cdL s)])∧Good s es st n∧es.length=m∧w'.ownsRow w.heap.size 141 3 (.slice A m c) m (zd Entry.cells es)∧(cdL s=0→rdL s=(es,st,n))∧(cdL s≠0→A=none∧m=0∧c=0)∧Below w.heap.size w w'
theorem py (s:ByteArray) (hs:s.size≤1048576) (w:World) (hT:Tabs w):Calls Tryz.prog 119 #[.string s] w (zaz s w):=by
 have HT:=qH hT;clear hT;by_cases h4:4000 < (s.size:Int)
 · have HC:=qH (oJ (s:=s) (by omega));go_enter Tryz.func119,Tryz.ntmps119;go_wp2_with fail;refine bodyPost_ret (zk (P:=Tryz.prog) rfl _ _ w.heap.size 146 Z74 (0,0) _ rfl (Blk.new w 146 Z74) Tryz.underlying146 rfl (by kernel_rfl)) rfl ?_;exact ⟨none,0,0,[],0,0,by rw [HC.out];rfl,Good.nil s,rfl,World.ownsRow_nil _ _ _ _,(fun h=>by rw [HC.out] at h;cases h),fun _=>⟨rfl,rfl,rfl⟩,zc (Below.refl _ _) _⟩
 have hd4:decide (4000 < (s.size:Int))=false:=decide_eq_false h4;have H4:=qH (show ¬ 4000 < s.size by omega);have hR:=Blk.new w 146 Z74;have hv:=zc (Below.refl w.heap.size w) (Obj.cells Z74 146);have hgR1:w.heap.size < (w.alloc (Obj.cells Z74 146)).heap.size:=by simp
 go_enter Tryz.func119,Tryz.ntmps119;go_wp2_with fail;refine (lq s hs _ (HT.out.below hv)).mono ?_;rintro e W ⟨A,c,rfl,hown,hb⟩;obtain ⟨gR,hgR⟩:=zN w.heap.size;have hok:=yT (base':=w.heap.size) hown (Nat.le_of_lt hgR1);have hRlo:∀ k,(Value.slice A (rdL s).1.length c).ownBlock=some k→k≠gR:=fun k e=>by have h1:=zl hown k e;rw [hgR];exact Nat.ne_of_gt (Nat.lt_of_lt_of_le hgR1 h1)
 rw [←hgR] at hR ⊢;replace hR:=hR.below hb;replace hv:=za hv hb;have hGd:=vH s;obtain ⟨es,hes⟩:=zN ((rdL s).1);obtain ⟨st,hst⟩:=zN ((rdL s).2.1);obtain ⟨n,hn⟩:=zN ((rdL s).2.2);have HN:=qH hn;have HRD:=qH (show rdL s=(es,st,n) by rw [hes,hst,hn]);rw [←hes,←hst,←hn] at hGd;rw [←hes] at hok hRlo;rw [←hes,←hst,←hn];obtain ⟨m,hm⟩:=zN es.length;rw [←hm] at hok hRlo ⊢;have HM:=qH hm.symm;have hle:=hGd.le;clear hes hst hn hm hown hb hgR1;have hg1:w.heap.size≤gR:=by omega
 have HGR:=qH hgR;clear hgR;obtain ⟨W2,hW2⟩:=zN (W.alloc (Obj.cells #[.slice A m c,.int .i64 st,.int .i64 n] 146));obtain ⟨gX,hgX⟩:=zN W.heap.size;have hX:Blk W2 gX 146 #[.slice A m c,.int .i64 st,.int .i64 n]:=by rw [hW2,hgX];exact Blk.new _ _ _
 have hb:Below W.heap.size W W2:=by rw [hW2];exact zc (Below.refl _ _) _
 have r0:∀ O,(W.alloc O).cell? ⟨gR,0,none⟩=some (.slice none 0 0):=fun O=>(hR.alloc O).cell 0;have r1:∀ O,(W.alloc O).cell? ⟨gR,1,none⟩=some (.int .i64 0):=fun O=>(hR.alloc O).cell 1;have r2:∀ O,(W.alloc O).cell? ⟨gR,2,none⟩=some (.int .i64 0):=fun O=>(hR.alloc O).cell 2;have f0:∀ O,(W.alloc O).frozen? ⟨gR,0,none⟩=false:=fun O=>(hR.alloc O).frozen 0;have f1:∀ O,(W.alloc O).frozen? ⟨gR,1,none⟩=false:=fun O=>(hR.alloc O).frozen 1;have f2:∀ O,(W.alloc O).frozen? ⟨gR,2,none⟩=false:=fun O=>(hR.alloc O).frozen 2;replace hR:=hR.below hb;replace hv:=za hv hb;replace hok:=ze hok hb;have HW2:=qH hW2;clear hX hb hgX hW2;have hf:=fun (u:Value) (i:Nat) (ww:World) (h:ww.ownsRow w.heap.size 141 3 (.slice A m c) m (zd Entry.cells es))=>xm h (p:=⟨gR,i,none⟩) hRlo u;by_cases hq:n=s.size
 · have HC:=qH (kf (s:=s) H4.out (by rw [HRD.out];exact hq));have hlt:¬ (n:Int) < (s.size:Int):=by omega
   clear hq;go_wp2_with fail;rw [←HW2.out];refine bodyPost_ret (zk (P:=Tryz.prog) rfl _ _ gR 146 #[.slice A m c,.int .i64 st,.int .i64 n] (0,0) _ rfl ?_ Tryz.underlying146 rfl (by kernel_rfl)) rfl ?_
   · exact ((hR.set_ 0 _).set_ 1 _).set_ 2 _
   · exact ⟨A,c,m,es,st,n,by rw [HC.out];rfl,hGd,HM.out,hf _ 2 _ (hf _ 1 _ (hf _ 0 _ hok)),(fun _=>HRD.out),(fun h=>absurd HC.out h),zt (zt (zt hv (p:=⟨gR,0,none⟩) hg1 _) (p:=⟨gR,1,none⟩) hg1 _) (p:=⟨gR,2,none⟩) hg1 _⟩
 · have HC:=qH (ml (s:=s) H4.out (by rw [HRD.out];exact hq));have hlt:(n:Int) < (s.size:Int):=by omega
   clear hq;go_wp2_with fail;rw [←HW2.out];refine bodyPost_ret (zk (P:=Tryz.prog) rfl _ _ gR 146 Z74 (0,0) _ rfl ?_ Tryz.underlying146 rfl (by kernel_rfl)) rfl ?_
   · exact ((hR.set_ 0 _).set_ 1 _).set_ 2 _
   · exact ⟨none,0,0,[],0,0,by rw [HC.out];rfl,Good.nil s,rfl,World.ownsRow_nil _ _ _ _,(fun h=>by rw [HC.out] at h;cases h),(fun _=>⟨rfl,rfl,rfl⟩),zt (zt (zt hv (p:=⟨gR,0,none⟩) hg1 _) (p:=⟨gR,1,none⟩) hg1 _) (p:=⟨gR,2,none⟩) hg1 _⟩
theorem jn (c:UInt8):∀ l:List UInt8,l=[c].intercalate (spl c l):=by
 intro l
 induction l with
 | nil=>simp [spl,List.intercalate]
 | cons b r ih=>
   simp only [spl];split
   · rename_i hb;subst hb;cases hs:spl b r with
     | nil=>exact absurd hs (ua b r)
     | cons a t=>
       rw [hs] at ih
       conv=>lhs;rw [ih]
       simp [List.intercalate]
   · cases hs:spl c r with
     | nil=>exact absurd hs (ua c r)
     | cons a t=>
       rw [hs] at ih
       conv=>lhs;rw [ih]
       cases t <;> simp [List.intercalate,wH]
theorem zap {c:UInt8}:∀ p:List UInt8,c ∉ p→spl c p=[p]:=by
 intro p
 induction p with
 | nil=>intro _;rfl
 | cons b r ih=>
   intro h;simp only [List.mem_cons,not_or] at h;simp only [spl];rw [if_neg (fun e=>h.1 e.symm),ih h.2];rfl
theorem zal {c:UInt8} (l:List UInt8):∀ p:List UInt8,c ∉ p→spl c (p ++ c :: l)=p :: spl c l:=by
 intro p
 induction p with
 | nil=>intro _;simp [spl]
 | cons b r ih=>
   intro h;simp only [List.mem_cons,not_or] at h;simp only [List.cons_append,spl];rw [if_neg (fun e=>h.1 e.symm),ih h.2];rfl
theorem rE {c:UInt8}:∀ L:List (List UInt8),L≠[]→(∀ p ∈ L,c ∉ p)→spl c ([c].intercalate L)=L:=by
 intro L
 induction L with
 | nil=>intro h _;exact absurd rfl h
 | cons p t ih=>
   intro _ h;cases t with
   | nil=>
     have:=zap p (h p (by simp));simpa [List.intercalate] using this
   | cons q u=>
     have e:[c].intercalate (p :: q :: u)=p ++ c :: [c].intercalate (q :: u):=by simp [List.intercalate]
     rw [e,zal _ p (h p (by simp)),ih (by simp) (fun x hx=>h x (List.mem_cons_of_mem _ hx))]
theorem tU (v:Int):(32:UInt8) ∉ Lib.itoa v:=by
 have h:=xr v;have hd:=(uL v.natAbs).1;have key:∀ l:List UInt8,l.all yF=true→(32:UInt8) ∉ l:=by
  intro l hl hm;have:=List.all_eq_true.1 hl _ hm
  revert this;decide
 intro hm;rw [←h.1] at hd;cases hv:Lib.itoa v with
 | nil=>rw [hv] at hm;cases hm
 | cons c r=>
   rw [hv] at hm hd;simp only [yp] at hd;split at hd
   · rename_i hc;rcases List.mem_cons.1 hm with h1 | h1
     · rw [hc] at h1;revert h1;decide
     · exact key _ hd h1
   · exact key _ hd hm
theorem pC {s:ByteArray} (h:zo s=true):(32:UInt8) ∉ s.data.toList:=by
 intro hm;simp only [zo,sG,Bool.and_eq_true] at h;have:=List.all_eq_true.1 h.2 _ hm
 revert this;decide
theorem rl (a b:ByteArray):(a ++ b).data.toList=a.data.toList ++ b.data.toList:=by simp
def zO (s:ByteArray):List ByteArray:=(zi 32 s).filter fun t=>decide (0 < t.size)
def wUpper:ByteArray:=⟨#[117,112,112,101,114]⟩
def wLining:ByteArray:=⟨#[108,105,110,105,110,103]⟩
def wSole:ByteArray:=⟨#[115,111,108,101]⟩
def wHeel:ByteArray:=⟨#[104,101,101,108]⟩
def wEyelets:ByteArray:=⟨#[101,121,101,108,101,116,115]⟩
def wStitch:ByteArray:=⟨#[115,116,105,116,99,104]⟩
def wDouble:ByteArray:=⟨#[100,111,117,98,108,101]⟩
def styW:List ByteArray:=[wUpper,wLining,wSole,wHeel,wEyelets,wStitch]
def yg (t:ByteArray):Int:=if t=wUpper then 0 else if t=wLining then 1 else if t=wSole then 2 else if t=wHeel then 3 else if t=wEyelets then 4 else if t=wStitch then 5 else -1
def xq (t:ByteArray) (lo hi:Int):Bool:=okN t.data.toList && inB (zq t) lo hi
def zE:List ByteArray→Int
 | []=>1
 | t :: r=>
   if yg t=0 then (match r with | [a,b]=>if (zo a && zo b)=true then 0 else 4 | _=>2)
   else if yg t=1 then (match r with | [a]=>if zo a=true then 0 else 4 | _=>2)
   else if yg t=2 then (match r with | [a,b]=>if zo a=true then (if xq b 10 300=true then 0 else 3) else 4 | _=>2)
   else if yg t=3 then (match r with | [a]=>if xq a 0 1200=true then 0 else 3 | _=>2)
   else if yg t=4 then (match r with | [a]=>if xq a 1 12=true then 0 else 3 | _=>2)
   else if yg t=5 then (match r with | [a]=>if xq a 10 80=true then 0 else 3 | [a,b]=>if (xq a 10 80 && decide (b=wDouble))=true then 0 else 3 | _=>2)
   else 1
def yr (x:Style):List ByteArray→Style
 | t :: a :: r=>
   if yg t=0 then { x with u:=a,c:=r.headD ByteArray.empty }
   else if yg t=1 then { x with l:=a }
   else if yg t=2 then { x with s:=a,t:=zq (r.headD ByteArray.empty) }
   else if yg t=3 then { x with h:=zq a }
   else if yg t=4 then { x with e:=zq a }
   else if yg t=5 then { x with d:=zq a,q:=decide (r.length=1) }
   else x
 | _=>x
def xb (x:Style):Bool:=zo x.u && zo x.c && (decide (x.l.size=0) || zo x.l) && zo x.s && inB x.t 10 300 && inB x.h 0 1200 && inB x.e 0 12 && (decide (x.d=0) && !x.q || inB x.d 10 80)
def spB:ByteArray:=⟨#[32]⟩
def vt (x:Style):ByteArray:=((⟨#[117,112,112,101,114,32]⟩ ++ x.u) ++ spB) ++ x.c
def tq (x:Style):ByteArray:=if x.l.size=0 then ⟨#[]⟩ else ⟨#[108,105,110,105,110,103,32]⟩ ++ x.l
def uH (x:Style):ByteArray:=((⟨#[115,111,108,101,32]⟩ ++ x.s) ++ spB) ++ zm x.t
def tt (x:Style):ByteArray:=if x.h=0 then ⟨#[]⟩ else ⟨#[104,101,101,108,32]⟩ ++ zm x.h
def tu (x:Style):ByteArray:=if x.e=0 then ⟨#[]⟩ else ⟨#[101,121,101,108,101,116,115,32]⟩ ++ zm x.e
def uA (x:Style):ByteArray:=if x.d=0∧x.q=false then ⟨#[]⟩ else ⟨#[115,116,105,116,99,104,32]⟩ ++ zm x.d
def tv (x:Style):ByteArray:=if x.q=true then uA x ++ ⟨#[32,100,111,117,98,108,101]⟩ else uA x
def xB (x:Style):List ByteArray:=[vt x,tq x,uH x,tt x,tu x,tv x]
def wa (t:ByteArray):Bool:=decide (t.size=0) || decide (zE (zO t)=0)
def okL (x:Style):Bool:=(xB x).all wa && (zo x.u && zo x.c && zo x.s && (decide (x.l.size=0) || zo x.l))
theorem sh {L:List (List UInt8)} {s:ByteArray} (h:s.data.toList=[32].intercalate L) (hL:L≠[]) (hf:∀ p ∈ L,(32:UInt8) ∉ p∧0 < p.length):zO s=L.map fun l=>⟨l.toArray⟩:=by
 unfold zO zi;rw [h,rE L hL (fun p hp=>(hf p hp).1)];rw [List.filter_eq_self.2];intro t ht;obtain ⟨p,hp,rfl⟩:=List.mem_map.1 ht;rw [decide_eq_true_eq];have:=(hf p hp).2;simpa [ByteArray.size] using this
theorem mj (t:ByteArray):(⟨t.data.toList.toArray⟩:ByteArray)=t:=by cases t;simp
theorem aS {s:ByteArray} (h:zo s=true):0 < s.data.toList.length:=by
 rw [zv];by_cases h1:s.size < 1
 · rw [wN (.inr h1)] at h;cases h
 · omega
theorem rD {s:ByteArray} (h:zo s=true):(32:UInt8) ∉ s.data.toList∧0 < s.data.toList.length:=⟨pC h,aS h⟩
theorem aH (v:Int):0 < (Lib.itoa v).length:=by
 have h:=(xr v).1;have h2:=(uL v.natAbs).2;rw [←h] at h2;cases hv:Lib.itoa v with
 | nil=>rw [hv] at h2;simp [yp] at h2
 | cons c r=>simp
theorem oN (v:Int):(32:UInt8) ∉ Lib.itoa v∧0 < (Lib.itoa v).length:=⟨tU v,aH v⟩
theorem wR (v lo hi:Int) (h0:-1000000000000000000 < lo) (h1:hi < 1000000000000000000):xq (zm v) lo hi=inB v lo hi:=by
 have hd:(zm v).data.toList=Lib.itoa v:=by simp [zm]
 unfold xq;cases ho:okN (zm v).data.toList
 · rw [Bool.false_and];symm;rw [Bool.eq_false_iff];intro hb;obtain ⟨a,b⟩:=inB_iff.1 hb;rw [hd,vX (by omega) (by omega)] at ho;cases ho
 · rw [xc ho,hd,(xr v).2,Bool.true_and]
theorem qt:yg wUpper=0:=by decide
theorem qu:yg wLining=1:=by decide
theorem qv:yg wSole=2:=by decide
theorem qw:yg wHeel=3:=by decide
theorem qx:yg wEyelets=4:=by decide
theorem uy:yg wStitch=5:=by decide
theorem zcu {t:ByteArray} (h:0 < t.size):decide (t.size=0)=false:=by rw [decide_eq_false_iff_not];omega
theorem nr:wa ⟨#[]⟩=true:=by unfold wa;rw [decide_eq_true (by rfl:(⟨#[]⟩:ByteArray).size=0),Bool.true_or]
theorem tF {t:ByteArray} (h:0 < t.size):wa t=decide (zE (zO t)=0):=by unfold wa;rw [zcu h,Bool.false_or]
theorem zu (a b:ByteArray):(a ++ b).size=a.size + b.size:=ByteArray.size_append' a b
theorem yC (a b:ByteArray) (h:0 < a.size):0 < (a ++ b).size:=by rw [zu];omega
theorem zaI {x:Style} (h1:zo x.u=true) (h2:zo x.c=true):zO (vt x)=[wUpper,x.u,x.c]:=by
 rw [sh (L:=[wUpper.data.toList,x.u.data.toList,x.c.data.toList]) _ (by simp) _]
 · simp
 · unfold vt;simp only [rl,spB];simp [List.intercalate,wUpper]
 · intro p hp;simp only [List.mem_cons,List.not_mem_nil,or_false] at hp;rcases hp with rfl | rfl | rfl
   · decide
   · exact rD h1
   · exact rD h2
theorem zcl {x:Style} (h1:zo x.u=true) (h2:zo x.c=true):wa (vt x)=true:=by
 have hw:=zaI h1 h2;rw [tF (by unfold vt;exact yC _ _ (yC _ _ (yC _ _ (by decide)))),hw];simp [zE,qt,h1,h2]
theorem zaJ {x:Style} (h1:zo x.l=true):zO (⟨#[108,105,110,105,110,103,32]⟩ ++ x.l)=[wLining,x.l]:=by
 rw [sh (L:=[wLining.data.toList,x.l.data.toList]) _ (by simp) _]
 · simp
 · simp only [rl];simp [List.intercalate,wLining]
 · intro p hp;simp only [List.mem_cons,List.not_mem_nil,or_false] at hp;rcases hp with rfl | rfl
   · decide
   · exact rD h1
theorem zcm {x:Style} (h:decide (x.l.size=0)=true∨zo x.l=true):wa (tq x)=true:=by
 unfold tq;by_cases h0:x.l.size=0
 · rw [if_pos h0];exact nr
 · rw [if_neg h0];have h1:zo x.l=true:=by rcases h with h | h;exact absurd (of_decide_eq_true h) h0;exact h
   rw [tF (yC _ _ (by decide)),zaJ h1];simp [zE,qu,h1]
theorem zaK {x:Style} (h1:zo x.s=true):zO (uH x)=[wSole,x.s,zm x.t]:=by
 rw [sh (L:=[wSole.data.toList,x.s.data.toList,Lib.itoa x.t]) _ (by simp) _]
 · simp [zm]
 · unfold uH;simp only [rl,spB,zm];simp [List.intercalate,wSole]
 · intro p hp;simp only [List.mem_cons,List.not_mem_nil,or_false] at hp;rcases hp with rfl | rfl | rfl
   · decide
   · exact rD h1
   · exact oN _
theorem zcn {x:Style} (h1:zo x.s=true):wa (uH x)=inB x.t 10 300:=by
 have hw:=zaK h1;rw [tF (by unfold uH;exact yC _ _ (yC _ _ (yC _ _ (by decide)))),hw,←wR x.t 10 300 (by omega) (by omega)];simp [zE,qv,h1]
theorem oi (v:Int) (h w:ByteArray) (hh:h.data.toList=w.data.toList ++ [32]) (hw:(32:UInt8) ∉ w.data.toList∧0 < w.data.toList.length):zO (h ++ zm v)=[w,zm v]:=by
 rw [sh (L:=[w.data.toList,Lib.itoa v]) _ (by simp) _]
 · simp [zm]
 · simp only [rl,hh,zm];simp [List.intercalate]
 · intro p hp;simp only [List.mem_cons,List.not_mem_nil,or_false] at hp;rcases hp with rfl | rfl
   · exact hw
   · exact oN _
theorem zco {x:Style}:wa (tt x)=inB x.h 0 1200:=by
 unfold tt;by_cases h0:x.h=0
 · rw [if_pos h0,h0];rfl
 · rw [if_neg h0,tF (yC _ _ (by decide)),oi _ _ wHeel (by simp [wHeel]) (by decide),←wR x.h 0 1200 (by omega) (by omega)];simp [zE,qw]
theorem ge {v hi:Int} (h:v≠0):inB v 1 hi=inB v 0 hi:=by
 rw [Bool.eq_iff_iff,inB_iff,inB_iff];omega
theorem zcp {x:Style}:wa (tu x)=inB x.e 0 12:=by
 unfold tu;by_cases h0:x.e=0
 · rw [if_pos h0,h0];rfl
 · rw [if_neg h0,tF (yC _ _ (by decide)),oi _ _ wEyelets (by simp [wEyelets]) (by decide),←ge h0,←wR x.e 1 12 (by omega) (by omega)];simp [zE,qx]
theorem zaL (v:Int):zO ((⟨#[115,116,105,116,99,104,32]⟩ ++ zm v) ++ ⟨#[32,100,111,117,98,108,101]⟩)=[wStitch,zm v,wDouble]:=by
 rw [sh (L:=[wStitch.data.toList,Lib.itoa v,wDouble.data.toList]) _ (by simp) _]
 · simp [zm]
 · simp only [rl,zm];simp [List.intercalate,wStitch,wDouble]
 · intro p hp;simp only [List.mem_cons,List.not_mem_nil,or_false] at hp;rcases hp with rfl | rfl | rfl
   · decide
   · exact oN _
   · decide
theorem zcq {x:Style}:wa (tv x)=(decide (x.d=0) && !x.q || inB x.d 10 80):=by
 unfold tv uA;cases hd:x.q
 · rw [if_neg (by simp)];by_cases h0:x.d=0
   · rw [if_pos ⟨h0,rfl⟩,nr,h0];rfl
   · rw [if_neg (fun h=>h0 h.1),tF (yC _ _ (by decide)),oi _ _ wStitch (by simp [wStitch]) (by decide),←wR x.d 10 80 (by omega) (by omega)];simp [zE,uy,h0]
 · rw [if_pos rfl,if_neg (by simp)];have hw:=zaL x.d;rw [tF (yC _ _ (yC _ _ (by decide))),hw,←wR x.d 10 80 (by omega) (by omega)];simp [zE,uy]
theorem kZ (x:Style):okL x=xb x:=by
 unfold okL xb xB;simp only [List.all_cons,List.all_nil,Bool.and_true];cases h1:zo x.u
 · simp
 cases h2:zo x.c
 · simp
 cases h3:zo x.s
 · simp
 cases h4:(decide (x.l.size=0) || zo x.l)
 · simp
 rw [zcl h1 h2,zcm (by rw [Bool.or_eq_true] at h4;exact h4),zcn h3,zco,zcp,zcq];simp [Bool.and_assoc]
theorem vk (t:ByteArray):(t=wUpper∧yg t=0)∨(t=wLining∧yg t=1)∨(t=wSole∧yg t=2)∨(t=wHeel∧yg t=3)∨(t=wEyelets∧yg t=4)∨(t=wStitch∧yg t=5)∨(t ∉ styW∧yg t = -1):=by
 by_cases h0:t=wUpper
 · subst h0;exact .inl ⟨rfl,qt⟩
 by_cases h1:t=wLining
 · subst h1;exact .inr (.inl ⟨rfl,qu⟩)
 by_cases h2:t=wSole
 · subst h2;exact .inr (.inr (.inl ⟨rfl,qv⟩))
 by_cases h3:t=wHeel
 · subst h3;exact .inr (.inr (.inr (.inl ⟨rfl,qw⟩)))
 by_cases h4:t=wEyelets
 · subst h4;exact .inr (.inr (.inr (.inr (.inl ⟨rfl,qx⟩))))
 by_cases h5:t=wStitch
 · subst h5;exact .inr (.inr (.inr (.inr (.inr (.inl ⟨rfl,uy⟩)))))
 refine .inr (.inr (.inr (.inr (.inr (.inr ⟨?_,?_⟩)))))
 · simp [styW,h0,h1,h2,h3,h4,h5]
 · unfold yg;rw [if_neg h0,if_neg h1,if_neg h2,if_neg h3,if_neg h4,if_neg h5]
theorem sI {w:List ByteArray} (h:zE w=0) :
 (∃ a b,w=[wUpper,a,b]∧zo a=true∧zo b=true)∨(∃ a,w=[wLining,a]∧zo a=true)∨(∃ a b,w=[wSole,a,b]∧zo a=true∧xq b 10 300=true) ∨
 (∃ a,w=[wHeel,a]∧xq a 0 1200=true)∨(∃ a,w=[wEyelets,a]∧xq a 1 12=true)∨(∃ a,w=[wStitch,a]∧xq a 10 80=true)∨(∃ a,w=[wStitch,a,wDouble]∧xq a 10 80=true):=by
 cases w with
 | nil=>simp [zE] at h
 | cons t r=>
   rcases vk t with ⟨rfl,hk⟩ | ⟨rfl,hk⟩ | ⟨rfl,hk⟩ | ⟨rfl,hk⟩ | ⟨rfl,hk⟩ | ⟨rfl,hk⟩ | ⟨_,hk⟩
   · rcases r with _ | ⟨a,_ | ⟨b,_ | ⟨c,r⟩⟩⟩ <;> simp [zE,hk] at h;exact .inl ⟨a,b,rfl,h.1,h.2⟩
   · rcases r with _ | ⟨a,_ | ⟨b,r⟩⟩ <;> simp [zE,hk] at h;exact .inr (.inl ⟨a,rfl,h⟩)
   · rcases r with _ | ⟨a,_ | ⟨b,_ | ⟨c,r⟩⟩⟩ <;> simp [zE,hk] at h;refine .inr (.inr (.inl ⟨a,b,rfl,?_⟩));cases h1:zo a <;> rw [h1] at h <;> simp at h;exact ⟨rfl,h⟩
   · rcases r with _ | ⟨a,_ | ⟨b,r⟩⟩ <;> simp [zE,hk] at h;exact .inr (.inr (.inr (.inl ⟨a,rfl,h⟩)))
   · rcases r with _ | ⟨a,_ | ⟨b,r⟩⟩ <;> simp [zE,hk] at h;exact .inr (.inr (.inr (.inr (.inl ⟨a,rfl,h⟩))))
   · rcases r with _ | ⟨a,_ | ⟨b,_ | ⟨c,r⟩⟩⟩ <;> simp [zE,hk] at h
     · exact .inr (.inr (.inr (.inr (.inr (.inl ⟨a,rfl,h⟩)))))
     · obtain ⟨h1,rfl⟩:=h;exact .inr (.inr (.inr (.inr (.inr (.inr ⟨a,rfl,h1⟩)))))
   · simp [zE,hk] at h
theorem vr {t:ByteArray} {lo hi:Int} (h:xq t lo hi=true):inB (zq t) lo hi=true:=by
 unfold xq at h;rw [Bool.and_eq_true] at h;exact h.2
theorem gg {v lo lo' hi:Int} (h:inB v lo hi=true) (hl:lo'≤lo):inB v lo' hi=true:=by
 rw [inB_iff] at h ⊢;omega
theorem wB {x:Style}:xb x=true ↔ zo x.u=true∧zo x.c=true∧(decide (x.l.size=0) || zo x.l)=true∧zo x.s=true∧inB x.t 10 300=true∧inB x.h 0 1200=true∧inB x.e 0 12=true∧(decide (x.d=0) && !x.q || inB x.d 10 80)=true:=by
 unfold xb;simp only [Bool.and_eq_true,and_assoc]
theorem sg (x:Style) (a b:ByteArray):yr x [wUpper,a,b] = { x with u:=a,c:=b }:=by simp [yr,qt]
theorem tj (x:Style) (a:ByteArray):yr x [wLining,a] = { x with l:=a }:=by simp [yr,qu]
theorem rh (x:Style) (a b:ByteArray):yr x [wSole,a,b] = { x with s:=a,t:=zq b }:=by simp [yr,qv]
theorem rg (x:Style) (a:ByteArray):yr x [wHeel,a] = { x with h:=zq a }:=by simp [yr,qw]
theorem uu (x:Style) (a:ByteArray):yr x [wEyelets,a] = { x with e:=zq a }:=by simp [yr,qx]
theorem tk (x:Style) (a:ByteArray):yr x [wStitch,a] = { x with d:=zq a,q:=false }:=by simp [yr,uy]
theorem ti (x:Style) (a:ByteArray):yr x [wStitch,a,wDouble] = { x with d:=zq a,q:=true }:=by simp [yr,uy]
theorem zbv {x:Style} {w:List ByteArray} (hx:xb x=true) (h:zE w=0):xb (yr x w)=true:=by
 rw [wB] at hx ⊢;obtain ⟨h1,h2,h3,h4,h5,h6,h7,h8⟩:=hx;rcases sI h with ⟨a,b,rfl,ha,hb⟩ | ⟨a,rfl,ha⟩ | ⟨a,b,rfl,ha,hb⟩ | ⟨a,rfl,ha⟩ | ⟨a,rfl,ha⟩ | ⟨a,rfl,ha⟩ | ⟨a,rfl,ha⟩
 · rw [sg];exact ⟨ha,hb,h3,h4,h5,h6,h7,h8⟩
 · rw [tj];exact ⟨h1,h2,by rw [Bool.or_eq_true];exact .inr ha,h4,h5,h6,h7,h8⟩
 · rw [rh];exact ⟨h1,h2,h3,ha,vr hb,h6,h7,h8⟩
 · rw [rg];exact ⟨h1,h2,h3,h4,h5,vr ha,h7,h8⟩
 · rw [uu];exact ⟨h1,h2,h3,h4,h5,h6,gg (vr ha) (by omega),h8⟩
 · rw [tk];exact ⟨h1,h2,h3,h4,h5,h6,h7,by rw [Bool.or_eq_true];exact .inr (vr ha)⟩
 · rw [ti];exact ⟨h1,h2,h3,h4,h5,h6,h7,by rw [Bool.or_eq_true];exact .inr (vr ha)⟩
theorem tl {t:ByteArray} (h:t.size=0):t=⟨#[]⟩:=by
 rw [←zv] at h;exact (mj t).symm.trans (by rw [List.eq_nil_of_length_eq_zero h])
end Go.Proofs.YtpiehlfffjhoaaaGreatDoor
