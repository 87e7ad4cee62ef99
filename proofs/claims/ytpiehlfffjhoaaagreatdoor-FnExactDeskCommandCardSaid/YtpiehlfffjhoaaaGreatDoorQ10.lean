/- Lemmas for the law on the console: the parts SplP,StyP,StyQ. -/
import Derived.Test.YtpiehlfffjhoaaaGreatDoorQ8
namespace Go.Proofs.YtpiehlfffjhoaaaGreatDoor
open Go.RowKit
set_option maxRecDepth 100000
theorem jZ(c:UInt8):∀ l:List UInt8,l=[c].intercalate (spl c l):=by
 intro l
 induction l with
 | nil=>simp [spl,List.intercalate]
 | cons b r ih=>
   simp only [spl];split
   · rename_i hb;subst hb;cases hs:spl b r with
     | nil=>exact absurd hs (uk b r)
     | cons a t=>
       rw [hs] at ih
       conv=>lhs;rw [ih]
       simp [List.intercalate]
   · cases hs:spl c r with
     | nil=>exact absurd hs (uk c r)
     | cons a t=>
       rw [hs] at ih
       conv=>lhs;rw [ih]
       cases t <;> simp [List.intercalate,wL]
theorem zbA{c:UInt8}:∀ p:List UInt8,c ∉ p->spl c p=[p]:=by
 intro p
 induction p with
 | nil=>intro _;rfl
 | cons b r ih=>
   intro h;simp only [List.mem_cons,not_or] at h;simp only [spl];rw [if_neg (fun e=>h.1 e.symm),ih h.2];rfl
theorem zbw{c:UInt8}(l:List UInt8):∀ p:List UInt8,c ∉ p->spl c (p ++ c :: l)=p :: spl c l:=by
 intro p
 induction p with
 | nil=>intro _;simp [spl]
 | cons b r ih=>
   intro h;simp only [List.mem_cons,not_or] at h;simp only [List.cons_append,spl];rw [if_neg (fun e=>h.1 e.symm),ih h.2];rfl
theorem rT{c:UInt8}:∀ L:List (List UInt8),L≠[]->(∀ p ∈ L,c ∉ p)->spl c ([c].intercalate L)=L:=by
 intro L
 induction L with
 | nil=>intro h _;exact absurd rfl h
 | cons p t ih=>
   intro _ h;cases t with
   | nil=>
     have:=zbA p (h p (by simp));simpa [List.intercalate] using this
   | cons q u=>
     have e:[c].intercalate (p :: q :: u)=p ++ c :: [c].intercalate (q :: u):=by simp [List.intercalate]
     rw [e,zbw _ p (h p (by simp)),ih (by simp) (fun x hx=>h x (List.mem_cons_of_mem _ hx))]
theorem sq(v:Int):(32:UInt8) ∉ Lib.itoa v:=by
 have h:=xr v;have hd:=(uY v.natAbs).1;have key:∀ l:List UInt8,l.all yG=true->(32:UInt8) ∉ l:=by
  intro l hl hm;have:=List.all_eq_true.1 hl _ hm
  revert this;decide
 intro hm;rw [<-h.1] at hd;cases hv:Lib.itoa v with
 | nil=>rw [hv] at hm;cases hm
 | cons c r=>
   rw [hv] at hm hd;simp only [yo] at hd;split at hd
   · rename_i hc;rcases List.mem_cons.1 hm with h1 | h1
     ·rw [hc] at h1;revert h1;decide
     ·exact key _ hd h1
   ·exact key _ hd hm
theorem pY{s:ByteArray}(h:zo s=true):(32:UInt8) ∉ s.data.toList:=by
 intro hm;simp only [zo,sV,Bool.and_eq_true] at h;have:=List.all_eq_true.1 h.2 _ hm
 revert this;decide
theorem rE(a b:ByteArray):(a ++ b).data.toList=a.data.toList ++ b.data.toList:=by simp
def zP(s:ByteArray):List ByteArray:=(zl 32 s).filter fun t=>decide (0 < t.size)
def wUpper:ByteArray:=⟨#[117,112,112,101,114]⟩
def wLining:ByteArray:=⟨#[108,105,110,105,110,103]⟩
def wSole:ByteArray:=⟨#[115,111,108,101]⟩
def wHeel:ByteArray:=⟨#[104,101,101,108]⟩
def wEyelets:ByteArray:=⟨#[101,121,101,108,101,116,115]⟩
def wStitch:ByteArray:=⟨#[115,116,105,116,99,104]⟩
def wDouble:ByteArray:=⟨#[100,111,117,98,108,101]⟩
def styW:List ByteArray:=[wUpper,wLining,wSole,wHeel,wEyelets,wStitch]
def yg(t:ByteArray):Int:=if t=wUpper then 0 else if t=wLining then 1 else if t=wSole then 2 else if t=wHeel then 3 else if t=wEyelets then 4 else if t=wStitch then 5 else -1
def xq(t:ByteArray)(lo hi:Int):Bool:=okN t.data.toList && inB (zq t) lo hi
def zE:List ByteArray->Int
 | []=>1
 | t :: r=>
   if yg t=0 then (match r with | [a,b]=>if (zo a && zo b)=true then 0 else 4 | _=>2)
   else if yg t=1 then (match r with | [a]=>if zo a=true then 0 else 4 | _=>2)
   else if yg t=2 then (match r with | [a,b]=>if zo a=true then (if xq b 10 300=true then 0 else 3) else 4 | _=>2)
   else if yg t=3 then (match r with | [a]=>if xq a 0 1200=true then 0 else 3 | _=>2)
   else if yg t=4 then (match r with | [a]=>if xq a 1 12=true then 0 else 3 | _=>2)
   else if yg t=5 then (match r with | [a]=>if xq a 10 80=true then 0 else 3 | [a,b]=>if (xq a 10 80 && decide (b=wDouble))=true then 0 else 3 | _=>2)
   else 1
def yp(x:Style):List ByteArray->Style
 | t :: a :: r=>
   if yg t=0 then { x with u:=a,c:=r.headD ByteArray.empty }
   else if yg t=1 then { x with l:=a }
   else if yg t=2 then { x with s:=a,t:=zq (r.headD ByteArray.empty) }
   else if yg t=3 then { x with h:=zq a }
   else if yg t=4 then { x with e:=zq a }
   else if yg t=5 then { x with d:=zq a,q:=decide (r.length=1) }
   else x
 | _=>x
def yZ(x:Style):Bool:=zo x.u && zo x.c && (decide (x.l.size=0) || zo x.l) && zo x.s && inB x.t 10 300 && inB x.h 0 1200 && inB x.e 0 12 && (decide (x.d=0) && !x.q || inB x.d 10 80)
def spB:ByteArray:=⟨#[32]⟩
def vz(x:Style):ByteArray:=((⟨#[117,112,112,101,114,32]⟩ ++ x.u) ++ spB) ++ x.c
def tJ(x:Style):ByteArray:=if x.l.size=0 then ⟨#[]⟩ else ⟨#[108,105,110,105,110,103,32]⟩ ++ x.l
def uU(x:Style):ByteArray:=((⟨#[115,111,108,101,32]⟩ ++ x.s) ++ spB) ++ zm x.t
def tK(x:Style):ByteArray:=if x.h=0 then ⟨#[]⟩ else ⟨#[104,101,101,108,32]⟩ ++ zm x.h
def tL(x:Style):ByteArray:=if x.e=0 then ⟨#[]⟩ else ⟨#[101,121,101,108,101,116,115,32]⟩ ++ zm x.e
def uO(x:Style):ByteArray:=if x.d=0/\x.q=false then ⟨#[]⟩ else ⟨#[115,116,105,116,99,104,32]⟩ ++ zm x.d
def tM(x:Style):ByteArray:=if x.q=true then uO x ++ ⟨#[32,100,111,117,98,108,101]⟩ else uO x
def xA(x:Style):List ByteArray:=[vz x,tJ x,uU x,tK x,tL x,tM x]
def wb(t:ByteArray):Bool:=decide (t.size=0) || decide (zE (zP t)=0)
def okL(x:Style):Bool:=(xA x).all wb && (zo x.u && zo x.c && zo x.s && (decide (x.l.size=0) || zo x.l))
theorem sz{L:List (List UInt8)}{s:ByteArray}(h:s.data.toList=[32].intercalate L)(hL:L≠[])(hf:∀ p ∈ L,(32:UInt8) ∉ p/\0 < p.length):zP s=L.map fun l=>⟨l.toArray⟩:=by
 unfold zP zl;rw [h,rT L hL (fun p hp=>(hf p hp).1)];rw [List.filter_eq_self.2];intro t ht;obtain ⟨p,hp,rfl⟩:=List.mem_map.1 ht;rw [decide_eq_true_eq];have:=(hf p hp).2;simpa [ByteArray.size] using this
theorem mL(t:ByteArray):(⟨t.data.toList.toArray⟩:ByteArray)=t:=by cases t;simp
theorem zbd{s:ByteArray}(h:zo s=true):0 < s.data.toList.length:=by
 rw [zu];by_cases h1:s.size < 1
 ·rw [wQ (.inr h1)] at h;cases h
 ·omega
theorem rS{s:ByteArray}(h:zo s=true):(32:UInt8) ∉ s.data.toList/\0 < s.data.toList.length:=⟨pY h,zbd h⟩
theorem za2(v:Int):0 < (Lib.itoa v).length:=by
 have h:=(xr v).1;have h2:=(uY v.natAbs).2;rw [<-h] at h2;cases hv:Lib.itoa v with
 | nil=>rw [hv] at h2;simp [yo] at h2
 | cons c r=>simp
theorem nq(v:Int):(32:UInt8) ∉ Lib.itoa v/\0 < (Lib.itoa v).length:=⟨sq v,za2 v⟩
theorem wT(v lo hi:Int)(h0:-1000000000000000000 < lo)(h1:hi < 1000000000000000000):xq (zm v) lo hi=inB v lo hi:=by
 have hd:(zm v).data.toList=Lib.itoa v:=by simp [zm]
 unfold xq;cases ho:okN (zm v).data.toList
 ·rw [Bool.false_and];symm;rw [Bool.eq_false_iff];intro hb;obtain ⟨a,b⟩:=inB_iff.1 hb;rw [hd,uf (by omega) (by omega)] at ho;cases ho
 ·rw [xe ho,hd,(xr v).2,Bool.true_and]
theorem qP:yg wUpper=0:=by decide
theorem qQ:yg wLining=1:=by decide
theorem qT:yg wSole=2:=by decide
theorem qU:yg wHeel=3:=by decide
theorem qV:yg wEyelets=4:=by decide
theorem uL:yg wStitch=5:=by decide
theorem zdR{t:ByteArray}(h:0 < t.size):decide (t.size=0)=false:=by rw [decide_eq_false_iff_not];omega
theorem nS:wb ⟨#[]⟩=true:=by unfold wb;rw [decide_eq_true (by rfl:(⟨#[]⟩:ByteArray).size=0),Bool.true_or]
theorem tS{t:ByteArray}(h:0 < t.size):wb t=decide (zE (zP t)=0):=by unfold wb;rw [zdR h,Bool.false_or]
theorem zv(a b:ByteArray):(a ++ b).size=a.size + b.size:=ByteArray.size_append' a b
theorem yC(a b:ByteArray)(h:0 < a.size):0 < (a ++ b).size:=by rw [zv];omega
theorem zbY{x:Style}(h1:zo x.u=true)(h2:zo x.c=true):zP (vz x)=[wUpper,x.u,x.c]:=by
 rw [sz (L:=[wUpper.data.toList,x.u.data.toList,x.c.data.toList]) _ (by simp) _]
 ·simp
 ·unfold vz;simp only [rE,spB];simp [List.intercalate,wUpper]
 · intro p hp;simp only [List.mem_cons,List.not_mem_nil,or_false] at hp;rcases hp with rfl | rfl | rfl
   ·decide
   ·exact rS h1
   ·exact rS h2
theorem zdI{x:Style}(h1:zo x.u=true)(h2:zo x.c=true):wb (vz x)=true:=by
 have hw:=zbY h1 h2;rw [tS (by unfold vz;exact yC _ _ (yC _ _ (yC _ _ (by decide)))),hw];simp [zE,qP,h1,h2]
theorem zbZ{x:Style}(h1:zo x.l=true):zP (⟨#[108,105,110,105,110,103,32]⟩ ++ x.l)=[wLining,x.l]:=by
 rw [sz (L:=[wLining.data.toList,x.l.data.toList]) _ (by simp) _]
 ·simp
 ·simp only [rE];simp [List.intercalate,wLining]
 · intro p hp;simp only [List.mem_cons,List.not_mem_nil,or_false] at hp;rcases hp with rfl | rfl
   ·decide
   ·exact rS h1
theorem zdJ{x:Style}(h:decide (x.l.size=0)=true\/zo x.l=true):wb (tJ x)=true:=by
 unfold tJ;by_cases h0:x.l.size=0
 ·rw [if_pos h0];exact nS
 · rw [if_neg h0];have h1:zo x.l=true:=by rcases h with h | h;exact absurd (of_decide_eq_true h) h0;exact h
   rw [tS (yC _ _ (by decide)),zbZ h1];simp [zE,qQ,h1]
theorem zb0{x:Style}(h1:zo x.s=true):zP (uU x)=[wSole,x.s,zm x.t]:=by
 rw [sz (L:=[wSole.data.toList,x.s.data.toList,Lib.itoa x.t]) _ (by simp) _]
 ·simp [zm]
 ·unfold uU;simp only [rE,spB,zm];simp [List.intercalate,wSole]
 · intro p hp;simp only [List.mem_cons,List.not_mem_nil,or_false] at hp;rcases hp with rfl | rfl | rfl
   ·decide
   ·exact rS h1
   ·exact nq _
theorem zdK{x:Style}(h1:zo x.s=true):wb (uU x)=inB x.t 10 300:=by
 have hw:=zb0 h1;rw [tS (by unfold uU;exact yC _ _ (yC _ _ (yC _ _ (by decide)))),hw,<-wT x.t 10 300 (by omega) (by omega)];simp [zE,qT,h1]
theorem oM(v:Int)(h w:ByteArray)(hh:h.data.toList=w.data.toList ++ [32])(hw:(32:UInt8) ∉ w.data.toList/\0 < w.data.toList.length):zP (h ++ zm v)=[w,zm v]:=by
 rw [sz (L:=[w.data.toList,Lib.itoa v]) _ (by simp) _]
 ·simp [zm]
 ·simp only [rE,hh,zm];simp [List.intercalate]
 · intro p hp;simp only [List.mem_cons,List.not_mem_nil,or_false] at hp;rcases hp with rfl | rfl
   ·exact hw
   ·exact nq _
theorem zdL{x:Style}:wb (tK x)=inB x.h 0 1200:=by
 unfold tK;by_cases h0:x.h=0
 ·rw [if_pos h0,h0];rfl
 ·rw [if_neg h0,tS (yC _ _ (by decide)),oM _ _ wHeel (by simp [wHeel]) (by decide),<-wT x.h 0 1200 (by omega) (by omega)];simp [zE,qU]
theorem fG{v hi:Int}(h:v≠0):inB v 1 hi=inB v 0 hi:=by
 rw [Bool.eq_iff_iff,inB_iff,inB_iff];omega
theorem zdM{x:Style}:wb (tL x)=inB x.e 0 12:=by
 unfold tL;by_cases h0:x.e=0
 ·rw [if_pos h0,h0];rfl
 ·rw [if_neg h0,tS (yC _ _ (by decide)),oM _ _ wEyelets (by simp [wEyelets]) (by decide),<-fG h0,<-wT x.e 1 12 (by omega) (by omega)];simp [zE,qV]
theorem zb1(v:Int):zP ((⟨#[115,116,105,116,99,104,32]⟩ ++ zm v) ++ ⟨#[32,100,111,117,98,108,101]⟩)=[wStitch,zm v,wDouble]:=by
 rw [sz (L:=[wStitch.data.toList,Lib.itoa v,wDouble.data.toList]) _ (by simp) _]
 ·simp [zm]
 ·simp only [rE,zm];simp [List.intercalate,wStitch,wDouble]
 · intro p hp;simp only [List.mem_cons,List.not_mem_nil,or_false] at hp;rcases hp with rfl | rfl | rfl
   ·decide
   ·exact nq _
   ·decide
theorem zdN{x:Style}:wb (tM x)=(decide (x.d=0) && !x.q || inB x.d 10 80):=by
 unfold tM uO;cases hd:x.q
 · rw [if_neg (by simp)];by_cases h0:x.d=0
   ·rw [if_pos ⟨h0,rfl⟩,nS,h0];rfl
   ·rw [if_neg (fun h=>h0 h.1),tS (yC _ _ (by decide)),oM _ _ wStitch (by simp [wStitch]) (by decide),<-wT x.d 10 80 (by omega) (by omega)];simp [zE,uL,h0]
 ·rw [if_pos rfl,if_neg (by simp)];have hw:=zb1 x.d;rw [tS (yC _ _ (yC _ _ (by decide))),hw,<-wT x.d 10 80 (by omega) (by omega)];simp [zE,uL]
theorem jL(x:Style):okL x=yZ x:=by
 unfold okL yZ xA;simp only [List.all_cons,List.all_nil,Bool.and_true];cases h1:zo x.u
 ·simp
 cases h2:zo x.c
 ·simp
 cases h3:zo x.s
 ·simp
 cases h4:(decide (x.l.size=0) || zo x.l)
 ·simp
 rw [zdI h1 h2,zdJ (by rw [Bool.or_eq_true] at h4;exact h4),zdK h3,zdL,zdM,zdN];simp [Bool.and_assoc]
theorem vq(t:ByteArray):(t=wUpper/\yg t=0)\/(t=wLining/\yg t=1)\/(t=wSole/\yg t=2)\/(t=wHeel/\yg t=3)\/(t=wEyelets/\yg t=4)\/(t=wStitch/\yg t=5)\/(t ∉ styW/\yg t = -1):=by
 by_cases h0:t=wUpper
 ·subst h0;exact .inl ⟨rfl,qP⟩
 by_cases h1:t=wLining
 ·subst h1;exact .inr (.inl ⟨rfl,qQ⟩)
 by_cases h2:t=wSole
 ·subst h2;exact .inr (.inr (.inl ⟨rfl,qT⟩))
 by_cases h3:t=wHeel
 ·subst h3;exact .inr (.inr (.inr (.inl ⟨rfl,qU⟩)))
 by_cases h4:t=wEyelets
 ·subst h4;exact .inr (.inr (.inr (.inr (.inl ⟨rfl,qV⟩))))
 by_cases h5:t=wStitch
 ·subst h5;exact .inr (.inr (.inr (.inr (.inr (.inl ⟨rfl,uL⟩)))))
 refine .inr (.inr (.inr (.inr (.inr (.inr ⟨?_,?_⟩)))))
 ·simp [styW,h0,h1,h2,h3,h4,h5]
 ·unfold yg;rw [if_neg h0,if_neg h1,if_neg h2,if_neg h3,if_neg h4,if_neg h5]
theorem sX{w:List ByteArray}(h:zE w=0) :
 (∃ a b,w=[wUpper,a,b]/\zo a=true/\zo b=true)\/(∃ a,w=[wLining,a]/\zo a=true)\/(∃ a b,w=[wSole,a,b]/\zo a=true/\xq b 10 300=true) \/
 (∃ a,w=[wHeel,a]/\xq a 0 1200=true)\/(∃ a,w=[wEyelets,a]/\xq a 1 12=true)\/(∃ a,w=[wStitch,a]/\xq a 10 80=true)\/(∃ a,w=[wStitch,a,wDouble]/\xq a 10 80=true):=by
 cases w with
 | nil=>simp [zE] at h
 | cons t r=>
   rcases vq t with ⟨rfl,hk⟩ | ⟨rfl,hk⟩ | ⟨rfl,hk⟩ | ⟨rfl,hk⟩ | ⟨rfl,hk⟩ | ⟨rfl,hk⟩ | ⟨_,hk⟩
   ·rcases r with _ | ⟨a,_ | ⟨b,_ | ⟨c,r⟩⟩⟩ <;> simp [zE,hk] at h;exact .inl ⟨a,b,rfl,h.1,h.2⟩
   ·rcases r with _ | ⟨a,_ | ⟨b,r⟩⟩ <;> simp [zE,hk] at h;exact .inr (.inl ⟨a,rfl,h⟩)
   ·rcases r with _ | ⟨a,_ | ⟨b,_ | ⟨c,r⟩⟩⟩ <;> simp [zE,hk] at h;refine .inr (.inr (.inl ⟨a,b,rfl,?_⟩));cases h1:zo a <;> rw [h1] at h <;> simp at h;exact ⟨rfl,h⟩
   ·rcases r with _ | ⟨a,_ | ⟨b,r⟩⟩ <;> simp [zE,hk] at h;exact .inr (.inr (.inr (.inl ⟨a,rfl,h⟩)))
   ·rcases r with _ | ⟨a,_ | ⟨b,r⟩⟩ <;> simp [zE,hk] at h;exact .inr (.inr (.inr (.inr (.inl ⟨a,rfl,h⟩))))
   · rcases r with _ | ⟨a,_ | ⟨b,_ | ⟨c,r⟩⟩⟩ <;> simp [zE,hk] at h
     ·exact .inr (.inr (.inr (.inr (.inr (.inl ⟨a,rfl,h⟩)))))
     ·obtain ⟨h1,rfl⟩:=h;exact .inr (.inr (.inr (.inr (.inr (.inr ⟨a,rfl,h1⟩)))))
   ·simp [zE,hk] at h
theorem vy{t:ByteArray}{lo hi:Int}(h:xq t lo hi=true):inB (zq t) lo hi=true:=by
 unfold xq at h;rw [Bool.and_eq_true] at h;exact h.2
theorem fH{v lo lo' hi:Int}(h:inB v lo hi=true)(hl:lo'<=lo):inB v lo' hi=true:=by
 rw [inB_iff] at h |-;omega
theorem wE{x:Style}:yZ x=true ↔ zo x.u=true/\zo x.c=true/\(decide (x.l.size=0) || zo x.l)=true/\zo x.s=true/\inB x.t 10 300=true/\inB x.h 0 1200=true/\inB x.e 0 12=true/\(decide (x.d=0) && !x.q || inB x.d 10 80)=true:=by
 unfold yZ;simp only [Bool.and_eq_true,and_assoc]
theorem sy(x:Style)(a b:ByteArray):yp x [wUpper,a,b] = { x with u:=a,c:=b }:=by simp [yp,qP]
theorem tG(x:Style)(a:ByteArray):yp x [wLining,a] = { x with l:=a }:=by simp [yp,qQ]
theorem rA(x:Style)(a b:ByteArray):yp x [wSole,a,b] = { x with s:=a,t:=zq b }:=by simp [yp,qT]
theorem rz(x:Style)(a:ByteArray):yp x [wHeel,a] = { x with h:=zq a }:=by simp [yp,qU]
theorem uI(x:Style)(a:ByteArray):yp x [wEyelets,a] = { x with e:=zq a }:=by simp [yp,qV]
theorem tH(x:Style)(a:ByteArray):yp x [wStitch,a] = { x with d:=zq a,q:=false }:=by simp [yp,uL]
theorem tF(x:Style)(a:ByteArray):yp x [wStitch,a,wDouble] = { x with d:=zq a,q:=true }:=by simp [yp,uL]
theorem zcK{x:Style}{w:List ByteArray}(hx:yZ x=true)(h:zE w=0):yZ (yp x w)=true:=by
 rw [wE] at hx |-;obtain ⟨h1,h2,h3,h4,h5,h6,h7,h8⟩:=hx;rcases sX h with ⟨a,b,rfl,ha,hb⟩ | ⟨a,rfl,ha⟩ | ⟨a,b,rfl,ha,hb⟩ | ⟨a,rfl,ha⟩ | ⟨a,rfl,ha⟩ | ⟨a,rfl,ha⟩ | ⟨a,rfl,ha⟩
 ·rw [sy];exact ⟨ha,hb,h3,h4,h5,h6,h7,h8⟩
 ·rw [tG];exact ⟨h1,h2,by rw [Bool.or_eq_true];exact .inr ha,h4,h5,h6,h7,h8⟩
 ·rw [rA];exact ⟨h1,h2,h3,ha,vy hb,h6,h7,h8⟩
 ·rw [rz];exact ⟨h1,h2,h3,h4,h5,vy ha,h7,h8⟩
 ·rw [uI];exact ⟨h1,h2,h3,h4,h5,h6,fH (vy ha) (by omega),h8⟩
 ·rw [tH];exact ⟨h1,h2,h3,h4,h5,h6,h7,by rw [Bool.or_eq_true];exact .inr (vy ha)⟩
 ·rw [tF];exact ⟨h1,h2,h3,h4,h5,h6,h7,by rw [Bool.or_eq_true];exact .inr (vy ha)⟩
theorem pm{t:ByteArray}(h:t.size=0):t=⟨#[]⟩:=by
 rw [<-zu] at h;exact (mL t).symm.trans (by rw [List.eq_nil_of_length_eq_zero h])
end Go.Proofs.YtpiehlfffjhoaaaGreatDoor
