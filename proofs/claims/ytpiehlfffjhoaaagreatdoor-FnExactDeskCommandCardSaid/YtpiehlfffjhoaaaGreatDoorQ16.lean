/- Lemmas for the law on the console: the parts CnP,CnQ,CnR. -/
import Derived.Test.YtpiehlfffjhoaaaGreatDoorQ15
namespace Go.Proofs.YtpiehlfffjhoaaaGreatDoor
open Go.RowKit
set_option maxRecDepth 100000
def okB(p:ByteArray):Bool:=okN p.data.toList
theorem za1(v:Int):∀ b ∈ Lib.itoa v,b=45\/yG b=true:=by
 have h:=xr v;have hd:=(uY v.natAbs).1;intro b hm;rw [<-h.1] at hd;cases hv:Lib.itoa v with
 | nil=>rw [hv] at hm;cases hm
 | cons c r=>
   rw [hv] at hm hd;simp only [yo] at hd;split at hd
   · rename_i hc;rcases List.mem_cons.1 hm with h1 | h1
     ·exact .inl (h1.trans hc)
     ·exact .inr (List.all_eq_true.1 hd _ h1)
   ·exact .inr (List.all_eq_true.1 hd _ hm)
theorem fL{c:UInt8}(hc:yG c=false)(h45:c≠45)(v:Int):c ∉ Lib.itoa v:=by
 intro hm;rcases za1 v c hm with h | h
 ·exact h45 h
 ·rw [hc] at h;cases h
theorem tR(v:Int):(zm v).data.toList=Lib.itoa v:=by unfold zm;simp
theorem zbv{c:UInt8}{s:ByteArray}{L:List ByteArray}(h:zl c s=L):spl c s.data.toList=L.map (·.data.toList):=by
 rw [<-h];unfold zl;rw [List.map_map]
 conv=>lhs;rw [<-List.map_id (spl c s.data.toList)]
 exact List.map_congr_left fun x _=>by simp
theorem po{c:UInt8}{s:ByteArray}{L:List ByteArray}(h:zl c s=L):s.data.toList=[c].intercalate (L.map (·.data.toList)):=by
 rw [<-zbv h];exact jZ c _
theorem py{c:UInt8}{s:ByteArray}{L:List ByteArray}(hne:L≠[])(hf:∀ p ∈ L,c ∉ p.data.toList)(h:s.data.toList=[c].intercalate (L.map (·.data.toList))):zl c s=L:=by
 unfold zl;rw [h,rT _ (by simpa using hne) (by
  intro p hp;obtain ⟨q,hq,rfl⟩:=List.mem_map.1 hp;exact hf q hq),List.map_map]
 conv=>rhs;rw [<-List.map_id L]
 exact List.map_congr_left fun x _=>by simp
theorem nN{s t:ByteArray}(h:s.data.toList=t.data.toList):s=t:=by rw [<-vI s,h,vI]
def mkF(a b c d:ByteArray):Foot:=⟨zq a,zq b,zq c,zq d⟩
def ftB(f:Foot):ByteArray:=if ym f=true then xb f else ⟨#[]⟩
theorem fF{f:Foot}(h:ym f=true):ftB f=xb f:=by unfold ftB;rw [if_pos h]
theorem bu{f:Foot}(h:ym f=false):ftB f=⟨#[]⟩:=by unfold ftB;rw [if_neg (by simp [h])]
theorem nU(f:Foot):(xb f).data.toList=[47].intercalate [Lib.itoa f.length,Lib.itoa f.b,Lib.itoa f.i,Lib.itoa f.h]:=by
 unfold xb;simp only [ua,tR];simp [List.intercalate]
theorem zaR{c:UInt8}(hc:yG c=false)(h45:c≠45)(h47:c≠47)(f:Foot):c ∉ (xb f).data.toList:=by
 rw [nU];simp only [List.intercalate,List.intersperse,List.flatten_cons,List.flatten_nil,List.append_nil,List.mem_append,List.mem_singleton,not_or];have h:=fun v=>fL hc h45 v;simp [h,h47]
def xl(s:ByteArray):Option Foot:=match zl 47 s with
 | [a,b,c,d]=>if (okB a && okB b && okB c && okB d && ym (mkF a b c d))=true then some (mkF a b c d) else none
 | _=>none
theorem mr{s:ByteArray}(h:(zl 47 s).length≠4):xl s=none:=by
 unfold xl;split
 ·rename_i hs;rw [hs] at h;exact absurd rfl h
 ·rfl
theorem ol{s a b c d:ByteArray}(h:zl 47 s=[a,b,c,d]):xl s=if (okB a && okB b && okB c && okB d && ym (mkF a b c d))=true then some (mkF a b c d) else none:=by
 unfold xl;rw [h]
theorem jX(c:UInt8):zl c ⟨#[]⟩=[⟨#[]⟩]:=rfl
theorem jo{s a b c d:ByteArray}(h:zl 47 s=[a,b,c,d])(ha:okB a=true)(hb:okB b=true)(hc:okB c=true)(hd:okB d=true):xb (mkF a b c d)=s:=by
 apply nN;have h1:=(okN_iff.1 ha).2.2.2;have h2:=(okN_iff.1 hb).2.2.2;have h3:=(okN_iff.1 hc).2.2.2;have h4:=(okN_iff.1 hd).2.2.2;rw [po h,nU];simp only [mkF,xe ha,xe hb,xe hc,xe hd,h1,h2,h3,h4,List.map_cons,List.map_nil]
theorem zc8{s a b c d:ByteArray}(h:zl 47 s=[a,b,c,d])(ha:okB a=true)(hb:okB b=true)(hc:okB c=true)(hd:okB d=true):decide (ftB (mkF a b c d)=s)=ym (mkF a b c d):=by
 cases hf:ym (mkF a b c d)
 ·rw [bu hf];apply decide_eq_false;intro e;rw [<-e,jX] at h;cases h
 ·rw [fF hf];exact decide_eq_true (jo h ha hb hc hd)
theorem sx{s:ByteArray}{f:Foot}(h:xl s=some f):xb f=s/\ym f=true:=by
 unfold xl at h;split at h
 · rename_i a b c d hs;split at h
   ·rename_i hc;simp only [Bool.and_eq_true] at hc;obtain ⟨⟨⟨⟨h1,h2⟩,h3⟩,h4⟩,h5⟩:=hc;injection h with h;subst h;exact ⟨jo hs h1 h2 h3 h4,h5⟩
   ·cases h
 ·cases h
def wPitch:ByteArray:=⟨#[112,105,116,99,104]⟩
def xT(x:Last):ByteArray:=((((x.name ++ ⟨#[32]⟩) ++ xb x.foot) ++ ⟨#[32,112,105,116,99,104,32]⟩) ++ zm x.p)
def ltB(x:Last):ByteArray:=if zy x=true then xT x else ⟨#[]⟩
theorem qi{x:Last}(h:zy x=true):ltB x=xT x:=by unfold ltB;rw [if_pos h]
theorem aj{x:Last}(h:zy x=false):ltB x=⟨#[]⟩:=by unfold ltB;rw [if_neg (by simp [h])]
theorem yU{x:Last}(h:zy x=true):zo x.name=true/\ym x.foot=true/\0<=x.p/\x.p<=1000:=by
 unfold zy at h;simp only [Bool.and_eq_true,inB_iff] at h;exact ⟨h.1.1,h.1.2,h.2⟩
theorem lG(x:Last):(xT x).data.toList=[32].intercalate [x.name.data.toList,(xb x.foot).data.toList,wPitch.data.toList,Lib.itoa x.p]:=by
 unfold xT;simp only [ua,tR];simp [List.intercalate,wPitch]
theorem aH{x:Last}(h:zy x=true):zl 32 (xT x)=[x.name,xb x.foot,wPitch,zm x.p]:=by
 obtain ⟨hn,_,_,_⟩:=yU h;refine py (by simp) ?_ ?_
 · intro p hp;simp only [List.mem_cons,List.not_mem_nil,or_false] at hp;rcases hp with rfl | rfl | rfl | rfl
   ·exact pY hn
   ·exact zaR (by decide) (by decide) (by decide) _
   ·decide
   ·rw [tR];exact fL (by decide) (by decide) _
 ·rw [lG];simp [tR]
def mkL(n:ByteArray)(f:Foot)(p:ByteArray):Last:=⟨n,f.length,f.b,f.i,f.h,zq p⟩
theorem zbc(n:ByteArray)(f:Foot)(p:ByteArray):(mkL n f p).foot=f:=rfl
def wg(s:ByteArray):Option Last:=match zl 32 s with
 | [n,ft,q,p]=>(match xl ft with
   | some f=>if (decide (q=wPitch) && okB p && zy (mkL n f p))=true then some (mkL n f p) else none
   | none=>none)
 | _=>none
theorem ms{s:ByteArray}(h:(zl 32 s).length≠4):wg s=none:=by
 unfold wg;split
 ·rename_i hs;rw [hs] at h;exact absurd rfl h
 ·rfl
theorem oX{s n ft q p:ByteArray}(h:zl 32 s=[n,ft,q,p])(hf:xl ft=none):wg s=none:=by
 unfold wg;rw [h];simp only [hf]
theorem lS{s n ft q p:ByteArray}{f:Foot}(h:zl 32 s=[n,ft,q,p])(hf:xl ft=some f):wg s=if (decide (q=wPitch) && okB p && zy (mkL n f p))=true then some (mkL n f p) else none:=by
 unfold wg;rw [h];simp only [hf]
theorem fP{s n ft p:ByteArray}{f:Foot}(h:zl 32 s=[n,ft,wPitch,p])(hf:xl ft=some f)(hp:okB p=true):xT (mkL n f p)=s:=by
 apply nN;have h4:=(okN_iff.1 hp).2.2.2;rw [po h,lG,zbc,(sx hf).1];simp only [mkL,xe hp,h4,List.map_cons,List.map_nil]
theorem ai{s n ft q p:ByteArray}{f:Foot}(h:zl 32 s=[n,ft,q,p])(hf:xl ft=some f)(hp:okB p=true):decide (ltB (mkL n f p)=s)=(decide (q=wPitch) && zy (mkL n f p)):=by
 cases hl:zy (mkL n f p)
 ·rw [aj hl,Bool.and_false];apply decide_eq_false;intro e;rw [<-e,jX] at h;cases h
 · rw [qi hl,Bool.and_true];by_cases hq:q=wPitch
   ·subst hq;rw [decide_eq_true rfl];exact decide_eq_true (fP h hf hp)
   ·rw [decide_eq_false hq];apply decide_eq_false;intro e;have h2:=aH hl;rw [e,h] at h2;injection h2 with _ h2;injection h2 with _ h2;injection h2 with h3 _;exact hq h3
theorem lT{s:ByteArray}{x:Last}(h:wg s=some x):xT x=s/\zy x=true:=by
 unfold wg at h;split at h
 · rename_i n ft q p hs;split at h
   · rename_i f hf;split at h
     ·rename_i hc;simp only [Bool.and_eq_true,decide_eq_true_eq] at hc;obtain ⟨⟨h1,h2⟩,h3⟩:=hc;subst h1;injection h with h;subst h;exact ⟨fP hs hf h2,h3⟩
     ·cases h
   ·cases h
 ·cases h
def chW(k:Int):ByteArray:=if k=1 then ⟨#[108,101,110,103,116,104]⟩ else if k=2 then ⟨#[98,97,108,108]⟩ else if k=3 then ⟨#[105,110,115,116,101,112]⟩ else if k=4 then ⟨#[104,101,101,108]⟩ else if k=5 then ⟨#[112,105,116,99,104]⟩ else ⟨#[]⟩
def chK(p:ByteArray):Int:=if p=chW 1 then 1 else if p=chW 2 then 2 else if p=chW 3 then 3 else if p=chW 4 then 4 else if p=chW 5 then 5 else 0
def wJ(k:Int):Int:=if k=1 then 200 else if k=2\/k=3\/k=4 then 300 else if k=5 then 150 else 0
def xi(k a:Int):Bool:=decide (0 < wJ k) && (decide (a≠0) && inB a (-wJ k) (wJ k))
theorem uX{k a:Int}(h:xi k a=true):1<=k/\k<=5/\a≠0/\ -300<=a/\a<=300:=by
 unfold xi wJ at h;simp only [Bool.and_eq_true,decide_eq_true_eq,inB_iff] at h;obtain ⟨h0,h1,h2,h3⟩:=h
 repeat' split at h0
 all_goals (repeat' split at h2)
 all_goals (repeat' split at h3)
 all_goals omega
theorem zav{k:Int}(h1:1<=k)(h5:k<=5):chK (chW k)=k:=by
 rcases (show k=1\/k=2\/k=3\/k=4\/k=5 by omega) with rfl | rfl | rfl | rfl | rfl <;> decide
theorem zax{p:ByteArray}(h:1<=chK p):chW (chK p)=p:=by
 unfold chK at h |-
 repeat' split
 all_goals first | (rename_i e;exact e.symm) | (simp_all;done) | omega
theorem kW(k:Int):(32:UInt8) ∉ (chW k).data.toList:=by
 unfold chW
 repeat' split
 all_goals decide
def chT(k a:Int):ByteArray:=if xi k a=true then (if 0 < a then ((chW k ++ ⟨#[32,43]⟩) ++ zm a) else ((chW k ++ ⟨#[32]⟩) ++ zm a)) else ⟨#[]⟩
def chN(c:UInt8)(r:List UInt8):Int:=if c=45 then -(xk r) else xk r
def wv(s:ByteArray):Option (Int × Int):=match zl 32 s with
 | [p,q]=>(match q.data.toList with
   | c :: r=>if (decide (c=43\/c=45) && okN r && inB (xk r) 1 300 && xi (chK p) (chN c r))=true then some (chK p,chN c r) else none
   | []=>none)
 | _=>none
theorem dM{s:ByteArray}(h:(zl 32 s).length≠2):wv s=none:=by
 unfold wv;split
 ·rename_i hs;rw [hs] at h;exact absurd rfl h
 ·rfl
theorem lB{n:Int}(h:0<=n):Lib.itoa (-n)=if n=0 then Lib.itoa 0 else 45 :: Lib.itoa n:=by
 by_cases h0:n=0
 ·subst h0;rfl
 · rw [if_neg h0];unfold Lib.itoa;rw [if_pos (by omega),if_neg (by omega)]
   congr 2
   omega
theorem nk{k a:Int}(h:xi k a=true):(chT k a).data.toList=[32].intercalate [(chW k).data.toList,(if 0 < a then 43 else 45) :: Lib.itoa a.natAbs]:=by
 obtain ⟨_,_,h0,_,_⟩:=uX h;unfold chT;rw [if_pos h];by_cases hp:0 < a
 · rw [if_pos hp,if_pos hp];have:((a.natAbs:Nat):Int)=a:=by omega
   simp only [ua,tR,this];simp [List.intercalate]
 · rw [if_neg hp,if_neg hp];have e:a = -((a.natAbs:Nat):Int):=by omega
   have h2:=lB (n:=((a.natAbs:Nat):Int)) (by omega);rw [if_neg (by omega),<-e] at h2;simp only [ua,tR,h2];simp [List.intercalate]
theorem az{k a:Int}(h:xi k a=true):wv (chT k a)=some (k,a):=by
 obtain ⟨h1,h5,h0,hl,hu⟩:=uX h;have hs:zl 32 (chT k a)=[chW k,⟨((if 0 < a then 43 else 45) :: Lib.itoa a.natAbs).toArray⟩]:=by
  refine py (by simp) ?_ ?_
  · intro p hp;simp only [List.mem_cons,List.not_mem_nil,or_false] at hp;rcases hp with rfl | rfl
    ·exact kW k
    ·simp only [List.mem_cons,not_or];exact ⟨by split <;> decide,sq _⟩
  ·rw [nk h];rfl
 unfold wv;rw [hs];simp only [];have e1:xk (Lib.itoa ((a.natAbs:Nat):Int))=(a.natAbs:Nat):=(xr _).2;have e2:okN (Lib.itoa ((a.natAbs:Nat):Int))=true:=uf (by omega) (by omega);rw [zav h1 h5,e1,e2];by_cases hp:0 < a
 · have ea:chN 43 (Lib.itoa ((a.natAbs:Nat):Int))=a:=by unfold chN;rw [if_neg (by decide),e1];omega
   rw [if_pos hp,ea,h,nu (by omega) (by omega)];rfl
 · have ea:chN 45 (Lib.itoa ((a.natAbs:Nat):Int))=a:=by unfold chN;rw [if_pos rfl,e1];omega
   rw [if_neg hp,ea,h,nu (by omega) (by omega)];rfl
theorem lR{s:ByteArray}{k a:Int}(h:wv s=some (k,a)):chT k a=s/\xi k a=true:=by
 unfold wv at h;split at h
 · rename_i p q hs;split at h
   · rename_i c r hq;split at h
     · rename_i hc;simp only [Bool.and_eq_true,decide_eq_true_eq,inB_iff] at hc;obtain ⟨⟨⟨h1,h2⟩,h3,h4⟩,h5⟩:=hc;injection h with h;injection h with hk ha;subst hk;rw [ha] at h5;unfold chN at ha;refine ⟨?_,h5⟩;have h6:=(okN_iff.1 h2).2.2.2;obtain ⟨k1,_,_⟩:=uX h5;apply nN;rw [nk h5,po hs,zax k1];simp only [List.map_cons,List.map_nil,hq]
       congr 3
       rcases h1 with rfl | rfl
       · rw [if_neg (by decide)] at ha;have e:((a.natAbs:Nat):Int)=xk r:=by omega
         rw [if_pos (by omega),e,h6]
       · rw [if_pos rfl] at ha;have e:((a.natAbs:Nat):Int)=xk r:=by omega
         rw [if_neg (by omega),e,h6]
     ·cases h
   ·cases h
 ·cases h
theorem zba:∀ (l r:List UInt8),Op.bytesLess l r=decide (l < r):=by
 intro l
 induction l with
 | nil=>intro r;cases r <;> simp [Op.bytesLess]
 | cons c t ih=>
   intro r;cases r with
   | nil=>simp [Op.bytesLess]
   | cons d u=>
     rw [Op.bytesLess,ih u,Bool.eq_iff_iff,decide_eq_true_eq,List.cons_lt_cons_iff,Bool.or_eq_true,Bool.and_eq_true,beq_iff_eq,decide_eq_true_eq,decide_eq_true_eq]
theorem jC(a b:ByteArray):yR a b=decide (a.data.toList < b.data.toList):=by unfold yR;rw [zba,Lib.toList_data,Lib.toList_data]
theorem pP{a b:ByteArray}:yR a b=true ↔ a.data.toList < b.data.toList:=by rw [jC,decide_eq_true_eq]
theorem tZ{a b c:ByteArray}(h1:yR a b=true)(h2:yR b c=true):yR a c=true:=by
 rw [pP] at *;exact List.lt_trans h1 h2
theorem tc(a:ByteArray):yR a a=false:=by
 rw [jC];exact decide_eq_false (List.lt_irrefl _)
theorem tB{a b:ByteArray}(h1:yR a b=true):yR b a=false:=by
 cases h:yR b a
 ·rfl
 ·have:=tZ h1 h;rw [tc] at this;cases this
theorem pQ(a b:ByteArray):yR a b=true\/a=b\/yR b a=true:=by
 rw [pP,pP];rcases Std.lt_trichotomy a.data.toList b.data.toList with h | h | h
 ·exact .inl h
 ·exact .inr (.inl (nN h))
 ·exact .inr (.inr h)
theorem nA{a b:ByteArray}(h:yR a b=true):a≠b:=by
 intro e;rw [e,tc] at h;cases h
def vm(a b:Last):Prop:=yR a.name b.name=true
theorem mc:∀ (xs:List Last) (p:Option ByteArray),yO p xs=true->(∀ q,p=some q->∀ x ∈ xs,yR q x.name=true)/\xs.Pairwise vm
 | [],_,_=>⟨by simp,List.Pairwise.nil⟩
 | x :: xs,p,h=>by
   have h2:yO (some x.name) xs=true:=by cases p <;> (simp only [yO,Bool.and_eq_true] at h;first | exact h.2 | exact h.2.2)
   obtain ⟨h3,h4⟩:=mc xs (some x.name) h2;refine ⟨?_,List.Pairwise.cons (h3 x.name rfl) h4⟩;intro q hq y hy;subst hq;simp only [yO,Bool.and_eq_true] at h;rcases List.mem_cons.1 hy with rfl | hy
   ·exact h.2.1
   ·exact tZ h.2.1 (h3 x.name rfl y hy)
theorem lF:∀ (xs:List Last) (p:Option ByteArray),yO p xs=true->∀ x ∈ xs,zy x=true
 | [],_,_=>by simp
 | x :: xs,p,h=>by
   have h2:zy x=true/\yO (some x.name) xs=true:=by cases p <;> (simp only [yO,Bool.and_eq_true] at h;first | exact ⟨h.1,h.2⟩ | exact ⟨h.1,h.2.2⟩)
   intro y hy;rcases List.mem_cons.1 hy with rfl | hy
   ·exact h2.1
   ·exact lF xs _ h2.2 y hy
theorem jz:∀ (xs:List Last) (p:Option ByteArray),(∀ q,p=some q->∀ x ∈ xs,yR q x.name=true)->xs.Pairwise vm->(∀ x ∈ xs,zy x=true)->yO p xs=true
 | [],p,_,_,_=>by cases p <;> rfl
 | x :: xs,p,h1,h2,h3=>by
   obtain ⟨a,b⟩:=List.pairwise_cons.1 h2;have ih:=jz xs (some x.name) (fun q e=>by injection e with e;subst e;exact a) b (fun y hy=>h3 y (by simp [hy]));cases p with
   | none=>simp only [yO,ih,h3 x (by simp),Bool.and_self]
   | some q=>simp only [yO,ih,h3 x (by simp),h1 q rfl x (by simp),Bool.and_self]
theorem tU{xs:List Last}(h:yx xs=true):xs.Pairwise vm:=by
 unfold yx at h;rw [Bool.and_eq_true] at h;exact (mc xs none h.1).2
theorem xc{xs:List Last}(h:yx xs=true):∀ x ∈ xs,zy x=true:=by
 unfold yx at h;rw [Bool.and_eq_true] at h;exact lF xs none h.1
theorem wj{xs:List Last}(h:yx xs=true):xs.length<=30:=by
 unfold yx at h;rw [Bool.and_eq_true,decide_eq_true_eq] at h;exact h.2
theorem bY{xs:List Last}(h2:xs.Pairwise vm)(h3:∀ x ∈ xs,zy x=true)(h4:xs.length<=30):yx xs=true:=by
 unfold yx;rw [Bool.and_eq_true,decide_eq_true_eq];exact ⟨jz xs none (by simp) h2 h3,h4⟩
def lbN(nm:ByteArray):List Last->Nat
 | []=>0
 | x :: xs=>if yR x.name nm=true then lbN nm xs + 1 else 0
theorem ve(nm:ByteArray):∀ xs:List Last,lbN nm xs<=xs.length
 | []=>by simp [lbN]
 | x :: xs=>by
   have:=ve nm xs;simp only [lbN,List.length_cons];split <;> omega
theorem rb(nm:ByteArray):∀ (xs:List Last),xs.Pairwise vm->∀ k x,xs[k]?=some x->(yR x.name nm=true ↔ k < lbN nm xs)
 | [],_,k,x,h=>by simp at h
 | y :: ys,hp,k,x,h=>by
   obtain ⟨h1,h2⟩:=List.pairwise_cons.1 hp;cases k with
   | zero=>
     simp only [List.getElem?_cons_zero,Option.some.injEq] at h;subst h;simp only [lbN];split
     ·rename_i e;simp [e]
     ·rename_i e;simp [e]
   | succ k=>
     simp only [List.getElem?_cons_succ] at h;have ih:=rb nm ys h2 k x h;have h3:=h1 x (List.mem_of_getElem? h);simp only [lbN];split
     ·rw [ih];omega
     · rename_i e;constructor
       ·intro hx;exact absurd (tZ h3 hx) e
       ·omega
def xN(nm:ByteArray)(xs:List Last):Bool:=(xs[lbN nm xs]?).any (fun x=>decide (x.name=nm))
def vV(nm:ByteArray):List Last->Nat->Int
 | [],_=>-1
 | x :: xs,k=>if x.name=nm then (k:Int) else vV nm xs (k + 1)
theorem nR(nm:ByteArray):∀ (xs:List Last) (k:Nat),(∀ x ∈ xs,x.name≠nm)->vV nm xs k = -1
 | [],_,_=>rfl
 | x :: xs,k,h=>by
   simp only [vV];rw [if_neg (h x (by simp)),nR nm xs _ (fun y hy=>h y (by simp [hy]))]
theorem jh(nm:ByteArray):∀ (xs:List Last),xs.Pairwise vm->∀ k,vV nm xs k=if xN nm xs=true then ((k + lbN nm xs:Nat):Int) else -1
 | [],_,k=>by simp [vV,xN]
 | y :: ys,hp,k=>by
   obtain ⟨h1,h2⟩:=List.pairwise_cons.1 hp;have ih:=jh nm ys h2 (k + 1);simp only [vV];by_cases he:y.name=nm
   · have:lbN nm (y :: ys)=0:=by simp only [lbN];rw [if_neg (by rw [he,tc];simp)]
     rw [if_pos he];simp only [xN,this,List.getElem?_cons_zero,Option.any_some,decide_eq_true he];simp
   · rw [if_neg he];by_cases hl:yR y.name nm=true
     · have:lbN nm (y :: ys)=lbN nm ys + 1:=by simp only [lbN];rw [if_pos hl]
       have e:xN nm (y :: ys)=xN nm ys:=by simp only [xN,this,List.getElem?_cons_succ]
       rw [ih,e,this,show k + 1 + lbN nm ys=k + (lbN nm ys + 1) from by omega]
     · have:lbN nm (y :: ys)=0:=by simp only [lbN];rw [if_neg hl]
       simp only [xN,this,List.getElem?_cons_zero,Option.any_some,decide_eq_false he];rw [nR]
       ·simp
       ·intro z hz e;have:=h1 z hz;unfold vm at this;rw [e] at this;exact hl this
theorem pL{nm:ByteArray}{xs:List Last}(h:yx xs=true):vV nm xs 0=if xN nm xs=true then (lbN nm xs:Int) else -1:=by
 have:=jh nm xs (tU h) 0;simpa using this
theorem zcn{nm:ByteArray}{xs:List Last}(h:xN nm xs=true):∃ x,xs[lbN nm xs]?=some x/\x.name=nm:=by
 unfold xN at h;cases hx:xs[lbN nm xs]? with
 | none=>rw [hx] at h;simp at h
 | some x=>rw [hx] at h;exact ⟨x,rfl,by simpa using h⟩
theorem nB{nm:ByteArray}{xs:List Last}(hp:xs.Pairwise vm)(hh:xN nm xs=false){j:Nat}{y:Last}(hy:xs[j]?=some y)(hj:lbN nm xs<=j):yR nm y.name=true:=by
 have hn:¬ yR y.name nm=true:=fun h=>by have:=(rb nm xs hp j y hy).1 h;omega
 rcases pQ y.name nm with h | h | h
 ·exact absurd h hn
 · exfalso;have hlen:=(List.getElem?_eq_some_iff.1 hy).1;obtain ⟨z,hz⟩:∃ z,xs[lbN nm xs]?=some z:=⟨_,List.getElem?_eq_getElem (by omega)⟩
   have hz2:¬ yR z.name nm=true:=fun h=>by have:=(rb nm xs hp _ z hz).1 h;omega
   have hz3:z.name≠nm:=by
    intro e;unfold xN at hh;rw [hz] at hh;simp [e] at hh
   rcases Nat.lt_or_eq_of_le hj with hlt | heq
   ·obtain ⟨a,ha⟩:=List.getElem?_eq_some_iff.1 hz;obtain ⟨b,hb⟩:=List.getElem?_eq_some_iff.1 hy;have:=List.pairwise_iff_getElem.1 hp _ _ a b hlt;unfold vm at this;rw [ha,hb,h] at this;exact hz2 this
   ·rw [<-heq,hz] at hy;injection hy with hy;exact hz3 (by rw [hy,h])
 ·exact h
def uR(xs:List Last)(i:Nat)(x:Last):List Last:=xs.take i ++ x :: xs.drop i
theorem vc(xs:List Last)(i:Nat)(x:Last)(hi:i<=xs.length):(uR xs i x).length=xs.length + 1:=by simp [uR];omega
def yT(xs:List Last)(x:Last):List Last × Int:=
 if yx xs=true then (if zy x=true then (if xN x.name xs=true then ([],4) else if xs.length=30 then ([],5) else (uR xs (lbN x.name xs) x,0)) else ([],2)) else ([],1)
section
variable {xs:List Last} {x:Last}
theorem qx(h:yx xs=false):yT xs x=([],1):=by unfold yT;rw [if_neg (by simp [h])]
theorem qy(h:yx xs=true)(h2:zy x=false):yT xs x=([],2):=by unfold yT;rw [if_pos h,if_neg (by simp [h2])]
theorem qw(h:yx xs=true)(h2:zy x=true)(h3:xN x.name xs=true):yT xs x=([],4):=by unfold yT;rw [if_pos h,if_pos h2,if_pos h3]
theorem pD(h:yx xs=true)(h2:zy x=true)(h3:xN x.name xs=false)(h4:xs.length=30):yT xs x=([],5):=by unfold yT;rw [if_pos h,if_pos h2,if_neg (by simp [h3]),if_pos h4]
theorem uW(h:yx xs=true)(h2:zy x=true)(h3:xN x.name xs=false)(h4:¬ xs.length=30):yT xs x=(uR xs (lbN x.name xs) x,0):=by unfold yT;rw [if_pos h,if_pos h2,if_neg (by simp [h3]),if_neg h4]
end
theorem kN(xs:List Last)(x:Last):((yT xs x).1.length:Int)<=30:=by
 unfold yT;split
 · rename_i h;have:=wj h
   repeat' split
   all_goals (first | (simp;done) | skip)
   rw [vc _ _ _ (ve _ _)];omega
 ·simp
theorem zbl{xs:List Last}{x:Last}(hp:xs.Pairwise vm)(hh:xN x.name xs=false):(uR xs (lbN x.name xs) x).Pairwise vm:=by
 unfold uR;have hl:=ve x.name xs;rw [List.pairwise_append];refine ⟨hp.take,?_,?_⟩
 ·rw [List.pairwise_cons];refine ⟨?_,hp.drop⟩;intro y hy;obtain ⟨j,hj⟩:=List.getElem?_of_mem hy;rw [List.getElem?_drop] at hj;exact nB hp hh hj (by omega)
 · have key:∀ a ∈ xs.take (lbN x.name xs),yR a.name x.name=true:=by
    intro a ha;obtain ⟨j,hj⟩:=List.getElem?_of_mem ha;rw [List.getElem?_take] at hj;split at hj
    ·rename_i hlt;exact (rb x.name xs hp j a hj).2 hlt
    ·cases hj
   intro a ha b hb;rcases List.mem_cons.1 hb with rfl | hb
   ·exact key a ha
   ·obtain ⟨j,hj⟩:=List.getElem?_of_mem hb;rw [List.getElem?_drop] at hj;exact tZ (key a ha) (nB hp hh hj (by omega))
theorem kO{xs:List Last}{x:Last}(h:(yT xs x).2=0):yx (yT xs x).1=true/\yx xs=true:=by
 cases h1:yx xs
 ·rw [qx h1] at h;cases h
 cases h2:zy x
 ·rw [qy h1 h2] at h;cases h
 cases h3:xN x.name xs
 · by_cases h4:xs.length=30
   ·rw [pD h1 h2 h3 h4] at h;cases h
   · rw [uW h1 h2 h3 h4];refine ⟨bY (zbl (tU h1) h3) ?_ ?_,rfl⟩
     · intro y hy;unfold uR at hy;rcases List.mem_append.1 hy with hy | hy
       ·exact xc h1 y (List.mem_of_mem_take hy)
       · rcases List.mem_cons.1 hy with rfl | hy
         ·exact h2
         ·exact xc h1 y (List.mem_of_mem_drop hy)
     · show (uR xs (lbN x.name xs) x).length<=30
       rw [vc _ _ _ (ve _ _)];have:=wj h1;omega
 ·rw [qw h1 h2 h3] at h;cases h
theorem zcw{xs:List Last}{k:Nat}{x y:Last}(h:yx xs=true)(hx:xs[k]?=some x)(hy:zy y=true)(hn:y.name=x.name):yx (xs.set k y)=true:=by
 obtain ⟨hk,he⟩:=List.getElem?_eq_some_iff.1 hx;refine bY ?_ ?_ (by rw [List.length_set];exact wj h)
 · rw [List.pairwise_iff_getElem];intro i j hi hj hij;have hp:=List.pairwise_iff_getElem.1 (tU h) i j (by simpa using hi) (by simpa using hj) hij;unfold vm at hp |-;rw [List.getElem_set,List.getElem_set];by_cases h1:k=i
   ·rw [if_pos h1,if_neg (by omega)];subst h1;rw [he] at hp;rw [hn];exact hp
   · by_cases h2:k=j
     ·rw [if_neg h1,if_pos h2];subst h2;rw [he] at hp;rw [hn];exact hp
     ·rw [if_neg h1,if_neg h2];exact hp
 · intro z hz;rcases List.mem_or_eq_of_mem_set hz with hz | hz
   ·exact xc h z hz
   ·rw [hz];exact hy
def yw(xs:List Last)(nm:ByteArray):Int × Int:=
 if yx xs=true then (if zo nm=true then (if xN nm xs=true then ((lbN nm xs:Int),0) else (0,3)) else (0,2)) else (0,1)
def apt(a b:Int):Int:=max (a - b) (b - a)
def rmP(x:Last)(f:Foot):Int:=x.length - f.length
def okC(x:Last)(f:Foot)(lo hi gi:Int):Bool:=inB (rmP x f) lo hi && (decide (apt x.b f.b<=gi) && (decide (apt x.i f.i<=gi) && decide (apt x.h f.h<=gi)))
def vB(x:Last)(f:Foot)(lo:Int):Int:=(rmP x f - lo) + apt x.b f.b + apt x.i f.i + apt x.h f.h
def va(lo hi gi:Int):Bool:=inB hi 0 500 && (inB lo 0 hi && inB gi 0 500)
section
variable (f:Foot) (lo hi gi:Int)
def zaq(b:Option (Nat × Int))(i:Nat)(x:Last):Option (Nat × Int):=
 if okC x f lo hi gi=true then (match b with
  | none=>some (i,vB x f lo)
  | some (j,m)=>if vB x f lo < m then some (i,vB x f lo) else some (j,m)) else b
def oA:Option (Nat × Int)->Nat->List Last->Option (Nat × Int)
 | b,_,[]=>b
 | b,i,x :: r=>oA (zaq f lo hi gi b i x) (i + 1) r
def yV:Nat->List Last->List (Nat × Int)
 | _,[]=>[]
 | i,x :: r=>if okC x f lo hi gi=true then (i,vB x f lo) :: yV (i + 1) r else yV (i + 1) r
end
def wt(b:Option (Nat × Int))(p:Nat × Int):Option (Nat × Int):=match b with
 | none=>some p
 | some (j,m)=>if p.2 < m then some p else some (j,m)
theorem ul(f:Foot)(lo hi gi:Int):∀ (xs:List Last) (b:Option (Nat × Int)) (i:Nat),oA f lo hi gi b i xs=(yV f lo hi gi i xs).foldl wt b
 | [],b,i=>rfl
 | x :: r,b,i=>by
   simp only [oA,yV];by_cases h:okC x f lo hi gi=true
   · rw [if_pos h,List.foldl_cons,<-ul f lo hi gi r]
     congr 1
     unfold zaq wt;rw [if_pos h]
   · rw [if_neg h,<-ul f lo hi gi r]
     congr 1
     unfold zaq;rw [if_neg h]
def xE(xs:List Last)(f:Foot)(lo hi gi:Int):Int × Int:=
 if (yx xs && (ym f && va lo hi gi))=true then (match oA f lo hi gi none 0 xs with
  | some (k,_)=>((k:Int),0)
  | none=>(0,10)) else (0,1)
theorem sK(f:Foot)(lo hi gi:Int):∀ (xs:List Last) (i:Nat) (x:Last),yV f lo hi gi i (xs ++ [x])=yV f lo hi gi i xs ++ (if okC x f lo hi gi=true then [(i + xs.length,vB x f lo)] else [])
 | [],i,x=>by simp only [List.nil_append,yV];split <;> rfl
 | y :: r,i,x=>by
   simp only [List.cons_append,yV,sK f lo hi gi r (i + 1) x,List.length_cons];rw [show i + 1 + r.length=i + (r.length + 1) by omega];split <;> rfl
theorem la(f:Foot)(lo hi gi:Int):∀ (xs:List Last) (i:Nat),(yV f lo hi gi i xs).length<=xs.length
 | [],_=>by simp [yV]
 | x :: r,i=>by
   have:=la f lo hi gi r (i + 1);simp only [yV,List.length_cons];split
   ·simp only [List.length_cons];omega
   ·omega
theorem ni(f:Foot)(lo hi gi:Int):∀ (xs:List Last) (i:Nat) (p:Nat × Int),p ∈ yV f lo hi gi i xs->i<=p.1/\p.1 < i + xs.length
 | [],_,p,h=>by simp [yV] at h
 | x :: r,i,p,h=>by
   simp only [yV] at h;split at h
   · rcases List.mem_cons.1 h with rfl | h
     ·simp
     ·have:=ni f lo hi gi r (i + 1) p h;simp only [List.length_cons];omega
   ·have:=ni f lo hi gi r (i + 1) p h;simp only [List.length_cons];omega
theorem rJ:∀ (l:List (Nat × Int)) (p:Nat × Int),∃ q,l.foldl wt (some p)=some q/\(q=p\/q ∈ l)/\q.2<=p.2
 | [],p=>⟨p,rfl,.inl rfl,Int.le_refl _⟩
 | r :: l,p=>by
   rw [List.foldl_cons];by_cases h:r.2 < p.2
   · have e:wt (some p) r=some r:=by unfold wt;exact if_pos h
     rw [e];obtain ⟨q,h1,h2,h3⟩:=rJ l r;refine ⟨q,h1,?_,by omega⟩;rcases h2 with h2 | h2
     ·exact .inr (by simp [h2])
     ·exact .inr (by simp [h2])
   · have e:wt (some p) r=some p:=by unfold wt;exact if_neg h
     rw [e];obtain ⟨q,h1,h2,h3⟩:=rJ l p;refine ⟨q,h1,?_,h3⟩;rcases h2 with h2 | h2
     ·exact .inl h2
     ·exact .inr (by simp [h2])
theorem pF{xs:List Last}{f:Foot}{lo hi gi:Int}(h:(xE xs f lo hi gi).2=0):∃ (k:Nat) (x:Last),(xE xs f lo hi gi).1=(k:Int)/\xs[k]?=some x/\yx xs=true:=by
 unfold xE at h |-;split at h
 · rename_i hc;rw [if_pos hc];cases hb:oA f lo hi gi none 0 xs with
   | none=>rw [hb] at h;cases h
   | some p=>
     obtain ⟨k,m⟩:=p;simp only [Bool.and_eq_true] at hc;rw [ul] at hb;cases ha:yV f lo hi gi 0 xs with
     | nil=>rw [ha] at hb;cases hb
     | cons a l=>
       rw [ha,List.foldl_cons] at hb;obtain ⟨q,h1,h2,_⟩:=rJ l a;have e:wt none a=some a:=rfl;rw [e,h1] at hb;injection hb with hb;subst hb;have hm:((k,m):Nat × Int) ∈ yV f lo hi gi 0 xs:=by
        rw [ha];rcases h2 with h2 | h2
        ·simp [h2]
        ·simp [h2]
       have hk:=(ni f lo hi gi xs 0 _ hm).2;simp only [Nat.zero_add] at hk;exact ⟨k,xs[k],rfl,List.getElem?_eq_getElem hk,hc.1⟩
 ·cases h
def uS:List Int->Int->Int
 | [],m=>m
 | c :: r,m=>uS r (min m c)
def rq(c:Int):List Int->Nat->Int
 | [],_=>-1
 | x :: r,i=>if x=c then (i:Int) else rq c r (i + 1)
theorem pV:∀ (l:List (Nat × Int)) (p:Nat × Int),∃ q,l.foldl wt (some p)=some q/\q.2=uS (l.map (·.2)) p.2
 | [],p=>⟨p,rfl,rfl⟩
 | r :: l,p=>by
   rw [List.foldl_cons,List.map_cons];by_cases h:r.2 < p.2
   · have e:wt (some p) r=some r:=by unfold wt;exact if_pos h
     rw [e];obtain ⟨q,h1,h2⟩:=pV l r;exact ⟨q,h1,by rw [h2,uS,show min p.2 r.2=r.2 by omega]⟩
   · have e:wt (some p) r=some p:=by unfold wt;exact if_neg h
     rw [e];obtain ⟨q,h1,h2⟩:=pV l p;exact ⟨q,h1,by rw [h2,uS,show min p.2 r.2=p.2 by omega]⟩
theorem bj:∀ (l:List (Nat × Int)) (p:Nat × Int) (q:Nat × Int),l.foldl wt (some p)=some q ->
 ∃ k:Nat,rq (uS (l.map (·.2)) p.2) ((p :: l).map (·.2)) 0=(k:Int)/\(p :: l)[k]?=some q:=by
 have key:∀ (l:List (Nat × Int)) (done:List (Nat × Int)) (j:Nat) (p q:Nat × Int),done[j]?=some p->(∀ (i:Nat) (r:Nat × Int),done[i]?=some r->p.2<=r.2/\(i < j->p.2 < r.2))->l.foldl wt (some p)=some q ->
  ∃ k:Nat,(done ++ l)[k]?=some q/\∀ (i:Nat) (r:Nat × Int),(done ++ l)[i]?=some r->q.2<=r.2/\(i < k->q.2 < r.2):=by
  intro l
  induction l with
  | nil=>
    intro done j p q h1 h2 h3;injection h3 with h3;subst h3;exact ⟨j,by simpa using h1,by simpa using h2⟩
  | cons r l ih=>
    intro done j p q h1 h2 h3;have e:done ++ r :: l=(done ++ [r]) ++ l:=by simp
    have hj:=(List.getElem?_eq_some_iff.1 h1).1;rw [e];rw [List.foldl_cons] at h3;by_cases h:r.2 < p.2
    · have e2:wt (some p) r=some r:=by unfold wt;exact if_pos h
      rw [e2] at h3;refine ih (done ++ [r]) done.length r q (by simp) ?_ h3;intro i s hs;by_cases hi:i < done.length
      ·rw [List.getElem?_append_left hi] at hs;have:=(h2 i s hs).1;exact ⟨by omega,fun _=>by omega⟩
      · rw [List.getElem?_append_right (by omega)] at hs;have hi2:i=done.length:=by
         have:=(List.getElem?_eq_some_iff.1 hs).1;simp at this;omega
        subst hi2;simp at hs;subst hs;exact ⟨Int.le_refl _,fun h=>by omega⟩
    · have e2:wt (some p) r=some p:=by unfold wt;exact if_neg h
      rw [e2] at h3;refine ih (done ++ [r]) j p q (by rw [List.getElem?_append_left hj];exact h1) ?_ h3;intro i s hs;by_cases hi:i < done.length
      ·rw [List.getElem?_append_left hi] at hs;exact h2 i s hs
      · rw [List.getElem?_append_right (by omega)] at hs;have hi2:i=done.length:=by
         have:=(List.getElem?_eq_some_iff.1 hs).1;simp at this;omega
        subst hi2;simp at hs;subst hs;exact ⟨by omega,fun h=>by omega⟩
 have idx:∀ (l:List (Nat × Int)) (k:Nat) (q:Nat × Int) (o:Nat),l[k]?=some q->(∀ (i:Nat) (r:Nat × Int),l[i]?=some r->i < k->q.2≠r.2)->rq q.2 (l.map (·.2)) o=((o + k:Nat):Int):=by
  intro l
  induction l with
  | nil=>intro k q o h;simp at h
  | cons r l ih=>
    intro k q o h1 h2;simp only [List.map_cons,rq];cases k with
    | zero=>
      simp at h1;subst h1;rw [if_pos rfl];simp
    | succ k=>
      simp only [List.getElem?_cons_succ] at h1;rw [if_neg (fun e=>h2 0 r (by simp) (by omega) e.symm),ih k q (o + 1) h1 (fun i s hs hi=>h2 (i + 1) s (by simpa using hs) (by omega))]
      congr 1
      omega
 intro l p q h;obtain ⟨q2,e1,e2⟩:=pV l p;rw [h] at e1;injection e1 with e1;subst e1;obtain ⟨k,h1,h2⟩:=key l [p] 0 p q (by simp) (by
  intro i r hr;have hi:i=0:=by
   have:=(List.getElem?_eq_some_iff.1 hr).1;simp at this;omega
  subst hi;simp at hr;subst hr;exact ⟨Int.le_refl _,fun h=>by omega⟩) h
 rw [List.singleton_append] at h1 h2;refine ⟨k,?_,h1⟩;rw [<-e2,idx _ k q 0 h1 (fun i r hr hi=>by have:=(h2 i r hr).2 hi;omega)];simp
def wK(x:Last)(f:Foot):List Int:=[max (f.b - x.b) 0,max (f.i - x.i) 0,max (f.h - x.h) 0]
def shB(n:Int):Bool:=inB n 0 400
def xy(s i h o:Int):List Int × Int:=
 if (shB s && (shB i && (shB h && shB o)))=true then
  (if min s i + min (s - min s i) h + min (s - min s i - min (s - min s i) h) o < s then ([],10)
   else ([min s i,min (s - min s i) h + min (s - min s i - min (s - min s i) h) o,min (s - min s i - min (s - min s i) h) o],0))
 else ([],2)
def xR(x:Last)(k a:Int):Last:=
 if k=1 then { x with length:=x.length + a } else if k=2 then { x with b:=x.b + a } else if k=3 then { x with i:=x.i + a } else if k=4 then { x with h:=x.h + a } else { x with p:=x.p + a }
def ut:Last:=⟨⟨#[]⟩,0,0,0,0,0⟩
def xZ(x:Last)(k a:Int):Last × Int:=
 if (zy x && xi k a)=true then (if zy (xR x k a)=true then (xR x k a,0) else (ut,10)) else (ut,1)
theorem pG(x:Last)(k a:Int):(xR x k a).name=x.name:=by
 unfold xR;by_cases h1:k=1
 ·rw [if_pos h1]
 rw [if_neg h1];by_cases h2:k=2
 ·rw [if_pos h2]
 rw [if_neg h2];by_cases h3:k=3
 ·rw [if_pos h3]
 rw [if_neg h3];by_cases h4:k=4
 ·rw [if_pos h4]
 rw [if_neg h4]
theorem rD{x:Last}{k a:Int}(h:(xZ x k a).2=0):(xZ x k a).1=xR x k a/\zy (xR x k a)=true:=by
 unfold xZ at h |-;split at h
 · rename_i hc;rw [if_pos hc];split at h
   ·rename_i h2;rw [if_pos h2];exact ⟨rfl,h2⟩
   ·cases h
 ·cases h
end Go.Proofs.YtpiehlfffjhoaaaGreatDoor
