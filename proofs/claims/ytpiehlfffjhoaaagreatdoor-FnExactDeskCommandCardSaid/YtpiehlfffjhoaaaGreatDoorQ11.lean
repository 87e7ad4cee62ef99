/- Lemmas for the law on the console: the parts StyR,StyA. -/
import Derived.Test.YtpiehlfffjhoaaaGreatDoorQ10
import Derived.Lib.OwnBridge
namespace Go.Proofs.YtpiehlfffjhoaaaGreatDoor
open Go.RowKit Go.Proofs.Tryz
set_option maxRecDepth 100000
set_option maxHeartbeats 1600000
structure TroubleP where
 clause:Int
 code:Int
def hdW(c:ByteArray):ByteArray:=(zP c).headD ⟨#[]⟩
def xd(t:ByteArray)(l:List ByteArray):Bool:=l.any fun u=>decide (u=t)
theorem memB_iff{t:ByteArray}{l:List ByteArray}:xd t l=true ↔ t ∈ l:=by
 unfold xd;rw [List.any_eq_true];constructor
 ·rintro ⟨u,hu,h⟩;rw [decide_eq_true_eq] at h;subst h;exact hu
 ·intro h;exact ⟨t,h,by simp⟩
def um(c:ByteArray)(seen:List ByteArray):Int:=if zE (zP c)=0/\xd (hdW c) seen=true then 5 else zE (zP c)
def xz:List ByteArray->List ByteArray->Nat->List TroubleP
 | [],_,_=>[]
 | c :: r,seen,i=>(if um c seen=0 then [] else [⟨i,um c seen⟩]) ++ xz r (seen ++ [hdW c]) (i + 1)
def ma(cl:List ByteArray):List TroubleP:=if xd wUpper (cl.map hdW)=true/\xd wSole (cl.map hdW)=true then [] else [⟨cl.length,6⟩]
def tro(cl:List ByteArray):List TroubleP:=xz cl [] 0 ++ ma cl
def yA:Style:=⟨⟨#[]⟩,⟨#[]⟩,⟨#[]⟩,⟨#[]⟩,0,0,0,0,false⟩
def wG(x:Style)(cl:List ByteArray):Style:=cl.foldl (fun x c=>yp x (zP c)) x
def xG(s:ByteArray):Bool:=decide (s.size<=300) && decide ((zl 59 s).length<=12)
def wu(t:ByteArray):List ByteArray:=if t.size=0 then [] else [t]
def vf(x:Style):List ByteArray:=(xA x).flatMap wu
def xQ(x:Style):ByteArray:=⟨([59,32].intercalate ((vf x).map (·.data.toList))).toArray⟩
theorem fX(w:List ByteArray):0<=zE w/\zE w<=4:=by
 cases w with
 | nil=>simp [zE]
 | cons t r=>
   simp only [zE]
   repeat' split
   all_goals omega
theorem oz:∀ (cl seen:List ByteArray) (i:Nat),xz cl seen i=[] ↔ (∀ c ∈ cl,zE (zP c)=0)/\(cl.map hdW).Nodup/\∀ c ∈ cl,hdW c ∉ seen:=by
 intro cl
 induction cl with
 | nil=>intro seen i;simp [xz]
 | cons c r ih=>
   intro seen i;simp only [xz,List.append_eq_nil_iff,ih,List.mem_cons,forall_eq_or_imp,List.map_cons,List.nodup_cons,List.mem_append,not_or,List.not_mem_nil,or_false];have hk:um c seen=0 ↔ zE (zP c)=0/\hdW c ∉ seen:=by
    unfold um;by_cases hs:xd (hdW c) seen=true
    · by_cases hp:zE (zP c)=0
      ·rw [if_pos ⟨hp,hs⟩];simp [memB_iff.1 hs]
      ·rw [if_neg (fun h=>hp h.1)];simp [hp]
    ·rw [if_neg (fun h=>hs h.2)];have:hdW c ∉ seen:=fun h=>hs (memB_iff.2 h);simp [this]
   have hc:(if um c seen=0 then ([]:List TroubleP) else [⟨i,um c seen⟩])=[] ↔ zE (zP c)=0/\hdW c ∉ seen:=by
    rw [<-hk];by_cases h0:um c seen=0 <;> simp [h0]
   rw [hc];constructor
   ·rintro ⟨⟨a,b⟩,c1,d,e⟩;refine ⟨⟨a,c1⟩,⟨?_,d⟩,b,fun t ht=>(e t ht).1⟩;intro hm;obtain ⟨t,ht,e'⟩:=List.mem_map.1 hm;exact (e t ht).2 e'
   ·rintro ⟨⟨a,c1⟩,⟨d1,d⟩,b,e⟩;exact ⟨⟨a,b⟩,c1,d,fun t ht=>⟨e t ht,fun e'=>d1 (List.mem_map.2 ⟨t,ht,e'⟩)⟩⟩
def kI(x:Style)(seen:List ByteArray):Prop:=(wUpper ∈ seen->zo x.u=true/\zo x.c=true)/\(wSole ∈ seen->zo x.s=true/\inB x.t 10 300=true)/\(decide (x.l.size=0) || zo x.l)=true/\inB x.h 0 1200=true/\inB x.e 0 12=true/\(decide (x.d=0) && !x.q || inB x.d 10 80)=true
theorem aU{x:Style}{seen:List ByteArray}{c:ByteArray}(h:kI x seen)(hp:zE (zP c)=0):kI (yp x (zP c)) (seen ++ [hdW c]):=by
 obtain ⟨h1,h2,h3,h4,h5,h6⟩:=h;unfold hdW;rcases sX hp with ⟨a,b,e,ha,hb⟩ | ⟨a,e,ha⟩ | ⟨a,b,e,ha,hb⟩ | ⟨a,e,ha⟩ | ⟨a,e,ha⟩ | ⟨a,e,ha⟩ | ⟨a,e,ha⟩ <;> rw [e]
 · rw [sy];refine ⟨fun _=>⟨ha,hb⟩,fun hm=>?_,h3,h4,h5,h6⟩;rcases List.mem_append.1 hm with hm | hm
   ·exact h2 hm
   ·exact absurd (List.mem_singleton.1 hm) (show wSole≠wUpper by decide)
 · rw [tG];refine ⟨fun hm=>?_,fun hm=>?_,by rw [Bool.or_eq_true];exact .inr ha,h4,h5,h6⟩
   · rcases List.mem_append.1 hm with hm | hm
     ·exact h1 hm
     ·exact absurd (List.mem_singleton.1 hm) (show wUpper≠wLining by decide)
   · rcases List.mem_append.1 hm with hm | hm
     ·exact h2 hm
     ·exact absurd (List.mem_singleton.1 hm) (show wSole≠wLining by decide)
 · rw [rA];refine ⟨fun hm=>?_,fun _=>⟨ha,vy hb⟩,h3,h4,h5,h6⟩;rcases List.mem_append.1 hm with hm | hm
   ·exact h1 hm
   ·exact absurd (List.mem_singleton.1 hm) (show wUpper≠wSole by decide)
 · rw [rz];refine ⟨fun hm=>?_,fun hm=>?_,h3,vy ha,h5,h6⟩
   · rcases List.mem_append.1 hm with hm | hm
     ·exact h1 hm
     ·exact absurd (List.mem_singleton.1 hm) (show wUpper≠wHeel by decide)
   · rcases List.mem_append.1 hm with hm | hm
     ·exact h2 hm
     ·exact absurd (List.mem_singleton.1 hm) (show wSole≠wHeel by decide)
 · rw [uI];refine ⟨fun hm=>?_,fun hm=>?_,h3,h4,fH (vy ha) (by omega),h6⟩
   · rcases List.mem_append.1 hm with hm | hm
     ·exact h1 hm
     ·exact absurd (List.mem_singleton.1 hm) (show wUpper≠wEyelets by decide)
   · rcases List.mem_append.1 hm with hm | hm
     ·exact h2 hm
     ·exact absurd (List.mem_singleton.1 hm) (show wSole≠wEyelets by decide)
 · rw [tH];refine ⟨fun hm=>?_,fun hm=>?_,h3,h4,h5,by rw [Bool.or_eq_true];exact .inr (vy ha)⟩
   · rcases List.mem_append.1 hm with hm | hm
     ·exact h1 hm
     ·exact absurd (List.mem_singleton.1 hm) (show wUpper≠wStitch by decide)
   · rcases List.mem_append.1 hm with hm | hm
     ·exact h2 hm
     ·exact absurd (List.mem_singleton.1 hm) (show wSole≠wStitch by decide)
 · rw [tF];refine ⟨fun hm=>?_,fun hm=>?_,h3,h4,h5,by rw [Bool.or_eq_true];exact .inr (vy ha)⟩
   · rcases List.mem_append.1 hm with hm | hm
     ·exact h1 hm
     ·exact absurd (List.mem_singleton.1 hm) (show wUpper≠wStitch by decide)
   · rcases List.mem_append.1 hm with hm | hm
     ·exact h2 hm
     ·exact absurd (List.mem_singleton.1 hm) (show wSole≠wStitch by decide)
theorem zbL:∀ (cl:List ByteArray) (x:Style) (seen:List ByteArray),kI x seen->(∀ c ∈ cl,zE (zP c)=0)->kI (wG x cl) (seen ++ cl.map hdW):=by
 intro cl
 induction cl with
 | nil=>intro x seen h _;simpa [wG] using h
 | cons c r ih=>
   intro x seen h hp;have h2:=ih (yp x (zP c)) (seen ++ [hdW c]) (aU h (hp c (by simp))) (fun d hd=>hp d (by simp [hd]));rw [List.append_assoc] at h2;exact h2
theorem zbq{cl:List ByteArray}(h:tro cl=[]):yZ (wG yA cl)=true:=by
 unfold tro at h;rw [List.append_eq_nil_iff,oz] at h;obtain ⟨⟨h1,_,_⟩,h2⟩:=h;have hm:wUpper ∈ cl.map hdW/\wSole ∈ cl.map hdW:=by
  unfold ma at h2;by_cases hc:xd wUpper (cl.map hdW)=true/\xd wSole (cl.map hdW)=true
  ·exact ⟨memB_iff.1 hc.1,memB_iff.1 hc.2⟩
  ·rw [if_neg hc] at h2;cases h2
 have ht:=zbL cl yA [] ⟨by simp,by simp,by decide,by decide,by decide,by decide⟩ h1;rw [List.nil_append] at ht;obtain ⟨t1,t2,t3,t4,t5,t6⟩:=ht;rw [wE];exact ⟨(t1 hm.1).1,(t1 hm.1).2,t3,(t2 hm.2).1,(t2 hm.2).2,t4,t5,t6⟩
theorem bG(c d:UInt8)(a:List UInt8):∀ r:List (List UInt8),[c,d].intercalate (a :: r)=[c].intercalate (a :: r.map (d :: ·)):=by
 intro r
 induction r generalizing a with
 | nil=>simp [List.intercalate]
 | cons b r ih=>
   have h:=ih b;simp only [List.intercalate,List.intersperse_cons_cons,List.flatten_cons,List.map_cons] at h |-;cases r with
   | nil=>simp
   | cons e r=>
     simp only [List.intersperse_cons_cons,List.flatten_cons,List.map_cons] at h |-;rw [h];simp
theorem zcP{c d:UInt8}(hcd:c≠d)(a:List UInt8)(r:List (List UInt8))(h:∀ p ∈ a :: r,c ∉ p):spl c ([c,d].intercalate (a :: r))=a :: r.map (d :: ·):=by
 rw [bG,rT _ (by simp)];intro p hp;rcases List.mem_cons.1 hp with rfl | hp
 ·exact h _ (by simp)
 · obtain ⟨q,hq,rfl⟩:=List.mem_map.1 hp;intro hm;rcases List.mem_cons.1 hm with e | hm
   ·exact hcd e
   ·exact h q (by simp [hq]) hm
theorem bF(c d:UInt8):∀ L:List (List UInt8),([c,d].intercalate L).length<=(L.map fun l=>l.length + 2).sum:=by
 intro L
 induction L with
 | nil=>simp [List.intercalate]
 | cons a r ih=>
   cases r with
   | nil=>simp [List.intercalate]
   | cons b r=>
     simp only [List.intercalate,List.intersperse_cons_cons,List.flatten_cons,List.length_append,List.map_cons,List.sum_cons,List.length_cons,List.length_nil] at ih |-;omega
theorem qE:∀ (k u:Nat),u < 10 ^ (k + 1)->(Lib.decDigits u).length<=k + 1:=by
 intro k
 induction k with
 | zero=>intro u h;rw [Lib.decDigits_one (by omega)];simp
 | succ k ih=>
   intro u h;by_cases h10:u < 10
   ·rw [Lib.decDigits_one h10];simp
   ·rw [Lib.decDigits,dif_neg h10,List.length_append];have h2:u / 10 < 10 ^ (k + 1):=Nat.div_lt_of_lt_mul (by rw [Nat.mul_comm,<-Nat.pow_succ];exact h);have:=ih (u / 10) h2;simp only [List.length_cons,List.length_nil];omega
theorem bM{v:Int}(h:v.natAbs < 10000000):(Lib.itoa v).length<=8:=by
 unfold Lib.itoa;split
 ·have:=qE 6 v.natAbs (by omega);simp only [List.length_cons];omega
 · have:=qE 6 v.toNat (by omega)
   omega
theorem rH{v:Int}(h:v.natAbs < 10000000):(zm v).size<=8:=by
 rw [<-zu];simpa [zm] using bM h
theorem rR{s:ByteArray}(h:zo s=true):s.size<=12:=by
 by_cases h1:12 < s.size
 ·rw [wQ (.inl h1)] at h;cases h
 ·omega
theorem zbh{s:ByteArray}(h:(decide (s.size=0) || zo s)=true):s.size<=12:=by
 rw [Bool.or_eq_true,decide_eq_true_eq] at h;rcases h with h | h
 ·omega
 ·exact rR h
theorem kf{x:Style}(hx:yZ x=true):(vz x).size<=31/\(tJ x).size<=19/\(uU x).size<=26/\(tK x).size<=13/\(tL x).size<=16/\(tM x).size<=22:=by
 rw [wE] at hx;obtain ⟨h1,h2,h3,h4,h5,h6,h7,h8⟩:=hx;have n1:=rR h1;have n2:=rR h2;have n3:=zbh h3;have n4:=rR h4;rw [inB_iff] at h5 h6 h7;have d1:=rH (v:=x.t) (by omega);have d2:=rH (v:=x.h) (by omega);have d3:=rH (v:=x.e) (by omega);have d4:=rH (v:=x.d) (by
  rw [Bool.or_eq_true,Bool.and_eq_true,decide_eq_true_eq,inB_iff] at h8;rcases h8 with h8 | h8
  ·rw [h8.1];decide
  ·omega)
 have z0:(⟨#[117,112,112,101,114,32]⟩:ByteArray).size=6:=rfl;have z1:(⟨#[108,105,110,105,110,103,32]⟩:ByteArray).size=7:=rfl;have z2:(⟨#[115,111,108,101,32]⟩:ByteArray).size=5:=rfl;have z3:(⟨#[104,101,101,108,32]⟩:ByteArray).size=5:=rfl;have z4:(⟨#[101,121,101,108,101,116,115,32]⟩:ByteArray).size=8:=rfl;have z5:(⟨#[115,116,105,116,99,104,32]⟩:ByteArray).size=7:=rfl;have z6:(⟨#[32,100,111,117,98,108,101]⟩:ByteArray).size=7:=rfl;have zs:spB.size=1:=rfl;have z:(⟨#[]⟩:ByteArray).size=0:=rfl;refine ⟨?_,?_,?_,?_,?_,?_⟩
 ·unfold vz;simp only [zv];omega
 · unfold tJ;split
   ·omega
   ·simp only [zv];omega
 ·unfold uU;simp only [zv];omega
 · unfold tK;split
   ·omega
   ·simp only [zv];omega
 · unfold tL;split
   ·omega
   ·simp only [zv];omega
 ·unfold tM uO;split <;> split <;> (try simp only [zv]) <;> omega
theorem pd{v:Int}(h0:-1000000000000000000 < v)(h1:v < 1000000000000000000):zq (zm v)=v:=by
 have hd:(zm v).data.toList=Lib.itoa v:=by simp [zm]
 rw [xe (by rw [hd];exact uf h0 h1),hd,(xr v).2]
theorem oh{P:Prop}[Decidable P]{a:ByteArray}(ha:0 < a.size):(wu (if P then ⟨#[]⟩ else a)).map zP=if P then [] else [zP a]:=by
 by_cases h:P
 ·rw [if_pos h,if_pos h];rfl
 ·rw [if_neg h,if_neg h];unfold wu;rw [if_neg (by omega)];rfl
theorem rd{a:ByteArray}(ha:0 < a.size):wu a=[a]:=by unfold wu;rw [if_neg (by omega)]
theorem fk(v:Int):(59:UInt8) ∉ Lib.itoa v:=by
 have h:=xr v;have hd:=(uY v.natAbs).1;have key:∀ l:List UInt8,l.all yG=true->(59:UInt8) ∉ l:=by
  intro l hl hm;have:=List.all_eq_true.1 hl _ hm
  revert this;decide
 intro hm;rw [<-h.1] at hd;cases hv:Lib.itoa v with
 | nil=>rw [hv] at hm;cases hm
 | cons c r=>
   rw [hv] at hm hd;simp only [yo] at hd;split at hd
   · rename_i hc;rcases List.mem_cons.1 hm with h1 | h1
     ·rw [hc] at h1;revert h1;decide
     ·exact key _ hd h1
   ·exact key _ hd hm
theorem sg{s:ByteArray}(h:zo s=true):(59:UInt8) ∉ s.data.toList:=by
 intro hm;simp only [zo,sV,Bool.and_eq_true] at h;have:=List.all_eq_true.1 h.2 _ hm
 revert this;decide
theorem dI{s:ByteArray}(h:(decide (s.size=0) || zo s)=true):(59:UInt8) ∉ s.data.toList:=by
 rw [Bool.or_eq_true,decide_eq_true_eq] at h;rcases h with h | h
 ·rw [pm h];simp
 ·exact sg h
theorem wW{a b:ByteArray}(h1:(59:UInt8) ∉ a.data.toList)(h2:(59:UInt8) ∉ b.data.toList):(59:UInt8) ∉ (a ++ b).data.toList:=by
 rw [rE,List.mem_append];rintro (h | h)
 ·exact h1 h
 ·exact h2 h
theorem sM(v:Int):(59:UInt8) ∉ (zm v).data.toList:=by
 have:(zm v).data.toList=Lib.itoa v:=by simp [zm]
 rw [this];exact fk v
theorem aX{x:Style}(hx:yZ x=true):∀ t ∈ xA x,(59:UInt8) ∉ t.data.toList:=by
 rw [wE] at hx;obtain ⟨h1,h2,h3,h4,_,_,_,_⟩:=hx;intro t ht;simp only [xA,List.mem_cons,List.not_mem_nil,or_false] at ht;rcases ht with rfl | rfl | rfl | rfl | rfl | rfl
 ·exact wW (wW (wW (by decide) (sg h1)) (by decide)) (sg h2)
 · unfold tJ;split
   ·simp
   ·exact wW (by decide) (dI h3)
 ·exact wW (wW (wW (by decide) (sg h4)) (by decide)) (sM _)
 · unfold tK;split
   ·simp
   ·exact wW (by decide) (sM _)
 · unfold tL;split
   ·simp
   ·exact wW (by decide) (sM _)
 · have h5:(59:UInt8) ∉ (uO x).data.toList:=by
    unfold uO;split
    ·simp
    ·exact wW (by decide) (sM _)
   unfold tM;split
   ·exact wW h5 (by decide)
   ·exact h5
theorem zbi{x:Style}{t:ByteArray}(h:t ∈ vf x):t ∈ xA x:=by
 unfold vf at h;obtain ⟨u,hu,h⟩:=List.mem_flatMap.1 h;unfold wu at h;split at h
 ·cases h
 ·rw [List.mem_singleton] at h;subst h;exact hu
def sC(x:Style):List (List ByteArray):=[[wUpper,x.u,x.c]] ++ (if x.l.size=0 then [] else [[wLining,x.l]]) ++ [[wSole,x.s,zm x.t]] ++ (if x.h=0 then [] else [[wHeel,zm x.h]]) ++
 (if x.e=0 then [] else [[wEyelets,zm x.e]]) ++ (if x.q=true then [[wStitch,zm x.d,wDouble]] else if x.d=0 then [] else [[wStitch,zm x.d]])
theorem zd0(x:Style):(wu (tM x)).map zP=if x.q=true then [[wStitch,zm x.d,wDouble]] else if x.d=0 then [] else [[wStitch,zm x.d]]:=by
 unfold tM uO;cases hd:x.q
 · simp only [Bool.false_eq_true,if_false];by_cases h0:x.d=0
   ·rw [if_pos ⟨h0,trivial⟩,if_pos h0];rfl
   ·rw [if_neg (fun h=>h0 h.1),if_neg h0,rd (yC _ _ (by decide)),List.map_singleton,oM _ _ wStitch (by simp [wStitch]) (by decide)]
 ·simp only [if_true,Bool.true_eq_false,and_false,if_false];rw [rd (yC _ _ (yC _ _ (by decide))),List.map_singleton,zb1]
theorem al{x:Style}(hx:yZ x=true):(vf x).map zP=sC x:=by
 rw [wE] at hx;obtain ⟨h1,h2,h3,h4,h5,h6,h7,h8⟩:=hx;have w1:(wu (tJ x)).map zP=if x.l.size=0 then [] else [[wLining,x.l]]:=by
  unfold tJ;rw [oh (yC _ _ (by decide))];by_cases h0:x.l.size=0
  ·rw [if_pos h0,if_pos h0]
  ·rw [if_neg h0,if_neg h0,zbZ (by rw [Bool.or_eq_true] at h3;rcases h3 with h | h;exact absurd (of_decide_eq_true h) h0;exact h)]
 have w3:(wu (tK x)).map zP=if x.h=0 then [] else [[wHeel,zm x.h]]:=by
  unfold tK;rw [oh (yC _ _ (by decide)),oM _ _ wHeel (by simp [wHeel]) (by decide)]
 have w4:(wu (tL x)).map zP=if x.e=0 then [] else [[wEyelets,zm x.e]]:=by
  unfold tL;rw [oh (yC _ _ (by decide)),oM _ _ wEyelets (by simp [wEyelets]) (by decide)]
 have w0:(wu (vz x)).map zP=[[wUpper,x.u,x.c]]:=by
  rw [rd (by unfold vz;exact yC _ _ (yC _ _ (yC _ _ (by decide)))),List.map_singleton,zbY h1 h2]
 have w2:(wu (uU x)).map zP=[[wSole,x.s,zm x.t]]:=by
  rw [rd (by unfold uU;exact yC _ _ (yC _ _ (yC _ _ (by decide)))),List.map_singleton,zb0 h4]
 unfold vf xA sC;simp only [List.flatMap_cons,List.flatMap_nil,List.map_append,List.append_nil,w0,w1,w2,w3,w4,zd0];simp only [List.append_assoc]
theorem cB{x:Style}(hx:yZ x=true):∀ w ∈ sC x,zE w=0:=by
 rw [wE] at hx;obtain ⟨h1,h2,h3,h4,h5,h6,h7,h8⟩:=hx;intro w hw;simp only [sC,List.mem_append,List.mem_singleton] at hw;rcases hw with ((((rfl | hw) | rfl) | hw) | hw) | hw
 ·simp [zE,qP,h1,h2]
 · split at hw
   ·cases hw
   · rename_i h0;rw [List.mem_singleton] at hw;subst hw;have:zo x.l=true:=by rw [Bool.or_eq_true] at h3;rcases h3 with h | h;exact absurd (of_decide_eq_true h) h0;exact h
     simp [zE,qQ,this]
 ·simp [zE,qT,h4,wT x.t 10 300 (by omega) (by omega),h5]
 · split at hw
   ·cases hw
   ·rw [List.mem_singleton] at hw;subst hw;simp [zE,qU,wT x.h 0 1200 (by omega) (by omega),h6]
 · split at hw
   ·cases hw
   ·rename_i h0;rw [List.mem_singleton] at hw;subst hw;simp [zE,qV,wT x.e 1 12 (by omega) (by omega),fG h0,h7]
 · split at hw
   ·rename_i hd;rw [List.mem_singleton] at hw;subst hw;rw [hd] at h8;simp only [Bool.not_true,Bool.and_false,Bool.false_or] at h8;simp [zE,uL,wT x.d 10 80 (by omega) (by omega),h8]
   · split at hw
     ·cases hw
     ·rename_i h0;rw [List.mem_singleton] at hw;subst hw;rw [decide_eq_false h0,Bool.false_and,Bool.false_or] at h8;simp [zE,uL,wT x.d 10 80 (by omega) (by omega),h8]
theorem eN(x:Style):((sC x).map fun w=>w.headD ⟨#[]⟩).Nodup/\wUpper ∈ ((sC x).map fun w=>w.headD ⟨#[]⟩)/\wSole ∈ ((sC x).map fun w=>w.headD ⟨#[]⟩):=by
 unfold sC;refine ⟨?_,by simp,by simp⟩;have hd:wUpper≠wLining/\wUpper≠wSole/\wUpper≠wHeel/\wUpper≠wEyelets/\wUpper≠wStitch/\wLining≠wSole/\wLining≠wHeel/\wLining≠wEyelets/\wLining≠wStitch/\wSole≠wHeel/\wSole≠wEyelets/\wSole≠wStitch/\wHeel≠wEyelets/\wHeel≠wStitch/\wEyelets≠wStitch:=by decide
 obtain ⟨d1,d2,d3,d4,d5,d6,d7,d8,d9,d10,d11,d12,d13,d14,d15⟩:=hd;by_cases c1:x.l.size=0 <;> by_cases c2:x.h=0 <;> by_cases c3:x.e=0 <;> by_cases c4:x.q=true <;> by_cases c5:x.d=0 <;> simp [*]
theorem cA{x:Style}(hx:yZ x=true):(sC x).foldl yp yA=x:=by
 rw [wE] at hx;obtain ⟨_,_,_,_,h5,h6,h7,h8⟩:=hx;rw [inB_iff] at h5 h6 h7;have n1:=pd (v:=x.t) (by omega) (by omega);have n2:=pd (v:=x.h) (by omega) (by omega);have n3:=pd (v:=x.e) (by omega) (by omega);have hdn:0<=x.d/\x.d<=80:=by
  rw [Bool.or_eq_true,Bool.and_eq_true,decide_eq_true_eq,inB_iff] at h8;rcases h8 with h8 | h8 <;> omega
 have n4:=pd (v:=x.d) (by omega) (by omega);have s1:∀ y:Style,y.l=⟨#[]⟩->(if x.l.size=0 then [] else [[wLining,x.l]]).foldl yp y = { y with l:=x.l }:=by
  intro y hy;by_cases h0:x.l.size=0
  ·rw [if_pos h0,List.foldl_nil,pm h0,<-hy]
  ·rw [if_neg h0,List.foldl_cons,List.foldl_nil,tG]
 have s3:∀ y:Style,y.h=0->(if x.h=0 then [] else [[wHeel,zm x.h]]).foldl yp y = { y with h:=x.h }:=by
  intro y hy;by_cases h0:x.h=0
  ·rw [if_pos h0,List.foldl_nil,h0,<-hy]
  ·rw [if_neg h0,List.foldl_cons,List.foldl_nil,rz,n2]
 have s4:∀ y:Style,y.e=0->(if x.e=0 then [] else [[wEyelets,zm x.e]]).foldl yp y = { y with e:=x.e }:=by
  intro y hy;by_cases h0:x.e=0
  ·rw [if_pos h0,List.foldl_nil,h0,<-hy]
  ·rw [if_neg h0,List.foldl_cons,List.foldl_nil,uI,n3]
 have s5:∀ y:Style,y.d=0->y.q=false->(if x.q=true then [[wStitch,zm x.d,wDouble]] else if x.d=0 then [] else [[wStitch,zm x.d]]).foldl yp y = { y with d:=x.d,q:=x.q }:=by
  intro y hy hz;cases hd:x.q
  · rw [if_neg (by simp)];by_cases h0:x.d=0
    ·rw [if_pos h0,List.foldl_nil,h0,<-hy,<-hz]
    ·rw [if_neg h0,List.foldl_cons,List.foldl_nil,tH,n4]
  ·rw [if_pos rfl,List.foldl_cons,List.foldl_nil,tF,n4]
 unfold sC;simp only [List.foldl_append,List.foldl_cons,List.foldl_nil];rw [sy,s1 _ rfl,rA,n1,s3 _ rfl,s4 _ rfl,s5 _ rfl rfl]
theorem pr{x:Style}(hx:yZ x=true):(xQ x).size<=300/\(zl 59 (xQ x)).length<=12/\tro (zl 59 (xQ x))=[]/\wG yA (zl 59 (xQ x))=x:=by
 have hf:=aX hx;obtain ⟨L,hL⟩:=zN (vf x);have h0:wu (vz x)=[vz x]:=rd (by unfold vz;exact yC _ _ (yC _ _ (yC _ _ (by decide))));obtain ⟨r,hr⟩:∃ r,vf x=vz x :: r:=⟨_,by unfold vf xA;rw [List.flatMap_cons,h0,List.singleton_append]⟩
 have hspl:spl 59 (xQ x).data.toList=(vz x).data.toList :: (r.map (·.data.toList)).map (32 :: ·):=by
  unfold xQ;rw [hr];simp only [List.map_cons];have:∀ p ∈ (vz x).data.toList :: r.map (·.data.toList),(59:UInt8) ∉ p:=by
   intro p hp;have hp2:p ∈ (vf x).map (·.data.toList):=by rw [hr];exact hp
   obtain ⟨t,ht,rfl⟩:=List.mem_map.1 hp2;exact hf t (zbi ht)
  simpa using zcP (by decide) _ _ this
 have hw:(zl 59 (xQ x)).map zP=sC x:=by
  rw [<-al hx,hr];unfold zl;rw [hspl];simp only [List.map_cons,List.map_map,mL]
  congr 1
 have hlen:(vf x).length<=6:=by
  unfold vf xA;simp only [List.flatMap_cons,List.flatMap_nil,List.length_append,List.length_nil];have key:∀ t,(wu t).length<=1:=by intro t;unfold wu;split <;> simp
  have:=key (vz x);have:=key (tJ x);have:=key (uU x);have:=key (tK x);have:=key (tL x);have:=key (tM x);omega
 obtain ⟨k1,k2,k3⟩:=eN x;have hh:(zl 59 (xQ x)).map hdW=(sC x).map fun w=>w.headD ⟨#[]⟩:=by rw [<-hw,List.map_map];rfl
 refine ⟨?_,?_,?_,?_⟩
 · have h1:=bF 59 32 ((vf x).map (·.data.toList));have h2:(xQ x).size=([59,32].intercalate ((vf x).map (·.data.toList))).length:=by rw [<-zu];simp [xQ]
   rw [h2];refine Nat.le_trans h1 ?_;have hs:=kf hx;rw [List.map_map];have key:∀ t:ByteArray,((wu t).map ((fun l:List UInt8=>l.length + 2) ∘ fun t:ByteArray=>t.data.toList)).sum<=t.size + 2:=by
    intro t;unfold wu;split
    ·simp
    ·simp
   unfold vf xA;simp only [List.flatMap_cons,List.flatMap_nil,List.map_append,List.sum_append,List.map_nil,List.sum_nil];have:=key (vz x);have:=key (tJ x);have:=key (uU x);have:=key (tK x);have:=key (tL x);have:=key (tM x);omega
 ·unfold zl;rw [hspl];rw [hr] at hlen;simp only [List.length_cons,List.length_map] at hlen |-;omega
 · unfold tro;rw [List.append_eq_nil_iff];constructor
   ·rw [oz];refine ⟨fun c hc=>cB hx _ (by rw [<-hw];exact List.mem_map.2 ⟨c,hc,rfl⟩),by rw [hh];exact k1,by simp⟩
   ·unfold ma;rw [hh,if_pos ⟨memB_iff.2 k2,memB_iff.2 k3⟩]
 · have:wG yA (zl 59 (xQ x))=((zl 59 (xQ x)).map zP).foldl yp yA:=by unfold wG;rw [List.foldl_map]
   rw [this,hw,cA hx]
theorem lY(c:UInt8)(s:ByteArray):Lib.splitB ⟨#[c]⟩ 0 (Lib.countB s ⟨#[c]⟩) s=zl c s:=by
 have h:=Lib.splitB_data ⟨#[c]⟩ 0 (Lib.countB s ⟨#[c]⟩) s;have e:Lib.countB s ⟨#[c]⟩=Lib.count s.data.toList [c]:=rfl;rw [show (ByteArray.mk #[c]).data.toList=[c] from rfl,e,mx] at h;unfold zl;rw [<-h,List.map_map,e]
 conv=>lhs;rw [<-List.map_id (Lib.splitB ⟨#[c]⟩ 0 (Lib.count s.data.toList [c]) s)]
 exact List.map_congr_left fun x _=>(mL x).symm
theorem nE(c:UInt8)(s:ByteArray):(zl c s).length=Lib.countB s ⟨#[c]⟩ + 1:=by
 unfold zl;rw [List.length_map,qo];have e:Lib.countB s ⟨#[c]⟩=Lib.count s.data.toList [c]:=rfl;rw [e,Lib.count_one]
theorem qn(c:UInt8)(s:ByteArray):(zl c s).length<=s.size + 1:=by
 unfold zl;rw [List.length_map,qo];have:=List.count_le_length (a:=c) (l:=s.data.toList);rw [zu] at this;omega
theorem qv(c:UInt8)(s:ByteArray)(hs:s.size<=4000000000)(w:World)(hT:Tabs w):Calls prog 27 #[.string s,.string ⟨#[c]⟩] w fun e w'=>e=.returned (.slice (some ⟨w.heap.size,0,none⟩) (zl c s).length (zl c s).length)/\w'=w.alloc (.cells ((zl c s).map Value.string).toArray 9):=by
 obtain ⟨m,hm⟩:=hT.len;have h:=Tryz.strings_Split s ⟨#[c]⟩ m w (by omega) hm (Nat.le_refl 1);rw [<-nE,lY] at h;exact h
theorem wm(x:ByteArray):x.toList.isEmpty=decide (x.size=0):=by
 have e0:(⟨#[]⟩:ByteArray).toList=[]:=by simp
 have h0:x.toList.isEmpty=(x.toList == (⟨#[]⟩:ByteArray).toList):=by rw [e0];cases x.toList <;> rfl
 rw [h0,yD,decide_eq_decide];exact ⟨fun h=>by rw [h];rfl,fun h=>pm h⟩
theorem zbW(x:ByteArray)(w:World):Calls prog 261 #[.string x] w fun e w'=>e=.returned (.bool (decide (x.size=0)))/\w'=w:=by
 go_in;go_wp2;go_returns;exact ⟨congrArg Ending.returned (vb (wm x)),rfl⟩
theorem fw(s:ByteArray):((zl 32 s).filter fun x=>!decide (x.size=0))=zP s:=by
 unfold zP
 congr 1
 funext t
 by_cases h:t.size=0
 ·rw [decide_eq_true h,decide_eq_false (show ¬ 0 < t.size by omega)];rfl
 ·rw [decide_eq_false h,decide_eq_true (show 0 < t.size by omega)];rfl
theorem qs(s:ByteArray):(zP s).length<=s.size + 1:=Nat.le_trans (List.length_filter_le _ _) (qn 32 s)
theorem rg(s:ByteArray)(hs:s.size<=4194304)(w:World)(hT:Tabs w):Calls prog 208 #[.string s] w (rf 9 1 (zP s).length ((zP s).map Value.string) w):=by
 have HT:=qH hT;clear hT;have hSP:=qv 32 s (by omega) w HT.out;obtain ⟨L,hL⟩:=zN (zl 32 s);have hlen:L.length<=4194305:=by have:=qn 32 s;rw [hL];omega
 have hW:(L.filter fun x=>!decide (x.size=0))=zP s:=by rw [hL];exact fw s
 rw [<-hL] at hSP;clear hL;have hown:(w.alloc (.cells (L.map Value.string).toArray 9)).ownsRow w.heap.size 9 1 (.slice (some ⟨w.heap.size,0,none⟩) L.length L.length) L.length (L.map Value.string):=by
  have h:=World.ownsRow_lit (base:=w.heap.size) (e:=9) (size:=1) w (L.map Value.string).toArray L.length (Nat.le_refl _) (by unfold maxLen;omega) (by simp);simpa using h
 obtain ⟨W,hWe⟩:=zN (w.alloc (.cells (L.map Value.string).toArray 9));have hb:Below w.heap.size w W:=by rw [hWe];exact zc (Below.refl _ _) _
 rw [<-hWe] at hown hSP;have eg:∀ args w,(callFunc 261 args).run prog w=.ok (.enter 261 args) w:=enters_of func261 (by kernel_rfl) rfl;have hp:PredAt prog 261 #[] Value.string (fun x=>decide (x.size=0)) W:=fun W' x _=>(zbW x W').mono fun e w' h=>⟨h.1,0,h.2⟩
 have hpo:PredOver prog 261 #[] Value.string (fun x=>decide (x.size=0)) w.heap.size 0 L.toArray.size W:=fun n os dk x _=>(zbW x _).mono fun e w' h=>⟨h.1,0,h.2⟩
 have hH:Sort.Holds Value.string W w.heap.size 0 L.toArray:=by
  obtain ⟨g,cap,e,_,_,_,_,_,h⟩:=Lib.holds_of_ownsRow hown (by simp);injection e with e1;injection e1 with e1;injection e1 with e1;rw [<-e1] at h;exact h
 have hD:=Tryz.slices_DeleteFunc Value.string (fun _=>rfl) (fun x:ByteArray=>decide (x.size=0)) 261 #[] eg ByteArray.empty (fun w=>by kernel_rfl) w.heap.size 0 L.length L.toArray W hp hpo hH (by simp;omega) (by simp);have e1:L.toArray.size=L.length:=by simp
 have e2:L.toArray.toList=L:=by simp
 rw [e1,e2,hW] at hD;have hk:(zP s).length<=L.length:=by rw [<-hW];exact List.length_filter_le _ _
 obtain ⟨WS,hWS⟩:=zN (zP s);rw [<-hWS] at hD hk |-;have HD:=qH hD;have HSP:=qH hSP;have HOW:=qH hown;have HB:=qH hb;clear hD hSP hown hb eg hp hpo hH e1 e2 hW hWS;obtain ⟨g,hg⟩:=zN w.heap.size;rw [<-hg] at HSP HD HOW;have HG:=qH hg;clear hg hWe;go_in;go_wp2_with fail;refine qS HSP.out fun w1 hq=>?_;rw [hq];clear hq w1;go_wp2_with fail;refine HD.out.mono ?_;rintro e w1 ⟨rfl,q,hq⟩;rw [hq];clear hq w1;go_wp2;go_returns;have ho:=Lib.ownsRow_putRow (q:=q) (ys:=WS ++ List.replicate (L.length - WS.length) ByteArray.empty) HOW.out (by rw [List.length_append,List.length_replicate];omega) hk;rw [List.take_left'  rfl] at ho;unfold rf;rw [<-HG.out];exact ⟨_,_,rfl,ho,Lib.below_putRow (by rw [HG.out];exact HB.out) (by rw [HG.out];exact Nat.le_refl _)⟩
theorem xo(l:List ByteArray):zd zt l=l.map Value.string:=by
 unfold zd
 induction l with
 | nil=>rfl
 | cons a r ih=>rw [List.flatMap_cons,ih];rfl
theorem pH(s:ByteArray)(hs:s.size<=4194304)(w:World)(hT:Tabs w):Calls prog 207 #[.string s] w (Ret (.string (hdW s)) w):=by
 have HT:=qH hT;clear hT;have hle:=qs s;obtain ⟨WS,hWS⟩:=zN (zP s);have HSW:=rg s hs w HT.out;unfold rf at HSW;have hh:hdW s=WS.headD ⟨#[]⟩:=by rw [hWS];rfl
 rw [<-hWS] at HSW hle;replace HSW:=qH HSW;have HH:=qH hh;clear hWS hh;obtain ⟨n,hn⟩:=zN WS.length;rw [<-hn] at HSW hle;go_in;go_wp2_with fail;refine HSW.out.mono ?_;rintro e W ⟨A,c,rfl,ho,hb⟩;have hA:=Arr.own ho;clear ho;cases WS with
 | nil=>
   subst hn;go_wp2;go_returns;exact Ret.mk (vs (by rw [HH.out];rfl)) hb
 | cons t r=>
   have h0:(n:Int)≠0:=by rw [hn,List.length_cons];omega
   have h1:((n:Int) == 0)=false:=by rw [beq_eq_false_iff_ne];exact h0
   have h2:0 < n:=by omega
   rw [<-xo] at hA;obtain ⟨ad,had,_,c0⟩:=zh (k:=0) hA rfl;subst had;replace c0:W.cell? ad=some (.string t):=c0;have HN:=qH hn;clear hn;go_wp2;go_returns;exact Ret.mk (vs (by rw [HH.out];rfl)) hb
theorem tz(s:ByteArray)(hs:s.size<=4194304)(lo hi:Int)(w:World)(hT:Tabs w):Calls prog 210 #[.string s,.int .i64 lo,.int .i64 hi] w (Ret (.bool (xq s lo hi)) w):=by
 have HRD:=qH (xO s (by omega) w hT);clear hT;obtain ⟨v,hv⟩:=zN (zq s);obtain ⟨b,hb⟩:=zN (okN s.data.toList);have hN:xq s lo hi=(b && inB v lo hi):=by rw [hv,hb];rfl
 rw [<-hv,<-hb] at HRD;have HNN:=qH hN;clear hv hb hN;go_in;go_wp2_with fail;refine qS HRD.out fun W hb=>?_;cases b
 ·go_wp2;go_returns;exact Ret.mk (vb (by rw [HNN.out];rfl)) hb
 · go_wp2_with (go_at_call 68;refine (xv _ _ _ _).mono ?_;rintro e w' ⟨rfl,rfl⟩)
   go_returns;exact Ret.mk (vb (by rw [HNN.out];rfl)) hb
def kF(s:ByteArray)(w:World)(e:Ending)(w':World):Prop:=∃ A n c,e=.returned (.slice A n c)/\(zP s).length=n/\Arr w' A (zd zt (zP s))/\Below w.heap.size w w'
theorem kq(s:ByteArray)(hs:s.size<=4194304)(w:World)(hT:Tabs w):Calls prog 208 #[.string s] w (kF s w):=
 (rg s hs w hT).mono fun e w' ⟨A,c,he,ho,hb⟩=>⟨A,_,c,he,rfl,by rw [xo];exact Arr.own ho,hb⟩
theorem vM{t:ByteArray}{k:Int}(hk:yg t=k):(t.toList == wUpper.toList)=decide (k=0)/\(t.toList == wLining.toList)=decide (k=1)/\(t.toList == wSole.toList)=decide (k=2)/\(t.toList == wHeel.toList)=decide (k=3)/\(t.toList == wEyelets.toList)=decide (k=4)/\(t.toList == wStitch.toList)=decide (k=5):=by
 simp only [yD,decide_eq_decide];have hd:wUpper≠wLining/\wUpper≠wSole/\wUpper≠wHeel/\wUpper≠wEyelets/\wUpper≠wStitch/\wLining≠wSole/\wLining≠wHeel/\wLining≠wEyelets/\wLining≠wStitch/\wSole≠wHeel/\wSole≠wEyelets/\wSole≠wStitch/\wHeel≠wEyelets/\wHeel≠wStitch/\wEyelets≠wStitch:=by decide
 obtain ⟨d1,d2,d3,d4,d5,d6,d7,d8,d9,d10,d11,d12,d13,d14,d15⟩:=hd;subst hk;rcases vq t with ⟨rfl,hk⟩ | ⟨rfl,hk⟩ | ⟨rfl,hk⟩ | ⟨rfl,hk⟩ | ⟨rfl,hk⟩ | ⟨rfl,hk⟩ | ⟨hn,hk⟩ <;> rw [hk]
 ·simp [d1,d2,d3,d4,d5]
 ·simp [d1.symm,d6,d7,d8,d9]
 ·simp [d2.symm,d6.symm,d10,d11,d12]
 ·simp [d3.symm,d7.symm,d10.symm,d13,d14]
 ·simp [d4.symm,d8.symm,d11.symm,d13.symm,d15]
 ·simp [d5.symm,d9.symm,d12.symm,d14.symm,d15.symm]
 ·simp only [styW,List.mem_cons,List.not_mem_nil,or_false,not_or] at hn;simp [hn]
theorem za4(t:ByteArray):Lib.containsS styW t=decide (0<=yg t):=by
 rw [Bool.eq_iff_iff,Lib.containsS_iff,decide_eq_true_eq];rcases vq t with ⟨rfl,hk⟩ | ⟨rfl,hk⟩ | ⟨rfl,hk⟩ | ⟨rfl,hk⟩ | ⟨rfl,hk⟩ | ⟨rfl,hk⟩ | ⟨hn,hk⟩ <;> rw [hk]
 ·simp [styW]
 ·simp [styW]
 ·simp [styW]
 ·simp [styW]
 ·simp [styW]
 ·simp [styW]
 · constructor
   ·intro h;exact absurd h hn
   ·intro h;exact absurd h (by omega)
theorem pB(w:World):Calls prog 140 #[] w fun e w'=>e=.returned (.slice (some ⟨w.heap.size,0,none⟩) 6 6)/\w'=w.alloc (.cells (styW.map Value.string).toArray 9):=by
 go_in;go_wp2;go_returns;exact ⟨rfl,rfl⟩
theorem ks(g:Nat)(x:ByteArray)(w:World)(h:∀ j,j < 6->w.cell? ⟨g,j,none⟩=some (.string (styW.getD j ByteArray.empty))):Calls prog 30 #[.slice (some ⟨g,0,none⟩) 6 6,.string x] w (RetQ (.bool (decide (0<=yg x))) w):=by
 have h2:=Tryz.slices_Contains_string g 0 6 6 styW x w (by decide) (by omega) (by intro j hj;rw [Nat.zero_add];exact h j hj);rw [show styW.take 6=styW from rfl,za4] at h2;exact h2
end Go.Proofs.YtpiehlfffjhoaaaGreatDoor
