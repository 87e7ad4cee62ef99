/- Lemmas for the law on the console: the parts CnQ,CnR,CnS. -/
import Derived.Test.YtpiehlfffjhoaaaGreatDoorQ0
import Derived.Test.YtpiehlfffjhoaaaGreatDoorQ12
namespace Go.Proofs.YtpiehlfffjhoaaaGreatDoor
open Go.RowKit
set_option maxRecDepth 100000
theorem aP:∀ (l r:List UInt8),Op.bytesLess l r=decide (l < r):=by
 intro l
 induction l with
 | nil=>intro r;cases r <;> simp [Op.bytesLess]
 | cons c t ih=>
   intro r;cases r with
   | nil=>simp [Op.bytesLess]
   | cons d u=>
     rw [Op.bytesLess,ih u,Bool.eq_iff_iff,decide_eq_true_eq,List.cons_lt_cons_iff,Bool.or_eq_true,Bool.and_eq_true,beq_iff_eq,decide_eq_true_eq,decide_eq_true_eq]
theorem kP (a b:ByteArray):yN a b=decide (a.data.toList < b.data.toList):=by unfold yN;rw [aP,Lib.toList_data,Lib.toList_data]
theorem pw {a b:ByteArray}:yN a b=true ↔ a.data.toList < b.data.toList:=by rw [kP,decide_eq_true_eq]
theorem tM {a b c:ByteArray} (h1:yN a b=true) (h2:yN b c=true):yN a c=true:=by
 rw [pw] at *;exact List.lt_trans h1 h2
theorem uP (a:ByteArray):yN a a=false:=by
 rw [kP];exact decide_eq_false (List.lt_irrefl _)
theorem td {a b:ByteArray} (h1:yN a b=true):yN b a=false:=by
 cases h:yN b a
 · rfl
 · have:=tM h1 h;rw [uP] at this;cases this
theorem px (a b:ByteArray):yN a b=true∨a=b∨yN b a=true:=by
 rw [pw,pw];rcases Std.lt_trichotomy a.data.toList b.data.toList with h | h | h
 · exact .inl h
 · exact .inr (.inl (nk h))
 · exact .inr (.inr h)
theorem oS {a b:ByteArray} (h:yN a b=true):a≠b:=by
 intro e;rw [e,uP] at h;cases h
def vh (a b:Last):Prop:=yN a.name b.name=true
theorem nF:∀ (xs:List Last) (p:Option ByteArray),yK p xs=true→(∀ q,p=some q→∀ x ∈ xs,yN q x.name=true)∧xs.Pairwise vh
 | [],_,_=>⟨by simp,List.Pairwise.nil⟩
 | x :: xs,p,h=>by
   have h2:yK (some x.name) xs=true:=by cases p <;> (simp only [yK,Bool.and_eq_true] at h;first | exact h.2 | exact h.2.2)
   obtain ⟨h3,h4⟩:=nF xs (some x.name) h2;refine ⟨?_,List.Pairwise.cons (h3 x.name rfl) h4⟩;intro q hq y hy;subst hq;simp only [yK,Bool.and_eq_true] at h;rcases List.mem_cons.1 hy with rfl | hy
   · exact h.2.1
   · exact tM h.2.1 (h3 x.name rfl y hy)
theorem mV:∀ (xs:List Last) (p:Option ByteArray),yK p xs=true→∀ x ∈ xs,zy x=true
 | [],_,_=>by simp
 | x :: xs,p,h=>by
   have h2:zy x=true∧yK (some x.name) xs=true:=by cases p <;> (simp only [yK,Bool.and_eq_true] at h;first | exact ⟨h.1,h.2⟩ | exact ⟨h.1,h.2.2⟩)
   intro y hy;rcases List.mem_cons.1 hy with rfl | hy
   · exact h2.1
   · exact mV xs _ h2.2 y hy
theorem kM:∀ (xs:List Last) (p:Option ByteArray),(∀ q,p=some q→∀ x ∈ xs,yN q x.name=true)→xs.Pairwise vh→(∀ x ∈ xs,zy x=true)→yK p xs=true
 | [],p,_,_,_=>by cases p <;> rfl
 | x :: xs,p,h1,h2,h3=>by
   obtain ⟨a,b⟩:=List.pairwise_cons.1 h2;have ih:=kM xs (some x.name) (fun q e=>by injection e with e;subst e;exact a) b (fun y hy=>h3 y (by simp [hy]));cases p with
   | none=>simp only [yK,ih,h3 x (by simp),Bool.and_self]
   | some q=>simp only [yK,ih,h3 x (by simp),h1 q rfl x (by simp),Bool.and_self]
theorem tH {xs:List Last} (h:yz xs=true):xs.Pairwise vh:=by
 unfold yz at h;rw [Bool.and_eq_true] at h;exact (nF xs none h.1).2
theorem yV {xs:List Last} (h:yz xs=true):∀ x ∈ xs,zy x=true:=by
 unfold yz at h;rw [Bool.and_eq_true] at h;exact mV xs none h.1
theorem wg {xs:List Last} (h:yz xs=true):xs.length≤30:=by
 unfold yz at h;rw [Bool.and_eq_true,decide_eq_true_eq] at h;exact h.2
theorem cg {xs:List Last} (h2:xs.Pairwise vh) (h3:∀ x ∈ xs,zy x=true) (h4:xs.length≤30):yz xs=true:=by
 unfold yz;rw [Bool.and_eq_true,decide_eq_true_eq];exact ⟨kM xs none (by simp) h2 h3,h4⟩
def lbN (nm:ByteArray):List Last→Nat
 | []=>0
 | x :: xs=>if yN x.name nm=true then lbN nm xs + 1 else 0
theorem va (nm:ByteArray):∀ xs:List Last,lbN nm xs≤xs.length
 | []=>by simp [lbN]
 | x :: xs=>by
   have:=va nm xs;simp only [lbN,List.length_cons];split <;> omega
theorem sL (nm:ByteArray):∀ (xs:List Last),xs.Pairwise vh→∀ k x,xs[k]?=some x→(yN x.name nm=true ↔ k < lbN nm xs)
 | [],_,k,x,h=>by simp at h
 | y :: ys,hp,k,x,h=>by
   obtain ⟨h1,h2⟩:=List.pairwise_cons.1 hp;cases k with
   | zero=>
     simp only [List.getElem?_cons_zero,Option.some.injEq] at h;subst h;simp only [lbN];split
     · rename_i e;simp [e]
     · rename_i e;simp [e]
   | succ k=>
     simp only [List.getElem?_cons_succ] at h;have ih:=sL nm ys h2 k x h;have h3:=h1 x (List.mem_of_getElem? h);simp only [lbN];split
     · rw [ih];omega
     · rename_i e;constructor
       · intro hx;exact absurd (tM h3 hx) e
       · omega
def xM (nm:ByteArray) (xs:List Last):Bool:=(xs[lbN nm xs]?).any (fun x=>decide (x.name=nm))
def vO (nm:ByteArray):List Last→Nat→Int
 | [],_=>-1
 | x :: xs,k=>if x.name=nm then (k:Int) else vO nm xs (k + 1)
theorem nq (nm:ByteArray):∀ (xs:List Last) (k:Nat),(∀ x ∈ xs,x.name≠nm)→vO nm xs k = -1
 | [],_,_=>rfl
 | x :: xs,k,h=>by
   simp only [vO];rw [if_neg (h x (by simp)),nq nm xs _ (fun y hy=>h y (by simp [hy]))]
theorem kw (nm:ByteArray):∀ (xs:List Last),xs.Pairwise vh→∀ k,vO nm xs k=if xM nm xs=true then ((k + lbN nm xs:Nat):Int) else -1
 | [],_,k=>by simp [vO,xM]
 | y :: ys,hp,k=>by
   obtain ⟨h1,h2⟩:=List.pairwise_cons.1 hp;have ih:=kw nm ys h2 (k + 1);simp only [vO];by_cases he:y.name=nm
   · have:lbN nm (y :: ys)=0:=by simp only [lbN];rw [if_neg (by rw [he,uP];simp)]
     rw [if_pos he];simp only [xM,this,List.getElem?_cons_zero,Option.any_some,decide_eq_true he];simp
   · rw [if_neg he];by_cases hl:yN y.name nm=true
     · have:lbN nm (y :: ys)=lbN nm ys + 1:=by simp only [lbN];rw [if_pos hl]
       have e:xM nm (y :: ys)=xM nm ys:=by simp only [xM,this,List.getElem?_cons_succ]
       rw [ih,e,this,show k + 1 + lbN nm ys=k + (lbN nm ys + 1) from by omega]
     · have:lbN nm (y :: ys)=0:=by simp only [lbN];rw [if_neg hl]
       simp only [xM,this,List.getElem?_cons_zero,Option.any_some,decide_eq_false he];rw [nq]
       · simp
       · intro z hz e;have:=h1 z hz;unfold vh at this;rw [e] at this;exact hl this
theorem pm {nm:ByteArray} {xs:List Last} (h:yz xs=true):vO nm xs 0=if xM nm xs=true then (lbN nm xs:Int) else -1:=by
 have:=kw nm xs (tH h) 0;simpa using this
theorem za8 {nm:ByteArray} {xs:List Last} (h:xM nm xs=true):∃ x,xs[lbN nm xs]?=some x∧x.name=nm:=by
 unfold xM at h;cases hx:xs[lbN nm xs]? with
 | none=>rw [hx] at h;simp at h
 | some x=>rw [hx] at h;exact ⟨x,rfl,by simpa using h⟩
theorem oU {nm:ByteArray} {xs:List Last} (hp:xs.Pairwise vh) (hh:xM nm xs=false) {j:Nat} {y:Last} (hy:xs[j]?=some y) (hj:lbN nm xs≤j):yN nm y.name=true:=by
 have hn:¬ yN y.name nm=true:=fun h=>by have:=(sL nm xs hp j y hy).1 h;omega
 rcases px y.name nm with h | h | h
 · exact absurd h hn
 · exfalso;have hlen:=(List.getElem?_eq_some_iff.1 hy).1;obtain ⟨z,hz⟩:∃ z,xs[lbN nm xs]?=some z:=⟨_,List.getElem?_eq_getElem (by omega)⟩
   have hz2:¬ yN z.name nm=true:=fun h=>by have:=(sL nm xs hp _ z hz).1 h;omega
   have hz3:z.name≠nm:=by
    intro e;unfold xM at hh;rw [hz] at hh;simp [e] at hh
   rcases Nat.lt_or_eq_of_le hj with hlt | heq
   · obtain ⟨a,ha⟩:=List.getElem?_eq_some_iff.1 hz;obtain ⟨b,hb⟩:=List.getElem?_eq_some_iff.1 hy;have:=List.pairwise_iff_getElem.1 hp _ _ a b hlt;unfold vh at this;rw [ha,hb,h] at this;exact hz2 this
   · rw [←heq,hz] at hy;injection hy with hy;exact hz3 (by rw [hy,h])
 · exact h
def uD (xs:List Last) (i:Nat) (x:Last):List Last:=xs.take i ++ x :: xs.drop i
theorem wY (xs:List Last) (i:Nat) (x:Last) (hi:i≤xs.length):(uD xs i x).length=xs.length + 1:=by simp [uD];omega
def yO (xs:List Last) (x:Last):List Last × Int:=
 if yz xs=true then (if zy x=true then (if xM x.name xs=true then ([],4) else if xs.length=30 then ([],5) else (uD xs (lbN x.name xs) x,0)) else ([],2)) else ([],1)
section
variable {xs:List Last} {x:Last}
theorem qb (h:yz xs=false):yO xs x=([],1):=by unfold yO;rw [if_neg (by simp [h])]
theorem qc (h:yz xs=true) (h2:zy x=false):yO xs x=([],2):=by unfold yO;rw [if_pos h,if_neg (by simp [h2])]
theorem qa (h:yz xs=true) (h2:zy x=true) (h3:xM x.name xs=true):yO xs x=([],4):=by unfold yO;rw [if_pos h,if_pos h2,if_pos h3]
theorem pb (h:yz xs=true) (h2:zy x=true) (h3:xM x.name xs=false) (h4:xs.length=30):yO xs x=([],5):=by unfold yO;rw [if_pos h,if_pos h2,if_neg (by simp [h3]),if_pos h4]
theorem uJ (h:yz xs=true) (h2:zy x=true) (h3:xM x.name xs=false) (h4:¬ xs.length=30):yO xs x=(uD xs (lbN x.name xs) x,0):=by unfold yO;rw [if_pos h,if_pos h2,if_neg (by simp [h3]),if_neg h4]
end
theorem lV (xs:List Last) (x:Last):((yO xs x).1.length:Int)≤30:=by
 unfold yO;split
 · rename_i h;have:=wg h
   repeat' split
   all_goals (first | (simp;done) | skip)
   rw [wY _ _ _ (va _ _)];omega
 · simp
theorem zaa {xs:List Last} {x:Last} (hp:xs.Pairwise vh) (hh:xM x.name xs=false):(uD xs (lbN x.name xs) x).Pairwise vh:=by
 unfold uD;have hl:=va x.name xs;rw [List.pairwise_append];refine ⟨hp.take,?_,?_⟩
 · rw [List.pairwise_cons];refine ⟨?_,hp.drop⟩;intro y hy;obtain ⟨j,hj⟩:=List.getElem?_of_mem hy;rw [List.getElem?_drop] at hj;exact oU hp hh hj (by omega)
 · have key:∀ a ∈ xs.take (lbN x.name xs),yN a.name x.name=true:=by
    intro a ha;obtain ⟨j,hj⟩:=List.getElem?_of_mem ha;rw [List.getElem?_take] at hj;split at hj
    · rename_i hlt;exact (sL x.name xs hp j a hj).2 hlt
    · cases hj
   intro a ha b hb;rcases List.mem_cons.1 hb with rfl | hb
   · exact key a ha
   · obtain ⟨j,hj⟩:=List.getElem?_of_mem hb;rw [List.getElem?_drop] at hj;exact tM (key a ha) (oU hp hh hj (by omega))
theorem lW {xs:List Last} {x:Last} (h:(yO xs x).2=0):yz (yO xs x).1=true∧yz xs=true:=by
 cases h1:yz xs
 · rw [qb h1] at h;cases h
 cases h2:zy x
 · rw [qc h1 h2] at h;cases h
 cases h3:xM x.name xs
 · by_cases h4:xs.length=30
   · rw [pb h1 h2 h3 h4] at h;cases h
   · rw [uJ h1 h2 h3 h4];refine ⟨cg (zaa (tH h1) h3) ?_ ?_,rfl⟩
     · intro y hy;unfold uD at hy;rcases List.mem_append.1 hy with hy | hy
       · exact yV h1 y (List.mem_of_mem_take hy)
       · rcases List.mem_cons.1 hy with rfl | hy
         · exact h2
         · exact yV h1 y (List.mem_of_mem_drop hy)
     · show (uD xs (lbN x.name xs) x).length≤30
       rw [wY _ _ _ (va _ _)];have:=wg h1;omega
 · rw [qa h1 h2 h3] at h;cases h
theorem zbi {xs:List Last} {k:Nat} {x y:Last} (h:yz xs=true) (hx:xs[k]?=some x) (hy:zy y=true) (hn:y.name=x.name):yz (xs.set k y)=true:=by
 obtain ⟨hk,he⟩:=List.getElem?_eq_some_iff.1 hx;refine cg ?_ ?_ (by rw [List.length_set];exact wg h)
 · rw [List.pairwise_iff_getElem];intro i j hi hj hij;have hp:=List.pairwise_iff_getElem.1 (tH h) i j (by simpa using hi) (by simpa using hj) hij;unfold vh at hp ⊢;rw [List.getElem_set,List.getElem_set];by_cases h1:k=i
   · rw [if_pos h1,if_neg (by omega)];subst h1;rw [he] at hp;rw [hn];exact hp
   · by_cases h2:k=j
     · rw [if_neg h1,if_pos h2];subst h2;rw [he] at hp;rw [hn];exact hp
     · rw [if_neg h1,if_neg h2];exact hp
 · intro z hz;rcases List.mem_or_eq_of_mem_set hz with hz | hz
   · exact yV h z hz
   · rw [hz];exact hy
def yv (xs:List Last) (nm:ByteArray):Int × Int:=
 if yz xs=true then (if zo nm=true then (if xM nm xs=true then ((lbN nm xs:Int),0) else (0,3)) else (0,2)) else (0,1)
def apt (a b:Int):Int:=max (a - b) (b - a)
def rmP (x:Last) (f:Foot):Int:=x.length - f.length
def okC (x:Last) (f:Foot) (lo hi gi:Int):Bool:=inB (rmP x f) lo hi && (decide (apt x.b f.b≤gi) && (decide (apt x.i f.i≤gi) && decide (apt x.h f.h≤gi)))
def vv (x:Last) (f:Foot) (lo:Int):Int:=(rmP x f - lo) + apt x.b f.b + apt x.i f.i + apt x.h f.h
def wX (lo hi gi:Int):Bool:=inB hi 0 500 && (inB lo 0 hi && inB gi 0 500)
section
variable (f:Foot) (lo hi gi:Int)
def bN (b:Option (Nat × Int)) (i:Nat) (x:Last):Option (Nat × Int):=
 if okC x f lo hi gi=true then (match b with
  | none=>some (i,vv x f lo)
  | some (j,m)=>if vv x f lo < m then some (i,vv x f lo) else some (j,m)) else b
def pO:Option (Nat × Int)→Nat→List Last→Option (Nat × Int)
 | b,_,[]=>b
 | b,i,x :: r=>pO (bN f lo hi gi b i x) (i + 1) r
def yQ:Nat→List Last→List (Nat × Int)
 | _,[]=>[]
 | i,x :: r=>if okC x f lo hi gi=true then (i,vv x f lo) :: yQ (i + 1) r else yQ (i + 1) r
end
def wl (b:Option (Nat × Int)) (p:Nat × Int):Option (Nat × Int):=match b with
 | none=>some p
 | some (j,m)=>if p.2 < m then some p else some (j,m)
theorem uc (f:Foot) (lo hi gi:Int):∀ (xs:List Last) (b:Option (Nat × Int)) (i:Nat),pO f lo hi gi b i xs=(yQ f lo hi gi i xs).foldl wl b
 | [],b,i=>rfl
 | x :: r,b,i=>by
   simp only [pO,yQ];by_cases h:okC x f lo hi gi=true
   · rw [if_pos h,List.foldl_cons,←uc f lo hi gi r]
     congr 1
     unfold bN wl;rw [if_pos h]
   · rw [if_neg h,←uc f lo hi gi r]
     congr 1
     unfold bN;rw [if_neg h]
def xE (xs:List Last) (f:Foot) (lo hi gi:Int):Int × Int:=
 if (yz xs && (yo f && wX lo hi gi))=true then (match pO f lo hi gi none 0 xs with
  | some (k,_)=>((k:Int),0)
  | none=>(0,10)) else (0,1)
theorem sy (f:Foot) (lo hi gi:Int):∀ (xs:List Last) (i:Nat) (x:Last),yQ f lo hi gi i (xs ++ [x])=yQ f lo hi gi i xs ++ (if okC x f lo hi gi=true then [(i + xs.length,vv x f lo)] else [])
 | [],i,x=>by simp only [List.nil_append,yQ];split <;> rfl
 | y :: r,i,x=>by
   simp only [List.cons_append,yQ,sy f lo hi gi r (i + 1) x,List.length_cons];rw [show i + 1 + r.length=i + (r.length + 1) by omega];split <;> rfl
theorem mD (f:Foot) (lo hi gi:Int):∀ (xs:List Last) (i:Nat),(yQ f lo hi gi i xs).length≤xs.length
 | [],_=>by simp [yQ]
 | x :: r,i=>by
   have:=mD f lo hi gi r (i + 1);simp only [yQ,List.length_cons];split
   · simp only [List.length_cons];omega
   · omega
theorem oI (f:Foot) (lo hi gi:Int):∀ (xs:List Last) (i:Nat) (p:Nat × Int),p ∈ yQ f lo hi gi i xs→i≤p.1∧p.1 < i + xs.length
 | [],_,p,h=>by simp [yQ] at h
 | x :: r,i,p,h=>by
   simp only [yQ] at h;split at h
   · rcases List.mem_cons.1 h with rfl | h
     · simp
     · have:=oI f lo hi gi r (i + 1) p h;simp only [List.length_cons];omega
   · have:=oI f lo hi gi r (i + 1) p h;simp only [List.length_cons];omega
theorem ru:∀ (l:List (Nat × Int)) (p:Nat × Int),∃ q,l.foldl wl (some p)=some q∧(q=p∨q ∈ l)∧q.2≤p.2
 | [],p=>⟨p,rfl,.inl rfl,Int.le_refl _⟩
 | r :: l,p=>by
   rw [List.foldl_cons];by_cases h:r.2 < p.2
   · have e:wl (some p) r=some r:=by unfold wl;exact if_pos h
     rw [e];obtain ⟨q,h1,h2,h3⟩:=ru l r;refine ⟨q,h1,?_,by omega⟩;rcases h2 with h2 | h2
     · exact .inr (by simp [h2])
     · exact .inr (by simp [h2])
   · have e:wl (some p) r=some p:=by unfold wl;exact if_neg h
     rw [e];obtain ⟨q,h1,h2,h3⟩:=ru l p;refine ⟨q,h1,?_,h3⟩;rcases h2 with h2 | h2
     · exact .inl h2
     · exact .inr (by simp [h2])
theorem pg {xs:List Last} {f:Foot} {lo hi gi:Int} (h:(xE xs f lo hi gi).2=0):∃ (k:Nat) (x:Last),(xE xs f lo hi gi).1=(k:Int)∧xs[k]?=some x∧yz xs=true:=by
 unfold xE at h ⊢;split at h
 · rename_i hc;rw [if_pos hc];cases hb:pO f lo hi gi none 0 xs with
   | none=>rw [hb] at h;cases h
   | some p=>
     obtain ⟨k,m⟩:=p;simp only [Bool.and_eq_true] at hc;rw [uc] at hb;cases ha:yQ f lo hi gi 0 xs with
     | nil=>rw [ha] at hb;cases hb
     | cons a l=>
       rw [ha,List.foldl_cons] at hb;obtain ⟨q,h1,h2,_⟩:=ru l a;have e:wl none a=some a:=rfl;rw [e,h1] at hb;injection hb with hb;subst hb;have hm:((k,m):Nat × Int) ∈ yQ f lo hi gi 0 xs:=by
        rw [ha];rcases h2 with h2 | h2
        · simp [h2]
        · simp [h2]
       have hk:=(oI f lo hi gi xs 0 _ hm).2;simp only [Nat.zero_add] at hk;exact ⟨k,xs[k],rfl,List.getElem?_eq_getElem hk,hc.1⟩
 · cases h
def uE:List Int→Int→Int
 | [],m=>m
 | c :: r,m=>uE r (min m c)
def rb (c:Int):List Int→Nat→Int
 | [],_=>-1
 | x :: r,i=>if x=c then (i:Int) else rb c r (i + 1)
theorem pB:∀ (l:List (Nat × Int)) (p:Nat × Int),∃ q,l.foldl wl (some p)=some q∧q.2=uE (l.map (·.2)) p.2
 | [],p=>⟨p,rfl,rfl⟩
 | r :: l,p=>by
   rw [List.foldl_cons,List.map_cons];by_cases h:r.2 < p.2
   · have e:wl (some p) r=some r:=by unfold wl;exact if_pos h
     rw [e];obtain ⟨q,h1,h2⟩:=pB l r;exact ⟨q,h1,by rw [h2,uE,show min p.2 r.2=r.2 by omega]⟩
   · have e:wl (some p) r=some p:=by unfold wl;exact if_neg h
     rw [e];obtain ⟨q,h1,h2⟩:=pB l p;exact ⟨q,h1,by rw [h2,uE,show min p.2 r.2=p.2 by omega]⟩
theorem du:∀ (l:List (Nat × Int)) (p:Nat × Int) (q:Nat × Int),l.foldl wl (some p)=some q →
 ∃ k:Nat,rb (uE (l.map (·.2)) p.2) ((p :: l).map (·.2)) 0=(k:Int)∧(p :: l)[k]?=some q:=by
 have key:∀ (l:List (Nat × Int)) (done:List (Nat × Int)) (j:Nat) (p q:Nat × Int),done[j]?=some p→(∀ (i:Nat) (r:Nat × Int),done[i]?=some r→p.2≤r.2∧(i < j→p.2 < r.2))→l.foldl wl (some p)=some q →
  ∃ k:Nat,(done ++ l)[k]?=some q∧∀ (i:Nat) (r:Nat × Int),(done ++ l)[i]?=some r→q.2≤r.2∧(i < k→q.2 < r.2):=by
  intro l
  induction l with
  | nil=>
    intro done j p q h1 h2 h3;injection h3 with h3;subst h3;exact ⟨j,by simpa using h1,by simpa using h2⟩
  | cons r l ih=>
    intro done j p q h1 h2 h3;have e:done ++ r :: l=(done ++ [r]) ++ l:=by simp
    have hj:=(List.getElem?_eq_some_iff.1 h1).1;rw [e];rw [List.foldl_cons] at h3;by_cases h:r.2 < p.2
    · have e2:wl (some p) r=some r:=by unfold wl;exact if_pos h
      rw [e2] at h3;refine ih (done ++ [r]) done.length r q (by simp) ?_ h3;intro i s hs;by_cases hi:i < done.length
      · rw [List.getElem?_append_left hi] at hs;have:=(h2 i s hs).1;exact ⟨by omega,fun _=>by omega⟩
      · rw [List.getElem?_append_right (by omega)] at hs;have hi2:i=done.length:=by
         have:=(List.getElem?_eq_some_iff.1 hs).1;simp at this;omega
        subst hi2;simp at hs;subst hs;exact ⟨Int.le_refl _,fun h=>by omega⟩
    · have e2:wl (some p) r=some p:=by unfold wl;exact if_neg h
      rw [e2] at h3;refine ih (done ++ [r]) j p q (by rw [List.getElem?_append_left hj];exact h1) ?_ h3;intro i s hs;by_cases hi:i < done.length
      · rw [List.getElem?_append_left hi] at hs;exact h2 i s hs
      · rw [List.getElem?_append_right (by omega)] at hs;have hi2:i=done.length:=by
         have:=(List.getElem?_eq_some_iff.1 hs).1;simp at this;omega
        subst hi2;simp at hs;subst hs;exact ⟨by omega,fun h=>by omega⟩
 have idx:∀ (l:List (Nat × Int)) (k:Nat) (q:Nat × Int) (o:Nat),l[k]?=some q→(∀ (i:Nat) (r:Nat × Int),l[i]?=some r→i < k→q.2≠r.2)→rb q.2 (l.map (·.2)) o=((o + k:Nat):Int):=by
  intro l
  induction l with
  | nil=>intro k q o h;simp at h
  | cons r l ih=>
    intro k q o h1 h2;simp only [List.map_cons,rb];cases k with
    | zero=>
      simp at h1;subst h1;rw [if_pos rfl];simp
    | succ k=>
      simp only [List.getElem?_cons_succ] at h1;rw [if_neg (fun e=>h2 0 r (by simp) (by omega) e.symm),ih k q (o + 1) h1 (fun i s hs hi=>h2 (i + 1) s (by simpa using hs) (by omega))]
      congr 1
      omega
 intro l p q h;obtain ⟨q2,e1,e2⟩:=pB l p;rw [h] at e1;injection e1 with e1;subst e1;obtain ⟨k,h1,h2⟩:=key l [p] 0 p q (by simp) (by
  intro i r hr;have hi:i=0:=by
   have:=(List.getElem?_eq_some_iff.1 hr).1;simp at this;omega
  subst hi;simp at hr;subst hr;exact ⟨Int.le_refl _,fun h=>by omega⟩) h
 rw [List.singleton_append] at h1 h2;refine ⟨k,?_,h1⟩;rw [←e2,idx _ k q 0 h1 (fun i r hr hi=>by have:=(h2 i r hr).2 hi;omega)];simp
def wG (x:Last) (f:Foot):List Int:=[max (f.b - x.b) 0,max (f.i - x.i) 0,max (f.h - x.h) 0]
def shB (n:Int):Bool:=inB n 0 400
def xy (s i h o:Int):List Int × Int:=
 if (shB s && (shB i && (shB h && shB o)))=true then
  (if min s i + min (s - min s i) h + min (s - min s i - min (s - min s i) h) o < s then ([],10)
   else ([min s i,min (s - min s i) h + min (s - min s i - min (s - min s i) h) o,min (s - min s i - min (s - min s i) h) o],0))
 else ([],2)
def xR (x:Last) (k a:Int):Last:=
 if k=1 then { x with length:=x.length + a } else if k=2 then { x with b:=x.b + a } else if k=3 then { x with i:=x.i + a } else if k=4 then { x with h:=x.h + a } else { x with p:=x.p + a }
def ug:Last:=⟨⟨#[]⟩,0,0,0,0,0⟩
def xY (x:Last) (k a:Int):Last × Int:=
 if (zy x && xg k a)=true then (if zy (xR x k a)=true then (xR x k a,0) else (ug,10)) else (ug,1)
theorem pi (x:Last) (k a:Int):(xR x k a).name=x.name:=by
 unfold xR;by_cases h1:k=1
 · rw [if_pos h1]
 rw [if_neg h1];by_cases h2:k=2
 · rw [if_pos h2]
 rw [if_neg h2];by_cases h3:k=3
 · rw [if_pos h3]
 rw [if_neg h3];by_cases h4:k=4
 · rw [if_pos h4]
 rw [if_neg h4]
theorem rk {x:Last} {k a:Int} (h:(xY x k a).2=0):(xY x k a).1=xR x k a∧zy (xR x k a)=true:=by
 unfold xY at h ⊢;split at h
 · rename_i hc;rw [if_pos hc];split at h
   · rename_i h2;rw [if_pos h2];exact ⟨rfl,h2⟩
   · cases h
 · cases h
def uV (p q:Nat × Int):Prop:=p.2≤q.2
def ubR (n:Int):List (Nat × Int)→Nat
 | []=>0
 | p :: r=>if p.2≤n then ubR n r + 1 else 0
theorem jq (n:Int):∀ l:List (Nat × Int),ubR n l≤l.length
 | []=>by simp [ubR]
 | p :: r=>by
   have:=jq n r;simp only [ubR,List.length_cons];split <;> omega
theorem oe (n:Int):∀ (l:List (Nat × Int)),l.Pairwise uV→∀ k p,l[k]?=some p→(p.2≤n ↔ k < ubR n l)
 | [],_,k,p,h=>by simp at h
 | q :: r,hp,k,p,h=>by
   obtain ⟨h1,h2⟩:=List.pairwise_cons.1 hp;cases k with
   | zero=>
     simp only [List.getElem?_cons_zero,Option.some.injEq] at h;subst h;simp only [ubR];split <;> omega
   | succ k=>
     simp only [List.getElem?_cons_succ] at h;have ih:=oe n r h2 k p h;have h3:=h1 p (List.mem_of_getElem? h);unfold uV at h3;simp only [ubR];split <;> omega
def wZ (l:List (Nat × Int)) (k:Nat) (p:Nat × Int):List (Nat × Int):=l.take k ++ p :: l.drop k
theorem rd (l:List (Nat × Int)) (k:Nat) (p:Nat × Int) (h:k≤l.length):(wZ l k p).length=l.length + 1:=by simp [wZ];omega
theorem dI {l:List (Nat × Int)} (p:Nat × Int) (hp:l.Pairwise uV):(wZ l (ubR p.2 l) p).Pairwise uV:=by
 unfold wZ;rw [List.pairwise_append];have hlo:∀ a ∈ l.take (ubR p.2 l),a.2≤p.2:=by
  intro a ha;obtain ⟨j,hj⟩:=List.getElem?_of_mem ha;rw [List.getElem?_take] at hj;split at hj
  · rename_i hlt;exact (oe p.2 l hp j a hj).2 hlt
  · cases hj
 have hhi:∀ a ∈ l.drop (ubR p.2 l),p.2≤a.2:=by
  intro a ha;obtain ⟨j,hj⟩:=List.getElem?_of_mem ha;rw [List.getElem?_drop] at hj;have:=oe p.2 l hp _ a hj;omega
 refine ⟨hp.take,List.pairwise_cons.2 ⟨hhi,hp.drop⟩,?_⟩;intro a ha b hb;rcases List.mem_cons.1 hb with rfl | hb
 · exact hlo a ha
 · have h1:=hlo a ha;have h2:=hhi b hb;unfold uV;omega
theorem dH (l:List (Nat × Int)) (p:Nat × Int):(wZ l (ubR p.2 l) p)[0]?=wl l[0]? p:=by
 cases l with
 | nil=>rfl
 | cons q r=>
   by_cases h:q.2≤p.2
   · have e:wl (q :: r)[0]? p=some q:=by simp only [List.getElem?_cons_zero,wl];exact if_neg (by omega)
     rw [e];simp only [wZ,ubR];rw [if_pos h];rfl
   · have e:wl (q :: r)[0]? p=some p:=by simp only [List.getElem?_cons_zero,wl];exact if_pos (by omega)
     rw [e];simp only [wZ,ubR];rw [if_neg h];rfl
theorem aC {l:List (Nat × Int)} {k:Nat} {p q:Nat × Int} (h:q ∈ wZ l k p):q=p∨q ∈ l:=by
 unfold wZ at h;rcases List.mem_append.1 h with h | h
 · exact .inr (List.mem_of_mem_take h)
 · rcases List.mem_cons.1 h with h | h
   · exact .inl h
   · exact .inr (List.mem_of_mem_drop h)
end Go.Proofs.YtpiehlfffjhoaaaGreatDoor
