/- Lemmas for the law on the console: the parts Core,Zt,Fam,Row,Base. -/
import Derived.Test.YtpiehlfffjhoaaaGreatDoorProg
import Derived.WalkKit
import Derived.WalkSpells
import Derived.WalkLawsBesides
import Derived.BigGuardPart
import Derived.Handy
import Derived.Lib.Hide
import Derived.Laws.OwnMore
import Derived.Laws.CopyOwn
import Derived.Deep.Draws
import Derived.Deep.RegionHeld3
import Derived.StillTailTactics
import Derived.Deep.QuietTactic
import Derived.BigQuiet
import Derived.Deep.RegionHeld
import Derived.Test.YtpiehlfffjhoaaaGreatDoorRows
import Derived.ProofKit
import Derived.OpenShut
import Derived.SizedLaws
import Derived.Deep.Slices
import Derived.Deep.Fields
import Derived.ChangeSame
import Derived.Lib.SmallJoins
namespace Go.Proofs.YtpiehlfffjhoaaaGreatDoor
open Go.RowKit
set_option maxRecDepth 100000
set_option maxHeartbeats 800000
def Ret (v:Value) (w:World) (e:Ending) (w':World):Prop:=e=.returned v∧Below w.heap.size w w'
theorem Ret.mk {v v':Value} {w w':World} (h:v'=v) (hb:Below w.heap.size w w'):Ret v w (.returned v') w':=⟨by rw [h],hb⟩
def RetQ (v:Value) (w:World) (e:Ending) (w':World):Prop:=e=.returned v∧w'=w
theorem RetQ.mk {v v':Value} {w:World} (h:v'=v):RetQ v w (.returned v') w:=⟨by rw [h],rfl⟩
theorem vi {k:IntKind} {a b:Int} (h:a=b):Value.int k a=Value.int k b:=by rw [h]
theorem vb {a b:Bool} (h:a=b):Value.bool a=Value.bool b:=by rw [h]
theorem vs {a b:ByteArray} (h:a=b):Value.string a=Value.string b:=by rw [h]
theorem zc {a w:World} (h:Below a.heap.size a w) (o:Obj):Below a.heap.size a (w.alloc o):=h.alloc h.size o
theorem za {a b c:World} (h:Below a.heap.size a b) (k:Below b.heap.size b c):Below a.heap.size a c:=h.trans (k.mono h.size)
theorem zt {a w:World} (h:Below a.heap.size a w) {p:Addr} (hp:a.heap.size≤p.block) (u:Value):Below a.heap.size a (w.setCell p u):=h.setCell hp u
theorem zh {a w w':World} {row:Option Nat} (h:Below a.heap.size a w) (hg:w.grownBy w' row) (hr:∀ k,row=some k→a.heap.size≤k):Below a.heap.size a w':=h.grown hg h.size hr
theorem zb {a w:World} (h:Below a.heap.size a w) {p:Addr} {v:Value} (hc:a.cell? p=some v):w.cell? p=some v:=(h.cell (block_lt_of_cell hc)).trans hc
theorem yU {a w:World} (h:Below a.heap.size a w) (row:Option Nat):a.grownBy w row:=⟨h.os,h.tape,h.output,h.size,fun i hi _=>h.block i hi⟩
theorem oy {a w:World} {row:Option Nat} (h:a.grownBy w row) (o:Obj):a.grownBy (w.alloc o) row:=
 ⟨h.os,h.tape,h.output,Nat.le_trans h.size (by simp),fun i hi hne=>(Below.heap_alloc w o i (Nat.lt_of_lt_of_le hi h.size)).trans (h.block i hi hne)⟩
theorem zZ {a w:World} {g:Nat} (h:a.grownBy w (some g)) {p:Addr} (hp:p.block=g∨a.heap.size≤p.block) (u:Value):a.grownBy (w.setCell p u) (some g):=
 ⟨h.os,h.tape,h.output,by simpa [World.setCell] using h.size,fun i hi hne=>(Below.heap_setCell w p u i (by
   rintro rfl;rcases hp with hp | hp
   · exact hne (by rw [hp])
   · omega)).trans (h.block i hi hne)⟩
theorem vL {a b c:World} {row:Option Nat} (h:a.grownBy b row) (k:b.grownBy c row):a.grownBy c row:=
 ⟨k.os.trans h.os,k.tape.trans h.tape,k.output.trans h.output,Nat.le_trans h.size k.size,fun i hi hne=>(k.block i (Nat.lt_of_lt_of_le hi h.size) hne).trans (h.block i hi hne)⟩
theorem wA {a b c:World} {row:Option Nat} (h:a.grownBy b row) (k:Below b.heap.size b c):a.grownBy c row:=vL h (yU k row)
def Blk (w:World) (g:Nat) (t:TypeId) (cs:Array Value):Prop:=w.heap[g]?=some (.cells cs t (0,0))
section
variable {w w':World} {g:Nat} {t:TypeId} {cs:Array Value}
theorem Blk.lt (h:Blk w g t cs):g < w.heap.size:=by
 rcases Nat.lt_or_ge g w.heap.size with hlt | hge
 · exact hlt
 · unfold Blk at h;rw [Array.getElem?_eq_none hge] at h;cases h
theorem Blk.cell (h:Blk w g t cs) (i:Nat):w.cell? ⟨g,i,none⟩=cs[i]?:=cell_of_row w g i cs t (0,0) h
theorem Blk.frozen (h:Blk w g t cs) (i:Nat):w.frozen? ⟨g,i,none⟩=false:=by
 unfold Blk at h;simp [World.frozen?,h]
theorem Blk.new (w:World) (t:TypeId) (cs:Array Value):Blk (w.alloc (.cells cs t)) w.heap.size t cs:=heap_alloc_new w _
theorem Blk.alloc (h:Blk w g t cs) (o:Obj):Blk (w.alloc o) g t cs:=(Below.heap_alloc w o g h.lt).trans h
theorem Blk.set_ (h:Blk w g t cs) (i:Nat) (u:Value):Blk (w.setCell ⟨g,i,none⟩ u) g t (cs.setIfInBounds i u):=by
 unfold Blk at h ⊢;simp [World.setCell,Array.getElem?_modify,h]
theorem Blk.far (h:Blk w g t cs) {p:Addr} (hp:g≠p.block) (u:Value):Blk (w.setCell p u) g t cs:=(Below.heap_setCell w p u g hp).trans h
theorem Blk.below (h:Blk w g t cs) (hb:Below w.heap.size w w'):Blk w' g t cs:=(hb.block g h.lt).trans h
theorem Blk.grown {row:Option Nat} (h:Blk w g t cs) (hb:w.grownBy w' row) (hg:some g≠row):Blk w' g t cs:=(hb.block g h.lt hg).trans h
end
theorem pf (a:Addr) (n:Nat):(a.add n).block=a.block:=by unfold Addr.add;split <;> rfl
theorem fl (a:Addr) (i j:Nat):(a.add i).add j=a.add (i + j):=by
 unfold Addr.add;by_cases hi:i=0 <;> by_cases hj:j=0 <;> simp [hi,hj,Nat.add_assoc]
theorem bD (a:Addr) (i j:Nat) (hj:j≠0):a.add (i + j)=⟨(a.add i).block,(a.add i).off + j,none⟩:=by
 rw [←fl];simp [Addr.add,hj]
def Arr (w:World) (A:Option Addr) (cs:List Value):Prop:=
 0 < cs.length→∃ ad,A=some ad∧ad.block < w.heap.size∧∀ j u,cs[j]?=some u→w.cell? (ad.add j)=some u
section
variable {w w':World} {A:Option Addr} {cs:List Value}
theorem Arr.nil (w:World) (A:Option Addr):Arr w A []:=fun h=>absurd h (by simp)
theorem Arr.at_ (h:Arr w A cs) {j:Nat} (hj:j < cs.length):∃ ad,A=some ad∧ad.block < w.heap.size∧∀ j u,cs[j]?=some u→w.cell? (ad.add j)=some u:=h (by omega)
theorem Arr.keep (h:Arr w A cs) (hs:w.heap.size≤w'.heap.size) (hk:∀ ad,A=some ad→∀ p:Addr,p.block=ad.block→p.block < w.heap.size→w'.cell? p=w.cell? p):Arr w' A cs:=fun hn=>by
 obtain ⟨ad,e,hb,hc⟩:=h hn;exact ⟨ad,e,by omega,fun j u hu=>(hk ad e _ (pf _ _) (by rw [pf];exact hb)).trans (hc j u hu)⟩
theorem Arr.below (h:Arr w A cs) (hb:Below w.heap.size w w'):Arr w' A cs:=h.keep hb.size fun _ _ _ _ hp=>hb.cell hp
theorem Arr.grown {row:Option Nat} (h:Arr w A cs) (hg:w.grownBy w' row) (hne:∀ ad,A=some ad→some ad.block≠row):Arr w' A cs:=
 h.keep hg.size fun ad e p hp hlt=>World.cell?_of_block (hg.block p.block hlt (by rw [hp];exact hne ad e))
theorem Arr.alloc (h:Arr w A cs) (o:Obj):Arr (w.alloc o) A cs:=h.below ((Below.refl _ _).alloc (Nat.le_refl _) o)
theorem Arr.own {base e size n c:Nat} (h:w.ownsRow base e size (.slice A n c) n cs):Arr w A cs:=fun hn=>by
 rcases h.2 with ⟨h1,h2⟩ | ⟨g,cap,cur,h1,_,hg,_⟩
 · exfalso;have:=h.1;subst h2;simp at this;subst this;simp at hn
 · have h1':=h1;simp only [Value.slice.injEq] at h1;obtain ⟨rfl,_,_⟩:=h1;exact ⟨_,rfl,(Array.getElem?_eq_some_iff.1 hg).1,h.cells (g:=g) rfl⟩
theorem Arr.take (h:Arr w A cs) (k:Nat):Arr w A (cs.take k):=fun hn=>by
 obtain ⟨ad,e,hb,hc⟩:=h (by simp at hn;omega);exact ⟨ad,e,hb,fun j u hu=>hc j u (by
  rw [List.getElem?_take] at hu;split at hu
  · exact hu
  · cases hu)⟩
end
theorem ze {w w':World} {base e size n:Nat} {v:Value} {cs:List Value} (h:w.ownsRow base e size v n cs) (hb:Below w.heap.size w w'):w'.ownsRow base e size v n cs:=
 h.kept (yU hb none) (by cases v.ownBlock <;> simp)
theorem yT {w:World} {base base' e size n:Nat} {v:Value} {cs:List Value} (h:w.ownsRow base e size v n cs) (hb:base'≤base):w.ownsRow base' e size v n cs:=by
 refine ⟨h.1,?_⟩;rcases h.2 with h2 | ⟨g,cap,cur,hv,hg,r⟩
 · exact .inl h2
 · exact .inr ⟨g,cap,cur,hv,by omega,r⟩
theorem xT {w:World} {base e size n:Nat} {v:Value} {cs:List Value} (h:w.ownsRow base e size v n cs):∃ A c,v=.slice A n c∧n≤c∧c≤maxLen:=by
 rcases h.2 with ⟨rfl,rfl⟩ | ⟨g,cap,cur,rfl,_,_,h1,h2,_⟩
 · exact ⟨none,0,rfl,by omega,by simp [maxLen]⟩
 · exact ⟨_,cap,rfl,h1,h2⟩
def zd {α:Type} (f:α→List Value) (xs:List α):List Value:=xs.flatMap f
theorem xe {α:Type} {f:α→List Value} {s:Nat} (hf:∀ x,(f x).length=s) (xs:List α):(zd f xs).length=xs.length * s:=by
 unfold zd
 induction xs with
 | nil=>simp
 | cons x r ih=>simp only [List.flatMap_cons,List.length_append,List.length_cons,hf,ih,Nat.succ_mul];omega
theorem qj {α:Type} {f:α→List Value} {s:Nat} (hf:∀ x,(f x).length=s):∀ (xs:List α) (k j:Nat) (x:α),xs[k]?=some x→j < s→(zd f xs)[k * s + j]?=(f x)[j]?:=by
 intro xs
 induction xs with
 | nil=>intro k j x h;simp at h
 | cons y r ih=>
   intro k j x h hj;cases k with
   | zero=>
     simp only [List.getElem?_cons_zero,Option.some.injEq] at h;subst h;simp only [zd,List.flatMap_cons,Nat.zero_mul,Nat.zero_add];rw [List.getElem?_append_left (by rw [hf];exact hj)]
   | succ k=>
     simp only [List.getElem?_cons_succ] at h;have:=ih k j x h hj;simp only [zd,List.flatMap_cons] at this ⊢;rw [List.getElem?_append_right (by rw [hf,Nat.succ_mul];omega),hf];rw [show (k + 1) * s + j - s=k * s + j from by rw [Nat.succ_mul];omega];exact this
theorem zX {α:Type} (f:α→List Value) (xs ys:List α):zd f (xs ++ ys)=zd f xs ++ zd f ys:=by simp [zd]
theorem wb {α:Type} (f:α→List Value) (x:α):zd f [x]=f x:=by simp [zd]
theorem Arr.elem {α:Type} {f:α→List Value} {s:Nat} (hf:∀ x,(f x).length=s) {w:World} {A:Option Addr} {xs:List α} (h:Arr w A (zd f xs)) {k:Nat} {x:α} (hk:xs[k]?=some x) (hs:0 < s) :
 ∃ ad,A=some ad∧ad.block < w.heap.size∧w.cell? (ad.add (k * s))=(f x)[0]?∧∀ j,j < s→j≠0→w.cell? ⟨(ad.add (k * s)).block,(ad.add (k * s)).off + j,none⟩=(f x)[j]?:=by
 have hkl:k < xs.length:=(List.getElem?_eq_some_iff.1 hk).1;obtain ⟨ad,e,hb,hc⟩:=h (by rw [xe hf];exact Nat.mul_pos (by omega) hs);have key:∀ j,j < s→w.cell? (ad.add (k * s + j))=(f x)[j]?:=by
  intro j hj;have h1:=qj hf xs k j x hk hj;have h2:(f x)[j]?=some ((f x)[j]'(by rw [hf];exact hj)):=List.getElem?_eq_getElem _;rw [h2] at h1 ⊢;exact hc _ _ h1
 exact ⟨ad,e,hb,by simpa using key 0 hs,fun j hj h0=>by rw [←bD _ _ _ h0];exact key j hj⟩
theorem yY {α:Type} {xs:List α} {k:Nat} {x:α} (h:xs[k]?=some x):xs.drop k=x :: xs.drop (k + 1):=by
 obtain ⟨hlt,rfl⟩:=List.getElem?_eq_some_iff.1 h;exact List.drop_eq_getElem_cons hlt
theorem zx {α:Type} {xs:List α} {k:Nat} (h:k < xs.length):∃ x,xs[k]?=some x:=⟨_,List.getElem?_eq_getElem h⟩
theorem yD {α:Type} {xs:List α} {k:Nat} {x:α} (h:xs[k]?=some x):xs.take (k + 1)=xs.take k ++ [x]:=by
 obtain ⟨hlt,rfl⟩:=List.getElem?_eq_some_iff.1 h;exact List.take_succ_eq_append_getElem hlt
theorem ph (s t:ByteArray):s.toList=t.toList ↔ s=t:=by
 constructor
 · intro h;rw [ByteArray.toList_eq,ByteArray.toList_eq] at h;cases s;cases t;simp only [ByteArray.mk.injEq];exact Array.ext' h
 · intro h;rw [h]
theorem yJ (s t:ByteArray):(s.toList == t.toList)=decide (s=t):=by
 rw [Bool.eq_iff_iff,beq_iff_eq,decide_eq_true_eq];exact ph s t
theorem rn (s:ByteArray):(s.toList == [])=decide (s.size=0):=by
 rw [ByteArray.toList_eq,Bool.eq_iff_iff,beq_iff_eq,decide_eq_true_eq,←List.length_eq_zero_iff];simp
def uQ (l:List Value) (i:Nat):List Value→List Value
 | []=>l
 | u :: r=>uQ (l.set i u) (i + 1) r
theorem ew:∀ (us l:List Value) (i:Nat),i + us.length≤l.length→uQ l i us=l.take i ++ us ++ l.drop (i + us.length):=by
 intro us
 induction us with
 | nil=>intro l i _;simp [uQ]
 | cons u r ih=>
   intro l i h;simp only [List.length_cons] at h;simp only [uQ,List.length_cons];rw [ih (l.set i u) (i + 1) (by rw [List.length_set];omega)];rw [List.take_set,List.drop_set_of_lt (by omega)];have e1:(l.take (i + 1)).set i u=l.take i ++ [u]:=by
    rw [List.take_succ_eq_append_getElem (by omega)];rw [List.set_append_right _ _ (by simp;omega)];have:(l.take i).length=i:=by simp;omega
    rw [this];simp
   rw [e1,show i + 1 + r.length=i + (r.length + 1) from by omega];simp
def zcz (E size n:Nat) (cs:List Value) (w:World) (e:Ending) (w':World):Prop:=
 ∃ g,e=.returned (.slice (some ⟨g,0,none⟩) n n)∧w'.ownsRow w.heap.size E size (.slice (some ⟨g,0,none⟩) n n) n cs∧Below w.heap.size w w'
theorem xj {w:World} {base e size n c:Nat} {A:Option Addr} {cs:List Value} (h:w.ownsRow base e size (.slice A n c) n cs) (hn:0 < n):∃ g,A=some ⟨g,0,none⟩:=by
 rcases h.2 with ⟨_,h2⟩ | ⟨g,cap,cur,hv,_⟩
 · omega
 · simp only [Value.slice.injEq] at hv;exact ⟨g,hv.1⟩
def zp (x:Int):List Value:=[.int .i64 x]
def zn (x:ByteArray):List Value:=[.string x]
theorem yn {w:World} {A:Option Addr} {xs:List Int} {k:Nat} {x:Int} (h:Arr w A (zd zp xs)) (hk:xs[k]?=some x):∃ ad,A=some ad∧ad.block < w.heap.size∧w.cell? (ad.add k)=some (.int .i64 x):=by
 obtain ⟨ad,e,hb,h0,_⟩:=h.elem (f:=zp) (s:=1) (fun _=>rfl) hk (by omega);exact ⟨ad,e,hb,by rw [Nat.mul_one] at h0;exact h0⟩
theorem zj {w:World} {A:Option Addr} {xs:List ByteArray} {k:Nat} {x:ByteArray} (h:Arr w A (zd zn xs)) (hk:xs[k]?=some x):∃ ad,A=some ad∧ad.block < w.heap.size∧w.cell? (ad.add k)=some (.string x):=by
 obtain ⟨ad,e,hb,h0,_⟩:=h.elem (f:=zn) (s:=1) (fun _=>rfl) hk (by omega);exact ⟨ad,e,hb,by rw [Nat.mul_one] at h0;exact h0⟩
def RetT (vs:Array Value) (w:World) (e:Ending) (w':World):Prop:=e=.returned (.tuple vs)∧Below w.heap.size w w'
theorem RetT.mk {vs vs':Array Value} {w w':World} (h:vs'=vs) (hb:Below w.heap.size w w'):RetT vs w (.returned (.tuple vs')) w':=⟨by rw [h],hb⟩
theorem xm {w:World} {base e size n:Nat} {v:Value} {cs:List Value} (h:w.ownsRow base e size v n cs) {p:Addr} (hp:∀ g,v.ownBlock=some g→g≠p.block) (u:Value):(w.setCell p u).ownsRow base e size v n cs:=
 h.kept (w':=w.setCell p u) (row:=some p.block) ⟨rfl,rfl,rfl,by simp [World.setCell],fun k _ hk=>Below.heap_setCell w p u k (fun e=>hk (by rw [e]))⟩ (by
  cases hv:v.ownBlock with
  | none=>exact .inl rfl
  | some g=>exact .inr (fun e=>hp g hv (by injection e)))
theorem zA {α:Type} (a:List α) (i:Nat) (x:α):a.toArray.setIfInBounds i x=(a.set i x).toArray:=List.setIfInBounds_toArray a i x
theorem zB {α:Type} (b:α) (l:List α) (x:α):(b :: l).set 0 x=x :: l:=List.set_cons_zero
theorem zC {α:Type} (b:α) (l:List α) (i:Nat) (x:α):(b :: l).set (i + 1) x=b :: l.set i x:=List.set_cons_succ
section
variable {P:Program} {md:Region.Mode} {ops:Array Oper} {Q:Exit→Act→World→Prop} {S:World→Prop} {fuel:Nat} {listed:Array Bool} {a:Act} {w:World}
theorem zT (i:Nat) (d:Tmp) {v:Value} {op:Op} {ty:TypeId} {ps:String} {af gd:_} {a':Act} (hi:ops[i]?=some { dst:=some d,op:=op,type:=ty,pos:=ps,after:=af,guard:=gd })
 (hy:∀ w,S w→(execOp a.eval { dst:=some d,op:=op,type:=ty,pos:=ps,after:=af,guard:=gd }).run P w=.ok (.value v) w)
 (h:wpAnyH P md ops Q S fuel (listed.setIfInBounds i true) a' w) (hS:S w:=by assumption)
 (hs:Region.noSelect ops=true:=by as_aux_lemma=>kernel_rfl) (hf:Region.free md ops listed i=true:=by as_aux_lemma=>kernel_rfl) (hr:(Region.ready md ops listed).contains i=true:=by as_aux_lemma=>kernel_rfl)
 (hw:Region.wanted { dst:=some d,op:=op,type:=ty,pos:=ps,after:=af,guard:=gd } (yielded ops a.tmps)=true:=by as_aux_lemma=>kernel_rfl)
 (ha:a.put (some d) v=a':=by (try simp only [Act.put,zA,zB,zC]);rfl)
 (hQ:∀ c a w,Q (.panic c) (a.put (some d) v) w→Q (.panic c) a w:=by exact fun _ _ _ h=>h):wpAnyH P md ops Q S (fuel + 1) listed a w:=
 wpAnyH_take hi hs hf hr hQ (Or.inl ⟨hw,hy⟩) hS (ha ▸ h)
theorem zU (i:Nat) (d:Tmp) {v:Value} {op:Op} {ty:TypeId} {ps:String} {af gd:_} {a':Act}
 (h:wpAnyH P md ops Q S fuel (listed.setIfInBounds i true) a' w) (hi:ops[i]?=some { dst:=some d,op:=op,type:=ty,pos:=ps,after:=af,guard:=gd }:=by rfl) (hS:S w:=by assumption)
 (hs:Region.noSelect ops=true:=by as_aux_lemma=>kernel_rfl) (hf:Region.free md ops listed i=true:=by as_aux_lemma=>kernel_rfl) (hr:(Region.ready md ops listed).contains i=true:=by as_aux_lemma=>kernel_rfl)
 (hw:Region.wanted { dst:=some d,op:=op,type:=ty,pos:=ps,after:=af,guard:=gd } (yielded ops a.tmps)=true:=by as_aux_lemma=>kernel_rfl)
 (hy:∀ w,S w→(execOp a.eval { dst:=some d,op:=op,type:=ty,pos:=ps,after:=af,guard:=gd }).run P w=.ok (.value v) w:=by intro w hSw;(try dsimp only at hSw);go_simp;try with_reducible rfl)
 (ha:a.put (some d) v=a':=by (try simp only [Act.put,zA,zB,zC]);rfl)
 (hQ:∀ c a w,Q (.panic c) (a.put (some d) v) w→Q (.panic c) a w:=by exact fun _ _ _ h=>h):wpAnyH P md ops Q S (fuel + 1) listed a w:=
 wpAnyH_take hi hs hf hr hQ (Or.inl ⟨hw,hy⟩) hS (ha ▸ h)
theorem zS (i:Nat) (d:Tmp) {op:Op} {ty:TypeId} {ps:String} {af gd:_} {a':Act}
 (h:wpAnyH P md ops Q S fuel (listed.setIfInBounds i true) a' w) (hi:ops[i]?=some { dst:=some d,op:=op,type:=ty,pos:=ps,after:=af,guard:=gd }:=by rfl) (hS:S w:=by assumption)
 (hs:Region.noSelect ops=true:=by as_aux_lemma=>kernel_rfl) (hf:Region.free md ops listed i=true:=by as_aux_lemma=>kernel_rfl) (hr:(Region.ready md ops listed).contains i=true:=by as_aux_lemma=>kernel_rfl)
 (hw:Region.wanted { dst:=some d,op:=op,type:=ty,pos:=ps,after:=af,guard:=gd } (yielded ops a.tmps)=false:=by as_aux_lemma=>kernel_rfl)
 (ha:a.put (some d) undef=a':=by (try simp only [Act.put,zA,zB,zC]);rfl)
 (hQ:∀ c a w,Q (.panic c) (a.put (some d) undef) w→Q (.panic c) a w:=by exact fun _ _ _ h=>h):wpAnyH P md ops Q S (fuel + 1) listed a w:=
 wpAnyH_take hi hs hf hr hQ (Or.inr ⟨hw,rfl⟩) hS (ha ▸ h)
theorem zR (i:Nat) (d:Option Tmp) {op:Op} {ty:TypeId} {ps:String} {af gd:_} (hi:ops[i]?=some { dst:=d,op:=op,type:=ty,pos:=ps,after:=af,guard:=gd })
 (h:∀ K':Act→World→Prop,Shut (∀ a w,S w→(S w→wpAnyH P md ops Q S fuel (listed.setIfInBounds i true) a w)→K' a w)→if Region.wanted { dst:=d,op:=op,type:=ty,pos:=ps,after:=af,guard:=gd } (yielded ops a.tmps)=true then Oper.wp P { dst:=d,op:=op,type:=ty,pos:=ps,after:=af,guard:=gd } a w K' Q else K' (a.put d undef) w)
 (hr:Region.ready md ops listed=[i]:=by as_aux_lemma=>kernel_rfl):wpAnyH P md ops Q S (fuel + 1) listed a w:=
 wpAnyH_ready hr (by simp) (AllReadyH.cons hi h AllReadyH.nil)
end
theorem qH {p:Prop} (h:p):Hid p:=Lib.hid h
theorem qC2 {w:World} {g:Nat} {t:TypeId} {v0 v1:Value} (h:Blk w g t #[v0,v1]):w.cell? ⟨g,0,none⟩=some v0∧w.cell? ⟨g,1,none⟩=some v1:=⟨h.cell 0,h.cell 1⟩
theorem qC3 {w:World} {g:Nat} {t:TypeId} {v0 v1 v2:Value} (h:Blk w g t #[v0,v1,v2]):w.cell? ⟨g,0,none⟩=some v0∧w.cell? ⟨g,1,none⟩=some v1∧w.cell? ⟨g,2,none⟩=some v2:=⟨h.cell 0,h.cell 1,h.cell 2⟩
theorem qC4 {w:World} {g:Nat} {t:TypeId} {v0 v1 v2 v3:Value} (h:Blk w g t #[v0,v1,v2,v3]):w.cell? ⟨g,0,none⟩=some v0∧w.cell? ⟨g,1,none⟩=some v1∧w.cell? ⟨g,2,none⟩=some v2∧w.cell? ⟨g,3,none⟩=some v3:=⟨h.cell 0,h.cell 1,h.cell 2,h.cell 3⟩
theorem qC5 {w:World} {g:Nat} {t:TypeId} {v0 v1 v2 v3 v4:Value} (h:Blk w g t #[v0,v1,v2,v3,v4]):w.cell? ⟨g,0,none⟩=some v0∧w.cell? ⟨g,1,none⟩=some v1∧w.cell? ⟨g,2,none⟩=some v2∧w.cell? ⟨g,3,none⟩=some v3∧w.cell? ⟨g,4,none⟩=some v4:=⟨h.cell 0,h.cell 1,h.cell 2,h.cell 3,h.cell 4⟩
theorem qC6 {w:World} {g:Nat} {t:TypeId} {v0 v1 v2 v3 v4 v5:Value} (h:Blk w g t #[v0,v1,v2,v3,v4,v5]):w.cell? ⟨g,0,none⟩=some v0∧w.cell? ⟨g,1,none⟩=some v1∧w.cell? ⟨g,2,none⟩=some v2∧w.cell? ⟨g,3,none⟩=some v3∧w.cell? ⟨g,4,none⟩=some v4∧w.cell? ⟨g,5,none⟩=some v5:=⟨h.cell 0,h.cell 1,h.cell 2,h.cell 3,h.cell 4,h.cell 5⟩
theorem qC9 {w:World} {g:Nat} {t:TypeId} {v0 v1 v2 v3 v4 v5 v6 v7 v8:Value} (h:Blk w g t #[v0,v1,v2,v3,v4,v5,v6,v7,v8]):w.cell? ⟨g,0,none⟩=some v0∧w.cell? ⟨g,1,none⟩=some v1∧w.cell? ⟨g,2,none⟩=some v2∧w.cell? ⟨g,3,none⟩=some v3∧w.cell? ⟨g,4,none⟩=some v4∧w.cell? ⟨g,5,none⟩=some v5∧w.cell? ⟨g,6,none⟩=some v6∧w.cell? ⟨g,7,none⟩=some v7∧w.cell? ⟨g,8,none⟩=some v8:=⟨h.cell 0,h.cell 1,h.cell 2,h.cell 3,h.cell 4,h.cell 5,h.cell 6,h.cell 7,h.cell 8⟩
theorem vG {w:World} {g:Nat} {t:TypeId} {v0 v1 v2 v3 v4 v5 v6 v7 v8 v9 v10 v11 v12 v13 v14:Value} (h:Blk w g t #[v0,v1,v2,v3,v4,v5,v6,v7,v8,v9,v10,v11,v12,v13,v14]):w.cell? ⟨g,0,none⟩=some v0∧w.cell? ⟨g,1,none⟩=some v1∧w.cell? ⟨g,2,none⟩=some v2∧w.cell? ⟨g,3,none⟩=some v3∧w.cell? ⟨g,4,none⟩=some v4∧w.cell? ⟨g,5,none⟩=some v5∧w.cell? ⟨g,6,none⟩=some v6∧w.cell? ⟨g,7,none⟩=some v7∧w.cell? ⟨g,8,none⟩=some v8∧w.cell? ⟨g,9,none⟩=some v9∧w.cell? ⟨g,10,none⟩=some v10∧w.cell? ⟨g,11,none⟩=some v11∧w.cell? ⟨g,12,none⟩=some v12∧w.cell? ⟨g,13,none⟩=some v13∧w.cell? ⟨g,14,none⟩=some v14:=⟨h.cell 0,h.cell 1,h.cell 2,h.cell 3,h.cell 4,h.cell 5,h.cell 6,h.cell 7,h.cell 8,h.cell 9,h.cell 10,h.cell 11,h.cell 12,h.cell 13,h.cell 14⟩
structure Entry where
 day:Int
 what:ByteArray
 value:Int
def Entry.cells (x:Entry):List Value:=[.int .i64 x.day,.string x.what,.int .i64 x.value]
theorem Entry.cells_length (x:Entry):x.cells.length=3:=rfl
theorem Entry.at_ {w:World} {A:Option Addr} {xs:List Entry} {k:Nat} {x:Entry} (h:Arr w A (zd Entry.cells xs)) (hk:xs[k]?=some x) :
 ∃ ad,A=some ad∧ad.block < w.heap.size∧w.cell? (ad.add (k * 3))=some (.int .i64 x.day) ∧
  w.cell? ⟨(ad.add (k * 3)).block,(ad.add (k * 3)).off + 1,none⟩=some (.string x.what) ∧
  w.cell? ⟨(ad.add (k * 3)).block,(ad.add (k * 3)).off + 2,none⟩=some (.int .i64 x.value):=by
 obtain ⟨ad,e,hb,h0,hj⟩:=h.elem Entry.cells_length hk (by omega);exact ⟨ad,e,hb,h0,hj 1 (by omega) (by omega),hj 2 (by omega) (by omega)⟩
structure Last where
 name:ByteArray
 length:Int
 b:Int
 i:Int
 h:Int
 p:Int
def Last.cells (x:Last):List Value:=[.string x.name,.int .i64 x.length,.int .i64 x.b,.int .i64 x.i,.int .i64 x.h,.int .i64 x.p]
theorem Last.cells_length (x:Last):x.cells.length=6:=rfl
theorem Last.at_ {w:World} {A:Option Addr} {xs:List Last} {k:Nat} {x:Last} (h:Arr w A (zd Last.cells xs)) (hk:xs[k]?=some x) :
 ∃ ad,A=some ad∧ad.block < w.heap.size∧w.cell? (ad.add (k * 6))=some (.string x.name) ∧
  w.cell? ⟨(ad.add (k * 6)).block,(ad.add (k * 6)).off + 1,none⟩=some (.int .i64 x.length) ∧
  w.cell? ⟨(ad.add (k * 6)).block,(ad.add (k * 6)).off + 2,none⟩=some (.int .i64 x.b) ∧
  w.cell? ⟨(ad.add (k * 6)).block,(ad.add (k * 6)).off + 3,none⟩=some (.int .i64 x.i) ∧
  w.cell? ⟨(ad.add (k * 6)).block,(ad.add (k * 6)).off + 4,none⟩=some (.int .i64 x.h) ∧
  w.cell? ⟨(ad.add (k * 6)).block,(ad.add (k * 6)).off + 5,none⟩=some (.int .i64 x.p):=by
 obtain ⟨ad,e,hb,h0,hj⟩:=h.elem Last.cells_length hk (by omega);exact ⟨ad,e,hb,h0,hj 1 (by omega) (by omega),hj 2 (by omega) (by omega),hj 3 (by omega) (by omega),hj 4 (by omega) (by omega),hj 5 (by omega) (by omega)⟩
theorem dG:(Tryz.prog.info? 100).map (fun i=>(i.zero,i.size,i.bytes))=some (some (.agg #[.string ByteArray.empty,.int .i64 0,.int .i64 0,.int .i64 0,.int .i64 0,.int .i64 0]),6,56):=by kernel_rfl
structure Foot where
 length:Int
 b:Int
 i:Int
 h:Int
def Foot.cells (x:Foot):List Value:=[.int .i64 x.length,.int .i64 x.b,.int .i64 x.i,.int .i64 x.h]
theorem Foot.cells_length (x:Foot):x.cells.length=4:=rfl
theorem Foot.at_ {w:World} {A:Option Addr} {xs:List Foot} {k:Nat} {x:Foot} (h:Arr w A (zd Foot.cells xs)) (hk:xs[k]?=some x) :
 ∃ ad,A=some ad∧ad.block < w.heap.size∧w.cell? (ad.add (k * 4))=some (.int .i64 x.length) ∧
  w.cell? ⟨(ad.add (k * 4)).block,(ad.add (k * 4)).off + 1,none⟩=some (.int .i64 x.b) ∧
  w.cell? ⟨(ad.add (k * 4)).block,(ad.add (k * 4)).off + 2,none⟩=some (.int .i64 x.i) ∧
  w.cell? ⟨(ad.add (k * 4)).block,(ad.add (k * 4)).off + 3,none⟩=some (.int .i64 x.h):=by
 obtain ⟨ad,e,hb,h0,hj⟩:=h.elem Foot.cells_length hk (by omega);exact ⟨ad,e,hb,h0,hj 1 (by omega) (by omega),hj 2 (by omega) (by omega),hj 3 (by omega) (by omega)⟩
structure Style where
 u:ByteArray
 c:ByteArray
 l:ByteArray
 s:ByteArray
 t:Int
 h:Int
 e:Int
 d:Int
 q:Bool
def Style.cells (x:Style):List Value:=[.string x.u,.string x.c,.string x.l,.string x.s,.int .i64 x.t,.int .i64 x.h,.int .i64 x.e,.int .i64 x.d,.bool x.q]
theorem Style.cells_length (x:Style):x.cells.length=9:=rfl
theorem Style.at_ {w:World} {A:Option Addr} {xs:List Style} {k:Nat} {x:Style} (h:Arr w A (zd Style.cells xs)) (hk:xs[k]?=some x) :
 ∃ ad,A=some ad∧ad.block < w.heap.size∧w.cell? (ad.add (k * 9))=some (.string x.u) ∧
  w.cell? ⟨(ad.add (k * 9)).block,(ad.add (k * 9)).off + 1,none⟩=some (.string x.c) ∧
  w.cell? ⟨(ad.add (k * 9)).block,(ad.add (k * 9)).off + 2,none⟩=some (.string x.l) ∧
  w.cell? ⟨(ad.add (k * 9)).block,(ad.add (k * 9)).off + 3,none⟩=some (.string x.s) ∧
  w.cell? ⟨(ad.add (k * 9)).block,(ad.add (k * 9)).off + 4,none⟩=some (.int .i64 x.t) ∧
  w.cell? ⟨(ad.add (k * 9)).block,(ad.add (k * 9)).off + 5,none⟩=some (.int .i64 x.h) ∧
  w.cell? ⟨(ad.add (k * 9)).block,(ad.add (k * 9)).off + 6,none⟩=some (.int .i64 x.e) ∧
  w.cell? ⟨(ad.add (k * 9)).block,(ad.add (k * 9)).off + 7,none⟩=some (.int .i64 x.d) ∧
  w.cell? ⟨(ad.add (k * 9)).block,(ad.add (k * 9)).off + 8,none⟩=some (.bool x.q):=by
 obtain ⟨ad,e,hb,h0,hj⟩:=h.elem Style.cells_length hk (by omega);exact ⟨ad,e,hb,h0,hj 1 (by omega) (by omega),hj 2 (by omega) (by omega),hj 3 (by omega) (by omega),hj 4 (by omega) (by omega),hj 5 (by omega) (by omega),hj 6 (by omega) (by omega),hj 7 (by omega) (by omega),hj 8 (by omega) (by omega)⟩
structure Trouble where
 clause:Int
 code:Int
def Trouble.cells (x:Trouble):List Value:=[.int .i64 x.clause,.int .i64 x.code]
theorem Trouble.cells_length (x:Trouble):x.cells.length=2:=rfl
theorem Trouble.at_ {w:World} {A:Option Addr} {xs:List Trouble} {k:Nat} {x:Trouble} (h:Arr w A (zd Trouble.cells xs)) (hk:xs[k]?=some x) :
 ∃ ad,A=some ad∧ad.block < w.heap.size∧w.cell? (ad.add (k * 2))=some (.int .i64 x.clause) ∧
  w.cell? ⟨(ad.add (k * 2)).block,(ad.add (k * 2)).off + 1,none⟩=some (.int .i64 x.code):=by
 obtain ⟨ad,e,hb,h0,hj⟩:=h.elem Trouble.cells_length hk (by omega);exact ⟨ad,e,hb,h0,hj 1 (by omega) (by omega)⟩
end Go.Proofs.YtpiehlfffjhoaaaGreatDoor
namespace Go.Proofs.YtpiehlfffjhoaaaGreatDoor
open Go.ChangeShapes Go.WideShapes Go.ChangeAt Go.RowKit Go.Deep Go.Joins
theorem cz:ownKnob Tryz.prog.godebug=none:=by kernel_rfl
theorem pu:laidOutB Tryz.prog=true:=by kernel_rfl
section
variable {H:Type} {enc:TypeId × Value→H} {P:Program} {w:World} {base:Nat} {spare:Nat→Bool} {held:Bool}
theorem lK (hl:laidOutB P=true) {W W':World} (hb:Below W.heap.size W W'):∀ (ts:List TypeId) (vs:List Value) (ds:List (DataW H)) (ps:List MemPlace),
 (∀ t ∈ ts,P.readableRec t=true∧t < P.types.size)→DataW.TrodAll enc P W 0 (fun _=>true) true ts vs ds ps→(∀ x ∈ ps,x.block < W.heap.size) →
 DataW.TrodAll enc P W' 0 (fun b=>decide (b < W.heap.size)) true ts vs ds ps:=by
 intro ts
 induction ts with
 | nil=>
   intro vs ds ps _ h _;obtain ⟨rfl,rfl,rfl⟩:=trodAll_nil h;exact trodAll_mk0
 | cons t r ih=>
   intro vs ds ps ht h hp;obtain ⟨v,vs',d,ds',p,q,rfl,rfl,rfl,hd,hr⟩:=trodAll_cons h;have h1:=ht t (List.mem_cons_self ..);exact trodAll_cons_mk (Below.trod hl h1.1 h1.2 hd hb (fun x hx=>hp x (List.mem_append_left _ hx))) (ih vs' ds' q (fun t' h'=>ht t' (List.mem_cons_of_mem _ h')) hr (fun x hx=>hp x (List.mem_append_right _ hx)))
end
def inB (n lo hi:Int):Bool:=decide (lo≤n) && decide (n≤hi)
theorem oO {n lo hi:Int} (h1:lo≤n) (h2:n≤hi):inB n lo hi=true:=by simp [inB,h1,h2]
theorem inB_iff {n lo hi:Int}:inB n lo hi=true ↔ lo≤n∧n≤hi:=by simp [inB]
theorem dE {n lo hi:Int}:inB n lo hi=false ↔ n < lo∨hi < n:=by simp [inB];omega
theorem xu (n lo hi:Int) (w:World):Calls Tryz.prog 68 #[.int .i64 n,.int .i64 lo,.int .i64 hi] w (RetQ (.bool (inB n lo hi)) w):=by
 go_enter Tryz.func68,Tryz.ntmps68
 go_wp2
 all_goals
  go_returns;refine RetQ.mk (vb ?_);simp [inB];try omega
theorem xJ (n lo hi:Int) (w:World):Calls Tryz.prog 155 #[.int .i64 n,.int .i64 lo,.int .i64 hi] w (RetQ (.bool (inB n lo hi)) w):=by
 go_enter Tryz.func155,Tryz.ntmps155
 go_wp2
 all_goals
  go_returns;refine RetQ.mk (vb ?_);simp [inB];try omega
theorem qy (a b:Int) (w:World):Calls Tryz.prog 239 #[.int .i64 a,.int .i64 b] w (RetQ (.int .i64 (min a b)) w):=by
 go_enter Tryz.func239,Tryz.ntmps239
 go_wp2
 all_goals
  go_returns;refine RetQ.mk (vi ?_);omega
theorem aJ (a b:Int) (w:World):Calls Tryz.prog 237 #[.int .i64 a,.int .i64 b] w (RetQ (.int .i64 (max a b)) w):=by
 go_enter Tryz.func237,Tryz.ntmps237
 go_wp2
 all_goals
  go_returns;refine RetQ.mk (vi ?_);omega
def vp (c:UInt8):Bool:=decide (97≤c.toNat) && decide (c.toNat≤122)
def sl (c:UInt8):Bool:=decide (48≤c.toNat) && decide (c.toNat≤57)
def vY (c:UInt8):Bool:=vp c || sl c || decide (c.toNat=45)
def sG (l:List UInt8):Bool:=decide (1≤l.length) && decide (l.length≤12) && l.head?.any vp && l.all vY
def zo (s:ByteArray):Bool:=sG s.data.toList
theorem xU {s:ByteArray} {k:Nat} (h:k < s.size):s.data.toList[k]?=some s[k]:=by
 rw [List.getElem?_eq_getElem (by simpa using h)];rfl
theorem zv (s:ByteArray):s.data.toList.length=s.size:=by simp
theorem jd {c:UInt8} (h:(97≤c.toNat∧c.toNat≤122)∨(48≤c.toNat∧c.toNat≤57)∨c.toNat=45):vY c=true:=by
 simp [vY,vp,sl];omega
theorem zbq {c:UInt8} (h:¬ ((97≤c.toNat∧c.toNat≤122)∨(48≤c.toNat∧c.toNat≤57)∨c.toNat=45)):vY c=false:=by
 simp [vY,vp,sl];omega
theorem nH {s:ByteArray} (h1:1≤s.size) (h2:s.size≤12) (hs:vp (s[0]'(by omega))=true) (k:Nat) (hk:k≤1):zo s=(s.data.toList.drop k).all vY:=by
 have hh:=xU (s:=s) (k:=0) (by omega);have h0:vY (s[0]'(by omega))=true:=by simp only [vY,hs,Bool.true_or]
 simp only [zo,sG,List.head?_eq_getElem?,hh,Option.any_some,zv,hs];rw [decide_eq_true h1,decide_eq_true h2];have e0:s.data.toList=s[0]'(by omega) :: s.data.toList.drop 1:=by have:=yY hh;simpa using this
 match k,hk with
 | 0,_=>rw [List.drop_zero];simp
 | 1,_=>conv=>lhs;rw [e0,List.all_cons,h0]
        simp
theorem wN {s:ByteArray} (h:12 < s.size∨s.size < 1):zo s=false:=by
 simp only [zo,sG,zv];rcases h with h | h
 · rw [decide_eq_false (by omega:¬ s.size≤12)];simp
 · rw [decide_eq_false (by omega:¬ 1≤s.size)];simp
theorem qC {s:ByteArray} (h:0 < s.size) (hs:vp s[0]=false):zo s=false:=by
 have hh:=xU (s:=s) (k:=0) h;simp only [zo,sG,List.head?_eq_getElem?,hh,Option.any_some,hs];simp
theorem eA {c:UInt8} (h:97≤c.toNat∧c.toNat≤122):vp c=true:=by simp [vp,h]
theorem lu {c:UInt8} (h:¬ (97≤c.toNat∧c.toNat≤122)):vp c=false:=by simp [vp];omega
theorem xD (s:ByteArray) (hs:s.size≤9223372036854775807) (w:World):Calls Tryz.prog 118 #[.string s] w (RetQ (.bool (zo s)) w):=by
 go_enter Tryz.func118,Tryz.ntmps118;go_wp2_with fail
 · go_returns;exact RetQ.mk (vb (wN (by omega)).symm)
 · go_returns;exact RetQ.mk (vb (wN (by omega)).symm)
 · go_returns;exact RetQ.mk (vb (qC (by omega) (lu (by omega))).symm)
 · go_returns;exact RetQ.mk (vb (qC (by omega) (lu (by omega))).symm)
 · have hR:=qH (nH (s:=s) (by omega) (by omega) (eA (by omega)) 1 (by omega))
   go_loop [3] (fun i=>∃ k:Nat,1≤k∧k≤s.size∧i=.int .i64 k∧Hid (zo s=(s.data.toList.drop k).all vY)) (fun i=>s.size - (intOf i).toNat)
   case atStart=>exact ⟨1,by omega,by omega,rfl,hR⟩
   case round=>
    clear hR;obtain ⟨k,h1,hk,rfl,hR⟩:=hrel;by_cases hlt:k < s.size
    · have hb:=xU hlt;have hR2:=qH (hR.out.trans (by rw [yY hb,List.all_cons]:_=(vY s[k] && (s.data.toList.drop (k + 1)).all vY)));clear hR hb;go_wp2_with fail
      all_goals first
       | (go_returns
          have h45:((s[k].toNat:Int) != 45)=true:=by assumption
          rw [bne_iff_ne] at h45;refine RetQ.mk (vb ?_);rw [hR2.out,zbq (by omega)];rfl)
       | exact ⟨⟨k + 1,by omega,by omega,by go_num,qH (hR2.out.trans (by rw [jd (by omega)];rfl))⟩,by simp [intOf];omega⟩
       | (have h45:((s[k].toNat:Int) != 45)=false:=by assumption
          rw [bne_eq_false_iff_eq] at h45;exact ⟨⟨k + 1,by omega,by omega,by go_num,qH (hR2.out.trans (by rw [jd (by omega)];rfl))⟩,by simp [intOf];omega⟩)
    · have hR2:=qH (hR.out.trans (by rw [List.drop_eq_nil_of_le (by rw [zv];omega)];rfl:_=true));clear hR;go_wp2_with fail;go_returns;exact RetQ.mk (vb hR2.out.symm)
theorem tc (c:UInt8) (w:World):Calls Tryz.prog 217 #[.int .u8 c.toNat] w (RetQ (.bool (vp c)) w):=by
 go_enter Tryz.func217,Tryz.ntmps217
 go_wp2
 all_goals
  go_returns;refine RetQ.mk (vb ?_);rw [Bool.eq_iff_iff];simp [vp];try omega
theorem wM (c:UInt8) (w:World):Calls Tryz.prog 218 #[.int .u8 c.toNat] w (RetQ (.bool (sl c)) w):=by
 go_enter Tryz.func218,Tryz.ntmps218
 go_wp2
 all_goals
  go_returns;refine RetQ.mk (vb ?_);rw [Bool.eq_iff_iff];simp [sl];try omega
theorem xn (s:ByteArray) (hs:s.size≤9223372036854775807) (w:World):Calls Tryz.prog 153 #[.string s] w (RetQ (.bool (zo s)) w):=by
 by_cases h0:s.size=0
 · have he:(s.toList == [])=true:=by rw [rn];simp only [h0];rfl
   go_enter Tryz.func153,Tryz.ntmps153
   go_wp2
   go_returns;exact RetQ.mk (vb (wN (by omega)).symm)
 · have he:(s.toList == [])=false:=by rw [rn];exact decide_eq_false h0
   have hp:1≤s.size:=by omega
   clear h0;go_enter Tryz.func153,Tryz.ntmps153;cases hsm:vp (s[0]'(by omega))
   · by_cases hl:s.size≤12
     · have hd:decide (12 < (s.size:Int))=false:=decide_eq_false (by omega);go_wp2_with (first | (go_at_call 217;refine (tc _ _).mono ?_;rintro e w' ⟨rfl,rfl⟩) | (go_at_call 218;refine (wM _ _).mono ?_;rintro e w' ⟨rfl,rfl⟩))
       go_returns;exact RetQ.mk (vb (qC hp hsm).symm)
     · have hd:decide (12 < (s.size:Int))=true:=decide_eq_true (by omega);go_wp2_with (first | (go_at_call 217;refine (tc _ _).mono ?_;rintro e w' ⟨rfl,rfl⟩) | (go_at_call 218;refine (wM _ _).mono ?_;rintro e w' ⟨rfl,rfl⟩))
       go_returns;exact RetQ.mk (vb (wN (by omega)).symm)
   · by_cases hl:s.size≤12
     · have hR:=qH (nH (s:=s) hp hl hsm 0 (by omega));have hd:decide (12 < (s.size:Int))=false:=decide_eq_false (by omega);go_wp2_with (first | (go_at_call 217;refine (tc _ _).mono ?_;rintro e w' ⟨rfl,rfl⟩) | (go_at_call 218;refine (wM _ _).mono ?_;rintro e w' ⟨rfl,rfl⟩))
       go_loop [3] (fun i=>∃ k:Nat,k≤s.size∧i=.int .i64 k∧Hid (zo s=(s.data.toList.drop k).all vY)) (fun i=>s.size - (intOf i).toNat)
       case atStart=>exact ⟨0,by omega,rfl,hR⟩
       case round=>
        clear hR hsm;obtain ⟨k,hk,rfl,hR⟩:=hrel;by_cases hlt:k < s.size
        · have hb:=xU hlt;have hR2:=qH (hR.out.trans (by rw [yY hb,List.all_cons]:_=(vY s[k] && (s.data.toList.drop (k + 1)).all vY)));clear hR hb;cases h1:vp s[k] <;> cases h2:sl s[k] <;> cases h3:((s[k].toNat:Int) != 45)
          all_goals
           go_wp2_with (first | (go_at_call 217;refine (tc _ _).mono ?_;rintro e w' ⟨rfl,rfl⟩) | (go_at_call 218;refine (wM _ _).mono ?_;rintro e w' ⟨rfl,rfl⟩))
           first
           | (go_returns
              refine RetQ.mk (vb ?_);rw [hR2.out,vY,h1,h2];rw [bne_iff_ne] at h3;rw [decide_eq_false (by omega)];rfl)
           | (refine ⟨⟨k + 1,by omega,by go_num,qH (hR2.out.trans ?_)⟩,by simp [intOf];omega⟩
              have ho:vY s[k]=true:=by
               rw [vY,h1,h2];(try rw [bne_eq_false_iff_eq] at h3);simp;try omega
              rw [ho];rfl)
        · have hR2:=qH (hR.out.trans (by rw [List.drop_eq_nil_of_le (by rw [zv];omega)];rfl:_=true));clear hR;go_wp2_with fail;go_returns;exact RetQ.mk (vb hR2.out.symm)
     · have hd:decide (12 < (s.size:Int))=true:=decide_eq_true (by omega);go_wp2_with (first | (go_at_call 217;refine (tc _ _).mono ?_;rintro e w' ⟨rfl,rfl⟩) | (go_at_call 218;refine (wM _ _).mono ?_;rintro e w' ⟨rfl,rfl⟩))
       go_returns;exact RetQ.mk (vb (wN (by omega)).symm)
end Go.Proofs.YtpiehlfffjhoaaaGreatDoor
