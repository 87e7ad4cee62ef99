/- Lemmas for the law on the console: the parts Core, Zt, Fam, Row. -/
import Derived.Test.YtpiehlfffjhoaaaGreatDoorProg
import Derived.WalkKit
import Derived.WalkSpells
import Derived.WalkLawsBesides
import Derived.BigGuardPart
import Derived.Handy
import Derived.Lib.Hide
import Derived.Laws.OwnMore
import Derived.Laws.CopyOwn
import Derived.Deep.Draws
import Derived.Deep.RegionHeld3
import Derived.StillTailTactics
import Derived.Deep.QuietTactic
import Derived.BigQuiet
import Derived.Deep.RegionHeld
import Derived.Test.YtpiehlfffjhoaaaGreatDoorRows
import Derived.ProofKit
import Derived.OpenShut
import Derived.SizedLaws
import Derived.Deep.Slices
import Derived.Deep.Fields
import Derived.ChangeSame
import Derived.Lib.SmallJoins
namespace Go.Proofs.YtpiehlfffjhoaaaGreatDoor
open Go.RowKit
def Ret (v : Value) (w : World) (e : Ending) (w' : World) : Prop := e = .returned v ∧ Below w.heap.size w w'
theorem Ret.mk {v v' : Value} {w w' : World} (h : v' = v) (hb : Below w.heap.size w w') : Ret v w (.returned v') w' := ⟨by rw [h], hb⟩
def RetQ (v : Value) (w : World) (e : Ending) (w' : World) : Prop := e = .returned v ∧ w' = w
theorem RetQ.mk {v v' : Value} {w : World} (h : v' = v) : RetQ v w (.returned v') w := ⟨by rw [h], rfl⟩
theorem vi {k : IntKind} {a b : Int} (h : a = b) : Value.int k a = Value.int k b := by rw [h]
theorem vb {a b : Bool} (h : a = b) : Value.bool a = Value.bool b := by rw [h]
theorem vs {a b : ByteArray} (h : a = b) : Value.string a = Value.string b := by rw [h]
theorem bl_alloc {a w : World} (h : Below a.heap.size a w) (o : Obj) : Below a.heap.size a (w.alloc o) := h.alloc h.size o
theorem bl_trans {a b c : World} (h : Below a.heap.size a b) (k : Below b.heap.size b c) : Below a.heap.size a c := h.trans (k.mono h.size)
theorem bl_set {a w : World} (h : Below a.heap.size a w) {p : Addr} (hp : a.heap.size ≤ p.block) (u : Value) : Below a.heap.size a (w.setCell p u) := h.setCell hp u
theorem bl_grown {a w w' : World} {row : Option Nat} (h : Below a.heap.size a w) (hg : w.grownBy w' row) (hr : ∀ k, row = some k → a.heap.size ≤ k) : Below a.heap.size a w' := h.grown hg h.size hr
theorem bl_cell {a w : World} (h : Below a.heap.size a w) {p : Addr} {v : Value} (hc : a.cell? p = some v) : w.cell? p = some v := (h.cell (block_lt_of_cell hc)).trans hc
theorem grown_of_below {a w : World} (h : Below a.heap.size a w) (row : Option Nat) : a.grownBy w row := ⟨h.os, h.tape, h.output, h.size, fun i hi _ => h.block i hi⟩
theorem grown_alloc {a w : World} {row : Option Nat} (h : a.grownBy w row) (o : Obj) : a.grownBy (w.alloc o) row :=
  ⟨h.os, h.tape, h.output, Nat.le_trans h.size (by simp), fun i hi hne => (Below.heap_alloc w o i (Nat.lt_of_lt_of_le hi h.size)).trans (h.block i hi hne)⟩
theorem grown_setCell {a w : World} {g : Nat} (h : a.grownBy w (some g)) {p : Addr} (hp : p.block = g ∨ a.heap.size ≤ p.block) (u : Value) : a.grownBy (w.setCell p u) (some g) :=
  ⟨h.os, h.tape, h.output, by simpa [World.setCell] using h.size, fun i hi hne => (Below.heap_setCell w p u i (by
    rintro rfl
    rcases hp with hp | hp
    · exact hne (by rw [hp])
    · omega)).trans (h.block i hi hne)⟩
theorem grown_trans {a b c : World} {row : Option Nat} (h : a.grownBy b row) (k : b.grownBy c row) : a.grownBy c row :=
  ⟨k.os.trans h.os, k.tape.trans h.tape, k.output.trans h.output, Nat.le_trans h.size k.size, fun i hi hne => (k.block i (Nat.lt_of_lt_of_le hi h.size) hne).trans (h.block i hi hne)⟩
theorem grown_below {a b c : World} {row : Option Nat} (h : a.grownBy b row) (k : Below b.heap.size b c) : a.grownBy c row := grown_trans h (grown_of_below k row)
def Blk (w : World) (g : Nat) (t : TypeId) (cs : Array Value) : Prop := w.heap[g]? = some (.cells cs t (0, 0))
section
variable {w w' : World} {g : Nat} {t : TypeId} {cs : Array Value}
theorem Blk.lt (h : Blk w g t cs) : g < w.heap.size := by
  rcases Nat.lt_or_ge g w.heap.size with hlt | hge
  · exact hlt
  · unfold Blk at h; rw [Array.getElem?_eq_none hge] at h; cases h
theorem Blk.cell (h : Blk w g t cs) (i : Nat) : w.cell? ⟨g, i, none⟩ = cs[i]? := cell_of_row w g i cs t (0, 0) h
theorem Blk.frozen (h : Blk w g t cs) (i : Nat) : w.frozen? ⟨g, i, none⟩ = false := by
  unfold Blk at h
  simp [World.frozen?, h]
theorem Blk.new (w : World) (t : TypeId) (cs : Array Value) : Blk (w.alloc (.cells cs t)) w.heap.size t cs := heap_alloc_new w _
theorem Blk.alloc (h : Blk w g t cs) (o : Obj) : Blk (w.alloc o) g t cs := (Below.heap_alloc w o g h.lt).trans h
theorem Blk.set_ (h : Blk w g t cs) (i : Nat) (u : Value) : Blk (w.setCell ⟨g, i, none⟩ u) g t (cs.setIfInBounds i u) := by
  unfold Blk at h ⊢
  simp [World.setCell, Array.getElem?_modify, h]
theorem Blk.far (h : Blk w g t cs) {p : Addr} (hp : g ≠ p.block) (u : Value) : Blk (w.setCell p u) g t cs := (Below.heap_setCell w p u g hp).trans h
theorem Blk.below (h : Blk w g t cs) (hb : Below w.heap.size w w') : Blk w' g t cs := (hb.block g h.lt).trans h
theorem Blk.grown {row : Option Nat} (h : Blk w g t cs) (hb : w.grownBy w' row) (hg : some g ≠ row) : Blk w' g t cs := (hb.block g h.lt hg).trans h
end
theorem block_of_add (a : Addr) (n : Nat) : (a.add n).block = a.block := by unfold Addr.add; split <;> rfl
theorem add_of_add (a : Addr) (i j : Nat) : (a.add i).add j = a.add (i + j) := by
  unfold Addr.add
  by_cases hi : i = 0 <;> by_cases hj : j = 0 <;> simp [hi, hj, Nat.add_assoc]
theorem add_form (a : Addr) (i j : Nat) (hj : j ≠ 0) : a.add (i + j) = ⟨(a.add i).block, (a.add i).off + j, none⟩ := by
  rw [← add_of_add]; simp [Addr.add, hj]
def Arr (w : World) (A : Option Addr) (cs : List Value) : Prop :=
  0 < cs.length → ∃ ad, A = some ad ∧ ad.block < w.heap.size ∧ ∀ j u, cs[j]? = some u → w.cell? (ad.add j) = some u
section
variable {w w' : World} {A : Option Addr} {cs : List Value}
theorem Arr.nil (w : World) (A : Option Addr) : Arr w A [] := fun h => absurd h (by simp)
theorem Arr.at_ (h : Arr w A cs) {j : Nat} (hj : j < cs.length) : ∃ ad, A = some ad ∧ ad.block < w.heap.size ∧ ∀ j u, cs[j]? = some u → w.cell? (ad.add j) = some u := h (by omega)
theorem Arr.keep (h : Arr w A cs) (hs : w.heap.size ≤ w'.heap.size) (hk : ∀ ad, A = some ad → ∀ p : Addr, p.block = ad.block → p.block < w.heap.size → w'.cell? p = w.cell? p) : Arr w' A cs := fun hn => by
  obtain ⟨ad, e, hb, hc⟩ := h hn
  exact ⟨ad, e, by omega, fun j u hu => (hk ad e _ (block_of_add _ _) (by rw [block_of_add]; exact hb)).trans (hc j u hu)⟩
theorem Arr.below (h : Arr w A cs) (hb : Below w.heap.size w w') : Arr w' A cs := h.keep hb.size fun _ _ _ _ hp => hb.cell hp
theorem Arr.grown {row : Option Nat} (h : Arr w A cs) (hg : w.grownBy w' row) (hne : ∀ ad, A = some ad → some ad.block ≠ row) : Arr w' A cs :=
  h.keep hg.size fun ad e p hp hlt => World.cell?_of_block (hg.block p.block hlt (by rw [hp]; exact hne ad e))
theorem Arr.alloc (h : Arr w A cs) (o : Obj) : Arr (w.alloc o) A cs := h.below ((Below.refl _ _).alloc (Nat.le_refl _) o)
theorem Arr.own {base e size n c : Nat} (h : w.ownsRow base e size (.slice A n c) n cs) : Arr w A cs := fun hn => by
  rcases h.2 with ⟨h1, h2⟩ | ⟨g, cap, cur, h1, _, hg, _⟩
  · exfalso; have := h.1; subst h2; simp at this; subst this; simp at hn
  · have h1' := h1
    simp only [Value.slice.injEq] at h1
    obtain ⟨rfl, _, _⟩ := h1
    exact ⟨_, rfl, (Array.getElem?_eq_some_iff.1 hg).1, h.cells (g := g) rfl⟩
theorem Arr.take (h : Arr w A cs) (k : Nat) : Arr w A (cs.take k) := fun hn => by
  obtain ⟨ad, e, hb, hc⟩ := h (by simp at hn; omega)
  exact ⟨ad, e, hb, fun j u hu => hc j u (by
    rw [List.getElem?_take] at hu
    split at hu
    · exact hu
    · cases hu)⟩
end
theorem own_below {w w' : World} {base e size n : Nat} {v : Value} {cs : List Value} (h : w.ownsRow base e size v n cs) (hb : Below w.heap.size w w') : w'.ownsRow base e size v n cs :=
  h.kept (grown_of_below hb none) (by cases v.ownBlock <;> simp)
theorem own_base {w : World} {base base' e size n : Nat} {v : Value} {cs : List Value} (h : w.ownsRow base e size v n cs) (hb : base' ≤ base) : w.ownsRow base' e size v n cs := by
  refine ⟨h.1, ?_⟩
  rcases h.2 with h2 | ⟨g, cap, cur, hv, hg, r⟩
  · exact .inl h2
  · exact .inr ⟨g, cap, cur, hv, by omega, r⟩
theorem own_form {w : World} {base e size n : Nat} {v : Value} {cs : List Value} (h : w.ownsRow base e size v n cs) : ∃ A c, v = .slice A n c ∧ n ≤ c ∧ c ≤ maxLen := by
  rcases h.2 with ⟨rfl, rfl⟩ | ⟨g, cap, cur, rfl, _, _, h1, h2, _⟩
  · exact ⟨none, 0, rfl, by omega, by simp [maxLen]⟩
  · exact ⟨_, cap, rfl, h1, h2⟩
def flat {α : Type} (f : α → List Value) (xs : List α) : List Value := xs.flatMap f
theorem flat_length {α : Type} {f : α → List Value} {s : Nat} (hf : ∀ x, (f x).length = s) (xs : List α) : (flat f xs).length = xs.length * s := by
  unfold flat
  induction xs with
  | nil => simp
  | cons x r ih => simp only [List.flatMap_cons, List.length_append, List.length_cons, hf, ih, Nat.succ_mul]; omega
theorem flat_get {α : Type} {f : α → List Value} {s : Nat} (hf : ∀ x, (f x).length = s) : ∀ (xs : List α) (k j : Nat) (x : α), xs[k]? = some x → j < s → (flat f xs)[k * s + j]? = (f x)[j]? := by
  intro xs
  induction xs with
  | nil => intro k j x h; simp at h
  | cons y r ih =>
    intro k j x h hj
    cases k with
    | zero =>
      simp only [List.getElem?_cons_zero, Option.some.injEq] at h
      subst h
      simp only [flat, List.flatMap_cons, Nat.zero_mul, Nat.zero_add]
      rw [List.getElem?_append_left (by rw [hf]; exact hj)]
    | succ k =>
      simp only [List.getElem?_cons_succ] at h
      have := ih k j x h hj
      simp only [flat, List.flatMap_cons] at this ⊢
      rw [List.getElem?_append_right (by rw [hf, Nat.succ_mul]; omega), hf]
      rw [show (k + 1) * s + j - s = k * s + j from by rw [Nat.succ_mul]; omega]
      exact this
theorem flat_append {α : Type} (f : α → List Value) (xs ys : List α) : flat f (xs ++ ys) = flat f xs ++ flat f ys := by simp [flat]
theorem flat_one {α : Type} (f : α → List Value) (x : α) : flat f [x] = f x := by simp [flat]
theorem Arr.elem {α : Type} {f : α → List Value} {s : Nat} (hf : ∀ x, (f x).length = s) {w : World} {A : Option Addr} {xs : List α} (h : Arr w A (flat f xs)) {k : Nat} {x : α} (hk : xs[k]? = some x) (hs : 0 < s) :
    ∃ ad, A = some ad ∧ ad.block < w.heap.size ∧ w.cell? (ad.add (k * s)) = (f x)[0]? ∧ ∀ j, j < s → j ≠ 0 → w.cell? ⟨(ad.add (k * s)).block, (ad.add (k * s)).off + j, none⟩ = (f x)[j]? := by
  have hkl : k < xs.length := (List.getElem?_eq_some_iff.1 hk).1
  obtain ⟨ad, e, hb, hc⟩ := h (by rw [flat_length hf]; exact Nat.mul_pos (by omega) hs)
  have key : ∀ j, j < s → w.cell? (ad.add (k * s + j)) = (f x)[j]? := by
    intro j hj
    have h1 := flat_get hf xs k j x hk hj
    have h2 : (f x)[j]? = some ((f x)[j]'(by rw [hf]; exact hj)) := List.getElem?_eq_getElem _
    rw [h2] at h1 ⊢
    exact hc _ _ h1
  exact ⟨ad, e, hb, by simpa using key 0 hs, fun j hj h0 => by rw [← add_form _ _ _ h0]; exact key j hj⟩
theorem drop_at {α : Type} {xs : List α} {k : Nat} {x : α} (h : xs[k]? = some x) : xs.drop k = x :: xs.drop (k + 1) := by
  obtain ⟨hlt, rfl⟩ := List.getElem?_eq_some_iff.1 h
  exact List.drop_eq_getElem_cons hlt
theorem get_of_lt {α : Type} {xs : List α} {k : Nat} (h : k < xs.length) : ∃ x, xs[k]? = some x := ⟨_, List.getElem?_eq_getElem h⟩
theorem take_at {α : Type} {xs : List α} {k : Nat} {x : α} (h : xs[k]? = some x) : xs.take (k + 1) = xs.take k ++ [x] := by
  obtain ⟨hlt, rfl⟩ := List.getElem?_eq_some_iff.1 h
  exact List.take_succ_eq_append_getElem hlt
theorem bytes_eq_iff (s t : ByteArray) : s.toList = t.toList ↔ s = t := by
  constructor
  · intro h
    rw [ByteArray.toList_eq, ByteArray.toList_eq] at h
    cases s; cases t
    simp only [ByteArray.mk.injEq]
    exact Array.ext' h
  · intro h; rw [h]
theorem bytes_beq (s t : ByteArray) : (s.toList == t.toList) = decide (s = t) := by
  rw [Bool.eq_iff_iff, beq_iff_eq, decide_eq_true_eq]
  exact bytes_eq_iff s t
theorem bytes_nil (s : ByteArray) : (s.toList == []) = decide (s.size = 0) := by
  rw [ByteArray.toList_eq, Bool.eq_iff_iff, beq_iff_eq, decide_eq_true_eq, ← List.length_eq_zero_iff]
  simp
def setMany (l : List Value) (i : Nat) : List Value → List Value
  | [] => l
  | u :: r => setMany (l.set i u) (i + 1) r
theorem setMany_eq : ∀ (us l : List Value) (i : Nat), i + us.length ≤ l.length → setMany l i us = l.take i ++ us ++ l.drop (i + us.length) := by
  intro us
  induction us with
  | nil => intro l i _; simp [setMany]
  | cons u r ih =>
    intro l i h
    simp only [List.length_cons] at h
    simp only [setMany, List.length_cons]
    rw [ih (l.set i u) (i + 1) (by rw [List.length_set]; omega)]
    rw [List.take_set, List.drop_set_of_lt (by omega)]
    have e1 : (l.take (i + 1)).set i u = l.take i ++ [u] := by
      rw [List.take_succ_eq_append_getElem (by omega)]
      rw [List.set_append_right _ _ (by simp; omega)]
      have : (l.take i).length = i := by simp; omega
      rw [this]; simp
    rw [e1, show i + 1 + r.length = i + (r.length + 1) from by omega]
    simp
def OutS (E size n : Nat) (cs : List Value) (w : World) (e : Ending) (w' : World) : Prop :=
  ∃ g, e = .returned (.slice (some ⟨g, 0, none⟩) n n) ∧ w'.ownsRow w.heap.size E size (.slice (some ⟨g, 0, none⟩) n n) n cs ∧ Below w.heap.size w w'
theorem own_addr {w : World} {base e size n c : Nat} {A : Option Addr} {cs : List Value} (h : w.ownsRow base e size (.slice A n c) n cs) (hn : 0 < n) : ∃ g, A = some ⟨g, 0, none⟩ := by
  rcases h.2 with ⟨_, h2⟩ | ⟨g, cap, cur, hv, _⟩
  · omega
  · simp only [Value.slice.injEq] at hv
    exact ⟨g, hv.1⟩
def icell (x : Int) : List Value := [.int .i64 x]
def scell (x : ByteArray) : List Value := [.string x]
theorem icell_at {w : World} {A : Option Addr} {xs : List Int} {k : Nat} {x : Int} (h : Arr w A (flat icell xs)) (hk : xs[k]? = some x) : ∃ ad, A = some ad ∧ ad.block < w.heap.size ∧ w.cell? (ad.add k) = some (.int .i64 x) := by
  obtain ⟨ad, e, hb, h0, _⟩ := h.elem (f := icell) (s := 1) (fun _ => rfl) hk (by omega)
  exact ⟨ad, e, hb, by rw [Nat.mul_one] at h0; exact h0⟩
theorem scell_at {w : World} {A : Option Addr} {xs : List ByteArray} {k : Nat} {x : ByteArray} (h : Arr w A (flat scell xs)) (hk : xs[k]? = some x) : ∃ ad, A = some ad ∧ ad.block < w.heap.size ∧ w.cell? (ad.add k) = some (.string x) := by
  obtain ⟨ad, e, hb, h0, _⟩ := h.elem (f := scell) (s := 1) (fun _ => rfl) hk (by omega)
  exact ⟨ad, e, hb, by rw [Nat.mul_one] at h0; exact h0⟩
def RetT (vs : Array Value) (w : World) (e : Ending) (w' : World) : Prop := e = .returned (.tuple vs) ∧ Below w.heap.size w w'
theorem RetT.mk {vs vs' : Array Value} {w w' : World} (h : vs' = vs) (hb : Below w.heap.size w w') : RetT vs w (.returned (.tuple vs')) w' := ⟨by rw [h], hb⟩
theorem own_far {w : World} {base e size n : Nat} {v : Value} {cs : List Value} (h : w.ownsRow base e size v n cs) {p : Addr} (hp : ∀ g, v.ownBlock = some g → g ≠ p.block) (u : Value) : (w.setCell p u).ownsRow base e size v n cs :=
  h.kept (w' := w.setCell p u) (row := some p.block) ⟨rfl, rfl, rfl, by simp [World.setCell], fun k _ hk => Below.heap_setCell w p u k (fun e => hk (by rw [e]))⟩ (by
    cases hv : v.ownBlock with
    | none => exact .inl rfl
    | some g => exact .inr (fun e => hp g hv (by injection e)))
section
variable {P : Program} {md : Region.Mode} {ops : Array Oper} {Q : Exit → Act → World → Prop} {S : World → Prop} {fuel : Nat} {listed : Array Bool} {a : Act} {w : World}
theorem zT (i : Nat) (d : Tmp) (v : Value) {op : Op} {ty : TypeId} {ps : String} {af gd : _} (hi : ops[i]? = some { dst := some d, op := op, type := ty, pos := ps, after := af, guard := gd })
    (hy : ∀ w, S w → (execOp a.eval { dst := some d, op := op, type := ty, pos := ps, after := af, guard := gd }).run P w = .ok (.value v) w) (hS : S w)
    (h : wpAnyH P md ops Q S fuel (listed.setIfInBounds i true) (a.put (some d) v) w)
    (hs : Region.noSelect ops = true := by as_aux_lemma => kernel_rfl) (hf : Region.free md ops listed i = true := by as_aux_lemma => kernel_rfl) (hr : (Region.ready md ops listed).contains i = true := by as_aux_lemma => kernel_rfl)
    (hw : Region.wanted { dst := some d, op := op, type := ty, pos := ps, after := af, guard := gd } (yielded ops a.tmps) = true := by as_aux_lemma => kernel_rfl)
    (hQ : ∀ c a w, Q (.panic c) (a.put (some d) v) w → Q (.panic c) a w := by exact fun _ _ _ h => h) : wpAnyH P md ops Q S (fuel + 1) listed a w :=
  wpAnyH_take hi hs hf hr hQ (Or.inl ⟨hw, hy⟩) hS h
theorem zU (i : Nat) (d : Tmp) {v : Value} {op : Op} {ty : TypeId} {ps : String} {af gd : _} (hi : ops[i]? = some { dst := some d, op := op, type := ty, pos := ps, after := af, guard := gd }) (hS : S w)
    (h : wpAnyH P md ops Q S fuel (listed.setIfInBounds i true) (a.put (some d) v) w)
    (hs : Region.noSelect ops = true := by as_aux_lemma => kernel_rfl) (hf : Region.free md ops listed i = true := by as_aux_lemma => kernel_rfl) (hr : (Region.ready md ops listed).contains i = true := by as_aux_lemma => kernel_rfl)
    (hw : Region.wanted { dst := some d, op := op, type := ty, pos := ps, after := af, guard := gd } (yielded ops a.tmps) = true := by as_aux_lemma => kernel_rfl)
    (hy : ∀ w, S w → (execOp a.eval { dst := some d, op := op, type := ty, pos := ps, after := af, guard := gd }).run P w = .ok (.value v) w := by intro w hSw; (try dsimp only at hSw); go_simp; try with_reducible rfl)
    (hQ : ∀ c a w, Q (.panic c) (a.put (some d) v) w → Q (.panic c) a w := by exact fun _ _ _ h => h) : wpAnyH P md ops Q S (fuel + 1) listed a w :=
  wpAnyH_take hi hs hf hr hQ (Or.inl ⟨hw, hy⟩) hS h
theorem zS (i : Nat) (d : Tmp) {op : Op} {ty : TypeId} {ps : String} {af gd : _} (hi : ops[i]? = some { dst := some d, op := op, type := ty, pos := ps, after := af, guard := gd }) (hS : S w)
    (h : wpAnyH P md ops Q S fuel (listed.setIfInBounds i true) (a.put (some d) undef) w)
    (hs : Region.noSelect ops = true := by as_aux_lemma => kernel_rfl) (hf : Region.free md ops listed i = true := by as_aux_lemma => kernel_rfl) (hr : (Region.ready md ops listed).contains i = true := by as_aux_lemma => kernel_rfl)
    (hw : Region.wanted { dst := some d, op := op, type := ty, pos := ps, after := af, guard := gd } (yielded ops a.tmps) = false := by as_aux_lemma => kernel_rfl)
    (hQ : ∀ c a w, Q (.panic c) (a.put (some d) undef) w → Q (.panic c) a w := by exact fun _ _ _ h => h) : wpAnyH P md ops Q S (fuel + 1) listed a w :=
  wpAnyH_take hi hs hf hr hQ (Or.inr ⟨hw, rfl⟩) hS h
theorem zR (i : Nat) (d : Option Tmp) {op : Op} {ty : TypeId} {ps : String} {af gd : _} (hi : ops[i]? = some { dst := d, op := op, type := ty, pos := ps, after := af, guard := gd })
    (h : ∀ K' : Act → World → Prop, Shut (∀ a w, S w → (S w → wpAnyH P md ops Q S fuel (listed.setIfInBounds i true) a w) → K' a w) → if Region.wanted { dst := d, op := op, type := ty, pos := ps, after := af, guard := gd } (yielded ops a.tmps) = true then Oper.wp P { dst := d, op := op, type := ty, pos := ps, after := af, guard := gd } a w K' Q else K' (a.put d undef) w)
    (hr : Region.ready md ops listed = [i] := by as_aux_lemma => kernel_rfl) : wpAnyH P md ops Q S (fuel + 1) listed a w :=
  wpAnyH_ready hr (by simp) (AllReadyH.cons hi h AllReadyH.nil)
end
theorem qH {p : Prop} (h : p) : Hid p := Lib.hid h
theorem zA {α : Type} (a : List α) (i : Nat) (x : α) : a.toArray.setIfInBounds i x = (a.set i x).toArray := List.setIfInBounds_toArray a i x
theorem zB {α : Type} (b : α) (l : List α) (x : α) : (b :: l).set 0 x = x :: l := List.set_cons_zero
theorem zC {α : Type} (b : α) (l : List α) (i : Nat) (x : α) : (b :: l).set (i + 1) x = b :: l.set i x := List.set_cons_succ
theorem qC2 {w : World} {g : Nat} {t : TypeId} {v0 v1 : Value} (h : Blk w g t #[v0, v1]) : w.cell? ⟨g, 0, none⟩ = some v0 ∧ w.cell? ⟨g, 1, none⟩ = some v1 := ⟨h.cell 0, h.cell 1⟩
theorem qC3 {w : World} {g : Nat} {t : TypeId} {v0 v1 v2 : Value} (h : Blk w g t #[v0, v1, v2]) : w.cell? ⟨g, 0, none⟩ = some v0 ∧ w.cell? ⟨g, 1, none⟩ = some v1 ∧ w.cell? ⟨g, 2, none⟩ = some v2 := ⟨h.cell 0, h.cell 1, h.cell 2⟩
theorem qC4 {w : World} {g : Nat} {t : TypeId} {v0 v1 v2 v3 : Value} (h : Blk w g t #[v0, v1, v2, v3]) : w.cell? ⟨g, 0, none⟩ = some v0 ∧ w.cell? ⟨g, 1, none⟩ = some v1 ∧ w.cell? ⟨g, 2, none⟩ = some v2 ∧ w.cell? ⟨g, 3, none⟩ = some v3 := ⟨h.cell 0, h.cell 1, h.cell 2, h.cell 3⟩
theorem qC5 {w : World} {g : Nat} {t : TypeId} {v0 v1 v2 v3 v4 : Value} (h : Blk w g t #[v0, v1, v2, v3, v4]) : w.cell? ⟨g, 0, none⟩ = some v0 ∧ w.cell? ⟨g, 1, none⟩ = some v1 ∧ w.cell? ⟨g, 2, none⟩ = some v2 ∧ w.cell? ⟨g, 3, none⟩ = some v3 ∧ w.cell? ⟨g, 4, none⟩ = some v4 := ⟨h.cell 0, h.cell 1, h.cell 2, h.cell 3, h.cell 4⟩
theorem qC6 {w : World} {g : Nat} {t : TypeId} {v0 v1 v2 v3 v4 v5 : Value} (h : Blk w g t #[v0, v1, v2, v3, v4, v5]) : w.cell? ⟨g, 0, none⟩ = some v0 ∧ w.cell? ⟨g, 1, none⟩ = some v1 ∧ w.cell? ⟨g, 2, none⟩ = some v2 ∧ w.cell? ⟨g, 3, none⟩ = some v3 ∧ w.cell? ⟨g, 4, none⟩ = some v4 ∧ w.cell? ⟨g, 5, none⟩ = some v5 := ⟨h.cell 0, h.cell 1, h.cell 2, h.cell 3, h.cell 4, h.cell 5⟩
theorem qC9 {w : World} {g : Nat} {t : TypeId} {v0 v1 v2 v3 v4 v5 v6 v7 v8 : Value} (h : Blk w g t #[v0, v1, v2, v3, v4, v5, v6, v7, v8]) : w.cell? ⟨g, 0, none⟩ = some v0 ∧ w.cell? ⟨g, 1, none⟩ = some v1 ∧ w.cell? ⟨g, 2, none⟩ = some v2 ∧ w.cell? ⟨g, 3, none⟩ = some v3 ∧ w.cell? ⟨g, 4, none⟩ = some v4 ∧ w.cell? ⟨g, 5, none⟩ = some v5 ∧ w.cell? ⟨g, 6, none⟩ = some v6 ∧ w.cell? ⟨g, 7, none⟩ = some v7 ∧ w.cell? ⟨g, 8, none⟩ = some v8 := ⟨h.cell 0, h.cell 1, h.cell 2, h.cell 3, h.cell 4, h.cell 5, h.cell 6, h.cell 7, h.cell 8⟩
theorem qC15 {w : World} {g : Nat} {t : TypeId} {v0 v1 v2 v3 v4 v5 v6 v7 v8 v9 v10 v11 v12 v13 v14 : Value} (h : Blk w g t #[v0, v1, v2, v3, v4, v5, v6, v7, v8, v9, v10, v11, v12, v13, v14]) : w.cell? ⟨g, 0, none⟩ = some v0 ∧ w.cell? ⟨g, 1, none⟩ = some v1 ∧ w.cell? ⟨g, 2, none⟩ = some v2 ∧ w.cell? ⟨g, 3, none⟩ = some v3 ∧ w.cell? ⟨g, 4, none⟩ = some v4 ∧ w.cell? ⟨g, 5, none⟩ = some v5 ∧ w.cell? ⟨g, 6, none⟩ = some v6 ∧ w.cell? ⟨g, 7, none⟩ = some v7 ∧ w.cell? ⟨g, 8, none⟩ = some v8 ∧ w.cell? ⟨g, 9, none⟩ = some v9 ∧ w.cell? ⟨g, 10, none⟩ = some v10 ∧ w.cell? ⟨g, 11, none⟩ = some v11 ∧ w.cell? ⟨g, 12, none⟩ = some v12 ∧ w.cell? ⟨g, 13, none⟩ = some v13 ∧ w.cell? ⟨g, 14, none⟩ = some v14 := ⟨h.cell 0, h.cell 1, h.cell 2, h.cell 3, h.cell 4, h.cell 5, h.cell 6, h.cell 7, h.cell 8, h.cell 9, h.cell 10, h.cell 11, h.cell 12, h.cell 13, h.cell 14⟩
structure Entry where
 day : Int
 what : ByteArray
 value : Int
def Entry.cells (x : Entry) : List Value := [.int .i64 x.day, .string x.what, .int .i64 x.value]
theorem Entry.cells_length (x : Entry) : x.cells.length = 3 := rfl
theorem Entry.at_ {w : World} {A : Option Addr} {xs : List Entry} {k : Nat} {x : Entry} (h : Arr w A (flat Entry.cells xs)) (hk : xs[k]? = some x) :
   ∃ ad, A = some ad ∧ ad.block < w.heap.size ∧ w.cell? (ad.add (k * 3)) = some (.int .i64 x.day) ∧
     w.cell? ⟨(ad.add (k * 3)).block, (ad.add (k * 3)).off + 1, none⟩ = some (.string x.what) ∧
     w.cell? ⟨(ad.add (k * 3)).block, (ad.add (k * 3)).off + 2, none⟩ = some (.int .i64 x.value) := by
 obtain ⟨ad, e, hb, h0, hj⟩ := h.elem Entry.cells_length hk (by omega)
 exact ⟨ad, e, hb, h0, hj 1 (by omega) (by omega), hj 2 (by omega) (by omega)⟩
structure Last where
 name : ByteArray
 length : Int
 ball : Int
 instep : Int
 heel : Int
 pitch : Int
def Last.cells (x : Last) : List Value := [.string x.name, .int .i64 x.length, .int .i64 x.ball, .int .i64 x.instep, .int .i64 x.heel, .int .i64 x.pitch]
theorem Last.cells_length (x : Last) : x.cells.length = 6 := rfl
theorem Last.at_ {w : World} {A : Option Addr} {xs : List Last} {k : Nat} {x : Last} (h : Arr w A (flat Last.cells xs)) (hk : xs[k]? = some x) :
   ∃ ad, A = some ad ∧ ad.block < w.heap.size ∧ w.cell? (ad.add (k * 6)) = some (.string x.name) ∧
     w.cell? ⟨(ad.add (k * 6)).block, (ad.add (k * 6)).off + 1, none⟩ = some (.int .i64 x.length) ∧
     w.cell? ⟨(ad.add (k * 6)).block, (ad.add (k * 6)).off + 2, none⟩ = some (.int .i64 x.ball) ∧
     w.cell? ⟨(ad.add (k * 6)).block, (ad.add (k * 6)).off + 3, none⟩ = some (.int .i64 x.instep) ∧
     w.cell? ⟨(ad.add (k * 6)).block, (ad.add (k * 6)).off + 4, none⟩ = some (.int .i64 x.heel) ∧
     w.cell? ⟨(ad.add (k * 6)).block, (ad.add (k * 6)).off + 5, none⟩ = some (.int .i64 x.pitch) := by
 obtain ⟨ad, e, hb, h0, hj⟩ := h.elem Last.cells_length hk (by omega)
 exact ⟨ad, e, hb, h0, hj 1 (by omega) (by omega), hj 2 (by omega) (by omega), hj 3 (by omega) (by omega), hj 4 (by omega) (by omega), hj 5 (by omega) (by omega)⟩
theorem info_Last : (Tryz.prog.info? 100).map (fun i => (i.zero, i.size, i.bytes)) = some (some (.agg #[.string ByteArray.empty, .int .i64 0, .int .i64 0, .int .i64 0, .int .i64 0, .int .i64 0]), 6, 56) := by kernel_rfl
structure Foot where
 length : Int
 ball : Int
 instep : Int
 heel : Int
def Foot.cells (x : Foot) : List Value := [.int .i64 x.length, .int .i64 x.ball, .int .i64 x.instep, .int .i64 x.heel]
theorem Foot.cells_length (x : Foot) : x.cells.length = 4 := rfl
theorem Foot.at_ {w : World} {A : Option Addr} {xs : List Foot} {k : Nat} {x : Foot} (h : Arr w A (flat Foot.cells xs)) (hk : xs[k]? = some x) :
   ∃ ad, A = some ad ∧ ad.block < w.heap.size ∧ w.cell? (ad.add (k * 4)) = some (.int .i64 x.length) ∧
     w.cell? ⟨(ad.add (k * 4)).block, (ad.add (k * 4)).off + 1, none⟩ = some (.int .i64 x.ball) ∧
     w.cell? ⟨(ad.add (k * 4)).block, (ad.add (k * 4)).off + 2, none⟩ = some (.int .i64 x.instep) ∧
     w.cell? ⟨(ad.add (k * 4)).block, (ad.add (k * 4)).off + 3, none⟩ = some (.int .i64 x.heel) := by
 obtain ⟨ad, e, hb, h0, hj⟩ := h.elem Foot.cells_length hk (by omega)
 exact ⟨ad, e, hb, h0, hj 1 (by omega) (by omega), hj 2 (by omega) (by omega), hj 3 (by omega) (by omega)⟩
structure Style where
 upper : ByteArray
 color : ByteArray
 lining : ByteArray
 sole : ByteArray
 thick : Int
 heel : Int
 eyelets : Int
 density : Int
 double : Bool
def Style.cells (x : Style) : List Value := [.string x.upper, .string x.color, .string x.lining, .string x.sole, .int .i64 x.thick, .int .i64 x.heel, .int .i64 x.eyelets, .int .i64 x.density, .bool x.double]
theorem Style.cells_length (x : Style) : x.cells.length = 9 := rfl
theorem Style.at_ {w : World} {A : Option Addr} {xs : List Style} {k : Nat} {x : Style} (h : Arr w A (flat Style.cells xs)) (hk : xs[k]? = some x) :
   ∃ ad, A = some ad ∧ ad.block < w.heap.size ∧ w.cell? (ad.add (k * 9)) = some (.string x.upper) ∧
     w.cell? ⟨(ad.add (k * 9)).block, (ad.add (k * 9)).off + 1, none⟩ = some (.string x.color) ∧
     w.cell? ⟨(ad.add (k * 9)).block, (ad.add (k * 9)).off + 2, none⟩ = some (.string x.lining) ∧
     w.cell? ⟨(ad.add (k * 9)).block, (ad.add (k * 9)).off + 3, none⟩ = some (.string x.sole) ∧
     w.cell? ⟨(ad.add (k * 9)).block, (ad.add (k * 9)).off + 4, none⟩ = some (.int .i64 x.thick) ∧
     w.cell? ⟨(ad.add (k * 9)).block, (ad.add (k * 9)).off + 5, none⟩ = some (.int .i64 x.heel) ∧
     w.cell? ⟨(ad.add (k * 9)).block, (ad.add (k * 9)).off + 6, none⟩ = some (.int .i64 x.eyelets) ∧
     w.cell? ⟨(ad.add (k * 9)).block, (ad.add (k * 9)).off + 7, none⟩ = some (.int .i64 x.density) ∧
     w.cell? ⟨(ad.add (k * 9)).block, (ad.add (k * 9)).off + 8, none⟩ = some (.bool x.double) := by
 obtain ⟨ad, e, hb, h0, hj⟩ := h.elem Style.cells_length hk (by omega)
 exact ⟨ad, e, hb, h0, hj 1 (by omega) (by omega), hj 2 (by omega) (by omega), hj 3 (by omega) (by omega), hj 4 (by omega) (by omega), hj 5 (by omega) (by omega), hj 6 (by omega) (by omega), hj 7 (by omega) (by omega), hj 8 (by omega) (by omega)⟩
structure Trouble where
 clause : Int
 code : Int
def Trouble.cells (x : Trouble) : List Value := [.int .i64 x.clause, .int .i64 x.code]
theorem Trouble.cells_length (x : Trouble) : x.cells.length = 2 := rfl
theorem Trouble.at_ {w : World} {A : Option Addr} {xs : List Trouble} {k : Nat} {x : Trouble} (h : Arr w A (flat Trouble.cells xs)) (hk : xs[k]? = some x) :
   ∃ ad, A = some ad ∧ ad.block < w.heap.size ∧ w.cell? (ad.add (k * 2)) = some (.int .i64 x.clause) ∧
     w.cell? ⟨(ad.add (k * 2)).block, (ad.add (k * 2)).off + 1, none⟩ = some (.int .i64 x.code) := by
 obtain ⟨ad, e, hb, h0, hj⟩ := h.elem Trouble.cells_length hk (by omega)
 exact ⟨ad, e, hb, h0, hj 1 (by omega) (by omega)⟩
end Go.Proofs.YtpiehlfffjhoaaaGreatDoor
namespace Go.Proofs.YtpiehlfffjhoaaaGreatDoor
open Go.ChangeShapes Go.WideShapes Go.ChangeAt Go.RowKit Go.Deep Go.Joins
theorem ownKnob_c : ownKnob Tryz.prog.godebug = none := by kernel_rfl
theorem laidOut_c : laidOutB Tryz.prog = true := by kernel_rfl
section
variable {H : Type} {enc : TypeId × Value → H} {P : Program} {w : World} {base : Nat} {spare : Nat → Bool} {held : Bool}
theorem trodAll_below (hl : laidOutB P = true) {W W' : World} (hb : Below W.heap.size W W') : ∀ (ts : List TypeId) (vs : List Value) (ds : List (DataW H)) (ps : List MemPlace),
   (∀ t ∈ ts, P.readableRec t = true ∧ t < P.types.size) → DataW.TrodAll enc P W 0 (fun _ => true) true ts vs ds ps → (∀ x ∈ ps, x.block < W.heap.size) →
   DataW.TrodAll enc P W' 0 (fun b => decide (b < W.heap.size)) true ts vs ds ps := by
 intro ts
 induction ts with
 | nil =>
   intro vs ds ps _ h _
   obtain ⟨rfl, rfl, rfl⟩ := trodAll_nil h
   exact trodAll_mk0
 | cons t r ih =>
   intro vs ds ps ht h hp
   obtain ⟨v, vs', d, ds', p, q, rfl, rfl, rfl, hd, hr⟩ := trodAll_cons h
   have h1 := ht t (List.mem_cons_self ..)
   exact trodAll_cons_mk (Below.trod hl h1.1 h1.2 hd hb (fun x hx => hp x (List.mem_append_left _ hx))) (ih vs' ds' q (fun t' h' => ht t' (List.mem_cons_of_mem _ h')) hr (fun x hx => hp x (List.mem_append_right _ hx)))
end
def I64 (n : Int) : Prop := -9223372036854775808 ≤ n ∧ n ≤ 9223372036854775807
theorem list_of {α : Type} : ∀ (n : Nat) (p : Nat → α → Prop), (∀ i, i < n → ∃ x, p i x) → ∃ xs : List α, xs.length = n ∧ ∀ i x, xs[i]? = some x → p i x := by
 intro n
 induction n with
 | zero => intro p _; exact ⟨[], rfl, by simp⟩
 | succ n ih =>
   intro p h
   obtain ⟨x, hx⟩ := h 0 (by omega)
   obtain ⟨xs, hl, hxs⟩ := ih (fun i => p (i + 1)) (fun i hi => h (i + 1) (by omega))
   refine ⟨x :: xs, by simp [hl], fun i y hy => ?_⟩
   cases i with
   | zero => simp at hy; subst hy; exact hx
   | succ i => simp at hy; exact hxs i y hy
theorem arr_of_rows {α : Type} {f : α → List Value} {s : Nat} (hf : ∀ x, (f x).length = s) {W : World} {a : Addr} : ∀ {xs : List α}, (∀ i x, xs[i]? = some x → ∀ j u, (f x)[j]? = some u → W.cell? (a.add (i * s + j)) = some u) →
   ∀ j u, (flat f xs)[j]? = some u → W.cell? (a.add j) = some u := by
 intro xs h j u hu
 have hl : j < (flat f xs).length := (List.getElem?_eq_some_iff.1 hu).1
 rw [flat_length hf] at hl
 rcases Nat.eq_zero_or_pos s with hs | hs
 · subst hs; simp at hl
 · have hk : j / s < xs.length := Nat.div_lt_of_lt_mul (by rw [Nat.mul_comm]; exact hl)
   obtain ⟨x, hx⟩ := get_of_lt hk
   have hm : j % s < s := Nat.mod_lt _ hs
   have hj : j / s * s + j % s = j := by rw [Nat.mul_comm]; exact Nat.div_add_mod j s
   have h1 := flat_get hf xs (j / s) (j % s) x hx hm
   rw [hj, hu] at h1
   have h2 := h (j / s) x hx (j % s) u h1.symm
   rwa [hj] at h2
def Last.wf (x : Last) : Prop := x.name.size ≤ 9223372036854775807 ∧ I64 x.length ∧ I64 x.ball ∧ I64 x.instep ∧ I64 x.heel ∧ I64 x.pitch
end Go.Proofs.YtpiehlfffjhoaaaGreatDoor
