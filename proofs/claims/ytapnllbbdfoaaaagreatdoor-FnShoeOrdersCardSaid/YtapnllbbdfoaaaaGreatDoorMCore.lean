/- Small lemmas on worlds, slices that read as lists, and endings; no program text. What the laws' own helpers do to structs and slices of structs: weights, copies, equality, marks. append of one element onto a slice of the call's own; results that are slices. Owned slices with bounds on their block: what is marked does not touch the others. -/
import Derived.Test.YtapnllbbdfoaaaaGreatDoorProg
import Derived.WalkKit
import Derived.WalkSpells
import Derived.WalkLawsBesides
import Derived.BigGuardPart
import Derived.Handy
import Derived.Lib.Hide
import Derived.Laws.OwnMore
import Derived.Laws.CopyOwn
import Derived.Deep.Draws
import Derived.Deep.RegionHeld3
import Derived.StillTailTactics
import Derived.Deep.QuietTactic
import Derived.BigQuiet
import Derived.Laws.ResultCell

namespace Go.Proofs.YtapnllbbdfoaaaaGreatDoor
open Go.RowKit

/-! ### Endings -/
def Ret (v : Value) (w : World) (e : Ending) (w' : World) : Prop := e = .returned v ∧ Below w.heap.size w w'
theorem Ret.mk {v v' : Value} {w w' : World} (h : v' = v) (hb : Below w.heap.size w w') : Ret v w (.returned v') w' := ⟨by rw [h], hb⟩
/-- Nothing turns at all. -/
def RetQ (v : Value) (w : World) (e : Ending) (w' : World) : Prop := e = .returned v ∧ w' = w
theorem RetQ.mk {v v' : Value} {w : World} (h : v' = v) : RetQ v w (.returned v') w := ⟨by rw [h], rfl⟩

theorem vi {k : IntKind} {a b : Int} (h : a = b) : Value.int k a = Value.int k b := by rw [h]
theorem vb {a b : Bool} (h : a = b) : Value.bool a = Value.bool b := by rw [h]
theorem vs {a b : ByteArray} (h : a = b) : Value.string a = Value.string b := by rw [h]

/-! ### Below the heap's size -/
theorem bl_alloc {a w : World} (h : Below a.heap.size a w) (o : Obj) : Below a.heap.size a (w.alloc o) := h.alloc h.size o
theorem bl_trans {a b c : World} (h : Below a.heap.size a b) (k : Below b.heap.size b c) : Below a.heap.size a c := h.trans (k.mono h.size)
theorem bl_transd {a b c : World} (h : Below a.heap.size a b) (k : Below b.drew.heap.size b.drew c) : Below a.heap.size a c := bl_trans (b := b.drew) h.drew k
theorem bl_set {a w : World} (h : Below a.heap.size a w) {p : Addr} (hp : a.heap.size ≤ p.block) (u : Value) : Below a.heap.size a (w.setCell p u) := h.setCell hp u
theorem bl_grown {a w w' : World} {row : Option Nat} (h : Below a.heap.size a w) (hg : w.grownBy w' row) (hr : ∀ k, row = some k → a.heap.size ≤ k) : Below a.heap.size a w' := h.grown hg h.size hr
theorem bl_cell {a w : World} (h : Below a.heap.size a w) {p : Addr} {v : Value} (hc : a.cell? p = some v) : w.cell? p = some v := (h.cell (block_lt_of_cell hc)).trans hc
theorem grown_of_below {a w : World} (h : Below a.heap.size a w) (row : Option Nat) : a.grownBy w row := ⟨h.os, h.tape, h.output, h.size, fun i hi _ => h.block i hi⟩
theorem grown_alloc {a w : World} {row : Option Nat} (h : a.grownBy w row) (o : Obj) : a.grownBy (w.alloc o) row :=
  ⟨h.os, h.tape, h.output, Nat.le_trans h.size (by simp), fun i hi hne => (Below.heap_alloc w o i (Nat.lt_of_lt_of_le hi h.size)).trans (h.block i hi hne)⟩
theorem grown_setCell {a w : World} {g : Nat} (h : a.grownBy w (some g)) {p : Addr} (hp : p.block = g ∨ a.heap.size ≤ p.block) (u : Value) : a.grownBy (w.setCell p u) (some g) :=
  ⟨h.os, h.tape, h.output, by simpa [World.setCell] using h.size, fun i hi hne => (Below.heap_setCell w p u i (by
    rintro rfl
    rcases hp with hp | hp
    · exact hne (by rw [hp])
    · omega)).trans (h.block i hi hne)⟩
theorem grown_trans {a b c : World} {row : Option Nat} (h : a.grownBy b row) (k : b.grownBy c row) : a.grownBy c row :=
  ⟨k.os.trans h.os, k.tape.trans h.tape, k.output.trans h.output, Nat.le_trans h.size k.size, fun i hi hne => (k.block i (Nat.lt_of_lt_of_le hi h.size) hne).trans (h.block i hi hne)⟩
theorem grown_below {a b c : World} {row : Option Nat} (h : a.grownBy b row) (k : Below b.heap.size b c) : a.grownBy c row := grown_trans h (grown_of_below k row)

/-! ### A block known whole -/
def Blk (w : World) (g : Nat) (t : TypeId) (cs : Array Value) : Prop := w.heap[g]? = some (.cells cs t (0, 0))
section
variable {w w' : World} {g : Nat} {t : TypeId} {cs : Array Value}
theorem Blk.lt (h : Blk w g t cs) : g < w.heap.size := by
  rcases Nat.lt_or_ge g w.heap.size with hlt | hge
  · exact hlt
  · unfold Blk at h; rw [Array.getElem?_eq_none hge] at h; cases h
theorem Blk.cell (h : Blk w g t cs) (i : Nat) : w.cell? ⟨g, i, none⟩ = cs[i]? := cell_of_row w g i cs t (0, 0) h
theorem Blk.frozen (h : Blk w g t cs) (i : Nat) : w.frozen? ⟨g, i, none⟩ = false := by
  unfold Blk at h
  simp [World.frozen?, h]
theorem Blk.new (w : World) (t : TypeId) (cs : Array Value) : Blk (w.alloc (.cells cs t)) w.heap.size t cs := heap_alloc_new w _
theorem Blk.alloc (h : Blk w g t cs) (o : Obj) : Blk (w.alloc o) g t cs := (Below.heap_alloc w o g h.lt).trans h
theorem Blk.set_ (h : Blk w g t cs) (i : Nat) (u : Value) : Blk (w.setCell ⟨g, i, none⟩ u) g t (cs.setIfInBounds i u) := by
  unfold Blk at h ⊢
  simp [World.setCell, Array.getElem?_modify, h]
theorem Blk.far (h : Blk w g t cs) {p : Addr} (hp : g ≠ p.block) (u : Value) : Blk (w.setCell p u) g t cs := (Below.heap_setCell w p u g hp).trans h
theorem Blk.below (h : Blk w g t cs) (hb : Below w.heap.size w w') : Blk w' g t cs := (hb.block g h.lt).trans h
theorem Blk.grown {row : Option Nat} (h : Blk w g t cs) (hb : w.grownBy w' row) (hg : some g ≠ row) : Blk w' g t cs := (hb.block g h.lt hg).trans h
end

/-! ### A slice that reads as a list of cells: nil, empty, wherever it lies -/
theorem block_of_add (a : Addr) (n : Nat) : (a.add n).block = a.block := by unfold Addr.add; split <;> rfl
theorem add_of_add (a : Addr) (i j : Nat) : (a.add i).add j = a.add (i + j) := by
  unfold Addr.add
  by_cases hi : i = 0 <;> by_cases hj : j = 0 <;> simp [hi, hj, Nat.add_assoc]
theorem add_form (a : Addr) (i j : Nat) (hj : j ≠ 0) : a.add (i + j) = ⟨(a.add i).block, (a.add i).off + j, none⟩ := by
  rw [← add_of_add]; simp [Addr.add, hj]
def Arr (w : World) (A : Option Addr) (cs : List Value) : Prop :=
  0 < cs.length → ∃ ad, A = some ad ∧ ad.block < w.heap.size ∧ ∀ j u, cs[j]? = some u → w.cell? (ad.add j) = some u
section
variable {w w' : World} {A : Option Addr} {cs : List Value}
theorem Arr.nil (w : World) (A : Option Addr) : Arr w A [] := fun h => absurd h (by simp)
theorem Arr.at_ (h : Arr w A cs) {j : Nat} (hj : j < cs.length) : ∃ ad, A = some ad ∧ ad.block < w.heap.size ∧ ∀ j u, cs[j]? = some u → w.cell? (ad.add j) = some u := h (by omega)
theorem Arr.keep (h : Arr w A cs) (hs : w.heap.size ≤ w'.heap.size) (hk : ∀ ad, A = some ad → ∀ p : Addr, p.block = ad.block → p.block < w.heap.size → w'.cell? p = w.cell? p) : Arr w' A cs := fun hn => by
  obtain ⟨ad, e, hb, hc⟩ := h hn
  exact ⟨ad, e, by omega, fun j u hu => (hk ad e _ (block_of_add _ _) (by rw [block_of_add]; exact hb)).trans (hc j u hu)⟩
theorem Arr.below (h : Arr w A cs) (hb : Below w.heap.size w w') : Arr w' A cs := h.keep hb.size fun _ _ _ _ hp => hb.cell hp
theorem Arr.grown {row : Option Nat} (h : Arr w A cs) (hg : w.grownBy w' row) (hne : ∀ ad, A = some ad → some ad.block ≠ row) : Arr w' A cs :=
  h.keep hg.size fun ad e p hp hlt => World.cell?_of_block (hg.block p.block hlt (by rw [hp]; exact hne ad e))
theorem Arr.alloc (h : Arr w A cs) (o : Obj) : Arr (w.alloc o) A cs := h.below ((Below.refl _ _).alloc (Nat.le_refl _) o)
theorem Arr.own {base e size n c : Nat} (h : w.ownsRow base e size (.slice A n c) n cs) : Arr w A cs := fun hn => by
  rcases h.2 with ⟨h1, h2⟩ | ⟨g, cap, cur, h1, _, hg, _⟩
  · exfalso; have := h.1; subst h2; simp at this; subst this; simp at hn
  · have h1' := h1
    simp only [Value.slice.injEq] at h1
    obtain ⟨rfl, _, _⟩ := h1
    exact ⟨_, rfl, (Array.getElem?_eq_some_iff.1 hg).1, h.cells (g := g) rfl⟩
theorem Arr.take (h : Arr w A cs) (k : Nat) : Arr w A (cs.take k) := fun hn => by
  obtain ⟨ad, e, hb, hc⟩ := h (by simp at hn; omega)
  exact ⟨ad, e, hb, fun j u hu => hc j u (by
    rw [List.getElem?_take] at hu
    split at hu
    · exact hu
    · cases hu)⟩
end
theorem own_below {w w' : World} {base e size n : Nat} {v : Value} {cs : List Value} (h : w.ownsRow base e size v n cs) (hb : Below w.heap.size w w') : w'.ownsRow base e size v n cs :=
  h.kept (grown_of_below hb none) (by cases v.ownBlock <;> simp)
theorem own_base {w : World} {base base' e size n : Nat} {v : Value} {cs : List Value} (h : w.ownsRow base e size v n cs) (hb : base' ≤ base) : w.ownsRow base' e size v n cs := by
  refine ⟨h.1, ?_⟩
  rcases h.2 with h2 | ⟨g, cap, cur, hv, hg, r⟩
  · exact .inl h2
  · exact .inr ⟨g, cap, cur, hv, by omega, r⟩
/-- The shape of an owned slice. -/
theorem own_form {w : World} {base e size n : Nat} {v : Value} {cs : List Value} (h : w.ownsRow base e size v n cs) : ∃ A c, v = .slice A n c ∧ n ≤ c ∧ c ≤ maxLen := by
  rcases h.2 with ⟨rfl, rfl⟩ | ⟨g, cap, cur, rfl, _, _, h1, h2, _⟩
  · exact ⟨none, 0, rfl, by omega, by simp [maxLen]⟩
  · exact ⟨_, cap, rfl, h1, h2⟩

/-! ### Rows of structs -/
def flat {α : Type} (f : α → List Value) (xs : List α) : List Value := xs.flatMap f
theorem flat_length {α : Type} {f : α → List Value} {s : Nat} (hf : ∀ x, (f x).length = s) (xs : List α) : (flat f xs).length = xs.length * s := by
  unfold flat
  induction xs with
  | nil => simp
  | cons x r ih => simp only [List.flatMap_cons, List.length_append, List.length_cons, hf, ih, Nat.succ_mul]; omega
theorem flat_get {α : Type} {f : α → List Value} {s : Nat} (hf : ∀ x, (f x).length = s) : ∀ (xs : List α) (k j : Nat) (x : α), xs[k]? = some x → j < s → (flat f xs)[k * s + j]? = (f x)[j]? := by
  intro xs
  induction xs with
  | nil => intro k j x h; simp at h
  | cons y r ih =>
    intro k j x h hj
    cases k with
    | zero =>
      simp only [List.getElem?_cons_zero, Option.some.injEq] at h
      subst h
      simp only [flat, List.flatMap_cons, Nat.zero_mul, Nat.zero_add]
      rw [List.getElem?_append_left (by rw [hf]; exact hj)]
    | succ k =>
      simp only [List.getElem?_cons_succ] at h
      have := ih k j x h hj
      simp only [flat, List.flatMap_cons] at this ⊢
      rw [List.getElem?_append_right (by rw [hf, Nat.succ_mul]; omega), hf]
      rw [show (k + 1) * s + j - s = k * s + j from by rw [Nat.succ_mul]; omega]
      exact this
theorem flat_append {α : Type} (f : α → List Value) (xs ys : List α) : flat f (xs ++ ys) = flat f xs ++ flat f ys := by simp [flat]
theorem flat_one {α : Type} (f : α → List Value) (x : α) : flat f [x] = f x := by simp [flat]
/-- Cell j of element k, in the walk's spelling. -/
theorem Arr.elem {α : Type} {f : α → List Value} {s : Nat} (hf : ∀ x, (f x).length = s) {w : World} {A : Option Addr} {xs : List α} (h : Arr w A (flat f xs)) {k : Nat} {x : α} (hk : xs[k]? = some x) (hs : 0 < s) :
    ∃ ad, A = some ad ∧ ad.block < w.heap.size ∧ w.cell? (ad.add (k * s)) = (f x)[0]? ∧ ∀ j, j < s → j ≠ 0 → w.cell? ⟨(ad.add (k * s)).block, (ad.add (k * s)).off + j, none⟩ = (f x)[j]? := by
  have hkl : k < xs.length := (List.getElem?_eq_some_iff.1 hk).1
  obtain ⟨ad, e, hb, hc⟩ := h (by rw [flat_length hf]; exact Nat.mul_pos (by omega) hs)
  have key : ∀ j, j < s → w.cell? (ad.add (k * s + j)) = (f x)[j]? := by
    intro j hj
    have h1 := flat_get hf xs k j x hk hj
    have h2 : (f x)[j]? = some ((f x)[j]'(by rw [hf]; exact hj)) := List.getElem?_eq_getElem _
    rw [h2] at h1 ⊢
    exact hc _ _ h1
  exact ⟨ad, e, hb, by simpa using key 0 hs, fun j hj h0 => by rw [← add_form _ _ _ h0]; exact key j hj⟩

/-! ### Lists from a place on -/
theorem drop_at {α : Type} {xs : List α} {k : Nat} {x : α} (h : xs[k]? = some x) : xs.drop k = x :: xs.drop (k + 1) := by
  obtain ⟨hlt, rfl⟩ := List.getElem?_eq_some_iff.1 h
  exact List.drop_eq_getElem_cons hlt
theorem get_of_lt {α : Type} {xs : List α} {k : Nat} (h : k < xs.length) : ∃ x, xs[k]? = some x := ⟨_, List.getElem?_eq_getElem h⟩
theorem take_at {α : Type} {xs : List α} {k : Nat} {x : α} (h : xs[k]? = some x) : xs.take (k + 1) = xs.take k ++ [x] := by
  obtain ⟨hlt, rfl⟩ := List.getElem?_eq_some_iff.1 h
  exact List.take_succ_eq_append_getElem hlt
theorem bytes_eq_iff (s t : ByteArray) : s.toList = t.toList ↔ s = t := by
  constructor
  · intro h
    rw [ByteArray.toList_eq, ByteArray.toList_eq] at h
    cases s; cases t
    simp only [ByteArray.mk.injEq]
    exact Array.ext' h
  · intro h; rw [h]
theorem bytes_beq (s t : ByteArray) : (s.toList == t.toList) = decide (s = t) := by
  rw [Bool.eq_iff_iff, beq_iff_eq, decide_eq_true_eq]
  exact bytes_eq_iff s t
theorem bytes_nil (s : ByteArray) : (s.toList == []) = decide (s.size = 0) := by
  rw [ByteArray.toList_eq, Bool.eq_iff_iff, beq_iff_eq, decide_eq_true_eq, ← List.length_eq_zero_iff]
  simp
/-! ### Sizes that are taken off a purse -/
def szGo : List Nat → Int → Int
  | [], l => l
  | s :: r, l => if l - s < 0 then -1 else szGo r (l - s)
theorem szGo_cons_lo {s : Nat} {r : List Nat} {l : Int} (h : l - s < 0) : szGo (s :: r) l = -1 := by simp only [szGo]; rw [if_pos h]
theorem szGo_cons_hi {s : Nat} {r : List Nat} {l : Int} (h : 0 ≤ l - s) : szGo (s :: r) l = szGo r (l - s) := by simp only [szGo]; rw [if_neg (by omega)]
theorem szGo_append (a b : List Nat) : ∀ l : Int, 0 ≤ szGo a l → szGo (a ++ b) l = szGo b (szGo a l) := by
  induction a with
  | nil => intro l _; rfl
  | cons s r ih =>
    intro l h
    simp only [List.cons_append, szGo] at h ⊢
    by_cases hs : l - s < 0
    · simp only [if_pos hs] at h; omega
    · simp only [if_neg hs] at h ⊢; exact ih _ h
theorem szGo_append_lo (a b : List Nat) : ∀ l : Int, 0 ≤ l → szGo a l < 0 → szGo (a ++ b) l = -1 := by
  induction a with
  | nil => intro l h h'; simp only [szGo] at h'; omega
  | cons s r ih =>
    intro l h0 h
    simp only [List.cons_append, szGo] at h ⊢
    by_cases hs : l - s < 0
    · simp only [if_pos hs]
    · simp only [if_neg hs] at h ⊢; exact ih _ (by omega) h
theorem szGo_le : ∀ (a : List Nat) (l : Int), 0 ≤ l → szGo a l ≤ l ∧ -1 ≤ szGo a l := by
  intro a
  induction a with
  | nil => intro l h; simp only [szGo]; omega
  | cons s r ih =>
    intro l h
    simp only [szGo]
    by_cases hs : l - s < 0
    · simp only [if_pos hs]; omega
    · simp only [if_neg hs]; have := ih (l - s) (by omega); omega
theorem szGo_sum : ∀ (a : List Nat) (l : Int), 0 ≤ szGo a l → szGo a l = l - (a.sum : Nat) := by
  intro a
  induction a with
  | nil => intro l h; simp [szGo]
  | cons s r ih =>
    intro l h
    simp only [szGo] at h ⊢
    by_cases hs : l - s < 0
    · simp only [if_pos hs] at h; omega
    · simp only [if_neg hs] at h ⊢; rw [ih _ h]; simp; omega
theorem sum_mem {a : List Nat} {s : Nat} (h : s ∈ a) : s ≤ a.sum := by
  induction a with
  | nil => cases h
  | cons x r ih =>
    simp only [List.sum_cons]
    rcases List.mem_cons.1 h with rfl | h
    · omega
    · have := ih h; omega
/-- What a list of structs weighs: its length, then each one's texts. -/
def szS {α : Type} (f : α → List Nat) (xs : List α) (l : Int) : Int := szGo (xs.length :: xs.flatMap f) l
/-! ### Stores into an owned row -/
theorem own_cell {w : World} {base e size n g c : Nat} {cs : List Value} (h : w.ownsRow base e size (.slice (some ⟨g, 0, none⟩) n c) n cs) {j : Nat} (hj : j < cs.length) : ∃ u, w.cell? ⟨g, j, none⟩ = some u :=
  ⟨_, (h.cellAt j (by rw [← h.1]; exact hj)).trans (List.getElem?_eq_getElem hj)⟩
def setMany (l : List Value) (i : Nat) : List Value → List Value
  | [] => l
  | u :: r => setMany (l.set i u) (i + 1) r
theorem setMany_eq : ∀ (us l : List Value) (i : Nat), i + us.length ≤ l.length → setMany l i us = l.take i ++ us ++ l.drop (i + us.length) := by
  intro us
  induction us with
  | nil => intro l i _; simp [setMany]
  | cons u r ih =>
    intro l i h
    simp only [List.length_cons] at h
    simp only [setMany, List.length_cons]
    rw [ih (l.set i u) (i + 1) (by rw [List.length_set]; omega)]
    rw [List.take_set, List.drop_set_of_lt (by omega)]
    have e1 : (l.take (i + 1)).set i u = l.take i ++ [u] := by
      rw [List.take_succ_eq_append_getElem (by omega)]
      rw [List.set_append_right _ _ (by simp; omega)]
      have : (l.take i).length = i := by simp; omega
      rw [this]; simp
    rw [e1, show i + 1 + r.length = i + (r.length + 1) from by omega]
    simp
/-- The k-th of a row of structs is stored: the row so far. -/
theorem flat_step {α : Type} {f : α → List Value} {s : Nat} (hf : ∀ x, (f x).length = s) {xs : List α} {k n : Nat} {x : α} (hx : xs[k]? = some x) (hn : xs.length = n) (L : List Value) (hL : L.length = n * s) :
    setMany (flat f (xs.take k) ++ L.drop (k * s)) (k * s) (f x) = flat f (xs.take (k + 1)) ++ L.drop ((k + 1) * s) := by
  have hk : k < n := by rw [← hn]; exact (List.getElem?_eq_some_iff.1 hx).1
  have h1 : (flat f (xs.take k)).length = k * s := by rw [flat_length hf]; congr 1; simp; omega
  have h2 : (k + 1) * s = k * s + s := Nat.succ_mul k s
  have h3 : (k + 1) * s ≤ n * s := Nat.mul_le_mul_right s hk
  rw [setMany_eq _ _ _ (by simp only [List.length_append, List.length_drop, h1, hf, hL]; omega)]
  rw [List.take_left' h1, take_at hx, flat_append, flat_one, hf]
  rw [List.drop_append, h1]
  rw [show k * s + s - k * s = s from by omega, List.drop_eq_nil_of_le (by rw [h1]; omega), List.drop_drop, h2]
  simp
theorem flat_end {α : Type} {f : α → List Value} {s : Nat} {xs : List α} {n : Nat} (hn : xs.length = n) (L : List Value) (hL : L.length = n * s) : flat f (xs.take n) ++ L.drop (n * s) = flat f xs := by
  rw [List.take_of_length_le (by omega), List.drop_eq_nil_of_le (by omega)]; simp
/-- A new slice of n elements, made whole. -/
def OutS (E size n : Nat) (cs : List Value) (w : World) (e : Ending) (w' : World) : Prop :=
  ∃ g, e = .returned (.slice (some ⟨g, 0, none⟩) n n) ∧ w'.ownsRow w.heap.size E size (.slice (some ⟨g, 0, none⟩) n n) n cs ∧ Below w.heap.size w w'
/-! ### A byte as a text -/
theorem run_byte1 {P : Program} (src dst e : TypeId) (hs : P.underlying src = some (.slice e)) (he : P.underlying e = some (.int .u8)) (hd : P.underlying dst = some .string) (W : World) (n : Int) :
    (convert src dst (.slice (some ⟨W.heap.size, 0, none⟩) 1 1)).run P (W.alloc (.cells #[.int .u8 n] e)) = .ok (.string ⟨#[UInt8.ofNat n.toNat]⟩) (W.alloc (.cells #[.int .u8 n] e)) := by
  rw [run_convert_bytes_string _ _ _ _ _ _ _ hs he hd, run_bytesToString _ _ _ _ [n] ?_]
  · rfl
  · refine run_loadCells_list (P := P) _ ⟨W.heap.size, 0, none⟩ [.int .u8 n] ?_
    intro j v hv
    match j, hv with
    | 0, hv => simp only [List.getElem?_cons_zero, Option.some.injEq] at hv; subst hv; simp [Addr.add, World.cell?_alloc_at]
/-! ### Equality of lists by a Bool -/
def listBeq {α : Type} (f : α → α → Bool) : List α → List α → Bool
  | [], [] => true
  | x :: xs, y :: ys => f x y && listBeq f xs ys
  | _, _ => false
theorem listBeq_len {α : Type} (f : α → α → Bool) : ∀ xs ys : List α, xs.length ≠ ys.length → listBeq f xs ys = false := by
  intro xs
  induction xs with
  | nil => intro ys h; cases ys with
    | nil => exact absurd rfl h
    | cons y ys => rfl
  | cons x xs ih => intro ys h; cases ys with
    | nil => rfl
    | cons y ys => simp only [listBeq]; rw [ih ys (by simpa using h)]; simp
theorem listBeq_iff {α : Type} {f : α → α → Bool} (hf : ∀ x y, f x y = true ↔ x = y) : ∀ xs ys : List α, listBeq f xs ys = true ↔ xs = ys := by
  intro xs
  induction xs with
  | nil => intro ys; cases ys <;> simp [listBeq]
  | cons x xs ih => intro ys; cases ys with
    | nil => simp [listBeq]
    | cons y ys => simp [listBeq, hf, ih]
/-! ### Marks -/
theorem own_addr {w : World} {base e size n c : Nat} {A : Option Addr} {cs : List Value} (h : w.ownsRow base e size (.slice A n c) n cs) (hn : 0 < n) : ∃ g, A = some ⟨g, 0, none⟩ := by
  rcases h.2 with ⟨_, h2⟩ | ⟨g, cap, cur, hv, _⟩
  · omega
  · simp only [Value.slice.injEq] at hv
    exact ⟨g, hv.1⟩
def MarkS (base E size : Nat) (A : Option Addr) (n c : Nat) (cs : List Value) (q : Int) (w : World) (e : Ending) (w' : World) : Prop :=
  e = .returned (.int .i64 q) ∧ w'.ownsRow base E size (.slice A n c) n cs ∧ w.grownBy w' (A.map (·.block))
def mtGo : Nat → Nat → List UInt8 → List UInt8
  | 0, _, acc => acc
  | f + 1, k, acc => if k = 0 then acc else mtGo f (k / 10) ((48 + UInt8.ofNat (k % 10)) :: acc)
def mtext (k : Nat) : ByteArray := if k = 0 then ⟨#[109, 48]⟩ else ⟨(109 :: mtGo k k []).toArray⟩
/-! ### Elements of one cell -/
def icell (x : Int) : List Value := [.int .i64 x]
def scell (x : ByteArray) : List Value := [.string x]
theorem icell_at {w : World} {A : Option Addr} {xs : List Int} {k : Nat} {x : Int} (h : Arr w A (flat icell xs)) (hk : xs[k]? = some x) : ∃ ad, A = some ad ∧ ad.block < w.heap.size ∧ w.cell? (ad.add k) = some (.int .i64 x) := by
  obtain ⟨ad, e, hb, h0, _⟩ := h.elem (f := icell) (s := 1) (fun _ => rfl) hk (by omega)
  exact ⟨ad, e, hb, by rw [Nat.mul_one] at h0; exact h0⟩
theorem scell_at {w : World} {A : Option Addr} {xs : List ByteArray} {k : Nat} {x : ByteArray} (h : Arr w A (flat scell xs)) (hk : xs[k]? = some x) : ∃ ad, A = some ad ∧ ad.block < w.heap.size ∧ w.cell? (ad.add k) = some (.string x) := by
  obtain ⟨ad, e, hb, h0, _⟩ := h.elem (f := scell) (s := 1) (fun _ => rfl) hk (by omega)
  exact ⟨ad, e, hb, by rw [Nat.mul_one] at h0; exact h0⟩
theorem szS_len {α : Type} {f : α → List Nat} {xs : List α} {l : Int} (h0 : 0 ≤ szS f xs l) (h1 : l ≤ 1048576) : (xs.length : Int) ≤ 1048576 := by
  have h2 := szGo_sum _ _ h0
  unfold szS at h0
  simp only [List.sum_cons] at h2
  have : szGo (xs.length :: xs.flatMap f) l ≤ l - xs.length := by
    have h3 := szGo_sum _ _ h0
    simp only [List.sum_cons] at h3
    omega
  omega
theorem szS_le {α : Type} (f : α → List Nat) (xs : List α) (l : Int) (h : 0 ≤ l) : szS f xs l ≤ l ∧ -1 ≤ szS f xs l := szGo_le _ _ h
/-- Two results or more. -/
def RetT (vs : Array Value) (w : World) (e : Ending) (w' : World) : Prop := e = .returned (.tuple vs) ∧ Below w.heap.size w w'
theorem RetT.mk {vs vs' : Array Value} {w w' : World} (h : vs' = vs) (hb : Below w.heap.size w w') : RetT vs w (.returned (.tuple vs')) w' := ⟨by rw [h], hb⟩
theorem own_far {w : World} {base e size n : Nat} {v : Value} {cs : List Value} (h : w.ownsRow base e size v n cs) {p : Addr} (hp : ∀ g, v.ownBlock = some g → g ≠ p.block) (u : Value) : (w.setCell p u).ownsRow base e size v n cs :=
  h.kept (w' := w.setCell p u) (row := some p.block) ⟨rfl, rfl, rfl, by simp [World.setCell], fun k _ hk => Below.heap_setCell w p u k (fun e => hk (by rw [e]))⟩ (by
    cases hv : v.ownBlock with
    | none => exact .inl rfl
    | some g => exact .inr (fun e => hp g hv (by injection e)))
end Go.Proofs.YtapnllbbdfoaaaaGreatDoor

namespace Go.Proofs.YtapnllbbdfoaaaaGreatDoor
open Go.RowKit


structure Order where
  id : Int
  customer : ByteArray
  stage : Int
  due : Int
  left : Int
  fittings : Int
def Order.cells (x : Order) : List Value := [.int .i64 x.id, .string x.customer, .int .i64 x.stage, .int .i64 x.due, .int .i64 x.left, .int .i64 x.fittings]
def Order.val (x : Order) : Value := .agg #[.int .i64 x.id, .string x.customer, .int .i64 x.stage, .int .i64 x.due, .int .i64 x.left, .int .i64 x.fittings]
def Order.sizes (x : Order) : List Nat := [x.customer.size]
theorem Order.cells_length (x : Order) : x.cells.length = 6 := rfl
theorem Order.at_ {w : World} {A : Option Addr} {xs : List Order} {k : Nat} {x : Order} (h : Arr w A (flat Order.cells xs)) (hk : xs[k]? = some x) :
    ∃ ad, A = some ad ∧ ad.block < w.heap.size ∧ w.cell? (ad.add (k * 6)) = some (.int .i64 x.id) ∧
      w.cell? ⟨(ad.add (k * 6)).block, (ad.add (k * 6)).off + 1, none⟩ = some (.string x.customer) ∧
      w.cell? ⟨(ad.add (k * 6)).block, (ad.add (k * 6)).off + 2, none⟩ = some (.int .i64 x.stage) ∧
      w.cell? ⟨(ad.add (k * 6)).block, (ad.add (k * 6)).off + 3, none⟩ = some (.int .i64 x.due) ∧
      w.cell? ⟨(ad.add (k * 6)).block, (ad.add (k * 6)).off + 4, none⟩ = some (.int .i64 x.left) ∧
      w.cell? ⟨(ad.add (k * 6)).block, (ad.add (k * 6)).off + 5, none⟩ = some (.int .i64 x.fittings) := by
  obtain ⟨ad, e, hb, h0, hj⟩ := h.elem Order.cells_length hk (by omega)
  exact ⟨ad, e, hb, h0, hj 1 (by omega) (by omega), hj 2 (by omega) (by omega), hj 3 (by omega) (by omega), hj 4 (by omega) (by omega), hj 5 (by omega) (by omega)⟩
def Order.beq (x y : Order) : Bool := decide (x.id = y.id) && decide (x.customer = y.customer) && decide (x.stage = y.stage) && decide (x.due = y.due) && decide (x.left = y.left) && decide (x.fittings = y.fittings)
theorem Order.beq_iff (x y : Order) : x.beq y = true ↔ x = y := by
  cases x; cases y; simp [Order.beq, and_assoc]
theorem Order.beq_self (x : Order) : x.beq x = true := (Order.beq_iff x x).2 rfl

end Go.Proofs.YtapnllbbdfoaaaaGreatDoor

namespace Go.Proofs.YtapnllbbdfoaaaaGreatDoor
open Go.RowKit

theorem app_own {P : Program} {ops : Array Oper} {rest : List Oper} {o : Oper} {a : Act} {Q : Exit → Act → World → Prop} (w : World) (C : Array Value) (hgd : o.guard = none) (s x : Operand) (t e : TypeId)
    (ho : o.op = .call { callee := .builtin .append, args := #[s, x], argTypes := #[t, t] })
    (i : TypeInfo) (z : Value) (size bytes : Nat) (ht : P.underlying t = some (.slice e)) (hi : P.info? e = some i) (hz : i.zero = some z)
    (hsize : i.size = size) (hby : i.bytes = bytes) (hzs : z.cells.size = size) (hsz : 0 < size)
    (base : Nat) (v : Value) (n : Nat) (cs : List Value) (hs : a.eval s = v) (hx : a.eval x = .slice (some ⟨w.heap.size, 0, none⟩) 1 1) (hown : w.ownsRow base e size v n cs)
    (hl : C.size = size) (h1 : ∀ u ∈ C.toList, u.oneCell' = true) (h63 : n + 1 ≤ maxLen) (hbytes : (n + 1) * bytes ≤ 140737488355328) (hbase : base ≤ w.heap.size)
    (h : ∀ A c w', w'.ownsRow base e size (.slice A (n + 1) c) (n + 1) (cs ++ C.toList) → w.grownBy w' v.ownBlock → wpList P ops Q rest (a.put o.dst (.slice A (n + 1) c)) w') :
    wpList P ops Q (o :: rest) a (w.alloc (.cells C e)) := by
  refine wpList_append_own (w.alloc (.cells C e)) hgd s x t ho base e i z size bytes ht hi hz hsize hby hzs hsz v n cs hs (hown.alloc _) ⟨w.heap.size, 0, none⟩ 1 1 C.toList hx (by simp [hl]) ?_ h1 h63 hbytes (by simp; omega) ?_
  · intro j u hu
    have hadd : (⟨w.heap.size, 0, none⟩ : Addr).add j = ⟨w.heap.size, j, none⟩ := by unfold Addr.add; split <;> simp_all
    rw [hadd, World.cell?_alloc_at C e w.heap.size j rfl]
    simpa using hu
  · intro v' w' hown' hg _
    obtain ⟨A, c, rfl, _, _⟩ := own_form hown'
    exact h A c w' hown' (grown_trans (grown_alloc (World.grownBy.refl w _) _) hg)
/-- append of the elements of another slice -/
theorem app_many {P : Program} {ops : Array Oper} {rest : List Oper} {o : Oper} {a : Act} {Q : Exit → Act → World → Prop} (w : World) (hgd : o.guard = none) (s x : Operand) (t e : TypeId)
    (ho : o.op = .call { callee := .builtin .append, args := #[s, x], argTypes := #[t, t] })
    (i : TypeInfo) (z : Value) (size bytes : Nat) (ht : P.underlying t = some (.slice e)) (hi : P.info? e = some i) (hz : i.zero = some z)
    (hsize : i.size = size) (hby : i.bytes = bytes) (hzs : z.cells.size = size) (hsz : 0 < size)
    (base : Nat) (v : Value) (n : Nat) (cs : List Value) (hs : a.eval s = v) (hown : w.ownsRow base e size v n cs)
    (ad : Addr) (m c : Nat) (C : List Value) (hx : a.eval x = .slice (some ad) m c) (hA : Arr w (some ad) C)
    (hl : C.length = m * size) (h1 : ∀ u ∈ C, u.oneCell' = true) (h63 : n + m ≤ maxLen) (hbytes : (n + m) * bytes ≤ 140737488355328) (hbase : base ≤ w.heap.size)
    (h : ∀ A c w', w'.ownsRow base e size (.slice A (n + m) c) (n + m) (cs ++ C) → w.grownBy w' v.ownBlock → wpList P ops Q rest (a.put o.dst (.slice A (n + m) c)) w') :
    wpList P ops Q (o :: rest) a w := by
  refine wpList_append_own w hgd s x t ho base e i z size bytes ht hi hz hsize hby hzs hsz v n cs hs hown ad m c C hx hl ?_ h1 h63 hbytes hbase ?_
  · intro j u hu
    obtain ⟨ad', e', _, hc⟩ := hA (by have := (List.getElem?_eq_some_iff.1 hu).1; omega)
    injection e' with e'
    subst e'
    exact hc j u hu
  · intro v' w' hown' hg _
    obtain ⟨A, c, rfl, _, _⟩ := own_form hown'
    exact h A c w' hown' hg
theorem results_cell_row_tmp {P : Program} {fn : Func} {p u : Tmp} {ty : TypeId} (h : fn.results = #[.cell p ty, .tmp u]) (tmps : Array Value) (w : World) (g : Nat) (t : TypeId) (cs : Array Value) (fr : Nat × Nat) (d : TypeDesc)
    (hp : tmps.getD p undef = .pointer (some ⟨g, 0, none⟩)) (hg : w.heap[g]? = some (.cells cs t fr))
    (hu : P.underlying ty = some d) (hd : (match d with | .struct _ | .array _ _ => true | _ => false) = true) (hi : (P.info? ty).map (·.size) = some cs.size) :
    (results fn tmps).run P w = .ok (.tuple #[.agg cs, tmps.getD u undef]) w := by
  rw [results_cell_tmp h, hp]
  simp [asAddr, run_loadVar_row w g t ty cs fr d hg hu hd hi]
/-- A new slice of one's own, of any capacity. -/
def OutC (E size n : Nat) (cs : List Value) (w : World) (e : Ending) (w' : World) : Prop :=
  ∃ A c, e = .returned (.slice A n c) ∧ w'.ownsRow w.heap.size E size (.slice A n c) n cs ∧ Below w.heap.size w w'
theorem own_empty (w : World) (base : Nat) (e size : Nat) (hb : base ≤ w.heap.size) : (w.alloc (.cells #[] e)).ownsRow base e size (.slice (some ⟨w.heap.size, 0, none⟩) 0 0) 0 [] :=
  World.ownsRow_made w #[] 0 hb (by simp [maxLen]) (by simp)
theorem own_at {w : World} {base e size n : Nat} {v : Value} {cs : List Value} (h : w.ownsRow base e size v n cs) : ∀ k, v.ownBlock = some k → base ≤ k := by
  intro k hk
  rcases h.2 with ⟨hv, _⟩ | ⟨g, cap, cur, hv, hg, _⟩ <;> subst hv
  · simp [Value.ownBlock] at hk
  · have : g = k := by simpa [Value.ownBlock] using hk
    omega
/-- A slice of one's own and a code. -/
def OutL (E size : Nat) (n : Nat) (cs : List Value) (code : Int) (w : World) (e : Ending) (w' : World) : Prop :=
  ∃ A c, e = .returned (.tuple #[.slice A n c, .int .i64 code]) ∧ w'.ownsRow w.heap.size E size (.slice A n c) n cs ∧ Below w.heap.size w w'
theorem OutL.nil {E size : Nat} {code : Int} {w w' : World} (hb : Below w.heap.size w w') : OutL E size 0 [] code w (.returned (.tuple #[.slice none 0 0, .int .i64 code])) w' :=
  ⟨none, 0, rfl, World.ownsRow_nil _ _ _ _, hb⟩
theorem OutL.mk {E size n : Nat} {cs cs' : List Value} {code code' : Int} {A : Option Addr} {c m : Nat} {w w' : World} (h : w'.ownsRow w.heap.size E size (.slice A m c) m cs') (hm : m = n) (hc : cs' = cs) (hcode : code' = code) (hb : Below w.heap.size w w') :
    OutL E size n cs code w (.returned (.tuple #[.slice A m c, .int .i64 code'])) w' := by
  subst hm; subst hc; subst hcode; exact ⟨A, c, rfl, h, hb⟩
theorem range_take_succ (n k : Nat) (h : k < n) : (List.range n).take (k + 1) = (List.range n).take k ++ [k] := by
  rw [List.take_succ_eq_append_getElem (by simpa using h)]; simp
theorem app_ownX {P : Program} {ops : Array Oper} {rest : List Oper} {o : Oper} {a : Act} {Q : Exit → Act → World → Prop} (w : World) (C : Array Value) (hgd : o.guard = none) (s x : Operand) (t e : TypeId)
    (ho : o.op = .call { callee := .builtin .append, args := #[s, x], argTypes := #[t, t] })
    (i : TypeInfo) (z : Value) (size bytes : Nat) (ht : P.underlying t = some (.slice e)) (hi : P.info? e = some i) (hz : i.zero = some z)
    (hsize : i.size = size) (hby : i.bytes = bytes) (hzs : z.cells.size = size) (hsz : 0 < size)
    (base : Nat) (v : Value) (n : Nat) (cs : List Value) (hs : a.eval s = v) (gx : Nat) (hgx : gx = w.heap.size) (hx : a.eval x = .slice (some ⟨gx, 0, none⟩) 1 1) (hown : w.ownsRow base e size v n cs)
    (hl : C.size = size) (h1 : ∀ u ∈ C.toList, u.oneCell' = true) (h63 : n + 1 ≤ maxLen) (hbytes : (n + 1) * bytes ≤ 140737488355328) (hbase : base ≤ w.heap.size)
    (h : ∀ A c w', w'.ownsRow base e size (.slice A (n + 1) c) (n + 1) (cs ++ C.toList) → w.grownBy w' v.ownBlock → wpList P ops Q rest (a.put o.dst (.slice A (n + 1) c)) w') :
    wpList P ops Q (o :: rest) a (w.alloc (.cells C e)) := by
  subst hgx
  exact app_own w C hgd s x t e ho i z size bytes ht hi hz hsize hby hzs hsz base v n cs hs hx hown hl h1 h63 hbytes hbase h
end Go.Proofs.YtapnllbbdfoaaaaGreatDoor

namespace Go.Proofs.YtapnllbbdfoaaaaGreatDoor
open Go.RowKit

def Own (w : World) (lo hi E size n : Nat) (v : Value) (cs : List Value) : Prop := w.ownsRow lo E size v n cs ∧ lo ≤ hi ∧ hi ≤ w.heap.size ∧ ∀ k, v.ownBlock = some k → k < hi
theorem own_lt {w : World} {base e size n : Nat} {v : Value} {cs : List Value} (h : w.ownsRow base e size v n cs) : ∀ k, v.ownBlock = some k → k < w.heap.size := by
  intro k hk
  rcases own_form h with ⟨A, c, hv, _⟩
  subst hv
  rcases h.2 with ⟨hv, _⟩ | ⟨g, cap, cur, hv, _, hh⟩
  · rw [hv] at hk; simp [Value.ownBlock] at hk
  · rw [hv] at hk
    have hgk : g = k := by simpa [Value.ownBlock] using hk
    subst hgk
    simp only [World.ownsRow, hv] at h
    cases Nat.lt_or_ge g w.heap.size with
    | inl hlt => exact hlt
    | inr hge => exfalso; simp_all
theorem Own.of {w w' : World} {e size n : Nat} {v : Value} {cs : List Value} (h : w'.ownsRow w.heap.size e size v n cs) (hb : Below w.heap.size w w') : Own w' w.heap.size w'.heap.size e size n v cs :=
  ⟨h, hb.size, Nat.le_refl _, own_lt h⟩
theorem Own.named {w w' : World} {e size n : Nat} {v : Value} {cs : List Value} (h : w'.ownsRow w.heap.size e size v n cs) (hb : Below w.heap.size w w') : ∃ lo hi, Own w' lo hi e size n v cs ∧ Hid (lo = w.heap.size) ∧ Hid (hi = w'.heap.size) :=
  ⟨_, _, Own.of h hb, Lib.hid rfl, Lib.hid rfl⟩
theorem Own.below {w w' : World} {lo hi e size n : Nat} {v : Value} {cs : List Value} (h : Own w lo hi e size n v cs) (hb : Below w.heap.size w w') : Own w' lo hi e size n v cs :=
  ⟨own_below h.1 hb, h.2.1, Nat.le_trans h.2.2.1 hb.size, h.2.2.2⟩
theorem Own.drew {w : World} {lo hi e size n : Nat} {v : Value} {cs : List Value} (h : Own w lo hi e size n v cs) : Own w.drew lo hi e size n v cs := h.below (Below.refl _ _).drew
theorem Own.grown {w w' : World} {lo hi e size n : Nat} {v : Value} {cs : List Value} {row : Option Nat} (h : Own w lo hi e size n v cs) (hg : w.grownBy w' row) (hr : ∀ k, row = some k → hi ≤ k ∨ k < lo) : Own w' lo hi e size n v cs :=
  ⟨h.1.kept hg (by
    cases hv : v.ownBlock with
    | none => exact .inl rfl
    | some g =>
      refine .inr (fun e => ?_)
      have h1 := h.2.2.2 g hv
      have h2 := own_at h.1 g hv
      rcases hr g e.symm with h3 | h3 <;> omega), h.2.1, Nat.le_trans h.2.2.1 hg.size, h.2.2.2⟩
theorem Own.row {w : World} {lo hi e size n c : Nat} {A : Option Addr} {cs : List Value} (h : Own w lo hi e size n (.slice A n c) cs) : ∀ k, A.map (·.block) = some k → lo ≤ k ∧ k < hi := by
  intro k hk
  cases A with
  | none => simp at hk
  | some a =>
    have : (Value.slice (some a) n c).ownBlock = some k := by simpa [Value.ownBlock] using hk
    exact ⟨own_at h.1 k this, h.2.2.2 k this⟩
theorem Own.arr {w : World} {lo hi e size n c : Nat} {A : Option Addr} {cs : List Value} (h : Own w lo hi e size n (.slice A n c) cs) : Arr w A cs := Arr.own h.1
theorem Own.marked {w w' : World} {lo hi e size n c : Nat} {A : Option Addr} {cs cs' : List Value} (h : Own w lo hi e size n (.slice A n c) cs) (hg : w.grownBy w' (A.map (·.block))) (ho : w'.ownsRow lo e size (.slice A n c) n cs') : Own w' lo hi e size n (.slice A n c) cs' :=
  ⟨ho, h.2.1, Nat.le_trans h.2.2.1 hg.size, h.2.2.2⟩
end Go.Proofs.YtapnllbbdfoaaaaGreatDoor
