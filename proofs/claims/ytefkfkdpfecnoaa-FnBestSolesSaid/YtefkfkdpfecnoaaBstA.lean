/- The best sole: what may change, and the closure that is told each sole. -/
import Derived.Test.YtefkfkdpfecnoaaBstP
import Derived.Test.YtefkfkdpfecnoaaSolB
namespace Go.Proofs.Ytefkfkdpfecnoaa
open Go.RowKit

/-- all that lay there lies there still, but for two cells -/
structure Fr (gB gL : Nat) (w w' : World) : Prop where
  os : w'.os = w.os
  tape : w'.tape = w.tape
  output : w'.output = w.output
  size : w.heap.size ≤ w'.heap.size
  block : ∀ k, k < w.heap.size → k ≠ gB → k ≠ gL → w'.heap[k]? = w.heap[k]?
section
variable {gB gL : Nat} {w w' w'' : World}
theorem Fr.refl (gB gL : Nat) (w : World) : Fr gB gL w w := ⟨rfl, rfl, rfl, Nat.le_refl _, fun _ _ _ _ => rfl⟩
theorem Fr.trans (h : Fr gB gL w w') (h' : Fr gB gL w' w'') : Fr gB gL w w'' :=
  ⟨h'.os.trans h.os, h'.tape.trans h.tape, h'.output.trans h.output, Nat.le_trans h.size h'.size, fun k hk h1 h2 => (h'.block k (by have := h.size; omega) h1 h2).trans (h.block k hk h1 h2)⟩
theorem Fr.of (h : Below w.heap.size w w') : Fr gB gL w w' := ⟨h.os, h.tape, h.output, h.size, fun k hk _ _ => h.block k hk⟩
theorem Fr.ofd (h : Below w.drew.heap.size w.drew w') : Fr gB gL w w' := ⟨h.os, h.tape, h.output, h.size, fun k hk _ _ => h.block k hk⟩
theorem Fr.below {B : Nat} {a : World} (h : Below B a w) (h' : Fr gB gL w w') (h1 : B ≤ gB) (h2 : B ≤ gL) (h3 : B ≤ w.heap.size) : Below B a w' :=
  ⟨h'.os.trans h.os, h'.tape.trans h.tape, h'.output.trans h.output, Nat.le_trans h.size h'.size, fun k hk => (h'.block k (by omega) (by omega) (by omega)).trans (h.block k hk)⟩
theorem Blk.fr {g : Nat} {t : TypeId} {cs : Array Value} (h : Blk w g t cs) (hf : Fr gB gL w w') (h1 : g ≠ gB) (h2 : g ≠ gL) : Blk w' g t cs := (hf.block g h.lt h1 h2).trans h
theorem Fr.cell (hf : Fr gB gL w w') {p : Addr} {v : Value} (hc : w.cell? p = some v) (h1 : p.block ≠ gB) (h2 : p.block ≠ gL) : w'.cell? p = some v := by
  have h := hf.block p.block (block_lt_of_cell hc) h1 h2
  rw [← hc]
  unfold World.cell?
  rw [h]
def farA (A : Option Addr) (gB gL : Nat) : Prop := ∀ ad, A = some ad → ad.block ≠ gB ∧ ad.block ≠ gL
theorem Arr.fr {A : Option Addr} {cs : List Value} (h : Arr w A cs) (hf : Fr gB gL w w') (ha : farA A gB gL) : Arr w' A cs := fun hn => by
  obtain ⟨ad, e, hb, hc⟩ := h hn
  have h1 := ha ad e
  refine ⟨ad, e, Nat.lt_of_lt_of_le hb hf.size, fun j u hj => hf.cell (hc j u hj) ?_ ?_⟩
  · rw [block_of_add]; exact h1.1
  · rw [block_of_add]; exact h1.2
theorem Fr.set_ (g j : Nat) (hg : g = gB ∨ g = gL) (v : Value) : Fr gB gL w (w.setCell ⟨g, j, none⟩ v) :=
  ⟨rfl, rfl, rfl, by simp [World.setCell], fun k hk h1 h2 => by
    have h : k ≠ (⟨g, j, none⟩ : Addr).block := by rcases hg with rfl | rfl <;> assumption
    exact Below.heap_setCell w ⟨g, j, none⟩ v k h⟩
end
/-- the plies' slice: nil, or a row of one's own -/
def plForm (B : Option Addr) (m cc gB gL : Nat) : Prop := (m = 0 ∧ B = none ∧ cc = 0) ∨ ∃ gp, B = some ⟨gp, 0, none⟩ ∧ gp ≠ gB ∧ gp ≠ gL
theorem plForm.far {B : Option Addr} {m cc gB gL : Nat} (h : plForm B m cc gB gL) : farA B gB gL := by
  intro ad e
  rcases h with ⟨_, h, _⟩ | ⟨gp, h, h1, h2⟩
  · rw [h] at e; cases e
  · rw [h] at e; cases e; exact ⟨h1, h2⟩
end Go.Proofs.Ytefkfkdpfecnoaa
