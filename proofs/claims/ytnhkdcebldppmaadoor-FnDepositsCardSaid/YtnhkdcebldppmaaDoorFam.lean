/- What the laws' own helpers do to structs and slices of structs: weights, copies, equality, marks. -/
import Derived.Test.YtnhkdcebldppmaaDoorCore
namespace Go.Proofs.YtnhkdcebldppmaaDoor
open Go.RowKit


structure Item where
  name : ByteArray
  many : Int
  cents : Int
def Item.cells (x : Item) : List Value := [.string x.name, .int .i64 x.many, .int .i64 x.cents]
def Item.val (x : Item) : Value := .agg #[.string x.name, .int .i64 x.many, .int .i64 x.cents]
def Item.sizes (x : Item) : List Nat := [x.name.size]
theorem Item.cells_length (x : Item) : x.cells.length = 3 := rfl
theorem Item.at_ {w : World} {A : Option Addr} {xs : List Item} {k : Nat} {x : Item} (h : Arr w A (flat Item.cells xs)) (hk : xs[k]? = some x) :
    ∃ ad, A = some ad ∧ ad.block < w.heap.size ∧ w.cell? (ad.add (k * 3)) = some (.string x.name) ∧
      w.cell? ⟨(ad.add (k * 3)).block, (ad.add (k * 3)).off + 1, none⟩ = some (.int .i64 x.many) ∧
      w.cell? ⟨(ad.add (k * 3)).block, (ad.add (k * 3)).off + 2, none⟩ = some (.int .i64 x.cents) := by
  obtain ⟨ad, e, hb, h0, hj⟩ := h.elem Item.cells_length hk (by omega)
  exact ⟨ad, e, hb, h0, hj 1 (by omega) (by omega), hj 2 (by omega) (by omega)⟩
def Item.beq (x y : Item) : Bool := decide (x.name = y.name) && decide (x.many = y.many) && decide (x.cents = y.cents)
theorem Item.beq_iff (x y : Item) : x.beq y = true ↔ x = y := by
  cases x; cases y; simp [Item.beq, and_assoc]
theorem Item.beq_self (x : Item) : x.beq x = true := (Item.beq_iff x x).2 rfl

structure Entry where
  day : Int
  what : ByteArray
  value : Int
def Entry.cells (x : Entry) : List Value := [.int .i64 x.day, .string x.what, .int .i64 x.value]
def Entry.val (x : Entry) : Value := .agg #[.int .i64 x.day, .string x.what, .int .i64 x.value]
def Entry.sizes (x : Entry) : List Nat := [x.what.size]
theorem Entry.cells_length (x : Entry) : x.cells.length = 3 := rfl
theorem Entry.at_ {w : World} {A : Option Addr} {xs : List Entry} {k : Nat} {x : Entry} (h : Arr w A (flat Entry.cells xs)) (hk : xs[k]? = some x) :
    ∃ ad, A = some ad ∧ ad.block < w.heap.size ∧ w.cell? (ad.add (k * 3)) = some (.int .i64 x.day) ∧
      w.cell? ⟨(ad.add (k * 3)).block, (ad.add (k * 3)).off + 1, none⟩ = some (.string x.what) ∧
      w.cell? ⟨(ad.add (k * 3)).block, (ad.add (k * 3)).off + 2, none⟩ = some (.int .i64 x.value) := by
  obtain ⟨ad, e, hb, h0, hj⟩ := h.elem Entry.cells_length hk (by omega)
  exact ⟨ad, e, hb, h0, hj 1 (by omega) (by omega), hj 2 (by omega) (by omega)⟩
def Entry.beq (x y : Entry) : Bool := decide (x.day = y.day) && decide (x.what = y.what) && decide (x.value = y.value)
theorem Entry.beq_iff (x y : Entry) : x.beq y = true ↔ x = y := by
  cases x; cases y; simp [Entry.beq, and_assoc]
theorem Entry.beq_self (x : Entry) : x.beq x = true := (Entry.beq_iff x x).2 rfl

end Go.Proofs.YtnhkdcebldppmaaDoor
