/- What the laws' own helpers do to structs and slices of structs: weights, copies, equality, marks. -/
import Derived.Test.YtiplnpbeoaefaaaDoorCore
namespace Go.Proofs.YtiplnpbeoaefaaaDoor
open Go.RowKit


structure Entry where
  day : Int
  what : ByteArray
  value : Int
def Entry.cells (x : Entry) : List Value := [.int .i64 x.day, .string x.what, .int .i64 x.value]
def Entry.val (x : Entry) : Value := .agg #[.int .i64 x.day, .string x.what, .int .i64 x.value]
def Entry.sizes (x : Entry) : List Nat := [x.what.size]
theorem Entry.cells_length (x : Entry) : x.cells.length = 3 := rfl
theorem Entry.at_ {w : World} {A : Option Addr} {xs : List Entry} {k : Nat} {x : Entry} (h : Arr w A (flat Entry.cells xs)) (hk : xs[k]? = some x) :
    ∃ ad, A = some ad ∧ ad.block < w.heap.size ∧ w.cell? (ad.add (k * 3)) = some (.int .i64 x.day) ∧
      w.cell? ⟨(ad.add (k * 3)).block, (ad.add (k * 3)).off + 1, none⟩ = some (.string x.what) ∧
      w.cell? ⟨(ad.add (k * 3)).block, (ad.add (k * 3)).off + 2, none⟩ = some (.int .i64 x.value) := by
  obtain ⟨ad, e, hb, h0, hj⟩ := h.elem Entry.cells_length hk (by omega)
  exact ⟨ad, e, hb, h0, hj 1 (by omega) (by omega), hj 2 (by omega) (by omega)⟩
def Entry.beq (x y : Entry) : Bool := decide (x.day = y.day) && decide (x.what = y.what) && decide (x.value = y.value)
theorem Entry.beq_iff (x y : Entry) : x.beq y = true ↔ x = y := by
  cases x; cases y; simp [Entry.beq, and_assoc]
theorem Entry.beq_self (x : Entry) : x.beq x = true := (Entry.beq_iff x x).2 rfl

set_option maxHeartbeats 400000 in
theorem szEntry_c (x : Entry) (left : Int) (hs0 : x.what.size ≤ 9223372036854775807) (h0 : 0 ≤ left) (h1 : left ≤ 1048576) (w : World) :
    Calls Tryd.prog 10 #[.agg #[.int .i64 x.day, .string x.what, .int .i64 x.value], .int .i64 left] w (Ret (.int .i64 (szGo x.sizes left)) w) := by
  go_enter Tryd.func10, Tryd.ntmps10
  go_wp2
  · go_returns
    refine Ret.mk (vi ?_) (by go_grown)
    simp only [Entry.sizes, szGo]
    rw [if_pos (by omega)]
  · go_returns
    refine Ret.mk (vi ?_) (by go_grown)
    simp only [Entry.sizes, szGo]
    rw [if_neg (by omega)]

set_option maxHeartbeats 400000 in
theorem toEntry_c (x : Entry) (w : World) :
    Calls Tryd.prog 12 #[.agg #[.int .i64 x.day, .string x.what, .int .i64 x.value]] w (Ret (.agg #[.int .i64 x.day, .string x.what, .int .i64 x.value]) w) := by
  go_enter Tryd.func12, Tryd.ntmps12
  go_wp2
  go_returns
  exact Ret.mk rfl (by go_grown)

end Go.Proofs.YtiplnpbeoaefaaaDoor
