/- What the laws' own helpers do to structs and slices of structs: weights, copies, equality, marks. -/
import Derived.Test.YtihgjmhhpiobbaaDoorCore
namespace Go.Proofs.YtihgjmhhpiobbaaDoor
open Go.RowKit


structure Style where
  upper : ByteArray
  color : ByteArray
  lining : ByteArray
  sole : ByteArray
  thick : Int
  heel : Int
  eyelets : Int
  density : Int
  double : Bool
def Style.cells (x : Style) : List Value := [.string x.upper, .string x.color, .string x.lining, .string x.sole, .int .i64 x.thick, .int .i64 x.heel, .int .i64 x.eyelets, .int .i64 x.density, .bool x.double]
def Style.val (x : Style) : Value := .agg #[.string x.upper, .string x.color, .string x.lining, .string x.sole, .int .i64 x.thick, .int .i64 x.heel, .int .i64 x.eyelets, .int .i64 x.density, .bool x.double]
def Style.sizes (x : Style) : List Nat := [x.upper.size, x.color.size, x.lining.size, x.sole.size]
theorem Style.cells_length (x : Style) : x.cells.length = 9 := rfl
theorem Style.at_ {w : World} {A : Option Addr} {xs : List Style} {k : Nat} {x : Style} (h : Arr w A (flat Style.cells xs)) (hk : xs[k]? = some x) :
    ∃ ad, A = some ad ∧ ad.block < w.heap.size ∧ w.cell? (ad.add (k * 9)) = some (.string x.upper) ∧
      w.cell? ⟨(ad.add (k * 9)).block, (ad.add (k * 9)).off + 1, none⟩ = some (.string x.color) ∧
      w.cell? ⟨(ad.add (k * 9)).block, (ad.add (k * 9)).off + 2, none⟩ = some (.string x.lining) ∧
      w.cell? ⟨(ad.add (k * 9)).block, (ad.add (k * 9)).off + 3, none⟩ = some (.string x.sole) ∧
      w.cell? ⟨(ad.add (k * 9)).block, (ad.add (k * 9)).off + 4, none⟩ = some (.int .i64 x.thick) ∧
      w.cell? ⟨(ad.add (k * 9)).block, (ad.add (k * 9)).off + 5, none⟩ = some (.int .i64 x.heel) ∧
      w.cell? ⟨(ad.add (k * 9)).block, (ad.add (k * 9)).off + 6, none⟩ = some (.int .i64 x.eyelets) ∧
      w.cell? ⟨(ad.add (k * 9)).block, (ad.add (k * 9)).off + 7, none⟩ = some (.int .i64 x.density) ∧
      w.cell? ⟨(ad.add (k * 9)).block, (ad.add (k * 9)).off + 8, none⟩ = some (.bool x.double) := by
  obtain ⟨ad, e, hb, h0, hj⟩ := h.elem Style.cells_length hk (by omega)
  exact ⟨ad, e, hb, h0, hj 1 (by omega) (by omega), hj 2 (by omega) (by omega), hj 3 (by omega) (by omega), hj 4 (by omega) (by omega), hj 5 (by omega) (by omega), hj 6 (by omega) (by omega), hj 7 (by omega) (by omega), hj 8 (by omega) (by omega)⟩
def Style.beq (x y : Style) : Bool := decide (x.upper = y.upper) && decide (x.color = y.color) && decide (x.lining = y.lining) && decide (x.sole = y.sole) && decide (x.thick = y.thick) && decide (x.heel = y.heel) && decide (x.eyelets = y.eyelets) && decide (x.density = y.density) && decide (x.double = y.double)
theorem Style.beq_iff (x y : Style) : x.beq y = true ↔ x = y := by
  cases x; cases y; simp [Style.beq, and_assoc]
theorem Style.beq_self (x : Style) : x.beq x = true := (Style.beq_iff x x).2 rfl

set_option maxHeartbeats 400000 in
theorem szStyle_c (x : Style) (left : Int) (hs0 : x.upper.size ≤ 9223372036854775807) (hs1 : x.color.size ≤ 9223372036854775807) (hs2 : x.lining.size ≤ 9223372036854775807) (hs3 : x.sole.size ≤ 9223372036854775807) (h0 : 0 ≤ left) (h1 : left ≤ 1048576) (w : World) :
    Calls Tryd.prog 5 #[.agg #[.string x.upper, .string x.color, .string x.lining, .string x.sole, .int .i64 x.thick, .int .i64 x.heel, .int .i64 x.eyelets, .int .i64 x.density, .bool x.double], .int .i64 left] w (Ret (.int .i64 (szGo x.sizes left)) w) := by
  go_enter Tryd.func5, Tryd.ntmps5
  go_wp2
  · go_returns
    refine Ret.mk (vi ?_) (by go_grown)
    simp only [Style.sizes, szGo]
    rw [if_pos (by omega)]
  · go_returns
    refine Ret.mk (vi ?_) (by go_grown)
    simp only [Style.sizes, szGo]
    rw [if_neg (by omega), if_pos (by omega)]
  · go_returns
    refine Ret.mk (vi ?_) (by go_grown)
    simp only [Style.sizes, szGo]
    rw [if_neg (by omega), if_neg (by omega), if_pos (by omega)]
  · go_returns
    refine Ret.mk (vi ?_) (by go_grown)
    simp only [Style.sizes, szGo]
    rw [if_neg (by omega), if_neg (by omega), if_neg (by omega), if_pos (by omega)]
  · go_returns
    refine Ret.mk (vi ?_) (by go_grown)
    simp only [Style.sizes, szGo]
    rw [if_neg (by omega), if_neg (by omega), if_neg (by omega), if_neg (by omega)]

set_option maxHeartbeats 400000 in
theorem toStyle_c (x : Style) (w : World) :
    Calls Tryd.prog 7 #[.agg #[.string x.upper, .string x.color, .string x.lining, .string x.sole, .int .i64 x.thick, .int .i64 x.heel, .int .i64 x.eyelets, .int .i64 x.density, .bool x.double]] w (Ret (.agg #[.string x.upper, .string x.color, .string x.lining, .string x.sole, .int .i64 x.thick, .int .i64 x.heel, .int .i64 x.eyelets, .int .i64 x.density, .bool x.double]) w) := by
  go_enter Tryd.func7, Tryd.ntmps7
  go_wp2
  go_returns
  exact Ret.mk rfl (by go_grown)

set_option maxHeartbeats 400000 in
theorem eqStyle_c (x y : Style) (w : World) :
    Calls Tryd.prog 9 #[.agg #[.string x.upper, .string x.color, .string x.lining, .string x.sole, .int .i64 x.thick, .int .i64 x.heel, .int .i64 x.eyelets, .int .i64 x.density, .bool x.double], .agg #[.string y.upper, .string y.color, .string y.lining, .string y.sole, .int .i64 y.thick, .int .i64 y.heel, .int .i64 y.eyelets, .int .i64 y.density, .bool y.double]] w (Ret (.bool (x.beq y)) w) := by
  go_enter Tryd.func9, Tryd.ntmps9
  go_wp2
  all_goals
    go_returns
    refine Ret.mk (vb ?_) (by go_grown)
    simp_all [Style.beq, bytes_eq_iff]

end Go.Proofs.YtihgjmhhpiobbaaDoor
