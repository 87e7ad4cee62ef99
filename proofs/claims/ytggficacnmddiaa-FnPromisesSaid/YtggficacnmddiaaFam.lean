/- What the laws' own helpers do to structs and slices of structs: weights, copies, equality, marks. -/
import Derived.Test.YtggficacnmddiaaCore
namespace Go.Proofs.Ytggficacnmddiaa
open Go.RowKit


structure Order where
  id : Int
  customer : ByteArray
  stage : Int
  due : Int
  left : Int
  fittings : Int
def Order.cells (x : Order) : List Value := [.int .i64 x.id, .string x.customer, .int .i64 x.stage, .int .i64 x.due, .int .i64 x.left, .int .i64 x.fittings]
def Order.val (x : Order) : Value := .agg #[.int .i64 x.id, .string x.customer, .int .i64 x.stage, .int .i64 x.due, .int .i64 x.left, .int .i64 x.fittings]
def Order.sizes (x : Order) : List Nat := [x.customer.size]
theorem Order.cells_length (x : Order) : x.cells.length = 6 := rfl
theorem Order.at_ {w : World} {A : Option Addr} {xs : List Order} {k : Nat} {x : Order} (h : Arr w A (flat Order.cells xs)) (hk : xs[k]? = some x) :
    ∃ ad, A = some ad ∧ ad.block < w.heap.size ∧ w.cell? (ad.add (k * 6)) = some (.int .i64 x.id) ∧
      w.cell? ⟨(ad.add (k * 6)).block, (ad.add (k * 6)).off + 1, none⟩ = some (.string x.customer) ∧
      w.cell? ⟨(ad.add (k * 6)).block, (ad.add (k * 6)).off + 2, none⟩ = some (.int .i64 x.stage) ∧
      w.cell? ⟨(ad.add (k * 6)).block, (ad.add (k * 6)).off + 3, none⟩ = some (.int .i64 x.due) ∧
      w.cell? ⟨(ad.add (k * 6)).block, (ad.add (k * 6)).off + 4, none⟩ = some (.int .i64 x.left) ∧
      w.cell? ⟨(ad.add (k * 6)).block, (ad.add (k * 6)).off + 5, none⟩ = some (.int .i64 x.fittings) := by
  obtain ⟨ad, e, hb, h0, hj⟩ := h.elem Order.cells_length hk (by omega)
  exact ⟨ad, e, hb, h0, hj 1 (by omega) (by omega), hj 2 (by omega) (by omega), hj 3 (by omega) (by omega), hj 4 (by omega) (by omega), hj 5 (by omega) (by omega)⟩
def Order.beq (x y : Order) : Bool := decide (x.id = y.id) && decide (x.customer = y.customer) && decide (x.stage = y.stage) && decide (x.due = y.due) && decide (x.left = y.left) && decide (x.fittings = y.fittings)
theorem Order.beq_iff (x y : Order) : x.beq y = true ↔ x = y := by
  cases x; cases y; simp [Order.beq, and_assoc]
theorem Order.beq_self (x : Order) : x.beq x = true := (Order.beq_iff x x).2 rfl

set_option maxRecDepth 100000 in
set_option maxHeartbeats 800000 in
theorem f6ints_c (A B : Option Addr) (xs ys : List Int) (n m c d : Nat) (hn : Hid (xs.length = n)) (hm : Hid (ys.length = m)) (hz : (n : Int) ≤ 9223372036854775807) (w : World) (hA : Arr w A (flat icell xs)) (hB : Arr w B (flat icell ys)) :
    Calls Try.prog 15 #[.slice A n c, .slice B m d] w (Ret (.bool (decide (xs = ys))) w) := by
  by_cases hnm : n = m
  case neg =>
    have hne : ((n : Int) != (m : Int)) = true := by rw [bne_iff_ne]; omega
    go_enter Try.func15, Try.ntmps15
    go_wp2
    go_returns
    refine Ret.mk (vb ?_) (by go_grown)
    symm
    rw [decide_eq_false_iff_not]
    intro e
    subst e
    have h1 := hn.out
    have h2 := hm.out
    omega
  subst hnm
  have hne : ((n : Int) != (n : Int)) = false := by simp
  go_enter Try.func15, Try.ntmps15
  go_wp2_with fail
  have hR := Lib.hid (show decide (xs = ys) = decide (xs.drop 0 = ys.drop 0) from rfl)
  go_loopw [5] (fun i wr => ∃ k : Nat, k ≤ n ∧ i = .int .i64 k ∧ Hid (decide (xs = ys) = decide (xs.drop k = ys.drop k)) ∧ Below w.heap.size w wr) (fun i _ => n - (intOf i).toNat)
  case atStart => exact ⟨0, by omega, rfl, hR, Below.refl _ _⟩
  case round =>
    clear hR
    obtain ⟨k, hk, rfl, hR, hbel⟩ := hrel
    by_cases hlt : k < n
    · obtain ⟨x, hx⟩ := get_of_lt (xs := xs) (k := k) (by rw [hn.out]; exact hlt)
      obtain ⟨y, hy⟩ := get_of_lt (xs := ys) (k := k) (by rw [hm.out]; exact hlt)
      obtain ⟨ad, rfl, hab, c0⟩ := icell_at (hA.below hbel) hx
      obtain ⟨bd, rfl, hbb, d0⟩ := icell_at (hB.below hbel) hy
      have hR2 := Lib.hid (hR.out.trans (by rw [drop_at hx, drop_at hy] : _ = decide (x :: xs.drop (k + 1) = y :: ys.drop (k + 1))))
      clear hR hx hy
      by_cases hq : x = y
      · subst hq
        have hne2 : (x != x) = false := by simp
        go_wp2_with fail
        go_quiet (fail)
        go_wp2_with fail
        go_roundw
        case rel => exact ⟨k + 1, by omega, by go_num, Lib.hid (hR2.out.trans (by simp)), below_drewN hbel _⟩
        case measure => simp [intOf]; omega
      · have hne2 : (x != y) = true := by rw [bne_iff_ne]; exact hq
        go_wp2_with fail
        go_quiet (fail)
        go_wp2_with fail
        go_returns
        refine Ret.mk (vb ?_) (below_drewN hbel _)
        rw [hR2.out]
        simp [hq]
    · have hR2 := Lib.hid (hR.out.trans (by rw [List.drop_eq_nil_of_le (by rw [hn.out]; omega), List.drop_eq_nil_of_le (by rw [hm.out]; omega)]; simp : _ = true))
      clear hR
      go_wp2_with fail
      go_returns
      refine Ret.mk (vb ?_) hbel
      rw [hR2.out]

end Go.Proofs.Ytggficacnmddiaa
