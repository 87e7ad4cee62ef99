
/- SameOrders: the program's and the reference's; the law walked. -/
import Derived.Test.YtapnllbbdfoaaaaGreatDoorNeq
import Derived.Test.YtapnllbbdfoaaaaGreatDoorMCore
namespace Go.Proofs.YtapnllbbdfoaaaaGreatDoor
open Go.RowKit

theorem SameOrders_c (A B : Option Addr) (xs ys : List Order) (n m c d : Nat) (hn : Hid (xs.length = n)) (hm : Hid (ys.length = m)) (hz : (n : Int) ≤ 1048576) (w : World) (hA : Arr w A (flat Order.cells xs)) (hB : Arr w B (flat Order.cells ys)) :
    Calls Tryz.prog 26 #[.slice A n c, .slice B m d] w (Ret (.bool (listBeq Order.beq xs ys)) w) := by
  go_enter Tryz.func26, Tryz.ntmps26
  go_wp2_with fail
  refine (equalSlOrder_c A B xs ys n m c d hn hm hz _ hA hB).mono ?_
  rintro e w1 ⟨rfl, hb1⟩
  go_wp2_with fail
  go_returns
  exact Ret.mk rfl hb1
set_option maxRecDepth 100000 in
set_option maxHeartbeats 1600000 in
theorem SSameOrders_c (A B : Option Addr) (xs ys : List Order) (n m c d : Nat) (hn : Hid (xs.length = n)) (hm : Hid (ys.length = m)) (hz : (n : Int) ≤ 1048576) (w : World) (hA : Arr w A (flat Order.cells xs)) (hB : Arr w B (flat Order.cells ys)) :
    Calls Tryz.prog 24 #[.slice A n c, .slice B m d] w (Ret (.bool (listBeq Order.beq xs ys)) w) := by
  by_cases hnm : n = m
  case neg =>
    have hne : ((n : Int) != (m : Int)) = true := by rw [bne_iff_ne]; omega
    go_enter Tryz.func24, Tryz.ntmps24
    go_wp2_with fail
    go_returns
    refine Ret.mk (vb ?_) (by go_grown)
    rw [listBeq_len _ _ _ (by rw [hn.out, hm.out]; exact hnm)]
  subst hnm
  have hne : ((n : Int) != (n : Int)) = false := by simp
  go_enter Tryz.func24, Tryz.ntmps24
  go_wp2_with fail
  have hR := Lib.hid (show listBeq Order.beq xs ys = listBeq Order.beq (xs.drop 0) (ys.drop 0) from rfl)
  go_loopw [5] (fun i wr => ∃ k : Nat, k ≤ n ∧ i = .int .i64 k ∧ Hid (listBeq Order.beq xs ys = listBeq Order.beq (xs.drop k) (ys.drop k)) ∧ Below w.heap.size w wr) (fun i _ => n - (intOf i).toNat)
  case atStart => exact ⟨0, by omega, rfl, hR, Below.refl _ _⟩
  case round =>
    clear hR
    obtain ⟨k, hk, rfl, hR, hbel⟩ := hrel
    by_cases hlt : k < n
    · obtain ⟨x, hx⟩ := get_of_lt (xs := xs) (k := k) (by rw [hn.out]; exact hlt)
      obtain ⟨y, hy⟩ := get_of_lt (xs := ys) (k := k) (by rw [hm.out]; exact hlt)
      obtain ⟨ad, rfl, hab, c0, c1, c2, c3, c4, c5⟩ := Order.at_ (hA.below hbel) hx
      obtain ⟨bd, rfl, hbb, d0, d1, d2, d3, d4, d5⟩ := Order.at_ (hB.below hbel) hy
      have hR2 := Lib.hid (hR.out.trans (by rw [drop_at hx, drop_at hy]; rfl : _ = (x.beq y && listBeq Order.beq (xs.drop (k + 1)) (ys.drop (k + 1)))))
      clear hR hx hy
      have hq := Order.run_neq x y
      cases hxy : x.beq y
      · have HQ := Lib.hid hxy
        rw [hxy] at hq
        clear hxy
        go_wp2_with fail
        go_quiet (fail)
        go_wp2_with fail
        go_returns
        refine Ret.mk (vb ?_) (below_drewN hbel _)
        rw [hR2.out, HQ.out]; rfl
      · have HQ := Lib.hid hxy
        rw [hxy] at hq
        clear hxy
        go_wp2_with fail
        go_quiet (fail)
        go_wp2_with fail
        go_roundw
        case rel => exact ⟨k + 1, by omega, by go_num, Lib.hid (hR2.out.trans (by rw [HQ.out]; rfl)), below_drewN hbel _⟩
        case measure => simp [intOf]; omega
    · have hR2 := Lib.hid (hR.out.trans (by rw [List.drop_eq_nil_of_le (by rw [hn.out]; omega), List.drop_eq_nil_of_le (by rw [hm.out]; omega)]; rfl : _ = true))
      clear hR
      go_wp2_with fail
      go_returns
      refine Ret.mk (vb ?_) hbel
      rw [hR2.out]

end Go.Proofs.YtapnllbbdfoaaaaGreatDoor
