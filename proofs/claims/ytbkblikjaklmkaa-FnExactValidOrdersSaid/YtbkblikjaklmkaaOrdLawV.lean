/- The law on valid orders, walked. -/
import Derived.Test.YtbkblikjaklmkaaOrdB
namespace Go.Proofs.Ytbkblikjaklmkaa
open Go.RowKit

theorem SValidOrders_c (A : Option Addr) (xs : List Order) (n c : Nat) (hn : Hid (xs.length = n)) (hm : (n : Int) ≤ 1048576) (hs : Hid (∀ x ∈ xs, x.customer.size ≤ 9223372036854775807)) (w : World) (hA : Arr w A (flat Order.cells xs)) :
    Calls Try.prog 19 #[.slice A n c] w (Ret (.bool (ordsB xs)) w) := by
  go_enter Try.func19, Try.ntmps19
  go_wp2_with fail
  refine (l25Ok_c A xs n c hn hm hs _ hA).mono ?_
  rintro e w1 ⟨rfl, hb1⟩
  go_wp2_with fail
  go_returns
  exact Ret.mk rfl hb1
set_option maxRecDepth 100000 in
set_option maxHeartbeats 2000000 in
theorem FnExactValidOrders_law (A : Option Addr) (xs : List Order) (n c : Nat) (hn : Hid (xs.length = n)) (hmax : n ≤ 9223372036854775807) (hs : Hid (∀ x ∈ xs, x.customer.size ≤ 9223372036854775807)) (w : World) (hA : Arr w A (flat Order.cells xs)) :
    Calls Try.prog 4 #[.slice A n c] w (Ret (.bool true) w) := by
  have hself : listBeq Order.beq xs xs = true := (listBeq_iff Order.beq_iff xs xs).2 rfl
  have hle := szS_le Order.sizes xs 1048576 (by omega)
  have hv := Below.refl w.heap.size w
  obtain ⟨r, hr⟩ : ∃ r, r = ordsB xs := ⟨_, rfl⟩
  have hrr : (r != r) = false := by simp
  go_enter Try.func4, Try.ntmps4
  go_wp2_with fail
  refine (szOrderS_c A xs n c 1048576 hn hmax hs (by omega) (by omega) _ (hA.below hv)).mono ?_
  rintro e W ⟨rfl, hb⟩
  have z0 := Lib.hid hb.size
  replace hv := bl_trans hv hb
  clear hb
  obtain ⟨q, hq'⟩ : ∃ q, q = szS Order.sizes xs 1048576 := ⟨_, rfl⟩
  rw [← hq'] at hle ⊢
  by_cases hq : q < 0
  · clear hq'
    go_wp2_with fail
    go_returns
    exact Ret.mk rfl hv
  have hz : (n : Int) ≤ 1048576 := by rw [← hn.out]; exact szS_len (by rw [← hq']; omega) (by omega)
  clear hq'
  have HS0 := fun (a : Option Addr) (w : World) (h : Arr w a (flat Order.cells xs)) => SValidOrders_c a xs n n hn hz hs w h
  have HI0 := fun (a : Option Addr) (w : World) (h : Arr w a (flat Order.cells xs)) => ValidOrders_c a xs n n hn hz hs w h
  rw [← hr] at HS0 HI0
  clear hr
  replace HS0 := Lib.hid HS0
  replace HI0 := Lib.hid HI0
  go_wp2_with fail
  refine (toOrderS_c A xs n c hn hz _ (hA.below hv)).mono ?_
  rintro e W ⟨g1, rfl, ha, hb⟩
  obtain ⟨la, ua, h_own, z1, z2⟩ := Own.named ha hb
  replace ha := h_own
  clear h_own
  have z3 := Lib.hid hb.size
  replace hv := bl_trans hv hb
  clear hb
  go_wp2_with fail
  refine (HS0.out _ _ ha.arr).mono ?_
  rintro e W ⟨rfl, hb⟩
  have z4 := Lib.hid hb.size
  replace hv := bl_trans hv hb
  replace ha := ha.below hb
  clear hb
  go_wp2_with fail
  refine (toOrderS_c A xs n c hn hz _ (hA.below hv)).mono ?_
  rintro e W ⟨g3, rfl, hx, hb⟩
  obtain ⟨lx, ux, h_own, z5, z6⟩ := Own.named hx hb
  replace hx := h_own
  clear h_own
  have z7 := Lib.hid hb.size
  replace hv := bl_trans hv hb
  replace ha := ha.below hb
  clear hb
  go_wp2_with fail
  refine (HI0.out _ _ hx.arr).mono ?_
  rintro e W ⟨rfl, hb⟩
  have z8 := Lib.hid hb.size
  replace hv := bl_trans hv hb
  replace ha := ha.below hb
  replace hx := hx.below hb
  clear hb
  go_wp2_with fail
  refine (toOrderS_c A xs n c hn hz _ (hA.below hv)).mono ?_
  rintro e W ⟨g5, rfl, hc, hb⟩
  obtain ⟨lc, uc, h_own, z9, z10⟩ := Own.named hc hb
  replace hc := h_own
  clear h_own
  have z11 := Lib.hid hb.size
  replace hv := bl_trans hv hb
  replace ha := ha.below hb
  replace hx := hx.below hb
  clear hb
  go_wp2_with fail
  refine (eqOrderS_c _ _ xs xs n n n n hn hn hz _ hx.arr hc.arr).mono ?_
  rintro e W ⟨rfl, hb⟩
  have z12 := Lib.hid hb.size
  replace hv := bl_trans hv hb
  replace ha := ha.below hb
  replace hx := hx.below hb
  replace hc := hc.below hb
  clear hb
  go_wp2_with fail
  go_returns
  exact Ret.mk rfl hv

end Go.Proofs.Ytbkblikjaklmkaa
