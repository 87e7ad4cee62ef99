/- The law on PromiseFor, walked. -/
import Derived.Test.YtilfcjibpohpiaaPromS
import Derived.Test.YtilfcjibpohpiaaOrdLawW
namespace Go.Proofs.Ytilfcjibpohpiaa
open Go.RowKit

set_option maxRecDepth 100000 in
set_option maxHeartbeats 2000000 in
theorem FnExactPromiseFor_law (A : Option Addr) (xs : List Order) (n c : Nat) (day : Int) (days : Int) (hn : Hid (xs.length = n)) (hmax : n ≤ 9223372036854775807) (hs : Hid (∀ x ∈ xs, x.customer.size ≤ 9223372036854775807)) (w : World) (hA : Arr w A (flat Order.cells xs)) :
    Calls Try.prog 9 #[.slice A n c, .int .i64 day, .int .i64 days] w (Ret (.bool true) w) := by
  have hle := szS_le Order.sizes xs 1048576 (by omega)
  have hv := Below.refl w.heap.size w
  go_enter Try.func9, Try.ntmps9
  go_wp2_with fail
  refine (szOrderS_c A xs n c 1048576 hn hmax hs (by omega) (by omega) _ (hA.below hv)).mono ?_
  rintro e W ⟨rfl, hb⟩
  have z0 := Lib.hid hb.size
  replace hv := bl_trans hv hb
  clear hb
  obtain ⟨q, hq'⟩ : ∃ q, q = szS Order.sizes xs 1048576 := ⟨_, rfl⟩
  rw [← hq'] at hle ⊢
  by_cases hq : q < 0
  · clear hq'
    go_wp2_with fail
    go_returns
    exact Ret.mk rfl hv
  have hz : (n : Int) ≤ 1048576 := by rw [← hn.out]; exact szS_len (by rw [← hq']; omega) (by omega)
  clear hq'
  have HW := fun (a : Option Addr) (w : World) (h : Arr w a (flat Order.cells xs)) => SPromiseFor_c a xs n n day days hn hz hs w h
  have HG' := fun (a : Option Addr) (w : World) (h : Arr w a (flat Order.cells xs)) => PromiseFor_c a xs n n day days hn hz hs w h
  obtain ⟨r0, hr0⟩ : ∃ r, r = prV xs day days := ⟨_, rfl⟩
  rw [← hr0] at HW HG'
  clear hr0
  obtain ⟨r1, hr1⟩ : ∃ r, r = prC xs day days := ⟨_, rfl⟩
  rw [← hr1] at HW HG'
  clear hr1
  replace HW := Lib.hid HW
  replace HG' := Lib.hid HG'
  go_wp2_with fail
  refine (toOrderS_c A xs n c hn hz _ (hA.below hv)).mono ?_
  rintro e W ⟨g1, rfl, ha, hb⟩
  obtain ⟨la, ua, h_own, z1, z2⟩ := Own.named ha hb
  replace ha := h_own
  clear h_own
  have z3 := Lib.hid hb.size
  replace hv := bl_trans hv hb
  clear hb
  go_wp2_with fail
  refine (HW.out _ _ ha.arr).mono ?_
  rintro e W ⟨rfl, hb⟩
  have z4 := Lib.hid hb.size
  replace hv := bl_trans hv hb
  replace ha := ha.below hb
  clear hb
  go_wp2_with fail
  refine (toOrderS_c A xs n c hn hz _ (hA.below hv)).mono ?_
  rintro e W ⟨g2, rfl, hox, hb⟩
  obtain ⟨lx, ux, h_own, z5, z6⟩ := Own.named hox hb
  replace hox := h_own
  clear h_own
  have z7 := Lib.hid hb.size
  replace hv := bl_trans hv hb
  replace ha := ha.below hb
  clear hb
  go_wp2_with fail
  refine (HG'.out _ _ hox.arr).mono ?_
  rintro e W ⟨rfl, hb⟩
  have z8 := Lib.hid hb.size
  replace hv := bl_trans hv hb
  replace ha := ha.below hb
  replace hox := hox.below hb
  clear hb
  go_wp2_with fail
  refine (toOrderS_c A xs n c hn hz _ (hA.below hv)).mono ?_
  rintro e W ⟨g3, rfl, hd, hb⟩
  obtain ⟨ld, ud, h_own, z9, z10⟩ := Own.named hd hb
  replace hd := h_own
  clear h_own
  have z11 := Lib.hid hb.size
  replace hv := bl_trans hv hb
  replace ha := ha.below hb
  replace hox := hox.below hb
  clear hb
  go_wp2_with fail
  refine (eqOrderS_same _ _ xs n n n hn hz _ hox.arr hd.arr).mono ?_
  rintro e W ⟨rfl, hb⟩
  have z12 := Lib.hid hb.size
  replace hv := bl_trans hv hb
  replace ha := ha.below hb
  replace hox := hox.below hb
  replace hd := hd.below hb
  clear hb
  go_wp2_with fail
  go_returns
  exact Ret.mk rfl hv

end Go.Proofs.Ytilfcjibpohpiaa
