/- SameOrders: the program's and the reference's; the law walked. -/
import Derived.Test.YtbkblikjaklmkaaNeq
import Derived.Test.YtbkblikjaklmkaaOwn
namespace Go.Proofs.Ytbkblikjaklmkaa
open Go.RowKit

theorem SameOrders_c (A B : Option Addr) (xs ys : List Order) (n m c d : Nat) (hn : Hid (xs.length = n)) (hm : Hid (ys.length = m)) (hz : (n : Int) ≤ 1048576) (w : World) (hA : Arr w A (flat Order.cells xs)) (hB : Arr w B (flat Order.cells ys)) :
    Calls Try.prog 17 #[.slice A n c, .slice B m d] w (Ret (.bool (listBeq Order.beq xs ys)) w) := by
  go_enter Try.func17, Try.ntmps17
  go_wp2_with fail
  refine (equalSlOrder_c A B xs ys n m c d hn hm hz _ hA hB).mono ?_
  rintro e w1 ⟨rfl, hb1⟩
  go_wp2_with fail
  go_returns
  exact Ret.mk rfl hb1
set_option maxRecDepth 100000 in
set_option maxHeartbeats 1600000 in
theorem SSameOrders_c (A B : Option Addr) (xs ys : List Order) (n m c d : Nat) (hn : Hid (xs.length = n)) (hm : Hid (ys.length = m)) (hz : (n : Int) ≤ 1048576) (w : World) (hA : Arr w A (flat Order.cells xs)) (hB : Arr w B (flat Order.cells ys)) :
    Calls Try.prog 15 #[.slice A n c, .slice B m d] w (Ret (.bool (listBeq Order.beq xs ys)) w) := by
  by_cases hnm : n = m
  case neg =>
    have hne : ((n : Int) != (m : Int)) = true := by rw [bne_iff_ne]; omega
    go_enter Try.func15, Try.ntmps15
    go_wp2_with fail
    go_returns
    refine Ret.mk (vb ?_) (by go_grown)
    rw [listBeq_len _ _ _ (by rw [hn.out, hm.out]; exact hnm)]
  subst hnm
  have hne : ((n : Int) != (n : Int)) = false := by simp
  go_enter Try.func15, Try.ntmps15
  go_wp2_with fail
  have hR := Lib.hid (show listBeq Order.beq xs ys = listBeq Order.beq (xs.drop 0) (ys.drop 0) from rfl)
  go_loopw [5] (fun i wr => ∃ k : Nat, k ≤ n ∧ i = .int .i64 k ∧ Hid (listBeq Order.beq xs ys = listBeq Order.beq (xs.drop k) (ys.drop k)) ∧ Below w.heap.size w wr) (fun i _ => n - (intOf i).toNat)
  case atStart => exact ⟨0, by omega, rfl, hR, Below.refl _ _⟩
  case round =>
    clear hR
    obtain ⟨k, hk, rfl, hR, hbel⟩ := hrel
    by_cases hlt : k < n
    · obtain ⟨x, hx⟩ := get_of_lt (xs := xs) (k := k) (by rw [hn.out]; exact hlt)
      obtain ⟨y, hy⟩ := get_of_lt (xs := ys) (k := k) (by rw [hm.out]; exact hlt)
      obtain ⟨ad, rfl, hab, c0, c1, c2, c3, c4, c5⟩ := Order.at_ (hA.below hbel) hx
      obtain ⟨bd, rfl, hbb, d0, d1, d2, d3, d4, d5⟩ := Order.at_ (hB.below hbel) hy
      have hR2 := Lib.hid (hR.out.trans (by rw [drop_at hx, drop_at hy]; rfl : _ = (x.beq y && listBeq Order.beq (xs.drop (k + 1)) (ys.drop (k + 1)))))
      clear hR hx hy
      have hq := Order.run_neq x y
      cases hxy : x.beq y
      · have HQ := Lib.hid hxy
        rw [hxy] at hq
        clear hxy
        go_wp2_with fail
        go_quiet (fail)
        go_wp2_with fail
        go_returns
        refine Ret.mk (vb ?_) (below_drewN hbel _)
        rw [hR2.out, HQ.out]; rfl
      · have HQ := Lib.hid hxy
        rw [hxy] at hq
        clear hxy
        go_wp2_with fail
        go_quiet (fail)
        go_wp2_with fail
        go_roundw
        case rel => exact ⟨k + 1, by omega, by go_num, Lib.hid (hR2.out.trans (by rw [HQ.out]; rfl)), below_drewN hbel _⟩
        case measure => simp [intOf]; omega
    · have hR2 := Lib.hid (hR.out.trans (by rw [List.drop_eq_nil_of_le (by rw [hn.out]; omega), List.drop_eq_nil_of_le (by rw [hm.out]; omega)]; rfl : _ = true))
      clear hR
      go_wp2_with fail
      go_returns
      refine Ret.mk (vb ?_) hbel
      rw [hR2.out]

set_option maxRecDepth 100000 in
set_option maxHeartbeats 2000000 in
theorem FnExactSameOrders_law (A B : Option Addr) (xs ys : List Order) (n m c d : Nat) (hn : Hid (xs.length = n)) (hm : Hid (ys.length = m)) (hmax : n ≤ 9223372036854775807) (hmax' : m ≤ 9223372036854775807) (hs : Hid (∀ x ∈ xs, x.customer.size ≤ 9223372036854775807)) (hs' : Hid (∀ x ∈ ys, x.customer.size ≤ 9223372036854775807)) (w : World) (hA : Arr w A (flat Order.cells xs)) (hB : Arr w B (flat Order.cells ys)) :
    Calls Try.prog 3 #[.slice A n c, .slice B m d] w (Ret (.bool true) w) := by
  have hself : listBeq Order.beq xs xs = true := (listBeq_iff Order.beq_iff xs xs).2 rfl
  have hself' : listBeq Order.beq ys ys = true := (listBeq_iff Order.beq_iff ys ys).2 rfl
  have hle := szS_le Order.sizes xs 1048576 (by omega)
  have hv := Below.refl w.heap.size w
  go_enter Try.func3, Try.ntmps3
  go_wp2_with fail
  refine (szOrderS_c A xs n c 1048576 hn hmax hs (by omega) (by omega) _ (hA.below hv)).mono ?_
  rintro e W ⟨rfl, hb⟩
  have z0 := Lib.hid hb.size
  replace hv := bl_trans hv hb
  clear hb
  obtain ⟨q, hq'⟩ : ∃ q, q = szS Order.sizes xs 1048576 := ⟨_, rfl⟩
  rw [← hq'] at hle ⊢
  by_cases hq : q < 0
  · clear hq'
    go_wp2_with fail
    go_returns
    exact Ret.mk rfl hv
  have hz : (n : Int) ≤ 1048576 := by rw [← hn.out]; exact szS_len (by rw [← hq']; omega) (by omega)
  clear hq'
  have hle2 := szS_le Order.sizes ys q (by omega)
  go_wp2_with fail
  refine (szOrderS_c B ys m d q hm hmax' hs' (by omega) (by omega) _ (hB.below hv)).mono ?_
  rintro e W ⟨rfl, hb⟩
  have z1 := Lib.hid hb.size
  replace hv := bl_trans hv hb
  clear hb
  obtain ⟨q2, hq2'⟩ : ∃ q2, q2 = szS Order.sizes ys q := ⟨_, rfl⟩
  rw [← hq2'] at hle2 ⊢
  by_cases hq2 : q2 < 0
  · clear hq2'
    go_wp2_with fail
    go_returns
    exact Ret.mk rfl hv
  have hz' : (m : Int) ≤ 1048576 := by rw [← hm.out]; exact szS_len (by rw [← hq2']; omega) (by omega)
  clear hq2'
  obtain ⟨r, hr⟩ : ∃ r, r = listBeq Order.beq xs ys := ⟨_, rfl⟩
  have HS0 := fun (a b : Option Addr) (w : World) (h : Arr w a (flat Order.cells xs)) (h' : Arr w b (flat Order.cells ys)) => SSameOrders_c a b xs ys n m n m hn hm hz w h h'
  have HI0 := fun (a b : Option Addr) (w : World) (h : Arr w a (flat Order.cells xs)) (h' : Arr w b (flat Order.cells ys)) => SameOrders_c a b xs ys n m n m hn hm hz w h h'
  rw [← hr] at HS0 HI0
  have hrr : (r != r) = false := by simp
  clear hr
  replace HS0 := Lib.hid HS0
  replace HI0 := Lib.hid HI0
  go_wp2_with fail
  refine (toOrderS_c A xs n c hn hz _ (hA.below hv)).mono ?_
  rintro e W ⟨g1, rfl, ha, hb⟩
  obtain ⟨la, ua, h_own, z2, z3⟩ := Own.named ha hb
  replace ha := h_own
  clear h_own
  have z4 := Lib.hid hb.size
  replace hv := bl_trans hv hb
  clear hb
  go_wp2_with fail
  refine (toOrderS_c B ys m d hm hz' _ (hB.below hv)).mono ?_
  rintro e W ⟨g2, rfl, hb1, hb⟩
  obtain ⟨lb, ub, h_own, z5, z6⟩ := Own.named hb1 hb
  replace hb1 := h_own
  clear h_own
  have z7 := Lib.hid hb.size
  replace hv := bl_trans hv hb
  replace ha := ha.below hb
  clear hb
  go_wp2_with fail
  refine (HS0.out _ _ _ ha.arr hb1.arr).mono ?_
  rintro e W ⟨rfl, hb⟩
  have z8 := Lib.hid hb.size
  replace hv := bl_trans hv hb
  replace ha := ha.below hb
  replace hb1 := hb1.below hb
  clear hb
  go_wp2_with fail
  refine (toOrderS_c A xs n c hn hz _ (hA.below hv)).mono ?_
  rintro e W ⟨g3, rfl, hx, hb⟩
  obtain ⟨lx, ux, h_own, z9, z10⟩ := Own.named hx hb
  replace hx := h_own
  clear h_own
  have z11 := Lib.hid hb.size
  replace hv := bl_trans hv hb
  replace ha := ha.below hb
  replace hb1 := hb1.below hb
  clear hb
  go_wp2_with fail
  refine (toOrderS_c B ys m d hm hz' _ (hB.below hv)).mono ?_
  rintro e W ⟨g4, rfl, hy, hb⟩
  obtain ⟨ly, uy, h_own, z12, z13⟩ := Own.named hy hb
  replace hy := h_own
  clear h_own
  have z14 := Lib.hid hb.size
  replace hv := bl_trans hv hb
  replace ha := ha.below hb
  replace hb1 := hb1.below hb
  replace hx := hx.below hb
  clear hb
  go_wp2_with fail
  refine (HI0.out _ _ _ hx.arr hy.arr).mono ?_
  rintro e W ⟨rfl, hb⟩
  have z15 := Lib.hid hb.size
  replace hv := bl_trans hv hb
  replace ha := ha.below hb
  replace hb1 := hb1.below hb
  replace hx := hx.below hb
  replace hy := hy.below hb
  clear hb
  go_wp2_with fail
  refine (toOrderS_c A xs n c hn hz _ (hA.below hv)).mono ?_
  rintro e W ⟨g5, rfl, hc, hb⟩
  obtain ⟨lc, uc, h_own, z16, z17⟩ := Own.named hc hb
  replace hc := h_own
  clear h_own
  have z18 := Lib.hid hb.size
  replace hv := bl_trans hv hb
  replace ha := ha.below hb
  replace hb1 := hb1.below hb
  replace hx := hx.below hb
  replace hy := hy.below hb
  clear hb
  go_wp2_with fail
  refine (eqOrderS_c _ _ xs xs n n n n hn hn hz _ hx.arr hc.arr).mono ?_
  rintro e W ⟨rfl, hb⟩
  have z19 := Lib.hid hb.size
  replace hv := bl_trans hv hb
  replace ha := ha.below hb
  replace hb1 := hb1.below hb
  replace hx := hx.below hb
  replace hy := hy.below hb
  replace hc := hc.below hb
  clear hb
  go_wp2_with fail
  refine (toOrderS_c B ys m d hm hz' _ (hB.below hv)).mono ?_
  rintro e W ⟨g6, rfl, hd, hb⟩
  obtain ⟨ld, ud, h_own, z20, z21⟩ := Own.named hd hb
  replace hd := h_own
  clear h_own
  have z22 := Lib.hid hb.size
  replace hv := bl_trans hv hb
  replace ha := ha.below hb
  replace hb1 := hb1.below hb
  replace hx := hx.below hb
  replace hy := hy.below hb
  replace hc := hc.below hb
  clear hb
  go_wp2_with fail
  refine (eqOrderS_c _ _ ys ys m m m m hm hm hz' _ hy.arr hd.arr).mono ?_
  rintro e W ⟨rfl, hb⟩
  have z23 := Lib.hid hb.size
  replace hv := bl_trans hv hb
  replace ha := ha.below hb
  replace hb1 := hb1.below hb
  replace hx := hx.below hb
  replace hy := hy.below hb
  replace hc := hc.below hb
  replace hd := hd.below hb
  clear hb
  go_wp2_with fail
  go_returns
  exact Ret.mk rfl hv

end Go.Proofs.Ytbkblikjaklmkaa
