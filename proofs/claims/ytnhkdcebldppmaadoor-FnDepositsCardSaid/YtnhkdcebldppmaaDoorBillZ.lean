/- Bills: refunds, deposits, percentages: the program's and the reference's functions. -/
import Derived.Test.YtnhkdcebldppmaaDoorBillY
namespace Go.Proofs.YtnhkdcebldppmaaDoor
open Go.RowKit

def bCode (xs : List Item) (o t p k lo hi : Int) : Int := if billB xs o t p = true then (if inB k lo hi = true then 0 else 2) else 1
set_option maxRecDepth 100000 in
set_option maxHeartbeats 1600000 in
theorem billCode_c (A : Option Addr) (xs : List Item) (n c : Nat) (o t p : Int) (hn : Hid (xs.length = n)) (k lo hi : Int) (hm : (n : Int) ≤ 1048576) (hs : Hid (∀ x ∈ xs, x.name.size ≤ 9223372036854775807)) (w : World) (hA : Arr w A (flat Item.cells xs)) : Calls Tryd.prog 42 #[.agg #[.slice A n c, .int .i64 o, .int .i64 t, .int .i64 p], .int .i64 k, .int .i64 lo, .int .i64 hi] w (Ret (.int .i64 (bCode xs o t p k lo hi)) w) := by
  go_enter Tryd.func42, Tryd.ntmps42
  go_wp2_with fail
  obtain ⟨w0, hw0⟩ : ∃ w0, w0 = w.alloc (Obj.cells #[Value.slice A n c, Value.int IntKind.i64 o, Value.int IntKind.i64 t, Value.int IntKind.i64 p] 26) := ⟨_, rfl⟩
  obtain ⟨g, hg⟩ : ∃ g, g = w.heap.size := ⟨_, rfl⟩
  have hv : Below w.heap.size w w0 := by rw [hw0]; exact bl_alloc (Below.refl _ _) _
  have hB : Blk w0 g 26 #[Value.slice A n c, Value.int IntKind.i64 o, Value.int IntKind.i64 t, Value.int IntKind.i64 p] := by rw [hw0, hg]; exact Blk.new _ _ _
  rw [← hw0, ← hg]
  clear hw0
  have HG := Lib.hid hg
  clear hg
  have k0 : w0.cell? ⟨g, 0, none⟩ = some (.slice A n c) := hB.cell 0
  have k1 : w0.cell? ⟨g, 1, none⟩ = some (.int .i64 o) := hB.cell 1
  have k2 : w0.cell? ⟨g, 2, none⟩ = some (.int .i64 t) := hB.cell 2
  have k3 : w0.cell? ⟨g, 3, none⟩ = some (.int .i64 p) := hB.cell 3
  refine (validBill_c A xs n c o t p hn hm hs _ (hA.below hv)).mono ?_
  rintro e W ⟨rfl, hb⟩
  replace hv := bl_trans hv hb
  replace hB := hB.below hb
  have k0 : W.cell? ⟨g, 0, none⟩ = some (.slice A n c) := hB.cell 0
  have k1 : W.cell? ⟨g, 1, none⟩ = some (.int .i64 o) := hB.cell 1
  have k2 : W.cell? ⟨g, 2, none⟩ = some (.int .i64 t) := hB.cell 2
  have k3 : W.cell? ⟨g, 3, none⟩ = some (.int .i64 p) := hB.cell 3
  rcases bill_cases xs o t p with HB | ⟨HB, _⟩
  · rw [HB.out]
    go_wp2_with fail
    go_returns
    exact Ret.mk (vi (by rw [bCode, HB.out]; rfl)) hv
  · rw [HB.out]
    cases hk : inB k lo hi
    · go_wp2_with (go_at_call 43; refine (within_c _ _ _ _).mono ?_; rintro e w' ⟨rfl, rfl⟩)
      go_returns
      exact Ret.mk (vi (by rw [bCode, HB.out, hk]; rfl)) hv
    · go_wp2_with (go_at_call 43; refine (within_c _ _ _ _).mono ?_; rintro e w' ⟨rfl, rfl⟩)
      go_returns
      exact Ret.mk (vi (by rw [bCode, HB.out, hk]; rfl)) hv

def rRefund (xs : List Item) (o t p m g : Int) : Array Value :=
  if billB xs o t p = true then (if inB m 0 1000 = true then (if inB g 1 120 = true then #[.int .i64 (p * max (g - m) 0 / g), .int .i64 0] else #[.int .i64 0, .int .i64 2]) else #[.int .i64 0, .int .i64 2]) else #[.int .i64 0, .int .i64 1]
theorem refund_bd {p a : Int} (h0 : 0 ≤ p) (h1 : p ≤ 40000000000) (h2 : 0 ≤ a) (h3 : a ≤ 120) : 0 ≤ p * a ∧ p * a ≤ 4800000000000 := by
  have := mul_bd h0 h1 h2 h3; omega
set_option maxRecDepth 100000 in
set_option maxHeartbeats 1600000 in
theorem RefundFor_c (A : Option Addr) (xs : List Item) (n c : Nat) (o t p : Int) (hn : Hid (xs.length = n)) (m gu : Int) (hm : (n : Int) ≤ 1048576) (hs : Hid (∀ x ∈ xs, x.name.size ≤ 9223372036854775807)) (w : World) (hA : Arr w A (flat Item.cells xs)) : Calls Tryd.prog 14 #[.agg #[.slice A n c, .int .i64 o, .int .i64 t, .int .i64 p], .int .i64 m, .int .i64 gu] w (RetT (rRefund xs o t p m gu) w) := by
  go_enter Tryd.func14, Tryd.ntmps14
  go_wp2_with fail
  obtain ⟨w0, hw0⟩ : ∃ w0, w0 = w.alloc (Obj.cells #[Value.slice A n c, Value.int IntKind.i64 o, Value.int IntKind.i64 t, Value.int IntKind.i64 p] 26) := ⟨_, rfl⟩
  obtain ⟨g, hg⟩ : ∃ g, g = w.heap.size := ⟨_, rfl⟩
  have hv : Below w.heap.size w w0 := by rw [hw0]; exact bl_alloc (Below.refl _ _) _
  have hB : Blk w0 g 26 #[Value.slice A n c, Value.int IntKind.i64 o, Value.int IntKind.i64 t, Value.int IntKind.i64 p] := by rw [hw0, hg]; exact Blk.new _ _ _
  rw [← hw0, ← hg]
  clear hw0
  have HG := Lib.hid hg
  clear hg
  have k0 : w0.cell? ⟨g, 0, none⟩ = some (.slice A n c) := hB.cell 0
  have k1 : w0.cell? ⟨g, 1, none⟩ = some (.int .i64 o) := hB.cell 1
  have k2 : w0.cell? ⟨g, 2, none⟩ = some (.int .i64 t) := hB.cell 2
  have k3 : w0.cell? ⟨g, 3, none⟩ = some (.int .i64 p) := hB.cell 3
  refine (billCode_c A xs n c o t p hn m 0 1000 hm hs _ (hA.below hv)).mono ?_
  rintro e W ⟨rfl, hb⟩
  replace hv := bl_trans hv hb
  replace hB := hB.below hb
  have k0 : W.cell? ⟨g, 0, none⟩ = some (.slice A n c) := hB.cell 0
  have k1 : W.cell? ⟨g, 1, none⟩ = some (.int .i64 o) := hB.cell 1
  have k2 : W.cell? ⟨g, 2, none⟩ = some (.int .i64 t) := hB.cell 2
  have k3 : W.cell? ⟨g, 3, none⟩ = some (.int .i64 p) := hB.cell 3
  rcases bill_cases xs o t p with HB | ⟨HB, hx, ho0, ho1, ht0, ht1, hp0, hp1, hs0, hs1, hT0, hT1⟩
  · rw [show bCode xs o t p m 0 1000 = 1 from by rw [bCode, HB.out]; rfl]
    go_wp2_with fail
    go_returns
    exact RetT.mk (by rw [rRefund, HB.out]; rfl) hv
  · cases h1 : inB m 0 1000
    · rw [show bCode xs o t p m 0 1000 = 2 from by rw [bCode, HB.out, h1]; rfl]
      have H1 := Lib.hid h1
      clear h1
      go_wp2_with fail
      go_returns
      exact RetT.mk (by rw [rRefund, HB.out, H1.out]; rfl) hv
    · rw [show bCode xs o t p m 0 1000 = 0 from by rw [bCode, HB.out, h1]; rfl]
      have H1 := Lib.hid h1
      cases h2 : inB gu 1 120
      · have H2 := Lib.hid h2
        clear h1
        go_wp2_with (go_at_call 43; refine (within_c _ _ _ _).mono ?_; rintro e w' ⟨rfl, rfl⟩)
        go_returns
        exact RetT.mk (by rw [rRefund, HB.out, H1.out, H2.out]; rfl) hv
      · have H2 := Lib.hid h2
        obtain ⟨hm0, hm1⟩ := inB_iff.1 h1
        obtain ⟨hg0, hg1⟩ := inB_iff.1 h2
        clear h1
        by_cases hgm : 0 ≤ gu - m
        · obtain ⟨hr0, hr1⟩ := refund_bd hp0 (Int.le_trans hp1 hT1) hgm (show gu - m ≤ 120 by omega)
          go_wp2_with (go_at_call 43; refine (within_c _ _ _ _).mono ?_; rintro e w' ⟨rfl, rfl⟩)
          go_returns
          exact RetT.mk (by rw [rRefund, HB.out, H1.out, H2.out, Int.max_eq_left hgm]; rfl) hv
        · have hz : gu - m < 0 := by omega
          go_wp2_with (go_at_call 43; refine (within_c _ _ _ _).mono ?_; rintro e w' ⟨rfl, rfl⟩)
          go_returns
          exact RetT.mk (by rw [rRefund, HB.out, H1.out, H2.out, Int.max_eq_right (by omega), Int.mul_zero, Int.zero_ediv]; rfl) hv

set_option maxRecDepth 100000 in
set_option maxHeartbeats 1600000 in
theorem SRefundFor_c (A : Option Addr) (xs : List Item) (n c : Nat) (o t p : Int) (hn : Hid (xs.length = n)) (m gu : Int) (hm : (n : Int) ≤ 1048576) (hs : Hid (∀ x ∈ xs, x.name.size ≤ 9223372036854775807)) (w : World) (hA : Arr w A (flat Item.cells xs)) : Calls Tryd.prog 15 #[.agg #[.slice A n c, .int .i64 o, .int .i64 t, .int .i64 p], .int .i64 m, .int .i64 gu] w (RetT (rRefund xs o t p m gu) w) := by
  go_enter Tryd.func15, Tryd.ntmps15
  go_wp2_with fail
  obtain ⟨w0, hw0⟩ : ∃ w0, w0 = w.alloc (Obj.cells #[Value.slice A n c, Value.int IntKind.i64 o, Value.int IntKind.i64 t, Value.int IntKind.i64 p] 26) := ⟨_, rfl⟩
  obtain ⟨g, hg⟩ : ∃ g, g = w.heap.size := ⟨_, rfl⟩
  have hv : Below w.heap.size w w0 := by rw [hw0]; exact bl_alloc (Below.refl _ _) _
  have hB : Blk w0 g 26 #[Value.slice A n c, Value.int IntKind.i64 o, Value.int IntKind.i64 t, Value.int IntKind.i64 p] := by rw [hw0, hg]; exact Blk.new _ _ _
  rw [← hw0, ← hg]
  clear hw0
  have HG := Lib.hid hg
  clear hg
  have k0 : w0.cell? ⟨g, 0, none⟩ = some (.slice A n c) := hB.cell 0
  have k1 : w0.cell? ⟨g, 1, none⟩ = some (.int .i64 o) := hB.cell 1
  have k2 : w0.cell? ⟨g, 2, none⟩ = some (.int .i64 t) := hB.cell 2
  have k3 : w0.cell? ⟨g, 3, none⟩ = some (.int .i64 p) := hB.cell 3
  refine (l26Ok_c g A xs n c o t p hn hm hs _ hB (hA.below hv)).mono ?_
  rintro e W ⟨rfl, hb⟩
  replace hv := bl_trans hv hb
  replace hB := hB.below hb
  have k0 : W.cell? ⟨g, 0, none⟩ = some (.slice A n c) := hB.cell 0
  have k1 : W.cell? ⟨g, 1, none⟩ = some (.int .i64 o) := hB.cell 1
  have k2 : W.cell? ⟨g, 2, none⟩ = some (.int .i64 t) := hB.cell 2
  have k3 : W.cell? ⟨g, 3, none⟩ = some (.int .i64 p) := hB.cell 3
  rcases bill_cases xs o t p with HB | ⟨HB, hx, ho0, ho1, ht0, ht1, hp0, hp1, hs0, hs1, hT0, hT1⟩
  · rw [HB.out]
    go_wp2_with fail
    go_returns
    exact RetT.mk (by rw [rRefund, HB.out]; rfl) hv
  · rw [HB.out]
    cases h1 : inB m 0 1000
    · go_wp2_with (first | (go_at_call 47; refine (l00In_c _ _ _ _).mono ?_; rintro e w' ⟨rfl, rfl⟩) | (go_at_call 46; refine (l26Percent_c _ _).mono ?_; rintro e w' ⟨rfl, rfl⟩) | (go_at_call 51; refine (l26Money_c _ _).mono ?_; rintro e w' ⟨rfl, rfl⟩) | (go_at_call 52; refine (l00Max_c _ _ _).mono ?_; rintro e w' ⟨rfl, rfl⟩) | (go_at_call 49; refine (l00Min_c _ _ _).mono ?_; rintro e w' ⟨rfl, rfl⟩))
      go_returns
      exact RetT.mk (by rw [rRefund, HB.out, h1]; rfl) hv
    · cases h2 : inB gu 1 120
      · go_wp2_with (first | (go_at_call 47; refine (l00In_c _ _ _ _).mono ?_; rintro e w' ⟨rfl, rfl⟩) | (go_at_call 46; refine (l26Percent_c _ _).mono ?_; rintro e w' ⟨rfl, rfl⟩) | (go_at_call 51; refine (l26Money_c _ _).mono ?_; rintro e w' ⟨rfl, rfl⟩) | (go_at_call 52; refine (l00Max_c _ _ _).mono ?_; rintro e w' ⟨rfl, rfl⟩) | (go_at_call 49; refine (l00Min_c _ _ _).mono ?_; rintro e w' ⟨rfl, rfl⟩))
        go_returns
        exact RetT.mk (by rw [rRefund, HB.out, h1, h2]; rfl) hv
      · obtain ⟨hm0, hm1⟩ := inB_iff.1 h1
        obtain ⟨hg0, hg1⟩ := inB_iff.1 h2
        obtain ⟨hr0, hr1⟩ := refund_bd hp0 (Int.le_trans hp1 hT1) (show 0 ≤ max 0 (gu - m) by omega) (show max 0 (gu - m) ≤ 120 by omega)
        have hw1 := Lib.hid (IntWalk.i64_in (gu - m) (by omega))
        have hw2 := Lib.hid (IntWalk.i64_in (p * max 0 (gu - m)) (by omega))
        have hg2 : (gu == 0) = false := by rw [beq_eq_false_iff_ne]; omega
        have hg3 : ¬ gu = 0 := by omega
        have hw3 := Lib.hid (show IntKind.i64.wrap ((p * max 0 (gu - m)).tdiv gu) = p * max 0 (gu - m) / gu by rw [Int.tdiv_eq_ediv_of_nonneg hr0, IntWalk.i64_in _ (by have := Int.ediv_nonneg hr0 (by omega : 0 ≤ gu); have := Int.ediv_le_self gu hr0; omega)])
        go_wp2_with (first | (go_at_call 47; refine (l00In_c _ _ _ _).mono ?_; rintro e w' ⟨rfl, rfl⟩) | (go_at_call 46; refine (l26Percent_c _ _).mono ?_; rintro e w' ⟨rfl, rfl⟩) | (go_at_call 51; refine (l26Money_c _ _).mono ?_; rintro e w' ⟨rfl, rfl⟩) | (go_at_call 52; refine (l00Max_c _ _ _).mono ?_; rintro e w' ⟨rfl, rfl⟩) | (go_at_call 49; refine (l00Min_c _ _ _).mono ?_; rintro e w' ⟨rfl, rfl⟩))
        have hv1 := hw1.out
        have hv2 := hw2.out
        have hv3 := hw3.out
        go_region_held3 (fun w' => w'.cell? ⟨g, 3, none⟩ = some (.int .i64 p)) (first | go_keep) (first | (go_at_call 52; refine (l00Max_c _ _ _).mono ?_; rintro e w' ⟨rfl, rfl⟩))
        go_wp2_with fail
        go_returns
        exact RetT.mk (by rw [rRefund, HB.out, h1, h2, Int.max_comm]; rfl) hv.drew

def depo (T per st : Int) : Int := min ((T * per + 100 * st - 1) / (100 * st) * st) T
def rDepo (xs : List Item) (o t p per st : Int) : Array Value :=
  if billB xs o t p = true then (if inB per 0 100 = true then (if inB st 1 100000 = true then #[.int .i64 (depo (totOf (sumGo xs 0) o t) per st), .int .i64 0] else #[.int .i64 0, .int .i64 2]) else #[.int .i64 0, .int .i64 2]) else #[.int .i64 0, .int .i64 1]
theorem depo_bd {T per st : Int} (h0 : 0 ≤ T) (h1 : T ≤ 40000000000) (h2 : 0 ≤ per) (h3 : per ≤ 100) (h4 : 1 ≤ st) (h5 : st ≤ 100000) :
    0 ≤ T * per ∧ T * per ≤ 4000000000000 ∧ 0 ≤ (T * per + 100 * st - 1) / (100 * st) ∧ (T * per + 100 * st - 1) / (100 * st) ≤ 4000010000000 ∧ 0 ≤ (T * per + 100 * st - 1) / (100 * st) * st ∧ (T * per + 100 * st - 1) / (100 * st) * st ≤ 4000010000000 := by
  obtain ⟨a0, a1⟩ := mul_bd h0 h1 h2 h3
  have b0 : 0 ≤ (T * per + 100 * st - 1) / (100 * st) := Int.ediv_nonneg (by omega) (by omega)
  have b1 : (T * per + 100 * st - 1) / (100 * st) * (100 * st) ≤ T * per + 100 * st - 1 := Int.ediv_mul_le _ (by omega)
  have b2 : 0 ≤ (T * per + 100 * st - 1) / (100 * st) * st := Int.mul_nonneg b0 (by omega)
  have b3 : (T * per + 100 * st - 1) / (100 * st) * (100 * st) = 100 * ((T * per + 100 * st - 1) / (100 * st) * st) := by rw [Int.mul_left_comm]
  have b4 : (T * per + 100 * st - 1) / (100 * st) * 1 ≤ (T * per + 100 * st - 1) / (100 * st) * st := Int.mul_le_mul_of_nonneg_left h4 b0
  generalize (T * per + 100 * st - 1) / (100 * st) = q at *
  generalize q * st = r at *
  refine ⟨a0, by omega, b0, by omega, b2, by omega⟩
set_option maxRecDepth 100000 in
set_option maxHeartbeats 1600000 in
theorem DepositFor_c (A : Option Addr) (xs : List Item) (n c : Nat) (o t p : Int) (hn : Hid (xs.length = n)) (per st : Int) (hm : (n : Int) ≤ 1048576) (hs : Hid (∀ x ∈ xs, x.name.size ≤ 9223372036854775807)) (w : World) (hA : Arr w A (flat Item.cells xs)) : Calls Tryd.prog 8 #[.agg #[.slice A n c, .int .i64 o, .int .i64 t, .int .i64 p], .int .i64 per, .int .i64 st] w (RetT (rDepo xs o t p per st) w) := by
  go_enter Tryd.func8, Tryd.ntmps8
  go_wp2_with fail
  obtain ⟨w0, hw0⟩ : ∃ w0, w0 = w.alloc (Obj.cells #[Value.slice A n c, Value.int IntKind.i64 o, Value.int IntKind.i64 t, Value.int IntKind.i64 p] 26) := ⟨_, rfl⟩
  obtain ⟨g, hg⟩ : ∃ g, g = w.heap.size := ⟨_, rfl⟩
  have hv : Below w.heap.size w w0 := by rw [hw0]; exact bl_alloc (Below.refl _ _) _
  have hB : Blk w0 g 26 #[Value.slice A n c, Value.int IntKind.i64 o, Value.int IntKind.i64 t, Value.int IntKind.i64 p] := by rw [hw0, hg]; exact Blk.new _ _ _
  rw [← hw0, ← hg]
  clear hw0
  have HG := Lib.hid hg
  clear hg
  have k0 : w0.cell? ⟨g, 0, none⟩ = some (.slice A n c) := hB.cell 0
  have k1 : w0.cell? ⟨g, 1, none⟩ = some (.int .i64 o) := hB.cell 1
  have k2 : w0.cell? ⟨g, 2, none⟩ = some (.int .i64 t) := hB.cell 2
  have k3 : w0.cell? ⟨g, 3, none⟩ = some (.int .i64 p) := hB.cell 3
  refine (billCode_c A xs n c o t p hn per 0 100 hm hs _ (hA.below hv)).mono ?_
  rintro e W ⟨rfl, hb⟩
  replace hv := bl_trans hv hb
  replace hB := hB.below hb
  have k0 : W.cell? ⟨g, 0, none⟩ = some (.slice A n c) := hB.cell 0
  have k1 : W.cell? ⟨g, 1, none⟩ = some (.int .i64 o) := hB.cell 1
  have k2 : W.cell? ⟨g, 2, none⟩ = some (.int .i64 t) := hB.cell 2
  have k3 : W.cell? ⟨g, 3, none⟩ = some (.int .i64 p) := hB.cell 3
  rcases bill_cases xs o t p with HB | ⟨HB, hx, ho0, ho1, ht0, ht1, hp0, hp1, hs0, hs1, hT0, hT1⟩
  · rw [show bCode xs o t p per 0 100 = 1 from by rw [bCode, HB.out]; rfl]
    go_wp2_with fail
    go_returns
    exact RetT.mk (by rw [rDepo, HB.out]; rfl) hv
  · cases h1 : inB per 0 100
    · rw [show bCode xs o t p per 0 100 = 2 from by rw [bCode, HB.out, h1]; rfl]
      have H1 := Lib.hid h1
      clear h1
      go_wp2_with fail
      go_returns
      exact RetT.mk (by rw [rDepo, HB.out, H1.out]; rfl) hv
    · rw [show bCode xs o t p per 0 100 = 0 from by rw [bCode, HB.out, h1]; rfl]
      have H1 := Lib.hid h1
      cases h2 : inB st 1 100000
      · have H2 := Lib.hid h2
        clear h1
        go_wp2_with (go_at_call 43; refine (within_c _ _ _ _).mono ?_; rintro e w' ⟨rfl, rfl⟩)
        go_returns
        exact RetT.mk (by rw [rDepo, HB.out, H1.out, H2.out]; rfl) hv
      · have H2 := Lib.hid h2
        obtain ⟨hm0, hm1⟩ := inB_iff.1 h1
        obtain ⟨hg0, hg1⟩ := inB_iff.1 h2
        clear h1
        go_wp2_with (first | (go_at_call 43; refine (within_c _ _ _ _).mono ?_; rintro e w' ⟨rfl, rfl⟩) | fail)
        refine (total_c A xs n c o t p o _ hn hx (Lib.hid rfl) ho0 ho1 ht0 ht1 _ (hA.below hv)).mono ?_
        rintro e W ⟨rfl, hb⟩
        have hfin : ∀ T, T = totOf (sumGo xs 0) o t → rDepo xs o t p per st = #[.int .i64 (depo T per st), .int .i64 0] := fun T hT => by rw [rDepo, HB.out, H1.out, H2.out, hT]; rfl
        generalize totOf (sumGo xs 0) o t = T at hT0 hT1 hfin ⊢
        generalize taxOf (sumGo xs 0) o t = TX
        have HF := Lib.hid (hfin T rfl)
        clear hfin
        obtain ⟨d0, d1, d2, d3, d4, d5⟩ := depo_bd hT0 hT1 hm0 hm1 hg0 hg1
        by_cases hmin : (T * per + 100 * st - 1) / (100 * st) * st ≤ T
        · go_wp2_with fail
          go_returns
          exact RetT.mk (by rw [HF.out, depo, Int.min_eq_left hmin]; rfl) (bl_trans hv hb)
        · go_wp2_with fail
          go_returns
          exact RetT.mk (by rw [HF.out, depo, Int.min_eq_right (by omega)]; rfl) (bl_trans hv hb)
set_option maxRecDepth 100000 in
set_option maxHeartbeats 1600000 in
theorem SDepositFor_c (A : Option Addr) (xs : List Item) (n c : Nat) (o t p : Int) (hn : Hid (xs.length = n)) (per st : Int) (hm : (n : Int) ≤ 1048576) (hs : Hid (∀ x ∈ xs, x.name.size ≤ 9223372036854775807)) (w : World) (hA : Arr w A (flat Item.cells xs)) : Calls Tryd.prog 9 #[.agg #[.slice A n c, .int .i64 o, .int .i64 t, .int .i64 p], .int .i64 per, .int .i64 st] w (RetT (rDepo xs o t p per st) w) := by
  go_enter Tryd.func9, Tryd.ntmps9
  go_wp2_with fail
  obtain ⟨w0, hw0⟩ : ∃ w0, w0 = w.alloc (Obj.cells #[Value.slice A n c, Value.int IntKind.i64 o, Value.int IntKind.i64 t, Value.int IntKind.i64 p] 26) := ⟨_, rfl⟩
  obtain ⟨g, hg⟩ : ∃ g, g = w.heap.size := ⟨_, rfl⟩
  have hv : Below w.heap.size w w0 := by rw [hw0]; exact bl_alloc (Below.refl _ _) _
  have hB : Blk w0 g 26 #[Value.slice A n c, Value.int IntKind.i64 o, Value.int IntKind.i64 t, Value.int IntKind.i64 p] := by rw [hw0, hg]; exact Blk.new _ _ _
  rw [← hw0, ← hg]
  clear hw0
  have HG := Lib.hid hg
  clear hg
  have k0 : w0.cell? ⟨g, 0, none⟩ = some (.slice A n c) := hB.cell 0
  have k1 : w0.cell? ⟨g, 1, none⟩ = some (.int .i64 o) := hB.cell 1
  have k2 : w0.cell? ⟨g, 2, none⟩ = some (.int .i64 t) := hB.cell 2
  have k3 : w0.cell? ⟨g, 3, none⟩ = some (.int .i64 p) := hB.cell 3
  refine (l26Ok_c g A xs n c o t p hn hm hs _ hB (hA.below hv)).mono ?_
  rintro e W ⟨rfl, hb⟩
  replace hv := bl_trans hv hb
  replace hB := hB.below hb
  have k0 : W.cell? ⟨g, 0, none⟩ = some (.slice A n c) := hB.cell 0
  have k1 : W.cell? ⟨g, 1, none⟩ = some (.int .i64 o) := hB.cell 1
  have k2 : W.cell? ⟨g, 2, none⟩ = some (.int .i64 t) := hB.cell 2
  have k3 : W.cell? ⟨g, 3, none⟩ = some (.int .i64 p) := hB.cell 3
  rcases bill_cases xs o t p with HB | ⟨HB, hx, ho0, ho1, ht0, ht1, hp0, hp1, hs0, hs1, hT0, hT1⟩
  · rw [HB.out]
    go_wp2_with fail
    go_returns
    exact RetT.mk (by rw [rDepo, HB.out]; rfl) hv
  · rw [HB.out]
    cases h1 : inB per 0 100
    · go_wp2_with (first | (go_at_call 47; refine (l00In_c _ _ _ _).mono ?_; rintro e w' ⟨rfl, rfl⟩) | (go_at_call 46; refine (l26Percent_c _ _).mono ?_; rintro e w' ⟨rfl, rfl⟩) | (go_at_call 51; refine (l26Money_c _ _).mono ?_; rintro e w' ⟨rfl, rfl⟩) | (go_at_call 52; refine (l00Max_c _ _ _).mono ?_; rintro e w' ⟨rfl, rfl⟩) | (go_at_call 49; refine (l00Min_c _ _ _).mono ?_; rintro e w' ⟨rfl, rfl⟩))
      go_returns
      exact RetT.mk (by rw [rDepo, HB.out, h1]; rfl) hv
    · cases h2 : inB st 1 100000
      · go_wp2_with (first | (go_at_call 47; refine (l00In_c _ _ _ _).mono ?_; rintro e w' ⟨rfl, rfl⟩) | (go_at_call 46; refine (l26Percent_c _ _).mono ?_; rintro e w' ⟨rfl, rfl⟩) | (go_at_call 51; refine (l26Money_c _ _).mono ?_; rintro e w' ⟨rfl, rfl⟩) | (go_at_call 52; refine (l00Max_c _ _ _).mono ?_; rintro e w' ⟨rfl, rfl⟩) | (go_at_call 49; refine (l00Min_c _ _ _).mono ?_; rintro e w' ⟨rfl, rfl⟩))
        go_returns
        exact RetT.mk (by rw [rDepo, HB.out, h1, h2]; rfl) hv
      · obtain ⟨hm0, hm1⟩ := inB_iff.1 h1
        obtain ⟨hg0, hg1⟩ := inB_iff.1 h2
        go_wp2_with (first | (first | (go_at_call 47; refine (l00In_c _ _ _ _).mono ?_; rintro e w' ⟨rfl, rfl⟩) | (go_at_call 46; refine (l26Percent_c _ _).mono ?_; rintro e w' ⟨rfl, rfl⟩) | (go_at_call 51; refine (l26Money_c _ _).mono ?_; rintro e w' ⟨rfl, rfl⟩) | (go_at_call 52; refine (l00Max_c _ _ _).mono ?_; rintro e w' ⟨rfl, rfl⟩) | (go_at_call 49; refine (l00Min_c _ _ _).mono ?_; rintro e w' ⟨rfl, rfl⟩)) | fail)
        refine (l26Total_c g A xs n c o t p hn _ hx (Lib.hid rfl) ho0 ho1 ht0 ht1 _ hB (hA.below hv)).mono ?_
        rintro e W ⟨rfl, hb⟩
        have hfin : ∀ T, T = totOf (sumGo xs 0) o t → rDepo xs o t p per st = #[.int .i64 (depo T per st), .int .i64 0] := fun T hT => by rw [rDepo, HB.out, h1, h2, hT]; rfl
        generalize totOf (sumGo xs 0) o t = T at hT0 hT1 hfin ⊢
        generalize taxOf (sumGo xs 0) o t = TX
        have HF := Lib.hid (hfin T rfl)
        clear hfin
        obtain ⟨d0, d1, d2, d3, d4, d5⟩ := depo_bd hT0 hT1 hm0 hm1 hg0 hg1
        go_wp2_with (first | (go_at_call 47; refine (l00In_c _ _ _ _).mono ?_; rintro e w' ⟨rfl, rfl⟩) | (go_at_call 46; refine (l26Percent_c _ _).mono ?_; rintro e w' ⟨rfl, rfl⟩) | (go_at_call 51; refine (l26Money_c _ _).mono ?_; rintro e w' ⟨rfl, rfl⟩) | (go_at_call 52; refine (l00Max_c _ _ _).mono ?_; rintro e w' ⟨rfl, rfl⟩) | (go_at_call 49; refine (l00Min_c _ _ _).mono ?_; rintro e w' ⟨rfl, rfl⟩))
        go_returns
        exact RetT.mk (by rw [HF.out, depo, Int.min_comm]; rfl) (bl_trans hv hb)
end Go.Proofs.YtnhkdcebldppmaaDoor
