/- Greatest common divisors, fractions in lowest terms: the program's and the reference's. -/
import Derived.Test.YtopbiihiogbhiaaApp
import Derived.Laws.ResultCell
namespace Go.Proofs.Ytopbiihiogbhiaa
open Go.RowKit

theorem gcd_step (p q : Nat) : Nat.gcd p q = Nat.gcd q (p % q) := by
  rw [Nat.gcd_comm p q, Nat.gcd_rec q p, Nat.gcd_comm]
theorem tmod_nat (p q : Nat) : Int.tmod (p : Int) (q : Int) = ((p % q : Nat) : Int) := by
  rw [Int.tmod_eq_emod_of_nonneg (by omega)]; rfl
set_option maxHeartbeats 800000 in
theorem gcd_c (a b : Nat) (ha : (a : Int) ≤ 9223372036854775807) (hb : (b : Int) ≤ 9223372036854775807) (w : World) :
    Calls Try.prog 96 #[.int .i64 a, .int .i64 b] w (Ret (.int .i64 (Nat.gcd a b)) w) := by
  go_enter Try.func96, Try.ntmps96
  go_wp2_with fail
  go_loopw [0, 1] (fun x y wr => ∃ p q : Nat, x = .int .i64 p ∧ y = .int .i64 q ∧ (p : Int) ≤ 9223372036854775807 ∧ (q : Int) ≤ 9223372036854775807 ∧ Hid (Nat.gcd a b = Nat.gcd p q) ∧ Below w.heap.size w wr) (fun _ y _ => (intOf y).toNat)
  case atStart => exact ⟨a, b, rfl, rfl, ha, hb, Lib.hid rfl, Below.refl _ _⟩
  case round =>
    obtain ⟨p, q, rfl, rfl, hp, hq, hR, hv⟩ := hrel
    by_cases h0 : q = 0
    · subst h0
      have hR2 := Lib.hid (hR.out.trans (Nat.gcd_zero_right p))
      have hne : (((0 : Nat) : Int) != 0) = false := by rfl
      clear hR
      go_wp2_with fail
      go_returns
      exact Ret.mk (vi (by rw [hR2.out])) hv
    · have hne : ((q : Int) != 0) = true := by rw [bne_iff_ne]; omega
      have hR2 := Lib.hid (hR.out.trans (gcd_step p q))
      have hlt : p % q < q := Nat.mod_lt _ (by omega)
      have hqp : 0 < (q : Int) := by omega
      have hz : ((q : Int) == 0) = false := by simp; omega
      have ht := tmod_nat p q
      go_wp2_with fail
      go_quiet (fail)
      go_wp2_with fail
      go_roundw
      case rel => exact ⟨q, p % q, rfl, rfl, hq, by omega, hR2, below_drewN hv _⟩
      case measure => simp [intOf]; omega
set_option maxHeartbeats 800000 in
theorem l02Gcd_c (a b : Nat) (ha : (a : Int) ≤ 9223372036854775807) (hb : (b : Int) ≤ 9223372036854775807) (w : World) :
    Calls Try.prog 97 #[.int .i64 a, .int .i64 b] w (RetQ (.int .i64 (Nat.gcd a b)) w) := by
  go_enter Try.func97, Try.ntmps97
  go_wp2_with fail
  go_loop [0, 1] (fun x y => ∃ p q : Nat, x = .int .i64 p ∧ y = .int .i64 q ∧ (p : Int) ≤ 9223372036854775807 ∧ (q : Int) ≤ 9223372036854775807 ∧ Hid (Nat.gcd a b = Nat.gcd p q)) (fun _ y => (intOf y).toNat)
  case atStart => exact ⟨a, b, rfl, rfl, ha, hb, Lib.hid rfl⟩
  case round =>
    obtain ⟨p, q, rfl, rfl, hp, hq, hR⟩ := hrel
    by_cases h0 : q = 0
    · subst h0
      have hR2 := Lib.hid (hR.out.trans (Nat.gcd_zero_right p))
      have hne : (((0 : Nat) : Int) != 0) = false := by rfl
      clear hR
      go_wp2_with fail
      go_returns
      exact RetQ.mk (vi (by rw [hR2.out]))
    · have hne : ((q : Int) != 0) = true := by rw [bne_iff_ne]; omega
      have hR2 := Lib.hid (hR.out.trans (gcd_step p q))
      have hlt : p % q < q := Nat.mod_lt _ (by omega)
      have hqp : 0 < (q : Int) := by omega
      have hz : ((q : Int) == 0) = false := by simp; omega
      go_wp2_with fail
      exact ⟨⟨q, p % q, by go_num, by go_num, by omega, by omega, hR2⟩, by simp [intOf]; omega⟩

theorem tdiv_nat (p q : Nat) : Int.tdiv (p : Int) (q : Int) = ((p / q : Nat) : Int) := by
  rw [Int.tdiv_eq_ediv_of_nonneg (by omega)]; rfl
def lowV (a b : Nat) : Value := .agg #[.int .i64 ((a / Nat.gcd a b : Nat) : Int), .int .i64 ((b / Nat.gcd a b : Nat) : Int)]
set_option maxRecDepth 100000 in
set_option maxHeartbeats 800000 in
theorem lowest_c (a b : Nat) (ha : (a : Int) ≤ 9223372036854775807) (hb : (b : Int) ≤ 9223372036854775807) (hb0 : 0 < b) (w : World) :
    Calls Try.prog 66 #[.int .i64 a, .int .i64 b] w (Ret (lowV a b) w) := by
  obtain ⟨d, hd⟩ : ∃ d, d = Nat.gcd a b := ⟨_, rfl⟩
  have hd0 : 0 < d := by rw [hd]; exact Nat.gcd_pos_of_pos_right _ hb0
  have hdb : d ≤ b := by rw [hd]; exact Nat.gcd_le_right _ hb0
  have HD := Lib.hid hd
  have hgc := fun w => gcd_c a b ha hb w
  rw [← hd] at hgc
  replace hgc := Lib.hid hgc
  clear hd
  go_enter Try.func66, Try.ntmps66
  go_wp2_with fail
  refine (hgc.out _).mono ?_
  rintro e W ⟨rfl, hbW⟩
  have hv : Below w.heap.size w W := bl_trans (bl_alloc (Below.refl _ _) _) hbW
  have hZ0 : Blk W w.heap.size 37 #[Value.int IntKind.i64 0, Value.int IntKind.i64 0] := (Blk.new _ _ _).below hbW
  have q0 : W.cell? ⟨w.heap.size, 0, none⟩ = some (.int .i64 0) := hZ0.cell 0
  have q1 : W.cell? ⟨w.heap.size, 1, none⟩ = some (.int .i64 0) := hZ0.cell 1
  have z0 : W.frozen? ⟨w.heap.size, 0, none⟩ = false := hZ0.frozen 0
  have z1 : W.frozen? ⟨w.heap.size, 1, none⟩ = false := hZ0.frozen 1
  have hz : ((d : Int) == 0) = false := by simp; omega
  have hz2 : ¬ ((d : Int) = 0) := by omega
  have hz3 : 0 < (d : Int) := by omega
  have hz4 : ¬ d = 0 := by omega
  obtain ⟨u, hu⟩ : ∃ u : Nat, u = a / d := ⟨_, rfl⟩
  obtain ⟨v, hvv⟩ : ∃ v : Nat, v = b / d := ⟨_, rfl⟩
  have hua : u ≤ a := by rw [hu]; exact Nat.div_le_self _ _
  have hvb : v ≤ b := by rw [hvv]; exact Nat.div_le_self _ _
  have ht1 : Int.tdiv (a : Int) (d : Int) = (u : Int) := by rw [hu]; exact tdiv_nat a d
  have ht2 : Int.tdiv (b : Int) (d : Int) = (v : Int) := by rw [hvv]; exact tdiv_nat b d
  have HU := Lib.hid hu
  have HV := Lib.hid hvv
  clear hu hvv
  have hw1 : IntKind.i64.wrap (u : Int) = (u : Int) := IntWalk.i64_in _ (by omega)
  have hw2 : IntKind.i64.wrap (v : Int) = (v : Int) := IntWalk.i64_in _ (by omega)
  have hge : w.heap.size ≤ w.heap.size := Nat.le_refl _
  go_wp2_with fail
  go_region_held3 (fun w' => Below w.heap.size w w' ∧ (∃ x y, Blk w' w.heap.size 37 #[Value.int IntKind.i64 x, Value.int IntKind.i64 y]))
    (first | exact ⟨hv.drew, ⟨0, 0, hZ0.below (Below.refl _ _).drew⟩⟩ | (go_split_ands; exact ⟨bl_set (bl_set (by assumption) hge _) hge _, ⟨_, _, ((hZ0.below (Below.refl _ _).drew).set_ 0 _).set_ 1 _⟩⟩))
    (fail)
  go_split_ands
  go_wp2_with fail
  all_goals
    refine bodyPost_ret (results_cell_row (P := Try.prog) rfl _ _ w.heap.size 37 #[.int .i64 u, .int .i64 v] (0, 0) _ rfl ?_ Try.underlying37 rfl (by kernel_rfl)) rfl ?_
    · exact ((hZ0.set_ 0 _).set_ 1 _).below (Below.refl _ _).drew
    · exact ⟨by unfold lowV; rw [← HD.out, ← HU.out, ← HV.out], (bl_set (bl_set hv hge _) hge _).drew⟩
theorem l02Size_c (a : Nat) (w : World) : Calls Try.prog 98 #[.int .i64 a] w (RetQ (.int .i64 a) w) := by
  go_enter Try.func98, Try.ntmps98
  go_wp2
  all_goals first
    | (exfalso; omega)
    | (go_returns; exact RetQ.mk rfl)
set_option maxRecDepth 100000 in
set_option maxHeartbeats 800000 in
theorem l02Make_c (a b : Nat) (ha : (a : Int) ≤ 9223372036854775807) (hb : (b : Int) ≤ 9223372036854775807) (hb0 : 0 < b) (w : World) :
    Calls Try.prog 67 #[.int .i64 a, .int .i64 b] w (Ret (lowV a b) w) := by
  obtain ⟨d, hd⟩ : ∃ d, d = Nat.gcd a b := ⟨_, rfl⟩
  have hd0 : 0 < d := by rw [hd]; exact Nat.gcd_pos_of_pos_right _ hb0
  have hdb : d ≤ b := by rw [hd]; exact Nat.gcd_le_right _ hb0
  have HD := Lib.hid hd
  have hgc := fun w => l02Gcd_c a b ha hb w
  rw [← hd] at hgc
  replace hgc := Lib.hid hgc
  clear hd
  go_enter Try.func67, Try.ntmps67
  go_wp2_with fail
  refine (l02Size_c a _).mono ?_
  rintro e w' ⟨rfl, rfl⟩
  go_wp2_with fail
  refine (hgc.out _).mono ?_
  rintro e W ⟨rfl, rfl⟩
  have hv : Below w.heap.size w (w.alloc (Obj.cells #[Value.int IntKind.i64 0, Value.int IntKind.i64 0] 37)) := bl_alloc (Below.refl _ _) _
  have hZ0 : Blk (w.alloc (Obj.cells #[Value.int IntKind.i64 0, Value.int IntKind.i64 0] 37)) w.heap.size 37 #[Value.int IntKind.i64 0, Value.int IntKind.i64 0] := Blk.new _ _ _
  have hz : ((d : Int) == 0) = false := by simp; omega
  have hz2 : ¬ ((d : Int) = 0) := by omega
  have hz3 : 0 < (d : Int) := by omega
  have hz4 : ¬ d = 0 := by omega
  obtain ⟨u, hu⟩ : ∃ u : Nat, u = a / d := ⟨_, rfl⟩
  obtain ⟨v, hvv⟩ : ∃ v : Nat, v = b / d := ⟨_, rfl⟩
  have hua : u ≤ a := by rw [hu]; exact Nat.div_le_self _ _
  have hvb : v ≤ b := by rw [hvv]; exact Nat.div_le_self _ _
  have ht1 : Int.tdiv (a : Int) (d : Int) = (u : Int) := by rw [hu]; exact tdiv_nat a d
  have ht2 : Int.tdiv (b : Int) (d : Int) = (v : Int) := by rw [hvv]; exact tdiv_nat b d
  have HU := Lib.hid hu
  have HV := Lib.hid hvv
  clear hu hvv
  have hw1 : IntKind.i64.wrap (u : Int) = (u : Int) := IntWalk.i64_in _ (by omega)
  have hw2 : IntKind.i64.wrap (v : Int) = (v : Int) := IntWalk.i64_in _ (by omega)
  have hge : w.heap.size ≤ w.heap.size := Nat.le_refl _
  go_wp2_with fail
  go_region_held3 (fun w' => Below w.heap.size w w' ∧ (∃ x y, Blk w' w.heap.size 37 #[Value.int IntKind.i64 x, Value.int IntKind.i64 y]))
    (first | exact ⟨hv.drew, ⟨0, 0, hZ0.below (Below.refl _ _).drew⟩⟩ | exact ⟨(bl_alloc (Below.refl _ _) _).drew, ⟨_, _, (Blk.new _ _ _).below (Below.refl _ _).drew⟩⟩)
    (fail)
  go_split_ands
  go_wp2_with fail
  all_goals
    refine bodyPost_ret (results_cell_row (P := Try.prog) rfl _ _ w.heap.size 37 #[.int .i64 u, .int .i64 v] (0, 0) _ rfl ?_ Try.underlying37 rfl (by kernel_rfl)) rfl ?_
    · exact (Blk.new _ _ _).below (Below.refl _ _).drew
    · exact ⟨by unfold lowV; rw [← HD.out, ← HU.out, ← HV.out], (bl_alloc (Below.refl _ _) _).drew⟩
end Go.Proofs.Ytopbiihiogbhiaa
