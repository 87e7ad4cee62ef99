/- What the law on deposits asks of the numbers: plain Lean. -/
import Derived.Test.YtnhkdcebldppmaaDoorBillZ
import Derived.Test.YtnhkdcebldppmaaDoorBillO
namespace Go.Proofs.YtnhkdcebldppmaaDoor
open Go.RowKit

theorem dep_tot {xs : List Item} {o t p : Int} (h : billB xs o t p = true) : 0 ≤ sumGo xs 0 ∧ sumGo xs 0 ≤ 20000000000 ∧ 0 ≤ taxOf (sumGo xs 0) o t ∧ taxOf (sumGo xs 0) o t ≤ totOf (sumGo xs 0) o t ∧ totOf (sumGo xs 0) o t ≤ 2 * sumGo xs 0 ∧ 0 ≤ p ∧ p ≤ totOf (sumGo xs 0) o t := by
  obtain ⟨hf, ⟨o0, o1⟩, ⟨t0, t1⟩, p0, p1⟩ := billB_few h
  obtain ⟨s0, s1⟩ := sum_bd hf
  obtain ⟨n0, n1⟩ := net_bd s0 o0 o1
  obtain ⟨x0, x1⟩ := tax_bd s0 o0 o1 t0 t1
  have e : totOf (sumGo xs 0) o t = netOf (sumGo xs 0) o + taxOf (sumGo xs 0) o t := rfl
  refine ⟨s0, s1, x0, ?_, ?_, p0, p1⟩ <;> omega
theorem depo_facts {T per st : Int} (h0 : 0 ≤ T) (h1 : T ≤ 40000000000) (h2 : 0 ≤ per) (h3 : per ≤ 100) (h4 : 1 ≤ st) (h5 : st ≤ 100000) :
    0 ≤ depo T per st ∧ depo T per st ≤ T ∧ T * per ≤ 100 * depo T per st ∧ (depo T per st = T ∨ depo T per st % st = 0) := by
  obtain ⟨a0, a1, b0, b1, c0, c1⟩ := depo_bd h0 h1 h2 h3 h4 h5
  have hm : T * per ≤ T * 100 := Int.mul_le_mul_of_nonneg_left h3 h0
  have hs : 0 < 100 * st := by omega
  have hl := Int.lt_mul_ediv_self_add (x := T * per + 100 * st - 1) hs
  have e3 : (100 * st) * ((T * per + 100 * st - 1) / (100 * st)) = 100 * ((T * per + 100 * st - 1) / (100 * st) * st) := by
    rw [Int.mul_assoc, Int.mul_comm st]
  unfold depo
  have hmod : (T * per + 100 * st - 1) / (100 * st) * st % st = 0 := Int.mul_emod_left _ _
  rw [e3] at hl
  generalize (T * per + 100 * st - 1) / (100 * st) * st = r at *
  refine ⟨by omega, by omega, ?_, ?_⟩
  · rcases Int.le_total r T with h | h
    · rw [Int.min_eq_left h]; omega
    · rw [Int.min_eq_right h]; omega
  · rcases Int.le_total r T with h | h
    · right; rw [Int.min_eq_left h]; exact hmod
    · left; rw [Int.min_eq_right h]
theorem rDepo_facts {xs : List Item} {o t p per st n c : Int} (h : rDepo xs o t p per st = #[.int .i64 n, .int .i64 c]) (hc : c = 0) : ∃ T X : Int,
    rTot xs o t p = #[.int .i64 T, .int .i64 X, .int .i64 0] ∧ 0 ≤ T ∧ T ≤ 40000000000 ∧ 0 ≤ per ∧ per ≤ 100 ∧ 1 ≤ st ∧ st ≤ 100000 ∧ 0 ≤ n ∧ n ≤ T ∧ T * per ≤ 100 * n ∧ (n = T ∨ n % st = 0) := by
  subst hc
  unfold rDepo at h
  by_cases hb : billB xs o t p = true
  · rw [if_pos hb] at h
    by_cases h1 : inB per 0 100 = true
    · rw [if_pos h1] at h
      by_cases h2 : inB st 1 100000 = true
      · rw [if_pos h2] at h
        simp only [Array.mk.injEq, List.cons.injEq, Value.int.injEq, true_and, and_true] at h
        obtain ⟨p0, p1⟩ := inB_iff.1 h1
        obtain ⟨s0, s1⟩ := inB_iff.1 h2
        obtain ⟨q0, q1, x0, x1, x2, _, _⟩ := dep_tot hb
        obtain ⟨d0, d1, d2, d3⟩ := depo_facts (T := totOf (sumGo xs 0) o t) (by omega) (by omega) p0 p1 s0 s1
        rw [h] at d0 d1 d2 d3
        refine ⟨totOf (sumGo xs 0) o t, taxOf (sumGo xs 0) o t, ?_, by omega, by omega, p0, p1, s0, s1, d0, d1, d2, d3⟩
        unfold rTot; rw [if_pos hb]
      · rw [if_neg h2] at h; simp at h
    · rw [if_neg h1] at h; simp at h
  · rw [if_neg hb] at h; simp at h
theorem rRefund_facts {xs : List Item} {o t p m g n c : Int} (h : rRefund xs o t p m g = #[.int .i64 n, .int .i64 c]) (hc : c = 0) : 0 ≤ n ∧ n ≤ p ∧ (m = 0 → n = p) ∧ (g ≤ m → n = 0) := by
  subst hc
  unfold rRefund at h
  by_cases hb : billB xs o t p = true
  · rw [if_pos hb] at h
    by_cases h1 : inB m 0 1000 = true
    · rw [if_pos h1] at h
      by_cases h2 : inB g 1 120 = true
      · rw [if_pos h2] at h
        simp only [Array.mk.injEq, List.cons.injEq, Value.int.injEq, true_and, and_true] at h
        obtain ⟨m0, m1⟩ := inB_iff.1 h1
        obtain ⟨g0, g1⟩ := inB_iff.1 h2
        obtain ⟨_, _, _, _, _, p0, p1⟩ := dep_tot hb
        have k0 : 0 ≤ max (g - m) 0 := by omega
        have k1 : max (g - m) 0 ≤ g := by omega
        refine ⟨?_, ?_, ?_, ?_⟩
        · rw [← h]; exact Int.ediv_nonneg (Int.mul_nonneg p0 k0) (by omega)
        · rw [← h]
          have := Int.mul_le_mul_of_nonneg_left k1 p0
          exact Int.le_trans (Int.ediv_le_ediv (by omega) this) (by rw [Int.mul_ediv_cancel _ (by omega)]; exact Int.le_refl _)
        · intro e
          rw [← h, e, Int.sub_zero, Int.max_eq_left (by omega), Int.mul_ediv_cancel _ (by omega)]
        · intro e
          rw [← h, Int.max_eq_right (by omega), Int.mul_zero, Int.zero_ediv]
      · rw [if_neg h2] at h; simp at h
    · rw [if_neg h1] at h; simp at h
  · rw [if_neg hb] at h; simp at h
theorem offGo_facts (S t k : Int) (hk : 0 ≤ k) : ∀ (f : Nat) (off : Int), 0 ≤ off → off + f = 100 → (off = 0 ∨ k < totOf S (off - 1) t) →
    0 ≤ offGo S t k f off ∧ offGo S t k f off ≤ 100 ∧ totOf S (offGo S t k f off) t ≤ k ∧ (offGo S t k f off = 0 ∨ k < totOf S (offGo S t k f off - 1) t) := by
  intro f
  induction f with
  | zero =>
    intro off h0 h1 h2
    have e : off = 100 := by omega
    simp only [offGo]
    refine ⟨h0, by omega, ?_, h2⟩
    rw [e, tot_all]; exact hk
  | succ f ih =>
    intro off h0 h1 h2
    simp only [offGo]
    split
    · rename_i h
      exact ⟨h0, by omega, h, h2⟩
    · rename_i h
      refine ih (off + 1) (by omega) (by omega) (.inr ?_)
      rw [Int.add_sub_cancel]; omega
theorem bill_zero {xs : List Item} {o t p q : Int} (h : billB xs o t p = true) (q0 : 0 ≤ q) (q1 : q ≤ 100) : billB xs q t 0 = true := by
  obtain ⟨hf, _, ⟨t0, t1⟩, _, _⟩ := billB_few h
  obtain ⟨s0, s1⟩ := sum_bd hf
  have n1 := net_bd s0 q0 q1
  have n2 := tax_bd s0 q0 q1 t0 t1
  unfold billB at h ⊢
  simp only [Bool.and_eq_true, decide_eq_true_eq] at h ⊢
  refine ⟨⟨⟨⟨h.1.1.1.1, inB_iff.2 ⟨q0, q1⟩⟩, h.1.1.2⟩, h.1.2⟩, inB_iff.2 ⟨by omega, ?_⟩⟩
  unfold totOf; omega
theorem rOff_facts {xs : List Item} {o t p k n c : Int} (h : rOff xs o t p k = #[.int .i64 n, .int .i64 c]) (hc : c = 0) : ∃ T X : Int, rTot xs n t 0 = #[.int .i64 T, .int .i64 X, .int .i64 0] ∧ T ≤ k ∧ 0 ≤ n ∧ n ≤ 100 ∧
    (0 < n → ∃ T' X' : Int, rTot xs (n - 1) t 0 = #[.int .i64 T', .int .i64 X', .int .i64 0] ∧ k < T') := by
  subst hc
  unfold rOff at h
  by_cases hb : billB xs o t p = true
  · rw [if_pos hb] at h
    by_cases h1 : inB k 0 100000000000 = true
    · rw [if_pos h1] at h
      simp only [Array.mk.injEq, List.cons.injEq, Value.int.injEq, true_and, and_true] at h
      obtain ⟨k0, k1⟩ := inB_iff.1 h1
      obtain ⟨a0, a1, a2, a3⟩ := offGo_facts (sumGo xs 0) t k k0 100 0 (by omega) (by omega) (.inl rfl)
      rw [h] at a0 a1 a2 a3
      refine ⟨_, _, by unfold rTot; rw [if_pos (bill_zero hb a0 a1)], a2, a0, a1, fun hn => ⟨_, _, by unfold rTot; rw [if_pos (bill_zero hb (by omega) (by omega))], ?_⟩⟩
      rcases a3 with h3 | h3
      · omega
      · exact h3
    · rw [if_neg h1] at h; simp at h
  · rw [if_neg hb] at h; simp at h
end Go.Proofs.YtnhkdcebldppmaaDoor
