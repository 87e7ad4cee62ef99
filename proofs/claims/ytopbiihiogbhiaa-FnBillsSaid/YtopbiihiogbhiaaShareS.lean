/- The reference's share of money, bit by bit. -/
import Derived.Test.YtopbiihiogbhiaaShare
namespace Go.Proofs.Ytopbiihiogbhiaa
open Go.RowKit

def bitAt (j : Nat) : Nat := if j = 0 then 0 else 2 ^ (j - 1)
theorem bitAt_half (j : Nat) : 2 ^ j / 2 = bitAt j := by
  unfold bitAt
  split
  case isTrue h => subst h; rfl
  case isFalse h =>
    obtain ⟨i, rfl⟩ : ∃ i, j = i + 1 := ⟨j - 1, by omega⟩
    rw [Nat.add_sub_cancel, Nat.pow_succ, Nat.mul_div_cancel _ (by omega)]
theorem and_bit (P j : Nat) : P &&& 2 ^ j = if P.testBit j then 2 ^ j else 0 := by
  apply Nat.eq_of_testBit_eq
  intro k
  rw [Nat.testBit_and, Nat.testBit_two_pow]
  by_cases h : j = k
  · subst h
    cases P.testBit j <;> simp
  · cases P.testBit j <;> simp [h]
theorem bits_and_i64_nat (a b : Nat) (ha : a < 9223372036854775808) (hb : b < 9223372036854775808) : bits .and .i64 (a : Int) (b : Int) = ((a &&& b : Nat) : Int) := by
  have hx : a &&& b ≤ a := Nat.and_le_left
  have h1 : (BitVec.ofInt 64 (a : Int)).toNat = a := by
    rw [BitVec.ofInt_natCast, BitVec.toNat_ofNat]; exact Nat.mod_eq_of_lt (by omega)
  have h2 : (BitVec.ofInt 64 (b : Int)).toNat = b := by
    rw [BitVec.ofInt_natCast, BitVec.toNat_ofNat]; exact Nat.mod_eq_of_lt (by omega)
  show IntKind.i64.wrap ((BitVec.ofInt 64 (a : Int) &&& BitVec.ofInt 64 (b : Int)).toNat : Int) = _
  rw [BitVec.toNat_and, h1, h2]
  exact IntWalk.i64_in _ (by omega)
set_option maxRecDepth 100000 in
set_option maxHeartbeats 2000000 in
theorem SShare_c (T P S : Nat) (hS : 0 < S) (hP : P ≤ S) (hT : T ≤ 40000000000) (hS2 : S ≤ 20000000000) (w : World) :
    Calls Try.prog 88 #[.int .i64 T, .int .i64 P, .int .i64 S] w (Ret (.int .i64 ((T * P / S : Nat) : Int)) w) := by
  have h41 : P / 2 ^ 41 = 0 := Nat.div_eq_of_lt (by omega)
  go_enter Try.func88, Try.ntmps88
  go_wp2_with fail
  go_loopw [7, 8, 9] (fun wv rv bv wr => ∃ j wh re : Nat, j ≤ 41 ∧ wv = .int .i64 wh ∧ rv = .int .i64 re ∧ bv = .int .i64 (bitAt j) ∧ Hid (wh * S + re = T * (P / 2 ^ j)) ∧ re < S ∧ Below w.heap.size w wr) (fun _ _ bv _ => (intOf bv).toNat)
  case atStart => exact ⟨41, 0, 0, by omega, rfl, rfl, rfl, Lib.hid (by rw [h41]; simp), hS, Below.refl _ _⟩
  case round =>
    clear h41
    obtain ⟨j, wh, re, hj, rfl, rfl, rfl, hI, hre, hv⟩ := hrel
    by_cases h0 : j = 0
    · subst h0
      have hE := Lib.hid (share_end hre hI.out)
      have hb0 : (bitAt 0 : Int) = 0 := rfl
      go_wp2_with fail
      go_returns
      rw [hE.out]
      exact Ret.mk rfl hv
    · obtain ⟨i, rfl⟩ : ∃ i, j = i + 1 := ⟨j - 1, by omega⟩
      have hb : bitAt (i + 1) = 2 ^ i := by unfold bitAt; simp
      have hpos := Nat.two_pow_pos i
      have hle : 2 ^ i ≤ 2 ^ 40 := Nat.pow_le_pow_right (by omega) (by omega)
      obtain ⟨h1, h2⟩ := share_step hS hI.out
      have hwT : wh ≤ T := by
        have h3 : wh * S ≤ T * S := by
          have h4 := hI.out
          have h5 : T * (P / 2 ^ (i + 1)) ≤ T * S := Nat.mul_le_mul_left _ (Nat.le_trans (Nat.div_le_self _ _) hP)
          omega
        exact Nat.le_of_mul_le_mul_right h3 hS
      have hand : bits .and .i64 (P : Int) ((2 ^ i : Nat) : Int) = ((if P.testBit i then 2 ^ i else 0 : Nat) : Int) := by rw [← and_bit]; exact bits_and_i64_nat P (2 ^ i) (by omega) (by omega)
      have hhalf := bitAt_half i
      obtain ⟨B, hB⟩ : ∃ B, B = 2 ^ i := ⟨_, rfl⟩
      obtain ⟨B2, hB2⟩ : ∃ B2, B2 = bitAt i := ⟨_, rfl⟩
      rw [← hB] at hb hpos hle hand hhalf
      rw [← hB2] at hhalf
      have HB2 := Lib.hid hB2
      obtain ⟨t, ht⟩ : ∃ t, t = T / S := ⟨_, rfl⟩
      obtain ⟨u, hu⟩ : ∃ u, u = T % S := ⟨_, rfl⟩
      have hu2 : u < S := by rw [hu]; exact Nat.mod_lt _ hS
      have ht2 : t ≤ T := by rw [ht]; exact Nat.div_le_self _ _
      have hq1 : Int.tdiv (T : Int) (S : Int) = (t : Int) := by rw [ht]; rfl
      have hr1 : Int.tmod (T : Int) (S : Int) = (u : Int) := by rw [hu]; rfl
      have hb2 : Int.tdiv (B : Int) 2 = (B2 : Int) := by rw [← hhalf]; rfl
      have hS0 : ¬ (S : Int) = 0 := by omega
      have hB0 : (0 : Int) < (B : Int) := by omega
      have hB1 : (B : Int) ≤ 1099511627776 := by omega
      rw [hb]
      unfold shareStep at h1 h2
      rw [← ht, ← hu] at h1 h2
      have hlt : B2 < B := by omega
      clear hB hB2 ht hu hb hhalf hle
      by_cases hbit : P.testBit i = true
      · rw [if_pos hbit] at hand
        simp only [hbit, if_true] at h1 h2
        obtain ⟨c, hc⟩ : ∃ c, c = (2 * re + u) / S := ⟨_, rfl⟩
        obtain ⟨d, hd⟩ : ∃ d, d = (2 * re + u) % S := ⟨_, rfl⟩
        have hc2 : c ≤ 2 * re + u := by rw [hc]; exact Nat.div_le_self _ _
        have e0 : ((re : Int) * 2 + (u : Int)) = ((2 * re + u : Nat) : Int) := by omega
        have hq2 : Int.tdiv ((re : Int) * 2 + (u : Int)) (S : Int) = (c : Int) := by rw [e0, hc]; rfl
        have hr2 : Int.tmod ((re : Int) * 2 + (u : Int)) (S : Int) = (d : Int) := by rw [e0, hd]; rfl
        rw [← hc, ← hd] at h1
        rw [← hd] at h2
        have H1 := Lib.hid h1
        have H2 := Lib.hid h2
        have hne : ¬ (B : Int) = 0 := by omega
        clear hc hd e0 h1 h2 hbit
        go_wp2_with fail
        exact ⟨⟨i, 2 * wh + t + c, d, by omega, by go_num, by go_num, by rw [← HB2.out], H1, H2.out, hv⟩, by simp [intOf]; omega⟩
      · rw [if_neg hbit] at hand
        simp only [hbit] at h1 h2
        obtain ⟨c, hc⟩ : ∃ c, c = 2 * re / S := ⟨_, rfl⟩
        obtain ⟨d, hd⟩ : ∃ d, d = 2 * re % S := ⟨_, rfl⟩
        have hc2 : c ≤ 2 * re := by rw [hc]; exact Nat.div_le_self _ _
        have e0 : ((re : Int) * 2) = ((2 * re : Nat) : Int) := by omega
        have hq2 : Int.tdiv ((re : Int) * 2) (S : Int) = (c : Int) := by rw [e0, hc]; rfl
        have hr2 : Int.tmod ((re : Int) * 2) (S : Int) = (d : Int) := by rw [e0, hd]; rfl
        simp only [Bool.false_eq_true, if_false, Nat.add_zero] at h1 h2
        rw [← hc, ← hd] at h1
        rw [← hd] at h2
        have H1 := Lib.hid h1
        have H2 := Lib.hid h2
        clear hc hd e0 h1 h2 hbit
        go_wp2_with fail
        exact ⟨⟨i, 2 * wh + c, d, by omega, by go_num, by go_num, by rw [← HB2.out], H1, H2.out, hv⟩, by simp [intOf]; omega⟩
end Go.Proofs.Ytopbiihiogbhiaa
