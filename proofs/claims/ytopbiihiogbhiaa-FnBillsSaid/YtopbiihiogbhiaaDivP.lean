/- Division of a number of two words by one word, in plain numbers: the school method with halves of words. -/
import Derived.Test.YtopbiihiogbhiaaBase
namespace Go.Proofs.Ytopbiihiogbhiaa

/-- a quotient's digit that is too great -/
theorem dig_hi {U D Y1 Y0 q r : Nat} (h : q * Y1 + r = U) (hc : 4294967296 * r + D < q * Y0) (hp : 0 < Y1) : (U * 4294967296 + D) / (Y1 * 4294967296 + Y0) < q := by
  rw [Nat.div_lt_iff_lt_mul (by omega), Nat.mul_add, ← Nat.mul_assoc]
  omega
theorem dig_big {U D Y1 Y0 q : Nat} (hU : U < Y1 * 4294967296 + Y0) (hD : D < 4294967296) (hq : 4294967296 ≤ q) : (U * 4294967296 + D) / (Y1 * 4294967296 + Y0) < q := by
  refine Nat.lt_of_lt_of_le ?_ hq
  rw [Nat.div_lt_iff_lt_mul (by omega)]
  omega
theorem dig_le {U D Y1 Y0 q r : Nat} (h : q * Y1 + r = U) (hc : q * Y0 ≤ 4294967296 * r + D) (hp : 0 < Y1) : q ≤ (U * 4294967296 + D) / (Y1 * 4294967296 + Y0) := by
  rw [Nat.le_div_iff_mul_le (by omega), Nat.mul_add, ← Nat.mul_assoc]
  omega
theorem dig_break {U D Y1 Y0 q r : Nat} (h : q * Y1 + r = U) (hq : q ≤ 4294967296) (hr : 4294967296 ≤ r) (hY : Y0 < 4294967296) (hp : 0 < Y1) : q ≤ (U * 4294967296 + D) / (Y1 * 4294967296 + Y0) := by
  refine dig_le h ?_ hp
  have h1 : q * Y0 ≤ 4294967296 * 4294967296 := Nat.mul_le_mul hq (by omega)
  omega
/-- the first guess -/
theorem dig_first {U D Y1 Y0 : Nat} (hD : D < 4294967296) (hp : 0 < Y1) : (U * 4294967296 + D) / (Y1 * 4294967296 + Y0) ≤ U / Y1 := by
  rw [Nat.le_div_iff_mul_le hp]
  have h0 := Nat.div_mul_le_self (U * 4294967296 + D) (Y1 * 4294967296 + Y0)
  generalize (U * 4294967296 + D) / (Y1 * 4294967296 + Y0) = Q at h0 ⊢
  rw [Nat.mul_add, ← Nat.mul_assoc] at h0
  omega
theorem dig_first_le {U Y1 Y0 : Nat} (hU : U < Y1 * 4294967296 + Y0) (hY : Y0 < 4294967296) (h1 : 2147483648 ≤ Y1) : U / Y1 ≤ 4294967297 := by
  have : U / Y1 < 4294967298 := by
    rw [Nat.div_lt_iff_lt_mul (by omega)]
    omega
  omega
theorem dig_first_eq (U Y1 : Nat) : U / Y1 * Y1 + U % Y1 = U := by rw [Nat.mul_comm]; exact Nat.div_add_mod U Y1
/-- two digits make the quotient -/
theorem two_digits (N1 D Y : Nat) (hY : 0 < Y) : (N1 * 4294967296 + D) / Y = N1 / Y * 4294967296 + (N1 % Y * 4294967296 + D) / Y := by
  have h := Nat.div_add_mod N1 Y
  have e : N1 * 4294967296 + D = (N1 % Y * 4294967296 + D) + Y * (N1 / Y * 4294967296) := by
    rw [← Nat.mul_assoc]
    omega
  rw [e, Nat.add_mul_div_left _ _ hY]
  omega
/-- the whole: a number of two words, moved by s places, and its digits -/
theorem div_moved (hi lo y s : Nat) (U D1 D0 Y : Nat) (hy : 0 < y) (hY : Y = y * 2 ^ s) (hX : (hi * 18446744073709551616 + lo) * 2 ^ s = U * 18446744073709551616 + D1 * 4294967296 + D0) :
    (U * 4294967296 + D1) / Y * 4294967296 + ((U * 4294967296 + D1) % Y * 4294967296 + D0) / Y = (hi * 18446744073709551616 + lo) / y := by
  have h2 : 0 < 2 ^ s := Nat.two_pow_pos s
  rw [← two_digits _ _ _ (by rw [hY]; exact Nat.mul_pos hy h2)]
  rw [← Nat.mul_div_mul_right (hi * 18446744073709551616 + lo) y h2, hX, hY, Nat.add_mul, Nat.mul_assoc U]

/-- total * part / sum by the bits of the part -/
def shareStep (total sum : Nat) (b : Bool) (wr : Nat × Nat) : Nat × Nat :=
  let h := 2 * wr.1 + (if b then total / sum else 0)
  let r := 2 * wr.2 + (if b then total % sum else 0)
  (h + r / sum, r % sum)
theorem share_step {total sum part j : Nat} {wh re : Nat} (hs : 0 < sum) (h : wh * sum + re = total * (part / 2 ^ (j + 1))) :
    (shareStep total sum (part.testBit j) (wh, re)).1 * sum + (shareStep total sum (part.testBit j) (wh, re)).2 = total * (part / 2 ^ j) ∧ (shareStep total sum (part.testBit j) (wh, re)).2 < sum := by
  refine ⟨?_, Nat.mod_lt _ hs⟩
  have hb : part / 2 ^ j = 2 * (part / 2 ^ (j + 1)) + (part.testBit j).toNat := by
    rw [Nat.pow_succ, ← Nat.div_div_eq_div_mul, Nat.toNat_testBit]
    omega
  have hd := Nat.div_add_mod total sum
  rw [hb]
  simp only [shareStep]
  cases part.testBit j
  · simp only [Bool.false_eq_true, if_false, Nat.add_zero, Bool.toNat_false]
    have hm := Nat.div_add_mod (2 * re) sum
    rw [Nat.add_mul, Nat.mul_comm (2 * re / sum) sum, Nat.mul_assoc, Nat.mul_left_comm total 2, ← h]
    omega
  · simp only [if_true, Bool.toNat_true]
    have hm := Nat.div_add_mod (2 * re + total % sum) sum
    rw [Nat.mul_add total, Nat.mul_one, Nat.mul_left_comm total 2, ← h, Nat.add_mul, Nat.mul_comm ((2 * re + total % sum) / sum) sum, Nat.add_mul, Nat.mul_assoc 2, Nat.mul_comm (total / sum) sum]
    omega
theorem share_end {total sum part wh re : Nat} (hr : re < sum) (h : wh * sum + re = total * (part / 2 ^ 0)) : wh = total * part / sum := by
  rw [Nat.pow_zero, Nat.div_one] at h
  rw [← h, Nat.mul_comm, Nat.mul_add_div (by omega), Nat.div_eq_of_lt hr, Nat.add_zero]
end Go.Proofs.Ytopbiihiogbhiaa
