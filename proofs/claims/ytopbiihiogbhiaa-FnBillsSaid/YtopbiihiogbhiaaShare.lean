/- A share of money: the program's (two words, divided) and the reference's (bit by bit). -/
import Derived.Test.YtopbiihiogbhiaaDivA
namespace Go.Proofs.Ytopbiihiogbhiaa
open Go.RowKit

theorem share_le {T P S : Nat} (hS : 0 < S) (hP : P ≤ S) : T * P / S ≤ T := by
  rw [Nat.div_le_iff_le_mul_add_pred hS]
  have h : T * P ≤ T * S := Nat.mul_le_mul_left _ hP
  rw [Nat.mul_comm S]
  omega
set_option maxRecDepth 100000 in
set_option maxHeartbeats 1000000 in
theorem share_c (T P S : Nat) (hS : 0 < S) (hP : P ≤ S) (hT : T ≤ 40000000000) (hS2 : S ≤ 20000000000) (w : World) :
    Calls Try.prog 85 #[.int .i64 T, .int .i64 P, .int .i64 S] w (Ret (.int .i64 ((T * P / S : Nat) : Int)) w) := by
  have hle := share_le (T := T) hS hP
  have hTP : T * P ≤ 40000000000 * 20000000000 := Nat.mul_le_mul hT (by omega)
  have hhi : T * P / 18446744073709551616 < S := by
    rw [Nat.div_lt_iff_lt_mul (by omega)]
    have h1 : T * P ≤ 40000000000 * S := Nat.mul_le_mul hT hP
    omega
  have hsp : T * P / 18446744073709551616 * 18446744073709551616 + T * P % 18446744073709551616 = T * P := by omega
  have c1 := Try.bits_Mul64 T P (by omega) (by omega)
  obtain ⟨H, hH⟩ : ∃ H, H = T * P / 18446744073709551616 := ⟨_, rfl⟩
  obtain ⟨L, hL⟩ : ∃ L, L = T * P % 18446744073709551616 := ⟨_, rfl⟩
  have hL2 : L < 18446744073709551616 := by omega
  have c1' : ∀ w, Calls Try.prog 110 #[.int .u64 (T : Int), .int .u64 (P : Int)] w (RetT #[.int .u64 (H : Int), .int .u64 (L : Int)] w) := by
    intro w
    rw [hH, hL]
    exact (c1 w).mono fun e w' ⟨h1, h2⟩ => ⟨h1, by rw [h2]; exact Below.refl _ _⟩
  rw [← hH] at hhi hsp
  rw [← hL] at hsp
  have c2 := fun w => Div64_c H L S hhi (by omega) hL2 w
  rw [hsp] at c2
  obtain ⟨q, hq⟩ : ∃ q, q = T * P / S := ⟨_, rfl⟩
  rw [← hq] at c2 hle ⊢
  have C1 := Lib.hid c1'
  have C2 := Lib.hid c2
  clear c1 c1' c2 hTP hH hL hsp hq hhi
  go_enter Try.func85, Try.ntmps85
  go_wp2_with fail
  refine (C1.out _).mono ?_
  rintro e W ⟨rfl, hb⟩
  go_wp2_with fail
  refine (C2.out _).mono ?_
  rintro e W2 ⟨r, rfl, hb2⟩
  have hb3 := bl_trans hb hb2
  go_wp2_with fail
  go_returns
  exact Ret.mk rfl hb3
end Go.Proofs.Ytopbiihiogbhiaa
