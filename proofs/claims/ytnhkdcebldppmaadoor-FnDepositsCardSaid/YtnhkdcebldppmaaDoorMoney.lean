/- Money as text: the program's and the reference's functions; the law walked. -/
import Derived.Test.YtnhkdcebldppmaaDoorDec
import Derived.Test.YtnhkdcebldppmaaDoorShelf
import Derived.Lib.AppendIntMem
import Derived.WalkSmall
namespace Go.Proofs.YtnhkdcebldppmaaDoor
open Go.RowKit

def Pow10 (w : World) : Prop := Lib.TabIs Tryd.prog w "internal/strconv.uint64pow10" .u64 Lib.pow10Tab
theorem g_pow10 : Tryd.prog.globalNamed "internal/strconv.uint64pow10" = some 0 := by kernel_rfl
theorem Pow10.lt {w : World} (h : Pow10 w) : 0 < w.heap.size := by
  have h1 := Lib.TabIs.cell h g_pow10 0 (by rw [Lib.pow10Tab_length]; omega)
  exact block_lt_of_cell h1
theorem Pow10.below {w w' : World} (h : Pow10 w) (hb : Below w.heap.size w w') : Pow10 w' := var?_below hb g_pow10 h.lt h
theorem Decimal_c (n : Nat) (hn : (n : Int) ≤ 1000000000000000000) (w : World) (hT : Pow10 w) : Calls Tryd.prog 54 #[.int .i64 n] w (Ret (.string (decB n)) w) := by
  have HT := Lib.hid hT
  clear hT
  go_enter Tryd.func54, Tryd.ntmps54
  go_wp2_with fail
  refine (Tryd.strconv_FormatInt_10 n (by omega) (by omega) _ HT.out).mono ?_
  rintro e W ⟨rfl, k, os, rfl⟩
  go_wp2_with fail
  go_returns
  exact Ret.mk rfl (Lib.below_grow _ w (Nat.le_refl _) k os)
theorem l26Money_c (n : Int) (w : World) : Calls Tryd.prog 51 #[.int .i64 n] w (RetQ (.bool (inB n 0 100000000000)) w) := by
  go_enter Tryd.func51, Tryd.ntmps51
  go_wp2_with (go_at_call 47; refine (l00In_c _ _ _ _).mono ?_; rintro e w' ⟨rfl, rfl⟩)
  go_returns
  exact RetQ.mk rfl
theorem nDigits_le : ∀ u : Nat, Lib.nDigits u ≤ u + 1 := by
  intro u
  induction u using Nat.strongRecOn with
  | ind u ih =>
    by_cases h : u < 10
    · rw [Lib.nDigits_small h]; omega
    · rw [Lib.nDigits_big h]; have := ih (u / 10) (by omega); omega
theorem decB_size (n : Nat) : (decB n).size ≤ n + 1 := by
  have h : (Lib.itoa (n : Int)).length = Lib.nDigits n := by
    unfold Lib.itoa
    rw [if_neg (by omega), Int.toNat_natCast, Lib.decDigits_length]
  have h2 := nDigits_le n
  unfold decB
  rw [ByteArray.size_mk', List.size_toArray, h]
  exact h2
def mB (c : Nat) : ByteArray := decB (c / 100) ++ ⟨#[46]⟩ ++ decB (c / 10 % 10) ++ decB (c % 10)
def moneyB (n : Int) : ByteArray := if inB n 0 100000000000 = true then mB n.toNat else ⟨#[]⟩
set_option maxRecDepth 100000 in
set_option maxHeartbeats 1600000 in
theorem l26Cents_c (c : Nat) (hc : (c : Int) ≤ 100000000000) (w : World) : Calls Tryd.prog 57 #[.int .i64 c] w (Ret (.string (mB c)) w) := by
  obtain ⟨a, ha⟩ : ∃ a : Nat, (c : Int) / 100 = (a : Int) := ⟨c / 100, by omega⟩
  obtain ⟨b, hb10⟩ : ∃ b : Nat, (c : Int) / 10 % 10 = (b : Int) := ⟨c / 10 % 10, by omega⟩
  obtain ⟨d, hd⟩ : ∃ d : Nat, (c : Int) % 10 = (d : Int) := ⟨c % 10, by omega⟩
  have hb100 : (c : Int) % 100 / 10 = (b : Int) := by omega
  have HM := Lib.hid (show mB c = decB a ++ ⟨#[46]⟩ ++ decB b ++ decB d by
    unfold mB
    rw [show c / 100 = a from by omega, show c / 10 % 10 = b from by omega, show c % 10 = d from by omega])
  have ha1 : (a : Int) ≤ 1000000000 := by omega
  have hb1 : (b : Int) ≤ 9 := by omega
  have hd1 : (d : Int) ≤ 9 := by omega
  have sa := decB_size a
  have sb := decB_size b
  have sd := decB_size d
  have hadd1 := fun (w : World) => run_string_add_sum (P := Tryd.prog) w (decB a) ⟨#[46]⟩ (by rw [show (ByteArray.mk #[46]).size = 1 from rfl]; omega)
  have hadd2 := fun (w : World) => run_string_add_sum (P := Tryd.prog) w (decB a ++ ⟨#[46]⟩) (decB b) (by rw [ByteArray.size_append', show (ByteArray.mk #[46]).size = 1 from rfl]; omega)
  have hadd3 := fun (w : World) => run_string_add_sum (P := Tryd.prog) w (decB a ++ ⟨#[46]⟩ ++ decB b) (decB d) (by rw [ByteArray.size_append', ByteArray.size_append', show (ByteArray.mk #[46]).size = 1 from rfl]; omega)
  clear sa sb sd
  go_enter Tryd.func57, Tryd.ntmps57
  go_wp2_with fail
  refine (l01Dec_c a (by omega) _).mono ?_
  rintro e W ⟨rfl, h1⟩
  go_wp2_with fail
  refine (l01Dec_c b (by omega) _).mono ?_
  rintro e W2 ⟨rfl, h2⟩
  go_wp2_with fail
  refine (l01Dec_c d (by omega) _).mono ?_
  rintro e W3 ⟨rfl, h3⟩
  go_wp2_with fail
  go_returns
  exact Ret.mk (vs (by rw [HM.out])) (bl_trans (bl_trans h1 h2) h3)
set_option maxRecDepth 100000 in
set_option maxHeartbeats 1600000 in
theorem SMoneyText_c (n : Int) (w : World) : Calls Tryd.prog 21 #[.int .i64 n] w (Ret (.string (moneyB n)) w) := by
  cases hi : inB n 0 100000000000
  · have hin := fun w => l26Money_c n w
    rw [hi] at hin
    replace hin := Lib.hid hin
    have HV := Lib.hid (show moneyB n = ⟨#[]⟩ by unfold moneyB; rw [if_neg (by simp [hi])])
    clear hi
    go_enter Tryd.func21, Tryd.ntmps21
    go_wp2_with fail
    refine (hin.out _).mono ?_
    rintro e w' ⟨rfl, rfl⟩
    go_wp2_with fail
    go_returns
    exact Ret.mk (vs HV.out.symm) (Below.refl _ _)
  · have hin := fun w => l26Money_c n w
    rw [hi] at hin
    replace hin := Lib.hid hin
    obtain ⟨h0, h4⟩ := inB_iff.1 hi
    have HV := Lib.hid (show moneyB n = mB n.toNat by unfold moneyB; rw [if_pos hi])
    clear hi
    obtain ⟨c, rfl⟩ := Int.eq_ofNat_of_zero_le h0
    go_enter Tryd.func21, Tryd.ntmps21
    go_wp2_with fail
    refine (hin.out _).mono ?_
    rintro e w' ⟨rfl, rfl⟩
    go_wp2_with fail
    refine (l26Cents_c c h4 _).mono ?_
    rintro e W ⟨rfl, hb⟩
    go_wp2_with fail
    go_returns
    exact Ret.mk (vs (by rw [HV.out]; rfl)) hb
set_option maxRecDepth 100000 in
set_option maxHeartbeats 1600000 in
theorem MoneyText_c (n : Int) (w : World) (hT : Pow10 w) : Calls Tryd.prog 20 #[.int .i64 n] w (Ret (.string (moneyB n)) w) := by
  have HT := Lib.hid hT
  clear hT
  cases hi : inB n 0 100000000000
  · have hin := fun w => within_c n 0 100000000000 w
    rw [hi] at hin
    replace hin := Lib.hid hin
    have HV := Lib.hid (show moneyB n = ⟨#[]⟩ by unfold moneyB; rw [if_neg (by simp [hi])])
    clear hi
    go_enter Tryd.func20, Tryd.ntmps20
    go_wp2_with fail
    refine (hin.out _).mono ?_
    rintro e w' ⟨rfl, rfl⟩
    go_wp2_with fail
    go_returns
    exact Ret.mk (vs HV.out.symm) (Below.refl _ _)
  · have hin := fun w => within_c n 0 100000000000 w
    rw [hi] at hin
    replace hin := Lib.hid hin
    obtain ⟨h0, hc⟩ := inB_iff.1 hi
    have HV := Lib.hid (show moneyB n = mB n.toNat by unfold moneyB; rw [if_pos hi])
    clear hi
    obtain ⟨c, rfl⟩ := Int.eq_ofNat_of_zero_le h0
    obtain ⟨a, ha⟩ : ∃ a : Nat, (c : Int) / 100 = (a : Int) := ⟨c / 100, by omega⟩
    obtain ⟨b, hb10⟩ : ∃ b : Nat, (c : Int) / 10 % 10 = (b : Int) := ⟨c / 10 % 10, by omega⟩
    obtain ⟨d, hd⟩ : ∃ d : Nat, (c : Int) % 10 = (d : Int) := ⟨c % 10, by omega⟩
    have hb100 : (c : Int) % 100 / 10 = (b : Int) := by omega
    have HM := Lib.hid (show mB c = decB a ++ ⟨#[46]⟩ ++ decB b ++ decB d by
      unfold mB
      rw [show c / 100 = a from by omega, show c / 10 % 10 = b from by omega, show c % 10 = d from by omega])
    have ha1 : (a : Int) ≤ 1000000000 := by omega
    have hb1 : (b : Int) ≤ 9 := by omega
    have hd1 : (d : Int) ≤ 9 := by omega
    have sa := decB_size a
    have sb := decB_size b
    have sd := decB_size d
    have hadd1 := fun (w : World) => run_string_add_sum (P := Tryd.prog) w (decB a) ⟨#[46]⟩ (by rw [show (ByteArray.mk #[46]).size = 1 from rfl]; omega)
    have hadd2 := fun (w : World) => run_string_add_sum (P := Tryd.prog) w (decB a ++ ⟨#[46]⟩) (decB b) (by rw [ByteArray.size_append', show (ByteArray.mk #[46]).size = 1 from rfl]; omega)
    have hadd3 := fun (w : World) => run_string_add_sum (P := Tryd.prog) w (decB a ++ ⟨#[46]⟩ ++ decB b) (decB d) (by rw [ByteArray.size_append', ByteArray.size_append', show (ByteArray.mk #[46]).size = 1 from rfl]; omega)
    clear sa sb sd
    go_enter Tryd.func20, Tryd.ntmps20
    go_wp2_with fail
    refine (hin.out _).mono ?_
    rintro e w' ⟨rfl, rfl⟩
    go_wp2_with fail
    refine (Decimal_c a (by omega) _ HT.out).mono ?_
    rintro e W ⟨rfl, h1⟩
    go_wp2_with fail
    refine (Decimal_c b (by omega) _ (HT.out.below h1)).mono ?_
    rintro e W2 ⟨rfl, h2⟩
    go_wp2_with fail
    refine (Decimal_c d (by omega) _ ((HT.out.below h1).below h2)).mono ?_
    rintro e W3 ⟨rfl, h3⟩
    go_wp2_with fail
    go_returns
    exact Ret.mk (vs (by rw [HV.out, Int.toNat_natCast, HM.out])) (bl_trans (bl_trans h1 h2) h3)
end Go.Proofs.YtnhkdcebldppmaaDoor
