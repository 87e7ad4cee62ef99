
/- Money as text: the program's and the reference's functions; the law walked. -/
import Derived.Test.YtihgjmhhpiobbaaGreatDoorDec
import Derived.Test.YtihgjmhhpiobbaaGreatDoorShelf
import Derived.Lib.AppendIntMem
import Derived.WalkSmall
namespace Go.Proofs.YtihgjmhhpiobbaaGreatDoor
open Go.RowKit

def Pow10 (w : World) : Prop := Lib.TabIs Tryz.prog w "internal/strconv.uint64pow10" .u64 Lib.pow10Tab
theorem g_pow10 : Tryz.prog.globalNamed "internal/strconv.uint64pow10" = some 0 := by kernel_rfl
theorem Pow10.lt {w : World} (h : Pow10 w) : 0 < w.heap.size := by
  have h1 := Lib.TabIs.cell h g_pow10 0 (by rw [Lib.pow10Tab_length]; omega)
  exact block_lt_of_cell h1
theorem Pow10.below {w w' : World} (h : Pow10 w) (hb : Below w.heap.size w w') : Pow10 w' := var?_below hb g_pow10 h.lt h
theorem Decimal_c (n : Nat) (hn : (n : Int) ≤ 1000000000000000000) (w : World) (hT : Pow10 w) : Calls Tryz.prog 37 #[.int .i64 n] w (Ret (.string (decB n)) w) := by
  have HT := Lib.hid hT
  clear hT
  go_enter Tryz.func37, Tryz.ntmps37
  go_wp2_with fail
  refine (Tryz.strconv_FormatInt_10 n (by omega) (by omega) _ HT.out).mono ?_
  rintro e W ⟨rfl, k, os, rfl⟩
  go_wp2_with fail
  go_returns
  exact Ret.mk rfl (Lib.below_grow _ w (Nat.le_refl _) k os)
theorem nDigits_le : ∀ u : Nat, Lib.nDigits u ≤ u + 1 := by
  intro u
  induction u using Nat.strongRecOn with
  | ind u ih =>
    by_cases h : u < 10
    · rw [Lib.nDigits_small h]; omega
    · rw [Lib.nDigits_big h]; have := ih (u / 10) (by omega); omega
theorem decB_size (n : Nat) : (decB n).size ≤ n + 1 := by
  have h : (Lib.itoa (n : Int)).length = Lib.nDigits n := by
    unfold Lib.itoa
    rw [if_neg (by omega), Int.toNat_natCast, Lib.decDigits_length]
  have h2 := nDigits_le n
  unfold decB
  rw [ByteArray.size_mk', List.size_toArray, h]
  exact h2
def mB (c : Nat) : ByteArray := decB (c / 100) ++ ⟨#[46]⟩ ++ decB (c / 10 % 10) ++ decB (c % 10)
def moneyB (n : Int) : ByteArray := if inB n 0 100000000000 = true then mB n.toNat else ⟨#[]⟩
end Go.Proofs.YtihgjmhhpiobbaaGreatDoor
