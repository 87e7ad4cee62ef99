/- Numbers in decimal: the program's function. -/
import Derived.Test.YtihgjmhhpiobbaaGreatDoorDecN
import Derived.Test.YtihgjmhhpiobbaaGreatDoorMoney
namespace Go.Proofs.YtihgjmhhpiobbaaGreatDoor
open Go.RowKit

theorem DecimalI_c (n : Int) (h0 : -1000000000000000000 ≤ n) (h1 : n ≤ 1000000000000000000) (w : World) (hT : Pow10 w) : Calls Tryz.prog 37 #[.int .i64 n] w (Ret (.string (decI n)) w) := by
  have HT := Lib.hid hT
  clear hT
  go_enter Tryz.func37, Tryz.ntmps37
  go_wp2_with fail
  refine (Tryz.strconv_FormatInt_10 n (by omega) (by omega) _ HT.out).mono ?_
  rintro e W ⟨rfl, k, os, rfl⟩
  go_wp2_with fail
  go_returns
  exact Ret.mk rfl (Lib.below_grow _ w (Nat.le_refl _) k os)
end Go.Proofs.YtihgjmhhpiobbaaGreatDoor
