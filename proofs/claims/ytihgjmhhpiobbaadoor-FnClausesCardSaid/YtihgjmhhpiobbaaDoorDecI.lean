/- Numbers in decimal: the program's function. -/
import Derived.Test.YtihgjmhhpiobbaaDoorDecN
import Derived.Test.YtihgjmhhpiobbaaDoorMoney
namespace Go.Proofs.YtihgjmhhpiobbaaDoor
open Go.RowKit

theorem DecimalI_c (n : Int) (h0 : -1000000000000000000 ≤ n) (h1 : n ≤ 1000000000000000000) (w : World) (hT : Pow10 w) : Calls Tryd.prog 53 #[.int .i64 n] w (Ret (.string (decI n)) w) := by
  have HT := Lib.hid hT
  clear hT
  go_enter Tryd.func53, Tryd.ntmps53
  go_wp2_with fail
  refine (Tryd.strconv_FormatInt_10 n (by omega) (by omega) _ HT.out).mono ?_
  rintro e W ⟨rfl, k, os, rfl⟩
  go_wp2_with fail
  go_returns
  exact Ret.mk rfl (Lib.below_grow _ w (Nat.le_refl _) k os)
end Go.Proofs.YtihgjmhhpiobbaaDoor
