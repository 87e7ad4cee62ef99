
/- The laws on the best soles, walked. -/
import Derived.Test.YtefkfkdpfecnoaaBstW
import Derived.Test.YtefkfkdpfecnoaaSolL
import Derived.Test.YtefkfkdpfecnoaaOwn
namespace Go.Proofs.Ytefkfkdpfecnoaa
open Go.RowKit

theorem bestL_len (xs : List Stuff) (T S : Int) (f : Stuff → Int) : (bestL xs T S f).length ≤ 6 := by
  unfold bestL
  repeat' split
  all_goals first | exact bestV_len xs T S f | simp
theorem addr_lt {w : World} {base e s n : Nat} {g : Nat} {c : Nat} {cs : List Value} (h : w.ownsRow base e s (.slice (some ⟨g, 0, none⟩) n c) n cs) : ∀ ad, some (⟨g, 0, none⟩ : Addr) = some ad → ad.block < w.heap.size := by
  intro ad e
  injection e with e
  subst e
  exact own_lt h g rfl
end Go.Proofs.Ytefkfkdpfecnoaa
