
/- What the great laws share: the bound on the drawn bytes, lists compared, an owned list's address. -/
import Derived.Test.YtapnllbbdfoaaaaGreatDoorMCore
namespace Go.Proofs.YtapnllbbdfoaaaaGreatDoor
open Go.RowKit

theorem f6big_c (C : Option Addr) (n c : Nat) (w : World) : Calls Tryz.prog 4 #[.slice C n c] w (Ret (.bool (decide (4096 < n))) w) := by
  go_enter Tryz.func4, Tryz.ntmps4
  go_wp2_with fail
  go_returns
  refine Ret.mk (vb ?_) (Below.refl _ _)
  simp; omega
theorem own_addr_lt {w : World} {lo hi e s n c m : Nat} {A : Option Addr} {cs : List Value} (h : Own w lo hi e s m (.slice A n c) cs) : ∀ ad, A = some ad → ad.block < w.heap.size := by
  intro ad e
  subst e
  have h1 := h.2.2.2 ad.block (by simp [Value.ownBlock])
  have h2 := h.2.2.1
  omega
end Go.Proofs.YtapnllbbdfoaaaaGreatDoor
