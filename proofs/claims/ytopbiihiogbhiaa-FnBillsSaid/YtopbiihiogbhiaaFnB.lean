/- What the great laws share: the bound on the drawn bytes, lists compared, an owned list's address. -/
import Derived.Test.YtopbiihiogbhiaaOwn
import Derived.Test.YtopbiihiogbhiaaFam
namespace Go.Proofs.Ytopbiihiogbhiaa
open Go.RowKit

theorem f6big_c (C : Option Addr) (n c : Nat) (w : World) : Calls Try.prog 5 #[.slice C n c] w (Ret (.bool (decide (4096 < n))) w) := by
  go_enter Try.func5, Try.ntmps5
  go_wp2_with fail
  go_returns
  refine Ret.mk (vb ?_) (Below.refl _ _)
  simp; omega
theorem f6ints_same (A B : Option Addr) (xs : List Int) (n c d : Nat) (hn : Hid (xs.length = n)) (hz : (n : Int) ≤ 9223372036854775807) (w : World) (hA : Arr w A (flat icell xs)) (hB : Arr w B (flat icell xs)) :
    Calls Try.prog 23 #[.slice A n c, .slice B n d] w (Ret (.bool true) w) := by
  have h := f6ints_c A B xs xs n n c d hn hn hz w hA hB
  rwa [decide_eq_true rfl] at h
theorem own_addr_lt {w : World} {lo hi e s n c m : Nat} {A : Option Addr} {cs : List Value} (h : Own w lo hi e s m (.slice A n c) cs) : ∀ ad, A = some ad → ad.block < w.heap.size := by
  intro ad e
  subst e
  have h1 := h.2.2.2 ad.block (by simp [Value.ownBlock])
  have h2 := h.2.2.1
  omega
end Go.Proofs.Ytopbiihiogbhiaa
