/- Lemmas for the law on the console: the parts DrwS, DrwT, DrwP. -/
import Derived.Test.YtpiehlfffjhoaaaGreatDoorQ2
import Derived.Test.YtpiehlfffjhoaaaGreatDoorQ0
namespace Go.Proofs.YtpiehlfffjhoaaaGreatDoor
open Go.RowKit
theorem arr_new (w : World) (t : TypeId) (C : Array Value) : Arr (w.alloc (.cells C t)) (some ⟨w.heap.size, 0, none⟩) C.toList := fun _ => by
 refine ⟨_, rfl, by rw [World.size_alloc]; exact Nat.lt_succ_self _, fun j u hu => ?_⟩
 have hadd : (⟨w.heap.size, 0, none⟩ : Addr).add j = ⟨w.heap.size, j, none⟩ := by unfold Addr.add; split <;> simp_all
 rw [hadd, (Blk.new w t C).cell j]
 simpa using hu
end Go.Proofs.YtpiehlfffjhoaaaGreatDoor
