/- An order's text is read back: plain Lean (not built yet). -/
import Derived.Test.YtapnllbbdfoaaaaGreatDoorRdO
namespace Go.Proofs.YtapnllbbdfoaaaaGreatDoor
open Go.RowKit

theorem bw_dataR (t : ByteArray) : (⟨t.data.toList.toArray⟩ : ByteArray) = t := by cases t; simp
theorem rd_text {x : Order} (h : ordB x = true) : rdO (textO x).data.toList = some x := by
  obtain ⟨h1, h2, h3, h4, h5⟩ := ordB_all h
  have hm : mkO (Lib.itoa x.id) x.customer.data.toList (wordAt x.stage).data.toList (Lib.itoa x.due) (Lib.itoa x.left) (Lib.itoa x.fittings) = x := by
    unfold mkO
    rw [(itoa_bare x.id).2, (itoa_bare x.due).2, (itoa_bare x.left).2, (itoa_bare x.fittings).2, stg_word h2.1 h2.2, bw_dataR]
  have hs : spl 32 (textO x).data.toList = [35 :: Lib.itoa x.id, x.customer.data.toList, (wordAt x.stage).data.toList, bDue, Lib.itoa x.due, bLeft, Lib.itoa x.left, bFit, Lib.itoa x.fittings] := by rw [spl_text h]; rfl
  rw [rdO_nine hs]
  have e : (35 :: Lib.itoa x.id : List UInt8).drop 1 = Lib.itoa x.id := rfl
  have hl : decide (2 ≤ (35 :: Lib.itoa x.id : List UInt8).length) = true := by
    rw [decide_eq_true_eq, List.length_cons]
    have hi := (itoa_bare x.id).1
    have h9 := (dig_all x.id.natAbs).2
    cases hv : Lib.itoa x.id with
    | nil => rw [hv] at hi; rw [← hi] at h9; simp [bare] at h9
    | cons c r => simp
  rw [e, hm, h, okN_itoa (by omega) (by omega), okN_itoa (by omega) (by omega), okN_itoa (by omega) (by omega), okN_itoa (by omega) (by omega), hl]
  simp
theorem rd_empty : rdO (⟨#[]⟩ : ByteArray).data.toList = none := by
  apply rdO_short
  decide
end Go.Proofs.YtapnllbbdfoaaaaGreatDoor
