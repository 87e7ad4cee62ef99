/- The words of stages: the program's (a table) and the reference's; the law walked. -/
import Derived.Test.YtapnllbbdfoaaaaGreatDoorBase
namespace Go.Proofs.YtapnllbbdfoaaaaGreatDoor
open Go.RowKit

def wordAt (s : Int) : ByteArray := if s = 0 then ⟨#[116, 97, 107, 101, 110]⟩ else if s = 1 then ⟨#[102, 105, 116, 116, 105, 110, 103]⟩ else if s = 2 then ⟨#[109, 97, 107, 105, 110, 103]⟩ else if s = 3 then ⟨#[114, 101, 97, 100, 121]⟩ else if s = 4 then ⟨#[103, 111, 110, 101]⟩ else ⟨#[]⟩
/-- What the table of words holds. -/
def Words (w : World) : Prop := w.cell? ⟨0, 0, none⟩ = some (.string ⟨#[116, 97, 107, 101, 110]⟩) ∧ w.cell? ⟨0, 1, none⟩ = some (.string ⟨#[102, 105, 116, 116, 105, 110, 103]⟩) ∧ w.cell? ⟨0, 2, none⟩ = some (.string ⟨#[109, 97, 107, 105, 110, 103]⟩) ∧ w.cell? ⟨0, 3, none⟩ = some (.string ⟨#[114, 101, 97, 100, 121]⟩) ∧ w.cell? ⟨0, 4, none⟩ = some (.string ⟨#[103, 111, 110, 101]⟩)
set_option maxRecDepth 100000 in
set_option maxHeartbeats 1600000 in
theorem StageWord_c (s : Int) (w : World) (hW : Words w) : Calls Tryz.prog 27 #[.int .i64 s] w (RetQ (.string (wordAt s)) w) := by
  obtain ⟨c0, c1, c2, c3, c4⟩ := hW
  cases hi : inB s 0 4
  · have hin := fun w => within_c s 0 4 w
    rw [hi] at hin
    replace hin := Lib.hid hin
    have HW := Lib.hid (show wordAt s = ⟨#[]⟩ by
      have h := inB_false.1 hi
      unfold wordAt
      rw [if_neg (by omega), if_neg (by omega), if_neg (by omega), if_neg (by omega), if_neg (by omega)])
    clear hi
    go_enter Tryz.func27, Tryz.ntmps27
    go_wp2_with fail
    refine (hin.out _).mono ?_
    rintro e w' ⟨rfl, rfl⟩
    go_wp2_with fail
    go_returns
    exact RetQ.mk (vs HW.out.symm)
  · obtain ⟨h0, h4⟩ := inB_iff.1 hi
    clear hi
    rcases (show s = 0 ∨ s = 1 ∨ s = 2 ∨ s = 3 ∨ s = 4 by omega) with rfl | rfl | rfl | rfl | rfl
    · have hin := fun w => within_c 0 0 4 w
      rw [show inB 0 0 4 = true from rfl] at hin
      replace hin := Lib.hid hin
      clear h0 h4
      go_enter Tryz.func27, Tryz.ntmps27
      go_wp2_with fail
      refine (hin.out _).mono ?_
      rintro e w' ⟨rfl, rfl⟩
      go_wp2_with fail
      go_returns
      exact RetQ.mk rfl
    · have hin := fun w => within_c 1 0 4 w
      rw [show inB 1 0 4 = true from rfl] at hin
      replace hin := Lib.hid hin
      clear h0 h4
      go_enter Tryz.func27, Tryz.ntmps27
      go_wp2_with fail
      refine (hin.out _).mono ?_
      rintro e w' ⟨rfl, rfl⟩
      go_wp2_with fail
      go_returns
      exact RetQ.mk rfl
    · have hin := fun w => within_c 2 0 4 w
      rw [show inB 2 0 4 = true from rfl] at hin
      replace hin := Lib.hid hin
      clear h0 h4
      go_enter Tryz.func27, Tryz.ntmps27
      go_wp2_with fail
      refine (hin.out _).mono ?_
      rintro e w' ⟨rfl, rfl⟩
      go_wp2_with fail
      go_returns
      exact RetQ.mk rfl
    · have hin := fun w => within_c 3 0 4 w
      rw [show inB 3 0 4 = true from rfl] at hin
      replace hin := Lib.hid hin
      clear h0 h4
      go_enter Tryz.func27, Tryz.ntmps27
      go_wp2_with fail
      refine (hin.out _).mono ?_
      rintro e w' ⟨rfl, rfl⟩
      go_wp2_with fail
      go_returns
      exact RetQ.mk rfl
    · have hin := fun w => within_c 4 0 4 w
      rw [show inB 4 0 4 = true from rfl] at hin
      replace hin := Lib.hid hin
      clear h0 h4
      go_enter Tryz.func27, Tryz.ntmps27
      go_wp2_with fail
      refine (hin.out _).mono ?_
      rintro e w' ⟨rfl, rfl⟩
      go_wp2_with fail
      go_returns
      exact RetQ.mk rfl

set_option maxRecDepth 100000 in
set_option maxHeartbeats 1600000 in
theorem SStageWord_c (s : Int) (w : World) : Calls Tryz.prog 28 #[.int .i64 s] w (Ret (.string (wordAt s)) w) := by
  cases hi : inB s 0 4
  · have hin := fun w => l00In_c s 0 4 w
    rw [hi] at hin
    replace hin := Lib.hid hin
    have HW := Lib.hid (show wordAt s = ⟨#[]⟩ by
      have h := inB_false.1 hi
      unfold wordAt
      rw [if_neg (by omega), if_neg (by omega), if_neg (by omega), if_neg (by omega), if_neg (by omega)])
    clear hi
    go_enter Tryz.func28, Tryz.ntmps28
    go_wp2_with fail
    refine (hin.out _).mono ?_
    rintro e w' ⟨rfl, rfl⟩
    go_wp2_with fail
    go_returns
    exact Ret.mk (vs HW.out.symm) (bl_alloc (Below.refl _ _) _)
  · obtain ⟨h0, h4⟩ := inB_iff.1 hi
    clear hi
    rcases (show s = 0 ∨ s = 1 ∨ s = 2 ∨ s = 3 ∨ s = 4 by omega) with rfl | rfl | rfl | rfl | rfl
    · have hin := fun w => l00In_c 0 0 4 w
      rw [show inB 0 0 4 = true from rfl] at hin
      replace hin := Lib.hid hin
      clear h0 h4
      go_enter Tryz.func28, Tryz.ntmps28
      go_wp2_with fail
      refine (hin.out _).mono ?_
      rintro e w' ⟨rfl, rfl⟩
      go_wp2_with fail
      go_returns
      exact Ret.mk rfl (bl_alloc (Below.refl _ _) _)
    · have hin := fun w => l00In_c 1 0 4 w
      rw [show inB 1 0 4 = true from rfl] at hin
      replace hin := Lib.hid hin
      clear h0 h4
      go_enter Tryz.func28, Tryz.ntmps28
      go_wp2_with fail
      refine (hin.out _).mono ?_
      rintro e w' ⟨rfl, rfl⟩
      go_wp2_with fail
      go_returns
      exact Ret.mk rfl (bl_alloc (Below.refl _ _) _)
    · have hin := fun w => l00In_c 2 0 4 w
      rw [show inB 2 0 4 = true from rfl] at hin
      replace hin := Lib.hid hin
      clear h0 h4
      go_enter Tryz.func28, Tryz.ntmps28
      go_wp2_with fail
      refine (hin.out _).mono ?_
      rintro e w' ⟨rfl, rfl⟩
      go_wp2_with fail
      go_returns
      exact Ret.mk rfl (bl_alloc (Below.refl _ _) _)
    · have hin := fun w => l00In_c 3 0 4 w
      rw [show inB 3 0 4 = true from rfl] at hin
      replace hin := Lib.hid hin
      clear h0 h4
      go_enter Tryz.func28, Tryz.ntmps28
      go_wp2_with fail
      refine (hin.out _).mono ?_
      rintro e w' ⟨rfl, rfl⟩
      go_wp2_with fail
      go_returns
      exact Ret.mk rfl (bl_alloc (Below.refl _ _) _)
    · have hin := fun w => l00In_c 4 0 4 w
      rw [show inB 4 0 4 = true from rfl] at hin
      replace hin := Lib.hid hin
      clear h0 h4
      go_enter Tryz.func28, Tryz.ntmps28
      go_wp2_with fail
      refine (hin.out _).mono ?_
      rintro e w' ⟨rfl, rfl⟩
      go_wp2_with fail
      go_returns
      exact Ret.mk rfl (bl_alloc (Below.refl _ _) _)

theorem Words.below {w w' : World} (h : Words w) (hb : Below w.heap.size w w') : Words w' := ⟨bl_cell hb h.1, bl_cell hb h.2.1, bl_cell hb h.2.2.1, bl_cell hb h.2.2.2.1, bl_cell hb h.2.2.2.2⟩
end Go.Proofs.YtapnllbbdfoaaaaGreatDoor
