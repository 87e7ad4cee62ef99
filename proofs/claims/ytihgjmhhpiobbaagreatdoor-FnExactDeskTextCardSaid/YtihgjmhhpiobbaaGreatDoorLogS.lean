
/- The reference's LogOf. -/
import Derived.Test.YtihgjmhhpiobbaaGreatDoorLogP
namespace Go.Proofs.YtihgjmhhpiobbaaGreatDoor
open Go.RowKit

set_option maxRecDepth 100000 in
set_option maxHeartbeats 2000000 in
theorem l27Line_c (s : Int) (g : Addr) (x : Entry) (hx : entB x = true) (h0 : 0 ≤ s) (h1 : s ≤ 65518) (w : World) (c0 : w.cell? g = some (.int .i64 x.day)) (c1 : w.cell? ⟨g.block, g.off + 1, none⟩ = some (.string x.what)) (c2 : w.cell? ⟨g.block, g.off + 2, none⟩ = some (.int .i64 x.value)) :
    Calls Tryz.prog 134 #[.int .i64 s, .pointer (some g)] w (Ret (.string (lineE s x)) w) := by
  have z1 := wordsB_size hx
  have z2 := decI_size s
  have hwd := Lib.hid (l27Words_c g x hx w c0 c1 c2)
  obtain ⟨wd, hwd2⟩ : ∃ wd, wd = wordsB x := ⟨_, rfl⟩
  have HL := Lib.hid (show lineE s x = wd ++ ⟨#[32]⟩ ++ decI s ++ ⟨#[10]⟩ by rw [hwd2]; rfl)
  rw [← hwd2] at hwd z1
  have z3 : (ByteArray.mk #[32]).size = 1 := rfl
  have z4 : (ByteArray.mk #[10]).size = 1 := rfl
  have hadd1 := fun (w : World) => run_string_add_sum (P := Tryz.prog) w wd ⟨#[32]⟩ (by omega)
  have hadd2 := fun (w : World) => run_string_add_sum (P := Tryz.prog) w (wd ++ ⟨#[32]⟩) (decI s) (by rw [ByteArray.size_append']; omega)
  have hadd3 := fun (w : World) => run_string_add_sum (P := Tryz.prog) w (wd ++ ⟨#[32]⟩ ++ decI s) ⟨#[10]⟩ (by rw [ByteArray.size_append', ByteArray.size_append']; omega)
  clear z1 z2 z3 z4 hwd2 c0 c1 c2 hx
  go_enter Tryz.func134, Tryz.ntmps134
  go_wp2_with fail
  refine (hwd.out).mono ?_
  rintro e W ⟨rfl, hb⟩
  go_wp2_with fail
  refine (l01DecI_c s (by omega) (by omega) _).mono ?_
  rintro e W2 ⟨rfl, hb2⟩
  go_wp2_with fail
  go_returns
  exact Ret.mk (vs HL.out.symm) (bl_trans hb hb2)
end Go.Proofs.YtihgjmhhpiobbaaGreatDoor
