/- The words of commands: the program's and the reference's; the law walked. -/
import Derived.Test.YtiplnpbeoaefaaaOwn
namespace Go.Proofs.Ytiplnpbeoaefaaa
open Go.RowKit

def deskL : List ByteArray := [⟨#[97, 108, 116, 101, 114]⟩, ⟨#[99, 108, 97, 117, 115, 101]⟩, ⟨#[101, 110, 116, 101, 114]⟩, ⟨#[102, 105, 116]⟩, ⟨#[102, 111, 111, 116]⟩, ⟨#[108, 97, 115, 116]⟩, ⟨#[108, 97, 115, 116, 115]⟩, ⟨#[108, 111, 103]⟩, ⟨#[110, 101, 101, 100]⟩, ⟨#[114, 97, 105, 115, 101]⟩, ⟨#[115, 116, 121, 108, 101]⟩]
set_option maxRecDepth 100000 in
theorem DeskWords_c (w : World) : Calls Try.prog 30 #[] w (OutS 9 1 11 (flat scell deskL) w) := by
  have hown := World.ownsRow_lit (base := w.heap.size) (e := 9) (size := 1) w #[Value.string ⟨#[97, 108, 116, 101, 114]⟩, Value.string ⟨#[99, 108, 97, 117, 115, 101]⟩, Value.string ⟨#[101, 110, 116, 101, 114]⟩, Value.string ⟨#[102, 105, 116]⟩, Value.string ⟨#[102, 111, 111, 116]⟩, Value.string ⟨#[108, 97, 115, 116]⟩, Value.string ⟨#[108, 97, 115, 116, 115]⟩, Value.string ⟨#[108, 111, 103]⟩, Value.string ⟨#[110, 101, 101, 100]⟩, Value.string ⟨#[114, 97, 105, 115, 101]⟩, Value.string ⟨#[115, 116, 121, 108, 101]⟩] 11 (Nat.le_refl _) (by simp [maxLen]) (by simp)
  have HO := Lib.hid hown
  clear hown
  go_enter Try.func30, Try.ntmps30
  go_wp2_with fail
  go_returns
  exact ⟨w.heap.size, rfl, HO.out, bl_alloc (Below.refl _ _) _⟩

set_option maxRecDepth 100000 in
theorem l28Words_c (w : World) : Calls Try.prog 64 #[] w (OutS 9 1 11 (flat scell deskL) w) := by
  have hown := World.ownsRow_lit (base := w.heap.size) (e := 9) (size := 1) w #[Value.string ⟨#[97, 108, 116, 101, 114]⟩, Value.string ⟨#[99, 108, 97, 117, 115, 101]⟩, Value.string ⟨#[101, 110, 116, 101, 114]⟩, Value.string ⟨#[102, 105, 116]⟩, Value.string ⟨#[102, 111, 111, 116]⟩, Value.string ⟨#[108, 97, 115, 116]⟩, Value.string ⟨#[108, 97, 115, 116, 115]⟩, Value.string ⟨#[108, 111, 103]⟩, Value.string ⟨#[110, 101, 101, 100]⟩, Value.string ⟨#[114, 97, 105, 115, 101]⟩, Value.string ⟨#[115, 116, 121, 108, 101]⟩] 11 (Nat.le_refl _) (by simp [maxLen]) (by simp)
  have HO := Lib.hid hown
  clear hown
  go_enter Try.func64, Try.ntmps64
  go_wp2_with fail
  go_returns
  exact ⟨w.heap.size, rfl, HO.out, bl_alloc (Below.refl _ _) _⟩

theorem SDeskWords_c (w : World) : Calls Try.prog 29 #[] w (OutS 9 1 11 (flat scell deskL) w) := by
  go_enter Try.func29, Try.ntmps29
  go_wp2_with fail
  refine (l28Words_c _).mono ?_
  rintro e W ⟨g, rfl, hown, hb⟩
  go_wp2_with fail
  go_returns
  exact ⟨g, rfl, hown, hb⟩
theorem eqStringS_same (A B : Option Addr) (xs : List ByteArray) (n c d : Nat) (hn : Hid (xs.length = n)) (hz : (n : Int) ≤ 9223372036854775807) (w : World) (hA : Arr w A (flat scell xs)) (hB : Arr w B (flat scell xs)) :
    Calls Try.prog 31 #[.slice A n c, .slice B n d] w (Ret (.bool true) w) := by
  have h := eqStringS_c A B xs xs n n c d hn hn hz w hA hB
  rwa [decide_eq_true rfl] at h
set_option maxRecDepth 100000 in
set_option maxHeartbeats 2000000 in
theorem FnExactDeskWords_law (w : World) : Calls Try.prog 8 #[] w (Ret (.bool true) w) := by
  obtain ⟨l, hl⟩ : ∃ l, l = deskL := ⟨_, rfl⟩
  have hr1 := Lib.hid (show l.length = 11 by rw [hl]; rfl)
  have HW := fun w => SDeskWords_c w
  have HG' := fun w => DeskWords_c w
  rw [← hl] at HW HG'
  clear hl
  replace HW := Lib.hid HW
  replace HG' := Lib.hid HG'
  have hv := Below.refl w.heap.size w
  go_enter Try.func8, Try.ntmps8
  go_wp2_with fail
  refine (HW.out _).mono ?_
  rintro e W ⟨g1, rfl, how, hb⟩
  obtain ⟨lw, uw, h_own, z0, z1⟩ := Own.named how hb
  replace how := h_own
  clear h_own
  have z2 := Lib.hid hb.size
  replace hv := bl_trans hv hb
  clear hb
  go_wp2_with fail
  refine (HG'.out _).mono ?_
  rintro e W ⟨g2, rfl, hog, hb⟩
  obtain ⟨lg, ug, h_own, z3, z4⟩ := Own.named hog hb
  replace hog := h_own
  clear h_own
  have z5 := Lib.hid hb.size
  replace hv := bl_trans hv hb
  replace how := how.below hb
  clear hb
  go_wp2_with fail
  refine (eqStringS_same _ _ l 11 11 11 hr1 (by omega) _ hog.arr how.arr).mono ?_
  rintro e W ⟨rfl, hb⟩
  have z6 := Lib.hid hb.size
  replace hv := bl_trans hv hb
  replace how := how.below hb
  replace hog := hog.below hb
  clear hb
  go_wp2_with fail
  refine (markStringS_c _ 11 11 lg _ 1 (by omega) (by omega) (by omega) _ hog.1).mono ?_
  rintro e W ⟨rfl, hown, hg⟩
  have y0 := z0.out
  have y1 := z1.out
  have y2 := z2.out
  have y3 := z3.out
  have y4 := z4.out
  have y5 := z5.out
  have y6 := z6.out
  have hr := hog.row
  have l_how := how.2.1
  have l_hog := hog.2.1
  replace hv := bl_grown hv hg (fun k e => by have h1 := hr k e; omega)
  replace how := how.grown hg (fun k e => by have h1 := hr k e; omega)
  replace hog := hog.marked hg hown
  clear hg hown hr l_how l_hog
  clear y0 y1 y2 y3 y4 y5 y6
  go_wp2_with fail
  refine (heldStringS_c _ 11 11 1 (by omega) (by omega) (by omega) _ hog.arr).mono ?_
  rintro e W ⟨rfl, hb⟩
  have z7 := Lib.hid hb.size
  replace hv := bl_trans hv hb
  replace how := how.below hb
  replace hog := hog.below hb
  clear hb
  go_wp2_with fail
  refine (HG'.out _).mono ?_
  rintro e W ⟨g3, rfl, hoh, hb⟩
  obtain ⟨lh, uh, h_own, z8, z9⟩ := Own.named hoh hb
  replace hoh := h_own
  clear h_own
  have z10 := Lib.hid hb.size
  replace hv := bl_trans hv hb
  replace how := how.below hb
  replace hog := hog.below hb
  clear hb
  go_wp2_with fail
  refine (eqStringS_same _ _ l 11 11 11 hr1 (by omega) _ hoh.arr how.arr).mono ?_
  rintro e W ⟨rfl, hb⟩
  have z11 := Lib.hid hb.size
  replace hv := bl_trans hv hb
  replace how := how.below hb
  replace hog := hog.below hb
  replace hoh := hoh.below hb
  clear hb
  go_wp2_with fail
  refine (heldStringS_c _ 11 11 1 (by omega) (by omega) (by omega) _ hog.arr).mono ?_
  rintro e W ⟨rfl, hb⟩
  have z12 := Lib.hid hb.size
  replace hv := bl_trans hv hb
  replace how := how.below hb
  replace hog := hog.below hb
  replace hoh := hoh.below hb
  clear hb
  go_wp2_with fail
  go_returns
  exact Ret.mk rfl hv

end Go.Proofs.Ytiplnpbeoaefaaa
