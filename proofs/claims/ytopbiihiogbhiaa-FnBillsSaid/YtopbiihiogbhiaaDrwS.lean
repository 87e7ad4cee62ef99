/- Drawn materials. -/
import Derived.Test.YtopbiihiogbhiaaSrc
namespace Go.Proofs.Ytopbiihiogbhiaa
open Go.RowKit

def drwS (x : Stuff) : Prop := (0 ≤ x.thick ∧ x.thick ≤ 1000) ∧ (0 ≤ x.gram ∧ x.gram ≤ 1000) ∧ (0 ≤ x.stiff ∧ x.stiff ≤ 1000) ∧ (0 ≤ x.price ∧ x.price ≤ 1000)
def OutNew (s : ByteArray) (g q : Nat) (w : World) (e : Ending) (w' : World) : Prop := ∃ x : Stuff, e = .returned x.val ∧ x.name = s ∧ drwS x ∧ Src w' g (q + 8) ∧ w.grownBy w' (some g)
set_option maxRecDepth 100000 in
set_option maxHeartbeats 2000000 in
theorem l17New_c (g q : Nat) (s : ByteArray) (hq : q ≤ 800000000000) (w : World) (hS : Src w g q) : Calls Try.prog 115 #[.pointer (some ⟨g, 0, none⟩), .string s] w (OutNew s g q w) := by
  have HS := Lib.hid hS
  have hgw := hS.lt
  clear hS
  go_enter Try.func115, Try.ntmps115
  go_wp2_with fail
  have hX0 := Blk.new w 46 #[.string ⟨#[]⟩, .int .i64 0, .int .i64 0, .int .i64 0, .int .i64 0]
  have hg0 := grown_of_below (bl_alloc (Below.refl w.heap.size w) (.cells #[.string ⟨#[]⟩, .int .i64 0, .int .i64 0, .int .i64 0, .int .i64 0] 46)) (some g)
  refine (pick_c g q 10 (by omega) (by omega) _ (HS.out.below (bl_alloc (Below.refl _ _) _))).mono ?_
  rintro e W1 ⟨r1, rfl, r10, r11, hS1, hg1⟩
  have hX1 := hX0.grown hg1 (by intro e; injection e; omega)
  have HZ := hX1
  have hwW := hg1.size
  rw [World.size_alloc] at hwW
  have hG1 := grown_trans hg0 hg1
  have HS1 := Lib.hid hS1
  have HX1 := Lib.hid hX1
  have HG1 := Lib.hid hG1
  clear hX0 hg0 hS1 hg1 hX1 hG1
  go_wp2_with fail
  have hX1 := Blk.new W1 46 #[.string s, .int .i64 (5 + 5 * r1), .int .i64 0, .int .i64 0, .int .i64 0]
  have hg0 := grown_below HG1.out (bl_alloc (Below.refl W1.heap.size W1) (.cells #[.string s, .int .i64 (5 + 5 * r1), .int .i64 0, .int .i64 0, .int .i64 0] 46))
  have hgW1 := HS1.out.lt
  refine (pick_c g (q + 2) 100 (by omega) (by omega) _ (HS1.out.below (bl_alloc (Below.refl _ _) _))).mono ?_
  rintro e W2 ⟨r2, rfl, r20, r21, hS1, hg1⟩
  have hX2 := hX1.grown hg1 (by intro e; injection e; omega)
  replace HZ := (HZ.alloc (.cells #[.string s, .int .i64 (5 + 5 * r1), .int .i64 0, .int .i64 0, .int .i64 0] 46)).grown hg1 (by intro e; injection e; omega)
  have hG1 := grown_trans hg0 hg1
  have HS2 := Lib.hid hS1
  have HX2 := Lib.hid hX2
  have HG2 := Lib.hid hG1
  have k0 := hX2.cell 0
  have k1 := hX2.cell 1
  have k2 := hX2.cell 2
  have k3 := hX2.cell 3
  have k4 := hX2.cell 4
  have f2 := hX2.frozen 2
  have f3 := hX2.frozen 3
  have f4 := hX2.frozen 4
  clear hX1 hg0 hS1 hg1 hX2 hG1
  go_wp2_with fail
  have hgx : g < W1.heap.size := hgW1
  have hS2' := HS2.out.far (p := ⟨W1.heap.size, 2, none⟩) hgx (.int .i64 (20 + r2))
  have hX2' := HX2.out.set_ 2 (.int .i64 (20 + r2))
  have hG2' := grown_setCell (p := ⟨W1.heap.size, 2, none⟩) HG2.out (.inr HG1.out.size) (.int .i64 (20 + r2))
  clear k0 k1 k2 k3 k4 f2 f3 f4
  refine (pick_c g (q + 4) 60 (by omega) (by omega) _ hS2').mono ?_
  rintro e W3 ⟨r3, rfl, r30, r31, hS1, hg1⟩
  have hX3 := hX2'.grown hg1 (by intro e; injection e; omega)
  replace HZ := (HZ.far (p := ⟨W1.heap.size, 2, none⟩) (by simp only; omega) (.int .i64 (20 + r2))).grown hg1 (by intro e; injection e; omega)
  have HS3 := Lib.hid hS1
  have HX3 := Lib.hid hX3
  have HG3 := Lib.hid (grown_trans hG2' hg1)
  have k3 := hX3.cell 3
  have f3 := hX3.frozen 3
  clear hS2' hX2' hG2' hS1 hg1 hX3
  go_wp2_with fail
  have hS2' := HS3.out.far (p := ⟨W1.heap.size, 3, none⟩) hgx (.int .i64 r3)
  have hX2' := HX3.out.set_ 3 (.int .i64 r3)
  have hG2' := grown_setCell (p := ⟨W1.heap.size, 3, none⟩) HG3.out (.inr HG1.out.size) (.int .i64 r3)
  refine (pick_c g (q + 6) 60 (by omega) (by omega) _ hS2').mono ?_
  rintro e W4 ⟨r4, rfl, r40, r41, hS1, hg1⟩
  have hX4 := hX2'.grown hg1 (by intro e; injection e; omega)
  replace HZ := ((HZ.far (p := ⟨W1.heap.size, 3, none⟩) (by simp only; omega) (.int .i64 r3)).grown hg1 (by intro e; injection e; omega)).far (p := ⟨W1.heap.size, 4, none⟩) (by simp only; omega) (.int .i64 (10 * r4))
  have k4 := hX4.cell 4
  have f4 := hX4.frozen 4
  have hX5 := hX4.set_ 4 (.int .i64 (10 * r4))
  have HS4 := Lib.hid (hS1.far (p := ⟨W1.heap.size, 4, none⟩) hgx (.int .i64 (10 * r4)))
  have HG4 := Lib.hid (grown_setCell (p := ⟨W1.heap.size, 4, none⟩) (grown_trans hG2' hg1) (.inr HG1.out.size) (.int .i64 (10 * r4)))
  have c0 := hX5.cell 0
  have c1 := hX5.cell 1
  have c2 := hX5.cell 2
  have c3 := hX5.cell 3
  have c4 := hX5.cell 4
  have z0 : (W4.setCell ⟨W1.heap.size, 4, none⟩ (.int .i64 (10 * r4))).cell? ⟨w.heap.size, 0, none⟩ = some (.string ⟨#[]⟩) := HZ.cell 0
  have y0 := HZ.frozen 0
  have z1 : (W4.setCell ⟨W1.heap.size, 4, none⟩ (.int .i64 (10 * r4))).cell? ⟨w.heap.size, 1, none⟩ = some (.int .i64 0) := HZ.cell 1
  have y1 := HZ.frozen 1
  have z2 : (W4.setCell ⟨W1.heap.size, 4, none⟩ (.int .i64 (10 * r4))).cell? ⟨w.heap.size, 2, none⟩ = some (.int .i64 0) := HZ.cell 2
  have y2 := HZ.frozen 2
  have z3 : (W4.setCell ⟨W1.heap.size, 4, none⟩ (.int .i64 (10 * r4))).cell? ⟨w.heap.size, 3, none⟩ = some (.int .i64 0) := HZ.cell 3
  have y3 := HZ.frozen 3
  have z4 : (W4.setCell ⟨W1.heap.size, 4, none⟩ (.int .i64 (10 * r4))).cell? ⟨w.heap.size, 4, none⟩ = some (.int .i64 0) := HZ.cell 4
  have y4 := HZ.frozen 4
  clear hS2' hX2' hG2' hS1 hg1 hX4 hX5
  have m0 : ((W4.setCell ⟨W1.heap.size, 4, none⟩ (.int .i64 (10 * r4))).setCell ⟨w.heap.size, 0, none⟩ (.string s)).cell? ⟨w.heap.size, 0, none⟩ = some (.string s) := (HZ.set_ 0 (.string s)).cell 0
  have m1 : (((W4.setCell ⟨W1.heap.size, 4, none⟩ (.int .i64 (10 * r4))).setCell ⟨w.heap.size, 0, none⟩ (.string s)).setCell ⟨w.heap.size, 1, none⟩ (.int .i64 (5 + 5 * r1))).cell? ⟨w.heap.size, 1, none⟩ = some (.int .i64 (5 + 5 * r1)) := ((HZ.set_ 0 (.string s)).set_ 1 (.int .i64 (5 + 5 * r1))).cell 1
  have m2 : ((((W4.setCell ⟨W1.heap.size, 4, none⟩ (.int .i64 (10 * r4))).setCell ⟨w.heap.size, 0, none⟩ (.string s)).setCell ⟨w.heap.size, 1, none⟩ (.int .i64 (5 + 5 * r1))).setCell ⟨w.heap.size, 2, none⟩ (.int .i64 (20 + r2))).cell? ⟨w.heap.size, 2, none⟩ = some (.int .i64 (20 + r2)) := (((HZ.set_ 0 (.string s)).set_ 1 (.int .i64 (5 + 5 * r1))).set_ 2 (.int .i64 (20 + r2))).cell 2
  have m3 : (((((W4.setCell ⟨W1.heap.size, 4, none⟩ (.int .i64 (10 * r4))).setCell ⟨w.heap.size, 0, none⟩ (.string s)).setCell ⟨w.heap.size, 1, none⟩ (.int .i64 (5 + 5 * r1))).setCell ⟨w.heap.size, 2, none⟩ (.int .i64 (20 + r2))).setCell ⟨w.heap.size, 3, none⟩ (.int .i64 r3)).cell? ⟨w.heap.size, 3, none⟩ = some (.int .i64 r3) := ((((HZ.set_ 0 (.string s)).set_ 1 (.int .i64 (5 + 5 * r1))).set_ 2 (.int .i64 (20 + r2))).set_ 3 (.int .i64 r3)).cell 3
  have m4 : ((((((W4.setCell ⟨W1.heap.size, 4, none⟩ (.int .i64 (10 * r4))).setCell ⟨w.heap.size, 0, none⟩ (.string s)).setCell ⟨w.heap.size, 1, none⟩ (.int .i64 (5 + 5 * r1))).setCell ⟨w.heap.size, 2, none⟩ (.int .i64 (20 + r2))).setCell ⟨w.heap.size, 3, none⟩ (.int .i64 r3)).setCell ⟨w.heap.size, 4, none⟩ (.int .i64 (10 * r4))).cell? ⟨w.heap.size, 4, none⟩ = some (.int .i64 (10 * r4)) := (((((HZ.set_ 0 (.string s)).set_ 1 (.int .i64 (5 + 5 * r1))).set_ 2 (.int .i64 (20 + r2))).set_ 3 (.int .i64 r3)).set_ 4 (.int .i64 (10 * r4))).cell 4
  replace HS4 := Lib.hid (Src.far (Src.far (Src.far (Src.far (Src.far HS4.out (p := ⟨w.heap.size, 0, none⟩) hgw (.string s)) (p := ⟨w.heap.size, 1, none⟩) hgw (.int .i64 (5 + 5 * r1))) (p := ⟨w.heap.size, 2, none⟩) hgw (.int .i64 (20 + r2))) (p := ⟨w.heap.size, 3, none⟩) hgw (.int .i64 r3)) (p := ⟨w.heap.size, 4, none⟩) hgw (.int .i64 (10 * r4)))
  replace HG4 := Lib.hid (grown_setCell (p := ⟨w.heap.size, 4, none⟩) (grown_setCell (p := ⟨w.heap.size, 3, none⟩) (grown_setCell (p := ⟨w.heap.size, 2, none⟩) (grown_setCell (p := ⟨w.heap.size, 1, none⟩) (grown_setCell (p := ⟨w.heap.size, 0, none⟩) HG4.out (.inr (Nat.le_refl _)) (.string s)) (.inr (Nat.le_refl _)) (.int .i64 (5 + 5 * r1))) (.inr (Nat.le_refl _)) (.int .i64 (20 + r2))) (.inr (Nat.le_refl _)) (.int .i64 r3)) (.inr (Nat.le_refl _)) (.int .i64 (10 * r4)))
  clear HZ
  go_wp2_with fail
  try simp only [Exit.inBlock, Exit.then]
  refine bodyPost_ret (v := .agg #[.string s, .int .i64 (5 + 5 * r1), .int .i64 (20 + r2), .int .i64 r3, .int .i64 (10 * r4)]) (by simp [results, Try.results115, go_sem, m0, m1, m2, m3, m4]) rfl ?_
  refine ⟨⟨s, 5 + 5 * r1, 20 + r2, r3, 10 * r4⟩, rfl, rfl, ⟨by simp only; omega, by simp only; omega, by simp only; omega, by simp only; omega⟩, HS4.out, HG4.out⟩
end Go.Proofs.Ytopbiihiogbhiaa
