/- The law on the mass of a sole, walked (under way: it does not build). -/
import Derived.Test.YtilfcjibpohpiaaSolG
namespace Go.Proofs.Ytilfcjibpohpiaa
open Go.RowKit

set_option maxRecDepth 100000 in
set_option maxHeartbeats 2000000 in
theorem FnExactGramsOf_law (A : Option Addr) (xs : List Stuff) (n c : Nat) (B : Option Addr) (ps : List Int) (m d : Nat) (ar : Int) (hn : Hid (xs.length = n)) (hmax : n ≤ 9223372036854775807) (hs : Hid (∀ x ∈ xs, x.name.size ≤ 9223372036854775807)) (hp : Hid (ps.length = m)) (hmax' : m ≤ 9223372036854775807) (w : World) (hA : Arr w A (flat Stuff.cells xs)) (hB : Arr w B (flat icell ps)) :
    Calls Try.prog 5 #[.slice A n c, .agg #[.slice B m d], .int .i64 ar] w (Ret (.bool true) w) := by
  have hle := szS_le Stuff.sizes xs 1048576 (by omega)
  go_enter Try.func5, Try.ntmps5
  go_wp2_with fail
  obtain ⟨W, hW⟩ : ∃ W, W = w.alloc (Obj.cells #[Value.slice B m d] 44) := ⟨_, rfl⟩
  obtain ⟨g, hg⟩ : ∃ g, g = w.heap.size := ⟨_, rfl⟩
  have hv : Below w.heap.size w W := by rw [hW]; exact bl_alloc (Below.refl _ _) _
  have hB0 : Blk W g 44 #[Value.slice B m d] := by rw [hW, hg]; exact Blk.new _ _ _
  rw [← hW, ← hg]
  clear hW hg
  have k0 : W.cell? ⟨g, 0, none⟩ = some (.slice B m d) := hB0.cell 0
  refine (szStuffS_c A xs n c 1048576 hn hmax hs (by omega) (by omega) _ (hA.below hv)).mono ?_
  rintro e W ⟨rfl, hb⟩
  have z0 := Lib.hid hb.size
  replace hv := bl_trans hv hb
  replace hB0 := hB0.below hb
  clear hb
  have k0 : W.cell? ⟨g, 0, none⟩ = some (.slice B m d) := hB0.cell 0
  obtain ⟨q, hq'⟩ : ∃ q, q = szS Stuff.sizes xs 1048576 := ⟨_, rfl⟩
  rw [← hq'] at hle ⊢
  by_cases hq : q < 0
  · clear hq'
    go_wp2_with fail
    go_returns
    exact Ret.mk rfl hv
  have hz : (n : Int) ≤ 1048576 := by rw [← hn.out]; exact szS_len (by rw [← hq']; omega) (by omega)
  clear hq'
  have hle2 := szGo_le [m] q (by omega)
  go_wp2_with fail
  refine (szSole_c B m d q hmax' (by omega) (by omega) _).mono ?_
  rintro e W ⟨rfl, hb⟩
  have z1 := Lib.hid hb.size
  replace hv := bl_trans hv hb
  replace hB0 := hB0.below hb
  clear hb
  have k0 : W.cell? ⟨g, 0, none⟩ = some (.slice B m d) := hB0.cell 0
  obtain ⟨q2, hq2'⟩ : ∃ q2, q2 = szGo [m] q := ⟨_, rfl⟩
  have hz2 : 0 ≤ q2 → (m : Int) ≤ 1048576 := by
    intro h0
    have h1 := szGo_sum [m] q (by rw [← hq2']; exact h0)
    rw [← hq2'] at h1
    simp at h1
    omega
  rw [← hq2'] at hle2 ⊢
  by_cases hq2 : q2 < 0
  · clear hq2'
    go_wp2_with fail
    go_returns
    exact Ret.mk rfl hv
  have hz' : (m : Int) ≤ 1048576 := hz2 (by omega)
  clear hq2' hz2
  obtain ⟨ru, rv, rc, hform⟩ : ∃ ru rv rc : Int, gramR xs ps ar = #[.agg #[.int .i64 ru, .int .i64 rv], .int .i64 rc] := ⟨_, _, _, rfl⟩
  have HW := fun (a b : Option Addr) (w : World) (h : Arr w a (flat Stuff.cells xs)) (h' : Arr w b (flat icell ps)) => SGramsOf_c a xs n n hn hz hs b ps m m hp hz' ar w h h'
  have HG' := fun (a b : Option Addr) (w : World) (h : Arr w a (flat Stuff.cells xs)) (h' : Arr w b (flat icell ps)) => GramsOf_c a xs n n hn hz hs (Int.le_refl _) b ps m m hp hz' ar w h h'
  rw [hform] at HW HG'
  clear hform
  replace HW := Lib.hid HW
  replace HG' := Lib.hid HG'
  go_wp2_with fail
  have HS := Lib.hid (show (fun w' : World => (Below w.heap.size w w') ∧ (Blk w' g 44 #[.slice B m d])) W.drew from ⟨hv.drew, hB0.below (Below.refl _ _).drew⟩)
  have hsz0 : Hid (w.heap.size ≤ W.heap.size ∧ g < W.heap.size) := Lib.hid ⟨hv.size, hB0.lt⟩
  clear k0 hB0 hv
  go_region_held3 (fun w' => (Below w.heap.size w w') ∧ (Blk w' g 44 #[.slice B m d]) ∧ (World.cell? w' ⟨g, 0, none⟩ = some (.slice B m d)))
    (first | exact ⟨HS.out.1, HS.out.2, HS.out.2.cell 0⟩ | (go_split_ands; exact ⟨bl_trans (by assumption) hb, Blk.below (by assumption) hb, bl_cell hb (by assumption)⟩) | (go_split_ands; exact ⟨bl_alloc (by assumption) _, Blk.alloc (by assumption) _, bl_cell (bl_alloc (Below.refl _ _) _) (by assumption)⟩) | (go_split_ands; exact ⟨bl_alloc (bl_trans (by assumption) hb) _, Blk.alloc (Blk.below (by assumption) hb) _, bl_cell (bl_alloc (Below.refl _ _) _) (bl_cell hb (by assumption))⟩) | (go_split_ands; exact ⟨bl_set (bl_set (bl_trans (by assumption) hb) hN.2.1 _) hN.2.1 _, (Blk.far (Blk.far (Blk.below (by assumption) hb) hN.2.2 _) hN.2.2 _), (Blk.far (Blk.far (Blk.below (by assumption) hb) hN.2.2 _) hN.2.2 _).cell 0⟩))
    (first | (go_at_call 27; go_split_ands; refine (toStuffS_c A xs n c hn hz _ (hA.below (by assumption))).mono ?_; rintro e W ⟨g1, rfl, ha, hb⟩; have hszN := Lib.hid (⟨(bl_trans (by assumption) hb).size, (Blk.below (by assumption) hb).lt⟩ : w.heap.size ≤ W.heap.size ∧ g < W.heap.size); try (first | (have hx := newB_exd2 (w := w) (g := g) hb (by assumption); obtain ⟨ga, hga, hN⟩ := hx; rw [hga]; have zq0 : World.cell? W ⟨ga, 0, none⟩ = some (.int .i64 0) := hN.1.cell 0; have zq1 : World.cell? W ⟨ga, 1, none⟩ = some (.int .i64 0) := hN.1.cell 1; have zf0 := hN.1.frozen 0; have zf1 := hN.1.frozen 1) | (have hx := newB_ex2 (w := w) (g := g) hb (by assumption); obtain ⟨ga, hga, hN⟩ := hx; rw [hga]; have zq0 : World.cell? W ⟨ga, 0, none⟩ = some (.int .i64 0) := hN.1.cell 0; have zq1 : World.cell? W ⟨ga, 1, none⟩ = some (.int .i64 0) := hN.1.cell 1; have zf0 := hN.1.frozen 0; have zf1 := hN.1.frozen 1) | (have hx := newB_ex2 (w := w) (g := g) hb (by assumption); obtain ⟨ga, hga, hN⟩ := hx; simp only [World.drew] at hga; rw [hga]; have zq0 : World.cell? W ⟨ga, 0, none⟩ = some (.int .i64 0) := hN.1.cell 0; have zq1 : World.cell? W ⟨ga, 1, none⟩ = some (.int .i64 0) := hN.1.cell 1; have zf0 := hN.1.frozen 0; have zf1 := hN.1.frozen 1) | (replace hN := hN.below hb; have zq0 : World.cell? W ⟨ga, 0, none⟩ = some (.int .i64 0) := hN.1.cell 0; have zq1 : World.cell? W ⟨ga, 1, none⟩ = some (.int .i64 0) := hN.1.cell 1; have zf0 := hN.1.frozen 0; have zf1 := hN.1.frozen 1))) | (go_at_call 28; go_split_ands; refine (toSole_c B ps m d hp hz' _ (hB.below (by assumption))).mono ?_; rintro e W ⟨g2, rfl, hb1, hb⟩; (first | (have ha' := own_below ha hb) | (have ha' := own_below (own_below ha (bl_alloc (Below.refl _ _) _)) hb)); have hszN := Lib.hid (⟨(bl_trans (by assumption) hb).size, (Blk.below (by assumption) hb).lt⟩ : w.heap.size ≤ W.heap.size ∧ g < W.heap.size); try (first | (have hx := newB_exd2 (w := w) (g := g) hb (by assumption); obtain ⟨ga, hga, hN⟩ := hx; rw [hga]; have zq0 : World.cell? W ⟨ga, 0, none⟩ = some (.int .i64 0) := hN.1.cell 0; have zq1 : World.cell? W ⟨ga, 1, none⟩ = some (.int .i64 0) := hN.1.cell 1; have zf0 := hN.1.frozen 0; have zf1 := hN.1.frozen 1) | (have hx := newB_ex2 (w := w) (g := g) hb (by assumption); obtain ⟨ga, hga, hN⟩ := hx; rw [hga]; have zq0 : World.cell? W ⟨ga, 0, none⟩ = some (.int .i64 0) := hN.1.cell 0; have zq1 : World.cell? W ⟨ga, 1, none⟩ = some (.int .i64 0) := hN.1.cell 1; have zf0 := hN.1.frozen 0; have zf1 := hN.1.frozen 1) | (have hx := newB_ex2 (w := w) (g := g) hb (by assumption); obtain ⟨ga, hga, hN⟩ := hx; simp only [World.drew] at hga; rw [hga]; have zq0 : World.cell? W ⟨ga, 0, none⟩ = some (.int .i64 0) := hN.1.cell 0; have zq1 : World.cell? W ⟨ga, 1, none⟩ = some (.int .i64 0) := hN.1.cell 1; have zf0 := hN.1.frozen 0; have zf1 := hN.1.frozen 1) | (replace hN := hN.below hb; have zq0 : World.cell? W ⟨ga, 0, none⟩ = some (.int .i64 0) := hN.1.cell 0; have zq1 : World.cell? W ⟨ga, 1, none⟩ = some (.int .i64 0) := hN.1.cell 1; have zf0 := hN.1.frozen 0; have zf1 := hN.1.frozen 1))) | (go_at_call 26; go_split_ands; refine (HW.out _ _ _ (by first | exact Arr.own ha' | exact (Arr.own ha').alloc _) (by first | exact Arr.own hb1 | exact (Arr.own hb1).alloc _)).mono ?_; rintro e W ⟨rfl, hb⟩; have hszN := Lib.hid (⟨(bl_trans (by assumption) hb).size, (Blk.below (by assumption) hb).lt⟩ : w.heap.size ≤ W.heap.size ∧ g < W.heap.size); try (first | (have hx := newB_exd2 (w := w) (g := g) hb (by assumption); obtain ⟨ga, hga, hN⟩ := hx; rw [hga]; have zq0 : World.cell? W ⟨ga, 0, none⟩ = some (.int .i64 0) := hN.1.cell 0; have zq1 : World.cell? W ⟨ga, 1, none⟩ = some (.int .i64 0) := hN.1.cell 1; have zf0 := hN.1.frozen 0; have zf1 := hN.1.frozen 1) | (have hx := newB_ex2 (w := w) (g := g) hb (by assumption); obtain ⟨ga, hga, hN⟩ := hx; rw [hga]; have zq0 : World.cell? W ⟨ga, 0, none⟩ = some (.int .i64 0) := hN.1.cell 0; have zq1 : World.cell? W ⟨ga, 1, none⟩ = some (.int .i64 0) := hN.1.cell 1; have zf0 := hN.1.frozen 0; have zf1 := hN.1.frozen 1) | (have hx := newB_ex2 (w := w) (g := g) hb (by assumption); obtain ⟨ga, hga, hN⟩ := hx; simp only [World.drew] at hga; rw [hga]; have zq0 : World.cell? W ⟨ga, 0, none⟩ = some (.int .i64 0) := hN.1.cell 0; have zq1 : World.cell? W ⟨ga, 1, none⟩ = some (.int .i64 0) := hN.1.cell 1; have zf0 := hN.1.frozen 0; have zf1 := hN.1.frozen 1) | (replace hN := hN.below hb; have zq0 : World.cell? W ⟨ga, 0, none⟩ = some (.int .i64 0) := hN.1.cell 0; have zq1 : World.cell? W ⟨ga, 1, none⟩ = some (.int .i64 0) := hN.1.cell 1; have zf0 := hN.1.frozen 0; have zf1 := hN.1.frozen 1))))
  all_goals go_split_ands
  all_goals first | (have hv : Below w.heap.size w (W.alloc (Obj.cells #[Value.int IntKind.i64 ru, Value.int IntKind.i64 rv] 48)) := (by assumption); have hB0 : Blk (W.alloc (Obj.cells #[Value.int IntKind.i64 ru, Value.int IntKind.i64 rv] 48)) g 44 #[.slice B m d] := (by assumption); have hFw : Blk (W.alloc (Obj.cells #[Value.int IntKind.i64 ru, Value.int IntKind.i64 rv] 48)) W.heap.size 48 #[.int .i64 ru, .int .i64 rv] := Blk.new _ _ _; obtain ⟨ga, hga⟩ : ∃ ga, ga = W.heap.size := ⟨_, rfl⟩; rw [← hga] at hFw ⊢; clear hga; generalize W.alloc (Obj.cells #[Value.int IntKind.i64 ru, Value.int IntKind.i64 rv] 48) = W1 at hv hB0 hFw ⊢) | (have hv : Below w.heap.size w ((W.setCell ⟨ga, 0, none⟩ (.int .i64 ru)).setCell ⟨ga, 1, none⟩ (.int .i64 rv)) := (by assumption); have hB0 : Blk ((W.setCell ⟨ga, 0, none⟩ (.int .i64 ru)).setCell ⟨ga, 1, none⟩ (.int .i64 rv)) g 44 #[.slice B m d] := (by assumption); have hFw : Blk ((W.setCell ⟨ga, 0, none⟩ (.int .i64 ru)).setCell ⟨ga, 1, none⟩ (.int .i64 rv)) ga 48 #[.int .i64 ru, .int .i64 rv] := (hN.1.set_ 0 _).set_ 1 _; generalize (W.setCell ⟨ga, 0, none⟩ (.int .i64 ru)).setCell ⟨ga, 1, none⟩ (.int .i64 rv) = W1 at hv hB0 hFw ⊢)
  all_goals
    have k0 : W1.cell? ⟨g, 0, none⟩ = some (.slice B m d) := hB0.cell 0
    have y0 : W1.cell? ⟨ga, 0, none⟩ = some (.int .i64 ru) := hFw.cell 0
    have y1 : W1.cell? ⟨ga, 1, none⟩ = some (.int .i64 rv) := hFw.cell 1
    go_wp2_with fail
    refine (toStuffS_c A xs n c hn hz _ (hA.below hv)).mono ?_
    rintro e W ⟨g3, rfl, hx, hb⟩
    obtain ⟨lx, ux, h_own, z2, z3⟩ := Own.named hx hb
    replace hx := h_own
    clear h_own
    have z4 := Lib.hid hb.size
    replace hv := bl_trans hv hb
    replace hB0 := hB0.below hb
    replace hFw := hFw.below hb
    clear hb
    have k0 : W.cell? ⟨g, 0, none⟩ = some (.slice B m d) := hB0.cell 0
    have y0 : W.cell? ⟨ga, 0, none⟩ = some (.int .i64 ru) := hFw.cell 0
    have y1 : W.cell? ⟨ga, 1, none⟩ = some (.int .i64 rv) := hFw.cell 1
    go_wp2_with fail
    refine (toSole_c B ps m d hp hz' _ (hB.below hv)).mono ?_
    rintro e W ⟨g4, rfl, hy, hb⟩
    obtain ⟨ly, uy, h_own, z5, z6⟩ := Own.named hy hb
    replace hy := h_own
    clear h_own
    have z7 := Lib.hid hb.size
    replace hv := bl_trans hv hb
    replace hB0 := hB0.below hb
    replace hFw := hFw.below hb
    replace hx := hx.below hb
    clear hb
    have k0 : W.cell? ⟨g, 0, none⟩ = some (.slice B m d) := hB0.cell 0
    have y0 : W.cell? ⟨ga, 0, none⟩ = some (.int .i64 ru) := hFw.cell 0
    have y1 : W.cell? ⟨ga, 1, none⟩ = some (.int .i64 rv) := hFw.cell 1
    obtain ⟨W0, hW0⟩ : ∃ W0, W0 = W.alloc (Obj.cells #[Value.slice (some ⟨g4, 0, none⟩) m m] 53) := ⟨_, rfl⟩
    obtain ⟨gx, hgx⟩ : ∃ gx, gx = W.heap.size := ⟨_, rfl⟩
    have hb : Below W.heap.size W W0 := by rw [hW0]; exact bl_alloc (Below.refl _ _) _
    have hX : Blk W0 gx 53 #[Value.slice (some ⟨g4, 0, none⟩) m m] := by rw [hW0, hgx]; exact Blk.new _ _ _
    have a_k0 := bl_cell hb k0
    have a_y0 := bl_cell hb y0
    have a_y1 := bl_cell hb y1
    rw [hW0] at a_k0 a_y0 a_y1
    have z8 := Lib.hid (Nat.le_of_eq hgx.symm)
    have z9 := Lib.hid hX.lt
    go_wp2_with fail
    rw [← hW0, ← hgx]
    clear hW0 hgx a_k0 a_y0 a_y1
    have z10 := Lib.hid hb.size
    replace hv := bl_trans hv hb
    replace hB0 := hB0.below hb
    replace hFw := hFw.below hb
    replace hx := hx.below hb
    replace hy := hy.below hb
    clear hb
    have k0 : W0.cell? ⟨g, 0, none⟩ = some (.slice B m d) := hB0.cell 0
    have y0 : W0.cell? ⟨ga, 0, none⟩ = some (.int .i64 ru) := hFw.cell 0
    have y1 : W0.cell? ⟨ga, 1, none⟩ = some (.int .i64 rv) := hFw.cell 1
    have x0 : W0.cell? ⟨gx, 0, none⟩ = some (Value.slice (some ⟨g4, 0, none⟩) m m) := hX.cell 0
    refine (HG'.out _ _ _ hx.arr hy.arr).mono ?_
    rintro e W ⟨rfl, hb⟩
    have z11 := Lib.hid hb.size
    replace hv := bl_trans hv hb
    replace hB0 := hB0.below hb
    replace hFw := hFw.below hb
    replace hX := hX.below hb
    replace hx := hx.below hb
    replace hy := hy.below hb
    clear hb
    have k0 : W.cell? ⟨g, 0, none⟩ = some (.slice B m d) := hB0.cell 0
    have y0 : W.cell? ⟨ga, 0, none⟩ = some (.int .i64 ru) := hFw.cell 0
    have y1 : W.cell? ⟨ga, 1, none⟩ = some (.int .i64 rv) := hFw.cell 1
    have x0 : W.cell? ⟨gx, 0, none⟩ = some (Value.slice (some ⟨g4, 0, none⟩) m m) := hX.cell 0
    obtain ⟨W0, hW0⟩ : ∃ W0, W0 = W.alloc (Obj.cells #[Value.int IntKind.i64 ru, Value.int IntKind.i64 rv] 48) := ⟨_, rfl⟩
    obtain ⟨gg, hgx⟩ : ∃ gx, gx = W.heap.size := ⟨_, rfl⟩
    have hb : Below W.heap.size W W0 := by rw [hW0]; exact bl_alloc (Below.refl _ _) _
    have hFg : Blk W0 gg 48 #[Value.int IntKind.i64 ru, Value.int IntKind.i64 rv] := by rw [hW0, hgx]; exact Blk.new _ _ _
    have a_k0 := bl_cell hb k0
    have a_y0 := bl_cell hb y0
    have a_y1 := bl_cell hb y1
    have a_x0 := bl_cell hb x0
    rw [hW0] at a_k0 a_y0 a_y1 a_x0
    have z12 := Lib.hid (Nat.le_of_eq hgx.symm)
    have z13 := Lib.hid hFg.lt
    go_wp2_with fail
    rw [← hW0, ← hgx]
    clear hW0 hgx a_k0 a_y0 a_y1 a_x0
    have z14 := Lib.hid hb.size
    replace hv := bl_trans hv hb
    replace hB0 := hB0.below hb
    replace hFw := hFw.below hb
    replace hX := hX.below hb
    replace hx := hx.below hb
    replace hy := hy.below hb
    clear hb
    have k0 : W0.cell? ⟨g, 0, none⟩ = some (.slice B m d) := hB0.cell 0
    have y0 : W0.cell? ⟨ga, 0, none⟩ = some (.int .i64 ru) := hFw.cell 0
    have y1 : W0.cell? ⟨ga, 1, none⟩ = some (.int .i64 rv) := hFw.cell 1
    have x0 : W0.cell? ⟨gx, 0, none⟩ = some (Value.slice (some ⟨g4, 0, none⟩) m m) := hX.cell 0
    have u0 : W0.cell? ⟨gg, 0, none⟩ = some (Value.int IntKind.i64 ru) := hFg.cell 0
    have u1 : W0.cell? ⟨gg, 1, none⟩ = some (Value.int IntKind.i64 rv) := hFg.cell 1
    refine (eqFraction_same ru rv _).mono ?_
    rintro e W ⟨rfl, hb⟩
    have z15 := Lib.hid hb.size
    replace hv := bl_trans hv hb
    replace hB0 := hB0.below hb
    replace hFw := hFw.below hb
    replace hX := hX.below hb
    replace hFg := hFg.below hb
    replace hx := hx.below hb
    replace hy := hy.below hb
    clear hb
    have k0 : W.cell? ⟨g, 0, none⟩ = some (.slice B m d) := hB0.cell 0
    have y0 : W.cell? ⟨ga, 0, none⟩ = some (.int .i64 ru) := hFw.cell 0
    have y1 : W.cell? ⟨ga, 1, none⟩ = some (.int .i64 rv) := hFw.cell 1
    have x0 : W.cell? ⟨gx, 0, none⟩ = some (Value.slice (some ⟨g4, 0, none⟩) m m) := hX.cell 0
    have u0 : W.cell? ⟨gg, 0, none⟩ = some (Value.int IntKind.i64 ru) := hFg.cell 0
    have u1 : W.cell? ⟨gg, 1, none⟩ = some (Value.int IntKind.i64 rv) := hFg.cell 1
    go_wp2_with fail
    clear y0 y1 u0 u1
    clear hFw hFg
    refine (toStuffS_c A xs n c hn hz _ (hA.below hv)).mono ?_
    rintro e W ⟨g5, rfl, hc, hb⟩
    obtain ⟨lc, uc, h_own, z16, z17⟩ := Own.named hc hb
    replace hc := h_own
    clear h_own
    have z18 := Lib.hid hb.size
    replace hv := bl_trans hv hb
    replace hB0 := hB0.below hb
    replace hX := hX.below hb
    replace hx := hx.below hb
    replace hy := hy.below hb
    clear hb
    have k0 : W.cell? ⟨g, 0, none⟩ = some (.slice B m d) := hB0.cell 0
    have x0 : W.cell? ⟨gx, 0, none⟩ = some (Value.slice (some ⟨g4, 0, none⟩) m m) := hX.cell 0
    go_wp2_with fail
    refine (eqStuffS_same _ _ xs n n n hn hz _ hx.arr hc.arr).mono ?_
    rintro e W ⟨rfl, hb⟩
    have z19 := Lib.hid hb.size
    replace hv := bl_trans hv hb
    replace hB0 := hB0.below hb
    replace hX := hX.below hb
    replace hx := hx.below hb
    replace hy := hy.below hb
    replace hc := hc.below hb
    clear hb
    have k0 : W.cell? ⟨g, 0, none⟩ = some (.slice B m d) := hB0.cell 0
    have x0 : W.cell? ⟨gx, 0, none⟩ = some (Value.slice (some ⟨g4, 0, none⟩) m m) := hX.cell 0
    go_wp2_with fail
    clear hx hc
    have HS := Lib.hid (show (fun w' : World => (Below w.heap.size w w') ∧ (Blk w' g 44 #[.slice B m d]) ∧ (Blk w' gx 53 #[Value.slice (some ⟨g4, 0, none⟩) m m]) ∧ (Own w' ly uy 2 1 m (.slice (some ⟨g4, 0, none⟩) m m) (flat icell ps)) ∧ (World.cell? w' ⟨g, 0, none⟩ = some (.slice B m d)) ∧ (World.cell? w' ⟨gx, 0, none⟩ = some (Value.slice (some ⟨g4, 0, none⟩) m m))) W.drew from ⟨hv.drew, hB0.below (Below.refl _ _).drew, hX.below (Below.refl _ _).drew, hy.drew, k0, x0⟩)
    clear x0 k0 hy hX hB0 hv
    go_region_held3 (fun w' => (Below w.heap.size w w') ∧ (Blk w' g 44 #[.slice B m d]) ∧ (Blk w' gx 53 #[Value.slice (some ⟨g4, 0, none⟩) m m]) ∧ (Own w' ly uy 2 1 m (.slice (some ⟨g4, 0, none⟩) m m) (flat icell ps)) ∧ (World.cell? w' ⟨g, 0, none⟩ = some (.slice B m d)) ∧ (World.cell? w' ⟨gx, 0, none⟩ = some (Value.slice (some ⟨g4, 0, none⟩) m m)))
      (first | exact HS.out | (go_split_ands; exact ⟨bl_trans (by assumption) hb, Blk.below (by assumption) hb, Blk.below (by assumption) hb, Own.below (by assumption) hb, bl_cell hb (by assumption), bl_cell hb (by assumption)⟩))
      (first | (go_at_call 28; go_split_ands; refine (toSole_c B ps m d hp hz' _ (hB.below (by assumption))).mono ?_; rintro e W ⟨g6, rfl, hown3, hb⟩) | (go_at_call 32; go_split_ands; refine (eqSole_c _ _ ps m m m hp hz' _ (Own.arr (lo := ly) (hi := uy) (e := 2) (size := 1) (by assumption)) (Arr.own hown3)).mono ?_; rintro e W ⟨rfl, hb⟩))
    go_split_ands
    have hv := (by assumption : Below w.heap.size w _)
    have hB0 := (by assumption : Blk _ g 44 #[.slice B m d])
    have hX := (by assumption : Blk _ gx 53 #[Value.slice (some ⟨g4, 0, none⟩) m m])
    have hy := (by assumption : Own _ ly uy 2 1 m (.slice (some ⟨g4, 0, none⟩) m m) (flat icell ps))
    have k0 := (by assumption : World.cell? _ ⟨g, 0, none⟩ = some (.slice B m d))
    have x0 := (by assumption : World.cell? _ ⟨gx, 0, none⟩ = some (Value.slice (some ⟨g4, 0, none⟩) m m))
    go_wp2_with fail
    go_returns
    exact Ret.mk rfl hv

end Go.Proofs.Ytilfcjibpohpiaa
