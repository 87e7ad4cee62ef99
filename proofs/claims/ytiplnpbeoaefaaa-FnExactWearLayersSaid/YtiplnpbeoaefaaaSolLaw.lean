/- The laws on soles that return numbers, walked. -/
import Derived.Test.YtiplnpbeoaefaaaSolT
import Derived.Test.YtiplnpbeoaefaaaSolL
namespace Go.Proofs.Ytiplnpbeoaefaaa
open Go.RowKit

theorem eqStuffS_same (A B : Option Addr) (xs : List Stuff) (n c d : Nat) (hn : Hid (xs.length = n)) (hz : (n : Int) ≤ 1048576) (w : World) (hA : Arr w A (flat Stuff.cells xs)) (hB : Arr w B (flat Stuff.cells xs)) :
    Calls Try.prog 18 #[.slice A n c, .slice B n d] w (Ret (.bool true) w) := by
  have h := eqStuffS_c A B xs xs n n c d hn hn hz w hA hB
  rwa [(listBeq_iff Stuff.beq_iff xs xs).2 rfl] at h
theorem rSole_form (f : Stuff → Int) (xs : List Stuff) (ps : List Int) : ∃ ra rb : Int, rSole f xs ps = #[.int .i64 ra, .int .i64 rb] := by unfold rSole; split <;> exact ⟨_, _, rfl⟩
set_option maxRecDepth 100000 in
set_option maxHeartbeats 2000000 in
theorem FnExactPriceOfSole_law (A : Option Addr) (xs : List Stuff) (n c : Nat) (B : Option Addr) (ps : List Int) (m d : Nat) (hn : Hid (xs.length = n)) (hmax : n ≤ 9223372036854775807) (hs : Hid (∀ x ∈ xs, x.name.size ≤ 9223372036854775807)) (hp : Hid (ps.length = m)) (hmax' : m ≤ 9223372036854775807) (w : World) (hA : Arr w A (flat Stuff.cells xs)) (hB : Arr w B (flat icell ps)) :
    Calls Try.prog 3 #[.slice A n c, .agg #[.slice B m d]] w (Ret (.bool true) w) := by
  have hle := szS_le Stuff.sizes xs 1048576 (by omega)
  go_enter Try.func3, Try.ntmps3
  go_wp2_with fail
  obtain ⟨W, hW⟩ : ∃ W, W = w.alloc (Obj.cells #[Value.slice B m d] 25) := ⟨_, rfl⟩
  obtain ⟨g, hg⟩ : ∃ g, g = w.heap.size := ⟨_, rfl⟩
  have hv : Below w.heap.size w W := by rw [hW]; exact bl_alloc (Below.refl _ _) _
  have hB0 : Blk W g 25 #[Value.slice B m d] := by rw [hW, hg]; exact Blk.new _ _ _
  rw [← hW, ← hg]
  clear hW hg
  have k0 : W.cell? ⟨g, 0, none⟩ = some (.slice B m d) := hB0.cell 0
  refine (szStuffS_c A xs n c 1048576 hn hmax hs (by omega) (by omega) _ (hA.below hv)).mono ?_
  rintro e W ⟨rfl, hb⟩
  have z0 := Lib.hid hb.size
  replace hv := bl_trans hv hb
  replace hB0 := hB0.below hb
  clear hb
  have k0 : W.cell? ⟨g, 0, none⟩ = some (.slice B m d) := hB0.cell 0
  obtain ⟨q, hq'⟩ : ∃ q, q = szS Stuff.sizes xs 1048576 := ⟨_, rfl⟩
  rw [← hq'] at hle ⊢
  by_cases hq : q < 0
  · clear hq'
    go_wp2_with fail
    go_returns
    exact Ret.mk rfl hv
  have hz : (n : Int) ≤ 1048576 := by rw [← hn.out]; exact szS_len (by rw [← hq']; omega) (by omega)
  clear hq'
  have hle2 := szGo_le [m] q (by omega)
  go_wp2_with fail
  refine (szSole_c B m d q hmax' (by omega) (by omega) _).mono ?_
  rintro e W ⟨rfl, hb⟩
  have z1 := Lib.hid hb.size
  replace hv := bl_trans hv hb
  replace hB0 := hB0.below hb
  clear hb
  have k0 : W.cell? ⟨g, 0, none⟩ = some (.slice B m d) := hB0.cell 0
  obtain ⟨q2, hq2'⟩ : ∃ q2, q2 = szGo [m] q := ⟨_, rfl⟩
  have hz2 : 0 ≤ q2 → (m : Int) ≤ 1048576 := by
    intro h0
    have h1 := szGo_sum [m] q (by rw [← hq2']; exact h0)
    rw [← hq2'] at h1
    simp at h1
    omega
  rw [← hq2'] at hle2 ⊢
  by_cases hq2 : q2 < 0
  · clear hq2'
    go_wp2_with fail
    go_returns
    exact Ret.mk rfl hv
  have hz' : (m : Int) ≤ 1048576 := hz2 (by omega)
  clear hq2' hz2
  obtain ⟨ra, rb, hform⟩ := rSole_form Stuff.price xs ps
  have HW := fun (a b : Option Addr) (w : World) (h : Arr w a (flat Stuff.cells xs)) (h' : Arr w b (flat icell ps)) => SPriceOfSole_c a xs n n hn hz hs b ps m m hp hz' w h h'
  have HG' := fun (a b : Option Addr) (w : World) (h : Arr w a (flat Stuff.cells xs)) (h' : Arr w b (flat icell ps)) => PriceOfSole_c a xs n n hn hz hs (Int.le_refl _) b ps m m hp hz' w h h'
  rw [hform] at HW HG'
  clear hform
  replace HW := Lib.hid HW
  replace HG' := Lib.hid HG'
  go_wp2_with fail
  have HS := Lib.hid (show (fun w' : World => (Below w.heap.size w w') ∧ (Blk w' g 25 #[.slice B m d]) ∧ (World.cell? w' ⟨g, 0, none⟩ = some (.slice B m d))) W.drew from ⟨hv.drew, hB0.below (Below.refl _ _).drew, k0⟩)
  clear k0 hB0 hv
  go_region_held3 (fun w' => (Below w.heap.size w w') ∧ (Blk w' g 25 #[.slice B m d]) ∧ (World.cell? w' ⟨g, 0, none⟩ = some (.slice B m d)))
    (first | exact HS.out | (go_split_ands; exact ⟨bl_trans (by assumption) hb, Blk.below (by assumption) hb, bl_cell hb (by assumption)⟩))
    (first | (go_at_call 15; go_split_ands; refine (toStuffS_c A xs n c hn hz _ (hA.below (by assumption))).mono ?_; rintro e W ⟨g1, rfl, ha, hb⟩) | (go_at_call 16; go_split_ands; refine (toSole_c B ps m d hp hz' _ (hB.below (by assumption))).mono ?_; rintro e W ⟨g2, rfl, hb1, hb⟩; have ha' := own_below ha hb) | (go_at_call 14; go_split_ands; refine (HW.out _ _ _ (Arr.own ha') (Arr.own hb1)).mono ?_; rintro e W ⟨rfl, hb⟩))
  go_split_ands
  have hv := (by assumption : Below w.heap.size w _)
  have hB0 := (by assumption : Blk _ g 25 #[.slice B m d])
  have k0 := (by assumption : World.cell? _ ⟨g, 0, none⟩ = some (.slice B m d))
  go_wp2_with fail
  refine (toStuffS_c A xs n c hn hz _ (hA.below hv)).mono ?_
  rintro e W ⟨g3, rfl, hx, hb⟩
  obtain ⟨lx, ux, h_own, z2, z3⟩ := Own.named hx hb
  replace hx := h_own
  clear h_own
  have z4 := Lib.hid hb.size
  replace hv := bl_trans hv hb
  replace hB0 := hB0.below hb
  clear hb
  have k0 : W.cell? ⟨g, 0, none⟩ = some (.slice B m d) := hB0.cell 0
  go_wp2_with fail
  refine (toSole_c B ps m d hp hz' _ (hB.below hv)).mono ?_
  rintro e W ⟨g4, rfl, hy, hb⟩
  obtain ⟨ly, uy, h_own, z5, z6⟩ := Own.named hy hb
  replace hy := h_own
  clear h_own
  have z7 := Lib.hid hb.size
  replace hv := bl_trans hv hb
  replace hB0 := hB0.below hb
  replace hx := hx.below hb
  clear hb
  have k0 : W.cell? ⟨g, 0, none⟩ = some (.slice B m d) := hB0.cell 0
  obtain ⟨W0, hW0⟩ : ∃ W0, W0 = W.alloc (Obj.cells #[Value.slice (some ⟨g4, 0, none⟩) m m] 32) := ⟨_, rfl⟩
  obtain ⟨gx, hgx⟩ : ∃ gx, gx = W.heap.size := ⟨_, rfl⟩
  have hb : Below W.heap.size W W0 := by rw [hW0]; exact bl_alloc (Below.refl _ _) _
  have hX : Blk W0 gx 32 #[Value.slice (some ⟨g4, 0, none⟩) m m] := by rw [hW0, hgx]; exact Blk.new _ _ _
  have a_k0 := bl_cell hb k0
  rw [hW0] at a_k0
  go_wp2_with fail
  rw [← hW0, ← hgx]
  clear hW0 hgx a_k0
  have z8 := Lib.hid hb.size
  replace hv := bl_trans hv hb
  replace hB0 := hB0.below hb
  replace hx := hx.below hb
  replace hy := hy.below hb
  clear hb
  have k0 : W0.cell? ⟨g, 0, none⟩ = some (.slice B m d) := hB0.cell 0
  have x0 : W0.cell? ⟨gx, 0, none⟩ = some (Value.slice (some ⟨g4, 0, none⟩) m m) := hX.cell 0
  refine (HG'.out _ _ _ hx.arr hy.arr).mono ?_
  rintro e W ⟨rfl, hb⟩
  have z9 := Lib.hid hb.size
  replace hv := bl_trans hv hb
  replace hB0 := hB0.below hb
  replace hX := hX.below hb
  replace hx := hx.below hb
  replace hy := hy.below hb
  clear hb
  have k0 : W.cell? ⟨g, 0, none⟩ = some (.slice B m d) := hB0.cell 0
  have x0 : W.cell? ⟨gx, 0, none⟩ = some (Value.slice (some ⟨g4, 0, none⟩) m m) := hX.cell 0
  go_wp2_with fail
  refine (toStuffS_c A xs n c hn hz _ (hA.below hv)).mono ?_
  rintro e W ⟨g5, rfl, hc, hb⟩
  obtain ⟨lc, uc, h_own, z10, z11⟩ := Own.named hc hb
  replace hc := h_own
  clear h_own
  have z12 := Lib.hid hb.size
  replace hv := bl_trans hv hb
  replace hB0 := hB0.below hb
  replace hX := hX.below hb
  replace hx := hx.below hb
  replace hy := hy.below hb
  clear hb
  have k0 : W.cell? ⟨g, 0, none⟩ = some (.slice B m d) := hB0.cell 0
  have x0 : W.cell? ⟨gx, 0, none⟩ = some (Value.slice (some ⟨g4, 0, none⟩) m m) := hX.cell 0
  go_wp2_with fail
  refine (eqStuffS_same _ _ xs n n n hn hz _ hx.arr hc.arr).mono ?_
  rintro e W ⟨rfl, hb⟩
  have z13 := Lib.hid hb.size
  replace hv := bl_trans hv hb
  replace hB0 := hB0.below hb
  replace hX := hX.below hb
  replace hx := hx.below hb
  replace hy := hy.below hb
  replace hc := hc.below hb
  clear hb
  have k0 : W.cell? ⟨g, 0, none⟩ = some (.slice B m d) := hB0.cell 0
  have x0 : W.cell? ⟨gx, 0, none⟩ = some (Value.slice (some ⟨g4, 0, none⟩) m m) := hX.cell 0
  go_wp2_with fail
  clear hx hc
  have HS := Lib.hid (show (fun w' : World => (Below w.heap.size w w') ∧ (Blk w' g 25 #[.slice B m d]) ∧ (Blk w' gx 32 #[Value.slice (some ⟨g4, 0, none⟩) m m]) ∧ (Own w' ly uy 2 1 m (.slice (some ⟨g4, 0, none⟩) m m) (flat icell ps)) ∧ (World.cell? w' ⟨g, 0, none⟩ = some (.slice B m d)) ∧ (World.cell? w' ⟨gx, 0, none⟩ = some (Value.slice (some ⟨g4, 0, none⟩) m m))) W.drew from ⟨hv.drew, hB0.below (Below.refl _ _).drew, hX.below (Below.refl _ _).drew, hy.drew, k0, x0⟩)
  clear x0 k0 hy hX hB0 hv
  go_region_held3 (fun w' => (Below w.heap.size w w') ∧ (Blk w' g 25 #[.slice B m d]) ∧ (Blk w' gx 32 #[Value.slice (some ⟨g4, 0, none⟩) m m]) ∧ (Own w' ly uy 2 1 m (.slice (some ⟨g4, 0, none⟩) m m) (flat icell ps)) ∧ (World.cell? w' ⟨g, 0, none⟩ = some (.slice B m d)) ∧ (World.cell? w' ⟨gx, 0, none⟩ = some (Value.slice (some ⟨g4, 0, none⟩) m m)))
    (first | exact HS.out | (go_split_ands; exact ⟨bl_trans (by assumption) hb, Blk.below (by assumption) hb, Blk.below (by assumption) hb, Own.below (by assumption) hb, bl_cell hb (by assumption), bl_cell hb (by assumption)⟩))
    (first | (go_at_call 16; go_split_ands; refine (toSole_c B ps m d hp hz' _ (hB.below (by assumption))).mono ?_; rintro e W ⟨g6, rfl, hown3, hb⟩) | (go_at_call 19; go_split_ands; refine (eqSole_c _ _ ps m m m hp hz' _ (Own.arr (lo := ly) (hi := uy) (e := 2) (size := 1) (by assumption)) (Arr.own hown3)).mono ?_; rintro e W ⟨rfl, hb⟩))
  go_split_ands
  have hv := (by assumption : Below w.heap.size w _)
  have hB0 := (by assumption : Blk _ g 25 #[.slice B m d])
  have hX := (by assumption : Blk _ gx 32 #[Value.slice (some ⟨g4, 0, none⟩) m m])
  have hy := (by assumption : Own _ ly uy 2 1 m (.slice (some ⟨g4, 0, none⟩) m m) (flat icell ps))
  have k0 := (by assumption : World.cell? _ ⟨g, 0, none⟩ = some (.slice B m d))
  have x0 := (by assumption : World.cell? _ ⟨gx, 0, none⟩ = some (Value.slice (some ⟨g4, 0, none⟩) m m))
  go_wp2_with fail
  go_returns
  exact Ret.mk rfl hv

set_option maxRecDepth 100000 in
set_option maxHeartbeats 2000000 in
theorem FnExactStiffOf_law (A : Option Addr) (xs : List Stuff) (n c : Nat) (B : Option Addr) (ps : List Int) (m d : Nat) (hn : Hid (xs.length = n)) (hmax : n ≤ 9223372036854775807) (hs : Hid (∀ x ∈ xs, x.name.size ≤ 9223372036854775807)) (hp : Hid (ps.length = m)) (hmax' : m ≤ 9223372036854775807) (w : World) (hA : Arr w A (flat Stuff.cells xs)) (hB : Arr w B (flat icell ps)) :
    Calls Try.prog 4 #[.slice A n c, .agg #[.slice B m d]] w (Ret (.bool true) w) := by
  have hle := szS_le Stuff.sizes xs 1048576 (by omega)
  go_enter Try.func4, Try.ntmps4
  go_wp2_with fail
  obtain ⟨W, hW⟩ : ∃ W, W = w.alloc (Obj.cells #[Value.slice B m d] 25) := ⟨_, rfl⟩
  obtain ⟨g, hg⟩ : ∃ g, g = w.heap.size := ⟨_, rfl⟩
  have hv : Below w.heap.size w W := by rw [hW]; exact bl_alloc (Below.refl _ _) _
  have hB0 : Blk W g 25 #[Value.slice B m d] := by rw [hW, hg]; exact Blk.new _ _ _
  rw [← hW, ← hg]
  clear hW hg
  have k0 : W.cell? ⟨g, 0, none⟩ = some (.slice B m d) := hB0.cell 0
  refine (szStuffS_c A xs n c 1048576 hn hmax hs (by omega) (by omega) _ (hA.below hv)).mono ?_
  rintro e W ⟨rfl, hb⟩
  have z0 := Lib.hid hb.size
  replace hv := bl_trans hv hb
  replace hB0 := hB0.below hb
  clear hb
  have k0 : W.cell? ⟨g, 0, none⟩ = some (.slice B m d) := hB0.cell 0
  obtain ⟨q, hq'⟩ : ∃ q, q = szS Stuff.sizes xs 1048576 := ⟨_, rfl⟩
  rw [← hq'] at hle ⊢
  by_cases hq : q < 0
  · clear hq'
    go_wp2_with fail
    go_returns
    exact Ret.mk rfl hv
  have hz : (n : Int) ≤ 1048576 := by rw [← hn.out]; exact szS_len (by rw [← hq']; omega) (by omega)
  clear hq'
  have hle2 := szGo_le [m] q (by omega)
  go_wp2_with fail
  refine (szSole_c B m d q hmax' (by omega) (by omega) _).mono ?_
  rintro e W ⟨rfl, hb⟩
  have z1 := Lib.hid hb.size
  replace hv := bl_trans hv hb
  replace hB0 := hB0.below hb
  clear hb
  have k0 : W.cell? ⟨g, 0, none⟩ = some (.slice B m d) := hB0.cell 0
  obtain ⟨q2, hq2'⟩ : ∃ q2, q2 = szGo [m] q := ⟨_, rfl⟩
  have hz2 : 0 ≤ q2 → (m : Int) ≤ 1048576 := by
    intro h0
    have h1 := szGo_sum [m] q (by rw [← hq2']; exact h0)
    rw [← hq2'] at h1
    simp at h1
    omega
  rw [← hq2'] at hle2 ⊢
  by_cases hq2 : q2 < 0
  · clear hq2'
    go_wp2_with fail
    go_returns
    exact Ret.mk rfl hv
  have hz' : (m : Int) ≤ 1048576 := hz2 (by omega)
  clear hq2' hz2
  obtain ⟨ra, rb, hform⟩ := rSole_form Stuff.stiff xs ps
  have HW := fun (a b : Option Addr) (w : World) (h : Arr w a (flat Stuff.cells xs)) (h' : Arr w b (flat icell ps)) => SStiffOf_c a xs n n hn hz hs b ps m m hp hz' w h h'
  have HG' := fun (a b : Option Addr) (w : World) (h : Arr w a (flat Stuff.cells xs)) (h' : Arr w b (flat icell ps)) => StiffOf_c a xs n n hn hz hs (Int.le_refl _) b ps m m hp hz' w h h'
  rw [hform] at HW HG'
  clear hform
  replace HW := Lib.hid HW
  replace HG' := Lib.hid HG'
  go_wp2_with fail
  have HS := Lib.hid (show (fun w' : World => (Below w.heap.size w w') ∧ (Blk w' g 25 #[.slice B m d]) ∧ (World.cell? w' ⟨g, 0, none⟩ = some (.slice B m d))) W.drew from ⟨hv.drew, hB0.below (Below.refl _ _).drew, k0⟩)
  clear k0 hB0 hv
  go_region_held3 (fun w' => (Below w.heap.size w w') ∧ (Blk w' g 25 #[.slice B m d]) ∧ (World.cell? w' ⟨g, 0, none⟩ = some (.slice B m d)))
    (first | exact HS.out | (go_split_ands; exact ⟨bl_trans (by assumption) hb, Blk.below (by assumption) hb, bl_cell hb (by assumption)⟩))
    (first | (go_at_call 15; go_split_ands; refine (toStuffS_c A xs n c hn hz _ (hA.below (by assumption))).mono ?_; rintro e W ⟨g1, rfl, ha, hb⟩) | (go_at_call 16; go_split_ands; refine (toSole_c B ps m d hp hz' _ (hB.below (by assumption))).mono ?_; rintro e W ⟨g2, rfl, hb1, hb⟩; have ha' := own_below ha hb) | (go_at_call 20; go_split_ands; refine (HW.out _ _ _ (Arr.own ha') (Arr.own hb1)).mono ?_; rintro e W ⟨rfl, hb⟩))
  go_split_ands
  have hv := (by assumption : Below w.heap.size w _)
  have hB0 := (by assumption : Blk _ g 25 #[.slice B m d])
  have k0 := (by assumption : World.cell? _ ⟨g, 0, none⟩ = some (.slice B m d))
  go_wp2_with fail
  refine (toStuffS_c A xs n c hn hz _ (hA.below hv)).mono ?_
  rintro e W ⟨g3, rfl, hx, hb⟩
  obtain ⟨lx, ux, h_own, z2, z3⟩ := Own.named hx hb
  replace hx := h_own
  clear h_own
  have z4 := Lib.hid hb.size
  replace hv := bl_trans hv hb
  replace hB0 := hB0.below hb
  clear hb
  have k0 : W.cell? ⟨g, 0, none⟩ = some (.slice B m d) := hB0.cell 0
  go_wp2_with fail
  refine (toSole_c B ps m d hp hz' _ (hB.below hv)).mono ?_
  rintro e W ⟨g4, rfl, hy, hb⟩
  obtain ⟨ly, uy, h_own, z5, z6⟩ := Own.named hy hb
  replace hy := h_own
  clear h_own
  have z7 := Lib.hid hb.size
  replace hv := bl_trans hv hb
  replace hB0 := hB0.below hb
  replace hx := hx.below hb
  clear hb
  have k0 : W.cell? ⟨g, 0, none⟩ = some (.slice B m d) := hB0.cell 0
  obtain ⟨W0, hW0⟩ : ∃ W0, W0 = W.alloc (Obj.cells #[Value.slice (some ⟨g4, 0, none⟩) m m] 32) := ⟨_, rfl⟩
  obtain ⟨gx, hgx⟩ : ∃ gx, gx = W.heap.size := ⟨_, rfl⟩
  have hb : Below W.heap.size W W0 := by rw [hW0]; exact bl_alloc (Below.refl _ _) _
  have hX : Blk W0 gx 32 #[Value.slice (some ⟨g4, 0, none⟩) m m] := by rw [hW0, hgx]; exact Blk.new _ _ _
  have a_k0 := bl_cell hb k0
  rw [hW0] at a_k0
  go_wp2_with fail
  rw [← hW0, ← hgx]
  clear hW0 hgx a_k0
  have z8 := Lib.hid hb.size
  replace hv := bl_trans hv hb
  replace hB0 := hB0.below hb
  replace hx := hx.below hb
  replace hy := hy.below hb
  clear hb
  have k0 : W0.cell? ⟨g, 0, none⟩ = some (.slice B m d) := hB0.cell 0
  have x0 : W0.cell? ⟨gx, 0, none⟩ = some (Value.slice (some ⟨g4, 0, none⟩) m m) := hX.cell 0
  refine (HG'.out _ _ _ hx.arr hy.arr).mono ?_
  rintro e W ⟨rfl, hb⟩
  have z9 := Lib.hid hb.size
  replace hv := bl_trans hv hb
  replace hB0 := hB0.below hb
  replace hX := hX.below hb
  replace hx := hx.below hb
  replace hy := hy.below hb
  clear hb
  have k0 : W.cell? ⟨g, 0, none⟩ = some (.slice B m d) := hB0.cell 0
  have x0 : W.cell? ⟨gx, 0, none⟩ = some (Value.slice (some ⟨g4, 0, none⟩) m m) := hX.cell 0
  go_wp2_with fail
  refine (toStuffS_c A xs n c hn hz _ (hA.below hv)).mono ?_
  rintro e W ⟨g5, rfl, hc, hb⟩
  obtain ⟨lc, uc, h_own, z10, z11⟩ := Own.named hc hb
  replace hc := h_own
  clear h_own
  have z12 := Lib.hid hb.size
  replace hv := bl_trans hv hb
  replace hB0 := hB0.below hb
  replace hX := hX.below hb
  replace hx := hx.below hb
  replace hy := hy.below hb
  clear hb
  have k0 : W.cell? ⟨g, 0, none⟩ = some (.slice B m d) := hB0.cell 0
  have x0 : W.cell? ⟨gx, 0, none⟩ = some (Value.slice (some ⟨g4, 0, none⟩) m m) := hX.cell 0
  go_wp2_with fail
  refine (eqStuffS_same _ _ xs n n n hn hz _ hx.arr hc.arr).mono ?_
  rintro e W ⟨rfl, hb⟩
  have z13 := Lib.hid hb.size
  replace hv := bl_trans hv hb
  replace hB0 := hB0.below hb
  replace hX := hX.below hb
  replace hx := hx.below hb
  replace hy := hy.below hb
  replace hc := hc.below hb
  clear hb
  have k0 : W.cell? ⟨g, 0, none⟩ = some (.slice B m d) := hB0.cell 0
  have x0 : W.cell? ⟨gx, 0, none⟩ = some (Value.slice (some ⟨g4, 0, none⟩) m m) := hX.cell 0
  go_wp2_with fail
  clear hx hc
  have HS := Lib.hid (show (fun w' : World => (Below w.heap.size w w') ∧ (Blk w' g 25 #[.slice B m d]) ∧ (Blk w' gx 32 #[Value.slice (some ⟨g4, 0, none⟩) m m]) ∧ (Own w' ly uy 2 1 m (.slice (some ⟨g4, 0, none⟩) m m) (flat icell ps)) ∧ (World.cell? w' ⟨g, 0, none⟩ = some (.slice B m d)) ∧ (World.cell? w' ⟨gx, 0, none⟩ = some (Value.slice (some ⟨g4, 0, none⟩) m m))) W.drew from ⟨hv.drew, hB0.below (Below.refl _ _).drew, hX.below (Below.refl _ _).drew, hy.drew, k0, x0⟩)
  clear x0 k0 hy hX hB0 hv
  go_region_held3 (fun w' => (Below w.heap.size w w') ∧ (Blk w' g 25 #[.slice B m d]) ∧ (Blk w' gx 32 #[Value.slice (some ⟨g4, 0, none⟩) m m]) ∧ (Own w' ly uy 2 1 m (.slice (some ⟨g4, 0, none⟩) m m) (flat icell ps)) ∧ (World.cell? w' ⟨g, 0, none⟩ = some (.slice B m d)) ∧ (World.cell? w' ⟨gx, 0, none⟩ = some (Value.slice (some ⟨g4, 0, none⟩) m m)))
    (first | exact HS.out | (go_split_ands; exact ⟨bl_trans (by assumption) hb, Blk.below (by assumption) hb, Blk.below (by assumption) hb, Own.below (by assumption) hb, bl_cell hb (by assumption), bl_cell hb (by assumption)⟩))
    (first | (go_at_call 16; go_split_ands; refine (toSole_c B ps m d hp hz' _ (hB.below (by assumption))).mono ?_; rintro e W ⟨g6, rfl, hown3, hb⟩) | (go_at_call 19; go_split_ands; refine (eqSole_c _ _ ps m m m hp hz' _ (Own.arr (lo := ly) (hi := uy) (e := 2) (size := 1) (by assumption)) (Arr.own hown3)).mono ?_; rintro e W ⟨rfl, hb⟩))
  go_split_ands
  have hv := (by assumption : Below w.heap.size w _)
  have hB0 := (by assumption : Blk _ g 25 #[.slice B m d])
  have hX := (by assumption : Blk _ gx 32 #[Value.slice (some ⟨g4, 0, none⟩) m m])
  have hy := (by assumption : Own _ ly uy 2 1 m (.slice (some ⟨g4, 0, none⟩) m m) (flat icell ps))
  have k0 := (by assumption : World.cell? _ ⟨g, 0, none⟩ = some (.slice B m d))
  have x0 := (by assumption : World.cell? _ ⟨gx, 0, none⟩ = some (Value.slice (some ⟨g4, 0, none⟩) m m))
  go_wp2_with fail
  go_returns
  exact Ret.mk rfl hv

set_option maxRecDepth 100000 in
set_option maxHeartbeats 2000000 in
theorem FnExactThickOf_law (A : Option Addr) (xs : List Stuff) (n c : Nat) (B : Option Addr) (ps : List Int) (m d : Nat) (hn : Hid (xs.length = n)) (hmax : n ≤ 9223372036854775807) (hs : Hid (∀ x ∈ xs, x.name.size ≤ 9223372036854775807)) (hp : Hid (ps.length = m)) (hmax' : m ≤ 9223372036854775807) (w : World) (hA : Arr w A (flat Stuff.cells xs)) (hB : Arr w B (flat icell ps)) :
    Calls Try.prog 5 #[.slice A n c, .agg #[.slice B m d]] w (Ret (.bool true) w) := by
  have hle := szS_le Stuff.sizes xs 1048576 (by omega)
  go_enter Try.func5, Try.ntmps5
  go_wp2_with fail
  obtain ⟨W, hW⟩ : ∃ W, W = w.alloc (Obj.cells #[Value.slice B m d] 25) := ⟨_, rfl⟩
  obtain ⟨g, hg⟩ : ∃ g, g = w.heap.size := ⟨_, rfl⟩
  have hv : Below w.heap.size w W := by rw [hW]; exact bl_alloc (Below.refl _ _) _
  have hB0 : Blk W g 25 #[Value.slice B m d] := by rw [hW, hg]; exact Blk.new _ _ _
  rw [← hW, ← hg]
  clear hW hg
  have k0 : W.cell? ⟨g, 0, none⟩ = some (.slice B m d) := hB0.cell 0
  refine (szStuffS_c A xs n c 1048576 hn hmax hs (by omega) (by omega) _ (hA.below hv)).mono ?_
  rintro e W ⟨rfl, hb⟩
  have z0 := Lib.hid hb.size
  replace hv := bl_trans hv hb
  replace hB0 := hB0.below hb
  clear hb
  have k0 : W.cell? ⟨g, 0, none⟩ = some (.slice B m d) := hB0.cell 0
  obtain ⟨q, hq'⟩ : ∃ q, q = szS Stuff.sizes xs 1048576 := ⟨_, rfl⟩
  rw [← hq'] at hle ⊢
  by_cases hq : q < 0
  · clear hq'
    go_wp2_with fail
    go_returns
    exact Ret.mk rfl hv
  have hz : (n : Int) ≤ 1048576 := by rw [← hn.out]; exact szS_len (by rw [← hq']; omega) (by omega)
  clear hq'
  have hle2 := szGo_le [m] q (by omega)
  go_wp2_with fail
  refine (szSole_c B m d q hmax' (by omega) (by omega) _).mono ?_
  rintro e W ⟨rfl, hb⟩
  have z1 := Lib.hid hb.size
  replace hv := bl_trans hv hb
  replace hB0 := hB0.below hb
  clear hb
  have k0 : W.cell? ⟨g, 0, none⟩ = some (.slice B m d) := hB0.cell 0
  obtain ⟨q2, hq2'⟩ : ∃ q2, q2 = szGo [m] q := ⟨_, rfl⟩
  have hz2 : 0 ≤ q2 → (m : Int) ≤ 1048576 := by
    intro h0
    have h1 := szGo_sum [m] q (by rw [← hq2']; exact h0)
    rw [← hq2'] at h1
    simp at h1
    omega
  rw [← hq2'] at hle2 ⊢
  by_cases hq2 : q2 < 0
  · clear hq2'
    go_wp2_with fail
    go_returns
    exact Ret.mk rfl hv
  have hz' : (m : Int) ≤ 1048576 := hz2 (by omega)
  clear hq2' hz2
  obtain ⟨ra, rb, hform⟩ := rSole_form Stuff.thick xs ps
  have HW := fun (a b : Option Addr) (w : World) (h : Arr w a (flat Stuff.cells xs)) (h' : Arr w b (flat icell ps)) => SThickOf_c a xs n n hn hz hs b ps m m hp hz' w h h'
  have HG' := fun (a b : Option Addr) (w : World) (h : Arr w a (flat Stuff.cells xs)) (h' : Arr w b (flat icell ps)) => ThickOf_c a xs n n hn hz hs (Int.le_refl _) b ps m m hp hz' w h h'
  rw [hform] at HW HG'
  clear hform
  replace HW := Lib.hid HW
  replace HG' := Lib.hid HG'
  go_wp2_with fail
  have HS := Lib.hid (show (fun w' : World => (Below w.heap.size w w') ∧ (Blk w' g 25 #[.slice B m d]) ∧ (World.cell? w' ⟨g, 0, none⟩ = some (.slice B m d))) W.drew from ⟨hv.drew, hB0.below (Below.refl _ _).drew, k0⟩)
  clear k0 hB0 hv
  go_region_held3 (fun w' => (Below w.heap.size w w') ∧ (Blk w' g 25 #[.slice B m d]) ∧ (World.cell? w' ⟨g, 0, none⟩ = some (.slice B m d)))
    (first | exact HS.out | (go_split_ands; exact ⟨bl_trans (by assumption) hb, Blk.below (by assumption) hb, bl_cell hb (by assumption)⟩))
    (first | (go_at_call 15; go_split_ands; refine (toStuffS_c A xs n c hn hz _ (hA.below (by assumption))).mono ?_; rintro e W ⟨g1, rfl, ha, hb⟩) | (go_at_call 16; go_split_ands; refine (toSole_c B ps m d hp hz' _ (hB.below (by assumption))).mono ?_; rintro e W ⟨g2, rfl, hb1, hb⟩; have ha' := own_below ha hb) | (go_at_call 22; go_split_ands; refine (HW.out _ _ _ (Arr.own ha') (Arr.own hb1)).mono ?_; rintro e W ⟨rfl, hb⟩))
  go_split_ands
  have hv := (by assumption : Below w.heap.size w _)
  have hB0 := (by assumption : Blk _ g 25 #[.slice B m d])
  have k0 := (by assumption : World.cell? _ ⟨g, 0, none⟩ = some (.slice B m d))
  go_wp2_with fail
  refine (toStuffS_c A xs n c hn hz _ (hA.below hv)).mono ?_
  rintro e W ⟨g3, rfl, hx, hb⟩
  obtain ⟨lx, ux, h_own, z2, z3⟩ := Own.named hx hb
  replace hx := h_own
  clear h_own
  have z4 := Lib.hid hb.size
  replace hv := bl_trans hv hb
  replace hB0 := hB0.below hb
  clear hb
  have k0 : W.cell? ⟨g, 0, none⟩ = some (.slice B m d) := hB0.cell 0
  go_wp2_with fail
  refine (toSole_c B ps m d hp hz' _ (hB.below hv)).mono ?_
  rintro e W ⟨g4, rfl, hy, hb⟩
  obtain ⟨ly, uy, h_own, z5, z6⟩ := Own.named hy hb
  replace hy := h_own
  clear h_own
  have z7 := Lib.hid hb.size
  replace hv := bl_trans hv hb
  replace hB0 := hB0.below hb
  replace hx := hx.below hb
  clear hb
  have k0 : W.cell? ⟨g, 0, none⟩ = some (.slice B m d) := hB0.cell 0
  obtain ⟨W0, hW0⟩ : ∃ W0, W0 = W.alloc (Obj.cells #[Value.slice (some ⟨g4, 0, none⟩) m m] 32) := ⟨_, rfl⟩
  obtain ⟨gx, hgx⟩ : ∃ gx, gx = W.heap.size := ⟨_, rfl⟩
  have hb : Below W.heap.size W W0 := by rw [hW0]; exact bl_alloc (Below.refl _ _) _
  have hX : Blk W0 gx 32 #[Value.slice (some ⟨g4, 0, none⟩) m m] := by rw [hW0, hgx]; exact Blk.new _ _ _
  have a_k0 := bl_cell hb k0
  rw [hW0] at a_k0
  go_wp2_with fail
  rw [← hW0, ← hgx]
  clear hW0 hgx a_k0
  have z8 := Lib.hid hb.size
  replace hv := bl_trans hv hb
  replace hB0 := hB0.below hb
  replace hx := hx.below hb
  replace hy := hy.below hb
  clear hb
  have k0 : W0.cell? ⟨g, 0, none⟩ = some (.slice B m d) := hB0.cell 0
  have x0 : W0.cell? ⟨gx, 0, none⟩ = some (Value.slice (some ⟨g4, 0, none⟩) m m) := hX.cell 0
  refine (HG'.out _ _ _ hx.arr hy.arr).mono ?_
  rintro e W ⟨rfl, hb⟩
  have z9 := Lib.hid hb.size
  replace hv := bl_trans hv hb
  replace hB0 := hB0.below hb
  replace hX := hX.below hb
  replace hx := hx.below hb
  replace hy := hy.below hb
  clear hb
  have k0 : W.cell? ⟨g, 0, none⟩ = some (.slice B m d) := hB0.cell 0
  have x0 : W.cell? ⟨gx, 0, none⟩ = some (Value.slice (some ⟨g4, 0, none⟩) m m) := hX.cell 0
  go_wp2_with fail
  refine (toStuffS_c A xs n c hn hz _ (hA.below hv)).mono ?_
  rintro e W ⟨g5, rfl, hc, hb⟩
  obtain ⟨lc, uc, h_own, z10, z11⟩ := Own.named hc hb
  replace hc := h_own
  clear h_own
  have z12 := Lib.hid hb.size
  replace hv := bl_trans hv hb
  replace hB0 := hB0.below hb
  replace hX := hX.below hb
  replace hx := hx.below hb
  replace hy := hy.below hb
  clear hb
  have k0 : W.cell? ⟨g, 0, none⟩ = some (.slice B m d) := hB0.cell 0
  have x0 : W.cell? ⟨gx, 0, none⟩ = some (Value.slice (some ⟨g4, 0, none⟩) m m) := hX.cell 0
  go_wp2_with fail
  refine (eqStuffS_same _ _ xs n n n hn hz _ hx.arr hc.arr).mono ?_
  rintro e W ⟨rfl, hb⟩
  have z13 := Lib.hid hb.size
  replace hv := bl_trans hv hb
  replace hB0 := hB0.below hb
  replace hX := hX.below hb
  replace hx := hx.below hb
  replace hy := hy.below hb
  replace hc := hc.below hb
  clear hb
  have k0 : W.cell? ⟨g, 0, none⟩ = some (.slice B m d) := hB0.cell 0
  have x0 : W.cell? ⟨gx, 0, none⟩ = some (Value.slice (some ⟨g4, 0, none⟩) m m) := hX.cell 0
  go_wp2_with fail
  clear hx hc
  have HS := Lib.hid (show (fun w' : World => (Below w.heap.size w w') ∧ (Blk w' g 25 #[.slice B m d]) ∧ (Blk w' gx 32 #[Value.slice (some ⟨g4, 0, none⟩) m m]) ∧ (Own w' ly uy 2 1 m (.slice (some ⟨g4, 0, none⟩) m m) (flat icell ps)) ∧ (World.cell? w' ⟨g, 0, none⟩ = some (.slice B m d)) ∧ (World.cell? w' ⟨gx, 0, none⟩ = some (Value.slice (some ⟨g4, 0, none⟩) m m))) W.drew from ⟨hv.drew, hB0.below (Below.refl _ _).drew, hX.below (Below.refl _ _).drew, hy.drew, k0, x0⟩)
  clear x0 k0 hy hX hB0 hv
  go_region_held3 (fun w' => (Below w.heap.size w w') ∧ (Blk w' g 25 #[.slice B m d]) ∧ (Blk w' gx 32 #[Value.slice (some ⟨g4, 0, none⟩) m m]) ∧ (Own w' ly uy 2 1 m (.slice (some ⟨g4, 0, none⟩) m m) (flat icell ps)) ∧ (World.cell? w' ⟨g, 0, none⟩ = some (.slice B m d)) ∧ (World.cell? w' ⟨gx, 0, none⟩ = some (Value.slice (some ⟨g4, 0, none⟩) m m)))
    (first | exact HS.out | (go_split_ands; exact ⟨bl_trans (by assumption) hb, Blk.below (by assumption) hb, Blk.below (by assumption) hb, Own.below (by assumption) hb, bl_cell hb (by assumption), bl_cell hb (by assumption)⟩))
    (first | (go_at_call 16; go_split_ands; refine (toSole_c B ps m d hp hz' _ (hB.below (by assumption))).mono ?_; rintro e W ⟨g6, rfl, hown3, hb⟩) | (go_at_call 19; go_split_ands; refine (eqSole_c _ _ ps m m m hp hz' _ (Own.arr (lo := ly) (hi := uy) (e := 2) (size := 1) (by assumption)) (Arr.own hown3)).mono ?_; rintro e W ⟨rfl, hb⟩))
  go_split_ands
  have hv := (by assumption : Below w.heap.size w _)
  have hB0 := (by assumption : Blk _ g 25 #[.slice B m d])
  have hX := (by assumption : Blk _ gx 32 #[Value.slice (some ⟨g4, 0, none⟩) m m])
  have hy := (by assumption : Own _ ly uy 2 1 m (.slice (some ⟨g4, 0, none⟩) m m) (flat icell ps))
  have k0 := (by assumption : World.cell? _ ⟨g, 0, none⟩ = some (.slice B m d))
  have x0 := (by assumption : World.cell? _ ⟨gx, 0, none⟩ = some (Value.slice (some ⟨g4, 0, none⟩) m m))
  go_wp2_with fail
  go_returns
  exact Ret.mk rfl hv

end Go.Proofs.Ytiplnpbeoaefaaa
