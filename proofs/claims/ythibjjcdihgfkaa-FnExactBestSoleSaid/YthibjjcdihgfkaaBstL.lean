/- The laws on the best soles, walked. -/
import Derived.Test.YthibjjcdihgfkaaBstW
import Derived.Test.YthibjjcdihgfkaaSolL
import Derived.Test.YthibjjcdihgfkaaOwn
namespace Go.Proofs.Ythibjjcdihgfkaa
open Go.RowKit

theorem eqStuffS_same (A B : Option Addr) (xs : List Stuff) (n c d : Nat) (hn : Hid (xs.length = n)) (hz : (n : Int) ≤ 1048576) (w : World) (hA : Arr w A (flat Stuff.cells xs)) (hB : Arr w B (flat Stuff.cells xs)) :
    Calls Try.prog 18 #[.slice A n c, .slice B n d] w (Ret (.bool true) w) := by
  have h := eqStuffS_c A B xs xs n n c d hn hn hz w hA hB
  rwa [(listBeq_iff Stuff.beq_iff xs xs).2 rfl] at h
theorem bestL_len (xs : List Stuff) (T S : Int) (f : Stuff → Int) : (bestL xs T S f).length ≤ 6 := by
  unfold bestL
  repeat' split
  all_goals first | exact bestV_len xs T S f | simp
set_option maxHeartbeats 800000 in
theorem markSole_c (A : Option Addr) (n c base : Nat) (cs : List Value) (q : Int) (h0 : 0 ≤ q) (h1 : q + n ≤ 100000000) (hz : (n : Int) ≤ 10000000) (w : World) (hO : w.ownsRow base 2 1 (.slice A n c) n cs) :
    Calls Try.prog 20 #[.agg #[.slice A n c], .int .i64 q] w (MarkS base 2 1 A n c (flat (fun i : Nat => mkicell (q + i)) (List.range n)) (q + n) w) := by
  go_enter Try.func20, Try.ntmps20
  go_wp2_with fail
  refine (markInt64S_c A n c base cs q h0 h1 hz _ (own_below hO (bl_alloc (Below.refl _ _) _))).mono ?_
  rintro e W ⟨rfl, hown, hg⟩
  go_wp2_with fail
  go_returns
  exact ⟨rfl, hown, grown_trans (grown_alloc (World.grownBy.refl _ _) _) hg⟩
set_option maxHeartbeats 800000 in
theorem heldSole_c (A : Option Addr) (n c : Nat) (q : Int) (h0 : 0 ≤ q) (h1 : q + n ≤ 100000000) (hz : (n : Int) ≤ 10000000) (w : World) (hA : Arr w A (flat (fun i : Nat => mkicell (q + i)) (List.range n))) :
    Calls Try.prog 21 #[.agg #[.slice A n c], .int .i64 q] w (Ret (.int .i64 (q + n)) w) := by
  go_enter Try.func21, Try.ntmps21
  go_wp2_with fail
  refine (heldInt64S_c A n c q h0 h1 hz _ (hA.alloc _)).mono ?_
  rintro e W ⟨rfl, hb⟩
  go_wp2_with fail
  go_returns
  exact Ret.mk rfl (bl_trans (bl_alloc (Below.refl _ _) _) hb)
theorem addr_lt {w : World} {base e s n : Nat} {g : Nat} {c : Nat} {cs : List Value} (h : w.ownsRow base e s (.slice (some ⟨g, 0, none⟩) n c) n cs) : ∀ ad, some (⟨g, 0, none⟩ : Addr) = some ad → ad.block < w.heap.size := by
  intro ad e
  injection e with e
  subst e
  exact own_lt h g rfl
set_option maxRecDepth 100000 in
set_option maxHeartbeats 2000000 in
theorem FnExactBestSole_law (A : Option Addr) (xs : List Stuff) (n c : Nat) (T S : Int) (hn : Hid (xs.length = n)) (hmax : n ≤ 9223372036854775807) (hs : Hid (∀ x ∈ xs, x.name.size ≤ 9223372036854775807)) (w : World) (hA : Arr w A (flat Stuff.cells xs)) :
    Calls Try.prog 4 #[.slice A n c, .int .i64 T, .int .i64 S] w (Ret (.bool true) w) := by
  have hle := szS_le Stuff.sizes xs 1048576 (by omega)
  go_enter Try.func4, Try.ntmps4
  go_wp2_with fail
  refine (szStuffS_c A xs n c 1048576 hn hmax hs (by omega) (by omega) _ hA).mono ?_
  rintro e W ⟨rfl, hv⟩
  obtain ⟨q, hq'⟩ : ∃ q, q = szS Stuff.sizes xs 1048576 := ⟨_, rfl⟩
  rw [← hq'] at hle ⊢
  by_cases hq : q < 0
  · clear hq'
    go_wp2_with fail
    go_returns
    exact Ret.mk rfl hv
  have hz : (n : Int) ≤ 1048576 := by rw [← hn.out]; exact szS_len (by rw [← hq']; omega) (by omega)
  clear hq'
  obtain ⟨l, hl⟩ : ∃ l, l = bestL xs T S Stuff.price := ⟨_, rfl⟩
  obtain ⟨co, hco⟩ : ∃ co, co = bestC xs T S Stuff.price := ⟨_, rfl⟩
  have hlen : l.length ≤ 6 := by rw [hl]; exact bestL_len _ _ _ _
  obtain ⟨r, hr⟩ : ∃ r, r = l.length := ⟨_, rfl⟩
  have HW := fun (a : Option Addr) (w : World) (hl : ∀ ad, a = some ad → ad.block < w.heap.size) (h : Arr w a (flat Stuff.cells xs)) => SBestSole_c a xs n n hn hz hs T S w hl h
  have HG' := fun (a : Option Addr) (w : World) (hl : ∀ ad, a = some ad → ad.block < w.heap.size) (h : Arr w a (flat Stuff.cells xs)) => BestSole_c a xs n n hn hz hs (Int.le_refl _) T S w hl h
  rw [← hl, ← hco] at HW HG'
  unfold OutB at HW HG'
  rw [← hr] at HW HG' hlen
  have hr1 := Lib.hid hr.symm
  clear hl hco hr
  replace HW := Lib.hid HW
  replace HG' := Lib.hid HG'
  have z0 := Lib.hid hv.size
  go_wp2_with fail
  refine (toStuffS_c A xs n c hn hz _ (hA.below hv)).mono ?_
  rintro e W ⟨g1, rfl, hown1, hb⟩
  have z1 := Lib.hid hb.size
  replace hv := bl_trans hv hb
  clear hb
  go_wp2_with fail
  refine (HW.out _ _ (addr_lt hown1) (Arr.own hown1)).mono ?_
  rintro e W ⟨Aw, cw, rfl, how, hb⟩
  clear hown1
  obtain ⟨lw, uw, h_own, z2, z3⟩ := Own.named how hb
  replace how := h_own
  clear h_own
  have z4 := Lib.hid hb.size
  replace hv := bl_trans hv hb
  clear hb
  obtain ⟨W0, hW0⟩ : ∃ W0, W0 = W.alloc (Obj.cells #[Value.slice Aw r cw] 42) := ⟨_, rfl⟩
  obtain ⟨gw, hgx⟩ : ∃ gx, gx = W.heap.size := ⟨_, rfl⟩
  have hb : Below W.heap.size W W0 := by rw [hW0]; exact bl_alloc (Below.refl _ _) _
  have hBw : Blk W0 gw 42 #[Value.slice Aw r cw] := by rw [hW0, hgx]; exact Blk.new _ _ _
  have z5 := Lib.hid (Nat.le_of_eq hgx.symm)
  have z6 := Lib.hid hBw.lt
  go_wp2_with fail
  rw [← hW0, ← hgx]
  clear hW0 hgx 
  have z7 := Lib.hid hb.size
  replace hv := bl_trans hv hb
  replace how := how.below hb
  clear hb
  have a0 : W0.cell? ⟨gw, 0, none⟩ = some (Value.slice Aw r cw) := hBw.cell 0
  refine (toStuffS_c A xs n c hn hz _ (hA.below hv)).mono ?_
  rintro e W ⟨g2, rfl, hox, hb⟩
  obtain ⟨lx, ux, h_own, z8, z9⟩ := Own.named hox hb
  replace hox := h_own
  clear h_own
  have z10 := Lib.hid hb.size
  replace hv := bl_trans hv hb
  replace hBw := hBw.below hb
  replace how := how.below hb
  clear hb
  have a0 : W.cell? ⟨gw, 0, none⟩ = some (Value.slice Aw r cw) := hBw.cell 0
  go_wp2_with fail
  refine (HG'.out _ _ (addr_lt hox.1) hox.arr).mono ?_
  rintro e W ⟨Ag, cg, rfl, hog, hb⟩
  obtain ⟨lg, ug, h_own, z11, z12⟩ := Own.named hog hb
  replace hog := h_own
  clear h_own
  have z13 := Lib.hid hb.size
  replace hv := bl_trans hv hb
  replace hBw := hBw.below hb
  replace how := how.below hb
  replace hox := hox.below hb
  clear hb
  have a0 : W.cell? ⟨gw, 0, none⟩ = some (Value.slice Aw r cw) := hBw.cell 0
  obtain ⟨W0, hW0⟩ : ∃ W0, W0 = W.alloc (Obj.cells #[Value.slice Ag r cg] 42) := ⟨_, rfl⟩
  obtain ⟨gg, hgx⟩ : ∃ gx, gx = W.heap.size := ⟨_, rfl⟩
  have hb : Below W.heap.size W W0 := by rw [hW0]; exact bl_alloc (Below.refl _ _) _
  have hBg : Blk W0 gg 42 #[Value.slice Ag r cg] := by rw [hW0, hgx]; exact Blk.new _ _ _
  have a_a0 : ∀ O, (World.alloc W O).cell? ⟨gw, 0, none⟩ = some (Value.slice Aw r cw) := fun O => (hBw.alloc O).cell 0
  have z14 := Lib.hid (Nat.le_of_eq hgx.symm)
  have z15 := Lib.hid hBg.lt
  go_wp2_with fail
  rw [← hW0, ← hgx]
  clear hW0 hgx a_a0
  have z16 := Lib.hid hb.size
  replace hv := bl_trans hv hb
  replace hBw := hBw.below hb
  replace how := how.below hb
  replace hox := hox.below hb
  replace hog := hog.below hb
  clear hb
  have a0 : W0.cell? ⟨gw, 0, none⟩ = some (Value.slice Aw r cw) := hBw.cell 0
  have b0 : W0.cell? ⟨gg, 0, none⟩ = some (Value.slice Ag r cg) := hBg.cell 0
  refine (eqSole_c Ag Aw l r cg cw hr1 (by omega) _ hog.arr how.arr).mono ?_
  rintro e W ⟨rfl, hb⟩
  have z17 := Lib.hid hb.size
  replace hv := bl_trans hv hb
  replace hBw := hBw.below hb
  replace hBg := hBg.below hb
  replace how := how.below hb
  replace hox := hox.below hb
  replace hog := hog.below hb
  clear hb
  have a0 : W.cell? ⟨gw, 0, none⟩ = some (Value.slice Aw r cw) := hBw.cell 0
  have b0 : W.cell? ⟨gg, 0, none⟩ = some (Value.slice Ag r cg) := hBg.cell 0
  go_wp2_with fail
  refine (toStuffS_c A xs n c hn hz _ (hA.below hv)).mono ?_
  rintro e W ⟨g3, rfl, hc, hb⟩
  obtain ⟨lc, uc, h_own, z18, z19⟩ := Own.named hc hb
  replace hc := h_own
  clear h_own
  have z20 := Lib.hid hb.size
  replace hv := bl_trans hv hb
  replace hBw := hBw.below hb
  replace hBg := hBg.below hb
  replace how := how.below hb
  replace hox := hox.below hb
  replace hog := hog.below hb
  clear hb
  have a0 : W.cell? ⟨gw, 0, none⟩ = some (Value.slice Aw r cw) := hBw.cell 0
  have b0 : W.cell? ⟨gg, 0, none⟩ = some (Value.slice Ag r cg) := hBg.cell 0
  go_wp2_with fail
  refine (eqStuffS_same _ _ xs n n n hn hz _ hox.arr hc.arr).mono ?_
  rintro e W ⟨rfl, hb⟩
  have z21 := Lib.hid hb.size
  replace hv := bl_trans hv hb
  replace hBw := hBw.below hb
  replace hBg := hBg.below hb
  replace how := how.below hb
  replace hox := hox.below hb
  replace hog := hog.below hb
  replace hc := hc.below hb
  clear hb
  have a0 : W.cell? ⟨gw, 0, none⟩ = some (Value.slice Aw r cw) := hBw.cell 0
  have b0 : W.cell? ⟨gg, 0, none⟩ = some (Value.slice Ag r cg) := hBg.cell 0
  go_wp2_with fail
  clear hc
  refine (markStuffS_c (some ⟨g2, 0, none⟩) n n lx _ 1 (by omega) (by omega) (by omega) _ hox.1).mono ?_
  rintro e W ⟨rfl, hown, hg⟩
  have y0 := z0.out
  have y1 := z1.out
  have y2 := z2.out
  have y3 := z3.out
  have y4 := z4.out
  have y5 := z5.out
  have y6 := z6.out
  have y7 := z7.out
  have y8 := z8.out
  have y9 := z9.out
  have y10 := z10.out
  have y11 := z11.out
  have y12 := z12.out
  have y13 := z13.out
  have y14 := z14.out
  have y15 := z15.out
  have y16 := z16.out
  have y17 := z17.out
  have y18 := z18.out
  have y19 := z19.out
  have y20 := z20.out
  have y21 := z21.out
  have hr := hox.row
  have l_how := how.2.1
  have l_hox := hox.2.1
  have l_hog := hog.2.1
  replace hv := bl_grown hv hg (fun k e => by have h1 := hr k e; omega)
  replace hBw := hBw.grown hg (fun e => by have h1 := hr _ e.symm; omega)
  replace hBg := hBg.grown hg (fun e => by have h1 := hr _ e.symm; omega)
  replace how := how.grown hg (fun k e => by have h1 := hr k e; omega)
  replace hog := hog.grown hg (fun k e => by have h1 := hr k e; omega)
  replace hox := hox.marked hg hown
  clear hg hown hr l_how l_hox l_hog
  clear y0 y1 y2 y3 y4 y5 y6 y7 y8 y9 y10 y11 y12 y13 y14 y15 y16 y17 y18 y19 y20 y21
  have a0 : W.cell? ⟨gw, 0, none⟩ = some (Value.slice Aw r cw) := hBw.cell 0
  have b0 : W.cell? ⟨gg, 0, none⟩ = some (Value.slice Ag r cg) := hBg.cell 0
  go_wp2_with fail
  refine (eqSole_c Ag Aw l r cg cw hr1 (by omega) _ hog.arr how.arr).mono ?_
  rintro e W ⟨rfl, hb⟩
  have z22 := Lib.hid hb.size
  replace hv := bl_trans hv hb
  replace hBw := hBw.below hb
  replace hBg := hBg.below hb
  replace how := how.below hb
  replace hox := hox.below hb
  replace hog := hog.below hb
  clear hb
  have a0 : W.cell? ⟨gw, 0, none⟩ = some (Value.slice Aw r cw) := hBw.cell 0
  have b0 : W.cell? ⟨gg, 0, none⟩ = some (Value.slice Ag r cg) := hBg.cell 0
  go_wp2_with fail
  refine (markSole_c Ag r cg lg _ 1 (by omega) (by omega) (by omega) _ hog.1).mono ?_
  rintro e W ⟨rfl, hown, hg⟩
  have y0 := z0.out
  have y1 := z1.out
  have y2 := z2.out
  have y3 := z3.out
  have y4 := z4.out
  have y5 := z5.out
  have y6 := z6.out
  have y7 := z7.out
  have y8 := z8.out
  have y9 := z9.out
  have y10 := z10.out
  have y11 := z11.out
  have y12 := z12.out
  have y13 := z13.out
  have y14 := z14.out
  have y15 := z15.out
  have y16 := z16.out
  have y17 := z17.out
  have y18 := z18.out
  have y19 := z19.out
  have y20 := z20.out
  have y21 := z21.out
  have y22 := z22.out
  have hr := hog.row
  have l_how := how.2.1
  have l_hox := hox.2.1
  have l_hog := hog.2.1
  replace hv := bl_grown hv hg (fun k e => by have h1 := hr k e; omega)
  replace hBw := hBw.grown hg (fun e => by have h1 := hr _ e.symm; omega)
  replace hBg := hBg.grown hg (fun e => by have h1 := hr _ e.symm; omega)
  replace how := how.grown hg (fun k e => by have h1 := hr k e; omega)
  replace hox := hox.grown hg (fun k e => by have h1 := hr k e; omega)
  replace hog := hog.marked hg hown
  clear hg hown hr l_how l_hox l_hog
  clear y0 y1 y2 y3 y4 y5 y6 y7 y8 y9 y10 y11 y12 y13 y14 y15 y16 y17 y18 y19 y20 y21 y22
  have a0 : W.cell? ⟨gw, 0, none⟩ = some (Value.slice Aw r cw) := hBw.cell 0
  have b0 : W.cell? ⟨gg, 0, none⟩ = some (Value.slice Ag r cg) := hBg.cell 0
  go_wp2_with fail
  refine (heldSole_c Ag r cg 1 (by omega) (by omega) (by omega) _ hog.arr).mono ?_
  rintro e W ⟨rfl, hb⟩
  have z23 := Lib.hid hb.size
  replace hv := bl_trans hv hb
  replace hBw := hBw.below hb
  replace hBg := hBg.below hb
  replace how := how.below hb
  replace hox := hox.below hb
  replace hog := hog.below hb
  clear hb
  have a0 : W.cell? ⟨gw, 0, none⟩ = some (Value.slice Aw r cw) := hBw.cell 0
  have b0 : W.cell? ⟨gg, 0, none⟩ = some (Value.slice Ag r cg) := hBg.cell 0
  go_wp2_with fail
  refine (toStuffS_c A xs n c hn hz _ (hA.below hv)).mono ?_
  rintro e W ⟨g4, rfl, hoy, hb⟩
  obtain ⟨ly, uy, h_own, z24, z25⟩ := Own.named hoy hb
  replace hoy := h_own
  clear h_own
  have z26 := Lib.hid hb.size
  replace hv := bl_trans hv hb
  replace hBw := hBw.below hb
  replace hBg := hBg.below hb
  replace how := how.below hb
  replace hox := hox.below hb
  replace hog := hog.below hb
  clear hb
  have a0 : W.cell? ⟨gw, 0, none⟩ = some (Value.slice Aw r cw) := hBw.cell 0
  have b0 : W.cell? ⟨gg, 0, none⟩ = some (Value.slice Ag r cg) := hBg.cell 0
  go_wp2_with fail
  refine (HG'.out _ _ (addr_lt hoy.1) hoy.arr).mono ?_
  rintro e W ⟨Ah, ch, rfl, hoh, hb⟩
  obtain ⟨lh, uh, h_own, z27, z28⟩ := Own.named hoh hb
  replace hoh := h_own
  clear h_own
  have z29 := Lib.hid hb.size
  replace hv := bl_trans hv hb
  replace hBw := hBw.below hb
  replace hBg := hBg.below hb
  replace how := how.below hb
  replace hox := hox.below hb
  replace hog := hog.below hb
  replace hoy := hoy.below hb
  clear hb
  have a0 : W.cell? ⟨gw, 0, none⟩ = some (Value.slice Aw r cw) := hBw.cell 0
  have b0 : W.cell? ⟨gg, 0, none⟩ = some (Value.slice Ag r cg) := hBg.cell 0
  obtain ⟨W0, hW0⟩ : ∃ W0, W0 = W.alloc (Obj.cells #[Value.slice Ah r ch] 42) := ⟨_, rfl⟩
  obtain ⟨gh, hgx⟩ : ∃ gx, gx = W.heap.size := ⟨_, rfl⟩
  have hb : Below W.heap.size W W0 := by rw [hW0]; exact bl_alloc (Below.refl _ _) _
  have hBh : Blk W0 gh 42 #[Value.slice Ah r ch] := by rw [hW0, hgx]; exact Blk.new _ _ _
  have a_a0 : ∀ O, (World.alloc W O).cell? ⟨gw, 0, none⟩ = some (Value.slice Aw r cw) := fun O => (hBw.alloc O).cell 0
  have a_b0 : ∀ O, (World.alloc W O).cell? ⟨gg, 0, none⟩ = some (Value.slice Ag r cg) := fun O => (hBg.alloc O).cell 0
  have z30 := Lib.hid (Nat.le_of_eq hgx.symm)
  have z31 := Lib.hid hBh.lt
  go_wp2_with fail
  rw [← hW0, ← hgx]
  clear hW0 hgx a_a0 a_b0
  have z32 := Lib.hid hb.size
  replace hv := bl_trans hv hb
  replace hBw := hBw.below hb
  replace hBg := hBg.below hb
  replace how := how.below hb
  replace hox := hox.below hb
  replace hog := hog.below hb
  replace hoy := hoy.below hb
  replace hoh := hoh.below hb
  clear hb
  have a0 : W0.cell? ⟨gw, 0, none⟩ = some (Value.slice Aw r cw) := hBw.cell 0
  have b0 : W0.cell? ⟨gg, 0, none⟩ = some (Value.slice Ag r cg) := hBg.cell 0
  have d0 : W0.cell? ⟨gh, 0, none⟩ = some (Value.slice Ah r ch) := hBh.cell 0
  refine (eqSole_c Ah Aw l r ch cw hr1 (by omega) _ hoh.arr how.arr).mono ?_
  rintro e W ⟨rfl, hb⟩
  have z33 := Lib.hid hb.size
  replace hv := bl_trans hv hb
  replace hBw := hBw.below hb
  replace hBg := hBg.below hb
  replace hBh := hBh.below hb
  replace how := how.below hb
  replace hox := hox.below hb
  replace hog := hog.below hb
  replace hoy := hoy.below hb
  replace hoh := hoh.below hb
  clear hb
  have a0 : W.cell? ⟨gw, 0, none⟩ = some (Value.slice Aw r cw) := hBw.cell 0
  have b0 : W.cell? ⟨gg, 0, none⟩ = some (Value.slice Ag r cg) := hBg.cell 0
  have d0 : W.cell? ⟨gh, 0, none⟩ = some (Value.slice Ah r ch) := hBh.cell 0
  go_wp2_with fail
  refine (heldSole_c Ag r cg 1 (by omega) (by omega) (by omega) _ hog.arr).mono ?_
  rintro e W ⟨rfl, hb⟩
  have z34 := Lib.hid hb.size
  replace hv := bl_trans hv hb
  replace hBw := hBw.below hb
  replace hBg := hBg.below hb
  replace hBh := hBh.below hb
  replace how := how.below hb
  replace hox := hox.below hb
  replace hog := hog.below hb
  replace hoy := hoy.below hb
  replace hoh := hoh.below hb
  clear hb
  have a0 : W.cell? ⟨gw, 0, none⟩ = some (Value.slice Aw r cw) := hBw.cell 0
  have b0 : W.cell? ⟨gg, 0, none⟩ = some (Value.slice Ag r cg) := hBg.cell 0
  have d0 : W.cell? ⟨gh, 0, none⟩ = some (Value.slice Ah r ch) := hBh.cell 0
  go_wp2_with fail
  go_returns
  exact Ret.mk rfl hv

set_option maxRecDepth 100000 in
set_option maxHeartbeats 2000000 in
theorem FnExactLightestSole_law (A : Option Addr) (xs : List Stuff) (n c : Nat) (T S : Int) (hn : Hid (xs.length = n)) (hmax : n ≤ 9223372036854775807) (hs : Hid (∀ x ∈ xs, x.name.size ≤ 9223372036854775807)) (w : World) (hA : Arr w A (flat Stuff.cells xs)) :
    Calls Try.prog 5 #[.slice A n c, .int .i64 T, .int .i64 S] w (Ret (.bool true) w) := by
  have hle := szS_le Stuff.sizes xs 1048576 (by omega)
  go_enter Try.func5, Try.ntmps5
  go_wp2_with fail
  refine (szStuffS_c A xs n c 1048576 hn hmax hs (by omega) (by omega) _ hA).mono ?_
  rintro e W ⟨rfl, hv⟩
  obtain ⟨q, hq'⟩ : ∃ q, q = szS Stuff.sizes xs 1048576 := ⟨_, rfl⟩
  rw [← hq'] at hle ⊢
  by_cases hq : q < 0
  · clear hq'
    go_wp2_with fail
    go_returns
    exact Ret.mk rfl hv
  have hz : (n : Int) ≤ 1048576 := by rw [← hn.out]; exact szS_len (by rw [← hq']; omega) (by omega)
  clear hq'
  obtain ⟨l, hl⟩ : ∃ l, l = bestL xs T S Stuff.gram := ⟨_, rfl⟩
  obtain ⟨co, hco⟩ : ∃ co, co = bestC xs T S Stuff.gram := ⟨_, rfl⟩
  have hlen : l.length ≤ 6 := by rw [hl]; exact bestL_len _ _ _ _
  obtain ⟨r, hr⟩ : ∃ r, r = l.length := ⟨_, rfl⟩
  have HW := fun (a : Option Addr) (w : World) (hl : ∀ ad, a = some ad → ad.block < w.heap.size) (h : Arr w a (flat Stuff.cells xs)) => SLightestSole_c a xs n n hn hz hs T S w hl h
  have HG' := fun (a : Option Addr) (w : World) (hl : ∀ ad, a = some ad → ad.block < w.heap.size) (h : Arr w a (flat Stuff.cells xs)) => LightestSole_c a xs n n hn hz hs (Int.le_refl _) T S w hl h
  rw [← hl, ← hco] at HW HG'
  unfold OutB at HW HG'
  rw [← hr] at HW HG' hlen
  have hr1 := Lib.hid hr.symm
  clear hl hco hr
  replace HW := Lib.hid HW
  replace HG' := Lib.hid HG'
  have z0 := Lib.hid hv.size
  go_wp2_with fail
  refine (toStuffS_c A xs n c hn hz _ (hA.below hv)).mono ?_
  rintro e W ⟨g1, rfl, hown1, hb⟩
  have z1 := Lib.hid hb.size
  replace hv := bl_trans hv hb
  clear hb
  go_wp2_with fail
  refine (HW.out _ _ (addr_lt hown1) (Arr.own hown1)).mono ?_
  rintro e W ⟨Aw, cw, rfl, how, hb⟩
  clear hown1
  obtain ⟨lw, uw, h_own, z2, z3⟩ := Own.named how hb
  replace how := h_own
  clear h_own
  have z4 := Lib.hid hb.size
  replace hv := bl_trans hv hb
  clear hb
  obtain ⟨W0, hW0⟩ : ∃ W0, W0 = W.alloc (Obj.cells #[Value.slice Aw r cw] 42) := ⟨_, rfl⟩
  obtain ⟨gw, hgx⟩ : ∃ gx, gx = W.heap.size := ⟨_, rfl⟩
  have hb : Below W.heap.size W W0 := by rw [hW0]; exact bl_alloc (Below.refl _ _) _
  have hBw : Blk W0 gw 42 #[Value.slice Aw r cw] := by rw [hW0, hgx]; exact Blk.new _ _ _
  have z5 := Lib.hid (Nat.le_of_eq hgx.symm)
  have z6 := Lib.hid hBw.lt
  go_wp2_with fail
  rw [← hW0, ← hgx]
  clear hW0 hgx 
  have z7 := Lib.hid hb.size
  replace hv := bl_trans hv hb
  replace how := how.below hb
  clear hb
  have a0 : W0.cell? ⟨gw, 0, none⟩ = some (Value.slice Aw r cw) := hBw.cell 0
  refine (toStuffS_c A xs n c hn hz _ (hA.below hv)).mono ?_
  rintro e W ⟨g2, rfl, hox, hb⟩
  obtain ⟨lx, ux, h_own, z8, z9⟩ := Own.named hox hb
  replace hox := h_own
  clear h_own
  have z10 := Lib.hid hb.size
  replace hv := bl_trans hv hb
  replace hBw := hBw.below hb
  replace how := how.below hb
  clear hb
  have a0 : W.cell? ⟨gw, 0, none⟩ = some (Value.slice Aw r cw) := hBw.cell 0
  go_wp2_with fail
  refine (HG'.out _ _ (addr_lt hox.1) hox.arr).mono ?_
  rintro e W ⟨Ag, cg, rfl, hog, hb⟩
  obtain ⟨lg, ug, h_own, z11, z12⟩ := Own.named hog hb
  replace hog := h_own
  clear h_own
  have z13 := Lib.hid hb.size
  replace hv := bl_trans hv hb
  replace hBw := hBw.below hb
  replace how := how.below hb
  replace hox := hox.below hb
  clear hb
  have a0 : W.cell? ⟨gw, 0, none⟩ = some (Value.slice Aw r cw) := hBw.cell 0
  obtain ⟨W0, hW0⟩ : ∃ W0, W0 = W.alloc (Obj.cells #[Value.slice Ag r cg] 42) := ⟨_, rfl⟩
  obtain ⟨gg, hgx⟩ : ∃ gx, gx = W.heap.size := ⟨_, rfl⟩
  have hb : Below W.heap.size W W0 := by rw [hW0]; exact bl_alloc (Below.refl _ _) _
  have hBg : Blk W0 gg 42 #[Value.slice Ag r cg] := by rw [hW0, hgx]; exact Blk.new _ _ _
  have a_a0 : ∀ O, (World.alloc W O).cell? ⟨gw, 0, none⟩ = some (Value.slice Aw r cw) := fun O => (hBw.alloc O).cell 0
  have z14 := Lib.hid (Nat.le_of_eq hgx.symm)
  have z15 := Lib.hid hBg.lt
  go_wp2_with fail
  rw [← hW0, ← hgx]
  clear hW0 hgx a_a0
  have z16 := Lib.hid hb.size
  replace hv := bl_trans hv hb
  replace hBw := hBw.below hb
  replace how := how.below hb
  replace hox := hox.below hb
  replace hog := hog.below hb
  clear hb
  have a0 : W0.cell? ⟨gw, 0, none⟩ = some (Value.slice Aw r cw) := hBw.cell 0
  have b0 : W0.cell? ⟨gg, 0, none⟩ = some (Value.slice Ag r cg) := hBg.cell 0
  refine (eqSole_c Ag Aw l r cg cw hr1 (by omega) _ hog.arr how.arr).mono ?_
  rintro e W ⟨rfl, hb⟩
  have z17 := Lib.hid hb.size
  replace hv := bl_trans hv hb
  replace hBw := hBw.below hb
  replace hBg := hBg.below hb
  replace how := how.below hb
  replace hox := hox.below hb
  replace hog := hog.below hb
  clear hb
  have a0 : W.cell? ⟨gw, 0, none⟩ = some (Value.slice Aw r cw) := hBw.cell 0
  have b0 : W.cell? ⟨gg, 0, none⟩ = some (Value.slice Ag r cg) := hBg.cell 0
  go_wp2_with fail
  refine (toStuffS_c A xs n c hn hz _ (hA.below hv)).mono ?_
  rintro e W ⟨g3, rfl, hc, hb⟩
  obtain ⟨lc, uc, h_own, z18, z19⟩ := Own.named hc hb
  replace hc := h_own
  clear h_own
  have z20 := Lib.hid hb.size
  replace hv := bl_trans hv hb
  replace hBw := hBw.below hb
  replace hBg := hBg.below hb
  replace how := how.below hb
  replace hox := hox.below hb
  replace hog := hog.below hb
  clear hb
  have a0 : W.cell? ⟨gw, 0, none⟩ = some (Value.slice Aw r cw) := hBw.cell 0
  have b0 : W.cell? ⟨gg, 0, none⟩ = some (Value.slice Ag r cg) := hBg.cell 0
  go_wp2_with fail
  refine (eqStuffS_same _ _ xs n n n hn hz _ hox.arr hc.arr).mono ?_
  rintro e W ⟨rfl, hb⟩
  have z21 := Lib.hid hb.size
  replace hv := bl_trans hv hb
  replace hBw := hBw.below hb
  replace hBg := hBg.below hb
  replace how := how.below hb
  replace hox := hox.below hb
  replace hog := hog.below hb
  replace hc := hc.below hb
  clear hb
  have a0 : W.cell? ⟨gw, 0, none⟩ = some (Value.slice Aw r cw) := hBw.cell 0
  have b0 : W.cell? ⟨gg, 0, none⟩ = some (Value.slice Ag r cg) := hBg.cell 0
  go_wp2_with fail
  clear hc
  refine (markStuffS_c (some ⟨g2, 0, none⟩) n n lx _ 1 (by omega) (by omega) (by omega) _ hox.1).mono ?_
  rintro e W ⟨rfl, hown, hg⟩
  have y0 := z0.out
  have y1 := z1.out
  have y2 := z2.out
  have y3 := z3.out
  have y4 := z4.out
  have y5 := z5.out
  have y6 := z6.out
  have y7 := z7.out
  have y8 := z8.out
  have y9 := z9.out
  have y10 := z10.out
  have y11 := z11.out
  have y12 := z12.out
  have y13 := z13.out
  have y14 := z14.out
  have y15 := z15.out
  have y16 := z16.out
  have y17 := z17.out
  have y18 := z18.out
  have y19 := z19.out
  have y20 := z20.out
  have y21 := z21.out
  have hr := hox.row
  have l_how := how.2.1
  have l_hox := hox.2.1
  have l_hog := hog.2.1
  replace hv := bl_grown hv hg (fun k e => by have h1 := hr k e; omega)
  replace hBw := hBw.grown hg (fun e => by have h1 := hr _ e.symm; omega)
  replace hBg := hBg.grown hg (fun e => by have h1 := hr _ e.symm; omega)
  replace how := how.grown hg (fun k e => by have h1 := hr k e; omega)
  replace hog := hog.grown hg (fun k e => by have h1 := hr k e; omega)
  replace hox := hox.marked hg hown
  clear hg hown hr l_how l_hox l_hog
  clear y0 y1 y2 y3 y4 y5 y6 y7 y8 y9 y10 y11 y12 y13 y14 y15 y16 y17 y18 y19 y20 y21
  have a0 : W.cell? ⟨gw, 0, none⟩ = some (Value.slice Aw r cw) := hBw.cell 0
  have b0 : W.cell? ⟨gg, 0, none⟩ = some (Value.slice Ag r cg) := hBg.cell 0
  go_wp2_with fail
  refine (eqSole_c Ag Aw l r cg cw hr1 (by omega) _ hog.arr how.arr).mono ?_
  rintro e W ⟨rfl, hb⟩
  have z22 := Lib.hid hb.size
  replace hv := bl_trans hv hb
  replace hBw := hBw.below hb
  replace hBg := hBg.below hb
  replace how := how.below hb
  replace hox := hox.below hb
  replace hog := hog.below hb
  clear hb
  have a0 : W.cell? ⟨gw, 0, none⟩ = some (Value.slice Aw r cw) := hBw.cell 0
  have b0 : W.cell? ⟨gg, 0, none⟩ = some (Value.slice Ag r cg) := hBg.cell 0
  go_wp2_with fail
  refine (markSole_c Ag r cg lg _ 1 (by omega) (by omega) (by omega) _ hog.1).mono ?_
  rintro e W ⟨rfl, hown, hg⟩
  have y0 := z0.out
  have y1 := z1.out
  have y2 := z2.out
  have y3 := z3.out
  have y4 := z4.out
  have y5 := z5.out
  have y6 := z6.out
  have y7 := z7.out
  have y8 := z8.out
  have y9 := z9.out
  have y10 := z10.out
  have y11 := z11.out
  have y12 := z12.out
  have y13 := z13.out
  have y14 := z14.out
  have y15 := z15.out
  have y16 := z16.out
  have y17 := z17.out
  have y18 := z18.out
  have y19 := z19.out
  have y20 := z20.out
  have y21 := z21.out
  have y22 := z22.out
  have hr := hog.row
  have l_how := how.2.1
  have l_hox := hox.2.1
  have l_hog := hog.2.1
  replace hv := bl_grown hv hg (fun k e => by have h1 := hr k e; omega)
  replace hBw := hBw.grown hg (fun e => by have h1 := hr _ e.symm; omega)
  replace hBg := hBg.grown hg (fun e => by have h1 := hr _ e.symm; omega)
  replace how := how.grown hg (fun k e => by have h1 := hr k e; omega)
  replace hox := hox.grown hg (fun k e => by have h1 := hr k e; omega)
  replace hog := hog.marked hg hown
  clear hg hown hr l_how l_hox l_hog
  clear y0 y1 y2 y3 y4 y5 y6 y7 y8 y9 y10 y11 y12 y13 y14 y15 y16 y17 y18 y19 y20 y21 y22
  have a0 : W.cell? ⟨gw, 0, none⟩ = some (Value.slice Aw r cw) := hBw.cell 0
  have b0 : W.cell? ⟨gg, 0, none⟩ = some (Value.slice Ag r cg) := hBg.cell 0
  go_wp2_with fail
  refine (heldSole_c Ag r cg 1 (by omega) (by omega) (by omega) _ hog.arr).mono ?_
  rintro e W ⟨rfl, hb⟩
  have z23 := Lib.hid hb.size
  replace hv := bl_trans hv hb
  replace hBw := hBw.below hb
  replace hBg := hBg.below hb
  replace how := how.below hb
  replace hox := hox.below hb
  replace hog := hog.below hb
  clear hb
  have a0 : W.cell? ⟨gw, 0, none⟩ = some (Value.slice Aw r cw) := hBw.cell 0
  have b0 : W.cell? ⟨gg, 0, none⟩ = some (Value.slice Ag r cg) := hBg.cell 0
  go_wp2_with fail
  refine (toStuffS_c A xs n c hn hz _ (hA.below hv)).mono ?_
  rintro e W ⟨g4, rfl, hoy, hb⟩
  obtain ⟨ly, uy, h_own, z24, z25⟩ := Own.named hoy hb
  replace hoy := h_own
  clear h_own
  have z26 := Lib.hid hb.size
  replace hv := bl_trans hv hb
  replace hBw := hBw.below hb
  replace hBg := hBg.below hb
  replace how := how.below hb
  replace hox := hox.below hb
  replace hog := hog.below hb
  clear hb
  have a0 : W.cell? ⟨gw, 0, none⟩ = some (Value.slice Aw r cw) := hBw.cell 0
  have b0 : W.cell? ⟨gg, 0, none⟩ = some (Value.slice Ag r cg) := hBg.cell 0
  go_wp2_with fail
  refine (HG'.out _ _ (addr_lt hoy.1) hoy.arr).mono ?_
  rintro e W ⟨Ah, ch, rfl, hoh, hb⟩
  obtain ⟨lh, uh, h_own, z27, z28⟩ := Own.named hoh hb
  replace hoh := h_own
  clear h_own
  have z29 := Lib.hid hb.size
  replace hv := bl_trans hv hb
  replace hBw := hBw.below hb
  replace hBg := hBg.below hb
  replace how := how.below hb
  replace hox := hox.below hb
  replace hog := hog.below hb
  replace hoy := hoy.below hb
  clear hb
  have a0 : W.cell? ⟨gw, 0, none⟩ = some (Value.slice Aw r cw) := hBw.cell 0
  have b0 : W.cell? ⟨gg, 0, none⟩ = some (Value.slice Ag r cg) := hBg.cell 0
  obtain ⟨W0, hW0⟩ : ∃ W0, W0 = W.alloc (Obj.cells #[Value.slice Ah r ch] 42) := ⟨_, rfl⟩
  obtain ⟨gh, hgx⟩ : ∃ gx, gx = W.heap.size := ⟨_, rfl⟩
  have hb : Below W.heap.size W W0 := by rw [hW0]; exact bl_alloc (Below.refl _ _) _
  have hBh : Blk W0 gh 42 #[Value.slice Ah r ch] := by rw [hW0, hgx]; exact Blk.new _ _ _
  have a_a0 : ∀ O, (World.alloc W O).cell? ⟨gw, 0, none⟩ = some (Value.slice Aw r cw) := fun O => (hBw.alloc O).cell 0
  have a_b0 : ∀ O, (World.alloc W O).cell? ⟨gg, 0, none⟩ = some (Value.slice Ag r cg) := fun O => (hBg.alloc O).cell 0
  have z30 := Lib.hid (Nat.le_of_eq hgx.symm)
  have z31 := Lib.hid hBh.lt
  go_wp2_with fail
  rw [← hW0, ← hgx]
  clear hW0 hgx a_a0 a_b0
  have z32 := Lib.hid hb.size
  replace hv := bl_trans hv hb
  replace hBw := hBw.below hb
  replace hBg := hBg.below hb
  replace how := how.below hb
  replace hox := hox.below hb
  replace hog := hog.below hb
  replace hoy := hoy.below hb
  replace hoh := hoh.below hb
  clear hb
  have a0 : W0.cell? ⟨gw, 0, none⟩ = some (Value.slice Aw r cw) := hBw.cell 0
  have b0 : W0.cell? ⟨gg, 0, none⟩ = some (Value.slice Ag r cg) := hBg.cell 0
  have d0 : W0.cell? ⟨gh, 0, none⟩ = some (Value.slice Ah r ch) := hBh.cell 0
  refine (eqSole_c Ah Aw l r ch cw hr1 (by omega) _ hoh.arr how.arr).mono ?_
  rintro e W ⟨rfl, hb⟩
  have z33 := Lib.hid hb.size
  replace hv := bl_trans hv hb
  replace hBw := hBw.below hb
  replace hBg := hBg.below hb
  replace hBh := hBh.below hb
  replace how := how.below hb
  replace hox := hox.below hb
  replace hog := hog.below hb
  replace hoy := hoy.below hb
  replace hoh := hoh.below hb
  clear hb
  have a0 : W.cell? ⟨gw, 0, none⟩ = some (Value.slice Aw r cw) := hBw.cell 0
  have b0 : W.cell? ⟨gg, 0, none⟩ = some (Value.slice Ag r cg) := hBg.cell 0
  have d0 : W.cell? ⟨gh, 0, none⟩ = some (Value.slice Ah r ch) := hBh.cell 0
  go_wp2_with fail
  refine (heldSole_c Ag r cg 1 (by omega) (by omega) (by omega) _ hog.arr).mono ?_
  rintro e W ⟨rfl, hb⟩
  have z34 := Lib.hid hb.size
  replace hv := bl_trans hv hb
  replace hBw := hBw.below hb
  replace hBg := hBg.below hb
  replace hBh := hBh.below hb
  replace how := how.below hb
  replace hox := hox.below hb
  replace hog := hog.below hb
  replace hoy := hoy.below hb
  replace hoh := hoh.below hb
  clear hb
  have a0 : W.cell? ⟨gw, 0, none⟩ = some (Value.slice Aw r cw) := hBw.cell 0
  have b0 : W.cell? ⟨gg, 0, none⟩ = some (Value.slice Ag r cg) := hBg.cell 0
  have d0 : W.cell? ⟨gh, 0, none⟩ = some (Value.slice Ah r ch) := hBh.cell 0
  go_wp2_with fail
  go_returns
  exact Ret.mk rfl hv

end Go.Proofs.Ythibjjcdihgfkaa
