/- The law on WorkOrder, walked. -/
import Derived.Test.YtilfcjibpohpiaaWrkC
namespace Go.Proofs.Ytilfcjibpohpiaa
open Go.RowKit

theorem eqOrderS_same (A B : Option Addr) (xs : List Order) (n c d : Nat) (hn : Hid (xs.length = n)) (hz : (n : Int) ≤ 1048576) (w : World) (hA : Arr w A (flat Order.cells xs)) (hB : Arr w B (flat Order.cells xs)) :
    Calls Try.prog 46 #[.slice A n c, .slice B n d] w (Ret (.bool true) w) := by
  have h := eqOrderS_c A B xs xs n n c d hn hn hz w hA hB
  rwa [(listBeq_iff Order.beq_iff xs xs).2 rfl] at h
theorem eqInt64S_same (A B : Option Addr) (xs : List Int) (n c d : Nat) (hn : Hid (xs.length = n)) (hz : (n : Int) ≤ 9223372036854775807) (w : World) (hA : Arr w A (flat icell xs)) (hB : Arr w B (flat icell xs)) :
    Calls Try.prog 55 #[.slice A n c, .slice B n d] w (Ret (.bool true) w) := by
  have h := eqInt64S_c A B xs xs n n c d hn hn hz w hA hB
  rwa [decide_eq_true (rfl : xs = xs)] at h

set_option maxRecDepth 100000 in
set_option maxHeartbeats 2000000 in
theorem FnExactWorkOrder_law (A : Option Addr) (xs : List Order) (n c : Nat) (day : Int) (hn : Hid (xs.length = n)) (hmax : n ≤ 9223372036854775807) (hs : Hid (∀ x ∈ xs, x.customer.size ≤ 9223372036854775807)) (w : World) (hA : Arr w A (flat Order.cells xs)) :
    Calls Try.prog 10 #[.slice A n c, .int .i64 day] w (Ret (.bool true) w) := by
  have hle := szS_le Order.sizes xs 1048576 (by omega)
  have hv := Below.refl w.heap.size w
  go_enter Try.func10, Try.ntmps10
  go_wp2_with fail
  refine (szOrderS_c A xs n c 1048576 hn hmax hs (by omega) (by omega) _ (hA.below hv)).mono ?_
  rintro e W ⟨rfl, hb⟩
  have z0 := Lib.hid hb.size
  replace hv := bl_trans hv hb
  clear hb
  obtain ⟨q, hq'⟩ : ∃ q, q = szS Order.sizes xs 1048576 := ⟨_, rfl⟩
  rw [← hq'] at hle ⊢
  by_cases hq : q < 0
  · clear hq'
    go_wp2_with fail
    go_returns
    exact Ret.mk rfl hv
  have hz : (n : Int) ≤ 1048576 := by rw [← hn.out]; exact szS_len (by rw [← hq']; omega) (by omega)
  clear hq'
  obtain ⟨l, hl⟩ : ∃ l, l = woL xs day := ⟨_, rfl⟩
  obtain ⟨co, hco⟩ : ∃ co, co = codeD xs day := ⟨_, rfl⟩
  have hlen : (l.length : Int) ≤ 30 := by
    rw [hl]; unfold woL
    split
    · rename_i h0
      have := (ords_small (codeD_ok h0).1).1
      rw [workL_len]; have := idxGo_len xs 0; unfold idxL; omega
    · simp
  obtain ⟨r, hr⟩ : ∃ r, r = l.length := ⟨_, rfl⟩
  have HW := fun (a : Option Addr) (w : World) (h : Arr w a (flat Order.cells xs)) => SWorkOrder_c a xs n n day hn hz hs w h
  have HG' := fun (a : Option Addr) (w : World) (h : Arr w a (flat Order.cells xs)) => WorkOrder_c a xs n n day hn hz hs w h
  rw [← hl, ← hco, ← hr] at HW HG'
  rw [← hr] at hlen
  have hr1 := Lib.hid hr.symm
  clear hl hco hr
  replace HW := Lib.hid HW
  replace HG' := Lib.hid HG'
  go_wp2_with fail
  refine (toOrderS_c A xs n c hn hz _ (hA.below hv)).mono ?_
  rintro e W ⟨g1, rfl, ha, hb⟩
  obtain ⟨la, ua, h_own, z1, z2⟩ := Own.named ha hb
  replace ha := h_own
  clear h_own
  have z3 := Lib.hid hb.size
  replace hv := bl_trans hv hb
  clear hb
  go_wp2_with fail
  refine (HW.out _ _ ha.arr).mono ?_
  rintro e W ⟨Aw, cw, rfl, how, hb⟩
  obtain ⟨lw, uw, h_own, z4, z5⟩ := Own.named how hb
  replace how := h_own
  clear h_own
  have z6 := Lib.hid hb.size
  replace hv := bl_trans hv hb
  replace ha := ha.below hb
  clear hb
  go_wp2_with fail
  refine (toOrderS_c A xs n c hn hz _ (hA.below hv)).mono ?_
  rintro e W ⟨g2, rfl, hox, hb⟩
  obtain ⟨lx, ux, h_own, z7, z8⟩ := Own.named hox hb
  replace hox := h_own
  clear h_own
  have z9 := Lib.hid hb.size
  replace hv := bl_trans hv hb
  replace ha := ha.below hb
  replace how := how.below hb
  clear hb
  go_wp2_with fail
  refine (HG'.out _ _ hox.arr).mono ?_
  rintro e W ⟨Ag, cg, rfl, hog, hb⟩
  obtain ⟨lg, ug, h_own, z10, z11⟩ := Own.named hog hb
  replace hog := h_own
  clear h_own
  have z12 := Lib.hid hb.size
  replace hv := bl_trans hv hb
  replace ha := ha.below hb
  replace how := how.below hb
  replace hox := hox.below hb
  clear hb
  go_wp2_with fail
  refine (eqInt64S_same Ag Aw l r cg cw hr1 (by omega) _ hog.arr how.arr).mono ?_
  rintro e W ⟨rfl, hb⟩
  have z13 := Lib.hid hb.size
  replace hv := bl_trans hv hb
  replace ha := ha.below hb
  replace how := how.below hb
  replace hox := hox.below hb
  replace hog := hog.below hb
  clear hb
  go_wp2_with fail
  refine (toOrderS_c A xs n c hn hz _ (hA.below hv)).mono ?_
  rintro e W ⟨g3, rfl, hd, hb⟩
  obtain ⟨ld, ud, h_own, z14, z15⟩ := Own.named hd hb
  replace hd := h_own
  clear h_own
  have z16 := Lib.hid hb.size
  replace hv := bl_trans hv hb
  replace ha := ha.below hb
  replace how := how.below hb
  replace hox := hox.below hb
  replace hog := hog.below hb
  clear hb
  go_wp2_with fail
  refine (eqOrderS_same _ _ xs n n n hn hz _ hox.arr hd.arr).mono ?_
  rintro e W ⟨rfl, hb⟩
  have z17 := Lib.hid hb.size
  replace hv := bl_trans hv hb
  replace ha := ha.below hb
  replace how := how.below hb
  replace hox := hox.below hb
  replace hog := hog.below hb
  replace hd := hd.below hb
  clear hb
  go_wp2_with fail
  refine (markOrderS_c _ n n lx _ 1 (by omega) (by omega) (by omega) _ hox.1).mono ?_
  rintro e W ⟨rfl, hown, hg⟩
  have y0 := z0.out
  have y1 := z1.out
  have y2 := z2.out
  have y3 := z3.out
  have y4 := z4.out
  have y5 := z5.out
  have y6 := z6.out
  have y7 := z7.out
  have y8 := z8.out
  have y9 := z9.out
  have y10 := z10.out
  have y11 := z11.out
  have y12 := z12.out
  have y13 := z13.out
  have y14 := z14.out
  have y15 := z15.out
  have y16 := z16.out
  have y17 := z17.out
  have hr := hox.row
  have l_ha := ha.2.1
  have l_how := how.2.1
  have l_hox := hox.2.1
  have l_hog := hog.2.1
  have l_hd := hd.2.1
  replace hv := bl_grown hv hg (fun k e => by have h1 := hr k e; omega)
  replace ha := ha.grown hg (fun k e => by have h1 := hr k e; omega)
  replace how := how.grown hg (fun k e => by have h1 := hr k e; omega)
  replace hog := hog.grown hg (fun k e => by have h1 := hr k e; omega)
  replace hd := hd.grown hg (fun k e => by have h1 := hr k e; omega)
  replace hox := hox.marked hg hown
  clear hg hown hr l_ha l_how l_hox l_hog l_hd
  clear y0 y1 y2 y3 y4 y5 y6 y7 y8 y9 y10 y11 y12 y13 y14 y15 y16 y17
  go_wp2_with fail
  refine (eqInt64S_same Ag Aw l r cg cw hr1 (by omega) _ hog.arr how.arr).mono ?_
  rintro e W ⟨rfl, hb⟩
  have z18 := Lib.hid hb.size
  replace hv := bl_trans hv hb
  replace ha := ha.below hb
  replace how := how.below hb
  replace hox := hox.below hb
  replace hog := hog.below hb
  replace hd := hd.below hb
  clear hb
  go_wp2_with fail
  refine (markInt64S_c Ag r cg lg _ 1 (by omega) (by omega) (by omega) _ hog.1).mono ?_
  rintro e W ⟨rfl, hown, hg⟩
  have y0 := z0.out
  have y1 := z1.out
  have y2 := z2.out
  have y3 := z3.out
  have y4 := z4.out
  have y5 := z5.out
  have y6 := z6.out
  have y7 := z7.out
  have y8 := z8.out
  have y9 := z9.out
  have y10 := z10.out
  have y11 := z11.out
  have y12 := z12.out
  have y13 := z13.out
  have y14 := z14.out
  have y15 := z15.out
  have y16 := z16.out
  have y17 := z17.out
  have y18 := z18.out
  have hr := hog.row
  have l_ha := ha.2.1
  have l_how := how.2.1
  have l_hox := hox.2.1
  have l_hog := hog.2.1
  have l_hd := hd.2.1
  replace hv := bl_grown hv hg (fun k e => by have h1 := hr k e; omega)
  replace ha := ha.grown hg (fun k e => by have h1 := hr k e; omega)
  replace how := how.grown hg (fun k e => by have h1 := hr k e; omega)
  replace hox := hox.grown hg (fun k e => by have h1 := hr k e; omega)
  replace hd := hd.grown hg (fun k e => by have h1 := hr k e; omega)
  replace hog := hog.marked hg hown
  clear hg hown hr l_ha l_how l_hox l_hog l_hd
  clear y0 y1 y2 y3 y4 y5 y6 y7 y8 y9 y10 y11 y12 y13 y14 y15 y16 y17 y18
  go_wp2_with fail
  refine (heldInt64S_c Ag r cg 1 (by omega) (by omega) (by omega) _ hog.arr).mono ?_
  rintro e W ⟨rfl, hb⟩
  have z19 := Lib.hid hb.size
  replace hv := bl_trans hv hb
  replace ha := ha.below hb
  replace how := how.below hb
  replace hox := hox.below hb
  replace hog := hog.below hb
  replace hd := hd.below hb
  clear hb
  go_wp2_with fail
  refine (toOrderS_c A xs n c hn hz _ (hA.below hv)).mono ?_
  rintro e W ⟨g4, rfl, hoy, hb⟩
  obtain ⟨ly, uy, h_own, z20, z21⟩ := Own.named hoy hb
  replace hoy := h_own
  clear h_own
  have z22 := Lib.hid hb.size
  replace hv := bl_trans hv hb
  replace ha := ha.below hb
  replace how := how.below hb
  replace hox := hox.below hb
  replace hog := hog.below hb
  replace hd := hd.below hb
  clear hb
  go_wp2_with fail
  refine (HG'.out _ _ hoy.arr).mono ?_
  rintro e W ⟨Ah, ch, rfl, hoh, hb⟩
  obtain ⟨lh, uh, h_own, z23, z24⟩ := Own.named hoh hb
  replace hoh := h_own
  clear h_own
  have z25 := Lib.hid hb.size
  replace hv := bl_trans hv hb
  replace ha := ha.below hb
  replace how := how.below hb
  replace hox := hox.below hb
  replace hog := hog.below hb
  replace hd := hd.below hb
  replace hoy := hoy.below hb
  clear hb
  go_wp2_with fail
  refine (eqInt64S_same Ah Aw l r ch cw hr1 (by omega) _ hoh.arr how.arr).mono ?_
  rintro e W ⟨rfl, hb⟩
  have z26 := Lib.hid hb.size
  replace hv := bl_trans hv hb
  replace ha := ha.below hb
  replace how := how.below hb
  replace hox := hox.below hb
  replace hog := hog.below hb
  replace hd := hd.below hb
  replace hoy := hoy.below hb
  replace hoh := hoh.below hb
  clear hb
  go_wp2_with fail
  refine (heldInt64S_c Ag r cg 1 (by omega) (by omega) (by omega) _ hog.arr).mono ?_
  rintro e W ⟨rfl, hb⟩
  have z27 := Lib.hid hb.size
  replace hv := bl_trans hv hb
  replace ha := ha.below hb
  replace how := how.below hb
  replace hox := hox.below hb
  replace hog := hog.below hb
  replace hd := hd.below hb
  replace hoy := hoy.below hb
  replace hoh := hoh.below hb
  clear hb
  go_wp2_with fail
  go_returns
  exact Ret.mk rfl hv

end Go.Proofs.Ytilfcjibpohpiaa
