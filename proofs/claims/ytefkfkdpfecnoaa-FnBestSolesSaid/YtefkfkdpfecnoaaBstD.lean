/- The best sole: leastSole, BestSole, LightestSole. -/
import Derived.Test.YtefkfkdpfecnoaaBstC
namespace Go.Proofs.Ytefkfkdpfecnoaa
open Go.RowKit

/-- a sole of one's own and a code -/
def OutB (l : List Int) (co : Int) (w : World) (e : Ending) (w' : World) : Prop := ∃ B c, e = .returned (.tuple #[.agg #[.slice B l.length c], .int .i64 co]) ∧ w'.ownsRow w.heap.size 2 1 (.slice B l.length c) l.length (flat icell l) ∧ Below w.heap.size w w'
theorem OutB.nil {co : Int} {w w' : World} (hb : Below w.heap.size w w') : OutB [] co w (.returned (.tuple #[.agg #[.slice none 0 0], .int .i64 co])) w' := ⟨none, 0, rfl, World.ownsRow_nil _ _ _ _, hb⟩
set_option maxRecDepth 100000 in
set_option maxHeartbeats 4000000 in
theorem leastSole_c (A : Option Addr) (xs : List Stuff) (n c : Nat) (hn : Hid (xs.length = n)) (hm : (n : Int) ≤ 1048576) (hs : Hid (∀ x ∈ xs, x.name.size ≤ 9223372036854775807)) (hnc : (n : Int) ≤ c) (T S : Int) (f : Stuff → Int) (FV : FuncId)
    (HV : Hid (∀ (B : Option Addr) (ps : List Int) (m d : Nat) (w : World), Hid (ps.length = m) → (m : Int) ≤ 1048576 → Hid (soleB xs ps = true) → Arr w A (flat Stuff.cells xs) → Arr w B (flat icell ps) → Calls Try.prog 54 #[.agg #[.slice B m d], .slice A n c, .func (.func FV) #[] #[]] w (Ret (.int .i64 (sumR f xs ps)) w)))
    (w : World) (hAl : ∀ ad, A = some ad → ad.block < w.heap.size) (hA : Arr w A (flat Stuff.cells xs)) :
    Calls Try.prog 28 #[.slice A n c, .int .i64 T, .int .i64 S, .func (.func FV) #[] #[]] w (OutB (bestL xs T S f) (bestC xs T S f) w) := by
  go_enter Try.func28, Try.ntmps28
  go_wp2_with fail
  obtain ⟨W1, hW1⟩ : ∃ W1, W1 = w.alloc (Obj.cells #[Value.slice A n c] 24) := ⟨_, rfl⟩
  obtain ⟨W2, hW2⟩ : ∃ W2, W2 = W1.alloc (Obj.cells #[Value.int IntKind.i64 T] 2) := ⟨_, rfl⟩
  obtain ⟨W3, hW3⟩ : ∃ W3, W3 = W2.alloc (Obj.cells #[Value.int IntKind.i64 S] 2) := ⟨_, rfl⟩
  obtain ⟨W4, hW4⟩ : ∃ W4, W4 = W3.alloc (Obj.cells #[Value.func (.func FV) #[] #[]] 53) := ⟨_, rfl⟩
  obtain ⟨W5, hW5⟩ : ∃ W5, W5 = W4.alloc (Obj.cells #[Value.slice none 0 0] 29) := ⟨_, rfl⟩
  obtain ⟨gl, hgl⟩ : ∃ gl, gl = w.heap.size := ⟨_, rfl⟩
  obtain ⟨gt, hgt⟩ : ∃ gt, gt = w.heap.size + 1 := ⟨_, rfl⟩
  obtain ⟨gs, hgs⟩ : ∃ gs, gs = w.heap.size + 1 + 1 := ⟨_, rfl⟩
  obtain ⟨gv, hgv⟩ : ∃ gv, gv = w.heap.size + 1 + 1 + 1 := ⟨_, rfl⟩
  obtain ⟨gr, hgr⟩ : ∃ gr, gr = w.heap.size + 1 + 1 + 1 + 1 := ⟨_, rfl⟩
  have q1 : W1.heap.size = gt := by rw [hW1, hgt]; simp
  have q2 : W2.heap.size = gs := by rw [hW2, hgs]; simp; omega
  have q3 : W3.heap.size = gv := by rw [hW3, hgv]; simp; omega
  have q4 : W4.heap.size = gr := by rw [hW4, hgr]; simp; omega
  have q5 : W5.heap.size = gr + 1 := by rw [hW5]; simp; omega
  have b0 : Blk W1 gl 24 #[Value.slice A n c] := by rw [hW1, hgl]; exact Blk.new _ _ _
  have b1 : Blk W2 gt 2 #[Value.int IntKind.i64 T] := by rw [hW2, ← q1]; exact Blk.new _ _ _
  have b2 : Blk W3 gs 2 #[Value.int IntKind.i64 S] := by rw [hW3, ← q2]; exact Blk.new _ _ _
  have b3 : Blk W4 gv 53 #[Value.func (.func FV) #[] #[]] := by rw [hW4, ← q3]; exact Blk.new _ _ _
  have b4 : Blk W5 gr 29 #[Value.slice none 0 0] := by rw [hW5, ← q4]; exact Blk.new _ _ _
  replace b0 : Blk W5 gl 24 #[Value.slice A n c] := by rw [hW5, hW4, hW3, hW2]; exact (((b0.alloc _).alloc _).alloc _).alloc _
  replace b1 : Blk W5 gt 2 #[Value.int IntKind.i64 T] := by rw [hW5, hW4, hW3]; exact ((b1.alloc _).alloc _).alloc _
  replace b2 : Blk W5 gs 2 #[Value.int IntKind.i64 S] := by rw [hW5, hW4]; exact (b2.alloc _).alloc _
  replace b3 : Blk W5 gv 53 #[Value.func (.func FV) #[] #[]] := by rw [hW5]; exact b3.alloc _
  have hv : Below w.heap.size w W5 := by rw [hW5, hW4, hW3, hW2, hW1]; exact bl_alloc (bl_alloc (bl_alloc (bl_alloc (bl_alloc (Below.refl _ _) _) _) _) _) _
  have hord : gl < gt ∧ gt < gs ∧ gs < gv ∧ gv < gr := by omega
  have hgr0 : w.heap.size ≤ gr := by omega
  rw [← hW1, ← hW2, ← hW3, ← hW4, ← hW5, ← hgr, ← hgv, ← hgs, ← hgt, ← hgl]
  have HGL := Lib.hid hgl
  clear hW1 hW2 hW3 hW4 hW5 hgr hgv hgs hgt hgl q1 q2 q3 q4 q5
  refine (ValidStuffs_c A xs n c hn hm hs hnc _ (hA.below hv)).mono ?_
  rintro e W ⟨rfl, hb⟩
  replace hv := bl_trans hv hb
  replace b0 := b0.below hb
  replace b1 := b1.below hb
  replace b2 := b2.below hb
  replace b3 := b3.below hb
  replace b4 := b4.below hb
  clear hb
  have k0 : W.cell? ⟨gl, 0, none⟩ = some (.slice A n c) := b0.cell 0
  have k1 : W.cell? ⟨gt, 0, none⟩ = some (.int .i64 T) := b1.cell 0
  have k2 : W.cell? ⟨gs, 0, none⟩ = some (.int .i64 S) := b2.cell 0
  have k4 : W.cell? ⟨gr, 0, none⟩ = some (.slice none 0 0) := b4.cell 0
  have f4 : W.frozen? ⟨gr, 0, none⟩ = false := b4.frozen 0
  cases hx : stuffsB xs
  · have HE := Lib.hid (show bestL xs T S f = [] by unfold bestL; rw [hx]; rfl)
    have HC := Lib.hid (show bestC xs T S f = 1 by unfold bestC; rw [hx]; rfl)
    clear hx
    go_wp2_with fail
    refine bodyPost_ret (results_cell_row_tmp (P := Try.prog) rfl _ _ gr 29 #[Value.slice none 0 0] (0, 0) _ rfl ?_ Try.underlying29 rfl (by kernel_rfl)) rfl ?_
    · exact b4.set_ 0 _
    · rw [HE.out, HC.out]
      exact OutB.nil (bl_set hv (by exact hgr0) _)
  have HX := Lib.hid hx
  clear hx
  by_cases hr : inB T 1 1200 = true ∧ inB S 0 6000 = true
  case neg =>
    have HE := Lib.hid (show bestL xs T S f = [] by unfold bestL; rw [HX.out, if_pos rfl, if_neg hr])
    have HC := Lib.hid (show bestC xs T S f = 2 by unfold bestC; rw [HX.out, if_pos rfl, if_neg hr])
    cases h1 : inB T 1 1200
    · clear hr
      go_wp2_with (go_at_call 35; refine (within_c _ _ _ _).mono ?_; rintro e w' ⟨rfl, hq⟩; rw [hq]; clear hq w')
      refine bodyPost_ret (results_cell_row_tmp (P := Try.prog) rfl _ _ gr 29 #[Value.slice none 0 0] (0, 0) _ rfl ?_ Try.underlying29 rfl (by kernel_rfl)) rfl ?_
      · exact b4.set_ 0 _
      · rw [HE.out, HC.out]
        exact OutB.nil (bl_set hv (by exact hgr0) _)
    · have h2 : inB S 0 6000 = false := by
        cases h : inB S 0 6000
        · rfl
        · exact absurd ⟨h1, h⟩ hr
      clear hr
      go_wp2_with (go_at_call 35; refine (within_c _ _ _ _).mono ?_; rintro e w' ⟨rfl, hq⟩; rw [hq]; clear hq w')
      refine bodyPost_ret (results_cell_row_tmp (P := Try.prog) rfl _ _ gr 29 #[Value.slice none 0 0] (0, 0) _ rfl ?_ Try.underlying29 rfl (by kernel_rfl)) rfl ?_
      · exact b4.set_ 0 _
      · rw [HE.out, HC.out]
        exact OutB.nil (bl_set hv (by exact hgr0) _)
  obtain ⟨h1, h2⟩ := hr
  have HE0 := Lib.hid (show bestL xs T S f = if (bestV xs T S f).2 < 0 then [] else (bestV xs T S f).1 by unfold bestL; rw [HX.out, if_pos rfl, if_pos ⟨h1, h2⟩])
  have HC0 := Lib.hid (show bestC xs T S f = if (bestV xs T S f).2 < 0 then 3 else 0 by unfold bestC; rw [HX.out, if_pos rfl, if_pos ⟨h1, h2⟩])
  obtain ⟨U1, hU1⟩ : ∃ U1, U1 = W.alloc (Obj.cells #[Value.slice none 0 0] 29) := ⟨_, rfl⟩
  obtain ⟨U2, hU2⟩ : ∃ U2, U2 = U1.alloc (Obj.cells #[Value.int IntKind.i64 (-1)] 2) := ⟨_, rfl⟩
  obtain ⟨gB, hgB⟩ : ∃ gB, gB = W.heap.size := ⟨_, rfl⟩
  obtain ⟨gL, hgL⟩ : ∃ gL, gL = W.heap.size + 1 := ⟨_, rfl⟩
  have q1 : U1.heap.size = gL := by rw [hU1, hgL]; simp
  have c1 : Blk U1 gB 29 #[Value.slice none 0 0] := by rw [hU1, hgB]; exact Blk.new _ _ _
  have c2 : Blk U2 gL 2 #[Value.int IntKind.i64 (-1)] := by rw [hU2, ← q1]; exact Blk.new _ _ _
  replace c1 : Blk U2 gB 29 #[Value.slice none 0 0] := by rw [hU2]; exact c1.alloc _
  have hbU : Below W.heap.size W U2 := by rw [hU2, hU1]; exact bl_alloc (bl_alloc (Below.refl _ _) _) _
  have hBL : gB < gL := by omega
  have hrB : gr < gB := by have := b4.lt; omega
  have a0 : U2.cell? ⟨gl, 0, none⟩ = some (.slice A n c) := (b0.below hbU).cell 0
  rw [hU2, hU1] at a0
  have HGB := Lib.hid hgB
  have HGL2 := Lib.hid hgL
  have HU1 := Lib.hid hU1
  have HU2 := Lib.hid hU2
  clear hgB hgL hU1 hU2 q1
  go_wp2_with (go_at_call 35; refine (within_c _ _ _ _).mono ?_; rintro e w' ⟨rfl, hq⟩; rw [hq]; clear hq w')
  rw [← HU1.out, ← HU2.out, ← HGL2.out, ← HGB.out]
  clear HU1 HU2 HGL2 a0 k0 k1 k2 k4 f4
  have hfa : farA A gB gL := by
    intro ad e
    have h3 := hAl ad e
    have h4 := HGL.out
    omega
  have hI : BInv A n c T S FV gl gt gs gv gB gL ([], -1) U2 := ⟨b0.below hbU, b1.below hbU, b2.below hbU, b3.below hbU, c2, none, 0, c1, Arr.nil _ _, .inl ⟨rfl, rfl, rfl⟩⟩
  replace b4 := b4.below hbU
  replace hv := bl_trans hv hbU
  have hBw : w.heap.size ≤ gB := by omega
  refine (soles_c A xs n c hn hm hs T S f FV HV gl gt gs gv gB gL ⟨by omega, by omega, by omega, by omega, hBL⟩ hfa HX 6 [] none 0 0 ([], -1) U2 (Lib.hid rfl) rfl (Lib.hid (by intro k hk; cases hk)) (.inl ⟨rfl, rfl, rfl⟩) hI (hA.below hv) (Arr.nil _ _)).mono ?_
  rintro e X ⟨rfl, hI2, hF⟩
  have hlen := bestV_len xs T S f
  have HI2 : BInv A n c T S FV gl gt gs gv gB gL (bestV xs T S f) X := hI2
  obtain ⟨st, hst⟩ : ∃ st, st = bestV xs T S f := ⟨_, rfl⟩
  rw [← hst] at HI2 hlen HE0 HC0
  clear hst hI2 hI c1 c2
  have hv2 : Below w.heap.size w X := Fr.below hv hF hBw (by omega) (by have := b4.lt; omega)
  have b5 : Blk X gr 29 #[Value.slice none 0 0] := b4.fr hF (by omega) (by omega)
  have k3 : X.cell? ⟨gL, 0, none⟩ = some (.int .i64 st.2) := HI2.L.cell 0
  have k4 : X.cell? ⟨gr, 0, none⟩ = some (.slice none 0 0) := b5.cell 0
  have f4 : X.frozen? ⟨gr, 0, none⟩ = false := b5.frozen 0
  by_cases h0 : st.2 < 0
  · have HE := Lib.hid (HE0.out.trans (if_pos h0))
    have HC := Lib.hid (HC0.out.trans (if_pos h0))
    go_wp2_with fail
    refine bodyPost_ret (results_cell_row_tmp (P := Try.prog) rfl _ _ gr 29 #[Value.slice none 0 0] (0, 0) _ rfl ?_ Try.underlying29 rfl (by kernel_rfl)) rfl ?_
    · exact b5.set_ 0 _
    · rw [HE.out, HC.out]
      exact OutB.nil (bl_set hv2 (by exact hgr0) _)
  · have HE := Lib.hid (HE0.out.trans (if_neg h0))
    have HC := Lib.hid (HC0.out.trans (if_neg h0))
    obtain ⟨B, d, hB1, hB2, hB3⟩ := HI2.B
    obtain ⟨l, hl⟩ : ∃ l, l = st.1 := ⟨_, rfl⟩
    obtain ⟨m, hm2⟩ : ∃ m, m = l.length := ⟨_, rfl⟩
    rw [← hl] at hB1 hB2 hB3 hlen HE
    rw [← hm2] at hB1 hB3 hlen
    have HM := Lib.hid hm2.symm
    clear hl hm2
    have k5 : X.cell? ⟨gB, 0, none⟩ = some (.slice B m d) := hB1.cell 0
    go_wp2_with fail
    refine (clonePl_c B l m d gB gL HM (by omega) hB3 X hB2).mono ?_
    rintro e Y ⟨v, rfl, hown, hb⟩
    obtain ⟨A', c', rfl, _, _⟩ := own_form hown
    have hfr : ∀ g', Value.ownBlock (.slice A' m c') = some g' → g' ≠ gr := by
      intro g' e
      have h5 := own_at hown g' e
      have h6 := b5.lt
      omega
    replace b5 := b5.below hb
    replace hv2 := bl_trans hv2 hb
    have k4 : Y.cell? ⟨gr, 0, none⟩ = some (.slice none 0 0) := b5.cell 0
    have f4 : Y.frozen? ⟨gr, 0, none⟩ = false := b5.frozen 0
    have hXw : w.heap.size ≤ X.heap.size := by have := hv2.size; have := b4.lt; have := hF.size; omega
    go_wp2_with fail
    refine bodyPost_ret (results_cell_row_tmp (P := Try.prog) rfl _ _ gr 29 #[Value.slice A' m c'] (0, 0) _ rfl ?_ Try.underlying29 rfl (by kernel_rfl)) rfl ?_
    · exact b5.set_ 0 _
    · rw [HE.out, HC.out]
      refine ⟨A', c', by rw [HM.out]; rfl, ?_, bl_set hv2 (by exact hgr0) _⟩
      rw [HM.out]
      exact own_base (own_far (p := ⟨gr, 0, none⟩) hown hfr _) hXw
end Go.Proofs.Ytefkfkdpfecnoaa
