/- The best sole, the reference's: the walk, l17Best, BestSole, LightestSole. -/
import Derived.Test.YtefkfkdpfecnoaaBstU
import Derived.Test.YtefkfkdpfecnoaaBstV
import Derived.Test.YtefkfkdpfecnoaaBstE
namespace Go.Proofs.Ytefkfkdpfecnoaa
open Go.RowKit

theorem walk_c (A : Option Addr) (xs : List Stuff) (n c : Nat) (hn : Hid (xs.length = n)) (hm : (n : Int) ≤ 1048576) (hs : Hid (∀ x ∈ xs, x.name.size ≤ 9223372036854775807)) (T S : Int) (gr : Bool) (f : Stuff → Int) (hf : Hid (f = if gr = true then Stuff.gram else Stuff.price)) (hx : Hid (stuffsB xs = true)) (hT1 : 1 ≤ T) (gw : Nat) (hAgw : ∀ ad, A = some ad → ad.block < gw - 1) : ∀ d, ∀ (ps : List Int) (st : Bst) (w : World), ps.length + d = 6 → Hid (plyOk xs ps) → SInv A n c T S gr gw ps st w → Arr w A (flat Stuff.cells xs) →
    Calls Try.prog 57 #[.pointer (some ⟨gw, 0, none⟩), .int .i64 (firstN ps)] w (OutW A n c T S gr gw ps (goS xs T S f d ps st) w) := by
  intro d
  induction d with
  | zero => exact walk_zero A xs n c hn hm hs T S gr f hf hx hT1 gw hAgw
  | succ d ih => exact walk_succ A xs n c hn hm hs T S gr f hf hx hT1 gw hAgw d ih
set_option maxRecDepth 100000 in
set_option maxHeartbeats 4000000 in
theorem l17Best_c (A : Option Addr) (xs : List Stuff) (n c : Nat) (hn : Hid (xs.length = n)) (hm : (n : Int) ≤ 1048576) (hs : Hid (∀ x ∈ xs, x.name.size ≤ 9223372036854775807)) (T S : Int) (gb : Bool) (f : Stuff → Int) (hf : Hid (f = if gb = true then Stuff.gram else Stuff.price))
    (w : World) (hAl : ∀ ad, A = some ad → ad.block < w.heap.size) (hA : Arr w A (flat Stuff.cells xs)) :
    Calls Try.prog 30 #[.slice A n c, .int .i64 T, .int .i64 S, .bool gb] w (OutB (bestL xs T S f) (bestC xs T S f) w) := by
  go_enter Try.func30, Try.ntmps30
  go_wp2_with fail
  obtain ⟨W1, hW1⟩ : ∃ W1, W1 = w.alloc (Obj.cells #[Value.slice none 0 0] 29) := ⟨_, rfl⟩
  obtain ⟨gr, hgr⟩ : ∃ gr, gr = w.heap.size := ⟨_, rfl⟩
  have hv : Below w.heap.size w W1 := by rw [hW1]; exact bl_alloc (Below.refl _ _) _
  have b4 : Blk W1 gr 29 #[Value.slice none 0 0] := by rw [hW1, hgr]; exact Blk.new _ _ _
  have hgr0 : w.heap.size ≤ gr := by omega
  rw [← hW1, ← hgr]
  have HGR := Lib.hid hgr
  clear hW1 hgr
  refine (l17Ok_c A xs n c hn hm hs _ (hA.below hv)).mono ?_
  rintro e W ⟨rfl, hb⟩
  replace hv := bl_trans hv hb
  replace b4 := b4.below hb
  clear hb
  have k4 : W.cell? ⟨gr, 0, none⟩ = some (.slice none 0 0) := b4.cell 0
  have f4 : W.frozen? ⟨gr, 0, none⟩ = false := b4.frozen 0
  cases hx : stuffsB xs
  · have HE := Lib.hid (show bestL xs T S f = [] by unfold bestL; rw [hx]; rfl)
    have HC := Lib.hid (show bestC xs T S f = 1 by unfold bestC; rw [hx]; rfl)
    clear hx
    go_wp2_with fail
    refine bodyPost_ret (results_cell_row_tmp (P := Try.prog) rfl _ _ gr 29 #[Value.slice none 0 0] (0, 0) _ rfl ?_ Try.underlying29 rfl (by kernel_rfl)) rfl ?_
    · exact b4.set_ 0 _
    · rw [HE.out, HC.out]
      exact OutB.nil (bl_set hv (by exact hgr0) _)
  have HX := Lib.hid hx
  clear hx
  by_cases hr : inB T 1 1200 = true ∧ inB S 0 6000 = true
  case neg =>
    have HE := Lib.hid (show bestL xs T S f = [] by unfold bestL; rw [HX.out, if_pos rfl, if_neg hr])
    have HC := Lib.hid (show bestC xs T S f = 2 by unfold bestC; rw [HX.out, if_pos rfl, if_neg hr])
    cases h1 : inB T 1 1200
    · clear hr
      go_wp2_with (go_at_call 45; refine (l00In_c _ _ _ _).mono ?_; rintro e w' ⟨rfl, hq⟩; rw [hq]; clear hq w')
      refine bodyPost_ret (results_cell_row_tmp (P := Try.prog) rfl _ _ gr 29 #[Value.slice none 0 0] (0, 0) _ rfl ?_ Try.underlying29 rfl (by kernel_rfl)) rfl ?_
      · exact b4.set_ 0 _
      · rw [HE.out, HC.out]
        exact OutB.nil (bl_set hv (by exact hgr0) _)
    · have h2 : inB S 0 6000 = false := by
        cases h : inB S 0 6000
        · rfl
        · exact absurd ⟨h1, h⟩ hr
      clear hr
      go_wp2_with (go_at_call 45; refine (l00In_c _ _ _ _).mono ?_; rintro e w' ⟨rfl, hq⟩; rw [hq]; clear hq w')
      refine bodyPost_ret (results_cell_row_tmp (P := Try.prog) rfl _ _ gr 29 #[Value.slice none 0 0] (0, 0) _ rfl ?_ Try.underlying29 rfl (by kernel_rfl)) rfl ?_
      · exact b4.set_ 0 _
      · rw [HE.out, HC.out]
        exact OutB.nil (bl_set hv (by exact hgr0) _)
  obtain ⟨h1, h2⟩ := hr
  have HE0 := Lib.hid (show bestL xs T S f = if (bestV xs T S f).2 < 0 then [] else (bestV xs T S f).1 by unfold bestL; rw [HX.out, if_pos rfl, if_pos ⟨h1, h2⟩])
  have HC0 := Lib.hid (show bestC xs T S f = if (bestV xs T S f).2 < 0 then 3 else 0 by unfold bestC; rw [HX.out, if_pos rfl, if_pos ⟨h1, h2⟩])
  have hT1 : 1 ≤ T := (inB_iff.1 h1).1
  obtain ⟨U1, hU1⟩ : ∃ U1, U1 = W.alloc (Obj.cells #[] 2) := ⟨_, rfl⟩
  obtain ⟨U2, hU2⟩ : ∃ U2, U2 = U1.alloc (Obj.cells #[Value.slice A n c, Value.int IntKind.i64 T, Value.int IntKind.i64 S, Value.bool gb, Value.slice (some ⟨W.heap.size, 0, none⟩) 0 0, Value.slice none 0 0, Value.int IntKind.i64 (-1)] 79) := ⟨_, rfl⟩
  obtain ⟨gw, hgw⟩ : ∃ gw, gw = W.heap.size + 1 := ⟨_, rfl⟩
  have q1 : U1.heap.size = gw := by rw [hU1, hgw]; simp
  have c2 : Blk U2 gw 79 #[Value.slice A n c, Value.int IntKind.i64 T, Value.int IntKind.i64 S, Value.bool gb, Value.slice (some ⟨W.heap.size, 0, none⟩) 0 0, Value.slice none 0 0, Value.int IntKind.i64 (-1)] := by rw [hU2, ← q1]; exact Blk.new _ _ _
  have hg1 : gw - 1 = W.heap.size := by omega
  have hown : U2.ownsRow (gw - 1) 2 1 (.slice (some ⟨W.heap.size, 0, none⟩) 0 0) 0 [] := by rw [hU2, hU1]; exact (own_empty W (gw - 1) 2 1 (by omega)).alloc _
  have hbU : Below W.heap.size W U2 := by rw [hU2, hU1]; exact bl_alloc (bl_alloc (Below.refl _ _) _) _
  have hI : SInv A n c T S gb gw [] ([], -1) U2 :=
    ⟨some ⟨W.heap.size, 0, none⟩, 0, none, 0, c2, hown, World.ownsRow_nil _ _ _ _, fun ad g e => by (cases e), fun ad e => by (cases e), fun g e => by injection e with e; subst e; simp only; omega⟩
  have HU1 := Lib.hid hU1
  have HU2 := Lib.hid hU2
  have HGW := Lib.hid hgw
  have hgrW := b4.lt
  replace hv := bl_trans hv hbU
  replace b4 := b4.below hbU
  have hwk := Lib.hid (walk_c A xs n c hn hm hs T S gb f hf HX hT1 gw (fun ad e => by have h3 := hAl ad e; have h4 := HGR.out; omega) 6 [] ([], -1) U2 rfl (Lib.hid (by intro k hk; cases hk)) hI (hA.below hv))
  clear c2 hown hI q1 hgw hU1 hU2
  go_wp2_with (go_at_call 45; refine (l00In_c _ _ _ _).mono ?_; rintro e w' ⟨rfl, hq⟩; rw [hq]; clear hq w')
  rw [← HU1.out, ← HU2.out, ← HGW.out]
  clear HU1 HU2 k4 f4
  refine hwk.out.mono ?_
  rintro e X ⟨rfl, hI2, hF⟩
  rw [← goI_goS HX.out hT1] at hI2
  have hI3 : SInv A n c T S gb gw [] (bestV xs T S f) X := hI2
  obtain ⟨st, hst⟩ : ∃ st, st = bestV xs T S f := ⟨_, rfl⟩
  rw [← hst] at hI3 HE0 HC0
  clear hst hI2 hwk
  obtain ⟨P, pc, B, bd, hB, _, hAb, _, hBlt, _⟩ := hI3
  have hv2 : Below w.heap.size w X := hv.trans (bl_le hF (by omega))
  have b5 : Blk X gr 29 #[Value.slice none 0 0] := (hF.block gr (by omega)).trans b4
  obtain ⟨l, hl⟩ : ∃ l, l = st.1 := ⟨_, rfl⟩
  obtain ⟨m, hm2⟩ : ∃ m, m = l.length := ⟨_, rfl⟩
  rw [← hl] at hB hAb HE0
  rw [← hm2] at hB hAb
  have HM := Lib.hid hm2.symm
  clear hl hm2
  have k5 : X.cell? ⟨gw, 5, none⟩ = some (.slice B m bd) := hB.cell 5
  have k6 : X.cell? ⟨gw, 6, none⟩ = some (.int .i64 st.2) := hB.cell 6
  have k4 : X.cell? ⟨gr, 0, none⟩ = some (.slice none 0 0) := b5.cell 0
  have f4 : X.frozen? ⟨gr, 0, none⟩ = false := b5.frozen 0
  by_cases h0 : st.2 < 0
  · have HE := Lib.hid (HE0.out.trans (if_pos h0))
    have HC := Lib.hid (HC0.out.trans (if_pos h0))
    go_wp2_with fail
    refine bodyPost_ret (results_cell_row_tmp (P := Try.prog) rfl _ _ gr 29 #[Value.slice none 0 0] (0, 0) _ rfl ?_ Try.underlying29 rfl (by kernel_rfl)) rfl ?_
    · exact b5.set_ 0 _
    · rw [HE.out, HC.out]
      exact OutB.nil (bl_set hv2 (by exact hgr0) _)
  · have HE := Lib.hid (HE0.out.trans (if_neg h0))
    have HC := Lib.hid (HC0.out.trans (if_neg h0))
    go_wp2_with fail
    refine bodyPost_ret (results_cell_row_tmp (P := Try.prog) rfl _ _ gr 29 #[Value.slice B m bd] (0, 0) _ rfl ?_ Try.underlying29 rfl (by kernel_rfl)) rfl ?_
    · exact b5.set_ 0 _
    · rw [HE.out, HC.out]
      refine ⟨B, bd, by rw [HM.out]; rfl, ?_, bl_set hv2 (by exact hgr0) _⟩
      rw [HM.out]
      exact own_base (own_far (p := ⟨gr, 0, none⟩) hAb (fun g' e => by have h5 := own_at hAb g' e; simp only; omega) _) (by omega)
set_option maxRecDepth 100000 in
set_option maxHeartbeats 1000000 in
theorem SBestSole_c (A : Option Addr) (xs : List Stuff) (n c : Nat) (hn : Hid (xs.length = n)) (hm : (n : Int) ≤ 1048576) (hs : Hid (∀ x ∈ xs, x.name.size ≤ 9223372036854775807)) (T S : Int) (w : World) (hAl : ∀ ad, A = some ad → ad.block < w.heap.size) (hA : Arr w A (flat Stuff.cells xs)) :
    Calls Try.prog 8 #[.slice A n c, .int .i64 T, .int .i64 S] w (OutB (bestL xs T S Stuff.price) (bestC xs T S Stuff.price) w) := by
  obtain ⟨W1, hW1⟩ : ∃ W1, W1 = w.alloc (Obj.cells #[Value.slice none 0 0] 29) := ⟨_, rfl⟩
  obtain ⟨gr, hgr⟩ : ∃ gr, gr = w.heap.size := ⟨_, rfl⟩
  have hv : Below w.heap.size w W1 := by rw [hW1]; exact bl_alloc (Below.refl _ _) _
  have b1 : Blk W1 gr 29 #[Value.slice none 0 0] := by rw [hW1, hgr]; exact Blk.new _ _ _
  have HL := Lib.hid (l17Best_c A xs n c hn hm hs T S false Stuff.price (Lib.hid (by rfl)) W1 (fun ad e => by have h1 := hAl ad e; have h2 := hv.size; omega) (hA.below hv))
  obtain ⟨l, hl⟩ : ∃ l, l = bestL xs T S Stuff.price := ⟨_, rfl⟩
  obtain ⟨co, hco⟩ : ∃ co, co = bestC xs T S Stuff.price := ⟨_, rfl⟩
  rw [← hl, ← hco] at HL ⊢
  clear hl hco hAl
  go_enter Try.func8, Try.ntmps8
  go_wp2_with fail
  rw [← hW1, ← hgr]
  have hge : w.heap.size ≤ gr := by omega
  clear hW1 hgr
  refine HL.out.mono ?_
  rintro e W ⟨B, c2, rfl, hown, hb⟩
  have hfr : ∀ g', Value.ownBlock (.slice B l.length c2) = some g' → g' ≠ gr := by
    intro g' e
    have h5 := own_at hown g' e
    have h6 := b1.lt
    omega
  have hsz : w.heap.size ≤ W1.heap.size := hv.size
  replace hv := bl_trans hv hb
  replace b1 := b1.below hb
  have k4 : W.cell? ⟨gr, 0, none⟩ = some (.slice none 0 0) := b1.cell 0
  have f4 : W.frozen? ⟨gr, 0, none⟩ = false := b1.frozen 0
  go_wp2_with fail
  refine bodyPost_ret (results_cell_row_tmp (P := Try.prog) rfl _ _ gr 29 #[Value.slice B l.length c2] (0, 0) _ rfl ?_ Try.underlying29 rfl (by kernel_rfl)) rfl ?_
  · exact b1.set_ 0 _
  · exact ⟨B, c2, rfl, own_base (own_far (p := ⟨gr, 0, none⟩) hown hfr _) hsz, bl_set hv (by exact hge) _⟩

set_option maxRecDepth 100000 in
set_option maxHeartbeats 1000000 in
theorem SLightestSole_c (A : Option Addr) (xs : List Stuff) (n c : Nat) (hn : Hid (xs.length = n)) (hm : (n : Int) ≤ 1048576) (hs : Hid (∀ x ∈ xs, x.name.size ≤ 9223372036854775807)) (T S : Int) (w : World) (hAl : ∀ ad, A = some ad → ad.block < w.heap.size) (hA : Arr w A (flat Stuff.cells xs)) :
    Calls Try.prog 10 #[.slice A n c, .int .i64 T, .int .i64 S] w (OutB (bestL xs T S Stuff.gram) (bestC xs T S Stuff.gram) w) := by
  obtain ⟨W1, hW1⟩ : ∃ W1, W1 = w.alloc (Obj.cells #[Value.slice none 0 0] 29) := ⟨_, rfl⟩
  obtain ⟨gr, hgr⟩ : ∃ gr, gr = w.heap.size := ⟨_, rfl⟩
  have hv : Below w.heap.size w W1 := by rw [hW1]; exact bl_alloc (Below.refl _ _) _
  have b1 : Blk W1 gr 29 #[Value.slice none 0 0] := by rw [hW1, hgr]; exact Blk.new _ _ _
  have HL := Lib.hid (l17Best_c A xs n c hn hm hs T S true Stuff.gram (Lib.hid (by rfl)) W1 (fun ad e => by have h1 := hAl ad e; have h2 := hv.size; omega) (hA.below hv))
  obtain ⟨l, hl⟩ : ∃ l, l = bestL xs T S Stuff.gram := ⟨_, rfl⟩
  obtain ⟨co, hco⟩ : ∃ co, co = bestC xs T S Stuff.gram := ⟨_, rfl⟩
  rw [← hl, ← hco] at HL ⊢
  clear hl hco hAl
  go_enter Try.func10, Try.ntmps10
  go_wp2_with fail
  rw [← hW1, ← hgr]
  have hge : w.heap.size ≤ gr := by omega
  clear hW1 hgr
  refine HL.out.mono ?_
  rintro e W ⟨B, c2, rfl, hown, hb⟩
  have hfr : ∀ g', Value.ownBlock (.slice B l.length c2) = some g' → g' ≠ gr := by
    intro g' e
    have h5 := own_at hown g' e
    have h6 := b1.lt
    omega
  have hsz : w.heap.size ≤ W1.heap.size := hv.size
  replace hv := bl_trans hv hb
  replace b1 := b1.below hb
  have k4 : W.cell? ⟨gr, 0, none⟩ = some (.slice none 0 0) := b1.cell 0
  have f4 : W.frozen? ⟨gr, 0, none⟩ = false := b1.frozen 0
  go_wp2_with fail
  refine bodyPost_ret (results_cell_row_tmp (P := Try.prog) rfl _ _ gr 29 #[Value.slice B l.length c2] (0, 0) _ rfl ?_ Try.underlying29 rfl (by kernel_rfl)) rfl ?_
  · exact b1.set_ 0 _
  · exact ⟨B, c2, rfl, own_base (own_far (p := ⟨gr, 0, none⟩) hown hfr _) hsz, bl_set hv (by exact hge) _⟩

end Go.Proofs.Ytefkfkdpfecnoaa
