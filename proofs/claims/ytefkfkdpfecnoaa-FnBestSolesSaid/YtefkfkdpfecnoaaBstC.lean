/- The best sole: all soles, by recursion. -/
import Derived.Test.YtefkfkdpfecnoaaBstB
import Derived.Test.YtefkfkdpfecnoaaApp
import Derived.Test.YtefkfkdpfecnoaaOwn
import Derived.Test.YtefkfkdpfecnoaaShelf
namespace Go.Proofs.Ytefkfkdpfecnoaa
open Go.RowKit

theorem info_i64q : (Try.prog.info? 2).map (fun i => (i.zero, i.size, i.bytes)) = some (some (.int .i64 0), 1, 8) := by kernel_rfl
/- slices.Clone of plies -/
set_option maxRecDepth 100000 in
theorem clonePl_c (B : Option Addr) (ps : List Int) (m cc gB gL : Nat) (hp : Hid (ps.length = m)) (hm : (m : Int) ≤ 6) (hB : plForm B m cc gB gL) (w : World) (hA : Arr w B (flat icell ps)) :
    Calls Try.prog 55 #[.slice B m cc] w (fun e w' => ∃ v, e = .returned v ∧ w'.ownsRow w.heap.size 2 1 v m (flat icell ps) ∧ Below w.heap.size w w') := by
  obtain ⟨i0, hi0, hz0, hz1, hz2⟩ := info_parts (P := Try.prog) (e := 2) (z := .int .i64 0) (size := 1) (bytes := 8) info_i64q
  rcases hB with ⟨rfl, rfl, rfl⟩ | ⟨gp, rfl, _, _⟩
  · have h0 : ps = [] := List.eq_nil_of_length_eq_zero hp.out
    subst h0
    refine (Try.slices_Clone_nil 0 0 w).mono ?_
    rintro e w' ⟨rfl, rfl⟩
    exact ⟨_, rfl, World.ownsRow_nil _ _ _ _, Below.refl _ _⟩
  · have hl : (flat icell ps).length = m * 1 := by rw [flat_length (f := icell) (s := 1) (fun _ => rfl), hp.out]
    refine (Try.slices_Clone i0 _ 1 8 hi0 hz0 hz1 hz2 rfl (by omega) Try.sizeOf2 gp 0 m cc (flat icell ps) w hl (by unfold maxLen; omega) (by omega) ?_ ?_).mono ?_
    · intro j u hu
      obtain ⟨ad, e, _, hc⟩ := hA (by have := (List.getElem?_eq_some_iff.1 hu).1; omega)
      injection e with e
      subst e
      have h := hc j u hu
      rwa [Addr.add_lit] at h
    · intro u hu
      simp only [flat, List.mem_flatMap, icell, List.mem_singleton] at hu
      obtain ⟨x, _, rfl⟩ := hu
      rfl
    · rintro e w' ⟨v', rfl, h1, _, h2⟩
      exact ⟨v', rfl, h1, h2⟩
set_option maxRecDepth 100000 in
set_option maxHeartbeats 2000000 in
theorem soles_c (A : Option Addr) (xs : List Stuff) (n c : Nat) (hn : Hid (xs.length = n)) (hm : (n : Int) ≤ 1048576) (hs : Hid (∀ x ∈ xs, x.name.size ≤ 9223372036854775807)) (T S : Int) (f : Stuff → Int) (FV : FuncId)
    (HV : Hid (∀ (B : Option Addr) (ps : List Int) (m d : Nat) (w : World), Hid (ps.length = m) → (m : Int) ≤ 1048576 → Hid (soleB xs ps = true) → Arr w A (flat Stuff.cells xs) → Arr w B (flat icell ps) → Calls Try.prog 54 #[.agg #[.slice B m d], .slice A n c, .func (.func FV) #[] #[]] w (Ret (.int .i64 (sumR f xs ps)) w)))
    (gl gt gs gv gB gL : Nat) (hdl : gl < gB ∧ gt < gB ∧ gs < gB ∧ gv < gB ∧ gB < gL) (hfa : farA A gB gL) (hx : Hid (stuffsB xs = true)) : ∀ (d : Nat) (ps : List Int) (B : Option Addr) (m cc : Nat) (st : Bst) (w : World), Hid (ps.length = m) → m + d = 6 → Hid (plyOk xs ps) → plForm B m cc gB gL → BInv A n c T S FV gl gt gs gv gB gL st w → Arr w A (flat Stuff.cells xs) → Arr w B (flat icell ps) →
    Calls Try.prog 52 #[.slice A n c, .slice B m cc, .func (.func 53) #[] #[.pointer (some ⟨gl, 0, none⟩), .pointer (some ⟨gt, 0, none⟩), .pointer (some ⟨gs, 0, none⟩), .pointer (some ⟨gv, 0, none⟩), .pointer (some ⟨gL, 0, none⟩), .pointer (some ⟨gB, 0, none⟩)]] w (OutY A n c T S FV gl gt gs gv gB gL (goI xs T S f d ps st) w) := by
  obtain ⟨i0, hi0, hz0, hz1, hz2⟩ := info_parts (P := Try.prog) (e := 2) (z := .int .i64 0) (size := 1) (bytes := 8) info_i64q
  have hn12 : n ≤ 12 := by have := (stuffs_ok hx.out).2; rw [hn.out] at this; exact this
  intro d
  induction d with
  | zero =>
    intro ps B m cc st w hp hd hpo hBf hI hA hB
    have hne : ps ≠ [] := by intro h; have := hp.out; rw [h] at this; simp at this; omega
    have hso := Lib.hid (sole_of hx.out hne (by rw [hp.out]; omega) hpo.out)
    obtain ⟨hf1, hf2⟩ := firstN_lt hpo.out hne
    rw [hp.out] at hf2
    have HE := Lib.hid (show goI xs T S f 0 ps st = updB xs T S f ps st by simp only [goI, seeB]; rw [if_neg hne])
    have hm6 : m = 6 := by omega
    subst hm6
    have hf3 : ps[5]? = some (firstN ps : Int) := hf2
    go_enter Try.func52, Try.ntmps52
    go_wp2_with fail
    refine (yield_c A xs n c hn hm hs T S f FV HV gl gt gs gv gB gL hdl hfa st B ps 6 cc hp (by omega) hso hBf w hI hA hB).mono ?_
    rintro e W ⟨rfl, hI1, hF1⟩
    have hfar := hBf.far
    obtain ⟨gp, hgp⟩ : ∃ gp, B = some ⟨gp, 0, none⟩ := by
      rcases hBf with ⟨h, _⟩ | ⟨gp, h, _⟩
      · omega
      · exact ⟨gp, h⟩
    subst hgp
    obtain ⟨bd, hBe, hbb, d0⟩ := icell_at (hB.fr hF1 hfar) hf3
    injection hBe with hBe
    subst hBe
    rw [Addr.add_lit, Nat.zero_add] at d0
    go_wp2_with fail
    go_returns
    rw [HE.out]
    exact ⟨rfl, hI1, hF1⟩
  | succ d ih =>
    intro ps B m cc st w hp hd hpo hBf hI hA hB
    by_cases hm0 : m = 0
    · have h0 : ps = [] := List.eq_nil_of_length_eq_zero (by rw [hp.out]; exact hm0)
      have HS1 := Lib.hid (show goI xs T S f (d + 1) ps st = iterB (fun k s => goI xs T S f d (ps ++ [(k : Int)]) s) (firstN ps) (n - firstN ps) st by simp only [goI, seeB]; rw [if_pos h0, hn.out])
      have hfn : firstN ps = 0 := by rw [h0]; rfl
      have hIc := hI
      have hFc := Fr.refl gB gL w
      subst hm0
      go_enter Try.func52, Try.ntmps52
      go_wp2_with fail
      go_loopw [8] (fun i wr => ∃ (j : Nat) (s2 : Bst), j ≤ n ∧ i = .int .i64 j ∧ Hid (goI xs T S f (d + 1) ps st = iterB (fun k s => goI xs T S f d (ps ++ [(k : Int)]) s) j (n - j) s2) ∧ BInv A n c T S FV gl gt gs gv gB gL s2 wr ∧ Fr gB gL w wr) (fun i _ => n - (intOf i).toNat)
      case atStart => exact ⟨firstN ps, _, by omega, by rw [hfn]; rfl, HS1, hIc, hFc⟩
      case round =>
        clear HS1 hIc hFc
        obtain ⟨j, s2, hj, rfl, HS, hI2, hF2⟩ := hrel
        by_cases hlt : j < n
        · have hAr := hA.fr hF2 hfa
          have hBr := hB.fr hF2 hBf.far
          obtain ⟨r, hr⟩ : ∃ r, n - j = r + 1 := ⟨n - j - 1, by omega⟩
          have HS2 := Lib.hid (show goI xs T S f (d + 1) ps st = iterB (fun k s => goI xs T S f d (ps ++ [(k : Int)]) s) (j + 1) (n - (j + 1)) (goI xs T S f d (ps ++ [(j : Int)]) s2) by rw [HS.out, hr, show n - (j + 1) = r by omega]; rfl)
          clear HS hr
          have hgb : gL < wr.heap.size := hI2.L.lt
          go_wp2_with fail
          refine (clonePl_c B ps 0 cc gB gL hp (by omega) hBf _ hBr).mono ?_
          rintro e W2 ⟨v, rfl, hown, hb2⟩
          obtain ⟨A', c', rfl, _, _⟩ := own_form hown
          go_wp2_with (at_builtin; refine app_own _ _ rfl _ _ 27 2 rfl i0 _ 1 8 Try.underlying27 hi0 hz0 hz1 hz2 rfl (by omega) wr.heap.size (.slice A' 0 c') 0 _ rfl rfl hown rfl (by simp [Value.oneCell']) (by unfold maxLen; omega) (by omega) hb2.size ?_; intro A2 c2 w3 hown3 hg3)
          have hb3 := bl_grown hb2 hg3 (own_at hown)
          obtain ⟨g2, rfl⟩ := own_addr hown3 (by omega)
          have hge := own_at hown3 g2 rfl
          have hfl : flat icell ps ++ #[Value.int IntKind.i64 (j : Int)].toList = flat icell (ps ++ [(j : Int)]) := by rw [flat_append]; rfl
          rw [hfl] at hown3
          refine (ih (ps ++ [(j : Int)]) (some ⟨g2, 0, none⟩) (0 + 1) c2 s2 w3 (Lib.hid (by rw [List.length_append, hp.out]; rfl)) (by omega) (Lib.hid (plyOk_append hpo.out (by rw [hn.out]; exact hlt))) (.inr ⟨g2, rfl, by omega, by omega⟩) (hI2.below hb3) (hAr.below hb3) (Arr.own hown3)).mono ?_
          rintro e W4 ⟨rfl, hI4, hF4⟩
          have hF5 := (hF2.trans (Fr.of hb3)).trans hF4
          clear hown hown3 hg3 hb2 hb3 hge hfl hI2 hF2 hF4 hAr hBr hgb
          go_wp2_with fail
          exact ⟨⟨j + 1, _, by omega, by go_num, HS2, hI4, hF5⟩, by simp [intOf]; omega⟩
        · have HS2 := Lib.hid (HS.out.trans (by rw [show n - j = 0 by omega]; rfl : _ = s2))
          clear HS
          go_wp2_with fail
          go_returns
          rw [HS2.out]
          exact ⟨rfl, hI2, hF2⟩
    · have hne : ps ≠ [] := by intro h; have := hp.out; rw [h] at this; simp at this; omega
      have hso := Lib.hid (sole_of hx.out hne (by rw [hp.out]; omega) hpo.out)
      obtain ⟨hf1, hf2⟩ := firstN_lt hpo.out hne
      rw [hp.out] at hf2
      rw [hn.out] at hf1
      have HS1 := Lib.hid (show goI xs T S f (d + 1) ps st = iterB (fun k s => goI xs T S f d (ps ++ [(k : Int)]) s) (firstN ps) (n - firstN ps) (updB xs T S f ps st) by simp only [goI, seeB]; rw [if_neg hne, hn.out])
      have hm7 : ¬ (m : Int) = 6 := by omega
      have hm8 : ((m : Int) == 6) = false := by rw [beq_eq_false_iff_ne]; exact hm7
      have hmp : (0 : Int) < (m : Int) := by omega
      obtain ⟨q, hq⟩ : ∃ q, q = m - 1 := ⟨_, rfl⟩
      have hw1 : IntKind.i64.wrap ((m : Int) - 1) = (q : Int) := IntWalk.i64_in _ (by omega) |>.trans (by omega)
      have hj0 : (q : Int) < (m : Int) := by omega
      have hj1 : (0 : Int) ≤ (q : Int) := by omega
      rw [← hq] at hf2
      clear hq
      go_enter Try.func52, Try.ntmps52
      go_wp2_with fail
      refine (yield_c A xs n c hn hm hs T S f FV HV gl gt gs gv gB gL hdl hfa st B ps m cc hp (by omega) hso hBf w hI hA hB).mono ?_
      rintro e W ⟨rfl, hIc, hFc⟩
      obtain ⟨bd, hBe, hbb, d0⟩ := icell_at (hB.fr hFc hBf.far) hf2
      subst hBe
      go_wp2_with fail
      go_loopw [8] (fun i wr => ∃ (j : Nat) (s2 : Bst), j ≤ n ∧ i = .int .i64 j ∧ Hid (goI xs T S f (d + 1) ps st = iterB (fun k s => goI xs T S f d (ps ++ [(k : Int)]) s) j (n - j) s2) ∧ BInv A n c T S FV gl gt gs gv gB gL s2 wr ∧ Fr gB gL w wr) (fun i _ => n - (intOf i).toNat)
      case atStart => exact ⟨firstN ps, _, by omega, rfl, HS1, hIc, hFc⟩
      case round =>
        clear HS1 hIc hFc
        obtain ⟨j, s2, hj, rfl, HS, hI2, hF2⟩ := hrel
        by_cases hlt : j < n
        · have hAr := hA.fr hF2 hfa
          have hBr := hB.fr hF2 hBf.far
          obtain ⟨r, hr⟩ : ∃ r, n - j = r + 1 := ⟨n - j - 1, by omega⟩
          have HS2 := Lib.hid (show goI xs T S f (d + 1) ps st = iterB (fun k s => goI xs T S f d (ps ++ [(k : Int)]) s) (j + 1) (n - (j + 1)) (goI xs T S f d (ps ++ [(j : Int)]) s2) by rw [HS.out, hr, show n - (j + 1) = r by omega]; rfl)
          clear HS hr
          have hgb : gL < wr.heap.size := hI2.L.lt
          go_wp2_with fail
          refine (clonePl_c _ ps m cc gB gL hp (by omega) hBf _ hBr).mono ?_
          rintro e W2 ⟨v, rfl, hown, hb2⟩
          obtain ⟨A', c', rfl, _, _⟩ := own_form hown
          go_wp2_with (at_builtin; refine app_own _ _ rfl _ _ 27 2 rfl i0 _ 1 8 Try.underlying27 hi0 hz0 hz1 hz2 rfl (by omega) wr.heap.size (.slice A' m c') m _ rfl rfl hown rfl (by simp [Value.oneCell']) (by unfold maxLen; omega) (by omega) hb2.size ?_; intro A2 c2 w3 hown3 hg3)
          have hb3 := bl_grown hb2 hg3 (own_at hown)
          obtain ⟨g2, rfl⟩ := own_addr hown3 (by omega)
          have hge := own_at hown3 g2 rfl
          have hfl : flat icell ps ++ #[Value.int IntKind.i64 (j : Int)].toList = flat icell (ps ++ [(j : Int)]) := by rw [flat_append]; rfl
          rw [hfl] at hown3
          refine (ih (ps ++ [(j : Int)]) (some ⟨g2, 0, none⟩) (m + 1) c2 s2 w3 (Lib.hid (by rw [List.length_append, hp.out]; rfl)) (by omega) (Lib.hid (plyOk_append hpo.out (by rw [hn.out]; exact hlt))) (.inr ⟨g2, rfl, by omega, by omega⟩) (hI2.below hb3) (hAr.below hb3) (Arr.own hown3)).mono ?_
          rintro e W4 ⟨rfl, hI4, hF4⟩
          have hF5 := (hF2.trans (Fr.of hb3)).trans hF4
          clear hown hown3 hg3 hb2 hb3 hge hfl hI2 hF2 hF4 hAr hBr hgb
          go_wp2_with fail
          exact ⟨⟨j + 1, _, by omega, by go_num, HS2, hI4, hF5⟩, by simp [intOf]; omega⟩
        · have HS2 := Lib.hid (HS.out.trans (by rw [show n - j = 0 by omega]; rfl : _ = s2))
          clear HS
          go_wp2_with fail
          go_returns
          rw [HS2.out]
          exact ⟨rfl, hI2, hF2⟩


end Go.Proofs.Ytefkfkdpfecnoaa
