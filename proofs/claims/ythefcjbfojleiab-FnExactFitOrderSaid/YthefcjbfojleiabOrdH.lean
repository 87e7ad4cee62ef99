/- FitOrder: the program's and the reference's functions. -/
import Derived.Test.YthefcjbfojleiabOrdG
namespace Go.Proofs.Ythefcjbfojleiab
open Go.RowKit

set_option maxRecDepth 100000 in
set_option maxHeartbeats 1600000 in
theorem FitOrder_c (A : Option Addr) (xs : List Order) (n c : Nat) (id : Int) (more : Int) (hn : Hid (xs.length = n)) (hm : (n : Int) ≤ 1048576) (hs : Hid (∀ x ∈ xs, x.customer.size ≤ 9223372036854775807)) (w : World) (hA : Arr w A (flat Order.cells xs)) :
    Calls Try.prog 12 #[.slice A n c, .int .i64 id, .int .i64 more] w (OutL 38 6 (fitP xs id more).1.length (flat Order.cells (fitP xs id more).1) (fitP xs id more).2 w) := by
  go_enter Try.func12, Try.ntmps12
  go_wp2_with fail
  refine (within_c _ _ _ _).mono ?_
  rintro e w' ⟨rfl, rfl⟩
  go_wp2_with fail
  refine (orderCode_c A xs n c id (inB more 0 100) hn hm hs _ hA).mono ?_
  rintro e W ⟨rfl, hv⟩
  cases ho : ordsB xs
  · have HO := Lib.hid ho
    have HCV := Lib.hid (show codeV xs id (inB more 0 100) = #[.int .i64 0, .int .i64 1] by rw [codeV, ho]; rfl)
    rw [HCV.out]
    clear ho
    go_wp2_with fail
    go_returns
    exact OutL.no (stepP_inv HO.out) hv
  · cases hrg : (inB more 0 100)
    · have HO := Lib.hid ho
      have HRG := Lib.hid hrg
      have HCV := Lib.hid (show codeV xs id false = #[.int .i64 0, .int .i64 2] by rw [codeV, ho]; rfl)
      rw [HCV.out]
      clear ho hrg
      go_wp2_with fail
      go_returns
      exact OutL.no (stepP_rng HO.out HRG.out) hv
    have HRG := Lib.hid hrg
    have hrb := inB_iff.1 hrg
    clear hrg
    cases hh : hitO id xs
    · have HO := Lib.hid ho
      have HH := Lib.hid hh
      have HCV := Lib.hid (show codeV xs id true = #[.int .i64 0, .int .i64 3] by rw [codeV, ho, hh]; rfl)
      rw [HCV.out]
      clear ho hh
      go_wp2_with fail
      go_returns
      exact OutL.no (stepP_non HO.out HRG.out HH.out) hv
    · have HBAD := 0
      obtain ⟨x, hx⟩ := hit_at hh
      have HCV := Lib.hid (show codeV xs id true = #[.int .i64 (lbO id xs), .int .i64 0] by rw [codeV, ho, hh]; rfl)
      obtain ⟨k, hk⟩ : ∃ k, k = lbO id xs := ⟨_, rfl⟩
      have hkn : k < n := by rw [← hn.out, hk]; exact (List.getElem?_eq_some_iff.1 hx).1
      rw [← hk] at hx
      obtain ⟨ad, rfl, hab, c0, c1, c2, c3, c4, c5⟩ := Order.at_ (hA.below hv) hx
      have hox := ords_mem ho x (List.mem_of_getElem? hx)
      obtain ⟨hbi, hbs, hbd, hbl, hbf⟩ := ordB_bd hox
      have hsx := hs.out x (List.mem_of_getElem? hx)
      have HO := Lib.hid ho
      have HH := Lib.hid hh
      have HX := Lib.hid hx
      have HK := Lib.hid hk
      have HOX := Lib.hid hox
      rw [HCV.out, ← hk]
      clear ho hh hx hk hox
      have hi0 : (0 : Int) ≤ (k : Int) := by omega
      have hi1 : (k : Int) < (n : Int) := by omega
      cases hs1 : (x.stage != 1)
      case true =>
        have HBA := Lib.hid (show fitBad x = true by unfold fitBad; rw [hs1]; rfl)
        have HP := Lib.hid (show fitP xs id more = ([], 6) from stepP_bad HO.out HRG.out HH.out (HK.out ▸ HX.out) HBA.out)
        go_wp2_with fail
        go_returns
        exact OutL.no HP.out hv
      cases hf0 : (x.fittings == 0)
      case true =>
        have HBA := Lib.hid (show fitBad x = true by unfold fitBad; rw [hs1, hf0]; rfl)
        have HP := Lib.hid (show fitP xs id more = ([], 6) from stepP_bad HO.out HRG.out HH.out (HK.out ▸ HX.out) HBA.out)
        go_wp2_with fail
        go_returns
        exact OutL.no HP.out hv
      have HBA := Lib.hid (show fitBad x = false by unfold fitBad; rw [hs1, hf0]; rfl)
      have HP := Lib.hid (show fitP xs id more = putP xs k (fitY more x) 5 from stepP_put HO.out HRG.out HH.out HK.out HX.out HBA.out)
      have hsy : (fitY more x).customer.size ≤ 9223372036854775807 := hsx
      have hR := fun w' (h : Arr w' (some ad) (flat Order.cells xs)) => replaced_c ad xs n c k (fitY more x) 5 hn hm hkn hsy w' h
      obtain ⟨Q, hQ⟩ : ∃ Q, Q = putP xs k (fitY more x) 5 := ⟨_, rfl⟩
      rw [← hQ] at hR HP
      replace hR := Lib.hid hR
      clear hQ HBAD
      go_wp2_with fail
      refine (hR.out _ (hA.below (bl_alloc hv _))).mono ?_
      rintro e W2 ⟨A2, c2', rfl, hown, hb2⟩
      go_wp2_with fail
      go_returns
      exact OutL.up HP.out (bl_alloc hv _) ⟨A2, c2', rfl, hown, hb2⟩

set_option maxRecDepth 100000 in
set_option maxHeartbeats 1600000 in
theorem SFitOrder_c (A : Option Addr) (xs : List Order) (n c : Nat) (id : Int) (more : Int) (hn : Hid (xs.length = n)) (hm : (n : Int) ≤ 1048576) (hs : Hid (∀ x ∈ xs, x.customer.size ≤ 9223372036854775807)) (w : World) (hA : Arr w A (flat Order.cells xs)) :
    Calls Try.prog 10 #[.slice A n c, .int .i64 id, .int .i64 more] w (OutL 38 6 (fitP xs id more).1.length (flat Order.cells (fitP xs id more).1) (fitP xs id more).2 w) := by
  go_enter Try.func10, Try.ntmps10
  go_wp2_with fail
  refine (l25Ok_c A xs n c hn hm hs _ hA).mono ?_
  rintro e W0 ⟨rfl, hv0⟩
  cases ho : ordsB xs
  · have HO := Lib.hid ho
    clear ho
    go_wp2_with fail
    go_returns
    exact OutL.no (stepP_inv HO.out) hv0
  · cases hrg : inB more 0 100
    · have HO := Lib.hid ho
      have HRG := Lib.hid hrg
      have hin := fun w => l00In_c more 0 100 w
      rw [hrg] at hin
      replace hin := Lib.hid hin
      clear ho hrg
      go_wp2_with fail
      refine (hin.out _).mono ?_
      rintro e w' ⟨rfl, rfl⟩
      go_wp2_with fail
      go_returns
      exact OutL.no (stepP_rng HO.out HRG.out) hv0
    have HRG := Lib.hid hrg
    have hrb := inB_iff.1 hrg
    have hin := fun w => l00In_c more 0 100 w
    rw [hrg] at hin
    replace hin := Lib.hid hin
    clear hrg
    go_wp2_with fail
    refine (hin.out _).mono ?_
    rintro e w' ⟨rfl, rfl⟩
    go_wp2_with fail
    refine (l25Named_c A xs n c id hn hm hs _ (hA.below hv0)).mono ?_
    rintro e W ⟨rfl, hvb⟩
    have hv : Below w.heap.size w W := bl_trans hv0 hvb
    rw [named_code]
    clear hvb
    cases hh : hitO id xs
    · have HO := Lib.hid ho
      have HH := Lib.hid hh
      have HCV := Lib.hid (show codeV xs id true = #[.int .i64 0, .int .i64 3] by rw [codeV, ho, hh]; rfl)
      rw [HCV.out]
      clear ho hh
      go_wp2_with fail
      go_returns
      exact OutL.no (stepP_non HO.out HRG.out HH.out) hv
    · skip
      obtain ⟨x, hx⟩ := hit_at hh
      have HCV := Lib.hid (show codeV xs id true = #[.int .i64 (lbO id xs), .int .i64 0] by rw [codeV, ho, hh]; rfl)
      obtain ⟨k, hk⟩ : ∃ k, k = lbO id xs := ⟨_, rfl⟩
      have hkn : k < n := by rw [← hn.out, hk]; exact (List.getElem?_eq_some_iff.1 hx).1
      rw [← hk] at hx
      obtain ⟨ad, rfl, hab, c0, c1, c2, c3, c4, c5⟩ := Order.at_ (hA.below hv) hx
      have hox := ords_mem ho x (List.mem_of_getElem? hx)
      obtain ⟨hbi, hbs, hbd, hbl, hbf⟩ := ordB_bd hox
      have hsx := hs.out x (List.mem_of_getElem? hx)
      have HO := Lib.hid ho
      have HH := Lib.hid hh
      have HX := Lib.hid hx
      have HK := Lib.hid hk
      have HOX := Lib.hid hox
      rw [HCV.out, ← hk]
      clear ho hh hx hk hox
      have hi0 : (0 : Int) ≤ (k : Int) := by omega
      have hi1 : (k : Int) < (n : Int) := by omega
      cases hs1 : (x.stage != 1)
      case true =>
        have HBA := Lib.hid (show fitBad x = true by unfold fitBad; rw [hs1]; rfl)
        have HP := Lib.hid (show fitP xs id more = ([], 6) from stepP_bad HO.out HRG.out HH.out (HK.out ▸ HX.out) HBA.out)
        go_wp2_with fail
        go_returns
        exact OutL.no HP.out hv
      cases hf0 : (x.fittings == 0)
      case true =>
        have HBA := Lib.hid (show fitBad x = true by unfold fitBad; rw [hs1, hf0]; rfl)
        have HP := Lib.hid (show fitP xs id more = ([], 6) from stepP_bad HO.out HRG.out HH.out (HK.out ▸ HX.out) HBA.out)
        go_wp2_with fail
        go_returns
        exact OutL.no HP.out hv
      have HBA := Lib.hid (show fitBad x = false by unfold fitBad; rw [hs1, hf0]; rfl)
      have HP := Lib.hid (show fitP xs id more = putP xs k (fitY more x) 5 from stepP_put HO.out HRG.out HH.out HK.out HX.out HBA.out)
      have hsy : (fitY more x).customer.size ≤ 9223372036854775807 := hsx
      have hY : Blk (W.alloc (Obj.cells #[Value.int IntKind.i64 x.id, Value.string x.customer, Value.int IntKind.i64 x.stage, Value.int IntKind.i64 x.due, Value.int IntKind.i64 (x.left + more), Value.int IntKind.i64 (x.fittings - 1)] 38)) W.heap.size 38 #[Value.int IntKind.i64 x.id, Value.string x.customer, Value.int IntKind.i64 x.stage, Value.int IntKind.i64 x.due, Value.int IntKind.i64 (x.left + more), Value.int IntKind.i64 (x.fittings - 1)] := Blk.new _ _ _
      have HY := Lib.hid hY
      clear hY
      go_wp2_with fail
      refine (l25One_c ⟨W.heap.size, 0, none⟩ (fitY more x) hsy _ (HY.out.cell 0) (HY.out.cell 1) (HY.out.cell 2) (HY.out.cell 3) (HY.out.cell 4) (HY.out.cell 5)).mono ?_
      rintro e w' ⟨rfl, rfl⟩
      cases hoy : ordB (fitY more x)
      · have HOY := Lib.hid hoy
        clear hoy
        go_wp2_with fail
        go_returns
        exact OutL.no (HP.out.trans (by rw [putP, if_neg (by simp [HOY.out])])) (bl_alloc hv _)
      · have HOY := Lib.hid hoy
        clear hoy
        go_wp2_with fail
        refine (l25Put_c ad xs n c k ((fitY more) x) hn hm hkn _ (hA.below (bl_alloc hv _))).mono ?_
        rintro e W2 ⟨A2, c2', rfl, hown, hb2⟩
        go_wp2_with fail
        go_returns
        have hv2 := bl_alloc hv (Obj.cells #[Value.int IntKind.i64 x.id, Value.string x.customer, Value.int IntKind.i64 x.stage, Value.int IntKind.i64 x.due, Value.int IntKind.i64 (x.left + more), Value.int IntKind.i64 (x.fittings - 1)] 38)
        exact OutL.of (l := xs.set k ((fitY more) x)) (HP.out.trans (by rw [putP, if_pos HOY.out])) (by rw [List.length_set]; exact hn.out) (own_base hown hv2.size) (bl_trans hv2 hb2)

end Go.Proofs.Ythefcjbfojleiab
