/- Another clause of a style: plain Lean. builds (sty2.sh). -/
import Derived.Test.YtihgjmhhpiobbaaGreatDoorStyP
namespace Go.Proofs.YtihgjmhhpiobbaaGreatDoor
open Go.RowKit

theorem kind_cases (t : ByteArray) : (t = wUpper ∧ kindW t = 0) ∨ (t = wLining ∧ kindW t = 1) ∨ (t = wSole ∧ kindW t = 2) ∨ (t = wHeel ∧ kindW t = 3) ∨ (t = wEyelets ∧ kindW t = 4) ∨ (t = wStitch ∧ kindW t = 5) ∨ (t ∉ styW ∧ kindW t = -1) := by
  by_cases h0 : t = wUpper
  · subst h0; exact .inl ⟨rfl, kind0⟩
  by_cases h1 : t = wLining
  · subst h1; exact .inr (.inl ⟨rfl, kind1⟩)
  by_cases h2 : t = wSole
  · subst h2; exact .inr (.inr (.inl ⟨rfl, kind2⟩))
  by_cases h3 : t = wHeel
  · subst h3; exact .inr (.inr (.inr (.inl ⟨rfl, kind3⟩)))
  by_cases h4 : t = wEyelets
  · subst h4; exact .inr (.inr (.inr (.inr (.inl ⟨rfl, kind4⟩))))
  by_cases h5 : t = wStitch
  · subst h5; exact .inr (.inr (.inr (.inr (.inr (.inl ⟨rfl, kind5⟩)))))
  refine .inr (.inr (.inr (.inr (.inr (.inr ⟨?_, ?_⟩)))))
  · simp [styW, h0, h1, h2, h3, h4, h5]
  · unfold kindW; rw [if_neg h0, if_neg h1, if_neg h2, if_neg h3, if_neg h4, if_neg h5]
/-- the forms of a clause without a problem -/
theorem prob_forms {w : List ByteArray} (h : prob w = 0) :
    (∃ a b, w = [wUpper, a, b] ∧ nameB a = true ∧ nameB b = true) ∨ (∃ a, w = [wLining, a] ∧ nameB a = true) ∨ (∃ a b, w = [wSole, a, b] ∧ nameB a = true ∧ numOk b 10 300 = true) ∨
    (∃ a, w = [wHeel, a] ∧ numOk a 0 1200 = true) ∨ (∃ a, w = [wEyelets, a] ∧ numOk a 1 12 = true) ∨ (∃ a, w = [wStitch, a] ∧ numOk a 10 80 = true) ∨ (∃ a, w = [wStitch, a, wDouble] ∧ numOk a 10 80 = true) := by
  cases w with
  | nil => simp [prob] at h
  | cons t r =>
    rcases kind_cases t with ⟨rfl, hk⟩ | ⟨rfl, hk⟩ | ⟨rfl, hk⟩ | ⟨rfl, hk⟩ | ⟨rfl, hk⟩ | ⟨rfl, hk⟩ | ⟨_, hk⟩
    · rcases r with _ | ⟨a, _ | ⟨b, _ | ⟨c, r⟩⟩⟩ <;> simp [prob, hk] at h
      exact .inl ⟨a, b, rfl, h.1, h.2⟩
    · rcases r with _ | ⟨a, _ | ⟨b, r⟩⟩ <;> simp [prob, hk] at h
      exact .inr (.inl ⟨a, rfl, h⟩)
    · rcases r with _ | ⟨a, _ | ⟨b, _ | ⟨c, r⟩⟩⟩ <;> simp [prob, hk] at h
      refine .inr (.inr (.inl ⟨a, b, rfl, ?_⟩))
      cases h1 : nameB a <;> rw [h1] at h <;> simp at h
      exact ⟨rfl, h⟩
    · rcases r with _ | ⟨a, _ | ⟨b, r⟩⟩ <;> simp [prob, hk] at h
      exact .inr (.inr (.inr (.inl ⟨a, rfl, h⟩)))
    · rcases r with _ | ⟨a, _ | ⟨b, r⟩⟩ <;> simp [prob, hk] at h
      exact .inr (.inr (.inr (.inr (.inl ⟨a, rfl, h⟩))))
    · rcases r with _ | ⟨a, _ | ⟨b, _ | ⟨c, r⟩⟩⟩ <;> simp [prob, hk] at h
      · exact .inr (.inr (.inr (.inr (.inr (.inl ⟨a, rfl, h⟩)))))
      · obtain ⟨h1, rfl⟩ := h
        exact .inr (.inr (.inr (.inr (.inr (.inr ⟨a, rfl, h1⟩)))))
    · simp [prob, hk] at h
theorem numOk_in {t : ByteArray} {lo hi : Int} (h : numOk t lo hi = true) : inB (numV t) lo hi = true := by
  unfold numOk at h
  rw [Bool.and_eq_true] at h
  exact h.2
theorem in_wide {v lo lo' hi : Int} (h : inB v lo hi = true) (hl : lo' ≤ lo) : inB v lo' hi = true := by
  rw [inB_iff] at h ⊢; omega
theorem styB_parts {x : Style} : styB x = true ↔ nameB x.upper = true ∧ nameB x.color = true ∧ (decide (x.lining.size = 0) || nameB x.lining) = true ∧ nameB x.sole = true ∧ inB x.thick 10 300 = true ∧ inB x.heel 0 1200 = true ∧ inB x.eyelets 0 12 = true ∧ (decide (x.density = 0) && !x.double || inB x.density 10 80) = true := by
  unfold styB
  simp only [Bool.and_eq_true, and_assoc]
theorem set_upper (x : Style) (a b : ByteArray) : setS x [wUpper, a, b] = { x with upper := a, color := b } := by simp [setS, kind0]
theorem set_lining (x : Style) (a : ByteArray) : setS x [wLining, a] = { x with lining := a } := by simp [setS, kind1]
theorem set_sole (x : Style) (a b : ByteArray) : setS x [wSole, a, b] = { x with sole := a, thick := numV b } := by simp [setS, kind2]
theorem set_heel (x : Style) (a : ByteArray) : setS x [wHeel, a] = { x with heel := numV a } := by simp [setS, kind3]
theorem set_eyelets (x : Style) (a : ByteArray) : setS x [wEyelets, a] = { x with eyelets := numV a } := by simp [setS, kind4]
theorem set_stitch (x : Style) (a : ByteArray) : setS x [wStitch, a] = { x with density := numV a, double := false } := by simp [setS, kind5]
theorem set_double (x : Style) (a : ByteArray) : setS x [wStitch, a, wDouble] = { x with density := numV a, double := true } := by simp [setS, kind5]
/-- what one clause leaves: all fields but its own are as they were, its own are right -/
theorem set_sty {x : Style} {w : List ByteArray} (hx : styB x = true) (h : prob w = 0) : styB (setS x w) = true := by
  rw [styB_parts] at hx ⊢
  obtain ⟨h1, h2, h3, h4, h5, h6, h7, h8⟩ := hx
  rcases prob_forms h with ⟨a, b, rfl, ha, hb⟩ | ⟨a, rfl, ha⟩ | ⟨a, b, rfl, ha, hb⟩ | ⟨a, rfl, ha⟩ | ⟨a, rfl, ha⟩ | ⟨a, rfl, ha⟩ | ⟨a, rfl, ha⟩
  · rw [set_upper]; exact ⟨ha, hb, h3, h4, h5, h6, h7, h8⟩
  · rw [set_lining]; exact ⟨h1, h2, by rw [Bool.or_eq_true]; exact .inr ha, h4, h5, h6, h7, h8⟩
  · rw [set_sole]; exact ⟨h1, h2, h3, ha, numOk_in hb, h6, h7, h8⟩
  · rw [set_heel]; exact ⟨h1, h2, h3, h4, h5, numOk_in ha, h7, h8⟩
  · rw [set_eyelets]; exact ⟨h1, h2, h3, h4, h5, h6, in_wide (numOk_in ha) (by omega), h8⟩
  · rw [set_stitch]; exact ⟨h1, h2, h3, h4, h5, h6, h7, by rw [Bool.or_eq_true]; exact .inr (numOk_in ha)⟩
  · rw [set_double]; exact ⟨h1, h2, h3, h4, h5, h6, h7, by rw [Bool.or_eq_true]; exact .inr (numOk_in ha)⟩
theorem set_again {x : Style} {w : List ByteArray} (h : prob w = 0) : setS (setS x w) w = setS x w := by
  rcases prob_forms h with ⟨a, b, rfl, _, _⟩ | ⟨a, rfl, _⟩ | ⟨a, b, rfl, _, _⟩ | ⟨a, rfl, _⟩ | ⟨a, rfl, _⟩ | ⟨a, rfl, _⟩ | ⟨a, rfl, _⟩
  · rw [set_upper, set_upper]
  · rw [set_lining, set_lining]
  · rw [set_sole, set_sole]
  · rw [set_heel, set_heel]
  · rw [set_eyelets, set_eyelets]
  · rw [set_stitch, set_stitch]
  · rw [set_double, set_double]
/-- the words of the clauses in which two styles differ -/
def dif (x y : Style) : List ByteArray := ((txts x).zip ((txts y).zip styW)).filterMap fun p => if p.1 = p.2.1 then none else some p.2.2
theorem dif_comm (x y : Style) : dif x y = dif y x := by
  unfold dif txts styW
  simp only [List.zip_cons_cons, List.zip_nil_left, List.filterMap_cons, List.filterMap_nil]
  simp only [eq_comm]
theorem dif_set {x : Style} {w : List ByteArray} (h : prob w = 0) : dif x (setS x w) = [] ∨ dif x (setS x w) = [w.headD ByteArray.empty] := by
  unfold dif txts styW
  rcases prob_forms h with ⟨a, b, rfl, _, _⟩ | ⟨a, rfl, _⟩ | ⟨a, b, rfl, _, _⟩ | ⟨a, rfl, _⟩ | ⟨a, rfl, _⟩ | ⟨a, rfl, _⟩ | ⟨a, rfl, _⟩
  · rw [set_upper]; simp [txt1, txt2, txt3, txt4, txt5, txt5a, List.filterMap_cons]; split <;> first | (simp; done) | (rename_i hq; split at hq <;> simp_all)
  · rw [set_lining]; simp [txt0, txt2, txt3, txt4, txt5, txt5a, List.filterMap_cons]; split <;> first | (simp; done) | (rename_i hq; split at hq <;> simp_all)
  · rw [set_sole]; simp [txt0, txt1, txt3, txt4, txt5, txt5a, List.filterMap_cons]; split <;> first | (simp; done) | (rename_i hq; split at hq <;> simp_all)
  · rw [set_heel]; simp [txt0, txt1, txt2, txt4, txt5, txt5a, List.filterMap_cons]; split <;> first | (simp; done) | (rename_i hq; split at hq <;> simp_all)
  · rw [set_eyelets]; simp [txt0, txt1, txt2, txt3, txt5, txt5a, List.filterMap_cons]; split <;> first | (simp; done) | (rename_i hq; split at hq <;> simp_all)
  · rw [set_stitch]; simp [txt0, txt1, txt2, txt3, txt4, List.filterMap_cons]; split <;> first | (simp; done) | (rename_i hq; split at hq <;> simp_all)
  · rw [set_double]; simp [txt0, txt1, txt2, txt3, txt4, List.filterMap_cons]; split <;> first | (simp; done) | (rename_i hq; split at hq <;> simp_all)
theorem dec_inj {u v : Int} (h : decI u = decI v) : u = v := by
  have h1 : Lib.itoa u = Lib.itoa v := by
    have := congrArg (fun t : ByteArray => t.data.toList) h
    simpa [decI] using this
  have hu := (itoa_bare u).2
  rw [h1, (itoa_bare v).2] at hu
  exact hu.symm
theorem empty_no {a b : ByteArray} (h : 0 < a.size) : (⟨#[]⟩ : ByteArray) ≠ a ++ b := by
  intro e
  have := congrArg ByteArray.size e
  rw [app_size] at this
  have h0 : (⟨#[]⟩ : ByteArray).size = 0 := rfl
  omega
theorem size_zeroB {t : ByteArray} (h : t.size = 0) : t = ⟨#[]⟩ := by
  rw [← bytes_len] at h
  exact (bw_data t).symm.trans (by rw [List.eq_nil_of_length_eq_zero h])
theorem dif_nil {x z : Style} (hx : styB x = true) (hz : styB z = true) : dif x z = [] ↔ x = z := by
  constructor
  · intro h
    have ht : txt0 x = txt0 z ∧ txt1 x = txt1 z ∧ txt2 x = txt2 z ∧ txt3 x = txt3 z ∧ txt4 x = txt4 z ∧ txt5 x = txt5 z := by
      unfold dif txts styW at h
      simp only [List.zip_cons_cons, List.zip_nil_left, List.filterMap_eq_nil_iff, List.mem_cons, List.not_mem_nil, or_false, forall_eq_or_imp, forall_eq] at h
      simpa using h
    obtain ⟨t0, t1, t2, t3, t4, t5⟩ := ht
    rw [styB_parts] at hx hz
    obtain ⟨a1, a2, a3, a4, a5, a6, a7, a8⟩ := hx
    obtain ⟨b1, b2, b3, b4, b5, b6, b7, b8⟩ := hz
    have e0 := congrArg wrds t0
    rw [wrds0 a1 a2, wrds0 b1 b2] at e0
    have e2 := congrArg wrds t2
    rw [wrds2 a4, wrds2 b4] at e2
    simp only [List.cons.injEq, and_true, true_and] at e0 e2
    have e1 : x.lining = z.lining := by
      unfold txt1 at t1
      have key : ∀ y : Style, (decide (y.lining.size = 0) || nameB y.lining) = true → ¬ y.lining.size = 0 → nameB y.lining = true := by
        intro y h h0
        rw [Bool.or_eq_true] at h
        rcases h with h | h
        · exact absurd (of_decide_eq_true h) h0
        · exact h
      by_cases c1 : x.lining.size = 0
      · by_cases c2 : z.lining.size = 0
        · have k1 := size_zeroB c1
          have k2 := size_zeroB c2
          rw [k1, k2]
        · rw [if_pos c1, if_neg c2] at t1; exact absurd t1 (empty_no (by decide))
      · by_cases c2 : z.lining.size = 0
        · rw [if_neg c1, if_pos c2] at t1; exact absurd t1.symm (empty_no (by decide))
        · rw [if_neg c1, if_neg c2] at t1
          have := congrArg wrds t1
          rw [wrds1 (key x a3 c1), wrds1 (key z b3 c2)] at this
          simpa using this
    have e3 : x.heel = z.heel := by
      unfold txt3 at t3
      by_cases c1 : x.heel = 0
      · by_cases c2 : z.heel = 0
        · omega
        · rw [if_pos c1, if_neg c2] at t3; exact absurd t3 (empty_no (by decide))
      · by_cases c2 : z.heel = 0
        · rw [if_neg c1, if_pos c2] at t3; exact absurd t3.symm (empty_no (by decide))
        · rw [if_neg c1, if_neg c2] at t3
          have := congrArg wrds t3
          rw [word2 _ _ wHeel (by simp [wHeel]) (by decide), word2 _ _ wHeel (by simp [wHeel]) (by decide)] at this
          exact dec_inj (by simpa using this)
    have e4 : x.eyelets = z.eyelets := by
      unfold txt4 at t4
      by_cases c1 : x.eyelets = 0
      · by_cases c2 : z.eyelets = 0
        · omega
        · rw [if_pos c1, if_neg c2] at t4; exact absurd t4 (empty_no (by decide))
      · by_cases c2 : z.eyelets = 0
        · rw [if_neg c1, if_pos c2] at t4; exact absurd t4.symm (empty_no (by decide))
        · rw [if_neg c1, if_neg c2] at t4
          have := congrArg wrds t4
          rw [word2 _ _ wEyelets (by simp [wEyelets]) (by decide), word2 _ _ wEyelets (by simp [wEyelets]) (by decide)] at this
          exact dec_inj (by simpa using this)
    have key5 : ∀ y : Style, (y.density = 0 ∧ y.double = false ∧ txt5 y = ⟨#[]⟩) ∨ (0 < (txt5 y).size ∧ y.double = false ∧ wrds (txt5 y) = [wStitch, decI y.density]) ∨ (0 < (txt5 y).size ∧ y.double = true ∧ wrds (txt5 y) = [wStitch, decI y.density, wDouble]) := by
      intro y
      unfold txt5 txt5a
      cases hd : y.double
      · rw [if_neg (by simp)]
        by_cases h0 : y.density = 0
        · rw [if_pos ⟨h0, rfl⟩]; exact .inl ⟨h0, rfl, rfl⟩
        · rw [if_neg (fun h => h0 h.1)]
          exact .inr (.inl ⟨lit_pos _ _ (by decide), rfl, word2 _ _ wStitch (by simp [wStitch]) (by decide)⟩)
      · rw [if_pos rfl, if_neg (by simp)]
        exact .inr (.inr ⟨lit_pos _ _ (lit_pos _ _ (by decide)), rfl, wrds5 _⟩)
    have e5 : x.density = z.density ∧ x.double = z.double := by
      rcases key5 x with ⟨p1, p2, p3⟩ | ⟨p1, p2, p3⟩ | ⟨p1, p2, p3⟩ <;> rcases key5 z with ⟨q1, q2, q3⟩ | ⟨q1, q2, q3⟩ | ⟨q1, q2, q3⟩
      · exact ⟨by omega, by rw [p2, q2]⟩
      · rw [← t5, p3] at q1; exact absurd q1 (by decide)
      · rw [← t5, p3] at q1; exact absurd q1 (by decide)
      · rw [t5, q3] at p1; exact absurd p1 (by decide)
      · rw [t5, q3] at p3
        exact ⟨(dec_inj (by simpa using p3)).symm, by rw [p2, q2]⟩
      · rw [t5, q3] at p3; simp at p3
      · rw [t5, q3] at p1; exact absurd p1 (by decide)
      · rw [t5, q3] at p3; simp at p3
      · rw [t5, q3] at p3
        exact ⟨(dec_inj (by simpa using p3)).symm, by rw [p2, q2]⟩
    cases x; cases z
    simp only [Style.mk.injEq] at *
    exact ⟨e0.1, e0.2, e1, e2.1, dec_inj e2.2, e3, e4, e5.1, e5.2⟩
  · rintro rfl
    unfold dif txts styW
    simp
end Go.Proofs.YtihgjmhhpiobbaaGreatDoor
