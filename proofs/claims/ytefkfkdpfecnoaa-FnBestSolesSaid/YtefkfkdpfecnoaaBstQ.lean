/- The cheapest and the lightest sole beside one another: plain Lean. -/
import Derived.Test.YtefkfkdpfecnoaaBstP
namespace Go.Proofs.Ytefkfkdpfecnoaa

def parB (xs : List Stuff) (T S : Int) (f g : Stuff → Int) (a b : Bst) : Prop :=
  (a.2 < 0 ∧ b.2 < 0) ∨
  (0 ≤ a.2 ∧ 0 ≤ b.2 ∧ a.2 = sumR f xs a.1 ∧ b.2 = sumR g xs b.1 ∧ okP xs T S a.1 = true ∧ okP xs T S b.1 = true ∧ sumR f xs a.1 ≤ sumR f xs b.1 ∧ sumR g xs b.1 ≤ sumR g xs a.1 ∧ plyOk xs a.1 ∧ plyOk xs b.1)
theorem iterB_par {P : Bst → Bst → Prop} {g g' : Nat → Bst → Bst} : ∀ (m k : Nat) (s s' : Bst), (∀ j s s', k ≤ j → j < k + m → P s s' → P (g j s) (g' j s')) → P s s' → P (iterB g k m s) (iterB g' k m s') := by
  intro m
  induction m with
  | zero => intro k s s' _ h; exact h
  | succ m ih =>
    intro k s s' hg h
    simp only [iterB]
    exact ih (k + 1) _ _ (fun j s s' h1 h2 h3 => hg j s s' (by omega) (by omega) h3) (hg k s s' (by omega) (by omega) h)
theorem updB_par {xs : List Stuff} {T S : Int} {f g : Stuff → Int} (hf : fewS f xs) (hg : fewS g xs) {ps : List Int} (hp : plyOk xs ps) {a b : Bst} (h : parB xs T S f g a b) : parB xs T S f g (updB xs T S f ps a) (updB xs T S g ps b) := by
  have f0 : 0 ≤ sumR f xs ps := (sumS_bd hf ps 0).1
  have g0 : 0 ≤ sumR g xs ps := (sumS_bd hg ps 0).1
  unfold updB
  cases ho : okP xs T S ps
  · simp only [Bool.false_eq_true, false_and, if_false]
    exact h
  · simp only [true_and]
    rcases h with ⟨h1, h2⟩ | ⟨h1, h2, ea, eb, oa, ob, h3, h4, pa, pb⟩
    · rw [if_pos (.inl h1), if_pos (.inl h2)]
      exact .inr ⟨f0, g0, rfl, rfl, ho, ho, Int.le_refl _, Int.le_refl _, hp, hp⟩
    · by_cases c1 : sumR f xs ps < a.2 <;> by_cases c2 : sumR g xs ps < b.2
      · rw [if_pos (.inr c1), if_pos (.inr c2)]
        exact .inr ⟨f0, g0, rfl, rfl, ho, ho, Int.le_refl _, Int.le_refl _, hp, hp⟩
      · rw [if_pos (.inr c1), if_neg (by omega)]
        exact .inr ⟨f0, h2, rfl, eb, ho, ob, by simp only; omega, by simp only; omega, hp, pb⟩
      · rw [if_neg (by omega), if_pos (.inr c2)]
        exact .inr ⟨h1, g0, ea, rfl, oa, ho, by simp only; omega, by simp only; omega, pa, hp⟩
      · rw [if_neg (by omega), if_neg (by omega)]
        exact .inr ⟨h1, h2, ea, eb, oa, ob, h3, h4, pa, pb⟩
theorem seeB_par {xs : List Stuff} {T S : Int} {f g : Stuff → Int} (hf : fewS f xs) (hg : fewS g xs) {ps : List Int} (hp : plyOk xs ps) {a b : Bst} (h : parB xs T S f g a b) : parB xs T S f g (seeB xs T S f ps a) (seeB xs T S g ps b) := by
  unfold seeB
  by_cases h0 : ps = []
  · rw [if_pos h0, if_pos h0]; exact h
  · rw [if_neg h0, if_neg h0]; exact updB_par hf hg hp h
theorem goI_par {xs : List Stuff} {T S : Int} {f g : Stuff → Int} (hf : fewS f xs) (hg : fewS g xs) : ∀ (d : Nat) (ps : List Int) (a b : Bst), plyOk xs ps → parB xs T S f g a b → parB xs T S f g (goI xs T S f d ps a) (goI xs T S g d ps b) := by
  intro d
  induction d with
  | zero => intro ps a b hp h; exact seeB_par hf hg hp h
  | succ d ih =>
    intro ps a b hp h
    simp only [goI]
    exact iterB_par _ _ _ _ (fun j s s' h1 h2 h3 => ih _ _ _ (plyOk_append hp (by omega)) h3) (seeB_par hf hg hp h)
theorem best_par {xs : List Stuff} {T S : Int} {f g : Stuff → Int} (hf : fewS f xs) (hg : fewS g xs) : parB xs T S f g (bestV xs T S f) (bestV xs T S g) :=
  goI_par hf hg 6 [] _ _ (fun k hk => by cases hk) (.inl ⟨by decide, by decide⟩)
/-- what the law says of two best soles -/
theorem best_two {xs : List Stuff} {T S : Int} {f g : Stuff → Int} (hf : stuffsB xs = true → fewS f xs) (hg : stuffsB xs = true → fewS g xs) :
    bestC xs T S f = bestC xs T S g ∧ (bestC xs T S f = 0 → soleB xs (bestL xs T S f) = true ∧ soleB xs (bestL xs T S g) = true ∧ sumR Stuff.thick xs (bestL xs T S f) = T ∧ sumR Stuff.thick xs (bestL xs T S g) = T ∧
      sumR Stuff.stiff xs (bestL xs T S f) ≤ S ∧ sumR Stuff.stiff xs (bestL xs T S g) ≤ S ∧ sumR f xs (bestL xs T S f) ≤ sumR f xs (bestL xs T S g) ∧ sumR g xs (bestL xs T S g) ≤ sumR g xs (bestL xs T S f)) := by
  unfold bestC bestL
  by_cases hx : stuffsB xs = true
  case neg =>
    rw [if_neg hx, if_neg hx]
    exact ⟨rfl, fun h => by cases h⟩
  rw [if_pos hx, if_pos hx, if_pos hx, if_pos hx]
  by_cases hr : inB T 1 1200 = true ∧ inB S 0 6000 = true
  case neg =>
    rw [if_neg hr, if_neg hr]
    exact ⟨rfl, fun h => by cases h⟩
  rw [if_pos hr, if_pos hr, if_pos hr, if_pos hr]
  have hT := (inB_iff.1 hr.1).1
  rcases best_par (T := T) (S := S) (hf hx) (hg hx) with ⟨h1, h2⟩ | ⟨h1, h2, ea, eb, oa, ob, h3, h4, pa, pb⟩
  · rw [if_pos h1, if_pos h2]
    exact ⟨rfl, fun h => by cases h⟩
  · rw [if_neg (by omega), if_neg (by omega), if_neg (by omega), if_neg (by omega)]
    refine ⟨rfl, fun _ => ?_⟩
    simp only [okP, Bool.and_eq_true, decide_eq_true_eq] at oa ob
    have na : (bestV xs T S f).1 ≠ [] := by
      intro h
      have := oa.1
      rw [h] at this
      have h0 : sumR Stuff.thick xs [] = 0 := rfl
      omega
    have nb : (bestV xs T S g).1 ≠ [] := by
      intro h
      have := ob.1
      rw [h] at this
      have h0 : sumR Stuff.thick xs [] = 0 := rfl
      omega
    exact ⟨sole_of hx na (bestV_len _ _ _ _) pa, sole_of hx nb (bestV_len _ _ _ _) pb, oa.1, ob.1, oa.2, ob.2, h3, h4⟩
end Go.Proofs.Ytefkfkdpfecnoaa
