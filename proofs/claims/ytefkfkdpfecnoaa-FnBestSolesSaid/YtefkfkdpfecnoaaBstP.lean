/- The best sole: all soles in order, with and without the branches that cannot succeed; plain Lean. -/
import Derived.Test.YtefkfkdpfecnoaaSolT
namespace Go.Proofs.Ytefkfkdpfecnoaa

abbrev Bst := List Int × Int
def okP (xs : List Stuff) (T S : Int) (ps : List Int) : Bool := decide (sumR Stuff.thick xs ps = T) && decide (sumR Stuff.stiff xs ps ≤ S)
def updB (xs : List Stuff) (T S : Int) (f : Stuff → Int) (ps : List Int) (st : Bst) : Bst :=
  if okP xs T S ps = true ∧ (st.2 < 0 ∨ sumR f xs ps < st.2) then (ps, sumR f xs ps) else st
def iterB (g : Nat → Bst → Bst) : Nat → Nat → Bst → Bst
  | _, 0, s => s
  | k, m + 1, s => iterB g (k + 1) m (g k s)
def firstN (ps : List Int) : Nat := match ps.getLast? with | some k => k.toNat | none => 0
def seeB (xs : List Stuff) (T S : Int) (f : Stuff → Int) (ps : List Int) (st : Bst) : Bst := if ps = [] then st else updB xs T S f ps st
def goI (xs : List Stuff) (T S : Int) (f : Stuff → Int) : Nat → List Int → Bst → Bst
  | 0, ps, st => seeB xs T S f ps st
  | d + 1, ps, st => iterB (fun k s => goI xs T S f d (ps ++ [(k : Int)]) s) (firstN ps) (xs.length - firstN ps) (seeB xs T S f ps st)
def deadP (xs : List Stuff) (T S : Int) (ps : List Int) : Prop := T < sumR Stuff.thick xs ps ∨ S < sumR Stuff.stiff xs ps
instance (xs : List Stuff) (T S : Int) (ps : List Int) : Decidable (deadP xs T S ps) := inferInstanceAs (Decidable (_ ∨ _))
def goS (xs : List Stuff) (T S : Int) (f : Stuff → Int) : Nat → List Int → Bst → Bst
  | 0, ps, st => if deadP xs T S ps then st else updB xs T S f ps st
  | d + 1, ps, st => if deadP xs T S ps then st else iterB (fun k s => goS xs T S f d (ps ++ [(k : Int)]) s) (firstN ps) (xs.length - firstN ps) (updB xs T S f ps st)
theorem iterB_id {g : Nat → Bst → Bst} (h : ∀ k s, g k s = s) : ∀ (m k : Nat) (s : Bst), iterB g k m s = s := by
  intro m
  induction m with
  | zero => intro k s; rfl
  | succ m ih => intro k s; simp only [iterB, h]; exact ih _ _
theorem iterB_congr {g g' : Nat → Bst → Bst} (h : ∀ k s, g k s = g' k s) : ∀ (m k : Nat) (s : Bst), iterB g k m s = iterB g' k m s := by
  intro m
  induction m with
  | zero => intro k s; rfl
  | succ m ih => intro k s; simp only [iterB, h]; exact ih _ _
theorem sumS_append (f : Stuff → Int) (xs : List Stuff) : ∀ (ps qs : List Int) (a : Int), sumS f xs (ps ++ qs) a = sumS f xs qs (sumS f xs ps a)
  | [], _, _ => rfl
  | k :: r, qs, a => by simp only [List.cons_append, sumS]; exact sumS_append f xs r qs _
theorem sumR_grows {f : Stuff → Int} {xs : List Stuff} (h : fewS f xs) (ps : List Int) (k : Int) : sumR f xs ps ≤ sumR f xs (ps ++ [k]) := by
  unfold sumR
  rw [sumS_append]
  exact (sumS_bd h [k] _).1
theorem dead_grows {xs : List Stuff} (hx : stuffsB xs = true) {T S : Int} {ps : List Int} (h : deadP xs T S ps) (k : Int) : deadP xs T S (ps ++ [k]) := by
  have h1 := few_stuff hx
  have a := sumR_grows h1.1 ps k
  have b := sumR_grows h1.2.2.1 ps k
  unfold deadP at *
  omega
theorem dead_not {xs : List Stuff} {T S : Int} {f : Stuff → Int} {ps : List Int} (h : deadP xs T S ps) (st : Bst) : updB xs T S f ps st = st := by
  unfold updB
  rw [if_neg]
  intro h1
  have h2 := h1.1
  simp only [okP, Bool.and_eq_true, decide_eq_true_eq] at h2
  unfold deadP at h
  omega
theorem goI_dead {xs : List Stuff} (hx : stuffsB xs = true) {T S : Int} {f : Stuff → Int} : ∀ (d : Nat) (ps : List Int), deadP xs T S ps → ∀ st, goI xs T S f d ps st = st := by
  intro d
  induction d with
  | zero =>
    intro ps h st
    simp only [goI, seeB]
    split
    · rfl
    · exact dead_not h st
  | succ d ih =>
    intro ps h st
    have h1 : seeB xs T S f ps st = st := by
      unfold seeB
      split
      · rfl
      · exact dead_not h st
    simp only [goI]
    rw [h1]
    exact iterB_id (fun k s => ih _ (dead_grows hx h k) s) _ _ _
theorem see_eq {xs : List Stuff} {T S : Int} (hT : 1 ≤ T) {f : Stuff → Int} (ps : List Int) (st : Bst) : seeB xs T S f ps st = updB xs T S f ps st := by
  unfold seeB
  split
  case isTrue h =>
    subst h
    unfold updB
    rw [if_neg]
    intro h1
    have h2 := h1.1
    simp only [okP, Bool.and_eq_true, decide_eq_true_eq] at h2
    have h3 : sumR Stuff.thick xs [] = 0 := rfl
    omega
  case isFalse => rfl
theorem goI_goS {xs : List Stuff} (hx : stuffsB xs = true) {T S : Int} (hT : 1 ≤ T) {f : Stuff → Int} : ∀ (d : Nat) (ps : List Int) (st : Bst), goI xs T S f d ps st = goS xs T S f d ps st := by
  intro d
  induction d with
  | zero =>
    intro ps st
    by_cases h : deadP xs T S ps
    · rw [goI_dead hx 0 ps h]; simp only [goS]; rw [if_pos h]
    · simp only [goI, goS]; rw [if_neg h, see_eq hT]
  | succ d ih =>
    intro ps st
    by_cases h : deadP xs T S ps
    · rw [goI_dead hx (d + 1) ps h]; simp only [goS]; rw [if_pos h]
    · simp only [goI, goS]
      rw [if_neg h, see_eq hT]
      exact iterB_congr (fun k s => ih _ _) _ _ _
def bestV (xs : List Stuff) (T S : Int) (f : Stuff → Int) : Bst := goI xs T S f 6 [] ([], -1)
def bestL (xs : List Stuff) (T S : Int) (f : Stuff → Int) : List Int :=
  if stuffsB xs = true then (if inB T 1 1200 = true ∧ inB S 0 6000 = true then (if (bestV xs T S f).2 < 0 then [] else (bestV xs T S f).1) else []) else []
def bestC (xs : List Stuff) (T S : Int) (f : Stuff → Int) : Int :=
  if stuffsB xs = true then (if inB T 1 1200 = true ∧ inB S 0 6000 = true then (if (bestV xs T S f).2 < 0 then 3 else 0) else 2) else 1
theorem firstN_append (ps : List Int) (k : Nat) : firstN (ps ++ [(k : Int)]) = k := by simp [firstN]
/-- plies of stuffs that are there -/
def plyOk (xs : List Stuff) (ps : List Int) : Prop := ∀ k ∈ ps, 0 ≤ k ∧ k < xs.length
theorem plyOk_append {xs : List Stuff} {ps : List Int} (h : plyOk xs ps) {k : Nat} (hk : k < xs.length) : plyOk xs (ps ++ [(k : Int)]) := by
  intro x hx
  rcases List.mem_append.1 hx with hx | hx
  · exact h x hx
  · simp at hx; omega
theorem sole_of {xs : List Stuff} {ps : List Int} (hx : stuffsB xs = true) (h1 : ps ≠ []) (h6 : ps.length ≤ 6) (h : plyOk xs ps) : soleB xs ps = true := by
  have h0 : 0 < ps.length := List.length_pos_iff.2 h1
  simp only [soleB, Bool.and_eq_true, decide_eq_true_eq, List.all_eq_true, inB_iff]
  exact ⟨⟨hx, by omega, h6⟩, fun k hk => by have := h k hk; omega⟩
theorem firstN_lt {xs : List Stuff} {ps : List Int} (h : plyOk xs ps) (h0 : ps ≠ []) : firstN ps < xs.length ∧ ps[ps.length - 1]? = some (firstN ps : Int) := by
  obtain ⟨k, hk⟩ : ∃ k, ps.getLast? = some k := ⟨_, List.getLast?_eq_some_getLast h0⟩
  have hb := h k (List.mem_of_getLast? hk)
  have hf : firstN ps = k.toNat := by unfold firstN; rw [hk]
  rw [hf]
  refine ⟨by omega, ?_⟩
  rw [← List.getLast?_eq_getElem?, hk, Int.toNat_of_nonneg hb.1]
theorem best_range {xs : List Stuff} {T S : Int} {f : Stuff → Int} (ps : List Int) {st : Bst} (h : plyOk xs st.1 ∧ st.1.length ≤ 6) (hp : plyOk xs ps) (h6 : ps.length ≤ 6) : plyOk xs (updB xs T S f ps st).1 ∧ (updB xs T S f ps st).1.length ≤ 6 := by
  unfold updB
  split
  · exact ⟨hp, h6⟩
  · exact h
theorem iterB_len {g : Nat → Bst → Bst} (h : ∀ k s, s.1.length ≤ 6 → (g k s).1.length ≤ 6) : ∀ (m k : Nat) (s : Bst), s.1.length ≤ 6 → (iterB g k m s).1.length ≤ 6 := by
  intro m
  induction m with
  | zero => intro k s hs; exact hs
  | succ m ih => intro k s hs; exact ih _ _ (h k s hs)
theorem see_len {xs : List Stuff} {T S : Int} {f : Stuff → Int} {ps : List Int} {st : Bst} (h6 : ps.length ≤ 6) (h : st.1.length ≤ 6) : (seeB xs T S f ps st).1.length ≤ 6 := by
  unfold seeB updB
  repeat' split
  all_goals assumption
theorem goI_len {xs : List Stuff} {T S : Int} {f : Stuff → Int} : ∀ (d : Nat) (ps : List Int) (st : Bst), ps.length + d ≤ 6 → st.1.length ≤ 6 → (goI xs T S f d ps st).1.length ≤ 6 := by
  intro d
  induction d with
  | zero => intro ps st h6 h; exact see_len (by omega) h
  | succ d ih =>
    intro ps st h6 h
    simp only [goI]
    exact iterB_len (fun k s hs => ih _ _ (by rw [List.length_append]; simp; omega) hs) _ _ _ (see_len (by omega) h)
theorem bestV_len (xs : List Stuff) (T S : Int) (f : Stuff → Int) : (bestV xs T S f).1.length ≤ 6 := goI_len 6 [] _ (by simp) (by simp)
end Go.Proofs.Ytefkfkdpfecnoaa
