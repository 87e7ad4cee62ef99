/- Promises and delays, plain: what the orders that are worked on say of the late ones and of a promise. -/
import Derived.Test.YtggficacnmddiaaPromS
import Derived.Test.YtggficacnmddiaaWrkL
namespace Go.Proofs.Ytggficacnmddiaa
open Go.RowKit

def atL (xs : List Order) (o : List Int) (day : Int) : Int := o.foldl (fun a i => a + leftK xs i) day
theorem atL_snoc (xs : List Order) (o : List Int) (day i : Int) : atL xs (o ++ [i]) day = atL xs o day + leftK xs i := by simp [atL]
theorem most_mono (xs : List Order) : ∀ (o : List Int) (day m : Int), m ≤ mostGo xs o day m
  | [], _, _ => Int.le_refl _
  | i :: r, day, m => by
    have := most_mono xs r (day + leftK xs i) (max m (day + leftK xs i - dueK xs i))
    simp only [mostGo]
    omega
theorem most_ge (xs : List Order) : ∀ (p : List Int) (i : Int) (r : List Int) (day m : Int), atL xs (p ++ [i]) day - dueK xs i ≤ mostGo xs (p ++ i :: r) day m
  | [], i, r, day, m => by
    have := most_mono xs r (day + leftK xs i) (max m (day + leftK xs i - dueK xs i))
    simp only [List.nil_append, mostGo, atL, List.foldl_cons, List.foldl_nil]
    omega
  | y :: p, i, r, day, m => by
    have := most_ge xs p i r (day + leftK xs y) (max m (day + leftK xs y - dueK xs y))
    simpa only [List.cons_append, mostGo, atL, List.foldl_cons] using this
theorem delGo_out (xs : List Order) : ∀ (o : List Int) (day : Int) (out : List Int) (k : Nat), (∀ i ∈ o, 0 ≤ i ∧ i.toNat ≠ k) → (delGo xs o day out)[k]? = out[k]?
  | [], _, _, _, _ => rfl
  | i :: r, day, out, k, h => by
    simp only [delGo]
    rw [delGo_out xs r _ _ k (fun j hj => h j (List.mem_cons_of_mem _ hj)), List.getElem?_set_ne (h i (by simp)).2]
theorem delGo_at (xs : List Order) : ∀ (p : List Int) (i : Int) (r : List Int) (day : Int) (out : List Int), (p ++ i :: r).Nodup → (∀ j ∈ p ++ i :: r, 0 ≤ j) → i.toNat < out.length →
    (delGo xs (p ++ i :: r) day out)[i.toNat]? = some (max (atL xs (p ++ [i]) day - dueK xs i) 0)
  | [], i, r, day, out, hn, h0, hl => by
    simp only [List.nil_append, delGo, atL, List.foldl_cons, List.foldl_nil]
    have h1 := (List.nodup_cons.1 hn).1
    rw [delGo_out xs r _ _ _ (fun j hj => ⟨h0 j (List.mem_cons_of_mem _ hj), fun e => h1 (by
      have a := h0 j (List.mem_cons_of_mem _ hj)
      have b := h0 i (by simp)
      have : j = i := by omega
      rwa [← this])⟩), List.getElem?_set_self hl]
  | y :: p, i, r, day, out, hn, h0, hl => by
    have := delGo_at xs p i r (day + leftK xs y) (out.set y.toNat (max (day + leftK xs y - dueK xs y) 0)) (List.nodup_cons.1 hn).2 (fun j hj => h0 j (List.mem_cons_of_mem _ hj)) (by rw [List.length_set]; exact hl)
    simpa only [List.cons_append, delGo, atL, List.foldl_cons] using this
theorem posGo_mem : ∀ (l : List Int) (k : Nat) (z : Int), z ∈ posGo k l ↔ ∃ j v, z = ((k + j : Nat) : Int) ∧ l[j]? = some v ∧ 0 < v
  | [], k, z => by simp [posGo]
  | x :: r, k, z => by
    have ih := posGo_mem r (k + 1) z
    have key : (∃ j v, z = ((k + j : Nat) : Int) ∧ (x :: r)[j]? = some v ∧ 0 < v) ↔ (z = (k : Int) ∧ 0 < x) ∨ ∃ j v, z = ((k + 1 + j : Nat) : Int) ∧ r[j]? = some v ∧ 0 < v := by
      constructor
      · rintro ⟨j, v, h1, h2, h3⟩
        cases j with
        | zero =>
          have h4 : x = v := by simpa using h2
          exact .inl ⟨h1, by rw [h4]; exact h3⟩
        | succ j => exact .inr ⟨j, v, by rw [h1]; congr 1; omega, by simpa using h2, h3⟩
      · rintro (⟨h1, h2⟩ | ⟨j, v, h1, h2, h3⟩)
        · exact ⟨0, x, by simpa using h1, by simp, h2⟩
        · exact ⟨j + 1, v, by rw [h1]; congr 1; omega, by simpa using h2, h3⟩
    rw [key, ← ih]
    simp only [posGo]
    split
    · rename_i h
      simp [h]
    · rename_i h
      simp [h]
theorem maxL_pos : ∀ (l : List Int) (a : Int), 0 < maxL a l ↔ 0 < a ∨ ∃ v ∈ l, 0 < v
  | [], a => by simp [maxL]
  | x :: r, a => by
    have ih := maxL_pos r (max a x)
    have e : maxL a (x :: r) = maxL (max a x) r := rfl
    rw [e, ih]
    constructor
    · rintro (h | ⟨v, hv, h⟩)
      · by_cases h1 : 0 < a
        · exact .inl h1
        · exact .inr ⟨x, by simp, by omega⟩
      · exact .inr ⟨v, by simp [hv], h⟩
    · rintro (h | ⟨v, hv, h⟩)
      · exact .inl (by omega)
      · rcases List.mem_cons.1 hv with rfl | hv
        · exact .inl (by omega)
        · exact .inr ⟨v, hv, h⟩
theorem late_iff (xs : List Order) (day : Int) : 0 < mostGo xs (workL xs) day 0 ↔ 0 < (posGo 0 (delays xs day)).length := by
  rw [← most_delays, maxL_pos]
  constructor
  · rintro (h | ⟨v, hv, h⟩)
    · omega
    · obtain ⟨j, hj⟩ := List.mem_iff_getElem?.1 hv
      exact List.length_pos_of_mem ((posGo_mem _ 0 _).2 ⟨j, v, rfl, hj, h⟩)
  · intro h
    obtain ⟨z, hz⟩ := List.exists_mem_of_length_pos h
    obtain ⟨j, v, _, h2, h3⟩ := (posGo_mem _ 0 z).1 hz
    exact .inr ⟨v, List.mem_of_getElem? h2, h3⟩
theorem workL_nodup (xs : List Order) : (workL xs).Nodup := (srtI_perm _ _).nodup_iff.2 (idxL_nodup xs)
theorem workL_left {xs : List Order} {k : Nat} {x : Order} (h : (k : Int) ∈ workL xs) (hx : xs[k]? = some x) : 1 ≤ x.left := by
  obtain ⟨j, y, h1, h2, h3⟩ := idxGo_mem xs 0 _ ((srtI_perm _ _).mem_iff.1 h)
  have : j = k := by omega
  subst this
  rw [hx] at h2
  injection h2 with h2
  subst h2
  omega
theorem workL_due {xs : List Order} {j : Nat} {y z : Int} (h1 : (workL xs)[j]? = some y) (h2 : (workL xs)[j + 1]? = some z) : dueK xs y ≤ dueK xs z := by
  have h := srtI_lx (key := dueK xs) (idxL_nodup xs)
  have h3 : lexL (dueK xs) y z := by
    obtain ⟨a1, e1⟩ := List.getElem?_eq_some_iff.1 h1
    obtain ⟨a2, e2⟩ := List.getElem?_eq_some_iff.1 h2
    have := (List.pairwise_iff_getElem.1 h) j (j + 1) a1 a2 (by omega)
    rw [← e1, ← e2]
    exact this
  exact lexL_le h3
theorem take_split {l : List Int} {j : Nat} {z : Int} (h : l[j]? = some z) : l = l.take j ++ z :: l.drop (j + 1) := by
  rw [← drop_at h, List.take_append_drop]
theorem work_at {xs : List Order} {day : Int} {j k : Nat} (h : (workL xs)[j]? = some (k : Int)) :
    atL xs ((workL xs).take (j + 1)) day = atL xs ((workL xs).take j) day + leftK xs k ∧
    atL xs ((workL xs).take (j + 1)) day - dueK xs k ≤ mostGo xs (workL xs) day 0 ∧
    (dueK xs k < atL xs ((workL xs).take (j + 1)) day ↔ (k : Int) ∈ posGo 0 (delays xs day)) := by
  have e := take_split h
  have et : (workL xs).take (j + 1) = (workL xs).take j ++ [(k : Int)] := take_at h
  refine ⟨by rw [et, atL_snoc], ?_, ?_⟩
  · have := most_ge xs ((workL xs).take j) k ((workL xs).drop (j + 1)) day 0
    rw [← e, ← et] at this
    exact this
  · obtain ⟨k', x, h1, h2⟩ := workL_inR xs _ (List.mem_of_getElem? h)
    have hk : k' = k := by omega
    subst hk
    have hl := (List.getElem?_eq_some_iff.1 h2).1
    have hd := delGo_at xs ((workL xs).take j) k' ((workL xs).drop (j + 1)) day (List.replicate xs.length 0) (by rw [← e]; exact workL_nodup xs) (by
      rw [← e]
      intro z hz
      obtain ⟨k2, _, h3, _⟩ := workL_inR xs z hz
      omega) (by simpa using hl)
    rw [← e, ← et] at hd
    have hd2 : (delays xs day)[k']? = some (max (atL xs ((workL xs).take (j + 1)) day - dueK xs k') 0) := by simpa [delays] using hd
    rw [posGo_mem]
    constructor
    · intro hlt
      exact ⟨k', _, by simp, hd2, by omega⟩
    · rintro ⟨j', v, h3, h4, h5⟩
      have : j' = k' := by omega
      subst this
      rw [hd2] at h4
      injection h4 with h4
      omega
theorem canGo_ge (xs : List Order) (days due : Int) : ∀ (o : List Int) (a : Int), (∀ i ∈ o, 0 ≤ leftK xs i) → canGo xs days due o a false = true → a + days ≤ due
  | [], a, _, h => by simpa [canGo] using h
  | i :: r, a, h0, h => by
    have hi := h0 i (by simp)
    simp only [canGo] at h
    split at h
    · simp only [Bool.and_eq_true, decide_eq_true_eq] at h
      exact h.1
    · simp only [Bool.and_eq_true] at h
      have := canGo_ge xs days due r _ (fun j hj => h0 j (List.mem_cons_of_mem _ hj)) h.2
      omega
theorem promGo_ok (can : Int → Bool) : ∀ (n : Nat) (d : Int), (promGo can n d).2 = 0 → can (promGo can n d).1 = true ∧ d ≤ (promGo can n d).1 ∧ (promGo can n d).1 < d + n
  | 0, d, h => by simp [promGo] at h
  | n + 1, d, h => by
    simp only [promGo] at h ⊢
    split
    · rename_i h1
      exact ⟨h1, Int.le_refl _, by simp only; omega⟩
    · rename_i h1
      rw [if_neg h1] at h
      obtain ⟨a, b, c⟩ := promGo_ok can n (d + 1) h
      exact ⟨a, by omega, by omega⟩
theorem prom_facts {xs : List Order} {day days : Int} (h : prC xs day days = 0) : codeD xs day = 0 ∧ 1 ≤ days ∧ days ≤ 100 ∧ canGo xs days (prV xs day days) (workL xs) day false = true ∧ day ≤ prV xs day days ∧ prV xs day days ≤ 10000 ∧ day + days ≤ prV xs day days := by
  unfold prC at h
  split at h
  case isFalse h1 => exact absurd h h1
  case isTrue h1 =>
    have h2 := h1
    unfold codeP at h2
    split at h2
    case isFalse h3 => exact absurd h2 h3
    case isTrue h3 =>
      split at h2
      case isFalse => cases h2
      case isTrue h4 =>
        obtain ⟨d0, d1⟩ := inB_iff.1 h4
        obtain ⟨ho, g0, g1⟩ := codeD_ok h3
        obtain ⟨a, b, c⟩ := promGo_ok _ _ _ h
        have e : prV xs day days = (promP xs day days).1 := by unfold prV; rw [if_pos h1]
        have ha : canGo xs days (prV xs day days) (workL xs) day false = true := by rw [e]; exact a
        have hge := canGo_ge xs days _ _ _ (fun i hi => by
          obtain ⟨k, x, e1, e2⟩ := workL_inR xs i hi
          subst e1
          have := order_facts ho e2
          omega) ha
        rw [e] at ha hge ⊢
        unfold promP at hge ⊢
        exact ⟨h3, d0, d1, ha, b, by omega, hge⟩
end Go.Proofs.Ytggficacnmddiaa
