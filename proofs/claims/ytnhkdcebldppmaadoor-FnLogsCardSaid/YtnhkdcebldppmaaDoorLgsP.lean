/- Sums over names: plain Lean. -/
import Derived.Test.YtnhkdcebldppmaaDoorLogB
import Derived.Test.YtnhkdcebldppmaaDoorLogI
import Derived.Test.YtnhkdcebldppmaaDoorLogJ
namespace Go.Proofs.YtnhkdcebldppmaaDoor
open Go.RowKit

theorem containsS_iff (out : List ByteArray) (x : ByteArray) : Lib.containsS out x = true ↔ x ∈ out := by
  rw [← any_contains, List.any_eq_true]
  constructor
  · rintro ⟨z, hz, h⟩
    rw [beq_iff_eq, bytes_eq_iff] at h
    subst h; exact hz
  · intro h
    exact ⟨x, h, by simp⟩
theorem namF_facts : ∀ (es : List Entry) (out : List ByteArray), out.Nodup → (es.foldl namSt out).Nodup ∧ (∀ t ∈ out, t ∈ es.foldl namSt out) ∧ (∀ x ∈ es, x.what ∈ es.foldl namSt out) ∧ (∀ t ∈ es.foldl namSt out, t ∈ out ∨ ∃ x ∈ es, x.what = t) := by
  intro es
  induction es with
  | nil => intro out h; exact ⟨h, fun t ht => ht, by simp, fun t ht => .inl ht⟩
  | cons x r ih =>
    intro out h
    have key : (namSt out x).Nodup ∧ (∀ t ∈ out, t ∈ namSt out x) ∧ x.what ∈ namSt out x ∧ (∀ t ∈ namSt out x, t ∈ out ∨ t = x.what) := by
      unfold namSt
      split
      · rename_i hc
        exact ⟨h, fun t ht => ht, (containsS_iff _ _).1 hc, fun t ht => .inl ht⟩
      · rename_i hc
        refine ⟨?_, fun t ht => by simp [ht], by simp, fun t ht => by simpa using ht⟩
        rw [List.nodup_append]
        refine ⟨h, by simp, ?_⟩
        intro a ha b hb e
        have hb' : b = x.what := by simpa using hb
        subst hb'
        subst e
        exact hc ((containsS_iff _ _).2 ha)
    obtain ⟨k1, k2, k3, k4⟩ := key
    obtain ⟨i1, i2, i3, i4⟩ := ih (namSt out x) k1
    refine ⟨i1, fun t ht => i2 t (k2 t ht), ?_, ?_⟩
    · intro y hy
      rcases List.mem_cons.1 hy with rfl | hy
      · exact i2 _ k3
      · exact i3 y hy
    · intro t ht
      rcases i4 t ht with h1 | ⟨y, hy, e⟩
      · rcases k4 t h1 with h2 | h2
        · exact .inl h2
        · exact .inr ⟨x, by simp, h2.symm⟩
      · exact .inr ⟨y, by simp [hy], e⟩
theorem namG_facts (es : List Entry) : (namG es).Nodup ∧ (∀ x ∈ es, x.what ∈ namG es) ∧ (∀ t ∈ namG es, ∃ x ∈ es, x.what = t) := by
  obtain ⟨h1, _, h3, h4⟩ := namF_facts es [] (by simp)
  refine ⟨h1, h3, fun t ht => ?_⟩
  rcases h4 t ht with h | h
  · cases h
  · exact h
def partS (g : Entry → Int) (t : ByteArray) (xs : List Entry) : Int := ((xs.filter fun x => x.what.toList == t.toList).map g).sum
theorem partS_cons (g : Entry → Int) (t : ByteArray) (x : Entry) (xs : List Entry) : partS g t (x :: xs) = (if x.what = t then g x else 0) + partS g t xs := by
  unfold partS
  by_cases h : x.what = t
  · rw [List.filter_cons_of_pos (by rw [beq_iff_eq, bytes_eq_iff]; exact h), if_pos h]; simp
  · rw [List.filter_cons_of_neg (by rw [beq_iff_eq, bytes_eq_iff]; exact h), if_neg h]; simp
theorem sum_two {α : Type} (a b : α → Int) : ∀ N : List α, (N.map fun t => a t + b t).sum = (N.map a).sum + (N.map b).sum := by
  intro N
  induction N with
  | nil => simp
  | cons t r ih => simp only [List.map_cons, List.sum_cons, ih]; omega
theorem sum_none (s : ByteArray) (c : Int) : ∀ N : List ByteArray, s ∉ N → (N.map fun t => if s = t then c else 0).sum = 0 := by
  intro N
  induction N with
  | nil => intro _; simp
  | cons t r ih =>
    intro h
    simp only [List.mem_cons, not_or] at h
    simp only [List.map_cons, List.sum_cons, ih h.2]
    rw [if_neg h.1]; omega
theorem sum_one (s : ByteArray) (c : Int) : ∀ N : List ByteArray, N.Nodup → s ∈ N → (N.map fun t => if s = t then c else 0).sum = c := by
  intro N
  induction N with
  | nil => intro _ h; cases h
  | cons t r ih =>
    intro hn hs
    rw [List.nodup_cons] at hn
    simp only [List.map_cons, List.sum_cons]
    by_cases e : s = t
    · subst e
      rw [if_pos rfl, sum_none s c r hn.1]; omega
    · rw [if_neg e, ih hn.2 (by rcases List.mem_cons.1 hs with h | h; exact absurd h e; exact h)]; omega
theorem part_all (g : Entry → Int) (N : List ByteArray) (hN : N.Nodup) : ∀ xs : List Entry, (∀ x ∈ xs, x.what ∈ N) → (N.map fun t => partS g t xs).sum = (xs.map g).sum := by
  intro xs
  induction xs with
  | nil =>
    intro _
    have h : ∀ N : List ByteArray, (N.map fun t => partS g t []).sum = 0 := by
      intro N
      induction N with
      | nil => rfl
      | cons t r ih => simp only [List.map_cons, List.sum_cons, ih]; rfl
    rw [h]; rfl
  | cons x r ih =>
    intro h
    have e : (fun t => partS g t (x :: r)) = fun t => (if x.what = t then g x else 0) + partS g t r := by funext t; exact partS_cons g t x r
    rw [e, sum_two, sum_one _ _ N hN (h x (by simp)), ih (fun y hy => h y (by simp [hy]))]
    simp
theorem valG_part (t : ByteArray) (xs : List Entry) : (valG t xs).sum = partS Entry.value t xs := rfl
theorem valG_count (t : ByteArray) (xs : List Entry) : ((valG t xs).length : Int) = partS (fun _ => 1) t xs := by
  unfold valG partS
  rw [List.length_map]
  generalize xs.filter _ = l
  induction l with
  | nil => rfl
  | cons a r ih => simp only [List.length_cons, List.map_cons, List.sum_cons, ← ih]; omega
theorem sumG_part {xs : List Entry} (he : ∀ x ∈ xs, entB x = true) (t : ByteArray) : ∀ a : Int, sumG t 0 100000 xs a = a + (valG t xs).sum := by
  induction xs with
  | nil => intro a; simp [sumG, valG]
  | cons x r ih =>
    intro a
    have hx := entB_bd (he x (by simp))
    have hd : inB x.day 0 100000 = true := inB_iff.2 ⟨hx.1, hx.2.1⟩
    have h2 := ih (fun y hy => he y (by simp [hy]))
    rw [valG_part, partS_cons, ← valG_part]
    simp only [sumG, hd, Bool.and_true]
    rw [h2]
    by_cases e : x.what = t
    · rw [if_pos (by rw [beq_iff_eq, bytes_eq_iff]; exact e), if_pos e]; omega
    · rw [if_neg (by rw [beq_iff_eq, bytes_eq_iff]; exact e), if_neg e]; omega
theorem valG_some {t : ByteArray} {xs : List Entry} (h : t ∈ namG xs) : 0 < (valG t xs).length := by
  obtain ⟨x, hx, e⟩ := (namG_facts xs).2.2 t h
  unfold valG
  rw [List.length_map, List.length_pos_iff_exists_mem]
  exact ⟨x, List.mem_filter.2 ⟨hx, by rw [beq_iff_eq, bytes_eq_iff]; exact e⟩⟩
theorem namG_name {t : ByteArray} {xs : List Entry} (he : ∀ x ∈ xs, entB x = true) (h : t ∈ namG xs) : nameB t = true := by
  obtain ⟨x, hx, e⟩ := (namG_facts xs).2.2 t h
  rw [← e]; exact entB_name (he x hx)
theorem namG_nil (xs : List Entry) : (namG xs).length = 0 ↔ xs.length = 0 := by
  constructor
  · intro h
    cases xs with
    | nil => rfl
    | cons x r =>
      have := (namG_facts (x :: r)).2.1 x (by simp)
      rw [List.eq_nil_of_length_eq_zero h] at this
      cases this
  · intro h
    rw [List.eq_nil_of_length_eq_zero h]; rfl
theorem log_sum (xs : List Entry) : ((namG xs).map fun t => (valG t xs).sum).sum = (xs.map (·.value)).sum :=
  part_all Entry.value _ (namG_facts xs).1 xs (namG_facts xs).2.1
theorem log_many (xs : List Entry) : ((namG xs).map fun t => ((valG t xs).length : Int)).sum = xs.length := by
  have h := part_all (fun _ => 1) _ (namG_facts xs).1 xs (namG_facts xs).2.1
  have e : (fun t => ((valG t xs).length : Int)) = fun t => partS (fun _ => 1) t xs := by funext t; exact valG_count t xs
  rw [e, h]
  clear h e
  induction xs with
  | nil => rfl
  | cons a r ih => simp only [List.map_cons, List.sum_cons, List.length_cons]; omega
end Go.Proofs.YtnhkdcebldppmaaDoor
