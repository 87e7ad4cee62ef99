/- What a log that is cut gives back: plain Lean. NOT BUILT YET. -/
import Derived.Test.YtnhkdcebldppmaaDoorLogB
import Derived.Test.YtnhkdcebldppmaaDoorLogF
namespace Go.Proofs.YtnhkdcebldppmaaDoor
open Go.RowKit

theorem dec_len : ∀ (k u : Nat), u < 10 ^ (k + 1) → (Lib.decDigits u).length ≤ k + 1 := by
  intro k
  induction k with
  | zero => intro u h; rw [Lib.decDigits_one (by omega)]; simp
  | succ k ih =>
    intro u h
    by_cases h10 : u < 10
    · rw [Lib.decDigits_one h10]; simp
    · rw [Lib.decDigits, dif_neg h10, List.length_append]
      have h2 : u / 10 < 10 ^ (k + 1) := Nat.div_lt_of_lt_mul (by rw [Nat.mul_comm, ← Nat.pow_succ]; exact h)
      have := ih (u / 10) h2
      simp only [List.length_cons, List.length_nil]
      omega
theorem itoa_len {v : Int} (h : v.natAbs < 10000000) : (Lib.itoa v).length ≤ 8 := by
  unfold Lib.itoa
  split
  · have := dec_len 6 v.natAbs (by omega)
    simp only [List.length_cons]; omega
  · have := dec_len 6 v.toNat (by omega)
    omega
theorem lin0_len {s : Int} {x : Entry} (h : entB x = true) (h0 : 0 ≤ s) (h1 : s ≤ 65518) : (lin0 s x).length ≤ 39 := by
  obtain ⟨d0, d1, v0, v1, ws⟩ := entB_bd h
  have a := itoa_len (v := x.day) (by omega)
  have b := itoa_len (v := x.value) (by omega)
  have c := itoa_len (v := s) (by omega)
  have e := bytes_len x.what
  simp only [lin0, List.intercalate]
  simp
  omega
theorem lines_len : ∀ (xs : List Entry) (s : Int), (∀ x ∈ xs, entB x = true) → (linesL xs s).length ≤ 40 * xs.length := by
  intro xs
  induction xs with
  | nil => intro s _; simp [linesL]
  | cons x r ih =>
    intro s h
    have h1 := ih (stp s x) (fun y hy => h y (by simp [hy]))
    have hb := stp_bd s x
    have h2 := lin0_len (h x (by simp)) hb.1 hb.2
    simp only [linesL, lineE_data, List.length_append, List.length_cons, List.length_nil]
    omega
theorem log_size (xs : List Entry) : (logGo xs 0 ⟨#[]⟩).size = (linesL xs 0).length := by
  rw [← bytes_len, logGo_data]; simp
theorem log_small {xs : List Entry} (h : ∀ x ∈ xs, entB x = true) (hl : xs.length ≤ 7) : (logGo xs 0 ⟨#[]⟩).size ≤ 280 := by
  have := lines_len xs 0 h
  rw [log_size]; omega
theorem lines_app : ∀ (xs ys : List Entry) (s : Int), linesL (xs ++ ys) s = linesL xs s ++ linesL ys (endS xs s) := by
  intro xs
  induction xs with
  | nil => intro ys s; simp [linesL, endS]
  | cons x r ih => intro ys s; simp only [List.cons_append, linesL, endS, ih, List.append_assoc]
theorem upGo_take : ∀ (xs : List Entry) (d : Int) (k : Nat), upGo d xs = true → upGo d (xs.take k) = true := by
  intro xs
  induction xs with
  | nil => intro d k h; simp [upGo]
  | cons x r ih =>
    intro d k h
    cases k with
    | zero => rfl
    | succ k =>
      simp only [List.take_succ_cons, upGo, Bool.and_eq_true] at h ⊢
      exact ⟨h.1, ih _ _ h.2⟩
/-- lines: each ends with the only newline that it has -/
theorem count_lines : ∀ (xs : List Entry) (s : Int), (∀ x ∈ xs, entB x = true) → (linesL xs s).count 10 = xs.length := by
  intro xs
  induction xs with
  | nil => intro s _; simp [linesL]
  | cons x r ih =>
    intro s h
    have hf := lin0_free (s := stp s x) (h x (by simp))
    simp only [linesL, lineE_data, List.count_append, ih _ (fun y hy => h y (by simp [hy])), List.count_eq_zero.2 hf, List.length_cons]
    simp
    omega
theorem step_m {l : List UInt8} {es : List Entry} {st : Int} {e : Entry} {m : Nat} (h : stepL l es st = some (e, m)) : nl10 l < l.length ∧ m = nl10 l + 1 := by
  unfold stepL at h
  split at h
  · rename_i hk
    split at h
    · split at h
      · simp only [Option.some.injEq, Prod.mk.injEq] at h
        exact ⟨hk, h.2.symm⟩
      · cases h
    · cases h
  · cases h
theorem nl10_take : ∀ (l : List UInt8) (k : Nat), nl10 l < l.length → nl10 l < k → nl10 (l.take k) = nl10 l := by
  intro l
  induction l with
  | nil => intro k h; simp at h
  | cons b r ih =>
    intro k h1 h2
    cases k with
    | zero => omega
    | succ k =>
      rw [List.take_succ_cons, nl10_cons, nl10_cons]
      rw [nl10_cons] at h1 h2
      split
      · rfl
      · rename_i hb
        rw [if_neg hb] at h1 h2
        rw [ih k (by simpa using h1) (by omega)]
theorem stepL_take {l : List UInt8} {es : List Entry} {st : Int} {e : Entry} {m k : Nat} (h : stepL l es st = some (e, m)) (hk : m ≤ k) : stepL (l.take k) es st = some (e, m) := by
  obtain ⟨h1, h2⟩ := step_m h
  have hn := nl10_take l k h1 (by omega)
  have ht : (l.take k).take (nl10 l) = l.take (nl10 l) := by rw [List.take_take, Nat.min_eq_left (by omega)]
  unfold stepL at h ⊢
  rw [hn, if_pos (by rw [List.length_take]; omega), ht]
  rw [if_pos h1] at h
  exact h
theorem rdF_ge : ∀ (f : Nat) (l : List UInt8) (es : List Entry) (st : Int) (p : Nat), p ≤ (rdF l f es st p).2.2 := by
  intro f
  induction f with
  | zero => intro l es st p; exact Nat.le_refl _
  | succ f ih =>
    intro l es st p
    rw [rdF]
    split
    · exact Nat.le_refl _
    · rename_i e m hs
      have := ih l (es ++ [e]) (stp st e) (p + m)
      omega
/-- the part that was read, read again, gives the same -/
theorem rdF_take : ∀ (f : Nat) (l : List UInt8) (es : List Entry) (st : Int) (p f' N : Nat) (es' : List Entry) (st' : Int), rdF l f es st p = (es', st', N) → N ≤ l.length → N - p < f' → rdF (l.take N) f' es st p = (es', st', N) := by
  intro f
  induction f with
  | zero =>
    intro l es st p f' N es' st' h hl hf
    simp only [rdF, Prod.mk.injEq] at h
    obtain ⟨rfl, rfl, rfl⟩ := h
    exact rdF_stop (by rw [List.drop_eq_nil_of_le (by rw [List.length_take]; omega)]; exact stepL_nil _ _)
  | succ f ih =>
    intro l es st p f' N es' st' h hl hf
    have hge := rdF_ge (f + 1) l es st p
    rw [h] at hge
    simp only [rdF] at h
    split at h
    · simp only [Prod.mk.injEq] at h
      obtain ⟨rfl, rfl, rfl⟩ := h
      exact rdF_stop (by rw [List.drop_eq_nil_of_le (by rw [List.length_take]; omega)]; exact stepL_nil _ _)
    · rename_i e m hs
      have hge2 := rdF_ge f l (es ++ [e]) (stp st e) (p + m)
      rw [h] at hge2
      dsimp only at hge2
      have hm := (step_m hs).2
      obtain ⟨f'', rfl⟩ : ∃ f'', f' = f'' + 1 := ⟨f' - 1, by omega⟩
      have hs2 : stepL ((l.take N).drop p) es st = some (e, m) := by
        rw [List.drop_take]
        exact stepL_take hs (by omega)
      rw [rdF_step hs2]
      exact ih l (es ++ [e]) (stp st e) (p + m) f'' N es' st' h hl (by omega)
theorem rdL_kept (s : ByteArray) : rdL (s.extract 0 (rdL s).2.2) = rdL s := by
  have hg := rdL_good s
  have hN : (rdL s).2.2 ≤ s.data.toList.length := by rw [bytes_len]; exact hg.le
  have hd : (s.extract 0 (rdL s).2.2).data.toList = s.data.toList.take (rdL s).2.2 := by
    simp
  have hz : (s.extract 0 (rdL s).2.2).size = (rdL s).2.2 := by rw [← bytes_len, hd, List.length_take]; omega
  have e : ∀ t : ByteArray, rdL t = rdF t.data.toList (t.size + 1) [] 0 0 := fun _ => rfl
  rw [e (s.extract 0 (rdL s).2.2), hd, hz]
  exact rdF_take (s.size + 1) s.data.toList [] 0 0 ((rdL s).2.2 + 1) (rdL s).2.2 (rdL s).1 (rdL s).2.1 rfl hN (by omega)
/-- an entry costs a newline -/
theorem rdF_count : ∀ (f : Nat) (l : List UInt8) (es : List Entry) (st : Int) (p : Nat), (rdF l f es st p).1.length + (l.drop (rdF l f es st p).2.2).count 10 ≤ es.length + (l.drop p).count 10 := by
  intro f
  induction f with
  | zero => intro l es st p; exact Nat.le_refl _
  | succ f ih =>
    intro l es st p
    rw [rdF]
    split
    · exact Nat.le_refl _
    · rename_i e m hs
      have h1 := ih l (es ++ [e]) (stp st e) (p + m)
      obtain ⟨hk, hm⟩ := step_m hs
      have h2 : (l.drop p).count 10 = ((l.drop p).take m).count 10 + (l.drop (p + m)).count 10 := by
        rw [← List.drop_drop, ← List.count_append, List.take_append_drop]
      have h3 : 1 ≤ ((l.drop p).take m).count 10 := by
        rw [hm, take_nl hk, List.count_append]
        simp
      rw [List.length_append] at h1
      simp only [List.length_cons, List.length_nil] at h1
      omega
theorem rdL_few10 (s : ByteArray) : (rdL s).1.length ≤ s.data.toList.count 10 := by
  have := rdF_count (s.size + 1) s.data.toList [] 0 0
  simp only [List.length_nil, List.drop_zero, Nat.zero_add] at this
  unfold rdL
  omega
end Go.Proofs.YtnhkdcebldppmaaDoor
