/- What LogOf writes is read back; a log that is cut off gives a beginning of its entries: plain Lean. -/
import Derived.Test.YtnhkdcebldppmaaDoorLogR
import Derived.Test.YtnhkdcebldppmaaDoorSplP
namespace Go.Proofs.YtnhkdcebldppmaaDoor
open Go.RowKit

theorem free10 {l : List UInt8} (h : l.all (fun b => isDig b || decide (b = 45)) = true) : (10 : UInt8) ∉ l := by
  intro hm
  have := List.all_eq_true.1 h _ hm
  revert this; decide
theorem itoa_free10 (v : Int) : (10 : UInt8) ∉ Lib.itoa v := by
  have h := itoa_bare v
  have hd := (dig_all v.natAbs).1
  have key : ∀ l : List UInt8, l.all isDig = true → (10 : UInt8) ∉ l := by
    intro l hl hm
    have := List.all_eq_true.1 hl _ hm
    revert this; decide
  intro hm
  rw [← h.1] at hd
  cases hv : Lib.itoa v with
  | nil => rw [hv] at hm; cases hm
  | cons c r =>
    rw [hv] at hm hd
    simp only [bare] at hd
    split at hd
    · rename_i hc
      rcases List.mem_cons.1 hm with h1 | h1
      · rw [hc] at h1; revert h1; decide
      · exact key _ hd h1
    · exact key _ hd hm
theorem name_free10 {s : ByteArray} (h : nameB s = true) : (10 : UInt8) ∉ s.data.toList := by
  intro hm
  simp only [nameB, nameL, Bool.and_eq_true] at h
  have := List.all_eq_true.1 h.2 _ hm
  revert this; decide
theorem entB_name {x : Entry} (h : entB x = true) : nameB x.what = true := by
  simp only [entB, Bool.and_eq_true] at h
  exact h.1.2
/-- a line without its newline -/
def lin0 (s : Int) (x : Entry) : List UInt8 := [32].intercalate [Lib.itoa x.day, x.what.data.toList, Lib.itoa x.value, Lib.itoa s]
theorem lineE_data (s : Int) (x : Entry) : (lineE s x).data.toList = lin0 s x ++ [10] := by
  simp only [lineE, wordsB, decI, bytes_app]
  simp [lin0, List.intercalate]
theorem lin0_free {s : Int} {x : Entry} (h : entB x = true) : (10 : UInt8) ∉ lin0 s x := by
  have hn := name_free10 (entB_name h)
  have h1 := itoa_free10 x.day
  have h2 := itoa_free10 x.value
  have h3 := itoa_free10 s
  rw [Array.mem_toList_iff] at hn
  simp only [lin0, List.intercalate]
  simp
  exact ⟨h1, hn, h2, h3⟩
theorem nl10_app : ∀ (l r : List UInt8), (10 : UInt8) ∉ l → nl10 (l ++ 10 :: r) = l.length := by
  intro l
  induction l with
  | nil => intro r _; rw [List.nil_append, nl10_cons, if_pos rfl]; rfl
  | cons b t ih =>
    intro r h
    simp only [List.mem_cons, not_or] at h
    rw [List.cons_append, nl10_cons, if_neg (fun e => h.1 e.symm), ih r h.2, List.length_cons]
theorem linE_lin0 {s : Int} {x : Entry} (h : entB x = true) (h0 : 0 ≤ s) (h1 : s ≤ 65518) : linE (lin0 s x) = some (x, s) := by
  obtain ⟨d0, d1, v0, v1, _⟩ := entB_bd h
  have hs : spl 32 (lin0 s x) = [Lib.itoa x.day, x.what.data.toList, Lib.itoa x.value, Lib.itoa s] := by
    refine spl_inter _ (by simp) ?_
    intro p hp
    simp only [List.mem_cons, List.not_mem_nil, or_false] at hp
    rcases hp with rfl | rfl | rfl | rfl
    · exact itoa_free _
    · exact name_free (entB_name h)
    · exact itoa_free _
    · exact itoa_free _
  have e1 := okN_itoa (v := x.day) (by omega) (by omega)
  have e2 := okN_itoa (v := x.value) (by omega) (by omega)
  have e3 := okN_itoa (v := s) (by omega) (by omega)
  have hx : (⟨numL (Lib.itoa x.day), ⟨x.what.data.toList.toArray⟩, numL (Lib.itoa x.value)⟩ : Entry) = x := by
    rw [(itoa_bare _).2, (itoa_bare _).2]
  unfold linE
  rw [hs]
  simp only [e1, e2, e3, hx, h, Bool.and_self, if_true, (itoa_bare s).2]
theorem step_line {es : List Entry} {st : Int} {x : Entry} (hx : entB x = true) (hd : lastD es ≤ x.day) (r : List UInt8) : stepL ((lineE (stp st x) x).data.toList ++ r) es st = some (x, (lineE (stp st x) x).size) := by
  have hb := stp_bd st x
  have hl := lineE_data (stp st x) x
  have hz : (lineE (stp st x) x).size = (lin0 (stp st x) x).length + 1 := by rw [← bytes_len, hl]; simp
  have hn : nl10 ((lineE (stp st x) x).data.toList ++ r) = (lin0 (stp st x) x).length := by
    rw [hl, List.append_assoc]
    exact nl10_app _ r (lin0_free hx)
  unfold stepL
  rw [hn, if_pos (by rw [hl]; simp)]
  have ht : ((lineE (stp st x) x).data.toList ++ r).take (lin0 (stp st x) x).length = lin0 (stp st x) x := by rw [hl, List.append_assoc, List.take_left]
  rw [ht, linE_lin0 hx hb.1 hb.2]
  simp only []
  rw [if_pos (by exact ⟨hd, trivial⟩), hz]
def linesL : List Entry → Int → List UInt8
  | [], _ => []
  | x :: r, s => (lineE (stp s x) x).data.toList ++ linesL r (stp s x)
def endS : List Entry → Int → Int
  | [], s => s
  | x :: r, s => endS r (stp s x)
theorem logGo_data : ∀ (xs : List Entry) (s : Int) (a : ByteArray), (logGo xs s a).data.toList = a.data.toList ++ linesL xs s := by
  intro xs
  induction xs with
  | nil => intro s a; simp [logGo, linesL]
  | cons x r ih =>
    intro s a
    simp only [logGo, linesL]
    rw [ih, bytes_app, List.append_assoc]
theorem lines_few : ∀ (xs : List Entry) (s : Int), xs.length ≤ (linesL xs s).length := by
  intro xs
  induction xs with
  | nil => intro s; simp
  | cons x r ih =>
    intro s
    have h1 := ih (stp s x)
    have hl := lineE_data (stp s x) x
    simp only [linesL, List.length_append, List.length_cons, hl, List.length_nil]
    omega
theorem stepL_nil (es : List Entry) (st : Int) : stepL [] es st = none := by unfold stepL; rw [if_neg (by simp)]
theorem rdF_lines : ∀ (xs : List Entry) (l : List UInt8) (f : Nat) (es : List Entry) (st : Int) (n : Nat), l.drop n = linesL xs st → (∀ x ∈ xs, entB x = true) → upGo (lastD es) xs = true → xs.length ≤ f →
    rdF l f es st n = (es ++ xs, endS xs st, n + (linesL xs st).length) := by
  intro xs
  induction xs with
  | nil =>
    intro l f es st n hl _ _ _
    rw [rdF_stop (by rw [hl]; exact stepL_nil es st)]
    simp [endS, linesL]
  | cons x r ih =>
    intro l f es st n hl he hu hf
    simp only [upGo, Bool.and_eq_true, decide_eq_true_eq] at hu
    obtain ⟨f', rfl⟩ : ∃ f', f = f' + 1 := ⟨f - 1, by simp at hf; omega⟩
    have hs := step_line (es := es) (st := st) (he x (by simp)) hu.1 (linesL r (stp st x))
    have hl2 : l.drop (n + (lineE (stp st x) x).size) = linesL r (stp st x) := by
      rw [← List.drop_drop, hl]
      simp only [linesL]
      rw [List.drop_left' (by rw [bytes_len])]
    rw [rdF_step (by rw [hl]; exact hs), ih l f' (es ++ [x]) (stp st x) _ hl2 (fun y hy => he y (by simp [hy])) (by rw [lastD_snoc]; exact hu.2) (by simpa using hf)]
    simp only [endS, linesL, List.length_append, bytes_len]
    rw [List.append_assoc, Nat.add_assoc]
    rfl
theorem upB_go {xs : List Entry} (h : upB xs = true) (he : ∀ x ∈ xs, entB x = true) : upGo 0 xs = true := by
  cases xs with
  | nil => rfl
  | cons x r =>
    have hx := entB_bd (he x (by simp))
    simp only [upB] at h
    simp only [upGo, h, Bool.and_true, decide_eq_true_eq]
    exact hx.1
/-- what LogOf writes is read back -/
theorem rdL_log {xs : List Entry} (he : ∀ x ∈ xs, entB x = true) (hu : upB xs = true) : rdL (logGo xs 0 ⟨#[]⟩) = (xs, endS xs 0, (logGo xs 0 ⟨#[]⟩).size) := by
  have hd := logGo_data xs 0 ⟨#[]⟩
  have hz : (logGo xs 0 ⟨#[]⟩).size = (linesL xs 0).length := by rw [← bytes_len, hd]; simp
  unfold rdL
  rw [rdF_lines xs _ _ [] 0 0 (by rw [List.drop_zero, hd]; rfl) he (upB_go hu he) (by rw [hz]; have := lines_few xs 0; omega)]
  rw [hz]
  simp
end Go.Proofs.YtnhkdcebldppmaaDoor
