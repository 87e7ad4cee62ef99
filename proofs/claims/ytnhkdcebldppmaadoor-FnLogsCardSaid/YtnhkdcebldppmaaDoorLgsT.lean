/- The plain law of FnLogs. -/
import Derived.Test.YtnhkdcebldppmaaDoorLgsR
import Derived.Test.YtnhkdcebldppmaaDoorLogC
namespace Go.Proofs.YtnhkdcebldppmaaDoor
open Go.RowKit

theorem bytes_ext {s t : ByteArray} (h : s.data.toList = t.data.toList) : s = t := by
  cases s; cases t
  simp only [ByteArray.mk.injEq]
  exact Array.toList_inj.1 h
theorem upB_take {xs : List Entry} (h : upB xs = true) (k : Nat) : upB (xs.take k) = true := by
  cases xs with
  | nil => simp [upB]
  | cons x r =>
    cases k with
    | zero => rfl
    | succ k => exact upGo_take r x.day k h
theorem upGo_last : ∀ (xs : List Entry) (d : Int) (es : List Entry) (k : Nat) (x : Entry), upGo d xs = true → lastD es = d → xs[k]? = some x → lastD (es ++ xs.take k) ≤ x.day := by
  intro xs
  induction xs with
  | nil => intro d es k x _ _ hx; simp at hx
  | cons y r ih =>
    intro d es k x h hd hx
    simp only [upGo, Bool.and_eq_true, decide_eq_true_eq] at h
    cases k with
    | zero =>
      simp only [List.getElem?_cons_zero, Option.some.injEq] at hx
      subst hx
      simp only [List.take_zero, List.append_nil, hd]
      exact h.1
    | succ k =>
      have h2 := ih y.day (es ++ [y]) k x h.2 (lastD_snoc es y) (by simpa using hx)
      rw [List.append_assoc] at h2
      simpa using h2
def logK (xs : List Entry) (k : Nat) : ByteArray := logGo (xs.take k) 0 ⟨#[]⟩
theorem logK_data (xs : List Entry) (k : Nat) : (logK xs k).data.toList = linesL (xs.take k) 0 := by
  unfold logK
  rw [logGo_data]; rfl
theorem logK_zero (xs : List Entry) : logK xs 0 = ⟨#[]⟩ := by simp [logK, logGo]
theorem logK_all {xs : List Entry} (he : ∀ x ∈ xs, entB x = true) (hu : upB xs = true) (hl : xs.length ≤ 7) : logK xs xs.length = logV xs := by
  have h2 := log_small he hl
  unfold logK logV
  rw [List.take_length, if_pos (List.all_eq_true.2 he), if_pos hu, if_pos (by omega)]
section
variable {xs : List Entry}
theorem logK_size (he : ∀ x ∈ xs, entB x = true) (hl : xs.length ≤ 7) (k : Nat) : (logK xs k).size ≤ 280 :=
  log_small (fun x hx => he x (List.mem_of_mem_take hx)) (by rw [List.length_take]; omega)
theorem logK_next {k : Nat} {x : Entry} (hx : xs[k]? = some x) : logK xs (k + 1) = logK xs k ++ lineE (stp (endS (xs.take k) 0) x) x := by
  apply bytes_ext
  rw [bytes_app, logK_data, logK_data, take_at hx, lines_app]
  simp [linesL]
/-- what AddEntry gives at each step -/
theorem log_step (he : ∀ x ∈ xs, entB x = true) (hu : upB xs = true) (hl : xs.length ≤ 7) {k : Nat} {x : Entry} (hx : xs[k]? = some x) : addV (logK xs k) x = (logK xs (k + 1), 0) := by
  have hr : rdL (logK xs k) = (xs.take k, endS (xs.take k) 0, (logK xs k).size) := rdL_log (fun x hx => he x (List.mem_of_mem_take hx)) (upB_take hu k)
  have hz := logK_size he hl k
  have hz2 := logK_size he hl (k + 1)
  have hc : cdL (logK xs k) = 0 := cdL_ok (by omega) (by rw [hr])
  have hd : lastD (xs.take k) ≤ x.day := by
    have := upGo_last xs 0 [] k x (upB_go hu he) rfl hx
    simpa using this
  rw [addV_ok hc hr, logK_next hx]
  rw [logK_next hx] at hz2
  exact addR_yes (he x (List.mem_of_getElem? hx)) (by omega) (by omega)
theorem logK_pre {k : Nat} : ∃ r, linesL xs 0 = (logK xs k).data.toList ++ r :=
  ⟨linesL (xs.drop k) (endS (xs.take k) 0), by rw [logK_data, ← lines_app, List.take_append_drop]⟩
theorem logV_data (he : ∀ x ∈ xs, entB x = true) (hu : upB xs = true) (hl : xs.length ≤ 7) : (logV xs).data.toList = linesL xs 0 := by
  rw [← logK_all he hu hl, logK_data, List.take_length]
theorem log_pre (he : ∀ x ∈ xs, entB x = true) (hu : upB xs = true) (hl : xs.length ≤ 7) (k : Nat) : (logK xs k).size ≤ (logV xs).size ∧ (logV xs).extract 0 (logK xs k).size = logK xs k := by
  obtain ⟨r, hr⟩ := logK_pre (xs := xs) (k := k)
  have hV := logV_data he hu hl
  rw [hr] at hV
  constructor
  · rw [← bytes_len, ← bytes_len, hV, List.length_append]; omega
  · apply bytes_ext
    rw [extract_data, hV, List.drop_zero, Nat.sub_zero, List.take_left' (by rw [bytes_len])]
theorem log_cut (he : ∀ x ∈ xs, entB x = true) (hu : upB xs = true) (hl : xs.length ≤ 7) {cut : Nat} (hc : cut ≤ (logV xs).size) :
    ∃ N : Nat, ((logV xs).extract 0 cut).size = cut ∧ N ≤ cut ∧ chkV ((logV xs).extract 0 cut) = N ∧ chkC ((logV xs).extract 0 cut) = 0 ∧ cutV ((logV xs).extract 0 cut) = (logV xs).extract 0 N ∧ cutN ((logV xs).extract 0 cut) = cut - N ∧ ((logV xs).extract 0 N).size = N ∧ cdL ((logV xs).extract 0 N) = 0 ∧ (entV ((logV xs).extract 0 N)).length ≤ xs.length := by
  obtain ⟨s, hs⟩ : ∃ s, s = (logV xs).extract 0 cut := ⟨_, rfl⟩
  rw [← hs]
  have hL := (log_reads he hu hl).2.1
  have hd : s.data.toList = (logV xs).data.toList.take cut := by rw [hs, extract_data]; simp
  have hz : s.size = cut := by rw [← bytes_len, hd, List.length_take, bytes_len]; omega
  have hg := rdL_good s
  have hN := hg.le
  have e1 : s.extract 0 (rdL s).2.2 = (logV xs).extract 0 (rdL s).2.2 := by
    apply bytes_ext
    rw [extract_data, extract_data, hd]
    simp only [List.drop_zero, Nat.sub_zero]
    rw [List.take_take]
    congr 1
    omega
  have hn : ((logV xs).extract 0 (rdL s).2.2).size = (rdL s).2.2 := by rw [← bytes_len, extract_data, List.length_take, List.length_drop, bytes_len]; omega
  have hk := rdL_kept s
  rw [e1] at hk
  have hcd : cdL ((logV xs).extract 0 (rdL s).2.2) = 0 := cdL_ok (by omega) (by rw [hk, hn])
  refine ⟨(rdL s).2.2, hz, by omega, ?_, ?_, ?_, ?_, hn, hcd, ?_⟩
  · unfold chkV; rw [if_neg (by omega)]
  · unfold chkC; rw [if_neg (by omega)]
  · unfold cutV; rw [if_neg (by omega), e1]
  · unfold cutN; rw [if_neg (by omega), hz]
  · rw [entV_ok hcd, hk]
    refine Nat.le_trans (rdL_few10 s) ?_
    rw [hd, ← count_lines xs 0 he, logV_data he hu hl]
    exact (List.take_sublist _ _).count_le _
end
end Go.Proofs.YtnhkdcebldppmaaDoor
