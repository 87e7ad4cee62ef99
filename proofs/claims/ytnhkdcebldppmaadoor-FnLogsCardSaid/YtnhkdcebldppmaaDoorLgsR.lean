/- What the laws on logs read off a log that LogOf wrote: plain Lean. -/
import Derived.Test.YtnhkdcebldppmaaDoorLgsP
import Derived.Test.YtnhkdcebldppmaaDoorLgsQ
namespace Go.Proofs.YtnhkdcebldppmaaDoor
open Go.RowKit

theorem log_reads {xs : List Entry} (he : ∀ x ∈ xs, entB x = true) (hu : upB xs = true) (hl : xs.length ≤ 7) : logC xs = 0 ∧ (logV xs).size ≤ 280 ∧ cdL (logV xs) = 0 ∧ rdL (logV xs) = (xs, endS xs 0, (logV xs).size) := by
  have h1 : xs.all entB = true := List.all_eq_true.2 he
  have h2 := log_small he hl
  have hV : logV xs = logGo xs 0 ⟨#[]⟩ := by unfold logV; rw [if_pos h1, if_pos hu, if_pos (by omega)]
  have hr := rdL_log he hu
  refine ⟨by unfold logC; rw [if_pos h1, if_pos hu, if_pos (by omega)], by rw [hV]; exact h2, ?_, by rw [hV]; exact hr⟩
  rw [hV]
  exact cdL_ok (by omega) (by rw [hr])
theorem log_name {xs : List Entry} (he : ∀ x ∈ xs, entB x = true) (hu : upB xs = true) (hl : xs.length ≤ 7) {t : ByteArray} (ht : t ∈ namG xs) : cdW (logV xs) t = 0 ∧ valV (logV xs) t = valG t xs ∧ cdS (logV xs) t 0 100000 = 0 ∧ sumW (logV xs) t 0 100000 = (valG t xs).sum := by
  obtain ⟨_, _, hc, hr⟩ := log_reads he hu hl
  have hw : cdW (logV xs) t = 0 := cdW_ok hc (namG_name he ht)
  have hs := cdS_ok (f := 0) (o := 100000) hw (by decide)
  refine ⟨hw, ?_, hs.1, ?_⟩
  · rw [valV_ok hw, hr]
  · rw [hs.2, hr, sumG_part he t 0, Int.zero_add]
theorem log_names {xs : List Entry} (he : ∀ x ∈ xs, entB x = true) (hu : upB xs = true) (hl : xs.length ≤ 7) : namV (logV xs) = namG xs := by
  obtain ⟨_, _, hc, hr⟩ := log_reads he hu hl
  rw [namV_ok hc, hr]
theorem val_bd {xs : List Entry} (he : ∀ x ∈ xs, entB x = true) (t : ByteArray) : ∀ v ∈ valG t xs, -1000000 ≤ v ∧ v ≤ 1000000 := by
  intro v hv
  unfold valG at hv
  obtain ⟨x, hx, rfl⟩ := List.mem_map.1 hv
  have h := entB_bd (he x (List.mem_filter.1 hx).1)
  omega
theorem ints_bd : ∀ l : List Int, (∀ v ∈ l, -1000000 ≤ v ∧ v ≤ 1000000) → -1000000 * (l.length : Int) ≤ l.sum ∧ l.sum ≤ 1000000 * l.length := by
  intro l
  induction l with
  | nil => intro _; simp
  | cons a r ih =>
    intro h
    have h1 := ih (fun x hx => h x (by simp [hx]))
    have h2 := h a (by simp)
    simp only [List.sum_cons, List.length_cons]
    omega
theorem namG_few {xs : List Entry} (hl : xs.length ≤ 7) : (namG xs).length ≤ 7 := Nat.le_trans (namG_len _) hl
end Go.Proofs.YtnhkdcebldppmaaDoor
