/- What the law on soles asks of the numbers: plain Lean. -/
import Derived.Test.YtopbiihiogbhiaaSolW
namespace Go.Proofs.Ytopbiihiogbhiaa
open Go.RowKit

theorem sumS_app (f : Stuff → Int) (xs : List Stuff) : ∀ (a b : List Int) (c : Int), sumS f xs (a ++ b) c = sumS f xs b (sumS f xs a c)
  | [], _, _ => rfl
  | k :: r, b, c => by simp only [List.cons_append, sumS]; exact sumS_app f xs r b _
theorem sumS_rev (f : Stuff → Int) (xs : List Stuff) : ∀ (ps : List Int) (a : Int), sumS f xs ps.reverse a = sumS f xs ps a
  | [], _ => rfl
  | k :: r, a => by
    rw [List.reverse_cons, sumS_app]
    simp only [sumS]
    rw [sumS_rev f xs r a, sumS_acc f xs r a, sumS_acc f xs r (a + _)]
    omega
theorem soleB_rev (xs : List Stuff) (ps : List Int) : soleB xs ps.reverse = soleB xs ps := by
  unfold soleB
  rw [List.length_reverse, List.all_reverse]
theorem rSole_rev (f : Stuff → Int) (xs : List Stuff) (ps : List Int) : rSole f xs ps.reverse = rSole f xs ps := by
  unfold rSole sumR
  rw [soleB_rev, sumS_rev]
def thS (xs : List Stuff) (ps : List Int) (i : Nat) : Int := sumS Stuff.thick xs (ps.take i) 0
theorem thS_zero (xs : List Stuff) (ps : List Int) : thS xs ps 0 = 0 := rfl
theorem thS_step (xs : List Stuff) (ps : List Int) {i : Nat} (h : i < ps.length) : thS xs ps (i + 1) = thS xs ps i + thAt xs ps i := by
  obtain ⟨k, hk⟩ := get_of_lt h
  unfold thS thAt
  rw [take_at hk, sumS_app, hk]
  rfl
theorem thAt_bd {xs : List Stuff} {ps : List Int} (h : soleB xs ps = true) (i : Nat) : 0 ≤ thAt xs ps i ∧ thAt xs ps i ≤ 10000 := by
  have hf := (few_stuff (sole_parts h).1).1
  unfold thAt
  split
  · split
    · rename_i x hx
      exact hf x (List.mem_of_getElem? hx)
    · omega
  · omega
theorem wear_go {xs : List Stuff} {ps : List Int} (h : soleB xs ps = true) : ∀ (i : Nat) (wo n : Int), i ≤ ps.length → 0 ≤ wo → wo ≤ thS xs ps i →
    ∃ (kk k : Nat) (rest : Int), k ≤ i ∧ kk = k - 1 ∧ wearAt xs ps i wo n = #[.int .i64 (n + ((i : Int) - k)), .int .i64 rest, .int .i64 0] ∧ 0 ≤ rest ∧ rest ≤ 10000 ∧ rest + thS xs ps kk = thS xs ps i - wo := by
  intro i
  induction i with
  | zero =>
    intro wo n _ h0 h1
    rw [thS_zero] at h1
    refine ⟨0, 0, 0, by omega, rfl, ?_, by omega, by omega, ?_⟩
    · simp [wearAt]
    · rw [thS_zero]; omega
  | succ i ih =>
    intro wo n hi h0 h1
    have hb := thAt_bd h i
    rw [thS_step xs ps (by omega)] at h1
    simp only [wearAt]
    split
    · refine ⟨i, i + 1, thAt xs ps i - wo, by omega, by omega, ?_, ?_, ?_, ?_⟩
      · congr 3; omega
      · omega
      · omega
      · rw [thS_step xs ps (by omega)]; omega
    · obtain ⟨kk, k, rest, h2, h3, h4, h5, h6, h7⟩ := ih (wo - thAt xs ps i) (n + 1) (by omega) (by omega) (by omega)
      refine ⟨kk, k, rest, by omega, h3, ?_, h5, h6, ?_⟩
      · rw [h4]; congr 3; omega
      · rw [thS_step xs ps (by omega), h7]; omega
theorem wear_facts {xs : List Stuff} {ps : List Int} {wo a b c : Int} (h : rWear xs ps wo = #[.int .i64 a, .int .i64 b, .int .i64 c]) (hc : c = 0) :
    ∃ (T : Int) (kk : Nat), soleB xs ps = true ∧ rSole Stuff.thick xs ps = #[.int .i64 T, .int .i64 0] ∧ 0 ≤ T ∧ T ≤ 60000 ∧ 0 ≤ wo ∧ wo ≤ T ∧ 0 ≤ a ∧ a ≤ ps.length ∧ ps.length ≤ 6 ∧ kk ≤ ps.length ∧ (∀ i : Nat, ((i : Int) + a + 1 < ps.length ↔ i < kk)) ∧ 0 ≤ b ∧ b ≤ 10000 ∧ b + thS xs ps kk = T - wo := by
  subst hc
  unfold rWear at h
  by_cases hs : soleB xs ps = true
  · rw [if_pos hs] at h
    by_cases hi : inB wo 0 (sumR Stuff.thick xs ps) = true
    · rw [if_pos hi] at h
      obtain ⟨w0, w1⟩ := inB_iff.1 hi
      have hT : thS xs ps ps.length = sumR Stuff.thick xs ps := by unfold thS sumR; rw [List.take_length]
      obtain ⟨kk, k, rest, h2, h3, h4, h5, h6, h7⟩ := wear_go hs ps.length wo 0 (Nat.le_refl _) w0 (by rw [hT]; exact w1)
      rw [h4] at h
      simp only [Array.mk.injEq, List.cons.injEq, Value.int.injEq, true_and, and_true] at h
      obtain ⟨ha, hb⟩ := h
      obtain ⟨p1, p2, p3, p4⟩ := sole_parts hs
      have hbd := sumS_bd (few_stuff p1).1 ps 0
      have e : sumS Stuff.thick xs ps 0 = sumR Stuff.thick xs ps := rfl
      rw [e] at hbd
      refine ⟨sumR Stuff.thick xs ps, kk, hs, ?_, ?_, ?_, w0, w1, ?_, ?_, p3, ?_, ?_, ?_, ?_, ?_⟩
      · unfold rSole; rw [if_pos hs]
      · omega
      · omega
      · omega
      · omega
      · omega
      · intro i; omega
      · omega
      · omega
      · rw [← hb, h7, hT]
    · rw [if_neg hi] at h; simp at h
  · rw [if_neg hs] at h; simp at h
def turnL (xs : List Stuff) (ps : List Int) : List Int := if soleB xs ps = true then ps.reverse else []
def turnC (xs : List Stuff) (ps : List Int) : Int := if soleB xs ps = true then 0 else 1
theorem turnL_len (xs : List Stuff) (ps : List Int) : (turnL xs ps).length ≤ 6 := by
  unfold turnL
  split
  · rename_i h
    rw [List.length_reverse]
    exact (sole_parts h).2.2.1
  · simp
theorem turn_facts {xs : List Stuff} {ps : List Int} (h : turnC xs ps = 0) : soleB xs ps = true ∧ turnL xs ps = ps.reverse := by
  unfold turnC at h
  by_cases hs : soleB xs ps = true
  · refine ⟨hs, ?_⟩; unfold turnL; rw [if_pos hs]
  · rw [if_neg hs] at h; omega
end Go.Proofs.Ytopbiihiogbhiaa
