/- What the law on clauses says, in plain Lean. -/
import Derived.Test.YtihgjmhhpiobbaaGreatDoorStyD
import Derived.Test.YtihgjmhhpiobbaaGreatDoorStyX
namespace Go.Proofs.YtihgjmhhpiobbaaGreatDoor
open Go.RowKit

theorem sty_fits {x : Style} (hx : styB x = true) : x.fits := by
  obtain ⟨⟨z0, z1, z2, z3⟩, i4, i5, i6, i7⟩ := sty_small hx
  unfold Style.fits
  omega
theorem chg_yes {x : Style} {s : ByteArray} (hx : styB x = true) (hk : okCl s = true) : chgS x s = setS x (wrds s) ∧ chgC x s = 0 := by
  unfold chgS chgC
  rw [if_pos hx, if_pos hk, if_pos hx, if_pos hk]
  exact ⟨rfl, rfl⟩
theorem chg_no {x : Style} {s : ByteArray} (hx : styB x = true) (hk : okCl s = false) : chgC x s = 7 := by
  unfold chgC
  rw [if_pos hx, if_neg (by rw [hk]; simp)]
theorem okCl_prob {s : ByteArray} (h : okCl s = true) : prob (wrds s) = 0 := by
  unfold okCl at h
  rw [Bool.and_eq_true, decide_eq_true_eq, decide_eq_true_eq] at h
  exact h.2
theorem prob_long {w : List ByteArray} (h : prob w = 0) : ∃ t r, w = t :: r ∧ 2 ≤ w.length := by
  rcases prob_forms h with ⟨a, b, rfl, _, _⟩ | ⟨a, rfl, _⟩ | ⟨a, b, rfl, _, _⟩ | ⟨a, rfl, _⟩ | ⟨a, rfl, _⟩ | ⟨a, rfl, _⟩ | ⟨a, rfl, _⟩
  all_goals exact ⟨_, _, rfl, by simp⟩
theorem dif_one {x : Style} {w : List ByteArray} (h : prob w = 0) : ∃ t r, w = t :: r ∧ 2 ≤ w.length ∧ (dif x (setS x w) = [] ∨ dif x (setS x w) = [t]) := by
  obtain ⟨t, r, e, h2⟩ := prob_long h
  refine ⟨t, r, e, h2, ?_⟩
  have h3 := dif_set (x := x) h
  rw [e] at h3 ⊢
  exact h3
theorem styW_nth (k : Nat) (hk : k < 6) : ∃ t, styW[k]? = some t ∧ kindW t = (k : Int) := by
  rcases k with _ | _ | _ | _ | _ | _ | k
  · exact ⟨_, rfl, kind0⟩
  · exact ⟨_, rfl, kind1⟩
  · exact ⟨_, rfl, kind2⟩
  · exact ⟨_, rfl, kind3⟩
  · exact ⟨_, rfl, kind4⟩
  · exact ⟨_, rfl, kind5⟩
  · omega
theorem styW_rng {t : ByteArray} (h : t ∈ styW) : 0 ≤ kindW t ∧ kindW t < 6 := by
  simp only [styW, List.mem_cons, List.not_mem_nil, or_false] at h
  rcases h with rfl | rfl | rfl | rfl | rfl | rfl
  · rw [kind0]; omega
  · rw [kind1]; omega
  · rw [kind2]; omega
  · rw [kind3]; omega
  · rw [kind4]; omega
  · rw [kind5]; omega
theorem styW_same {t u : ByteArray} (ht : t ∈ styW) (h : kindW u = kindW t) : u = t := by
  obtain ⟨h0, h1⟩ := styW_rng ht
  rcases kind_cases t with ⟨rfl, hk⟩ | ⟨rfl, hk⟩ | ⟨rfl, hk⟩ | ⟨rfl, hk⟩ | ⟨rfl, hk⟩ | ⟨rfl, hk⟩ | ⟨_, hk⟩ <;> rw [hk] at h <;>
    rcases kind_cases u with ⟨rfl, hq⟩ | ⟨rfl, hq⟩ | ⟨rfl, hq⟩ | ⟨rfl, hq⟩ | ⟨rfl, hq⟩ | ⟨rfl, hq⟩ | ⟨_, hq⟩ <;> first | rfl | omega
theorem dif_mem {x z : Style} (hx : styB x = true) (hz : styB z = true) {t : ByteArray} (h : t ∈ dif x z) : t ∈ styW := by
  rw [← dif_filter hx hz] at h
  exact (List.mem_filter.1 h).1
theorem dif_up {x z : Style} (hx : styB x = true) (hz : styB z = true) {i : Nat} {t u : ByteArray} (ht : (dif x z)[i]? = some t) (hu : (dif x z)[i + 1]? = some u) : kindW t < kindW u := by
  have hp : styW.Pairwise (fun a b => kindW a < kindW b) := by
    simp [styW, kind0, kind1, kind2, kind3, kind4, kind5]
  have hq : (dif x z).Pairwise (fun a b => kindW a < kindW b) := by
    rw [← dif_filter hx hz]
    exact hp.filter _
  have h1 := List.getElem?_eq_some_iff.1 ht
  have h2 := List.getElem?_eq_some_iff.1 hu
  obtain ⟨a, ha⟩ := h1
  obtain ⟨b, hb⟩ := h2
  rw [← ha, ← hb]
  exact List.pairwise_iff_getElem.1 hq i (i + 1) a b (by omega)
end Go.Proofs.YtihgjmhhpiobbaaGreatDoor
