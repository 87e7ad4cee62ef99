/- Soles: what is reckoned; no program text but the structs' cells. -/
import Derived.Test.YtopbiihiogbhiaaBase
import Derived.Test.YtopbiihiogbhiaaFam
import Derived.Test.YtopbiihiogbhiaaOwn
namespace Go.Proofs.Ytopbiihiogbhiaa
open Go.RowKit

def stuffOk (x : Stuff) : Bool := nameB x.name && inB x.thick 1 200 && inB x.gram 1 1000 && inB x.stiff 0 1000 && inB x.price 0 10000
def dupB (x : Stuff) (pre : List Stuff) : Bool := pre.any (fun o => decide (o.name = x.name))
def stuffsGo (all : List Stuff) : Nat → List Stuff → Bool
  | _, [] => true
  | k, x :: r => stuffOk x && !dupB x (all.take k) && stuffsGo all (k + 1) r
def stuffsB (xs : List Stuff) : Bool := stuffsGo xs 0 xs && decide (xs.length ≤ 12)
def soleB (xs : List Stuff) (ps : List Int) : Bool := stuffsB xs && (decide (1 ≤ ps.length) && decide (ps.length ≤ 6)) && ps.all (fun k => inB k 0 ((xs.length : Int) - 1))
def sumS (f : Stuff → Int) (xs : List Stuff) : List Int → Int → Int
  | [], a => a
  | k :: r, a => sumS f xs r (a + (match xs[k.toNat]? with | some x => f x | none => 0))
def sumR (f : Stuff → Int) (xs : List Stuff) (ps : List Int) : Int := sumS f xs ps 0
def fewS (f : Stuff → Int) (xs : List Stuff) : Prop := ∀ x ∈ xs, 0 ≤ f x ∧ f x ≤ 10000
theorem stuffsGo_mem (all : List Stuff) : ∀ (xs : List Stuff) (k : Nat), stuffsGo all k xs = true → ∀ x ∈ xs, stuffOk x = true := by
  intro xs
  induction xs with
  | nil => intro k _ x hx; cases hx
  | cons y ys ih =>
    intro k h x hx
    simp only [stuffsGo, Bool.and_eq_true] at h
    rcases List.mem_cons.1 hx with rfl | hx
    · exact h.1.1
    · exact ih _ h.2 x hx
theorem stuffs_ok {xs : List Stuff} (h : stuffsB xs = true) : (∀ x ∈ xs, stuffOk x = true) ∧ xs.length ≤ 12 := by
  simp only [stuffsB, Bool.and_eq_true, decide_eq_true_eq] at h
  exact ⟨stuffsGo_mem xs xs 0 h.1, h.2⟩
theorem stuffOk_bd {x : Stuff} (h : stuffOk x = true) : (1 ≤ x.thick ∧ x.thick ≤ 200) ∧ (1 ≤ x.gram ∧ x.gram ≤ 1000) ∧ (0 ≤ x.stiff ∧ x.stiff ≤ 1000) ∧ (0 ≤ x.price ∧ x.price ≤ 10000) := by
  simp only [stuffOk, Bool.and_eq_true, inB_iff] at h
  omega
theorem few_stuff {xs : List Stuff} (h : stuffsB xs = true) : fewS Stuff.thick xs ∧ fewS Stuff.gram xs ∧ fewS Stuff.stiff xs ∧ fewS Stuff.price xs := by
  have h1 := (stuffs_ok h).1
  refine ⟨?_, ?_, ?_, ?_⟩ <;> intro x hx <;> have h2 := stuffOk_bd (h1 x hx) <;> omega
theorem sole_parts {xs : List Stuff} {ps : List Int} (h : soleB xs ps = true) : stuffsB xs = true ∧ 1 ≤ ps.length ∧ ps.length ≤ 6 ∧ ∀ k ∈ ps, 0 ≤ k ∧ k < xs.length := by
  simp only [soleB, Bool.and_eq_true, decide_eq_true_eq, List.all_eq_true, inB_iff] at h
  refine ⟨h.1.1, h.1.2.1, h.1.2.2, fun k hk => ?_⟩
  have := h.2 k hk
  omega
theorem sumS_step {f : Stuff → Int} {xs : List Stuff} {ps : List Int} {j : Nat} {k : Int} {x : Stuff} (a : Int) (hk : ps[j]? = some k) (hx : xs[k.toNat]? = some x) : sumS f xs (ps.drop j) a = sumS f xs (ps.drop (j + 1)) (a + f x) := by
  rw [drop_at hk]
  simp only [sumS, hx]
theorem sumS_acc (f : Stuff → Int) (xs : List Stuff) : ∀ (ps : List Int) (a : Int), sumS f xs ps a = a + sumS f xs ps 0
  | [], a => by simp [sumS]
  | k :: r, a => by
    simp only [sumS]
    rw [sumS_acc f xs r, sumS_acc f xs r (0 + _)]
    omega
theorem sumS_bd {f : Stuff → Int} {xs : List Stuff} (h : fewS f xs) : ∀ (ps : List Int) (a : Int), a ≤ sumS f xs ps a ∧ sumS f xs ps a ≤ a + 10000 * ps.length
  | [], a => by simp [sumS]
  | k :: r, a => by
    simp only [sumS, List.length_cons]
    have key : ∀ v : Int, 0 ≤ v → v ≤ 10000 → a ≤ sumS f xs r (a + v) ∧ sumS f xs r (a + v) ≤ a + 10000 * ((r.length + 1 : Nat) : Int) := by
      intro v h0 h1
      have := sumS_bd h r (a + v)
      omega
    split
    · rename_i x hx
      have := h x (List.mem_of_getElem? hx)
      exact key _ this.1 this.2
    · exact key 0 (by omega) (by omega)
end Go.Proofs.Ytopbiihiogbhiaa
