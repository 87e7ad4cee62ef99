
/- Finding an order: the reference's functions. -/
import Derived.Test.YtggficacnmddiaaOrdB
namespace Go.Proofs.Ytggficacnmddiaa
open Go.RowKit

def findO (id : Int) : List Order → Nat → Int
  | [], _ => -1
  | x :: xs, k => if x.id = id then (k : Int) else findO id xs (k + 1)
theorem findO_spec (id : Int) : ∀ (xs : List Order) (k : Nat), (findO id xs k = -1 ∧ ∀ x ∈ xs, x.id ≠ id) ∨ ∃ j x, findO id xs k = ((k + j : Nat) : Int) ∧ xs[j]? = some x ∧ x.id = id
  | [], _ => .inl ⟨rfl, by simp⟩
  | x :: xs, k => by
    by_cases h : x.id = id
    · exact .inr ⟨0, x, by simp [findO, h], rfl, h⟩
    · rcases findO_spec id xs (k + 1) with ⟨h1, h2⟩ | ⟨j, y, h1, h2, h3⟩
      · exact .inl ⟨by simp [findO, h, h1], by intro y hy; rcases List.mem_cons.1 hy with rfl | hy; exact h; exact h2 y hy⟩
      · exact .inr ⟨j + 1, y, by simp only [findO, if_neg h, h1]; congr 1; omega, by simpa using h2, h3⟩
end Go.Proofs.Ytggficacnmddiaa
