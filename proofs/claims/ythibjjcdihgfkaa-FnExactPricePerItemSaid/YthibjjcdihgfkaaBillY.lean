
/- Bills: sums, totals, deposits, refunds: the program's and the reference's functions. -/
import Derived.Test.YthibjjcdihgfkaaBillX
namespace Go.Proofs.Ythibjjcdihgfkaa
open Go.RowKit

/-- A bill that is valid, or not: what follows. -/
theorem bill_cases (xs : List Item) (o t p : Int) : Hid (billB xs o t p = false) ∨ (Hid (billB xs o t p = true) ∧ Hid (fewOk xs) ∧ 0 ≤ o ∧ o ≤ 100 ∧ 0 ≤ t ∧ t ≤ 100 ∧ 0 ≤ p ∧ p ≤ totOf (sumGo xs 0) o t ∧ 0 ≤ sumGo xs 0 ∧ sumGo xs 0 ≤ 20000000000 ∧ 0 ≤ totOf (sumGo xs 0) o t ∧ totOf (sumGo xs 0) o t ≤ 40000000000) := by
  cases h : billB xs o t p
  · exact .inl rfl
  · obtain ⟨h1, h2, h3, h4, h5⟩ := billB_few h
    obtain ⟨hs0, hs1⟩ := sum_bd h1
    obtain ⟨hnb0, hnb1⟩ := net_bd hs0 h2.1 h2.2
    obtain ⟨hxb0, hxb1⟩ := tax_bd hs0 h2.1 h2.2 h3.1 h3.2
    exact .inr ⟨rfl, h1, h2.1, h2.2, h3.1, h3.2, h4, h5, hs0, hs1, by unfold totOf; omega, by unfold totOf; omega⟩

def rSum (xs : List Item) (o t p : Int) : Array Value := if billB xs o t p = true then #[.int .i64 (sumGo xs 0), .int .i64 0] else #[.int .i64 0, .int .i64 1]
def rTot (xs : List Item) (o t p : Int) : Array Value := if billB xs o t p = true then #[.int .i64 (totOf (sumGo xs 0) o t), .int .i64 (taxOf (sumGo xs 0) o t), .int .i64 0] else #[.int .i64 0, .int .i64 0, .int .i64 1]
def rLeft (xs : List Item) (o t p : Int) : Array Value := if billB xs o t p = true then #[.int .i64 (totOf (sumGo xs 0) o t - p), .int .i64 0] else #[.int .i64 0, .int .i64 1]

end Go.Proofs.Ythibjjcdihgfkaa
