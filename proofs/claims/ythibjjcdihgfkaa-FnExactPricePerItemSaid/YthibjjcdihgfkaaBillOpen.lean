/- A bill that came in, opened. -/
import Derived.Test.YthibjjcdihgfkaaRow
namespace Go.Proofs.Ythibjjcdihgfkaa
open Go.ChangeShapes Go.WideShapes Go.ChangeAt Go.RowKit Go.Deep Go.Joins

theorem cells_Bill : Try.prog.cellsOf 54 = 4 := by kernel_rfl
set_option maxRecDepth 100000 in
theorem open_Bill {H : Type} {enc : TypeId × Value → H} {W : World} {base : Nat} {v : Value} {d : DataW H} {p : List MemPlace} (hval : Value.okWide Try.prog W .any base 54 v)
    (h : DataW.Trod enc Try.prog W 0 (fun _ => true) true 54 v d p) :
    ∃ (A : Option Addr) (n c : Nat) (xs : List Item) (o t q : Int), v = .agg #[.slice A n c, .int .i64 o, .int .i64 t, .int .i64 q] ∧ xs.length = n ∧ n ≤ 9223372036854775807 ∧ (∀ x ∈ xs, Item.wf x) ∧ Arr W A (flat Item.cells xs) ∧ I64 o ∧ I64 t ∧ I64 q := by
  obtain ⟨v0, v1, v2, v3, y0, y1, y2, y3, m, rfl, rfl, rfl, t0, t1, t2, t3⟩ := open_agg4 Try.underlying54 (by kernel_rfl) cells_Bill hval h
  obtain ⟨z1, e1, _, q1⟩ := DataW.trod_int Try.underlying2 t1
  obtain ⟨z2, e2, _, q2⟩ := DataW.trod_int Try.underlying2 t2
  obtain ⟨z3, e3, _, q3⟩ := DataW.trod_int Try.underlying2 t3
  simp only [List.cons.injEq, and_true] at e1 e2 e3
  subst e1 e2 e3
  obtain ⟨A, n, c, xs, rfl, h1, h2, h3, h4⟩ := open_ItemS_in t0
  exact ⟨A, n, c, xs, z1, z2, z3, rfl, h1, h2, h3, h4, i64_of_wf q1, i64_of_wf q2, i64_of_wf q3⟩

end Go.Proofs.Ythibjjcdihgfkaa
