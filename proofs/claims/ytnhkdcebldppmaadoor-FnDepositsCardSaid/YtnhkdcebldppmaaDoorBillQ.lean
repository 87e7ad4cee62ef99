
/- PayBill: the reference's. -/
import Derived.Test.YtnhkdcebldppmaaDoorBillP
namespace Go.Proofs.YtnhkdcebldppmaaDoor
open Go.RowKit

/-- append onto a new empty slice -/
theorem wp_clone {P : Program} {o : Oper} {a : Act} {K : Act → World → Prop} {Q : Exit → Act → World → Prop} (w : World) (s x : Operand) (t e : TypeId)
    (ho : o.op = .call { callee := .builtin .append, args := #[s, x], argTypes := #[t, t] })
    (i : TypeInfo) (z : Value) (size bytes : Nat) (ht : P.underlying t = some (.slice e)) (hi : P.info? e = some i) (hz : i.zero = some z)
    (hsize : i.size = size) (hby : i.bytes = bytes) (hzs : z.cells.size = size) (hsz : 0 < size)
    (g : Nat) (hg : g = w.heap.size) (hs : a.eval s = .slice (some ⟨g, 0, none⟩) 0 0) (ad : Addr) (m c : Nat) (C : List Value) (hx : a.eval x = .slice (some ad) m c) (hA : Arr w (some ad) C)
    (hl : C.length = m * size) (h1 : ∀ u ∈ C, u.oneCell' = true) (h63 : m ≤ maxLen) (hbytes : m * bytes ≤ 140737488355328)
    (h : ∀ A c' w', w'.ownsRow w.heap.size e size (.slice A m c') m C → Below w.heap.size w w' → K (a.put o.dst (.slice A m c')) w') :
    o.wp P a (w.alloc (.cells #[] e)) K Q := by
  subst hg
  have he := own_empty w w.heap.size e size (Nat.le_refl _)
  refine wp_append_own (w.alloc (.cells #[] e)) s x t ho w.heap.size e i z size bytes ht hi hz hsize hby hzs hsz _ 0 [] hs he ad m c C hx hl ?_ h1 (by simpa using h63) (by simpa using hbytes) (by simp) ?_
  · intro j u hu
    obtain ⟨ad', e', _, hc⟩ := (hA.alloc (.cells #[] e)) (by have := (List.getElem?_eq_some_iff.1 hu).1; omega)
    injection e' with e'
    subst e'
    exact hc j u hu
  · intro v' w' hown hg _
    obtain ⟨A, c', rfl, _, _⟩ := own_form hown
    simp only [Nat.zero_add, List.nil_append] at hown ⊢
    exact h A c' w' hown (bl_grown (bl_alloc (Below.refl _ _) _) hg (own_at he))
def OutO (n : Nat) (o t p : Int) (cs : List Value) (w : World) (e : Ending) (w' : World) : Prop :=
  ∃ A c, e = .returned (.agg #[.slice A n c, .int .i64 o, .int .i64 t, .int .i64 p]) ∧ w'.ownsRow w.heap.size 77 3 (.slice A n c) n cs ∧ Below w.heap.size w w'
end Go.Proofs.YtnhkdcebldppmaaDoor
