/- append of one cell, as an operation of a region. -/
import Derived.Test.YtopbiihiogbhiaaApp
import Derived.Test.YtopbiihiogbhiaaOwn
namespace Go.Proofs.Ytopbiihiogbhiaa
open Go.RowKit

theorem app_op {P : Program} {o : Oper} {a : Act} {K : Act → World → Prop} {Q : Exit → Act → World → Prop} (w : World) (s x : Operand) (t e : TypeId)
    (ho : o.op = .call { callee := .builtin .append, args := #[s, x], argTypes := #[t, t] })
    (i : TypeInfo) (z : Value) (bytes : Nat) (ht : P.underlying t = some (.slice e)) (hi : P.info? e = some i) (hz : i.zero = some z)
    (hsize : i.size = 1) (hby : i.bytes = bytes) (hzs : z.cells.size = 1)
    (base : Nat) (v : Value) (n : Nat) (cs : List Value) (hs : a.eval s = v) (gx : Nat) (u : Value) (hx : a.eval x = .slice (some ⟨gx, 0, none⟩) 1 1) (hB : Blk w gx e #[u]) (hown : w.ownsRow base e 1 v n cs)
    (h1 : u.oneCell' = true) (h63 : n + 1 ≤ maxLen) (hbytes : (n + 1) * bytes ≤ 140737488355328) (hbase : base ≤ w.heap.size)
    (h : ∀ A c w', w'.ownsRow base e 1 (.slice A (n + 1) c) (n + 1) (cs ++ [u]) → w.grownBy w' v.ownBlock → K (a.put o.dst (.slice A (n + 1) c)) w') : o.wp P a w K Q := by
  refine wp_append_own w s x t ho base e i z 1 bytes ht hi hz hsize hby hzs (by omega) v n cs hs hown ⟨gx, 0, none⟩ 1 1 [u] hx (by simp) ?_ (by simpa using h1) h63 hbytes hbase ?_
  · intro j y hy
    match j, hy with
    | 0, hy =>
      obtain rfl := Option.some.inj hy
      exact hB.cell 0
    | j + 1, hy => simp at hy
  · intro v' w' hown' hg _
    obtain ⟨A, c, rfl, _, _⟩ := own_form hown'
    exact h A c w' hown' hg
end Go.Proofs.Ytopbiihiogbhiaa
