/- The law FnExactTakeOrder holds for every input: it returns true, and what came in reads as before. No condition. -/
import Derived.Test.YthibjjcdihgfkaaRow
import Derived.Test.YthibjjcdihgfkaaTakL
namespace Go.Proofs.Ythibjjcdihgfkaa
open Go.ChangeShapes Go.WideShapes Go.ChangeAt Go.RowKit Go.Deep Go.Joins

section
variable {H : Type} {enc : TypeId × Value → H} {P : Program} {w : World} {base : Nat} {spare : Nat → Bool} {held : Bool}
theorem array_6 {α : Type} : ∀ {a : Array α}, a.size = 6 → ∃ c0 c1 c2 c3 c4 c5, a = #[c0, c1, c2, c3, c4, c5]
  | ⟨[c0, c1, c2, c3, c4, c5]⟩, _ => ⟨c0, c1, c2, c3, c4, c5, rfl⟩
theorem open_agg6 {r : Reach} {b0 : Nat} {t : TypeId} {f0 f1 f2 f3 f4 f5 : Field} {v : Value} {d : DataW H} {p : List MemPlace} (hs : P.underlying t = some (.struct #[f0, f1, f2, f3, f4, f5])) (hone : oneCellFields P #[f0, f1, f2, f3, f4, f5] = true) (hC : P.cellsOf t = 6)
    (hv : Value.okWide P w r b0 t v) (h : DataW.Trod enc P w base spare held t v d p) :
    ∃ (v0 v1 v2 v3 v4 v5 : Value) (y0 y1 y2 y3 y4 y5 : DataW H × List MemPlace) (n : Nat), v = .agg #[v0, v1, v2, v3, v4, v5] ∧ d = .agg [y0.1, y1.1, y2.1, y3.1, y4.1, y5.1] ∧ p = y0.2 ++ (y1.2 ++ (y2.2 ++ (y3.2 ++ (y4.2 ++ y5.2)))) ∧
      DataW.trod enc P w base spare held n f0.type [v0] = some y0 ∧ DataW.trod enc P w base spare held n f1.type [v1] = some y1 ∧ DataW.trod enc P w base spare held n f2.type [v2] = some y2 ∧ DataW.trod enc P w base spare held n f3.type [v3] = some y3 ∧ DataW.trod enc P w base spare held n f4.type [v4] = some y4 ∧ DataW.trod enc P w base spare held n f5.type [v5] = some y5 := by
  obtain ⟨cs, rfl, hsz⟩ := okWide_struct hs hv
  obtain ⟨c0, c1, c2, c3, c4, c5, rfl⟩ := array_6 (hsz.trans hC)
  obtain ⟨fuel, hf⟩ := h
  obtain ⟨xs, n, _, hx, hl, hlen, hf⟩ := DataW.trod_struct hs hf
  match xs, hlen, hx, hf with
  | [y0, y1, y2, y3, y4, y5], _, hx, hf =>
    obtain ⟨o0, k0⟩ := hone_of hone 0 f0 rfl
    have h0 := hf 0 f0 rfl
    obtain ⟨o1, k1⟩ := hone_of hone 1 f1 rfl
    have h1 := hf 1 f1 rfl
    obtain ⟨o2, k2⟩ := hone_of hone 2 f2 rfl
    have h2 := hf 2 f2 rfl
    obtain ⟨o3, k3⟩ := hone_of hone 3 f3 rfl
    have h3 := hf 3 f3 rfl
    obtain ⟨o4, k4⟩ := hone_of hone 4 f4 rfl
    have h4 := hf 4 f4 rfl
    obtain ⟨o5, k5⟩ := hone_of hone 5 f5 rfl
    have h5 := hf 5 f5 rfl
    simp only [Prod.mk.injEq] at hx
    exact ⟨c0, c1, c2, c3, c4, c5, y0, y1, y2, y3, y4, y5, n, rfl, by simpa using hx.1, by simpa using hx.2, by simpa [Value.cells, o0, k0] using h0, by simpa [Value.cells, o1, k1] using h1, by simpa [Value.cells, o2, k2] using h2, by simpa [Value.cells, o3, k3] using h3, by simpa [Value.cells, o4, k4] using h4, by simpa [Value.cells, o5, k5] using h5⟩
end

set_option maxRecDepth 100000 in
theorem open_Order {H : Type} {enc : TypeId × Value → H} {W : World} {base : Nat} {v : Value} {d : DataW H} {p : List MemPlace} (hval : Value.okWide Try.prog W .any base 69 v)
    (h : DataW.Trod enc Try.prog W 0 (fun _ => true) true 69 v d p) : ∃ x : Order, v = .agg #[.int .i64 x.id, .string x.customer, .int .i64 x.stage, .int .i64 x.due, .int .i64 x.left, .int .i64 x.fittings] ∧ Order.wf x := by
  obtain ⟨v0, v1, v2, v3, v4, v5, y0, y1, y2, y3, y4, y5, m, rfl, rfl, rfl, t0, t1, t2, t3, t4, t5⟩ := open_agg6 Try.underlying69 (by kernel_rfl) cells_Order hval h
  obtain ⟨z0, e0, _, q0⟩ := DataW.trod_int Try.underlying2 t0
  simp only [List.cons.injEq, and_true] at e0
  subst e0
  obtain ⟨z1, e1, _, q1⟩ := DataW.trod_string Try.underlying9 t1
  simp only [List.cons.injEq, and_true] at e1
  subst e1
  obtain ⟨z2, e2, _, q2⟩ := DataW.trod_int Try.underlying2 t2
  simp only [List.cons.injEq, and_true] at e2
  subst e2
  obtain ⟨z3, e3, _, q3⟩ := DataW.trod_int Try.underlying2 t3
  simp only [List.cons.injEq, and_true] at e3
  subst e3
  obtain ⟨z4, e4, _, q4⟩ := DataW.trod_int Try.underlying2 t4
  simp only [List.cons.injEq, and_true] at e4
  subst e4
  obtain ⟨z5, e5, _, q5⟩ := DataW.trod_int Try.underlying2 t5
  simp only [List.cons.injEq, and_true] at e5
  subst e5
  exact ⟨⟨z0, z1, z2, z3, z4, z5⟩, rfl, ⟨i64_of_wf q0, by have := q1; unfold maxLen at this; omega, i64_of_wf q2, i64_of_wf q3, i64_of_wf q4, i64_of_wf q5⟩⟩

set_option maxRecDepth 100000 in
theorem FnExactTakeOrder_lifted (os : Os) (started : os.Started) (H : Type) (enc : TypeId × Value → H) :
    ReturnsInHanded {} Try.checked os 7 .any (Rows.fnExactTakeOrderSpec.pre6 enc Try.prog Try.f7 Rows.fnExactTakeOrderRow.domain false) (Rows.fnExactTakeOrderSpec.post enc Try.prog Try.f7 false true false false) := by
  refine returnsInHanded_of_change (C := Try.checked) ownKnob_c started (by kernel_rfl) Try.func7
    (ChangeSpec.witness6 (enc := enc) (C := Try.checked) false ⟨#[], #[.slice none 0 0, .agg #[.int .i64 0, .string ByteArray.empty, .int .i64 0, .int .i64 0, .int .i64 0, .int .i64 0]], []⟩ 8 (by kernel_rfl) (by kernel_rfl) (by kernel_rfl) (by kernel_rfl)) ?_
  intro W base args ds gs before hval0 hW _ _
  have hval : ∀ (j : Nat) t v, Try.f7.params[j]? = some t → args[j]? = some v → Value.okWide Try.prog W .any base t v := hval0
  have hW' := hW
  obtain ⟨p, q, hA0, hV, rfl, _, _⟩ := hW
  have hA : DataW.TrodAll enc Try.prog W 0 (fun _ => true) true Try.f7.params.toList args.toList ds p := hA0
  rw [Try.params7] at hA hval
  obtain ⟨rfl, rfl⟩ := trodVars_none hV
  simp only [List.append_nil] at hW'
  have hlt : ∀ x ∈ p, x.block < W.heap.size := fun x hx => by simpa using hW'.lt x hx
  have hargs : ∀ W' : World, Below W.heap.size W W' → DataW.TrodAll enc Try.prog W' 0 (fun b => decide (b < W.heap.size)) true [67, 69] args.toList ds p :=
    fun W' hb => trodAll_below laidOut_c hb _ _ _ _ (by
      intro t ht
      simp only [List.mem_cons, List.not_mem_nil, or_false] at ht
      rcases ht with rfl | rfl <;> exact ⟨by kernel_rfl, of_decide_eq_true (by kernel_rfl)⟩) hA hlt
  obtain ⟨v0, vs0, d0, ds0, p0, q0, hargs', rfl, rfl, h0, r0⟩ := trodAll_cons hA
  obtain ⟨v1, vs1, d1, ds1, p1, q1, rfl, rfl, rfl, h1, r1⟩ := trodAll_cons r0
  obtain ⟨rfl, rfl, rfl⟩ := trodAll_nil r1
  obtain rfl : args = #[v0, v1] := by cases args; simp_all
  obtain ⟨A0, n0, c0, xs0, rfl, la0, lb0, lc0, ld0⟩ := open_OrderS (hval 0 67 v0 rfl rfl) h0
  obtain ⟨x1, rfl, wx1⟩ := open_Order (hval 1 69 v1 rfl rfl) h1
  refine (FnExactTakeOrder_law A0 xs0 n0 c0 x1 (Lib.hid la0) lb0 (Lib.hid (fun x hx => (lc0 x hx).2.1)) wx1.2.1 W ld0).mono fun e W' ⟨he, hb⟩ => ?_
  subst he
  exact ⟨_, rfl, _, _, _, [], _, [], hW', trodAll_mk1 (shut_bool Try.underlying4 _), hargs _ hb, rfl, hb.frame _, fun h => by cases h⟩

theorem FnExactTakeOrder_holds : Rows.FnExactTakeOrderSaid :=
  OpenClaim.holds_of_wide 7 Try.f7 rfl rfl rfl rfl rfl rfl rfl ⟨rfl, rfl, rfl, rfl, rfl⟩ rfl rfl rfl rfl rfl (by kernel_rfl) Try.func7 (by kernel_rfl)
    (of_decide_eq_true (by kernel_rfl)) (by unfold Func.isWrapper; first | (rw [if_pos (by decide +kernel)]; kernel_rfl) | (rw [if_neg (by decide +kernel)]; exact ⟨rfl, rfl⟩))
    (fun os started H enc _ => FnExactTakeOrder_lifted os started H enc)

end Go.Proofs.Ythibjjcdihgfkaa
