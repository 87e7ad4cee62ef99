/- The rows of the laws on bills: for every bill the law returns true; what came in reads as before. -/
import Derived.Test.YtgohahcdkgbocaaRow
import Derived.Test.YtgohahcdkgbocaaBillX
namespace Go.Proofs.Ytgohahcdkgbocaa
open Go.ChangeShapes Go.WideShapes Go.ChangeAt Go.RowKit Go.Deep Go.Joins

theorem cells_Bill : Try.prog.cellsOf 24 = 4 := by kernel_rfl
set_option maxRecDepth 100000 in
theorem open_Bill {H : Type} {enc : TypeId × Value → H} {W : World} {base : Nat} {v : Value} {d : DataW H} {p : List MemPlace} (hval : Value.okWide Try.prog W .any base 24 v)
    (h : DataW.Trod enc Try.prog W 0 (fun _ => true) true 24 v d p) :
    ∃ (A : Option Addr) (n c : Nat) (xs : List Item) (o t q : Int), v = .agg #[.slice A n c, .int .i64 o, .int .i64 t, .int .i64 q] ∧ xs.length = n ∧ n ≤ 9223372036854775807 ∧ (∀ x ∈ xs, Item.wf x) ∧ Arr W A (flat Item.cells xs) ∧ I64 o ∧ I64 t ∧ I64 q := by
  obtain ⟨v0, v1, v2, v3, y0, y1, y2, y3, m, rfl, rfl, rfl, t0, t1, t2, t3⟩ := open_agg4 Try.underlying24 (by kernel_rfl) cells_Bill hval h
  obtain ⟨z1, e1, _, q1⟩ := DataW.trod_int Try.underlying2 t1
  obtain ⟨z2, e2, _, q2⟩ := DataW.trod_int Try.underlying2 t2
  obtain ⟨z3, e3, _, q3⟩ := DataW.trod_int Try.underlying2 t3
  simp only [List.cons.injEq, and_true] at e1 e2 e3
  subst e1 e2 e3
  obtain ⟨A, n, c, xs, rfl, h1, h2, h3, h4⟩ := open_ItemS_in t0
  exact ⟨A, n, c, xs, z1, z2, z3, rfl, h1, h2, h3, h4, i64_of_wf q1, i64_of_wf q2, i64_of_wf q3⟩

set_option maxRecDepth 100000 in
theorem FnExactValidBill_lifted (os : Os) (started : os.Started) (H : Type) (enc : TypeId × Value → H) :
    ReturnsInHanded {} Try.checked os 4 .any (Rows.fnExactValidBillSpec.pre6 enc Try.prog Try.f4 Rows.fnExactValidBillRow.domain false) (Rows.fnExactValidBillSpec.post enc Try.prog Try.f4 false true false false) := by
  refine returnsInHanded_of_change (C := Try.checked) ownKnob_c started (by kernel_rfl) Try.func4
    (ChangeSpec.witness6 (enc := enc) (C := Try.checked) false ⟨#[], #[.agg #[.slice none 0 0, .int .i64 0, .int .i64 0, .int .i64 0]], []⟩ 8 (by kernel_rfl) (by kernel_rfl) (by kernel_rfl) (by kernel_rfl)) ?_
  intro W base args ds gs before hval0 hW _ _
  have hval : ∀ (j : Nat) t v, Try.f4.params[j]? = some t → args[j]? = some v → Value.okWide Try.prog W .any base t v := hval0
  have hW' := hW
  obtain ⟨p, q, hA0, hV, rfl, _, _⟩ := hW
  have hA : DataW.TrodAll enc Try.prog W 0 (fun _ => true) true Try.f4.params.toList args.toList ds p := hA0
  rw [Try.params4] at hA hval
  obtain ⟨rfl, rfl⟩ := trodVars_none hV
  simp only [List.append_nil] at hW'
  have hlt : ∀ x ∈ p, x.block < W.heap.size := fun x hx => by simpa using hW'.lt x hx
  have hargs : ∀ W' : World, Below W.heap.size W W' → DataW.TrodAll enc Try.prog W' 0 (fun b => decide (b < W.heap.size)) true [24] args.toList ds p :=
    fun W' hb => trodAll_below laidOut_c hb _ _ _ _ (by intro t ht; simp only [List.mem_cons, List.not_mem_nil, or_false] at ht; subst ht; exact ⟨by kernel_rfl, of_decide_eq_true (by kernel_rfl)⟩) hA hlt
  obtain ⟨v0, d0, rfl, rfl, h0⟩ := trodAll_one hA
  obtain ⟨A, n, c, xs, o, t, q, rfl, h1, h2, h3, h4, _, _, _⟩ := open_Bill (hval 0 24 v0 rfl rfl) h0
  refine (FnExactValidBill_law A xs n c o t q (Lib.hid h1) h2 (Lib.hid (fun x hx => (h3 x hx).1)) W h4).mono fun e W' ⟨he, hb⟩ => ?_
  subst he
  exact ⟨_, rfl, _, _, _, [], _, [], hW', trodAll_mk1 (shut_bool Try.underlying4 _), hargs _ hb, rfl, hb.frame _, fun h => by cases h⟩

theorem FnExactValidBill_holds : Rows.FnExactValidBillSaid :=
  OpenClaim.holds_of_wide 4 Try.f4 rfl rfl rfl rfl rfl rfl rfl ⟨rfl, rfl, rfl, rfl, rfl⟩ rfl rfl rfl rfl rfl (by kernel_rfl) Try.func4 (by kernel_rfl)
    (of_decide_eq_true (by kernel_rfl)) (by unfold Func.isWrapper; first | (rw [if_pos (by decide +kernel)]; kernel_rfl) | (rw [if_neg (by decide +kernel)]; exact ⟨rfl, rfl⟩))
    (fun os started H enc _ => FnExactValidBill_lifted os started H enc)
end Go.Proofs.Ytgohahcdkgbocaa
