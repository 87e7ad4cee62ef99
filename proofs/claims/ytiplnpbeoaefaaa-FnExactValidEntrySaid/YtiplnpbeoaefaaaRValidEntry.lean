/- The law FnExactValidEntry holds for every input: it returns true, and what came in reads as before. No condition. -/
import Derived.Test.YtiplnpbeoaefaaaRow
import Derived.Test.YtiplnpbeoaefaaaEntA
namespace Go.Proofs.Ytiplnpbeoaefaaa
open Go.ChangeShapes Go.WideShapes Go.ChangeAt Go.RowKit Go.Deep Go.Joins

def Entry.wf (x : Entry) : Prop := I64 x.day ∧ x.what.size ≤ 9223372036854775807 ∧ I64 x.value
theorem cells_Entry : Try.prog.cellsOf 51 = 3 := by kernel_rfl
set_option maxRecDepth 100000 in
theorem open_Entry {H : Type} {enc : TypeId × Value → H} {W : World} {base : Nat} {v : Value} {d : DataW H} {p : List MemPlace} (hval : Value.okWide Try.prog W .any base 51 v)
    (h : DataW.Trod enc Try.prog W 0 (fun _ => true) true 51 v d p) : ∃ x : Entry, v = .agg #[.int .i64 x.day, .string x.what, .int .i64 x.value] ∧ Entry.wf x := by
  obtain ⟨v0, v1, v2, y0, y1, y2, m, rfl, rfl, rfl, t0, t1, t2⟩ := open_agg3 Try.underlying51 (by kernel_rfl) cells_Entry hval h
  obtain ⟨z0, e0, _, q0⟩ := DataW.trod_int Try.underlying2 t0
  simp only [List.cons.injEq, and_true] at e0
  subst e0
  obtain ⟨z1, e1, _, q1⟩ := DataW.trod_string Try.underlying9 t1
  simp only [List.cons.injEq, and_true] at e1
  subst e1
  obtain ⟨z2, e2, _, q2⟩ := DataW.trod_int Try.underlying2 t2
  simp only [List.cons.injEq, and_true] at e2
  subst e2
  exact ⟨⟨z0, z1, z2⟩, rfl, ⟨i64_of_wf q0, by have := q1; unfold maxLen at this; omega, i64_of_wf q2⟩⟩

set_option maxRecDepth 100000 in
theorem FnExactValidEntry_lifted (os : Os) (started : os.Started) (H : Type) (enc : TypeId × Value → H) :
    ReturnsInHanded {} Try.checked os 9 .any (Rows.fnExactValidEntrySpec.pre6 enc Try.prog Try.f9 Rows.fnExactValidEntryRow.domain false) (Rows.fnExactValidEntrySpec.post enc Try.prog Try.f9 false true false false) := by
  refine returnsInHanded_of_change (C := Try.checked) ownKnob_c started (by kernel_rfl) Try.func9
    (ChangeSpec.witness6 (enc := enc) (C := Try.checked) false ⟨#[], #[.agg #[.int .i64 0, .string ByteArray.empty, .int .i64 0]], []⟩ 8 (by kernel_rfl) (by kernel_rfl) (by kernel_rfl) (by kernel_rfl)) ?_
  intro W base args ds gs before hval0 hW _ _
  have hval : ∀ (j : Nat) t v, Try.f9.params[j]? = some t → args[j]? = some v → Value.okWide Try.prog W .any base t v := hval0
  have hW' := hW
  obtain ⟨p, q, hA0, hV, rfl, _, _⟩ := hW
  have hA : DataW.TrodAll enc Try.prog W 0 (fun _ => true) true Try.f9.params.toList args.toList ds p := hA0
  rw [Try.params9] at hA hval
  obtain ⟨rfl, rfl⟩ := trodVars_none hV
  simp only [List.append_nil] at hW'
  have hlt : ∀ x ∈ p, x.block < W.heap.size := fun x hx => by simpa using hW'.lt x hx
  have hargs : ∀ W' : World, Below W.heap.size W W' → DataW.TrodAll enc Try.prog W' 0 (fun b => decide (b < W.heap.size)) true [51] args.toList ds p :=
    fun W' hb => trodAll_below laidOut_c hb _ _ _ _ (by
      intro t ht
      simp only [List.mem_cons, List.not_mem_nil, or_false] at ht
      rcases ht with rfl <;> exact ⟨by kernel_rfl, of_decide_eq_true (by kernel_rfl)⟩) hA hlt
  obtain ⟨v0, vs0, d0, ds0, p0, q0, hargs', rfl, rfl, h0, r0⟩ := trodAll_cons hA
  obtain ⟨rfl, rfl, rfl⟩ := trodAll_nil r0
  obtain rfl : args = #[v0] := by cases args; simp_all
  obtain ⟨x0, rfl, wx0⟩ := open_Entry (hval 0 51 v0 rfl rfl) h0
  refine (FnExactValidEntry_law x0 wx0.2.1 W).mono fun e W' ⟨he, hb⟩ => ?_
  subst he
  exact ⟨_, rfl, _, _, _, [], _, [], hW', trodAll_mk1 (shut_bool Try.underlying4 _), hargs _ hb, rfl, hb.frame _, fun h => by cases h⟩

theorem FnExactValidEntry_holds : Rows.FnExactValidEntrySaid :=
  OpenClaim.holds_of_wide 9 Try.f9 rfl rfl rfl rfl rfl rfl rfl ⟨rfl, rfl, rfl, rfl, rfl⟩ rfl rfl rfl rfl rfl (by kernel_rfl) Try.func9 (by kernel_rfl)
    (of_decide_eq_true (by kernel_rfl)) (by unfold Func.isWrapper; first | (rw [if_pos (by decide +kernel)]; kernel_rfl) | (rw [if_neg (by decide +kernel)]; exact ⟨rfl, rfl⟩))
    (fun os started H enc _ => FnExactValidEntry_lifted os started H enc)

end Go.Proofs.Ytiplnpbeoaefaaa
