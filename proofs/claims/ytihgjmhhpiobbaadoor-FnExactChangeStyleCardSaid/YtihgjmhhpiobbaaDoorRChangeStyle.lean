/- The law FnExactChangeStyle holds for every input, the listed tables of the library as the program's text lays them (the card ties them): it returns true, and what came in reads as before. -/
import Derived.Test.YtihgjmhhpiobbaaDoorTabsR
import Derived.Test.YtihgjmhhpiobbaaDoorStyL
namespace Go.Proofs.YtihgjmhhpiobbaaDoor
open Go.ChangeShapes Go.WideShapes Go.ChangeAt Go.RowKit Go.Deep Go.Joins

section
variable {H : Type} {enc : TypeId × Value → H} {P : Program} {w : World} {base : Nat} {spare : Nat → Bool} {held : Bool}
theorem array_9 {α : Type} : ∀ {a : Array α}, a.size = 9 → ∃ c0 c1 c2 c3 c4 c5 c6 c7 c8, a = #[c0, c1, c2, c3, c4, c5, c6, c7, c8]
  | ⟨[c0, c1, c2, c3, c4, c5, c6, c7, c8]⟩, _ => ⟨c0, c1, c2, c3, c4, c5, c6, c7, c8, rfl⟩
theorem open_agg9 {r : Reach} {b0 : Nat} {t : TypeId} {f0 f1 f2 f3 f4 f5 f6 f7 f8 : Field} {v : Value} {d : DataW H} {p : List MemPlace} (hs : P.underlying t = some (.struct #[f0, f1, f2, f3, f4, f5, f6, f7, f8])) (hone : oneCellFields P #[f0, f1, f2, f3, f4, f5, f6, f7, f8] = true) (hC : P.cellsOf t = 9)
    (hv : Value.okWide P w r b0 t v) (h : DataW.Trod enc P w base spare held t v d p) :
    ∃ (v0 v1 v2 v3 v4 v5 v6 v7 v8 : Value) (y0 y1 y2 y3 y4 y5 y6 y7 y8 : DataW H × List MemPlace) (n : Nat), v = .agg #[v0, v1, v2, v3, v4, v5, v6, v7, v8] ∧ d = .agg [y0.1, y1.1, y2.1, y3.1, y4.1, y5.1, y6.1, y7.1, y8.1] ∧ p = y0.2 ++ (y1.2 ++ (y2.2 ++ (y3.2 ++ (y4.2 ++ (y5.2 ++ (y6.2 ++ (y7.2 ++ y8.2))))))) ∧
      DataW.trod enc P w base spare held n f0.type [v0] = some y0 ∧ DataW.trod enc P w base spare held n f1.type [v1] = some y1 ∧ DataW.trod enc P w base spare held n f2.type [v2] = some y2 ∧ DataW.trod enc P w base spare held n f3.type [v3] = some y3 ∧ DataW.trod enc P w base spare held n f4.type [v4] = some y4 ∧ DataW.trod enc P w base spare held n f5.type [v5] = some y5 ∧ DataW.trod enc P w base spare held n f6.type [v6] = some y6 ∧ DataW.trod enc P w base spare held n f7.type [v7] = some y7 ∧ DataW.trod enc P w base spare held n f8.type [v8] = some y8 := by
  obtain ⟨cs, rfl, hsz⟩ := okWide_struct hs hv
  obtain ⟨c0, c1, c2, c3, c4, c5, c6, c7, c8, rfl⟩ := array_9 (hsz.trans hC)
  obtain ⟨fuel, hf⟩ := h
  obtain ⟨xs, n, _, hx, hl, hlen, hf⟩ := DataW.trod_struct hs hf
  match xs, hlen, hx, hf with
  | [y0, y1, y2, y3, y4, y5, y6, y7, y8], _, hx, hf =>
    obtain ⟨o0, k0⟩ := hone_of hone 0 f0 rfl
    have h0 := hf 0 f0 rfl
    obtain ⟨o1, k1⟩ := hone_of hone 1 f1 rfl
    have h1 := hf 1 f1 rfl
    obtain ⟨o2, k2⟩ := hone_of hone 2 f2 rfl
    have h2 := hf 2 f2 rfl
    obtain ⟨o3, k3⟩ := hone_of hone 3 f3 rfl
    have h3 := hf 3 f3 rfl
    obtain ⟨o4, k4⟩ := hone_of hone 4 f4 rfl
    have h4 := hf 4 f4 rfl
    obtain ⟨o5, k5⟩ := hone_of hone 5 f5 rfl
    have h5 := hf 5 f5 rfl
    obtain ⟨o6, k6⟩ := hone_of hone 6 f6 rfl
    have h6 := hf 6 f6 rfl
    obtain ⟨o7, k7⟩ := hone_of hone 7 f7 rfl
    have h7 := hf 7 f7 rfl
    obtain ⟨o8, k8⟩ := hone_of hone 8 f8 rfl
    have h8 := hf 8 f8 rfl
    simp only [Prod.mk.injEq] at hx
    exact ⟨c0, c1, c2, c3, c4, c5, c6, c7, c8, y0, y1, y2, y3, y4, y5, y6, y7, y8, n, rfl, by simpa using hx.1, by simpa using hx.2, by simpa [Value.cells, o0, k0] using h0, by simpa [Value.cells, o1, k1] using h1, by simpa [Value.cells, o2, k2] using h2, by simpa [Value.cells, o3, k3] using h3, by simpa [Value.cells, o4, k4] using h4, by simpa [Value.cells, o5, k5] using h5, by simpa [Value.cells, o6, k6] using h6, by simpa [Value.cells, o7, k7] using h7, by simpa [Value.cells, o8, k8] using h8⟩
end

def Style.wf (x : Style) : Prop := x.upper.size ≤ 9223372036854775807 ∧ x.color.size ≤ 9223372036854775807 ∧ x.lining.size ≤ 9223372036854775807 ∧ x.sole.size ≤ 9223372036854775807 ∧ I64 x.thick ∧ I64 x.heel ∧ I64 x.eyelets ∧ I64 x.density ∧ (x.double = true ∨ x.double = false)
theorem cells_Style : Tryd.prog.cellsOf 23 = 9 := by kernel_rfl
set_option maxRecDepth 100000 in
theorem open_Style {H : Type} {enc : TypeId × Value → H} {W : World} {base : Nat} {v : Value} {d : DataW H} {p : List MemPlace} (hval : Value.okWide Tryd.prog W .any base 23 v)
    (h : DataW.Trod enc Tryd.prog W 0 (fun _ => true) true 23 v d p) : ∃ x : Style, v = .agg #[.string x.upper, .string x.color, .string x.lining, .string x.sole, .int .i64 x.thick, .int .i64 x.heel, .int .i64 x.eyelets, .int .i64 x.density, .bool x.double] ∧ Style.wf x := by
  obtain ⟨v0, v1, v2, v3, v4, v5, v6, v7, v8, y0, y1, y2, y3, y4, y5, y6, y7, y8, m, rfl, rfl, rfl, t0, t1, t2, t3, t4, t5, t6, t7, t8⟩ := open_agg9 Tryd.underlying23 (by kernel_rfl) cells_Style hval h
  obtain ⟨z0, e0, _, q0⟩ := DataW.trod_string Tryd.underlying9 t0
  simp only [List.cons.injEq, and_true] at e0
  subst e0
  obtain ⟨z1, e1, _, q1⟩ := DataW.trod_string Tryd.underlying9 t1
  simp only [List.cons.injEq, and_true] at e1
  subst e1
  obtain ⟨z2, e2, _, q2⟩ := DataW.trod_string Tryd.underlying9 t2
  simp only [List.cons.injEq, and_true] at e2
  subst e2
  obtain ⟨z3, e3, _, q3⟩ := DataW.trod_string Tryd.underlying9 t3
  simp only [List.cons.injEq, and_true] at e3
  subst e3
  obtain ⟨z4, e4, _, q4⟩ := DataW.trod_int Tryd.underlying2 t4
  simp only [List.cons.injEq, and_true] at e4
  subst e4
  obtain ⟨z5, e5, _, q5⟩ := DataW.trod_int Tryd.underlying2 t5
  simp only [List.cons.injEq, and_true] at e5
  subst e5
  obtain ⟨z6, e6, _, q6⟩ := DataW.trod_int Tryd.underlying2 t6
  simp only [List.cons.injEq, and_true] at e6
  subst e6
  obtain ⟨z7, e7, _, q7⟩ := DataW.trod_int Tryd.underlying2 t7
  simp only [List.cons.injEq, and_true] at e7
  subst e7
  obtain ⟨z8, e8, _⟩ := DataW.trod_bool Tryd.underlying4 t8
  simp only [List.cons.injEq, and_true] at e8
  subst e8
  exact ⟨⟨z0, z1, z2, z3, z4, z5, z6, z7, z8⟩, rfl, ⟨by have := q0; unfold maxLen at this; omega, by have := q1; unfold maxLen at this; omega, by have := q2; unfold maxLen at this; omega, by have := q3; unfold maxLen at this; omega, i64_of_wf q4, i64_of_wf q5, i64_of_wf q6, i64_of_wf q7, by cases z8 <;> simp⟩⟩

set_option maxRecDepth 100000 in
theorem FnExactChangeStyle_lifted (os : Os) (started : os.Started) (H : Type) (enc : TypeId × Value → H) :
    ReturnsInHanded {} Tryd.checked os 3 .any (fun w args => (Rows.fnExactChangeStyleSpec.pre enc Tryd.prog Tryd.f3 [] false w args ∧ laidMetH Tryd.prog Rows.fnExactChangeStyleRow.laid w) ∧ sizedMet enc Tryd.prog Tryd.f3 (OpenSpec.ofChange Rows.fnExactChangeStyleSpec) false w args)
      (Rows.fnExactChangeStyleSpec.post enc Tryd.prog Tryd.f3 false true false false) := by
  refine handed_and_shaped (C := Tryd.checked) (X := fun w _ => laidMetH Tryd.prog Rows.fnExactChangeStyleRow.laid w) (fun _ _ _ hh h => h.of_heap hh) ownKnob_c started (by kernel_rfl) Tryd.func3
    (ChangeSpec.witness_shaped (enc := enc) (C := Tryd.checked) (os := os) (X := fun w _ => laidMetH Tryd.prog Rows.fnExactChangeStyleRow.laid w) false (World.laidAll Tryd.prog os Rows.fnExactChangeStyleRow.laid) #[.agg #[.string ByteArray.empty, .string ByteArray.empty, .string ByteArray.empty, .string ByteArray.empty, .int .i64 0, .int .i64 0, .int .i64 0, .int .i64 0, .bool false], .string ByteArray.empty] 8 (World.laidAll_os _ _ _)
      (World.shaped_of_ZipB (by kernel_rfl) (by kernel_rfl)) (by kernel_rfl) (by kernel_rfl) (by kernel_rfl)
      (by rw [MakeChecks.laidMetH_plain _ _ _ (by kernel_rfl)]; exact laidMet_laidAll _ (by kernel_rfl) (by kernel_rfl))) ?_
  intro W base args ds gs before hval0 hW hL hsh
  have hval : ∀ (j : Nat) t v, Tryd.f3.params[j]? = some t → args[j]? = some v → Value.okWide Tryd.prog W .any base t v := hval0
  have hW' := hW
  obtain ⟨p, q, hA0, hV, rfl, _, _⟩ := hW
  have hA : DataW.TrodAll enc Tryd.prog W 0 (fun _ => true) true Tryd.f3.params.toList args.toList ds p := hA0
  rw [Tryd.params3] at hA hval
  obtain ⟨rfl, rfl⟩ := trodVars_none hV
  simp only [List.append_nil] at hW'
  have hlt : ∀ x ∈ p, x.block < W.heap.size := fun x hx => by simpa using hW'.lt x hx
  have hargs : ∀ W' : World, Below W.heap.size W W' → DataW.TrodAll enc Tryd.prog W' 0 (fun b => decide (b < W.heap.size)) true [23, 9] args.toList ds p :=
    fun W' hb => trodAll_below laidOut_c hb _ _ _ _ (by
      intro t ht
      simp only [List.mem_cons, List.not_mem_nil, or_false] at ht
      rcases ht with rfl | rfl <;> exact ⟨by kernel_rfl, of_decide_eq_true (by kernel_rfl)⟩) hA hlt
  obtain ⟨v0, vs0, d0, ds0, p0, q0, hargs', rfl, rfl, h0, r0⟩ := trodAll_cons hA
  obtain ⟨v1, vs1, d1, ds1, p1, q1, rfl, rfl, rfl, h1, r1⟩ := trodAll_cons r0
  obtain ⟨rfl, rfl, rfl⟩ := trodAll_nil r1
  obtain rfl : args = #[v0, v1] := by cases args; simp_all
  obtain ⟨x0, rfl, wx0⟩ := open_Style (hval 0 23 v0 rfl rfl) h0
  obtain ⟨s1, rfl, rfl, rfl, ws1⟩ := Go.ChangeMaps.open_string Tryd.underlying9 (hval 1 9 v1 rfl rfl) h1
  refine (FnExactChangeStyle_law x0 ⟨wx0.1, wx0.2.1, wx0.2.2.1, wx0.2.2.2.1⟩ ⟨wx0.2.2.2.2.1, wx0.2.2.2.2.2.1, wx0.2.2.2.2.2.2.1, wx0.2.2.2.2.2.2.2.1⟩ s1 (by have := ws1; unfold maxLen at this; omega) W (tabs_of hL hsh)).mono fun e W' ⟨he, hb⟩ => ?_
  subst he
  exact ⟨_, rfl, _, _, _, [], _, [], hW', trodAll_mk1 (shut_bool Tryd.underlying4 _), hargs _ hb, rfl, hb.frame _, fun h => by cases h⟩

theorem FnExactChangeStyle_row : Rows.FnExactChangeStyleSaid :=
  OpenClaim.holds_of_wide 3 Tryd.f3 rfl rfl rfl rfl rfl rfl rfl ⟨rfl, rfl, rfl, rfl, rfl⟩ rfl rfl rfl rfl rfl (by kernel_rfl) Tryd.func3 (by kernel_rfl)
    (of_decide_eq_true (by kernel_rfl)) (by unfold Func.isWrapper; first | (rw [if_pos (by decide +kernel)]; kernel_rfl) | (rw [if_neg (by decide +kernel)]; exact ⟨rfl, rfl⟩))
    (fun os started H enc _ => FnExactChangeStyle_lifted os started H enc)

theorem FnExactChangeStyle_holds : Rows.FnExactChangeStyleCardSaid :=
  Claim7.holds_tied_plain_at .later [] [.data, .data, .data, .data, .sentinel, .sentinel, .pinned] true (true, (Rows.fnExactChangeStyleCard.stood.harness).2) true
    FnExactChangeStyle_row (fun _ h => by cases h) (by kernel_rfl) (fun _ h => by cases h) fnExactChangeStyle_row_tie rfl ⟨rfl, rfl⟩ (by kernel_rfl) rfl
    (fun f fn hf hfn => by
      obtain rfl : f = 3 := Option.some.inj ((show Tryd.prog.funcNamed "loop.example/g01043/laws.FnExactChangeStyle" = some 3 by kernel_rfl).symm.trans hf) |>.symm
      obtain rfl : fn = Tryd.f3 := (Option.some.inj (Tryd.func3.symm.trans hfn)).symm
      exact ⟨by kernel_rfl, fun j t ht => by
        rw [Tryd.params3] at ht
        have hm : t ∈ [23, 9] := by simpa using Array.mem_of_getElem? ht
        have hall : ([23, 9].all fun u => !Tryd.prog.wantsStandIn u) = true := by kernel_rfl
        exact (show Tryd.prog.wantsStandIn t = false by simpa using List.all_eq_true.1 hall t hm)⟩)
    (by kernel_rfl)

end Go.Proofs.YtihgjmhhpiobbaaDoor
