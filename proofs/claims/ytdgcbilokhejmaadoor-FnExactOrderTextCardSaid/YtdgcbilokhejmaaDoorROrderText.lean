/- The law FnExactOrderText holds for every input, the listed tables as the program's text lays them (the card ties them): it returns true, and what came in reads as before. -/
import Derived.Test.YtdgcbilokhejmaaDoorCards
import Derived.Test.YtdgcbilokhejmaaDoorTie
import Derived.Test.YtdgcbilokhejmaaDoorRow
import Derived.Test.YtdgcbilokhejmaaDoorOText
import Derived.Lib.LaidTab
import Derived.ChangeVars
import Derived.LaidMore
import Derived.Stop.Joined
import Derived.SevenTiedAt
import Derived.WalkSmall
namespace Go.Proofs.YtdgcbilokhejmaaDoor
open Go.ChangeShapes Go.WideShapes Go.ChangeAt Go.RowKit Go.Deep Go.Joins

theorem t_pow10 : (Tryd.prog.globals[1]?).map (·.type) = some 114 := by kernel_rfl
theorem c_u64 : Tryd.prog.cellsOf 107 = 1 := by kernel_rfl
theorem c_pow10 : Tryd.prog.cellsOf 114 = 20 := by kernel_rfl
theorem pow10_data : (Rows.laid_internal_strconv_uint64pow10 : DataW Unit) = Lib.tabData .u64 Lib.pow10Tab := by kernel_rfl
theorem g_Words : Tryd.prog.globalNamed "loop.example/g01043/impl.stageWords" = some 0 := by kernel_rfl
theorem t_Words : (Tryd.prog.globals[0]?).map (·.type) = some 91 := by kernel_rfl
theorem c_string : Tryd.prog.cellsOf 9 = 1 := by kernel_rfl
theorem c_Words : Tryd.prog.cellsOf 91 = 5 := by kernel_rfl
theorem bytes_of {s : ByteArray} {l : List UInt8} (h : s.data.toList = l) : s = ⟨l.toArray⟩ := by
  cases s with
  | mk d => cases d with
    | mk q => simp at h; subst h; rfl
theorem both_of_laid {W : World} (h : laidMetH Tryd.prog Rows.fnExactOrderTextRow.laid W) : Pow10 W ∧ Words W := by
  rw [MakeChecks.laidMetH_plain _ _ _ (by kernel_rfl)] at h
  obtain ⟨ps, ⟨_, _, _, _, _, _, _, _, _, _, ⟨_, _, _, _, _, _, _, _, _, _, ⟨g, t, cs, f, p, q, hg, ht, hv, hd, ⟨g0, t0, cs0, f0, p0, q0, hg0, ht0, hv0, hd0, _, _⟩, _⟩, _⟩, _⟩, _, _⟩ := h
  constructor
  · obtain rfl := Option.some.inj (g_pow10.symm.trans hg)
    obtain rfl := Option.some.inj (t_pow10.symm.trans ht)
    rw [pow10_data] at hd
    unfold Pow10 Lib.TabIs
    rw [hv, ← Lib.cells_of_tab Tryd.underlying114 Tryd.underlying107 c_u64 c_pow10 hd]
  · obtain rfl := Option.some.inj (g_Words.symm.trans hg0)
    obtain rfl := Option.some.inj (t_Words.symm.trans ht0)
    obtain ⟨xs, m1, rfl, hx1, hlen, hn, hel⟩ := DataW.trod_array Tryd.underlying91 hd0
    simp only [Prod.mk.injEq] at hx1
    have hcell : ∀ i, World.cell? W ⟨0, i, none⟩ = cs0.toList[i]? := fun i => by simpa using World.var?_cell hg0 hv0 i
    rw [c_string] at hel
    have key : ∀ i, i < 5 → ∃ s : ByteArray, cs0.toList[i]? = some (.string s) ∧ (xs.map (·.1))[i]? = some (.lit (.string s.data.toList)) := by
      intro i hi
      have h1 := hel i hi
      obtain ⟨y, hy⟩ : ∃ y, xs[i]? = some y := ⟨_, List.getElem?_eq_getElem (by omega)⟩
      rw [hy] at h1
      obtain ⟨s, e1, e2, _⟩ := DataW.trod_string Tryd.underlying9 h1
      refine ⟨s, ?_, by rw [List.getElem?_map, hy, e2]; rfl⟩
      have h2 : ((cs0.toList.drop (i * 1)).take 1)[0]? = some (.string s) := by rw [e1]; rfl
      simpa [List.getElem?_take, List.getElem?_drop] using h2
    have fin : ∀ (i : Nat) (l : List UInt8), i < 5 → (xs.map (·.1))[i]? = some (.lit (.string l)) → W.cell? ⟨0, i, none⟩ = some (.string ⟨l.toArray⟩) := by
      intro i l hi hl
      obtain ⟨s, h1, h2⟩ := key i hi
      rw [hl] at h2
      have h3 : l = s.data.toList := by simpa using h2
      rw [hcell, h1, bytes_of h3.symm]
    have hD := hx1.1
    simp only [Rows.laid_loop_example_g01043_impl_stageWords, DataW.agg.injEq] at hD
    rw [← hD] at fin
    exact ⟨fin 0 _ (by omega) rfl, fin 1 _ (by omega) rfl, fin 2 _ (by omega) rfl, fin 3 _ (by omega) rfl, fin 4 _ (by omega) rfl⟩
theorem words_of_laid {W : World} (h : laidMetH Tryd.prog Rows.fnExactOrderTextRow.laid W) : Words W := (both_of_laid h).2
section
variable {H : Type} {enc : TypeId × Value → H} {P : Program} {w : World} {base : Nat} {spare : Nat → Bool} {held : Bool}
theorem array_6 {α : Type} : ∀ {a : Array α}, a.size = 6 → ∃ c0 c1 c2 c3 c4 c5, a = #[c0, c1, c2, c3, c4, c5]
  | ⟨[c0, c1, c2, c3, c4, c5]⟩, _ => ⟨c0, c1, c2, c3, c4, c5, rfl⟩
theorem open_agg6 {r : Reach} {b0 : Nat} {t : TypeId} {f0 f1 f2 f3 f4 f5 : Field} {v : Value} {d : DataW H} {p : List MemPlace} (hs : P.underlying t = some (.struct #[f0, f1, f2, f3, f4, f5])) (hone : oneCellFields P #[f0, f1, f2, f3, f4, f5] = true) (hC : P.cellsOf t = 6)
    (hv : Value.okWide P w r b0 t v) (h : DataW.Trod enc P w base spare held t v d p) :
    ∃ (v0 v1 v2 v3 v4 v5 : Value) (y0 y1 y2 y3 y4 y5 : DataW H × List MemPlace) (n : Nat), v = .agg #[v0, v1, v2, v3, v4, v5] ∧ d = .agg [y0.1, y1.1, y2.1, y3.1, y4.1, y5.1] ∧ p = y0.2 ++ (y1.2 ++ (y2.2 ++ (y3.2 ++ (y4.2 ++ y5.2)))) ∧
      DataW.trod enc P w base spare held n f0.type [v0] = some y0 ∧ DataW.trod enc P w base spare held n f1.type [v1] = some y1 ∧ DataW.trod enc P w base spare held n f2.type [v2] = some y2 ∧ DataW.trod enc P w base spare held n f3.type [v3] = some y3 ∧ DataW.trod enc P w base spare held n f4.type [v4] = some y4 ∧ DataW.trod enc P w base spare held n f5.type [v5] = some y5 := by
  obtain ⟨cs, rfl, hsz⟩ := okWide_struct hs hv
  obtain ⟨c0, c1, c2, c3, c4, c5, rfl⟩ := array_6 (hsz.trans hC)
  obtain ⟨fuel, hf⟩ := h
  obtain ⟨xs, n, _, hx, hl, hlen, hf⟩ := DataW.trod_struct hs hf
  match xs, hlen, hx, hf with
  | [y0, y1, y2, y3, y4, y5], _, hx, hf =>
    obtain ⟨o0, k0⟩ := hone_of hone 0 f0 rfl
    have h0 := hf 0 f0 rfl
    obtain ⟨o1, k1⟩ := hone_of hone 1 f1 rfl
    have h1 := hf 1 f1 rfl
    obtain ⟨o2, k2⟩ := hone_of hone 2 f2 rfl
    have h2 := hf 2 f2 rfl
    obtain ⟨o3, k3⟩ := hone_of hone 3 f3 rfl
    have h3 := hf 3 f3 rfl
    obtain ⟨o4, k4⟩ := hone_of hone 4 f4 rfl
    have h4 := hf 4 f4 rfl
    obtain ⟨o5, k5⟩ := hone_of hone 5 f5 rfl
    have h5 := hf 5 f5 rfl
    simp only [Prod.mk.injEq] at hx
    exact ⟨c0, c1, c2, c3, c4, c5, y0, y1, y2, y3, y4, y5, n, rfl, by simpa using hx.1, by simpa using hx.2, by simpa [Value.cells, o0, k0] using h0, by simpa [Value.cells, o1, k1] using h1, by simpa [Value.cells, o2, k2] using h2, by simpa [Value.cells, o3, k3] using h3, by simpa [Value.cells, o4, k4] using h4, by simpa [Value.cells, o5, k5] using h5⟩
end

def Order.wf (x : Order) : Prop := I64 x.id ∧ x.customer.size ≤ 9223372036854775807 ∧ I64 x.stage ∧ I64 x.due ∧ I64 x.left ∧ I64 x.fittings
theorem cells_Order : Tryd.prog.cellsOf 23 = 6 := by kernel_rfl
set_option maxRecDepth 100000 in
theorem open_Order {H : Type} {enc : TypeId × Value → H} {W : World} {base : Nat} {v : Value} {d : DataW H} {p : List MemPlace} (hval : Value.okWide Tryd.prog W .any base 23 v)
    (h : DataW.Trod enc Tryd.prog W 0 (fun _ => true) true 23 v d p) : ∃ x : Order, v = .agg #[.int .i64 x.id, .string x.customer, .int .i64 x.stage, .int .i64 x.due, .int .i64 x.left, .int .i64 x.fittings] ∧ Order.wf x := by
  obtain ⟨v0, v1, v2, v3, v4, v5, y0, y1, y2, y3, y4, y5, m, rfl, rfl, rfl, t0, t1, t2, t3, t4, t5⟩ := open_agg6 Tryd.underlying23 (by kernel_rfl) cells_Order hval h
  obtain ⟨z0, e0, _, q0⟩ := DataW.trod_int Tryd.underlying2 t0
  simp only [List.cons.injEq, and_true] at e0
  subst e0
  obtain ⟨z1, e1, _, q1⟩ := DataW.trod_string Tryd.underlying9 t1
  simp only [List.cons.injEq, and_true] at e1
  subst e1
  obtain ⟨z2, e2, _, q2⟩ := DataW.trod_int Tryd.underlying2 t2
  simp only [List.cons.injEq, and_true] at e2
  subst e2
  obtain ⟨z3, e3, _, q3⟩ := DataW.trod_int Tryd.underlying2 t3
  simp only [List.cons.injEq, and_true] at e3
  subst e3
  obtain ⟨z4, e4, _, q4⟩ := DataW.trod_int Tryd.underlying2 t4
  simp only [List.cons.injEq, and_true] at e4
  subst e4
  obtain ⟨z5, e5, _, q5⟩ := DataW.trod_int Tryd.underlying2 t5
  simp only [List.cons.injEq, and_true] at e5
  subst e5
  exact ⟨⟨z0, z1, z2, z3, z4, z5⟩, rfl, ⟨i64_of_wf q0, by have := q1; unfold maxLen at this; omega, i64_of_wf q2, i64_of_wf q3, i64_of_wf q4, i64_of_wf q5⟩⟩

theorem FnExactOrderText_door (os : Os) (args : Array Value) : laidMetH Tryd.prog Rows.fnExactOrderTextRow.laid ((World.doorLaid Tryd.prog 400 os).forCall (fun _ _ => 0) ⟨#[], args, []⟩).memory :=
  laidMetH_of_parts3 (fuel := 8) (laidMet_of_run' 8 (by kernel_rfl) (by kernel_rfl)) (by kernel_rfl) (by kernel_rfl)
set_option maxRecDepth 100000 in
theorem FnExactOrderText_lifted (os : Os) (started : os.Started) (H : Type) (enc : TypeId × Value → H) :
    ReturnsInHanded {} Tryd.checked os 3 .any (fun w args => (Rows.fnExactOrderTextSpec.pre enc Tryd.prog Tryd.f3 [] false w args ∧ laidMetH Tryd.prog Rows.fnExactOrderTextRow.laid w) ∧ sizedMet enc Tryd.prog Tryd.f3 (OpenSpec.ofChange Rows.fnExactOrderTextSpec) false w args)
      (Rows.fnExactOrderTextSpec.post enc Tryd.prog Tryd.f3 false true false false) := by
  refine returnsInHanded_of_change_and (C := Tryd.checked) (X := fun w _ => laidMetH Tryd.prog Rows.fnExactOrderTextRow.laid w) (fun _ _ _ hh h => h.of_heap hh) ownKnob_c started (by kernel_rfl) Tryd.func3
    (ChangeSpec.witness_shaped (enc := enc) (C := Tryd.checked) (os := os) (X := fun w _ => laidMetH Tryd.prog Rows.fnExactOrderTextRow.laid w) false (World.doorLaid Tryd.prog 400 os) #[.agg #[.int .i64 0, .string ByteArray.empty, .int .i64 0, .int .i64 0, .int .i64 0, .int .i64 0]] 8 rfl (World.shaped_of_RefB (by kernel_rfl) (by kernel_rfl)) (by kernel_rfl) (by kernel_rfl) (by kernel_rfl) (FnExactOrderText_door os _)) ?_
  intro W base args ds gs before hval0 hW _ _ hL _
  have hval : ∀ (j : Nat) t v, Tryd.f3.params[j]? = some t → args[j]? = some v → Value.okWide Tryd.prog W .any base t v := hval0
  have hW' := hW
  obtain ⟨p, q, hA0, hV, rfl, _, _⟩ := hW
  have hA : DataW.TrodAll enc Tryd.prog W 0 (fun _ => true) true Tryd.f3.params.toList args.toList ds p := hA0
  rw [Tryd.params3] at hA hval
  have hlt0 : ∀ x ∈ p ++ q, x.block < W.heap.size := fun x hx => by simpa using hW'.lt x hx
  obtain ⟨gW, tW, csW, fuelW, dW, pW, rfl, hgW, htW, hvarW, hdW, rfl⟩ := trodVars_one hV
  obtain rfl := Option.some.inj (g_Words.symm.trans hgW)
  obtain rfl := Option.some.inj (t_Words.symm.trans htW)
  have hlt : ∀ x ∈ p, x.block < W.heap.size := fun x hx => hlt0 x (by simp [hx])
  have hargs : ∀ W' : World, Below W.heap.size W W' → DataW.TrodAll enc Tryd.prog W' 0 (fun b => decide (b < W.heap.size)) true [23] args.toList ds p :=
    fun W' hb => trodAll_below laidOut_c hb _ _ _ _ (by
      intro t ht
      simp only [List.mem_cons, List.not_mem_nil, or_false] at ht
      rcases ht with rfl <;> exact ⟨by kernel_rfl, of_decide_eq_true (by kernel_rfl)⟩) hA hlt
  obtain ⟨v0, vs0, d0, ds0, p0, q0, hargs', rfl, rfl, h0, r0⟩ := trodAll_cons hA
  obtain ⟨rfl, rfl, rfl⟩ := trodAll_nil r0
  obtain rfl : args = #[v0] := by cases args; simp_all
  obtain ⟨x0, rfl, wx0⟩ := open_Order (hval 0 23 v0 rfl rfl) h0
  refine (FnExactOrderText_law x0 wx0.2.1 W (both_of_laid hL).1 (both_of_laid hL).2).mono fun e W' ⟨he, hb⟩ => ?_
  subst he
  have hTd : DataW.Trod enc Tryd.prog W 0 (fun _ => true) true 91 (.agg csW) dW pW := ⟨fuelW, by
    have h : DataW.trod enc Tryd.prog W 0 (fun _ => true) true fuelW 91 csW.toList = some (dW, pW) := hdW
    simpa [Value.cells] using h⟩
  obtain ⟨fuel', hd'⟩ := Below.trod laidOut_c (by kernel_rfl) (of_decide_eq_true (by kernel_rfl)) hTd hb (fun x hx => hlt0 x (by simp [hx]))
  have hvar' := var?_below hb hgW (block_lt_of_cell (words_of_laid hL).1) hvarW
  exact ⟨_, rfl, _, _, _, [], _, _, hW', trodAll_mk1 (shut_bool Tryd.underlying4 _), hargs _ hb, trodVars_mk1 hgW htW hvar' (show DataW.trod enc Tryd.prog W' 0 (fun b => decide (b < W.heap.size)) true fuel' 91 csW.toList = some (dW, pW) from by simpa [Value.cells] using hd'), hb.frame _, fun h => by cases h⟩

theorem FnExactOrderText_row : Rows.FnExactOrderTextSaid :=
  OpenClaim.holds_of_wide 3 Tryd.f3 rfl rfl rfl rfl rfl rfl rfl ⟨rfl, rfl, rfl, rfl, rfl⟩ rfl rfl rfl rfl rfl (by kernel_rfl) Tryd.func3 (by kernel_rfl)
    (of_decide_eq_true (by kernel_rfl)) (by unfold Func.isWrapper; first | (rw [if_pos (by decide +kernel)]; kernel_rfl) | (rw [if_neg (by decide +kernel)]; exact ⟨rfl, rfl⟩))
    (fun os started H enc _ => FnExactOrderText_lifted os started H enc)

theorem FnExactOrderText_holds : Rows.FnExactOrderTextCardSaid :=
  Claim7.holds_tied_plain_at .later [] [.data, .data, .data, .widerDeep] true (true, (Rows.fnExactOrderTextCard.stood.harness).2) false
    FnExactOrderText_row (fun _ h => by cases h) (by kernel_rfl) (fun _ h => by cases h) fnExactOrderText_row_tie rfl ⟨rfl, rfl⟩ (by kernel_rfl) rfl
    (fun f fn hf hfn => by
      obtain rfl : f = 3 := Option.some.inj ((show Tryd.prog.funcNamed "loop.example/g01043/laws.FnExactOrderText" = some 3 by kernel_rfl).symm.trans hf) |>.symm
      obtain rfl : fn = Tryd.f3 := (Option.some.inj (Tryd.func3.symm.trans hfn)).symm
      exact ⟨by kernel_rfl, fun j t ht => by
        rw [Tryd.params3] at ht
        have hm : t ∈ [23] := by simpa using Array.mem_of_getElem? ht
        have hall : ([23].all fun u => !Tryd.prog.wantsStandIn u) = true := by kernel_rfl
        exact (show Tryd.prog.wantsStandIn t = false by simpa using List.all_eq_true.1 hall t hm)⟩)
    (by kernel_rfl)

end Go.Proofs.YtdgcbilokhejmaaDoor
