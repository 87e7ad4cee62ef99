/- The law FnShoeOrders holds for every input, the listed tables as the program's text lays them (the card ties them): it returns true, and what came in reads as before. -/
import Derived.Test.YtapnllbbdfoaaaaGreatDoorTabsR
import Derived.Test.YtapnllbbdfoaaaaGreatDoorByt
import Derived.Test.YtapnllbbdfoaaaaGreatDoorFnSh
namespace Go.Proofs.YtapnllbbdfoaaaaGreatDoor
open Go.ChangeShapes Go.WideShapes Go.ChangeAt Go.RowKit Go.Deep Go.Joins

theorem g_Words : Tryz.prog.globalNamed "loop.example/g01043/impl.stageWords" = some 0 := by kernel_rfl
theorem t_Words : (Tryz.prog.globals[0]?).map (·.type) = some 77 := by kernel_rfl
theorem c_string : Tryz.prog.cellsOf 9 = 1 := by kernel_rfl
theorem c_Words : Tryz.prog.cellsOf 77 = 5 := by kernel_rfl
theorem bytes_of {s : ByteArray} {l : List UInt8} (h : s.data.toList = l) : s = ⟨l.toArray⟩ := by
  cases s with
  | mk d => cases d with
    | mk q => simp at h; subst h; rfl
theorem both_of {W : World} (h : laidMetH Tryz.prog Rows.fnShoeOrdersRow.laid W) (hsh : W.ShapedOpen Tryz.prog) : Tabs W ∧ Words W := by
  rw [MakeChecks.laidMetH_plain _ _ _ (by kernel_rfl)] at h
  obtain ⟨ps, ⟨_, _, _, _, _, _, _, _, _, _, ⟨_, _, _, _, _, _, _, _, _, _, ⟨g, t, cs, f, p, q, hg, ht, hv, hd, ⟨_, _, _, _, _, _, _, _, _, _, ⟨g1, t1, cs1, f1, p1, q1, hg1, ht1, hv1, hd1, ⟨g2, t2, cs2, f2, p2, q2, hg2, ht2, hv2, hd2, ⟨g0, t0, cs0, f0, p0, q0, hg0, ht0, hv0, hd0, _, _⟩, _⟩, _⟩, _⟩, _⟩, _⟩, _⟩, _, _⟩ := h
  constructor
  · refine ⟨?_, len_of hsh, ?_, ?_⟩
    · obtain rfl := Option.some.inj (g_pow10.symm.trans hg)
      obtain rfl := Option.some.inj (t_pow10.symm.trans ht)
      rw [pow10_data] at hd
      unfold Pow10 Lib.TabIs
      rw [hv, ← Lib.cells_of_tab Tryz.underlying122 Tryz.underlying81 c_u64 c_pow10 hd]
    · obtain rfl := Option.some.inj (g_syn.symm.trans hg2)
      obtain rfl := Option.some.inj (t_syn.symm.trans ht2)
      obtain ⟨_, u, v, hcs, _, _⟩ := iface_of_trod Tryz.underlying94 hd2
      have hcell : World.cell? W ⟨3, 0, none⟩ = cs2.toList[0]? := by simpa using World.var?_cell hg2 hv2 0
      rw [hcs] at hcell
      exact ⟨_, hcell, .inr ⟨u, v, rfl⟩⟩
    · obtain rfl := Option.some.inj (g_rng.symm.trans hg1)
      obtain rfl := Option.some.inj (t_rng.symm.trans ht1)
      obtain ⟨_, u, v, hcs, _, _⟩ := iface_of_trod Tryz.underlying94 hd1
      have hcell : World.cell? W ⟨4, 0, none⟩ = cs1.toList[0]? := by simpa using World.var?_cell hg1 hv1 0
      rw [hcs] at hcell
      exact ⟨_, hcell, .inr ⟨u, v, rfl⟩⟩
  · obtain rfl := Option.some.inj (g_Words.symm.trans hg0)
    obtain rfl := Option.some.inj (t_Words.symm.trans ht0)
    obtain ⟨xs, m1, rfl, hx1, hlen, hn, hel⟩ := DataW.trod_array Tryz.underlying77 hd0
    simp only [Prod.mk.injEq] at hx1
    have hcell : ∀ i, World.cell? W ⟨0, i, none⟩ = cs0.toList[i]? := fun i => by simpa using World.var?_cell hg0 hv0 i
    rw [c_string] at hel
    have key : ∀ i, i < 5 → ∃ s : ByteArray, cs0.toList[i]? = some (.string s) ∧ (xs.map (·.1))[i]? = some (.lit (.string s.data.toList)) := by
      intro i hi
      have h1 := hel i hi
      obtain ⟨y, hy⟩ : ∃ y, xs[i]? = some y := ⟨_, List.getElem?_eq_getElem (by omega)⟩
      rw [hy] at h1
      obtain ⟨s, e1, e2, _⟩ := DataW.trod_string Tryz.underlying9 h1
      refine ⟨s, ?_, by rw [List.getElem?_map, hy, e2]; rfl⟩
      have h2 : ((cs0.toList.drop (i * 1)).take 1)[0]? = some (.string s) := by rw [e1]; rfl
      simpa [List.getElem?_take, List.getElem?_drop] using h2
    have fin : ∀ (i : Nat) (l : List UInt8), i < 5 → (xs.map (·.1))[i]? = some (.lit (.string l)) → W.cell? ⟨0, i, none⟩ = some (.string ⟨l.toArray⟩) := by
      intro i l hi hl
      obtain ⟨s, h1, h2⟩ := key i hi
      rw [hl] at h2
      have h3 : l = s.data.toList := by simpa using h2
      rw [hcell, h1, bytes_of h3.symm]
    have hD := hx1.1
    simp only [Rows.laid_loop_example_g01043_impl_stageWords, DataW.agg.injEq] at hD
    rw [← hD] at fin
    exact ⟨fin 0 _ (by omega) rfl, fin 1 _ (by omega) rfl, fin 2 _ (by omega) rfl, fin 3 _ (by omega) rfl, fin 4 _ (by omega) rfl⟩
theorem words_of_both {W : World} (h : Tabs W ∧ Words W) : Words W := h.2
set_option maxRecDepth 100000 in
theorem FnShoeOrders_lifted (os : Os) (started : os.Started) (H : Type) (enc : TypeId × Value → H) :
    ReturnsInHanded {} Tryz.checked os 3 .any (fun w args => (Rows.fnShoeOrdersSpec.pre enc Tryz.prog Tryz.f3 [] false w args ∧ laidMetH Tryz.prog Rows.fnShoeOrdersRow.laid w) ∧ sizedMet enc Tryz.prog Tryz.f3 (OpenSpec.ofChange Rows.fnShoeOrdersSpec) false w args)
      (Rows.fnShoeOrdersSpec.post enc Tryz.prog Tryz.f3 false true false false) := by
  refine handed_and_shaped (C := Tryz.checked) (X := fun w _ => laidMetH Tryz.prog Rows.fnShoeOrdersRow.laid w) (fun _ _ _ hh h => h.of_heap hh) ownKnob_c started (by kernel_rfl) Tryz.func3
    (ChangeSpec.witness_shaped (enc := enc) (C := Tryz.checked) (os := os) (X := fun w _ => laidMetH Tryz.prog Rows.fnShoeOrdersRow.laid w) false (World.laidAll Tryz.prog os Rows.fnShoeOrdersRow.laid) #[.slice none 0 0] 8 (World.laidAll_os _ _ _)
      (World.shaped_of_ZipB (by kernel_rfl) (by kernel_rfl)) (by kernel_rfl) (by kernel_rfl) (by kernel_rfl)
      (by rw [MakeChecks.laidMetH_plain _ _ _ (by kernel_rfl)]; exact laidMet_laidAll _ (by kernel_rfl) (by kernel_rfl))) ?_
  intro W base args ds gs before hval0 hW hL hsh
  have hval : ∀ (j : Nat) t v, Tryz.f3.params[j]? = some t → args[j]? = some v → Value.okWide Tryz.prog W .any base t v := hval0
  have hW' := hW
  obtain ⟨p, q, hA0, hV, rfl, _, _⟩ := hW
  have hA : DataW.TrodAll enc Tryz.prog W 0 (fun _ => true) true Tryz.f3.params.toList args.toList ds p := hA0
  rw [Tryz.params3] at hA hval
  have hlt0 : ∀ x ∈ p ++ q, x.block < W.heap.size := fun x hx => by simpa using hW'.lt x hx
  obtain ⟨gW, tW, csW, fuelW, dW, pW, rfl, hgW, htW, hvarW, hdW, rfl⟩ := trodVars_one hV
  obtain rfl := Option.some.inj (g_Words.symm.trans hgW)
  obtain rfl := Option.some.inj (t_Words.symm.trans htW)
  have hlt : ∀ x ∈ p, x.block < W.heap.size := fun x hx => hlt0 x (by simp [hx])
  have hargs : ∀ W' : World, Below W.heap.size W W' → DataW.TrodAll enc Tryz.prog W' 0 (fun b => decide (b < W.heap.size)) true [22] args.toList ds p :=
    fun W' hb => trodAll_below laidOut_c hb _ _ _ _ (by
      intro t ht
      simp only [List.mem_cons, List.not_mem_nil, or_false] at ht
      rcases ht with rfl <;> exact ⟨by kernel_rfl, of_decide_eq_true (by kernel_rfl)⟩) hA hlt
  obtain ⟨v0, vs0, d0, ds0, p0, q0, hargs', rfl, rfl, h0, r0⟩ := trodAll_cons hA
  obtain ⟨rfl, rfl, rfl⟩ := trodAll_nil r0
  obtain rfl : args = #[v0] := by cases args; simp_all
  obtain ⟨A0, n0, c0, xs0, rfl, la0, lb0, lc0, ld0⟩ := open_bytes (hval 0 22 v0 rfl rfl) h0
  refine (FnShoeOrders_law A0 n0 c0 xs0 (Lib.hid la0) W ld0 lc0 (both_of hL hsh).1 (both_of hL hsh).2).mono fun e W' ⟨he, hb⟩ => ?_
  subst he
  have hTd : DataW.Trod enc Tryz.prog W 0 (fun _ => true) true 77 (.agg csW) dW pW := ⟨fuelW, by
    have h : DataW.trod enc Tryz.prog W 0 (fun _ => true) true fuelW 77 csW.toList = some (dW, pW) := hdW
    simpa [Value.cells] using h⟩
  obtain ⟨fuel', hd'⟩ := Below.trod laidOut_c (by kernel_rfl) (of_decide_eq_true (by kernel_rfl)) hTd hb (fun x hx => hlt0 x (by simp [hx]))
  have hvar' := var?_below hb hgW (block_lt_of_cell (both_of hL hsh).2.1) hvarW
  exact ⟨_, rfl, _, _, _, [], _, _, hW', trodAll_mk1 (shut_bool Tryz.underlying4 _), hargs _ hb, trodVars_mk1 hgW htW hvar' (show DataW.trod enc Tryz.prog W' 0 (fun b => decide (b < W.heap.size)) true fuel' 77 csW.toList = some (dW, pW) from by simpa [Value.cells] using hd'), hb.frame _, fun h => by cases h⟩

theorem FnShoeOrders_row : Rows.FnShoeOrdersSaid :=
  OpenClaim.holds_of_wide 3 Tryz.f3 rfl rfl rfl rfl rfl rfl rfl ⟨rfl, rfl, rfl, rfl, rfl⟩ rfl rfl rfl rfl rfl (by kernel_rfl) Tryz.func3 (by kernel_rfl)
    (of_decide_eq_true (by kernel_rfl)) (by unfold Func.isWrapper; first | (rw [if_pos (by decide +kernel)]; kernel_rfl) | (rw [if_neg (by decide +kernel)]; exact ⟨rfl, rfl⟩))
    (fun os started H enc _ => FnShoeOrders_lifted os started H enc)

theorem FnShoeOrders_holds : Rows.FnShoeOrdersCardSaid :=
  Claim7.holds_tied_plain_at .later [] [.data, .data, .data, .data, .sentinel, .sentinel, .widerDeep, .pinned] true (true, (Rows.fnShoeOrdersCard.stood.harness).2) true
    FnShoeOrders_row (fun _ h => by cases h) (by kernel_rfl) (fun _ h => by cases h) fnShoeOrders_row_tie rfl ⟨rfl, rfl⟩ (by kernel_rfl) rfl
    (fun f fn hf hfn => by
      obtain rfl : f = 3 := Option.some.inj ((show Tryz.prog.funcNamed "loop.example/g01043/laws.FnShoeOrders" = some 3 by kernel_rfl).symm.trans hf) |>.symm
      obtain rfl : fn = Tryz.f3 := (Option.some.inj (Tryz.func3.symm.trans hfn)).symm
      exact ⟨by kernel_rfl, fun j t ht => by
        rw [Tryz.params3] at ht
        have hm : t ∈ [22] := by simpa using Array.mem_of_getElem? ht
        have hall : ([22].all fun u => !Tryz.prog.wantsStandIn u) = true := by kernel_rfl
        exact (show Tryz.prog.wantsStandIn t = false by simpa using List.all_eq_true.1 hall t hm)⟩)
    (by kernel_rfl)

end Go.Proofs.YtapnllbbdfoaaaaGreatDoor
