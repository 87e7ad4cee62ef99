/- The law FnExactStageWord holds for every input, the table of words as the program's text lays it (the card ties it): it returns true, and what came in reads as before. -/
import Derived.Test.YtiplnpbeoaefaaaDoorCards
import Derived.Test.YtiplnpbeoaefaaaDoorTie
import Derived.Test.YtiplnpbeoaefaaaDoorStage
import Derived.ProofKit
import Derived.OpenShut
import Derived.SizedLaws
import Derived.ChangeSame
import Derived.ChangeVars
import Derived.LaidMore
import Derived.Lib.SmallJoins
import Derived.Stop.Joined
import Derived.SevenTiedAt
import Derived.WalkSmall
namespace Go.Proofs.YtiplnpbeoaefaaaDoor
open Go.ChangeShapes Go.WideShapes Go.ChangeAt Go.RowKit Go.Deep Go.Joins

theorem ownKnob_c : ownKnob Tryd.prog.godebug = none := by kernel_rfl
theorem laidOut_c : laidOutB Tryd.prog = true := by kernel_rfl
theorem g_Words : Tryd.prog.globalNamed "loop.example/g01043/impl.stageWords" = some 0 := by kernel_rfl
theorem t_Words : (Tryd.prog.globals[0]?).map (·.type) = some 34 := by kernel_rfl
theorem c_string : Tryd.prog.cellsOf 9 = 1 := by kernel_rfl
theorem c_Words : Tryd.prog.cellsOf 34 = 5 := by kernel_rfl
theorem door_met (os : Os) (args : Array Value) : laidMetH Tryd.prog Rows.fnExactStageWordRow.laid ((World.doorLaid Tryd.prog 400 os).forCall (fun _ _ => 0) ⟨#[], args, []⟩).memory :=
  laidMetH_of_parts3 (fuel := 8) (laidMet_of_run' 8 (by kernel_rfl) (by kernel_rfl)) (by kernel_rfl) (by kernel_rfl)
theorem bytes_of {s : ByteArray} {l : List UInt8} (h : s.data.toList = l) : s = ⟨l.toArray⟩ := by
  cases s with
  | mk d => cases d with
    | mk q => simp at h; subst h; rfl
theorem words_of_laid {W : World} (h : laidMetH Tryd.prog Rows.fnExactStageWordRow.laid W) : Words W := by
  rw [MakeChecks.laidMetH_plain _ _ _ (by kernel_rfl)] at h
  obtain ⟨ps, ⟨g0, t0, cs0, f0, p0, q0, hg0, ht0, hv0, hd0, _, _⟩, _, _⟩ := h
  obtain rfl := Option.some.inj (g_Words.symm.trans hg0)
  obtain rfl := Option.some.inj (t_Words.symm.trans ht0)
  obtain ⟨xs, m1, rfl, hx1, hlen, hn, hel⟩ := DataW.trod_array Tryd.underlying34 hd0
  simp only [Prod.mk.injEq] at hx1
  have hcell : ∀ i, World.cell? W ⟨0, i, none⟩ = cs0.toList[i]? := fun i => by simpa using World.var?_cell hg0 hv0 i
  rw [c_string] at hel
  have key : ∀ i, i < 5 → ∃ s : ByteArray, cs0.toList[i]? = some (.string s) ∧ (xs.map (·.1))[i]? = some (.lit (.string s.data.toList)) := by
    intro i hi
    have h1 := hel i hi
    obtain ⟨y, hy⟩ : ∃ y, xs[i]? = some y := ⟨_, List.getElem?_eq_getElem (by omega)⟩
    rw [hy] at h1
    obtain ⟨s, e1, e2, _⟩ := DataW.trod_string Tryd.underlying9 h1
    refine ⟨s, ?_, by rw [List.getElem?_map, hy, e2]; rfl⟩
    have h2 : ((cs0.toList.drop (i * 1)).take 1)[0]? = some (.string s) := by rw [e1]; rfl
    simpa [List.getElem?_take, List.getElem?_drop] using h2
  have fin : ∀ (i : Nat) (l : List UInt8), i < 5 → (xs.map (·.1))[i]? = some (.lit (.string l)) → W.cell? ⟨0, i, none⟩ = some (.string ⟨l.toArray⟩) := by
    intro i l hi hl
    obtain ⟨s, h1, h2⟩ := key i hi
    rw [hl] at h2
    have h3 : l = s.data.toList := by simpa using h2
    rw [hcell, h1, bytes_of h3.symm]
  have hD := hx1.1
  simp only [Rows.laid_loop_example_g01043_impl_stageWords, DataW.agg.injEq] at hD
  rw [← hD] at fin
  exact ⟨fin 0 _ (by omega) rfl, fin 1 _ (by omega) rfl, fin 2 _ (by omega) rfl, fin 3 _ (by omega) rfl, fin 4 _ (by omega) rfl⟩
set_option maxRecDepth 100000 in
theorem FnExactStageWord_lifted (os : Os) (started : os.Started) (H : Type) (enc : TypeId × Value → H) :
    ReturnsInHanded {} Tryd.checked os 3 .any (fun w args => (Rows.fnExactStageWordSpec.pre enc Tryd.prog Tryd.f3 [] false w args ∧ laidMetH Tryd.prog Rows.fnExactStageWordRow.laid w) ∧ sizedMet enc Tryd.prog Tryd.f3 (OpenSpec.ofChange Rows.fnExactStageWordSpec) false w args)
      (Rows.fnExactStageWordSpec.post enc Tryd.prog Tryd.f3 false true false false) := by
  refine returnsInHanded_of_change_and (C := Tryd.checked) (X := fun w _ => laidMetH Tryd.prog Rows.fnExactStageWordRow.laid w) (fun _ _ _ hh h => h.of_heap hh) ownKnob_c started (by kernel_rfl) Tryd.func3
    (ChangeSpec.witness_shaped (enc := enc) (C := Tryd.checked) (os := os) (X := fun w _ => laidMetH Tryd.prog Rows.fnExactStageWordRow.laid w) false (World.doorLaid Tryd.prog 400 os) #[.int .i64 0] 8 rfl (World.shaped_of_RefB (by kernel_rfl) (by kernel_rfl)) (by kernel_rfl) (by kernel_rfl) (by kernel_rfl) (door_met os _)) ?_
  intro W base args ds gs before hval0 hW _ _ hL _
  have hval : ∀ (j : Nat) t v, Tryd.f3.params[j]? = some t → args[j]? = some v → Value.okWide Tryd.prog W .any base t v := hval0
  have hW' := hW
  obtain ⟨p, q, hA0, hV, rfl, _, _⟩ := hW
  have hA : DataW.TrodAll enc Tryd.prog W 0 (fun _ => true) true Tryd.f3.params.toList args.toList ds p := hA0
  rw [Tryd.params3] at hA hval
  have hlt : ∀ x ∈ p ++ q, x.block < W.heap.size := fun x hx => by simpa using hW'.lt x hx
  obtain ⟨g, t, cs, fuel, d, p', rfl, hg, ht, hvar, hd, rfl⟩ := trodVars_one hV
  obtain rfl := Option.some.inj (g_Words.symm.trans hg)
  obtain rfl := Option.some.inj (t_Words.symm.trans ht)
  obtain ⟨v0, d0, rfl, rfl, h0⟩ := trodAll_one hA
  obtain ⟨s, rfl, rfl, rfl, ws⟩ := open_int Tryd.underlying2 (hval 0 2 v0 rfl rfl) h0
  refine (FnExactStageWord_law s W (words_of_laid hL)).mono fun e W' ⟨he, hb⟩ => ?_
  subst he
  have hTd : DataW.Trod enc Tryd.prog W 0 (fun _ => true) true 34 (.agg cs) d p' := ⟨fuel, by
    have h : DataW.trod enc Tryd.prog W 0 (fun _ => true) true fuel 34 cs.toList = some (d, p') := hd
    simpa [Value.cells] using h⟩
  obtain ⟨fuel', hd'⟩ := Below.trod laidOut_c (by kernel_rfl) (of_decide_eq_true (by kernel_rfl)) hTd hb (fun x hx => hlt x (by simp [hx]))
  have hvar' := var?_below hb hg (block_lt_of_cell (words_of_laid hL).1) hvar
  exact ⟨_, rfl, _, _, _, [], _, _, hW', trodAll_mk1 (shut_bool Tryd.underlying4 _), trodAll_mk1 (shut_int Tryd.underlying2 ws), trodVars_mk1 hg ht hvar' (show DataW.trod enc Tryd.prog W' 0 (fun b => decide (b < W.heap.size)) true fuel' 34 cs.toList = some (d, p') from by simpa [Value.cells] using hd'), hb.frame _, fun h => by cases h⟩
theorem FnExactStageWord_row : Rows.FnExactStageWordSaid :=
  OpenClaim.holds_of_wide 3 Tryd.f3 rfl rfl rfl rfl rfl rfl rfl ⟨rfl, rfl, rfl, rfl, rfl⟩ rfl rfl rfl rfl rfl (by kernel_rfl) Tryd.func3 (by kernel_rfl)
    (of_decide_eq_true (by kernel_rfl)) (by unfold Func.isWrapper; first | (rw [if_pos (by decide +kernel)]; kernel_rfl) | (rw [if_neg (by decide +kernel)]; exact ⟨rfl, rfl⟩))
    (fun os started H enc _ => FnExactStageWord_lifted os started H enc)
theorem FnExactStageWord_holds : Rows.FnExactStageWordCardSaid :=
  Claim7.holds_tied_plain_at .later [] [.widerDeep] true (true, (Rows.fnExactStageWordCard.stood.harness).2) false
    FnExactStageWord_row (fun _ h => by cases h) (by kernel_rfl) (fun _ h => by cases h) fnExactStageWord_row_tie rfl ⟨rfl, rfl⟩ (by kernel_rfl) rfl
    (fun f fn hf hfn => by
      obtain rfl : f = 3 := Option.some.inj ((show Tryd.prog.funcNamed "loop.example/g01043/laws.FnExactStageWord" = some 3 by kernel_rfl).symm.trans hf) |>.symm
      obtain rfl : fn = Tryd.f3 := (Option.some.inj (Tryd.func3.symm.trans hfn)).symm
      exact ⟨by kernel_rfl, fun j t ht => by
        rw [Tryd.params3] at ht
        have hm : t ∈ [2] := by simpa using Array.mem_of_getElem? ht
        have hall : ([2].all fun u => !Tryd.prog.wantsStandIn u) = true := by kernel_rfl
        exact (show Tryd.prog.wantsStandIn t = false by simpa using List.all_eq_true.1 hall t hm)⟩)
    (by kernel_rfl)
end Go.Proofs.YtiplnpbeoaefaaaDoor
