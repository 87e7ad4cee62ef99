/- From a row that lists the library's variables to what the walks want of them. -/
import Derived.Test.YtapnllbbdfoaaaaGreatDoorCards
import Derived.Test.YtapnllbbdfoaaaaGreatDoorTie
import Derived.Test.YtapnllbbdfoaaaaGreatDoorRow
import Derived.Test.YtapnllbbdfoaaaaGreatDoorMRdP
import Derived.Lib.LaidTab
import Derived.ChangeVars
import Derived.LaidMore
import Derived.LaidLaws
import Derived.Stop.Joined
import Derived.SevenTiedAt
import Derived.HandedShaped
import Derived.Lay
import Derived.Shelf.Vars
namespace Go.Proofs.YtapnllbbdfoaaaaGreatDoor
open Go.ChangeShapes Go.WideShapes Go.ChangeAt Go.RowKit Go.Deep Go.Joins

/-- the kit's wrap with a closed condition, the world's shape kept -/
theorem handed_and_shaped {H : Type} {enc : TypeId × Value → H} {a : Assume} {C : Checked} {os : Os} {f : FuncId} {fn : Func} {s : ChangeSpec} {conds : List PathCond} {apart fresh handsOn again : Bool} {X : World → Array Value → Prop}
    (hX : ∀ (w w' : World) (args : Array Value), w.heap = w'.heap → X w args → X w' args)
    (own : ownKnob C.prog.godebug = none) (started : os.Started) (noInit : C.prog.inits.idxOf? f = none) (hfn : C.prog.funcs[f]? = some fn)
    (witness : ∃ (w : World) (tape : Tape) (i : Input), w.os = os ∧ (w.forCall tape i).Shaped C.prog ∧ i.vars = [] ∧ Input.okWide C.prog (w.forCall tape i) .any w.heap.size f i ∧
      ((s.pre enc C.prog fn conds apart (w.forCall tape i).memory i.args ∧ X (w.forCall tape i).memory i.args) ∧ sizedMet enc C.prog fn (OpenSpec.ofChange s) apart (w.forCall tape i).memory i.args) ∧ a.holds C.prog (lone (Frame.enter C.prog f i.args .normal) [] (w.forCall tape i)))
    (contract : ∀ (W : World) (base : Nat) (args : Array Value) (ds gs : List (DataW H)) (before : List MemPlace),
      (∀ (j : Nat) t v, fn.params[j]? = some t → args[j]? = some v → Value.okWide C.prog W .any base t v) →
      DataW.Whole enc C.prog fn.params.toList s.vars apart W args.toList ds gs before →
      X W args → W.ShapedOpen C.prog →
      Calls C.prog f args W fun e W' => ∃ v, e = .returned v ∧ s.post enc C.prog fn apart fresh handsOn again W args v W') :
    ReturnsInHanded a C os f .any (fun w args => (s.pre enc C.prog fn conds apart w args ∧ X w args) ∧ sizedMet enc C.prog fn (OpenSpec.ofChange s) apart w args) (s.post enc C.prog fn apart fresh handsOn again) := by
  refine returnsInHanded_of_calls own started noInit witness fun w tape i _ hsh _ hok hpre _ => ?_
  obtain ⟨_, _, _, g, hg, _, _, _, _, hval⟩ := hok
  obtain rfl := Option.some.inj (hg.symm.trans hfn)
  obtain ⟨⟨⟨ds, gs, before, hw, _⟩, hx⟩, _⟩ := hpre
  refine (contract (w.forCall tape i) w.heap.size i.args ds gs before hval (DataW.Whole.of_heap (w' := w.forCall tape i) (by rfl) hw) (hX _ _ _ (by rfl) hx) hsh).mono fun e W' ⟨v, he, hp⟩ => ?_
  subst he
  exact ChangeSpec.post_blind hp
theorem t_pow10 : (Tryz.prog.globals[1]?).map (·.type) = some 122 := by kernel_rfl
theorem c_u64 : Tryz.prog.cellsOf 81 = 1 := by kernel_rfl
theorem c_pow10 : Tryz.prog.cellsOf 122 = 20 := by kernel_rfl
theorem pow10_data : (Rows.laid_internal_strconv_uint64pow10 : DataW Unit) = Lib.tabData .u64 Lib.pow10Tab := by kernel_rfl
theorem g_syn : Tryz.prog.globalNamed "strconv.ErrSyntax" = some 3 := by kernel_rfl
theorem g_rng : Tryz.prog.globalNamed "strconv.ErrRange" = some 4 := by kernel_rfl
theorem t_syn : (Tryz.prog.globals[3]?).map (·.type) = some 94 := by kernel_rfl
theorem t_rng : (Tryz.prog.globals[4]?).map (·.type) = some 94 := by kernel_rfl
theorem len_of {W : World} (hsh : W.ShapedOpen Tryz.prog) : ∃ m, W.cell? ⟨2, 0, none⟩ = some (.int .i64 m) := Go.Proofs.cell_of_shapedOpen_int (zero := #[.int .i64 0]) (t := 3) hsh (of_decide_eq_true (by kernel_rfl)) (by kernel_rfl) rfl (by kernel_rfl) (by kernel_rfl) Tryz.underlying3
def L7 : List (String × DataW Unit) := [("math/bits.deBruijn32tab", Rows.laid_math_bits_deBruijn32tab), ("math/bits.deBruijn64tab", Rows.laid_math_bits_deBruijn64tab), ("internal/strconv.uint64pow10", Rows.laid_internal_strconv_uint64pow10), ("unicode/utf8.acceptRanges", Rows.laid_unicode_utf8_acceptRanges), ("strconv.ErrRange", Rows.laid_strconv_ErrRange), ("strconv.ErrSyntax", Rows.laid_strconv_ErrSyntax), ("unicode/utf8.first", Rows.laid_unicode_utf8_first)]
theorem tabs_of {W : World} (h : laidMetH Tryz.prog L7 W) (hsh : W.ShapedOpen Tryz.prog) : Tabs W := by
  rw [MakeChecks.laidMetH_plain _ _ _ (by kernel_rfl)] at h
  obtain ⟨ps, ⟨_, _, _, _, _, _, _, _, _, _, ⟨_, _, _, _, _, _, _, _, _, _, ⟨g, t, cs, f, p, q, hg, ht, hv, hd, ⟨_, _, _, _, _, _, _, _, _, _, ⟨g1, t1, cs1, f1, p1, q1, hg1, ht1, hv1, hd1, ⟨g2, t2, cs2, f2, p2, q2, hg2, ht2, hv2, hd2, _, _⟩, _⟩, _⟩, _⟩, _⟩, _⟩, _, _⟩ := h
  refine ⟨?_, len_of hsh, ?_, ?_⟩
  · obtain rfl := Option.some.inj (g_pow10.symm.trans hg)
    obtain rfl := Option.some.inj (t_pow10.symm.trans ht)
    rw [pow10_data] at hd
    unfold Pow10 Lib.TabIs
    rw [hv, ← Lib.cells_of_tab Tryz.underlying122 Tryz.underlying81 c_u64 c_pow10 hd]
  · obtain rfl := Option.some.inj (g_syn.symm.trans hg2)
    obtain rfl := Option.some.inj (t_syn.symm.trans ht2)
    obtain ⟨_, u, v, hcs, _, _⟩ := iface_of_trod Tryz.underlying94 hd2
    have hcell : World.cell? W ⟨3, 0, none⟩ = cs2.toList[0]? := by simpa using World.var?_cell hg2 hv2 0
    rw [hcs] at hcell
    exact ⟨_, hcell, .inr ⟨u, v, rfl⟩⟩
  · obtain rfl := Option.some.inj (g_rng.symm.trans hg1)
    obtain rfl := Option.some.inj (t_rng.symm.trans ht1)
    obtain ⟨_, u, v, hcs, _, _⟩ := iface_of_trod Tryz.underlying94 hd1
    have hcell : World.cell? W ⟨4, 0, none⟩ = cs1.toList[0]? := by simpa using World.var?_cell hg1 hv1 0
    rw [hcs] at hcell
    exact ⟨_, hcell, .inr ⟨u, v, rfl⟩⟩
end Go.Proofs.YtapnllbbdfoaaaaGreatDoor
