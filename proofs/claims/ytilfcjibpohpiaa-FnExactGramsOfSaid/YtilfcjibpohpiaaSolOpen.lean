/- A sole that came in, opened. -/
import Derived.Test.YtilfcjibpohpiaaRow
namespace Go.Proofs.Ytilfcjibpohpiaa
open Go.ChangeShapes Go.WideShapes Go.ChangeAt Go.RowKit Go.Deep Go.Joins

section
variable {H : Type} {enc : TypeId × Value → H} {P : Program} {w : World} {base : Nat} {spare : Nat → Bool} {held : Bool}
theorem array1 {α : Type} {a : Array α} (h : a.size = 1) : ∃ x, a = #[x] := by
  rcases a with ⟨l⟩
  match l, h with
  | [x], _ => exact ⟨x, rfl⟩
theorem open_agg1 {r : Reach} {b0 : Nat} {t : TypeId} {f0 : Field} {v : Value} {d : DataW H} {p : List MemPlace} (hs : P.underlying t = some (.struct #[f0])) (hone : oneCellFields P #[f0] = true) (hC : P.cellsOf t = 1)
    (hv : Value.okWide P w r b0 t v) (h : DataW.Trod enc P w base spare held t v d p) :
    ∃ (v0 : Value) (y0 : DataW H × List MemPlace) (n : Nat), v = .agg #[v0] ∧ DataW.trod enc P w base spare held n f0.type [v0] = some y0 := by
  obtain ⟨cs, rfl, hsz⟩ := okWide_struct hs hv
  obtain ⟨c0, rfl⟩ := array1 (hsz.trans hC)
  obtain ⟨fuel, hf⟩ := h
  obtain ⟨ys, n', _, _, hlen, _, hf⟩ := DataW.trod_struct hs hf
  obtain ⟨o0, k0⟩ := hone_of hone 0 f0 rfl
  have h0 := hf 0 f0 rfl
  match ys, hlen with
  | [y0], _ => exact ⟨c0, y0, _, rfl, by simpa [Value.cells, o0, k0] using h0⟩
end
theorem cells_int64 : Try.prog.cellsOf 2 = 1 := by kernel_rfl
set_option maxRecDepth 100000 in
theorem open_Int64S_in {H : Type} {enc : TypeId × Value → H} {W : World} {fuel : Nat} {v : Value} {x : DataW H × List MemPlace} (hf : DataW.trod enc Try.prog W 0 (fun _ => true) true fuel 42 [v] = some x) :
    ∃ (A : Option Addr) (n c : Nat) (ps : List Int), v = .slice A n c ∧ ps.length = n ∧ n ≤ 9223372036854775807 ∧ (∀ k ∈ ps, I64 k) ∧ Arr W A (flat icell ps) := by
  rcases open_slice Try.underlying42 hf with ⟨hcs, _⟩ | ⟨a, len, cap, m, n', D, Pl, hcs, hb, hl, hm, hmm, hx, hi⟩
  · simp only [List.cons.injEq, and_true] at hcs
    subst hcs
    exact ⟨_, _, _, [], rfl, rfl, by omega, by simp, Arr.nil _ _⟩
  · simp only [List.cons.injEq, and_true] at hcs
    subst hcs
    simp only [if_true] at hmm
    subst hmm
    have key : ∀ i, i < len → ∃ k : Int, I64 k ∧ ∀ j u, (icell k)[j]? = some u → W.cell? (a.add (i * 1 + j)) = some u := by
      intro i hi'
      obtain ⟨cs', hc, ht'⟩ := hi i (by omega)
      rw [cells_int64] at hc
      obtain ⟨_, hcl, hat⟩ := World.cells?_some hc
      obtain ⟨z, e, _, q⟩ := DataW.trod_int Try.underlying2 ht'
      subst e
      have h0 := hat 0 (by omega)
      refine ⟨z, i64_of_wf q, fun j u hu => ?_⟩
      match j, hu with
      | 0, hu =>
        have hu' : Value.int .i64 z = u := Option.some.inj hu
        subst hu'
        rw [Go.Deep.add_add] at h0
        simpa using h0
      | j + 1, hu => simp [icell] at hu
    obtain ⟨ps, hpl, hp⟩ := list_of len _ key
    refine ⟨_, _, _, ps, rfl, hpl, by unfold maxLen at hm; omega, fun k hk => ?_, ?_⟩
    · obtain ⟨i, hi'⟩ := List.mem_iff_getElem?.1 hk
      exact (hp i k hi').1
    · intro hn
      have h0 := List.getElem?_eq_getElem (l := flat icell ps) hn
      have hc := fun j u => arr_of_rows (f := icell) (s := 1) (fun _ => rfl) (xs := ps) (W := W) (a := a) (fun i x hi' => (hp i x hi').2) j u
      refine ⟨a, rfl, ?_, hc⟩
      have := block_lt_of_cell (hc 0 _ h0)
      rwa [block_of_add] at this
theorem cells_Sole : Try.prog.cellsOf 44 = 1 := by kernel_rfl
set_option maxRecDepth 100000 in
theorem open_Sole {H : Type} {enc : TypeId × Value → H} {W : World} {base : Nat} {v : Value} {d : DataW H} {p : List MemPlace} (hval : Value.okWide Try.prog W .any base 44 v)
    (h : DataW.Trod enc Try.prog W 0 (fun _ => true) true 44 v d p) :
    ∃ (A : Option Addr) (n c : Nat) (ps : List Int), v = .agg #[.slice A n c] ∧ ps.length = n ∧ n ≤ 9223372036854775807 ∧ (∀ k ∈ ps, I64 k) ∧ Arr W A (flat icell ps) := by
  obtain ⟨v0, y0, m, rfl, t0⟩ := open_agg1 Try.underlying44 (by kernel_rfl) cells_Sole hval h
  obtain ⟨A, n, c, ps, rfl, h1, h2, h3, h4⟩ := open_Int64S_in t0
  exact ⟨A, n, c, ps, rfl, h1, h2, h3, h4⟩
end Go.Proofs.Ytilfcjibpohpiaa
