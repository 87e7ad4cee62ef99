/- A list of bytes that came in, opened. -/
import Derived.Test.YtapnllbbdfoaaaaGreatDoorRow
import Derived.Test.YtapnllbbdfoaaaaGreatDoorSrc
namespace Go.Proofs.YtapnllbbdfoaaaaGreatDoor
open Go.ChangeShapes Go.WideShapes Go.ChangeAt Go.RowKit Go.Deep Go.Joins

theorem cells_uint8 : Tryz.prog.cellsOf 5 = 1 := by kernel_rfl
theorem flat_bv (cs : List UInt8) : flat (fun b => [bvS b]) cs = cs.map bvS := by
  induction cs with
  | nil => rfl
  | cons a l ih => simp only [flat, List.flatMap_cons, List.map_cons] at ih ⊢; rw [ih]; rfl
set_option maxRecDepth 100000 in
theorem open_bytes_in {H : Type} {enc : TypeId × Value → H} {W : World} {fuel : Nat} {v : Value} {x : DataW H × List MemPlace} (hf : DataW.trod enc Tryz.prog W 0 (fun _ => true) true fuel 22 [v] = some x) :
    ∃ (A : Option Addr) (n c : Nat) (ps : List UInt8), v = .slice A n c ∧ ps.length = n ∧ n ≤ 9223372036854775807 ∧ Arr W A (ps.map bvS) := by
  rcases open_slice Tryz.underlying22 hf with ⟨hcs, _⟩ | ⟨a, len, cap, m, n', D, Pl, hcs, hb, hl, hm, hmm, hx, hi⟩
  · simp only [List.cons.injEq, and_true] at hcs
    subst hcs
    exact ⟨_, _, _, [], rfl, rfl, by omega, Arr.nil _ _⟩
  · simp only [List.cons.injEq, and_true] at hcs
    subst hcs
    simp only [if_true] at hmm
    subst hmm
    have key : ∀ i, i < len → ∃ k : UInt8, True ∧ ∀ j u, ([bvS k] : List Value)[j]? = some u → W.cell? (a.add (i * 1 + j)) = some u := by
      intro i hi'
      obtain ⟨cs', hc, ht'⟩ := hi i (by omega)
      rw [cells_uint8] at hc
      obtain ⟨_, hcl, hat⟩ := World.cells?_some hc
      obtain ⟨z, e, _, q⟩ := DataW.trod_int Tryz.underlying5 ht'
      subst e
      have h0 := hat 0 (by omega)
      have hz : 0 ≤ z ∧ z ≤ 255 := by
        simp [Lit.wf] at q
        exact q
      refine ⟨UInt8.ofNat z.toNat, trivial, fun j u hu => ?_⟩
      match j, hu with
      | 0, hu =>
        have hu' : bvS (UInt8.ofNat z.toNat) = u := Option.some.inj hu
        subst hu'
        rw [Go.Deep.add_add] at h0
        have e : ((UInt8.ofNat z.toNat).toNat : Int) = z := by simp; omega
        unfold bvS
        rw [e]
        simpa using h0
      | j + 1, hu => simp at hu
    obtain ⟨ps, hpl, hp⟩ := list_of len _ key
    refine ⟨_, _, _, ps, rfl, hpl, by unfold maxLen at hm; omega, ?_⟩
    intro hn
    rw [← flat_bv] at hn ⊢
    have h0 := List.getElem?_eq_getElem (l := flat (fun b => [bvS b]) ps) hn
    have hc := fun j u => arr_of_rows (f := fun b => [bvS b]) (s := 1) (fun _ => rfl) (xs := ps) (W := W) (a := a) (fun i x hi' => (hp i x hi').2) j u
    refine ⟨a, rfl, ?_, hc⟩
    have := block_lt_of_cell (hc 0 _ h0)
    rwa [block_of_add] at this
set_option maxRecDepth 100000 in
theorem open_bytes {H : Type} {enc : TypeId × Value → H} {W : World} {base : Nat} {v : Value} {d : DataW H} {p : List MemPlace} (hval : Value.okWide Tryz.prog W .any base 22 v)
    (h : DataW.Trod enc Tryz.prog W 0 (fun _ => true) true 22 v d p) :
    ∃ (A : Option Addr) (n c : Nat) (ps : List UInt8), v = .slice A n c ∧ ps.length = n ∧ n ≤ 9223372036854775807 ∧ (∀ ad, A = some ad → ad.block < W.heap.size) ∧ Arr W A (ps.map bvS) := by
  obtain ⟨fuel, hf⟩ := h
  have h2 := hval
  obtain ⟨a0, len, cap, rfl⟩ := okWide_slice Tryz.underlying22 hval
  obtain ⟨A, n, c, ps, e, h3, h4, h5⟩ := open_bytes_in (by simpa [Value.cells] using hf)
  injection e with e1 e2 e3
  subst e1 e2 e3
  refine ⟨a0, len, cap, ps, rfl, h3, h4, ?_, h5⟩
  intro ad e
  subst e
  simp only [Value.okWide, Tryz.underlying22, Cell.okWide, Cell.ok] at h2
  obtain ⟨_, _, _, _, row, cells, h6, _⟩ := h2
  unfold World.shape? at h6
  by_cases hb : ad.block < W.heap.size
  · exact hb
  · rw [Array.getElem?_eq_none (by omega)] at h6
    simp at h6
end Go.Proofs.YtapnllbbdfoaaaaGreatDoor
