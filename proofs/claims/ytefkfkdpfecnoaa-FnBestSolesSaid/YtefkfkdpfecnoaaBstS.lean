/- The best sole: the reference's walk. -/
import Derived.Test.YtefkfkdpfecnoaaBstT
import Derived.Test.YtefkfkdpfecnoaaBstA
import Derived.Test.YtefkfkdpfecnoaaAppF
import Derived.Test.YtefkfkdpfecnoaaOwn
namespace Go.Proofs.Ytefkfkdpfecnoaa
open Go.RowKit

theorem info_i64r : (Try.prog.info? 2).map (fun i => (i.zero, i.size, i.bytes)) = some (some (.int .i64 0), 1, 8) := by kernel_rfl
theorem own_take {w : World} {base e m c : Nat} {P : Option Addr} {cs : List Value} {u : Value} (h : w.ownsRow base e 1 (.slice P (m + 1) c) (m + 1) (cs ++ [u])) : w.ownsRow base e 1 (.slice P m c) m cs := by
  have hl := h.1
  simp only [List.length_append, List.length_cons, List.length_nil] at hl
  refine ⟨by omega, ?_⟩
  rcases h.2 with ⟨_, h0⟩ | ⟨g, cap, cur, hv, hg, hgg, hnc, hcm, hcs, htake⟩
  · omega
  · simp only [Value.slice.injEq] at hv
    obtain ⟨rfl, _, rfl⟩ := hv
    refine .inr ⟨g, c, cur, rfl, hg, hgg, by omega, hcm, hcs, ?_⟩
    have h1 : (cur.toList.take ((m + 1) * 1)).take (m * 1) = cur.toList.take (m * 1) := by
      rw [List.take_take]
      congr 1
      omega
    rw [← h1, htake]
    rw [List.take_append_of_le_length (by omega), List.take_of_length_le (by omega)]
theorem icell_ones' (l : List Int) : ∀ u ∈ flat icell l, u.oneCell' = true := by
  intro u hu
  simp only [flat, List.mem_flatMap, icell, List.mem_singleton] at hu
  obtain ⟨x, _, rfl⟩ := hu
  rfl
set_option maxRecDepth 100000 in
set_option maxHeartbeats 800000 in
theorem l00Own_c (ad : Addr) (l : List Int) (n c : Nat) (hn : Hid (l.length = n)) (hm : (n : Int) ≤ 1048576) (w : World) (hA : Arr w (some ad) (flat icell l)) :
    Calls Try.prog 65 #[.slice (some ad) n c] w (OutC 2 1 n (flat icell l) w) := by
  obtain ⟨i0, hi0, hz0, hz1, hz2⟩ := info_parts (P := Try.prog) (e := 2) (z := .int .i64 0) (size := 1) (bytes := 8) info_i64r
  have hlen : (flat icell l).length = n * 1 := by rw [flat_length (f := icell) (s := 1) (fun _ => rfl), hn.out]
  go_enter Try.func65, Try.ntmps65
  go_wp2_with (at_builtin; refine app_many _ rfl _ _ 27 2 rfl i0 _ 1 8 Try.underlying27 hi0 hz0 hz1 hz2 rfl (by omega) w.heap.size _ 0 [] rfl (own_empty w _ _ _ (Nat.le_refl _)) ad n c (flat icell l) rfl (hA.alloc _) hlen (icell_ones' l) (by unfold maxLen; omega) (by omega) (by simp) ?_; intro A2 c2 w2 hown2 hg2)
  go_returns
  simp only [Nat.zero_add, List.nil_append] at hown2 ⊢
  exact ⟨A2, c2, rfl, hown2, bl_grown (bl_alloc (Below.refl _ _) _) hg2 (own_at (own_empty w w.heap.size 2 1 (Nat.le_refl _)))⟩
def SInv (A : Option Addr) (n c : Nat) (T S : Int) (gr : Bool) (gw : Nat) (ps : List Int) (st : Bst) (w : World) : Prop :=
  ∃ (P : Option Addr) (pc : Nat) (B : Option Addr) (bd : Nat), Blk w gw 79 #[Value.slice A n c, Value.int IntKind.i64 T, Value.int IntKind.i64 S, Value.bool gr, Value.slice P ps.length pc, Value.slice B st.1.length bd, Value.int IntKind.i64 st.2] ∧ w.ownsRow (gw - 1) 2 1 (.slice P ps.length pc) ps.length (flat icell ps) ∧ w.ownsRow (gw - 1) 2 1 (.slice B st.1.length bd) st.1.length (flat icell st.1) ∧ (∀ ad g, B = some ad → P = some g → ad.block ≠ g.block) ∧ (∀ ad, B = some ad → ad.block < w.heap.size ∧ ad.block ≠ gw) ∧ (∀ g, P = some g → g.block ≠ gw)
def OutW (A : Option Addr) (n c : Nat) (T S : Int) (gr : Bool) (gw : Nat) (ps : List Int) (st : Bst) (w : World) (e : Ending) (w' : World) : Prop := e = .returned (.tuple #[]) ∧ SInv A n c T S gr gw ps st w' ∧ Below (gw - 1) w w'
theorem bl_le {B B' : Nat} {w w' : World} (h : Below B w w') (hb : B' ≤ B) : Below B' w w' := ⟨h.os, h.tape, h.output, h.size, fun k hk => h.block k (by omega)⟩
theorem Blk.row {w : World} {g g' : Nat} {t : TypeId} {cs : Array Value} (h : Blk w g t cs) (hne : g ≠ g') (u : Array Value) : Blk (w.setRow g' u) g t cs := (setRow_other w g' g u hne).trans h
theorem own_map_ne {w : World} {base e s n c g : Nat} {P : Option Addr} {cs : List Value} (h : w.ownsRow base e s (.slice P n c) n cs) (hg : g < base) : some g ≠ P.map (·.block) := by
  intro h1
  cases P with
  | none => cases h1
  | some ad =>
    injection h1 with h1
    have h2 := own_at h ad.block rfl
    simp only at h1
    omega
theorem map_ne {P : Option Addr} {b : Nat} (h : ∀ g, P = some g → b ≠ g.block) : some b ≠ P.map (·.block) := by
  intro h1
  cases P with
  | none => cases h1
  | some ad =>
    injection h1 with h1
    exact h ad rfl h1
theorem own_ne {B : Option Addr} {n c gw : Nat} (h : ∀ ad, B = some ad → ad.block ≠ gw) : ∀ g, Value.ownBlock (.slice B n c) = some g → g ≠ gw := by
  intro g e
  cases B with
  | none => cases e
  | some ad =>
    injection e with e
    rw [← e]
    exact h ad rfl
theorem own_kept {w w' : World} {base e s n c : Nat} {B P : Option Addr} {cs : List Value} (h : w.ownsRow base e s (.slice B n c) n cs) (hg : w.grownBy w' (P.map (·.block))) (hne : ∀ ad g, B = some ad → P = some g → ad.block ≠ g.block) : w'.ownsRow base e s (.slice B n c) n cs :=
  h.kept hg (by
    cases B with
    | none => exact .inl rfl
    | some ad => exact .inr (map_ne (fun g e' => hne ad g rfl e')))
theorem Arr.le {w w' : World} {A : Option Addr} {cs : List Value} {B : Nat} (h : Arr w A cs) (hb : Below B w w') (hlt : ∀ ad, A = some ad → ad.block < B) : Arr w' A cs :=
  h.keep hb.size fun ad e p hp _ => World.cell?_of_block (hb.block p.block (by rw [hp]; exact hlt ad e))
theorem firstN_le {xs : List Stuff} {ps : List Int} (h : plyOk xs ps) : firstN ps ≤ xs.length := by
  by_cases h0 : ps = []
  · rw [h0]; exact Nat.zero_le _
  · exact Nat.le_of_lt (firstN_lt h h0).1
end Go.Proofs.Ytefkfkdpfecnoaa
