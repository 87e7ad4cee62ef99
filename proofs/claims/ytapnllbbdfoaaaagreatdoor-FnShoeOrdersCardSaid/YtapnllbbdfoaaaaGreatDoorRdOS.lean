/- ReadOrder: the reference's function. -/
import Derived.Test.YtapnllbbdfoaaaaGreatDoorRdO
import Derived.Test.YtapnllbbdfoaaaaGreatDoorSplS
import Derived.Deep.RegionHeld3
namespace Go.Proofs.YtapnllbbdfoaaaaGreatDoor
open Go.RowKit

def zOs : Order := ⟨0, ⟨#[]⟩, 0, 0, 0, 0⟩
def outOs (o : Option Order) : Array Value := #[.agg #[.int .i64 (o.getD zOs).id, .string (o.getD zOs).customer, .int .i64 (o.getD zOs).stage, .int .i64 (o.getD zOs).due, .int .i64 (o.getD zOs).left, .int .i64 (o.getD zOs).fittings], .bool o.isSome]
theorem outOs_none {l : List UInt8} (h : rdO l = none) : outOs (rdO l) = #[.agg #[.int .i64 0, .string ⟨#[]⟩, .int .i64 0, .int .i64 0, .int .i64 0, .int .i64 0], .bool false] := by rw [h]; rfl
theorem outOs_some {l : List UInt8} {x : Order} (h : rdO l = some x) : outOs (rdO l) = #[.agg #[.int .i64 x.id, .string x.customer, .int .i64 x.stage, .int .i64 x.due, .int .i64 x.left, .int .i64 x.fittings], .bool true] := by rw [h]; rfl
theorem splS_list {s : ByteArray} {L : List ByteArray} (h : splC 32 s = L) : spl 32 s.data.toList = L.map (·.data.toList) := by
  rw [← h]
  unfold splC
  rw [List.map_map]
  conv => lhs; rw [← List.map_id (spl 32 s.data.toList)]
  exact List.map_congr_left fun x _ => by simp
theorem nineS_of {s : ByteArray} (h : (splC 32 s).length = 9) : ∃ p0 p1 p2 p3 p4 p5 p6 p7 p8, splC 32 s = [p0, p1, p2, p3, p4, p5, p6, p7, p8] := by
  match hs : splC 32 s, h with
  | [p0, p1, p2, p3, p4, p5, p6, p7, p8], _ => exact ⟨p0, p1, p2, p3, p4, p5, p6, p7, p8, rfl⟩
theorem rdO_cases {l p0 p1 p2 p3 p4 p5 p6 p7 p8 : List UInt8} (h : spl 32 l = [p0, p1, p2, p3, p4, p5, p6, p7, p8]) :
    (¬ (p3 = bDue ∧ p5 = bLeft ∧ p7 = bFit ∧ 2 ≤ p0.length ∧ p0.head? = some 35 ∧ okN (p0.drop 1) = true ∧ okN p4 = true ∧ okN p6 = true ∧ okN p8 = true ∧ ordB (mkO (p0.drop 1) p1 p2 p4 p6 p8) = true) → rdO l = none) ∧
    ((p3 = bDue ∧ p5 = bLeft ∧ p7 = bFit ∧ 2 ≤ p0.length ∧ p0.head? = some 35 ∧ okN (p0.drop 1) = true ∧ okN p4 = true ∧ okN p6 = true ∧ okN p8 = true ∧ ordB (mkO (p0.drop 1) p1 p2 p4 p6 p8) = true) → rdO l = some (mkO (p0.drop 1) p1 p2 p4 p6 p8)) := by
  rw [rdO_nine h]
  constructor
  · intro hn
    rw [if_neg]
    intro hc
    apply hn
    simpa only [Bool.and_eq_true, decide_eq_true_eq, and_assoc] using hc
  · intro hy
    rw [if_pos]
    simpa only [Bool.and_eq_true, decide_eq_true_eq, and_assoc] using hy
def stgU (p : ByteArray) : Nat → Int
  | 0 => -1
  | k + 1 => if (wordAt k).toList == p.toList then (k : Int) else stgU p k
theorem stgU_five (p : ByteArray) : stgU p 5 = stgL p.data.toList := by
  have key : ∀ k : Int, ((wordAt k).toList == p.toList) = decide (p.data.toList = (wordAt k).data.toList) := by
    intro k
    rw [bytes_beq, Bool.eq_iff_iff, decide_eq_true_eq, decide_eq_true_eq]
    constructor
    · intro h; rw [h]
    · intro h; rw [← bytes_list p, h, bytes_list]
  unfold stgL
  simp only [stgU, key, decide_eq_true_eq]
  by_cases h0 : p.data.toList = (wordAt 0).data.toList
  · rw [h0]; decide
  by_cases h1 : p.data.toList = (wordAt 1).data.toList
  · rw [h1]; decide
  by_cases h2 : p.data.toList = (wordAt 2).data.toList
  · rw [h2]; decide
  by_cases h3 : p.data.toList = (wordAt 3).data.toList
  · rw [h3]; decide
  by_cases h4 : p.data.toList = (wordAt 4).data.toList
  · rw [h4]; decide
  simp [h0, h1, h2, h3, h4]
theorem stgU_bd (p : ByteArray) : ∀ k, -1 ≤ stgU p k ∧ stgU p k ≤ k := by
  intro k
  induction k with
  | zero => simp [stgU]
  | succ k ih =>
    simp only [stgU]
    split <;> omega
set_option maxRecDepth 100000 in
set_option maxHeartbeats 8000000 in
theorem SReadOrder_c (s : ByteArray) (hs : s.size ≤ 1048576) (w : World) : Calls Tryz.prog 21 #[.string s] w (RetT (outOs (rdO s.data.toList)) w) := by
  have HSP : Hid (∀ w, Calls Tryz.prog 59 #[.string s, .int .u8 32] w (OutC 9 1 (splC 32 s).length ((splC 32 s).map Value.string) w)) := Lib.hid (fun w => l01Split_c 32 s hs w)
  have hle := splB_le s
  go_enter Tryz.func21, Tryz.ntmps21
  go_wp2_with fail
  have hv1 := bl_alloc (Below.refl w.heap.size w) (Obj.cells #[Value.int IntKind.i64 0, Value.string ⟨#[]⟩, Value.int IntKind.i64 0, Value.int IntKind.i64 0, Value.int IntKind.i64 0, Value.int IntKind.i64 0] 26)
  have hR := Blk.new w 26 #[Value.int IntKind.i64 0, Value.string ⟨#[]⟩, Value.int IntKind.i64 0, Value.int IntKind.i64 0, Value.int IntKind.i64 0, Value.int IntKind.i64 0]
  refine (HSP.out _).mono ?_
  rintro e W ⟨A4, c4, rfl, hS, hb⟩
  replace hR := hR.below hb
  replace hv1 := bl_trans hv1 hb
  clear hb
  obtain ⟨gR, hgR⟩ : ∃ gR, gR = w.heap.size := ⟨_, rfl⟩
  rw [← hgR] at hR
  have hgR1 : w.heap.size ≤ gR := by omega
  by_cases h9 : (splC 32 s).length = 9
  case neg =>
    have HO := Lib.hid (rdO_short (l := s.data.toList) (by
      have h1 := splS_list (s := s) rfl
      rw [h1, List.length_map]; exact h9))
    have h9' : ¬ ((splC 32 s).length : Int) = 9 := by omega
    replace hle : (splC 32 s).length ≤ s.size + 1 := hle
    generalize (splC 32 s).length = n at h9 h9' hle hS ⊢
    rw [← hgR]
    clear hgR
    have r0 : W.cell? ⟨gR, 0, none⟩ = some (.int .i64 0) := hR.cell 0
    have f0 : W.frozen? ⟨gR, 0, none⟩ = false := hR.frozen 0
    have r1 : W.cell? ⟨gR, 1, none⟩ = some (.string ⟨#[]⟩) := hR.cell 1
    have f1 : W.frozen? ⟨gR, 1, none⟩ = false := hR.frozen 1
    have r2 : W.cell? ⟨gR, 2, none⟩ = some (.int .i64 0) := hR.cell 2
    have f2 : W.frozen? ⟨gR, 2, none⟩ = false := hR.frozen 2
    have r3 : W.cell? ⟨gR, 3, none⟩ = some (.int .i64 0) := hR.cell 3
    have f3 : W.frozen? ⟨gR, 3, none⟩ = false := hR.frozen 3
    have r4 : W.cell? ⟨gR, 4, none⟩ = some (.int .i64 0) := hR.cell 4
    have f4 : W.frozen? ⟨gR, 4, none⟩ = false := hR.frozen 4
    have r5 : W.cell? ⟨gR, 5, none⟩ = some (.int .i64 0) := hR.cell 5
    have f5 : W.frozen? ⟨gR, 5, none⟩ = false := hR.frozen 5
    go_wp2_with fail
    refine bodyPost_ret (results_cell_row_tmp (P := Tryz.prog) rfl _ _ gR 26 #[Value.int IntKind.i64 0, Value.string ⟨#[]⟩, Value.int IntKind.i64 0, Value.int IntKind.i64 0, Value.int IntKind.i64 0, Value.int IntKind.i64 0] (0, 0) _ rfl ?_ Tryz.underlying26 rfl (by kernel_rfl)) rfl ?_
    · have h1 := hR.set_ 0 (.int .i64 0)
      replace h1 := h1.set_ 1 (.string ⟨#[]⟩)
      replace h1 := h1.set_ 2 (.int .i64 0)
      replace h1 := h1.set_ 3 (.int .i64 0)
      replace h1 := h1.set_ 4 (.int .i64 0)
      exact h1.set_ 5 (.int .i64 0)
    · exact RetT.mk (by rw [outOs_none HO.out]; rfl) (bl_set (bl_set (bl_set (bl_set (bl_set (bl_set (hv1) (p := ⟨gR, 0, none⟩) hgR1 (.int .i64 0)) (p := ⟨gR, 1, none⟩) hgR1 (.string ⟨#[]⟩)) (p := ⟨gR, 2, none⟩) hgR1 (.int .i64 0)) (p := ⟨gR, 3, none⟩) hgR1 (.int .i64 0)) (p := ⟨gR, 4, none⟩) hgR1 (.int .i64 0)) (p := ⟨gR, 5, none⟩) hgR1 (.int .i64 0))
  obtain ⟨p0, p1, p2, p3, p4, p5, p6, p7, p8, hq⟩ := nineS_of h9
  have hs0 := splB_part (s := s) (x := p0) (by show _ ∈ splC 32 s; rw [hq]; simp)
  have hs1 := splB_part (s := s) (x := p1) (by show _ ∈ splC 32 s; rw [hq]; simp)
  have hs2 := splB_part (s := s) (x := p2) (by show _ ∈ splC 32 s; rw [hq]; simp)
  have hs4 := splB_part (s := s) (x := p4) (by show _ ∈ splC 32 s; rw [hq]; simp)
  have hs6 := splB_part (s := s) (x := p6) (by show _ ∈ splC 32 s; rw [hq]; simp)
  have hs8 := splB_part (s := s) (x := p8) (by show _ ∈ splC 32 s; rw [hq]; simp)
  have HL := Lib.hid (rdO_cases (show spl 32 s.data.toList = [p0.data.toList, p1.data.toList, p2.data.toList, p3.data.toList, p4.data.toList, p5.data.toList, p6.data.toList, p7.data.toList, p8.data.toList] from splS_list hq))
  rw [hq] at hS ⊢
  simp only [List.length_cons, List.length_nil, List.map_cons, List.map_nil] at hS ⊢
  obtain ⟨gS, rfl⟩ := own_addr hS (by omega)
  clear hq h9 hle
  rw [← hgR]
  clear hgR
  have s0 : W.cell? ⟨gS, 0, none⟩ = some (.string p0) := hS.cellAt 0 (by omega)
  have s3 : W.cell? ⟨gS, 3, none⟩ = some (.string p3) := hS.cellAt 3 (by omega)
  have s5 : W.cell? ⟨gS, 5, none⟩ = some (.string p5) := hS.cellAt 5 (by omega)
  have s7 : W.cell? ⟨gS, 7, none⟩ = some (.string p7) := hS.cellAt 7 (by omega)
  have e3 := ByteArray.toList_eq p3
  have e5 := ByteArray.toList_eq p5
  have e7 := ByteArray.toList_eq p7
  rw [← e3, ← e5, ← e7] at HL
  clear e3 e5 e7
  by_cases h3 : p3.toList = [100, 117, 101]
  case neg =>
    have HO := Lib.hid (HL.out.1 (fun h => h3 h.1))
    have r0 : W.cell? ⟨gR, 0, none⟩ = some (.int .i64 0) := hR.cell 0
    have f0 : W.frozen? ⟨gR, 0, none⟩ = false := hR.frozen 0
    have r1 : W.cell? ⟨gR, 1, none⟩ = some (.string ⟨#[]⟩) := hR.cell 1
    have f1 : W.frozen? ⟨gR, 1, none⟩ = false := hR.frozen 1
    have r2 : W.cell? ⟨gR, 2, none⟩ = some (.int .i64 0) := hR.cell 2
    have f2 : W.frozen? ⟨gR, 2, none⟩ = false := hR.frozen 2
    have r3 : W.cell? ⟨gR, 3, none⟩ = some (.int .i64 0) := hR.cell 3
    have f3 : W.frozen? ⟨gR, 3, none⟩ = false := hR.frozen 3
    have r4 : W.cell? ⟨gR, 4, none⟩ = some (.int .i64 0) := hR.cell 4
    have f4 : W.frozen? ⟨gR, 4, none⟩ = false := hR.frozen 4
    have r5 : W.cell? ⟨gR, 5, none⟩ = some (.int .i64 0) := hR.cell 5
    have f5 : W.frozen? ⟨gR, 5, none⟩ = false := hR.frozen 5
    go_wp2_with fail
    refine bodyPost_ret (results_cell_row_tmp (P := Tryz.prog) rfl _ _ gR 26 #[Value.int IntKind.i64 0, Value.string ⟨#[]⟩, Value.int IntKind.i64 0, Value.int IntKind.i64 0, Value.int IntKind.i64 0, Value.int IntKind.i64 0] (0, 0) _ rfl ?_ Tryz.underlying26 rfl (by kernel_rfl)) rfl ?_
    · have h1 := hR.set_ 0 (.int .i64 0)
      replace h1 := h1.set_ 1 (.string ⟨#[]⟩)
      replace h1 := h1.set_ 2 (.int .i64 0)
      replace h1 := h1.set_ 3 (.int .i64 0)
      replace h1 := h1.set_ 4 (.int .i64 0)
      exact h1.set_ 5 (.int .i64 0)
    · exact RetT.mk (by rw [outOs_none HO.out]; rfl) (bl_set (bl_set (bl_set (bl_set (bl_set (bl_set (hv1) (p := ⟨gR, 0, none⟩) hgR1 (.int .i64 0)) (p := ⟨gR, 1, none⟩) hgR1 (.string ⟨#[]⟩)) (p := ⟨gR, 2, none⟩) hgR1 (.int .i64 0)) (p := ⟨gR, 3, none⟩) hgR1 (.int .i64 0)) (p := ⟨gR, 4, none⟩) hgR1 (.int .i64 0)) (p := ⟨gR, 5, none⟩) hgR1 (.int .i64 0))
  by_cases h5 : p5.toList = [108, 101, 102, 116]
  case neg =>
    have HO := Lib.hid (HL.out.1 (fun h => h5 h.2.1))
    have r0 : W.cell? ⟨gR, 0, none⟩ = some (.int .i64 0) := hR.cell 0
    have f0 : W.frozen? ⟨gR, 0, none⟩ = false := hR.frozen 0
    have r1 : W.cell? ⟨gR, 1, none⟩ = some (.string ⟨#[]⟩) := hR.cell 1
    have f1 : W.frozen? ⟨gR, 1, none⟩ = false := hR.frozen 1
    have r2 : W.cell? ⟨gR, 2, none⟩ = some (.int .i64 0) := hR.cell 2
    have f2 : W.frozen? ⟨gR, 2, none⟩ = false := hR.frozen 2
    have r3 : W.cell? ⟨gR, 3, none⟩ = some (.int .i64 0) := hR.cell 3
    have f3 : W.frozen? ⟨gR, 3, none⟩ = false := hR.frozen 3
    have r4 : W.cell? ⟨gR, 4, none⟩ = some (.int .i64 0) := hR.cell 4
    have f4 : W.frozen? ⟨gR, 4, none⟩ = false := hR.frozen 4
    have r5 : W.cell? ⟨gR, 5, none⟩ = some (.int .i64 0) := hR.cell 5
    have f5 : W.frozen? ⟨gR, 5, none⟩ = false := hR.frozen 5
    go_wp2_with fail
    refine bodyPost_ret (results_cell_row_tmp (P := Tryz.prog) rfl _ _ gR 26 #[Value.int IntKind.i64 0, Value.string ⟨#[]⟩, Value.int IntKind.i64 0, Value.int IntKind.i64 0, Value.int IntKind.i64 0, Value.int IntKind.i64 0] (0, 0) _ rfl ?_ Tryz.underlying26 rfl (by kernel_rfl)) rfl ?_
    · have h1 := hR.set_ 0 (.int .i64 0)
      replace h1 := h1.set_ 1 (.string ⟨#[]⟩)
      replace h1 := h1.set_ 2 (.int .i64 0)
      replace h1 := h1.set_ 3 (.int .i64 0)
      replace h1 := h1.set_ 4 (.int .i64 0)
      exact h1.set_ 5 (.int .i64 0)
    · exact RetT.mk (by rw [outOs_none HO.out]; rfl) (bl_set (bl_set (bl_set (bl_set (bl_set (bl_set (hv1) (p := ⟨gR, 0, none⟩) hgR1 (.int .i64 0)) (p := ⟨gR, 1, none⟩) hgR1 (.string ⟨#[]⟩)) (p := ⟨gR, 2, none⟩) hgR1 (.int .i64 0)) (p := ⟨gR, 3, none⟩) hgR1 (.int .i64 0)) (p := ⟨gR, 4, none⟩) hgR1 (.int .i64 0)) (p := ⟨gR, 5, none⟩) hgR1 (.int .i64 0))
  by_cases h7 : p7.toList = [102, 105, 116, 116, 105, 110, 103, 115]
  case neg =>
    have HO := Lib.hid (HL.out.1 (fun h => h7 h.2.2.1))
    have r0 : W.cell? ⟨gR, 0, none⟩ = some (.int .i64 0) := hR.cell 0
    have f0 : W.frozen? ⟨gR, 0, none⟩ = false := hR.frozen 0
    have r1 : W.cell? ⟨gR, 1, none⟩ = some (.string ⟨#[]⟩) := hR.cell 1
    have f1 : W.frozen? ⟨gR, 1, none⟩ = false := hR.frozen 1
    have r2 : W.cell? ⟨gR, 2, none⟩ = some (.int .i64 0) := hR.cell 2
    have f2 : W.frozen? ⟨gR, 2, none⟩ = false := hR.frozen 2
    have r3 : W.cell? ⟨gR, 3, none⟩ = some (.int .i64 0) := hR.cell 3
    have f3 : W.frozen? ⟨gR, 3, none⟩ = false := hR.frozen 3
    have r4 : W.cell? ⟨gR, 4, none⟩ = some (.int .i64 0) := hR.cell 4
    have f4 : W.frozen? ⟨gR, 4, none⟩ = false := hR.frozen 4
    have r5 : W.cell? ⟨gR, 5, none⟩ = some (.int .i64 0) := hR.cell 5
    have f5 : W.frozen? ⟨gR, 5, none⟩ = false := hR.frozen 5
    go_wp2_with fail
    refine bodyPost_ret (results_cell_row_tmp (P := Tryz.prog) rfl _ _ gR 26 #[Value.int IntKind.i64 0, Value.string ⟨#[]⟩, Value.int IntKind.i64 0, Value.int IntKind.i64 0, Value.int IntKind.i64 0, Value.int IntKind.i64 0] (0, 0) _ rfl ?_ Tryz.underlying26 rfl (by kernel_rfl)) rfl ?_
    · have h1 := hR.set_ 0 (.int .i64 0)
      replace h1 := h1.set_ 1 (.string ⟨#[]⟩)
      replace h1 := h1.set_ 2 (.int .i64 0)
      replace h1 := h1.set_ 3 (.int .i64 0)
      replace h1 := h1.set_ 4 (.int .i64 0)
      exact h1.set_ 5 (.int .i64 0)
    · exact RetT.mk (by rw [outOs_none HO.out]; rfl) (bl_set (bl_set (bl_set (bl_set (bl_set (bl_set (hv1) (p := ⟨gR, 0, none⟩) hgR1 (.int .i64 0)) (p := ⟨gR, 1, none⟩) hgR1 (.string ⟨#[]⟩)) (p := ⟨gR, 2, none⟩) hgR1 (.int .i64 0)) (p := ⟨gR, 3, none⟩) hgR1 (.int .i64 0)) (p := ⟨gR, 4, none⟩) hgR1 (.int .i64 0)) (p := ⟨gR, 5, none⟩) hgR1 (.int .i64 0))
  by_cases hl2 : (p0.size : Int) < 2
  · have HO := Lib.hid (HL.out.1 (fun h => by have := h.2.2.2.1; rw [bytes_len] at this; omega))
    have r0 : W.cell? ⟨gR, 0, none⟩ = some (.int .i64 0) := hR.cell 0
    have f0 : W.frozen? ⟨gR, 0, none⟩ = false := hR.frozen 0
    have r1 : W.cell? ⟨gR, 1, none⟩ = some (.string ⟨#[]⟩) := hR.cell 1
    have f1 : W.frozen? ⟨gR, 1, none⟩ = false := hR.frozen 1
    have r2 : W.cell? ⟨gR, 2, none⟩ = some (.int .i64 0) := hR.cell 2
    have f2 : W.frozen? ⟨gR, 2, none⟩ = false := hR.frozen 2
    have r3 : W.cell? ⟨gR, 3, none⟩ = some (.int .i64 0) := hR.cell 3
    have f3 : W.frozen? ⟨gR, 3, none⟩ = false := hR.frozen 3
    have r4 : W.cell? ⟨gR, 4, none⟩ = some (.int .i64 0) := hR.cell 4
    have f4 : W.frozen? ⟨gR, 4, none⟩ = false := hR.frozen 4
    have r5 : W.cell? ⟨gR, 5, none⟩ = some (.int .i64 0) := hR.cell 5
    have f5 : W.frozen? ⟨gR, 5, none⟩ = false := hR.frozen 5
    go_wp2_with fail
    refine bodyPost_ret (results_cell_row_tmp (P := Tryz.prog) rfl _ _ gR 26 #[Value.int IntKind.i64 0, Value.string ⟨#[]⟩, Value.int IntKind.i64 0, Value.int IntKind.i64 0, Value.int IntKind.i64 0, Value.int IntKind.i64 0] (0, 0) _ rfl ?_ Tryz.underlying26 rfl (by kernel_rfl)) rfl ?_
    · have h1 := hR.set_ 0 (.int .i64 0)
      replace h1 := h1.set_ 1 (.string ⟨#[]⟩)
      replace h1 := h1.set_ 2 (.int .i64 0)
      replace h1 := h1.set_ 3 (.int .i64 0)
      replace h1 := h1.set_ 4 (.int .i64 0)
      exact h1.set_ 5 (.int .i64 0)
    · exact RetT.mk (by rw [outOs_none HO.out]; rfl) (bl_set (bl_set (bl_set (bl_set (bl_set (bl_set (hv1) (p := ⟨gR, 0, none⟩) hgR1 (.int .i64 0)) (p := ⟨gR, 1, none⟩) hgR1 (.string ⟨#[]⟩)) (p := ⟨gR, 2, none⟩) hgR1 (.int .i64 0)) (p := ⟨gR, 3, none⟩) hgR1 (.int .i64 0)) (p := ⟨gR, 4, none⟩) hgR1 (.int .i64 0)) (p := ⟨gR, 5, none⟩) hgR1 (.int .i64 0))
  have hl2' : 2 ≤ (p0.size : Int) := by omega
  have hp0 : 0 < p0.size := by omega
  have hh := byte_at hp0
  by_cases h35 : (p0[0].toNat : Int) = 35
  case neg =>
    have HO := Lib.hid (HL.out.1 (fun h => by
      have h1 := h.2.2.2.2.1
      rw [List.head?_eq_getElem?, hh] at h1
      have h2 : p0[0] = 35 := Option.some.inj h1
      rw [h2] at h35
      exact h35 rfl))
    clear hh
    have r0 : W.cell? ⟨gR, 0, none⟩ = some (.int .i64 0) := hR.cell 0
    have f0 : W.frozen? ⟨gR, 0, none⟩ = false := hR.frozen 0
    have r1 : W.cell? ⟨gR, 1, none⟩ = some (.string ⟨#[]⟩) := hR.cell 1
    have f1 : W.frozen? ⟨gR, 1, none⟩ = false := hR.frozen 1
    have r2 : W.cell? ⟨gR, 2, none⟩ = some (.int .i64 0) := hR.cell 2
    have f2 : W.frozen? ⟨gR, 2, none⟩ = false := hR.frozen 2
    have r3 : W.cell? ⟨gR, 3, none⟩ = some (.int .i64 0) := hR.cell 3
    have f3 : W.frozen? ⟨gR, 3, none⟩ = false := hR.frozen 3
    have r4 : W.cell? ⟨gR, 4, none⟩ = some (.int .i64 0) := hR.cell 4
    have f4 : W.frozen? ⟨gR, 4, none⟩ = false := hR.frozen 4
    have r5 : W.cell? ⟨gR, 5, none⟩ = some (.int .i64 0) := hR.cell 5
    have f5 : W.frozen? ⟨gR, 5, none⟩ = false := hR.frozen 5
    go_wp2_with fail
    refine bodyPost_ret (results_cell_row_tmp (P := Tryz.prog) rfl _ _ gR 26 #[Value.int IntKind.i64 0, Value.string ⟨#[]⟩, Value.int IntKind.i64 0, Value.int IntKind.i64 0, Value.int IntKind.i64 0, Value.int IntKind.i64 0] (0, 0) _ rfl ?_ Tryz.underlying26 rfl (by kernel_rfl)) rfl ?_
    · have h1 := hR.set_ 0 (.int .i64 0)
      replace h1 := h1.set_ 1 (.string ⟨#[]⟩)
      replace h1 := h1.set_ 2 (.int .i64 0)
      replace h1 := h1.set_ 3 (.int .i64 0)
      replace h1 := h1.set_ 4 (.int .i64 0)
      exact h1.set_ 5 (.int .i64 0)
    · exact RetT.mk (by rw [outOs_none HO.out]; rfl) (bl_set (bl_set (bl_set (bl_set (bl_set (bl_set (hv1) (p := ⟨gR, 0, none⟩) hgR1 (.int .i64 0)) (p := ⟨gR, 1, none⟩) hgR1 (.string ⟨#[]⟩)) (p := ⟨gR, 2, none⟩) hgR1 (.int .i64 0)) (p := ⟨gR, 3, none⟩) hgR1 (.int .i64 0)) (p := ⟨gR, 4, none⟩) hgR1 (.int .i64 0)) (p := ⟨gR, 5, none⟩) hgR1 (.int .i64 0))
  have h35b : p0.data.toList.head? = some 35 := by
    rw [List.head?_eq_getElem?, hh]
    exact congrArg some (UInt8.toNat_inj.1 (by rw [show (35 : UInt8).toNat = 35 from rfl]; omega))
  have HC := Lib.hid (show p3.toList = bDue ∧ p5.toList = bLeft ∧ p7.toList = bFit ∧ 2 ≤ p0.data.toList.length ∧ p0.data.toList.head? = some 35 from ⟨h3, h5, h7, by rw [bytes_len]; omega, h35b⟩)
  clear hh h35b
  go_wp2_with fail
  clear h3 h5 h7 s3 s5 s7 s0 h35
  go_loopw [5, 6] (fun sv i wr => ∃ k : Nat, k ≤ 5 ∧ i = .int .i64 k ∧ sv = .int .i64 (stgU p2 k) ∧ Below W.heap.size W wr) (fun _ i _ => 5 - (intOf i).toNat)
  case atStart => exact ⟨0, by omega, rfl, rfl, Below.refl _ _⟩
  case round =>
    obtain ⟨k, hk, rfl, rfl, hv2⟩ := hrel
    replace hS := own_below hS hv2
    by_cases hlt : k < 5
    · have s2 : wr.cell? ⟨gS, 2, none⟩ = some (.string p2) := hS.cellAt 2 (by omega)
      have hk4 : (k : Int) ≤ 4 := by omega
      have hs2' := bl_cell (Below.refl wr.heap.size wr).drew s2
      go_wp2_with fail
      refine wp_region_held_drew (S := fun w' => w'.cell? ⟨gS, 2, none⟩ = some (.string p2)) (by kernel_rfl) ?_ (fun hHeld => ?_)
      · exact hs2'
      refine wpAnyH_take (i := 0) (oi := { dst := some 58, op := _, type := _, pos := _, after := _, guard := _ }) (v := ?_) rfl (by kernel_rfl) (by kernel_rfl) (by kernel_rfl) (fun _ _ _ h => h) (Or.inl ⟨by kernel_rfl, ?_⟩) (by assumption) ?_
      rotate_left
      · intro w hSw
        try dsimp only at hSw
        go_simp
        try with_reducible rfl
      try simp only [Act.put, List.setIfInBounds_toArray, List.set_cons_zero, List.set_cons_succ]
      refine wpAnyH_take (i := 2) (oi := { dst := some 60, op := _, type := _, pos := _, after := _, guard := _ }) (v := ?_) rfl (by kernel_rfl) (by kernel_rfl) (by kernel_rfl) (fun _ _ _ h => h) (Or.inl ⟨by kernel_rfl, ?_⟩) (by assumption) ?_
      rotate_left
      · intro w hSw
        try dsimp only at hSw
        go_simp
        try with_reducible rfl
      try simp only [Act.put, List.setIfInBounds_toArray, List.set_cons_zero, List.set_cons_succ]
      refine wpAnyH_take (i := 3) (oi := { dst := some 61, op := _, type := _, pos := _, after := _, guard := _ }) (v := ?_) rfl (by kernel_rfl) (by kernel_rfl) (by kernel_rfl) (fun _ _ _ h => h) (Or.inl ⟨by kernel_rfl, ?_⟩) (by assumption) ?_
      rotate_left
      · intro w hSw
        try dsimp only at hSw
        go_simp
        try with_reducible rfl
      try simp only [Act.put, List.setIfInBounds_toArray, List.set_cons_zero, List.set_cons_succ]
      refine wpAnyH_take (i := 4) (oi := { dst := some 62, op := _, type := _, pos := _, after := _, guard := _ }) (v := ?_) rfl (by kernel_rfl) (by kernel_rfl) (by kernel_rfl) (fun _ _ _ h => h) (Or.inl ⟨by kernel_rfl, ?_⟩) (by assumption) ?_
      rotate_left
      · intro w hSw
        try dsimp only at hSw
        have s2q := hSw
        go_simp
        try with_reducible rfl
      try simp only [Act.put, List.setIfInBounds_toArray, List.set_cons_zero, List.set_cons_succ]
      obtain ⟨bq, hbq⟩ : ∃ bq, ((wordAt k).toList == p2.toList) = bq := ⟨_, rfl⟩
      have HB := Lib.hid hbq
      refine wpAnyH_ready (rs := [1]) (by kernel_rfl) (by simp) ?_
      refine AllReadyH.cons (o := { dst := some 59, op := _, type := _, pos := _, after := _, guard := _ }) rfl (fun K hK => ?_) AllReadyH.nil
      go_simp
      (try dsimp only at hHeld); go_split_ands
      refine (SStageWord_c k _).mono ?_
      rintro e W2 ⟨rfl, hb⟩
      replace hs2' := bl_cell hb hs2'
      replace hv2 := bl_trans hv2.drew hb
      clear hb
      go_wp2_with fail
      refine hK.out _ _ ?_ (fun hHeld => ?_)
      · (try dsimp only); go_split_ands; exact hs2'
      clear hK K
      try simp only [Act.put, List.setIfInBounds_toArray, List.set_cons_zero, List.set_cons_succ]
      refine wpAnyH_take (i := 5) (oi := { dst := some 63, op := _, type := _, pos := _, after := _, guard := _ }) (v := ?_) rfl (by kernel_rfl) (by kernel_rfl) (by kernel_rfl) (fun _ _ _ h => h) (Or.inl ⟨by kernel_rfl, ?_⟩) (by assumption) ?_
      rotate_left
      · intro w hSw
        try dsimp only at hSw
        go_simp
        try with_reducible rfl
      try simp only [Act.put, List.setIfInBounds_toArray, List.set_cons_zero, List.set_cons_succ]
      refine wpAnyH_done (by kernel_rfl) ?_ _
      clear hHeld hbq
      cases bq
      · have HU := Lib.hid (show stgU p2 (k + 1) = stgU p2 k by simp only [stgU]; rw [HB.out]; rfl)
        go_wp2_with fail
        exact ⟨⟨k + 1, by omega, by go_num, by rw [HU.out], hv2⟩, by simp [intOf]; omega⟩
      · have HU := Lib.hid (show stgU p2 (k + 1) = (k : Int) by simp only [stgU]; rw [HB.out]; rfl)
        go_wp2_with fail
        exact ⟨⟨k + 1, by omega, by go_num, by rw [HU.out], hv2⟩, by simp [intOf]; omega⟩
    · have hk5 : k = 5 := by omega
      subst hk5
      replace hv1 := bl_trans hv1 hv2
      replace hR := hR.below hv2
      have HSG := Lib.hid (stgU_five p2)
      obtain ⟨sg, hsg⟩ : ∃ sg, sg = stgU p2 5 := ⟨_, rfl⟩
      rw [← hsg] at HSG ⊢
      clear hv2 hsg
      obtain ⟨t, ht⟩ : ∃ t, p0.extract 1 p0.size = t := ⟨_, rfl⟩
      have htd : t.data.toList = p0.data.toList.drop 1 := by
        rw [← ht, extract_data, List.take_of_length_le (by rw [List.length_drop, bytes_len]; omega)]
      have htz : t.size ≤ p0.size := by rw [← ht]; simp
      rw [← htd] at HL
      clear htd
      have hl1 : (1 : Int) ≤ (p0.size : Int) := by omega
      obtain ⟨b0, c0⟩ := numV_bd t
      have HN0 := Lib.hid (fun w => l01Number_c t (by omega) w)
      obtain ⟨o0, ho0⟩ : ∃ o, o = okN t.data.toList := ⟨_, rfl⟩
      obtain ⟨n0, hn0⟩ : ∃ o, o = numV t := ⟨_, rfl⟩
      rw [← ho0, ← hn0] at HN0
      rw [← hn0] at b0 c0
      have HV0 := Lib.hid (show o0 = true → numL t.data.toList = n0 from fun h => by rw [hn0, numV_yes (by rw [← ho0]; exact h)])
      obtain ⟨b4, c4⟩ := numV_bd p4
      have HN4 := Lib.hid (fun w => l01Number_c p4 (by omega) w)
      obtain ⟨o4, ho4⟩ : ∃ o, o = okN p4.data.toList := ⟨_, rfl⟩
      obtain ⟨n4, hn4⟩ : ∃ o, o = numV p4 := ⟨_, rfl⟩
      rw [← ho4, ← hn4] at HN4
      rw [← hn4] at b4 c4
      have HV4 := Lib.hid (show o4 = true → numL p4.data.toList = n4 from fun h => by rw [hn4, numV_yes (by rw [← ho4]; exact h)])
      obtain ⟨b6, c6⟩ := numV_bd p6
      have HN6 := Lib.hid (fun w => l01Number_c p6 (by omega) w)
      obtain ⟨o6, ho6⟩ : ∃ o, o = okN p6.data.toList := ⟨_, rfl⟩
      obtain ⟨n6, hn6⟩ : ∃ o, o = numV p6 := ⟨_, rfl⟩
      rw [← ho6, ← hn6] at HN6
      rw [← hn6] at b6 c6
      have HV6 := Lib.hid (show o6 = true → numL p6.data.toList = n6 from fun h => by rw [hn6, numV_yes (by rw [← ho6]; exact h)])
      obtain ⟨b8, c8⟩ := numV_bd p8
      have HN8 := Lib.hid (fun w => l01Number_c p8 (by omega) w)
      obtain ⟨o8, ho8⟩ : ∃ o, o = okN p8.data.toList := ⟨_, rfl⟩
      obtain ⟨n8, hn8⟩ : ∃ o, o = numV p8 := ⟨_, rfl⟩
      rw [← ho8, ← hn8] at HN8
      rw [← hn8] at b8 c8
      have HV8 := Lib.hid (show o8 = true → numL p8.data.toList = n8 from fun h => by rw [hn8, numV_yes (by rw [← ho8]; exact h)])
      rw [← ho0, ← ho4, ← ho6, ← ho8] at HL
      clear ho0 hn0 ho4 hn4 ho6 hn6 ho8 hn8
      have s0 : wr.cell? ⟨gS, 0, none⟩ = some (.string p0) := hS.cellAt 0 (by omega)
      go_wp2_with fail
      refine (HN0.out _).mono ?_
      rintro e W1 ⟨rfl, hb⟩
      replace hv1 := bl_trans hv1 hb
      replace hR := hR.below hb
      replace hS := own_below hS hb
      clear hb s0
      have s4 : W1.cell? ⟨gS, 4, none⟩ = some (.string p4) := hS.cellAt 4 (by omega)
      go_wp2_with fail
      refine (HN4.out _).mono ?_
      rintro e W2 ⟨rfl, hb⟩
      replace hv1 := bl_trans hv1 hb
      replace hR := hR.below hb
      replace hS := own_below hS hb
      clear hb s4
      have s6 : W2.cell? ⟨gS, 6, none⟩ = some (.string p6) := hS.cellAt 6 (by omega)
      go_wp2_with fail
      refine (HN6.out _).mono ?_
      rintro e W3 ⟨rfl, hb⟩
      replace hv1 := bl_trans hv1 hb
      replace hR := hR.below hb
      replace hS := own_below hS hb
      clear hb s6
      have s8 : W3.cell? ⟨gS, 8, none⟩ = some (.string p8) := hS.cellAt 8 (by omega)
      go_wp2_with fail
      refine (HN8.out _).mono ?_
      rintro e W4 ⟨rfl, hb⟩
      replace hv1 := bl_trans hv1 hb
      replace hR := hR.below hb
      replace hS := own_below hS hb
      clear hb s8
      have s1 : W4.cell? ⟨gS, 1, none⟩ = some (.string p1) := hS.cellAt 1 (by omega)
      obtain ⟨W5, hW5⟩ : ∃ W5, W5 = W4.alloc (Obj.cells #[Value.int IntKind.i64 n0, Value.string p1, Value.int IntKind.i64 sg, Value.int IntKind.i64 n4, Value.int IntKind.i64 n6, Value.int IntKind.i64 n8] 26) := ⟨_, rfl⟩
      obtain ⟨gX, hgX⟩ : ∃ gX, gX = W4.heap.size := ⟨_, rfl⟩
      have hX : Blk W5 gX 26 #[Value.int IntKind.i64 n0, Value.string p1, Value.int IntKind.i64 sg, Value.int IntKind.i64 n4, Value.int IntKind.i64 n6, Value.int IntKind.i64 n8] := by rw [hW5, hgX]; exact Blk.new _ _ _
      have hb : Below W4.heap.size W4 W5 := by rw [hW5]; exact bl_alloc (Below.refl _ _) _
      have HW5 := Lib.hid hW5
      have HGX := Lib.hid hgX
      replace hv1 := bl_trans hv1 hb
      have hRa := fun O => hR.alloc O
      replace hR := hR.below hb
      clear hb hW5 hgX ht
      have HMK : Hid (o0 = true → o4 = true → o6 = true → o8 = true → mkO t.data.toList p1.data.toList p2.data.toList p4.data.toList p6.data.toList p8.data.toList = ⟨n0, p1, sg, n4, n6, n8⟩) := Lib.hid (by
        intro q0 q4 q6 q8
        unfold mkO
        rw [HV0.out q0, HV4.out q4, HV6.out q6, HV8.out q8, ← HSG.out, bytes_list])
      cases o0
      · have HO := Lib.hid (HL.out.1 (fun h => by cases h.2.2.2.2.2.1))
        clear HMK
        have r0 : ∀ O, (W4.alloc O).cell? ⟨gR, 0, none⟩ = some (.int .i64 0) := fun O => (hRa O).cell 0
        have f0 : ∀ O, (W4.alloc O).frozen? ⟨gR, 0, none⟩ = false := fun O => (hRa O).frozen 0
        have r1 : ∀ O, (W4.alloc O).cell? ⟨gR, 1, none⟩ = some (.string ⟨#[]⟩) := fun O => (hRa O).cell 1
        have f1 : ∀ O, (W4.alloc O).frozen? ⟨gR, 1, none⟩ = false := fun O => (hRa O).frozen 1
        have r2 : ∀ O, (W4.alloc O).cell? ⟨gR, 2, none⟩ = some (.int .i64 0) := fun O => (hRa O).cell 2
        have f2 : ∀ O, (W4.alloc O).frozen? ⟨gR, 2, none⟩ = false := fun O => (hRa O).frozen 2
        have r3 : ∀ O, (W4.alloc O).cell? ⟨gR, 3, none⟩ = some (.int .i64 0) := fun O => (hRa O).cell 3
        have f3 : ∀ O, (W4.alloc O).frozen? ⟨gR, 3, none⟩ = false := fun O => (hRa O).frozen 3
        have r4 : ∀ O, (W4.alloc O).cell? ⟨gR, 4, none⟩ = some (.int .i64 0) := fun O => (hRa O).cell 4
        have f4 : ∀ O, (W4.alloc O).frozen? ⟨gR, 4, none⟩ = false := fun O => (hRa O).frozen 4
        have r5 : ∀ O, (W4.alloc O).cell? ⟨gR, 5, none⟩ = some (.int .i64 0) := fun O => (hRa O).cell 5
        have f5 : ∀ O, (W4.alloc O).frozen? ⟨gR, 5, none⟩ = false := fun O => (hRa O).frozen 5
        go_wp2_with fail
        rw [← HW5.out]
        refine bodyPost_ret (results_cell_row_tmp (P := Tryz.prog) rfl _ _ gR 26 #[Value.int IntKind.i64 0, Value.string ⟨#[]⟩, Value.int IntKind.i64 0, Value.int IntKind.i64 0, Value.int IntKind.i64 0, Value.int IntKind.i64 0] (0, 0) _ rfl ?_ Tryz.underlying26 rfl (by kernel_rfl)) rfl ?_
        · have h1 := hR.set_ 0 (.int .i64 0)
          replace h1 := h1.set_ 1 (.string ⟨#[]⟩)
          replace h1 := h1.set_ 2 (.int .i64 0)
          replace h1 := h1.set_ 3 (.int .i64 0)
          replace h1 := h1.set_ 4 (.int .i64 0)
          exact h1.set_ 5 (.int .i64 0)
        · exact RetT.mk (by rw [outOs_none HO.out]; rfl) (bl_set (bl_set (bl_set (bl_set (bl_set (bl_set (hv1) (p := ⟨gR, 0, none⟩) hgR1 (.int .i64 0)) (p := ⟨gR, 1, none⟩) hgR1 (.string ⟨#[]⟩)) (p := ⟨gR, 2, none⟩) hgR1 (.int .i64 0)) (p := ⟨gR, 3, none⟩) hgR1 (.int .i64 0)) (p := ⟨gR, 4, none⟩) hgR1 (.int .i64 0)) (p := ⟨gR, 5, none⟩) hgR1 (.int .i64 0))
      cases o4
      · have HO := Lib.hid (HL.out.1 (fun h => by cases h.2.2.2.2.2.2.1))
        clear HMK
        have r0 : ∀ O, (W4.alloc O).cell? ⟨gR, 0, none⟩ = some (.int .i64 0) := fun O => (hRa O).cell 0
        have f0 : ∀ O, (W4.alloc O).frozen? ⟨gR, 0, none⟩ = false := fun O => (hRa O).frozen 0
        have r1 : ∀ O, (W4.alloc O).cell? ⟨gR, 1, none⟩ = some (.string ⟨#[]⟩) := fun O => (hRa O).cell 1
        have f1 : ∀ O, (W4.alloc O).frozen? ⟨gR, 1, none⟩ = false := fun O => (hRa O).frozen 1
        have r2 : ∀ O, (W4.alloc O).cell? ⟨gR, 2, none⟩ = some (.int .i64 0) := fun O => (hRa O).cell 2
        have f2 : ∀ O, (W4.alloc O).frozen? ⟨gR, 2, none⟩ = false := fun O => (hRa O).frozen 2
        have r3 : ∀ O, (W4.alloc O).cell? ⟨gR, 3, none⟩ = some (.int .i64 0) := fun O => (hRa O).cell 3
        have f3 : ∀ O, (W4.alloc O).frozen? ⟨gR, 3, none⟩ = false := fun O => (hRa O).frozen 3
        have r4 : ∀ O, (W4.alloc O).cell? ⟨gR, 4, none⟩ = some (.int .i64 0) := fun O => (hRa O).cell 4
        have f4 : ∀ O, (W4.alloc O).frozen? ⟨gR, 4, none⟩ = false := fun O => (hRa O).frozen 4
        have r5 : ∀ O, (W4.alloc O).cell? ⟨gR, 5, none⟩ = some (.int .i64 0) := fun O => (hRa O).cell 5
        have f5 : ∀ O, (W4.alloc O).frozen? ⟨gR, 5, none⟩ = false := fun O => (hRa O).frozen 5
        go_wp2_with fail
        rw [← HW5.out]
        refine bodyPost_ret (results_cell_row_tmp (P := Tryz.prog) rfl _ _ gR 26 #[Value.int IntKind.i64 0, Value.string ⟨#[]⟩, Value.int IntKind.i64 0, Value.int IntKind.i64 0, Value.int IntKind.i64 0, Value.int IntKind.i64 0] (0, 0) _ rfl ?_ Tryz.underlying26 rfl (by kernel_rfl)) rfl ?_
        · have h1 := hR.set_ 0 (.int .i64 0)
          replace h1 := h1.set_ 1 (.string ⟨#[]⟩)
          replace h1 := h1.set_ 2 (.int .i64 0)
          replace h1 := h1.set_ 3 (.int .i64 0)
          replace h1 := h1.set_ 4 (.int .i64 0)
          exact h1.set_ 5 (.int .i64 0)
        · exact RetT.mk (by rw [outOs_none HO.out]; rfl) (bl_set (bl_set (bl_set (bl_set (bl_set (bl_set (hv1) (p := ⟨gR, 0, none⟩) hgR1 (.int .i64 0)) (p := ⟨gR, 1, none⟩) hgR1 (.string ⟨#[]⟩)) (p := ⟨gR, 2, none⟩) hgR1 (.int .i64 0)) (p := ⟨gR, 3, none⟩) hgR1 (.int .i64 0)) (p := ⟨gR, 4, none⟩) hgR1 (.int .i64 0)) (p := ⟨gR, 5, none⟩) hgR1 (.int .i64 0))
      cases o6
      · have HO := Lib.hid (HL.out.1 (fun h => by cases h.2.2.2.2.2.2.2.1))
        clear HMK
        have r0 : ∀ O, (W4.alloc O).cell? ⟨gR, 0, none⟩ = some (.int .i64 0) := fun O => (hRa O).cell 0
        have f0 : ∀ O, (W4.alloc O).frozen? ⟨gR, 0, none⟩ = false := fun O => (hRa O).frozen 0
        have r1 : ∀ O, (W4.alloc O).cell? ⟨gR, 1, none⟩ = some (.string ⟨#[]⟩) := fun O => (hRa O).cell 1
        have f1 : ∀ O, (W4.alloc O).frozen? ⟨gR, 1, none⟩ = false := fun O => (hRa O).frozen 1
        have r2 : ∀ O, (W4.alloc O).cell? ⟨gR, 2, none⟩ = some (.int .i64 0) := fun O => (hRa O).cell 2
        have f2 : ∀ O, (W4.alloc O).frozen? ⟨gR, 2, none⟩ = false := fun O => (hRa O).frozen 2
        have r3 : ∀ O, (W4.alloc O).cell? ⟨gR, 3, none⟩ = some (.int .i64 0) := fun O => (hRa O).cell 3
        have f3 : ∀ O, (W4.alloc O).frozen? ⟨gR, 3, none⟩ = false := fun O => (hRa O).frozen 3
        have r4 : ∀ O, (W4.alloc O).cell? ⟨gR, 4, none⟩ = some (.int .i64 0) := fun O => (hRa O).cell 4
        have f4 : ∀ O, (W4.alloc O).frozen? ⟨gR, 4, none⟩ = false := fun O => (hRa O).frozen 4
        have r5 : ∀ O, (W4.alloc O).cell? ⟨gR, 5, none⟩ = some (.int .i64 0) := fun O => (hRa O).cell 5
        have f5 : ∀ O, (W4.alloc O).frozen? ⟨gR, 5, none⟩ = false := fun O => (hRa O).frozen 5
        go_wp2_with fail
        rw [← HW5.out]
        refine bodyPost_ret (results_cell_row_tmp (P := Tryz.prog) rfl _ _ gR 26 #[Value.int IntKind.i64 0, Value.string ⟨#[]⟩, Value.int IntKind.i64 0, Value.int IntKind.i64 0, Value.int IntKind.i64 0, Value.int IntKind.i64 0] (0, 0) _ rfl ?_ Tryz.underlying26 rfl (by kernel_rfl)) rfl ?_
        · have h1 := hR.set_ 0 (.int .i64 0)
          replace h1 := h1.set_ 1 (.string ⟨#[]⟩)
          replace h1 := h1.set_ 2 (.int .i64 0)
          replace h1 := h1.set_ 3 (.int .i64 0)
          replace h1 := h1.set_ 4 (.int .i64 0)
          exact h1.set_ 5 (.int .i64 0)
        · exact RetT.mk (by rw [outOs_none HO.out]; rfl) (bl_set (bl_set (bl_set (bl_set (bl_set (bl_set (hv1) (p := ⟨gR, 0, none⟩) hgR1 (.int .i64 0)) (p := ⟨gR, 1, none⟩) hgR1 (.string ⟨#[]⟩)) (p := ⟨gR, 2, none⟩) hgR1 (.int .i64 0)) (p := ⟨gR, 3, none⟩) hgR1 (.int .i64 0)) (p := ⟨gR, 4, none⟩) hgR1 (.int .i64 0)) (p := ⟨gR, 5, none⟩) hgR1 (.int .i64 0))
      cases o8
      · have HO := Lib.hid (HL.out.1 (fun h => by cases h.2.2.2.2.2.2.2.2.1))
        clear HMK
        have r0 : ∀ O, (W4.alloc O).cell? ⟨gR, 0, none⟩ = some (.int .i64 0) := fun O => (hRa O).cell 0
        have f0 : ∀ O, (W4.alloc O).frozen? ⟨gR, 0, none⟩ = false := fun O => (hRa O).frozen 0
        have r1 : ∀ O, (W4.alloc O).cell? ⟨gR, 1, none⟩ = some (.string ⟨#[]⟩) := fun O => (hRa O).cell 1
        have f1 : ∀ O, (W4.alloc O).frozen? ⟨gR, 1, none⟩ = false := fun O => (hRa O).frozen 1
        have r2 : ∀ O, (W4.alloc O).cell? ⟨gR, 2, none⟩ = some (.int .i64 0) := fun O => (hRa O).cell 2
        have f2 : ∀ O, (W4.alloc O).frozen? ⟨gR, 2, none⟩ = false := fun O => (hRa O).frozen 2
        have r3 : ∀ O, (W4.alloc O).cell? ⟨gR, 3, none⟩ = some (.int .i64 0) := fun O => (hRa O).cell 3
        have f3 : ∀ O, (W4.alloc O).frozen? ⟨gR, 3, none⟩ = false := fun O => (hRa O).frozen 3
        have r4 : ∀ O, (W4.alloc O).cell? ⟨gR, 4, none⟩ = some (.int .i64 0) := fun O => (hRa O).cell 4
        have f4 : ∀ O, (W4.alloc O).frozen? ⟨gR, 4, none⟩ = false := fun O => (hRa O).frozen 4
        have r5 : ∀ O, (W4.alloc O).cell? ⟨gR, 5, none⟩ = some (.int .i64 0) := fun O => (hRa O).cell 5
        have f5 : ∀ O, (W4.alloc O).frozen? ⟨gR, 5, none⟩ = false := fun O => (hRa O).frozen 5
        go_wp2_with fail
        rw [← HW5.out]
        refine bodyPost_ret (results_cell_row_tmp (P := Tryz.prog) rfl _ _ gR 26 #[Value.int IntKind.i64 0, Value.string ⟨#[]⟩, Value.int IntKind.i64 0, Value.int IntKind.i64 0, Value.int IntKind.i64 0, Value.int IntKind.i64 0] (0, 0) _ rfl ?_ Tryz.underlying26 rfl (by kernel_rfl)) rfl ?_
        · have h1 := hR.set_ 0 (.int .i64 0)
          replace h1 := h1.set_ 1 (.string ⟨#[]⟩)
          replace h1 := h1.set_ 2 (.int .i64 0)
          replace h1 := h1.set_ 3 (.int .i64 0)
          replace h1 := h1.set_ 4 (.int .i64 0)
          exact h1.set_ 5 (.int .i64 0)
        · exact RetT.mk (by rw [outOs_none HO.out]; rfl) (bl_set (bl_set (bl_set (bl_set (bl_set (bl_set (hv1) (p := ⟨gR, 0, none⟩) hgR1 (.int .i64 0)) (p := ⟨gR, 1, none⟩) hgR1 (.string ⟨#[]⟩)) (p := ⟨gR, 2, none⟩) hgR1 (.int .i64 0)) (p := ⟨gR, 3, none⟩) hgR1 (.int .i64 0)) (p := ⟨gR, 4, none⟩) hgR1 (.int .i64 0)) (p := ⟨gR, 5, none⟩) hgR1 (.int .i64 0))
      have HX := Lib.hid (HMK.out rfl rfl rfl rfl)
      go_wp2_with fail
      rw [← HW5.out, ← HGX.out]
      refine (l25One_c ⟨gX, 0, none⟩ ⟨n0, p1, sg, n4, n6, n8⟩ (show p1.size ≤ _ by omega) _ (hX.cell 0) (hX.cell 1) (hX.cell 2) (hX.cell 3) (hX.cell 4) (hX.cell 5)).mono ?_
      rintro e w' ⟨rfl, hq⟩
      rw [hq]
      clear hq w' hRa s1
      cases hord : ordB ⟨n0, p1, sg, n4, n6, n8⟩
      · have HO := Lib.hid (HL.out.1 (fun h => by have h1 := h.2.2.2.2.2.2.2.2.2; rw [HX.out, hord] at h1; cases h1))
        clear hord
        have r0 : W5.cell? ⟨gR, 0, none⟩ = some (.int .i64 0) := hR.cell 0
        have f0 : W5.frozen? ⟨gR, 0, none⟩ = false := hR.frozen 0
        have r1 : W5.cell? ⟨gR, 1, none⟩ = some (.string ⟨#[]⟩) := hR.cell 1
        have f1 : W5.frozen? ⟨gR, 1, none⟩ = false := hR.frozen 1
        have r2 : W5.cell? ⟨gR, 2, none⟩ = some (.int .i64 0) := hR.cell 2
        have f2 : W5.frozen? ⟨gR, 2, none⟩ = false := hR.frozen 2
        have r3 : W5.cell? ⟨gR, 3, none⟩ = some (.int .i64 0) := hR.cell 3
        have f3 : W5.frozen? ⟨gR, 3, none⟩ = false := hR.frozen 3
        have r4 : W5.cell? ⟨gR, 4, none⟩ = some (.int .i64 0) := hR.cell 4
        have f4 : W5.frozen? ⟨gR, 4, none⟩ = false := hR.frozen 4
        have r5 : W5.cell? ⟨gR, 5, none⟩ = some (.int .i64 0) := hR.cell 5
        have f5 : W5.frozen? ⟨gR, 5, none⟩ = false := hR.frozen 5
        go_wp2_with fail
        refine bodyPost_ret (results_cell_row_tmp (P := Tryz.prog) rfl _ _ gR 26 #[Value.int IntKind.i64 0, Value.string ⟨#[]⟩, Value.int IntKind.i64 0, Value.int IntKind.i64 0, Value.int IntKind.i64 0, Value.int IntKind.i64 0] (0, 0) _ rfl ?_ Tryz.underlying26 rfl (by kernel_rfl)) rfl ?_
        · have h1 := hR.set_ 0 (.int .i64 0)
          replace h1 := h1.set_ 1 (.string ⟨#[]⟩)
          replace h1 := h1.set_ 2 (.int .i64 0)
          replace h1 := h1.set_ 3 (.int .i64 0)
          replace h1 := h1.set_ 4 (.int .i64 0)
          exact h1.set_ 5 (.int .i64 0)
        · exact RetT.mk (by rw [outOs_none HO.out]; rfl) (bl_set (bl_set (bl_set (bl_set (bl_set (bl_set (hv1) (p := ⟨gR, 0, none⟩) hgR1 (.int .i64 0)) (p := ⟨gR, 1, none⟩) hgR1 (.string ⟨#[]⟩)) (p := ⟨gR, 2, none⟩) hgR1 (.int .i64 0)) (p := ⟨gR, 3, none⟩) hgR1 (.int .i64 0)) (p := ⟨gR, 4, none⟩) hgR1 (.int .i64 0)) (p := ⟨gR, 5, none⟩) hgR1 (.int .i64 0))
      · have HO := Lib.hid ((HL.out.2 ⟨HC.out.1, HC.out.2.1, HC.out.2.2.1, HC.out.2.2.2.1, HC.out.2.2.2.2, trivial, trivial, trivial, trivial, by rw [HX.out]; exact hord⟩).trans (by rw [HX.out]))
        clear hord
        have x0 : W5.cell? ⟨gX, 0, none⟩ = some (.int .i64 n0) := hX.cell 0
        have x1 : W5.cell? ⟨gX, 1, none⟩ = some (.string p1) := hX.cell 1
        have x2 : W5.cell? ⟨gX, 2, none⟩ = some (.int .i64 sg) := hX.cell 2
        have x3 : W5.cell? ⟨gX, 3, none⟩ = some (.int .i64 n4) := hX.cell 3
        have x4 : W5.cell? ⟨gX, 4, none⟩ = some (.int .i64 n6) := hX.cell 4
        have x5 : W5.cell? ⟨gX, 5, none⟩ = some (.int .i64 n8) := hX.cell 5
        have r0 : W5.cell? ⟨gR, 0, none⟩ = some (.int .i64 0) := hR.cell 0
        have f0 : W5.frozen? ⟨gR, 0, none⟩ = false := hR.frozen 0
        have r1 : W5.cell? ⟨gR, 1, none⟩ = some (.string ⟨#[]⟩) := hR.cell 1
        have f1 : W5.frozen? ⟨gR, 1, none⟩ = false := hR.frozen 1
        have r2 : W5.cell? ⟨gR, 2, none⟩ = some (.int .i64 0) := hR.cell 2
        have f2 : W5.frozen? ⟨gR, 2, none⟩ = false := hR.frozen 2
        have r3 : W5.cell? ⟨gR, 3, none⟩ = some (.int .i64 0) := hR.cell 3
        have f3 : W5.frozen? ⟨gR, 3, none⟩ = false := hR.frozen 3
        have r4 : W5.cell? ⟨gR, 4, none⟩ = some (.int .i64 0) := hR.cell 4
        have f4 : W5.frozen? ⟨gR, 4, none⟩ = false := hR.frozen 4
        have r5 : W5.cell? ⟨gR, 5, none⟩ = some (.int .i64 0) := hR.cell 5
        have f5 : W5.frozen? ⟨gR, 5, none⟩ = false := hR.frozen 5
        go_wp2_with fail
        refine bodyPost_ret (results_cell_row_tmp (P := Tryz.prog) rfl _ _ gR 26 #[Value.int IntKind.i64 n0, Value.string p1, Value.int IntKind.i64 sg, Value.int IntKind.i64 n4, Value.int IntKind.i64 n6, Value.int IntKind.i64 n8] (0, 0) _ rfl ?_ Tryz.underlying26 rfl (by kernel_rfl)) rfl ?_
        · have h1 := hR.set_ 0 (.int .i64 n0)
          replace h1 := h1.set_ 1 (.string p1)
          replace h1 := h1.set_ 2 (.int .i64 sg)
          replace h1 := h1.set_ 3 (.int .i64 n4)
          replace h1 := h1.set_ 4 (.int .i64 n6)
          exact h1.set_ 5 (.int .i64 n8)
        · exact RetT.mk (by rw [outOs_some HO.out]; rfl) (bl_set (bl_set (bl_set (bl_set (bl_set (bl_set (hv1) (p := ⟨gR, 0, none⟩) hgR1 (.int .i64 n0)) (p := ⟨gR, 1, none⟩) hgR1 (.string p1)) (p := ⟨gR, 2, none⟩) hgR1 (.int .i64 sg)) (p := ⟨gR, 3, none⟩) hgR1 (.int .i64 n4)) (p := ⟨gR, 4, none⟩) hgR1 (.int .i64 n6)) (p := ⟨gR, 5, none⟩) hgR1 (.int .i64 n8))

end Go.Proofs.YtapnllbbdfoaaaaGreatDoor
