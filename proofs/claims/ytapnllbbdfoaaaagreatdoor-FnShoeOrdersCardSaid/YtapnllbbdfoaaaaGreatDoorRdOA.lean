/- ReadOrder: the program's function. -/
import Derived.Test.YtapnllbbdfoaaaaGreatDoorRdO
import Derived.Deep.RegionHeld3
namespace Go.Proofs.YtapnllbbdfoaaaaGreatDoor
open Go.RowKit

def zO : Order := ⟨0, ⟨#[]⟩, 0, 0, 0, 0⟩
def outO (o : Option Order) : Array Value := #[.agg #[.int .i64 (o.getD zO).id, .string (o.getD zO).customer, .int .i64 (o.getD zO).stage, .int .i64 (o.getD zO).due, .int .i64 (o.getD zO).left, .int .i64 (o.getD zO).fittings], .bool o.isSome]
theorem outO_none {l : List UInt8} (h : rdO l = none) : outO (rdO l) = #[.agg #[.int .i64 0, .string ⟨#[]⟩, .int .i64 0, .int .i64 0, .int .i64 0, .int .i64 0], .bool false] := by rw [h]; rfl
theorem outO_some {l : List UInt8} {x : Order} (h : rdO l = some x) : outO (rdO l) = #[.agg #[.int .i64 x.id, .string x.customer, .int .i64 x.stage, .int .i64 x.due, .int .i64 x.left, .int .i64 x.fittings], .bool true] := by rw [h]; rfl
theorem nine_of {s : ByteArray} (h : (splB s).length = 9) : ∃ p0 p1 p2 p3 p4 p5 p6 p7 p8, splB s = [p0, p1, p2, p3, p4, p5, p6, p7, p8] := by
  match hs : splB s, h with
  | [p0, p1, p2, p3, p4, p5, p6, p7, p8], _ => exact ⟨p0, p1, p2, p3, p4, p5, p6, p7, p8, rfl⟩
theorem splB_list {s : ByteArray} {L : List ByteArray} (h : splB s = L) : spl 32 s.data.toList = L.map (·.data.toList) := by
  rw [← h]
  unfold splB
  rw [List.map_map]
  conv => lhs; rw [← List.map_id (spl 32 s.data.toList)]
  exact List.map_congr_left fun x _ => by simp
theorem IndexW_c (p : ByteArray) (w : World) (hW : Words w) : Calls Tryz.prog 56 #[.slice (some ⟨0, 0, none⟩) 5 5, .string p] w (RetQ (.int .i64 (stgL p.data.toList)) w) := by
  have h := Tryz.slices_Index_string 0 0 5 5 [wordAt 0, wordAt 1, wordAt 2, wordAt 3, wordAt 4] p w (by simp) (by omega) (by
    intro j hj
    obtain ⟨c0, c1, c2, c3, c4⟩ := hW
    rcases (show j = 0 ∨ j = 1 ∨ j = 2 ∨ j = 3 ∨ j = 4 by simp at hj; omega) with rfl | rfl | rfl | rfl | rfl
    · exact c0
    · exact c1
    · exact c2
    · exact c3
    · exact c4)
  rw [show [wordAt 0, wordAt 1, wordAt 2, wordAt 3, wordAt 4].take 5 = [wordAt 0, wordAt 1, wordAt 2, wordAt 3, wordAt 4] from rfl, idx_stg] at h
  exact h
set_option maxRecDepth 100000 in
set_option maxHeartbeats 8000000 in
theorem ReadOrder_c (s : ByteArray) (hs : s.size ≤ 1048576) (w : World) (hT : Tabs w) (hW : Words w) : Calls Tryz.prog 19 #[.string s] w (RetT (outO (rdO s.data.toList)) w) := by
  have HT := Lib.hid hT
  have HW := Lib.hid hW
  have hle := splB_le s
  clear hT hW
  go_enter Tryz.func19, Tryz.ntmps19
  go_wp2_with fail
  have hv := bl_alloc (Below.refl w.heap.size w) (Obj.cells #[Value.int IntKind.i64 0, Value.string ⟨#[]⟩, Value.int IntKind.i64 0, Value.int IntKind.i64 0, Value.int IntKind.i64 0, Value.int IntKind.i64 0] 26)
  have hR := Blk.new w 26 #[Value.int IntKind.i64 0, Value.string ⟨#[]⟩, Value.int IntKind.i64 0, Value.int IntKind.i64 0, Value.int IntKind.i64 0, Value.int IntKind.i64 0]
  refine (SplitSp_c s (by omega) _ (HT.out.below hv)).mono ?_
  rintro e W ⟨rfl, hW⟩
  have hv1 := bl_alloc hv (Obj.cells ((splB s).map Value.string).toArray 9)
  have hS := Blk.new (w.alloc (Obj.cells #[Value.int IntKind.i64 0, Value.string ⟨#[]⟩, Value.int IntKind.i64 0, Value.int IntKind.i64 0, Value.int IntKind.i64 0, Value.int IntKind.i64 0] 26)) 9 ((splB s).map Value.string).toArray
  replace hR := hR.alloc (Obj.cells ((splB s).map Value.string).toArray 9)
  rw [← hW] at hv1 hS hR
  obtain ⟨gS, hgS⟩ : ∃ gS, gS = (w.alloc (Obj.cells #[Value.int IntKind.i64 0, Value.string ⟨#[]⟩, Value.int IntKind.i64 0, Value.int IntKind.i64 0, Value.int IntKind.i64 0, Value.int IntKind.i64 0] 26)).heap.size := ⟨_, rfl⟩
  obtain ⟨gR, hgR⟩ : ∃ gR, gR = w.heap.size := ⟨_, rfl⟩
  rw [← hgS] at hS ⊢
  have hgR1 : w.heap.size ≤ gR := by omega
  rw [← hgR] at hR
  have HGR := Lib.hid hgR
  clear hW hgS hv
  by_cases h9 : (splB s).length = 9
  case neg =>
    have HO := Lib.hid (rdO_short (l := s.data.toList) (by
      have h1 := splB_list (s := s) rfl
      rw [h1, List.length_map]; exact h9))
    have h9' : ¬ ((splB s).length : Int) = 9 := by omega
    generalize (splB s).length = n at h9 h9' hle ⊢
    rw [← hgR]
    clear hgR
    have r0 : W.cell? ⟨gR, 0, none⟩ = some (.int .i64 0) := hR.cell 0
    have f0 : W.frozen? ⟨gR, 0, none⟩ = false := hR.frozen 0
    have r1 : W.cell? ⟨gR, 1, none⟩ = some (.string ⟨#[]⟩) := hR.cell 1
    have f1 : W.frozen? ⟨gR, 1, none⟩ = false := hR.frozen 1
    have r2 : W.cell? ⟨gR, 2, none⟩ = some (.int .i64 0) := hR.cell 2
    have f2 : W.frozen? ⟨gR, 2, none⟩ = false := hR.frozen 2
    have r3 : W.cell? ⟨gR, 3, none⟩ = some (.int .i64 0) := hR.cell 3
    have f3 : W.frozen? ⟨gR, 3, none⟩ = false := hR.frozen 3
    have r4 : W.cell? ⟨gR, 4, none⟩ = some (.int .i64 0) := hR.cell 4
    have f4 : W.frozen? ⟨gR, 4, none⟩ = false := hR.frozen 4
    have r5 : W.cell? ⟨gR, 5, none⟩ = some (.int .i64 0) := hR.cell 5
    have f5 : W.frozen? ⟨gR, 5, none⟩ = false := hR.frozen 5
    go_wp2_with fail
    refine bodyPost_ret (results_cell_row_tmp (P := Tryz.prog) rfl _ _ gR 26 #[Value.int IntKind.i64 0, Value.string ⟨#[]⟩, Value.int IntKind.i64 0, Value.int IntKind.i64 0, Value.int IntKind.i64 0, Value.int IntKind.i64 0] (0, 0) _ rfl ?_ Tryz.underlying26 rfl (by kernel_rfl)) rfl ?_
    · have h1 := hR.set_ 0 (.int .i64 0)
      replace h1 := h1.set_ 1 (.string ⟨#[]⟩)
      replace h1 := h1.set_ 2 (.int .i64 0)
      replace h1 := h1.set_ 3 (.int .i64 0)
      replace h1 := h1.set_ 4 (.int .i64 0)
      exact h1.set_ 5 (.int .i64 0)
    · exact RetT.mk (by rw [outO_none HO.out]; rfl) (bl_set (bl_set (bl_set (bl_set (bl_set (bl_set (hv1) (p := ⟨gR, 0, none⟩) hgR1 (.int .i64 0)) (p := ⟨gR, 1, none⟩) hgR1 (.string ⟨#[]⟩)) (p := ⟨gR, 2, none⟩) hgR1 (.int .i64 0)) (p := ⟨gR, 3, none⟩) hgR1 (.int .i64 0)) (p := ⟨gR, 4, none⟩) hgR1 (.int .i64 0)) (p := ⟨gR, 5, none⟩) hgR1 (.int .i64 0))
  obtain ⟨p0, p1, p2, p3, p4, p5, p6, p7, p8, hq⟩ := nine_of h9
  have hs0 := splB_part (s := s) (x := p0) (by rw [hq]; simp)
  have hs1 := splB_part (s := s) (x := p1) (by rw [hq]; simp)
  have hs4 := splB_part (s := s) (x := p4) (by rw [hq]; simp)
  have hs6 := splB_part (s := s) (x := p6) (by rw [hq]; simp)
  have hs8 := splB_part (s := s) (x := p8) (by rw [hq]; simp)
  have HL := Lib.hid (rdO_prog (s := s) (splB_list hq))
  have hS2 : Blk W gS 9 #[.string p0, .string p1, .string p2, .string p3, .string p4, .string p5, .string p6, .string p7, .string p8] := by rw [hq] at hS; exact hS
  rw [hq]
  simp only [List.length_cons, List.length_nil]
  clear hS hq h9 hle
  obtain ⟨t, ht⟩ : ∃ t : ByteArray, t = ⟨(trm p0.data.toList).toArray⟩ := ⟨_, rfl⟩
  have htd : t.data.toList = trm p0.data.toList := by rw [ht]
  have hTr := fun (w : World) => Tryz.strings_TrimPrefix p0 ⟨#[35]⟩ w
  rw [show (ByteArray.mk #[35]).data.toList = [35] from rfl, show Lib.trimPrefix p0.data.toList [35] = trm p0.data.toList from rfl, ← ht] at hTr
  replace hTr := Lib.hid hTr
  have htz : t.size ≤ p0.size := by
    rw [← bytes_len, htd, ← bytes_len p0]
    unfold trm Lib.trimPrefix
    split
    · rw [List.length_drop]; omega
    · exact Nat.le_refl _
  rw [← htd] at HL
  clear ht htd
  obtain ⟨b0, c0⟩ := numV_bd t
  have HN0 := Lib.hid (fun w hT => ReadDecimal_c t (by omega) w hT)
  obtain ⟨o0, ho0⟩ : ∃ o, o = okN t.data.toList := ⟨_, rfl⟩
  obtain ⟨n0, hn0⟩ : ∃ o, o = numV t := ⟨_, rfl⟩
  rw [← ho0, ← hn0] at HN0
  rw [← hn0] at b0 c0
  have HV0 := Lib.hid (show o0 = true → numL t.data.toList = n0 from fun h => by rw [hn0, numV_yes (by rw [← ho0]; exact h)])
  obtain ⟨b4, c4⟩ := numV_bd p4
  have HN4 := Lib.hid (fun w hT => ReadDecimal_c p4 (by omega) w hT)
  obtain ⟨o4, ho4⟩ : ∃ o, o = okN p4.data.toList := ⟨_, rfl⟩
  obtain ⟨n4, hn4⟩ : ∃ o, o = numV p4 := ⟨_, rfl⟩
  rw [← ho4, ← hn4] at HN4
  rw [← hn4] at b4 c4
  have HV4 := Lib.hid (show o4 = true → numL p4.data.toList = n4 from fun h => by rw [hn4, numV_yes (by rw [← ho4]; exact h)])
  obtain ⟨b6, c6⟩ := numV_bd p6
  have HN6 := Lib.hid (fun w hT => ReadDecimal_c p6 (by omega) w hT)
  obtain ⟨o6, ho6⟩ : ∃ o, o = okN p6.data.toList := ⟨_, rfl⟩
  obtain ⟨n6, hn6⟩ : ∃ o, o = numV p6 := ⟨_, rfl⟩
  rw [← ho6, ← hn6] at HN6
  rw [← hn6] at b6 c6
  have HV6 := Lib.hid (show o6 = true → numL p6.data.toList = n6 from fun h => by rw [hn6, numV_yes (by rw [← ho6]; exact h)])
  obtain ⟨b8, c8⟩ := numV_bd p8
  have HN8 := Lib.hid (fun w hT => ReadDecimal_c p8 (by omega) w hT)
  obtain ⟨o8, ho8⟩ : ∃ o, o = okN p8.data.toList := ⟨_, rfl⟩
  obtain ⟨n8, hn8⟩ : ∃ o, o = numV p8 := ⟨_, rfl⟩
  rw [← ho8, ← hn8] at HN8
  rw [← hn8] at b8 c8
  have HV8 := Lib.hid (show o8 = true → numL p8.data.toList = n8 from fun h => by rw [hn8, numV_yes (by rw [← ho8]; exact h)])
  rw [← ho0, ← ho4, ← ho6, ← ho8] at HL
  clear ho0 hn0 ho4 hn4 ho6 hn6 ho8 hn8
  obtain ⟨sg, hsg⟩ : ∃ sg, sg = stgL p2.data.toList := ⟨_, rfl⟩
  have HIX := Lib.hid (fun w hw => IndexW_c p2 w hw)
  rw [← hsg] at HIX
  have HSG := Lib.hid hsg
  clear hsg
  rw [← hgR]
  clear hgR
  have s0 : W.cell? ⟨gS, 0, none⟩ = some (.string p0) := hS2.cell 0
  go_wp2_with (go_at_call 55; refine (hTr.out _).mono ?_; rintro e w' ⟨rfl, hq⟩; rw [hq]; clear hq w')
  refine (HN0.out _ (HT.out.below hv1)).mono ?_
  rintro e W1 ⟨rfl, hb⟩
  replace hv1 := bl_trans hv1 hb
  replace hR := hR.below hb
  replace hS2 := hS2.below hb
  clear hb s0
  have s4 : W1.cell? ⟨gS, 4, none⟩ = some (.string p4) := hS2.cell 4
  go_wp2_with fail
  refine (HN4.out _ (HT.out.below hv1)).mono ?_
  rintro e W2 ⟨rfl, hb⟩
  replace hv1 := bl_trans hv1 hb
  replace hR := hR.below hb
  replace hS2 := hS2.below hb
  clear hb s4
  have s6 : W2.cell? ⟨gS, 6, none⟩ = some (.string p6) := hS2.cell 6
  go_wp2_with fail
  refine (HN6.out _ (HT.out.below hv1)).mono ?_
  rintro e W3 ⟨rfl, hb⟩
  replace hv1 := bl_trans hv1 hb
  replace hR := hR.below hb
  replace hS2 := hS2.below hb
  clear hb s6
  have s8 : W3.cell? ⟨gS, 8, none⟩ = some (.string p8) := hS2.cell 8
  go_wp2_with fail
  refine (HN8.out _ (HT.out.below hv1)).mono ?_
  rintro e W4 ⟨rfl, hb⟩
  replace hv1 := bl_trans hv1 hb
  replace hR := hR.below hb
  replace hS2 := hS2.below hb
  clear hb s8
  go_wp2_with fail
  have hv0 := hv1
  have hS0 := hS2
  replace hv1 : Below w.heap.size w W4.drew := hv1.drew
  replace hR := hR.below (Below.refl W4.heap.size W4).drew
  replace hS2 := hS2.below (Below.refl W4.heap.size W4).drew
  refine wp_region_held_drew (S := fun w' => Blk w' gS 9 #[.string p0, .string p1, .string p2, .string p3, .string p4, .string p5, .string p6, .string p7, .string p8]) (by kernel_rfl) ?_ (fun hHeld => ?_)
  · exact hS2
  refine wpAnyH_take (i := 0) (oi := { dst := some 49, op := _, type := _, pos := _, after := _, guard := _ }) (v := ?_) rfl (by kernel_rfl) (by kernel_rfl) (by kernel_rfl) (fun _ _ _ h => h) (Or.inl ⟨by kernel_rfl, ?_⟩) (by assumption) ?_
  rotate_left
  · intro w hSw
    try dsimp only at hSw
    go_simp
    try with_reducible rfl
  try simp only [Act.put, List.setIfInBounds_toArray, List.set_cons_zero, List.set_cons_succ]
  refine wpAnyH_take (i := 1) (oi := { dst := some 50, op := _, type := _, pos := _, after := _, guard := _ }) (v := ?_) rfl (by kernel_rfl) (by kernel_rfl) (by kernel_rfl) (fun _ _ _ h => h) (Or.inl ⟨by kernel_rfl, ?_⟩) (by assumption) ?_
  rotate_left
  · intro w hSw
    try dsimp only at hSw
    go_simp
    try with_reducible rfl
  try simp only [Act.put, List.setIfInBounds_toArray, List.set_cons_zero, List.set_cons_succ]
  refine wpAnyH_take (i := 2) (oi := { dst := some 51, op := _, type := _, pos := _, after := _, guard := _ }) (v := ?_) rfl (by kernel_rfl) (by kernel_rfl) (by kernel_rfl) (fun _ _ _ h => h) (Or.inl ⟨by kernel_rfl, ?_⟩) (by assumption) ?_
  rotate_left
  · intro w hSw
    try dsimp only at hSw
    go_simp
    try with_reducible rfl
  try simp only [Act.put, List.setIfInBounds_toArray, List.set_cons_zero, List.set_cons_succ]
  refine wpAnyH_take (i := 3) (oi := { dst := some 52, op := _, type := _, pos := _, after := _, guard := _ }) (v := ?_) rfl (by kernel_rfl) (by kernel_rfl) (by kernel_rfl) (fun _ _ _ h => h) (Or.inl ⟨by kernel_rfl, ?_⟩) (by assumption) ?_
  rotate_left
  · intro w hSw
    try dsimp only at hSw
    have s1 : w.cell? ⟨gS, 1, none⟩ = some (.string p1) := hSw.cell 1
    have s2 : w.cell? ⟨gS, 2, none⟩ = some (.string p2) := hSw.cell 2
    go_simp
    try with_reducible rfl
  try simp only [Act.put, List.setIfInBounds_toArray, List.set_cons_zero, List.set_cons_succ]
  refine wpAnyH_take (i := 4) (oi := { dst := some 53, op := _, type := _, pos := _, after := _, guard := _ }) (v := ?_) rfl (by kernel_rfl) (by kernel_rfl) (by kernel_rfl) (fun _ _ _ h => h) (Or.inl ⟨by kernel_rfl, ?_⟩) (by assumption) ?_
  rotate_left
  · intro w hSw
    try dsimp only at hSw
    go_simp
    try with_reducible rfl
  try simp only [Act.put, List.setIfInBounds_toArray, List.set_cons_zero, List.set_cons_succ]
  refine wpAnyH_take (i := 5) (oi := { dst := some 54, op := _, type := _, pos := _, after := _, guard := _ }) (v := ?_) rfl (by kernel_rfl) (by kernel_rfl) (by kernel_rfl) (fun _ _ _ h => h) (Or.inl ⟨by kernel_rfl, ?_⟩) (by assumption) ?_
  rotate_left
  · intro w hSw
    try dsimp only at hSw
    go_simp
    try with_reducible rfl
  try simp only [Act.put, List.setIfInBounds_toArray, List.set_cons_zero, List.set_cons_succ]
  refine wpAnyH_take (i := 6) (oi := { dst := some 55, op := _, type := _, pos := _, after := _, guard := _ }) (v := ?_) rfl (by kernel_rfl) (by kernel_rfl) (by kernel_rfl) (fun _ _ _ h => h) (Or.inl ⟨by kernel_rfl, ?_⟩) (by assumption) ?_
  rotate_left
  · intro w hSw
    try dsimp only at hSw
    go_simp
    try with_reducible rfl
  try simp only [Act.put, List.setIfInBounds_toArray, List.set_cons_zero, List.set_cons_succ]
  refine wpAnyH_take (i := 7) (oi := { dst := some 56, op := _, type := _, pos := _, after := _, guard := _ }) (v := ?_) rfl (by kernel_rfl) (by kernel_rfl) (by kernel_rfl) (fun _ _ _ h => h) (Or.inl ⟨by kernel_rfl, ?_⟩) (by assumption) ?_
  rotate_left
  · intro w hSw
    try dsimp only at hSw
    have s1 : w.cell? ⟨gS, 1, none⟩ = some (.string p1) := hSw.cell 1
    have s2 : w.cell? ⟨gS, 2, none⟩ = some (.string p2) := hSw.cell 2
    go_simp
    try with_reducible rfl
  try simp only [Act.put, List.setIfInBounds_toArray, List.set_cons_zero, List.set_cons_succ]
  refine wpAnyH_take (i := 9) (oi := { dst := some 58, op := _, type := _, pos := _, after := _, guard := _ }) (v := ?_) rfl (by kernel_rfl) (by kernel_rfl) (by kernel_rfl) (fun _ _ _ h => h) (Or.inl ⟨by kernel_rfl, ?_⟩) (by assumption) ?_
  rotate_left
  · intro w hSw
    try dsimp only at hSw
    go_simp
    try with_reducible rfl
  try simp only [Act.put, List.setIfInBounds_toArray, List.set_cons_zero, List.set_cons_succ]
  refine wpAnyH_take (i := 10) (oi := { dst := some 59, op := _, type := _, pos := _, after := _, guard := _ }) (v := ?_) rfl (by kernel_rfl) (by kernel_rfl) (by kernel_rfl) (fun _ _ _ h => h) (Or.inl ⟨by kernel_rfl, ?_⟩) (by assumption) ?_
  rotate_left
  · intro w hSw
    try dsimp only at hSw
    go_simp
    try with_reducible rfl
  try simp only [Act.put, List.setIfInBounds_toArray, List.set_cons_zero, List.set_cons_succ]
  refine wpAnyH_take (i := 11) (oi := { dst := some 60, op := _, type := _, pos := _, after := _, guard := _ }) (v := ?_) rfl (by kernel_rfl) (by kernel_rfl) (by kernel_rfl) (fun _ _ _ h => h) (Or.inl ⟨by kernel_rfl, ?_⟩) (by assumption) ?_
  rotate_left
  · intro w hSw
    try dsimp only at hSw
    go_simp
    try with_reducible rfl
  try simp only [Act.put, List.setIfInBounds_toArray, List.set_cons_zero, List.set_cons_succ]
  refine wpAnyH_ready (rs := [8, 13]) (by kernel_rfl) (by simp) ?_
  refine AllReadyH.cons (o := { dst := some 57, op := _, type := _, pos := _, after := _, guard := _ }) rfl (fun K hK => ?_) (AllReadyH.cons (o := { dst := some 13, op := _, type := _, pos := _, after := _, guard := _ }) rfl (fun K hK => ?_) AllReadyH.nil)
  · go_simp
    refine (HIX.out _ (HW.out.below (hv1))).mono ?_
    rintro e w' ⟨rfl, hq⟩
    rw [hq]
    clear hq w'
    go_wp2_with fail
    refine hK.out _ _ ?_ (fun hHeld => ?_)
    · exact hS2
    clear hK K
    try simp only [Act.put, List.setIfInBounds_toArray, List.set_cons_zero, List.set_cons_succ]
    refine wpAnyH_take (i := 12) (oi := { dst := some 61, op := _, type := _, pos := _, after := _, guard := _ }) (v := ?_) rfl (by kernel_rfl) (by kernel_rfl) (by kernel_rfl) (fun _ _ _ h => h) (Or.inl ⟨by kernel_rfl, ?_⟩) (by assumption) ?_
    rotate_left
    · intro w hSw
      try dsimp only at hSw
      go_simp
      try with_reducible rfl
    try simp only [Act.put, List.setIfInBounds_toArray, List.set_cons_zero, List.set_cons_succ]
    refine wpAnyH_ready (rs := [13]) (by kernel_rfl) (by simp) ?_
    refine AllReadyH.cons (o := { dst := some 13, op := _, type := _, pos := _, after := _, guard := _ }) rfl (fun K hK => ?_) AllReadyH.nil
    skip
    go_simp
    refine hK.out _ _ ?_ (fun hHeld => ?_)
    · exact (hS0.alloc _).below (Below.refl _ _).drew
    clear hK K
    try simp only [Act.put, List.setIfInBounds_toArray, List.set_cons_zero, List.set_cons_succ]
    refine wpAnyH_ready (rs := [14]) (by kernel_rfl) (by simp) ?_
    refine AllReadyH.cons (o := { dst := none, op := _, type := _, pos := _, after := _, guard := _ }) rfl (fun K hK => ?_) AllReadyH.nil
    skip
    go_simp
    refine hK.out _ _ ?_ (fun hHeld => ?_)
    · exact (hS0.alloc _).below (Below.refl _ _).drew
    clear hK K
    try simp only [Act.put]
    refine wpAnyH_done (by kernel_rfl) ?_ _
    clear hHeld
    obtain ⟨W5, hW5⟩ : ∃ W5, W5 = (W4.alloc (Obj.cells #[Value.int IntKind.i64 n0, Value.string p1, Value.int IntKind.i64 sg, Value.int IntKind.i64 n4, Value.int IntKind.i64 n6, Value.int IntKind.i64 n8] 26)).drew := ⟨_, rfl⟩
    obtain ⟨gX, hgX⟩ : ∃ gX, gX = W4.heap.size := ⟨_, rfl⟩
    have hX : Blk W5 gX 26 #[Value.int IntKind.i64 n0, Value.string p1, Value.int IntKind.i64 sg, Value.int IntKind.i64 n4, Value.int IntKind.i64 n6, Value.int IntKind.i64 n8] := by rw [hW5, hgX]; exact Blk.new W4 _ _
    have hb : Below W4.drew.heap.size W4.drew W5 := by rw [hW5]; exact bl_alloc (Below.refl W4.drew.heap.size W4.drew) _
    rw [← hW5, ← hgX]
    clear hW5 hgX
    replace hv1 := bl_trans hv1 hb
    replace hR := hR.below hb
    clear hb hS2 hS0
    have HMK : Hid (o0 = true → o4 = true → o6 = true → o8 = true → mkO t.data.toList p1.data.toList p2.data.toList p4.data.toList p6.data.toList p8.data.toList = ⟨n0, p1, sg, n4, n6, n8⟩) := Lib.hid (by
      intro q0 q4 q6 q8
      unfold mkO
      rw [HV0.out q0, HV4.out q4, HV6.out q6, HV8.out q8, HSG.out, bytes_list])
    cases o0
    · clear HMK
      have HO := Lib.hid (show rdO s.data.toList = none by rw [HL.out]; simp)
      have r0 : W5.cell? ⟨gR, 0, none⟩ = some (.int .i64 0) := hR.cell 0
      have f0 : W5.frozen? ⟨gR, 0, none⟩ = false := hR.frozen 0
      have r1 : W5.cell? ⟨gR, 1, none⟩ = some (.string ⟨#[]⟩) := hR.cell 1
      have f1 : W5.frozen? ⟨gR, 1, none⟩ = false := hR.frozen 1
      have r2 : W5.cell? ⟨gR, 2, none⟩ = some (.int .i64 0) := hR.cell 2
      have f2 : W5.frozen? ⟨gR, 2, none⟩ = false := hR.frozen 2
      have r3 : W5.cell? ⟨gR, 3, none⟩ = some (.int .i64 0) := hR.cell 3
      have f3 : W5.frozen? ⟨gR, 3, none⟩ = false := hR.frozen 3
      have r4 : W5.cell? ⟨gR, 4, none⟩ = some (.int .i64 0) := hR.cell 4
      have f4 : W5.frozen? ⟨gR, 4, none⟩ = false := hR.frozen 4
      have r5 : W5.cell? ⟨gR, 5, none⟩ = some (.int .i64 0) := hR.cell 5
      have f5 : W5.frozen? ⟨gR, 5, none⟩ = false := hR.frozen 5
      go_wp2_with fail
      refine bodyPost_ret (results_cell_row_tmp (P := Tryz.prog) rfl _ _ gR 26 #[Value.int IntKind.i64 0, Value.string ⟨#[]⟩, Value.int IntKind.i64 0, Value.int IntKind.i64 0, Value.int IntKind.i64 0, Value.int IntKind.i64 0] (0, 0) _ rfl ?_ Tryz.underlying26 rfl (by kernel_rfl)) rfl ?_
      · have h1 := hR.set_ 0 (.int .i64 0)
        replace h1 := h1.set_ 1 (.string ⟨#[]⟩)
        replace h1 := h1.set_ 2 (.int .i64 0)
        replace h1 := h1.set_ 3 (.int .i64 0)
        replace h1 := h1.set_ 4 (.int .i64 0)
        exact h1.set_ 5 (.int .i64 0)
      · exact RetT.mk (by rw [outO_none HO.out]; rfl) (bl_set (bl_set (bl_set (bl_set (bl_set (bl_set (hv1) (p := ⟨gR, 0, none⟩) hgR1 (.int .i64 0)) (p := ⟨gR, 1, none⟩) hgR1 (.string ⟨#[]⟩)) (p := ⟨gR, 2, none⟩) hgR1 (.int .i64 0)) (p := ⟨gR, 3, none⟩) hgR1 (.int .i64 0)) (p := ⟨gR, 4, none⟩) hgR1 (.int .i64 0)) (p := ⟨gR, 5, none⟩) hgR1 (.int .i64 0))
    cases o4
    · clear HMK
      have HO := Lib.hid (show rdO s.data.toList = none by rw [HL.out]; simp)
      have r0 : W5.cell? ⟨gR, 0, none⟩ = some (.int .i64 0) := hR.cell 0
      have f0 : W5.frozen? ⟨gR, 0, none⟩ = false := hR.frozen 0
      have r1 : W5.cell? ⟨gR, 1, none⟩ = some (.string ⟨#[]⟩) := hR.cell 1
      have f1 : W5.frozen? ⟨gR, 1, none⟩ = false := hR.frozen 1
      have r2 : W5.cell? ⟨gR, 2, none⟩ = some (.int .i64 0) := hR.cell 2
      have f2 : W5.frozen? ⟨gR, 2, none⟩ = false := hR.frozen 2
      have r3 : W5.cell? ⟨gR, 3, none⟩ = some (.int .i64 0) := hR.cell 3
      have f3 : W5.frozen? ⟨gR, 3, none⟩ = false := hR.frozen 3
      have r4 : W5.cell? ⟨gR, 4, none⟩ = some (.int .i64 0) := hR.cell 4
      have f4 : W5.frozen? ⟨gR, 4, none⟩ = false := hR.frozen 4
      have r5 : W5.cell? ⟨gR, 5, none⟩ = some (.int .i64 0) := hR.cell 5
      have f5 : W5.frozen? ⟨gR, 5, none⟩ = false := hR.frozen 5
      go_wp2_with fail
      refine bodyPost_ret (results_cell_row_tmp (P := Tryz.prog) rfl _ _ gR 26 #[Value.int IntKind.i64 0, Value.string ⟨#[]⟩, Value.int IntKind.i64 0, Value.int IntKind.i64 0, Value.int IntKind.i64 0, Value.int IntKind.i64 0] (0, 0) _ rfl ?_ Tryz.underlying26 rfl (by kernel_rfl)) rfl ?_
      · have h1 := hR.set_ 0 (.int .i64 0)
        replace h1 := h1.set_ 1 (.string ⟨#[]⟩)
        replace h1 := h1.set_ 2 (.int .i64 0)
        replace h1 := h1.set_ 3 (.int .i64 0)
        replace h1 := h1.set_ 4 (.int .i64 0)
        exact h1.set_ 5 (.int .i64 0)
      · exact RetT.mk (by rw [outO_none HO.out]; rfl) (bl_set (bl_set (bl_set (bl_set (bl_set (bl_set (hv1) (p := ⟨gR, 0, none⟩) hgR1 (.int .i64 0)) (p := ⟨gR, 1, none⟩) hgR1 (.string ⟨#[]⟩)) (p := ⟨gR, 2, none⟩) hgR1 (.int .i64 0)) (p := ⟨gR, 3, none⟩) hgR1 (.int .i64 0)) (p := ⟨gR, 4, none⟩) hgR1 (.int .i64 0)) (p := ⟨gR, 5, none⟩) hgR1 (.int .i64 0))
    cases o6
    · clear HMK
      have HO := Lib.hid (show rdO s.data.toList = none by rw [HL.out]; simp)
      have r0 : W5.cell? ⟨gR, 0, none⟩ = some (.int .i64 0) := hR.cell 0
      have f0 : W5.frozen? ⟨gR, 0, none⟩ = false := hR.frozen 0
      have r1 : W5.cell? ⟨gR, 1, none⟩ = some (.string ⟨#[]⟩) := hR.cell 1
      have f1 : W5.frozen? ⟨gR, 1, none⟩ = false := hR.frozen 1
      have r2 : W5.cell? ⟨gR, 2, none⟩ = some (.int .i64 0) := hR.cell 2
      have f2 : W5.frozen? ⟨gR, 2, none⟩ = false := hR.frozen 2
      have r3 : W5.cell? ⟨gR, 3, none⟩ = some (.int .i64 0) := hR.cell 3
      have f3 : W5.frozen? ⟨gR, 3, none⟩ = false := hR.frozen 3
      have r4 : W5.cell? ⟨gR, 4, none⟩ = some (.int .i64 0) := hR.cell 4
      have f4 : W5.frozen? ⟨gR, 4, none⟩ = false := hR.frozen 4
      have r5 : W5.cell? ⟨gR, 5, none⟩ = some (.int .i64 0) := hR.cell 5
      have f5 : W5.frozen? ⟨gR, 5, none⟩ = false := hR.frozen 5
      go_wp2_with fail
      refine bodyPost_ret (results_cell_row_tmp (P := Tryz.prog) rfl _ _ gR 26 #[Value.int IntKind.i64 0, Value.string ⟨#[]⟩, Value.int IntKind.i64 0, Value.int IntKind.i64 0, Value.int IntKind.i64 0, Value.int IntKind.i64 0] (0, 0) _ rfl ?_ Tryz.underlying26 rfl (by kernel_rfl)) rfl ?_
      · have h1 := hR.set_ 0 (.int .i64 0)
        replace h1 := h1.set_ 1 (.string ⟨#[]⟩)
        replace h1 := h1.set_ 2 (.int .i64 0)
        replace h1 := h1.set_ 3 (.int .i64 0)
        replace h1 := h1.set_ 4 (.int .i64 0)
        exact h1.set_ 5 (.int .i64 0)
      · exact RetT.mk (by rw [outO_none HO.out]; rfl) (bl_set (bl_set (bl_set (bl_set (bl_set (bl_set (hv1) (p := ⟨gR, 0, none⟩) hgR1 (.int .i64 0)) (p := ⟨gR, 1, none⟩) hgR1 (.string ⟨#[]⟩)) (p := ⟨gR, 2, none⟩) hgR1 (.int .i64 0)) (p := ⟨gR, 3, none⟩) hgR1 (.int .i64 0)) (p := ⟨gR, 4, none⟩) hgR1 (.int .i64 0)) (p := ⟨gR, 5, none⟩) hgR1 (.int .i64 0))
    cases o8
    · clear HMK
      have HO := Lib.hid (show rdO s.data.toList = none by rw [HL.out]; simp)
      have r0 : W5.cell? ⟨gR, 0, none⟩ = some (.int .i64 0) := hR.cell 0
      have f0 : W5.frozen? ⟨gR, 0, none⟩ = false := hR.frozen 0
      have r1 : W5.cell? ⟨gR, 1, none⟩ = some (.string ⟨#[]⟩) := hR.cell 1
      have f1 : W5.frozen? ⟨gR, 1, none⟩ = false := hR.frozen 1
      have r2 : W5.cell? ⟨gR, 2, none⟩ = some (.int .i64 0) := hR.cell 2
      have f2 : W5.frozen? ⟨gR, 2, none⟩ = false := hR.frozen 2
      have r3 : W5.cell? ⟨gR, 3, none⟩ = some (.int .i64 0) := hR.cell 3
      have f3 : W5.frozen? ⟨gR, 3, none⟩ = false := hR.frozen 3
      have r4 : W5.cell? ⟨gR, 4, none⟩ = some (.int .i64 0) := hR.cell 4
      have f4 : W5.frozen? ⟨gR, 4, none⟩ = false := hR.frozen 4
      have r5 : W5.cell? ⟨gR, 5, none⟩ = some (.int .i64 0) := hR.cell 5
      have f5 : W5.frozen? ⟨gR, 5, none⟩ = false := hR.frozen 5
      go_wp2_with fail
      refine bodyPost_ret (results_cell_row_tmp (P := Tryz.prog) rfl _ _ gR 26 #[Value.int IntKind.i64 0, Value.string ⟨#[]⟩, Value.int IntKind.i64 0, Value.int IntKind.i64 0, Value.int IntKind.i64 0, Value.int IntKind.i64 0] (0, 0) _ rfl ?_ Tryz.underlying26 rfl (by kernel_rfl)) rfl ?_
      · have h1 := hR.set_ 0 (.int .i64 0)
        replace h1 := h1.set_ 1 (.string ⟨#[]⟩)
        replace h1 := h1.set_ 2 (.int .i64 0)
        replace h1 := h1.set_ 3 (.int .i64 0)
        replace h1 := h1.set_ 4 (.int .i64 0)
        exact h1.set_ 5 (.int .i64 0)
      · exact RetT.mk (by rw [outO_none HO.out]; rfl) (bl_set (bl_set (bl_set (bl_set (bl_set (bl_set (hv1) (p := ⟨gR, 0, none⟩) hgR1 (.int .i64 0)) (p := ⟨gR, 1, none⟩) hgR1 (.string ⟨#[]⟩)) (p := ⟨gR, 2, none⟩) hgR1 (.int .i64 0)) (p := ⟨gR, 3, none⟩) hgR1 (.int .i64 0)) (p := ⟨gR, 4, none⟩) hgR1 (.int .i64 0)) (p := ⟨gR, 5, none⟩) hgR1 (.int .i64 0))
    have x0 : W5.cell? ⟨gX, 0, none⟩ = some (.int .i64 n0) := hX.cell 0
    have x1 : W5.cell? ⟨gX, 1, none⟩ = some (.string p1) := hX.cell 1
    have x2 : W5.cell? ⟨gX, 2, none⟩ = some (.int .i64 sg) := hX.cell 2
    have x3 : W5.cell? ⟨gX, 3, none⟩ = some (.int .i64 n4) := hX.cell 3
    have x4 : W5.cell? ⟨gX, 4, none⟩ = some (.int .i64 n6) := hX.cell 4
    have x5 : W5.cell? ⟨gX, 5, none⟩ = some (.int .i64 n8) := hX.cell 5
    have HX := Lib.hid (HMK.out rfl rfl rfl rfl)
    go_wp2_with fail
    refine (OrderText_c ⟨n0, p1, sg, n4, n6, n8⟩ (show p1.size ≤ _ by omega) _ (HT.out.below hv1).pow (HW.out.below hv1)).mono ?_
    rintro e W6 ⟨rfl, hb⟩
    replace hv1 := bl_trans hv1 hb
    replace hR := hR.below hb
    replace hX := hX.below hb
    clear hb x0 x1 x2 x3 x4 x5
    obtain ⟨tx, htx⟩ : ∃ tx, tx = otB ⟨n0, p1, sg, n4, n6, n8⟩ := ⟨_, rfl⟩
    rw [← htx]
    have HTX := Lib.hid htx
    clear htx
    cases hq : (tx.toList == s.toList)
    · have HO := Lib.hid (show rdO s.data.toList = none by
        rw [HL.out, HX.out, ← HTX.out, decide_eq_false (by rw [bytes_beq] at hq; exact of_decide_eq_false hq)]; simp)
      have r0 : W6.cell? ⟨gR, 0, none⟩ = some (.int .i64 0) := hR.cell 0
      have f0 : W6.frozen? ⟨gR, 0, none⟩ = false := hR.frozen 0
      have r1 : W6.cell? ⟨gR, 1, none⟩ = some (.string ⟨#[]⟩) := hR.cell 1
      have f1 : W6.frozen? ⟨gR, 1, none⟩ = false := hR.frozen 1
      have r2 : W6.cell? ⟨gR, 2, none⟩ = some (.int .i64 0) := hR.cell 2
      have f2 : W6.frozen? ⟨gR, 2, none⟩ = false := hR.frozen 2
      have r3 : W6.cell? ⟨gR, 3, none⟩ = some (.int .i64 0) := hR.cell 3
      have f3 : W6.frozen? ⟨gR, 3, none⟩ = false := hR.frozen 3
      have r4 : W6.cell? ⟨gR, 4, none⟩ = some (.int .i64 0) := hR.cell 4
      have f4 : W6.frozen? ⟨gR, 4, none⟩ = false := hR.frozen 4
      have r5 : W6.cell? ⟨gR, 5, none⟩ = some (.int .i64 0) := hR.cell 5
      have f5 : W6.frozen? ⟨gR, 5, none⟩ = false := hR.frozen 5
      go_wp2_with fail
      refine bodyPost_ret (results_cell_row_tmp (P := Tryz.prog) rfl _ _ gR 26 #[Value.int IntKind.i64 0, Value.string ⟨#[]⟩, Value.int IntKind.i64 0, Value.int IntKind.i64 0, Value.int IntKind.i64 0, Value.int IntKind.i64 0] (0, 0) _ rfl ?_ Tryz.underlying26 rfl (by kernel_rfl)) rfl ?_
      · have h1 := hR.set_ 0 (.int .i64 0)
        replace h1 := h1.set_ 1 (.string ⟨#[]⟩)
        replace h1 := h1.set_ 2 (.int .i64 0)
        replace h1 := h1.set_ 3 (.int .i64 0)
        replace h1 := h1.set_ 4 (.int .i64 0)
        exact h1.set_ 5 (.int .i64 0)
      · exact RetT.mk (by rw [outO_none HO.out]; rfl) (bl_set (bl_set (bl_set (bl_set (bl_set (bl_set (hv1) (p := ⟨gR, 0, none⟩) hgR1 (.int .i64 0)) (p := ⟨gR, 1, none⟩) hgR1 (.string ⟨#[]⟩)) (p := ⟨gR, 2, none⟩) hgR1 (.int .i64 0)) (p := ⟨gR, 3, none⟩) hgR1 (.int .i64 0)) (p := ⟨gR, 4, none⟩) hgR1 (.int .i64 0)) (p := ⟨gR, 5, none⟩) hgR1 (.int .i64 0))
    · have HO := Lib.hid (show rdO s.data.toList = some ⟨n0, p1, sg, n4, n6, n8⟩ by
        rw [HL.out, HX.out, ← HTX.out, decide_eq_true (by rw [bytes_beq] at hq; exact of_decide_eq_true hq)]; simp)
      have r0 : W6.cell? ⟨gR, 0, none⟩ = some (.int .i64 0) := hR.cell 0
      have f0 : W6.frozen? ⟨gR, 0, none⟩ = false := hR.frozen 0
      have r1 : W6.cell? ⟨gR, 1, none⟩ = some (.string ⟨#[]⟩) := hR.cell 1
      have f1 : W6.frozen? ⟨gR, 1, none⟩ = false := hR.frozen 1
      have r2 : W6.cell? ⟨gR, 2, none⟩ = some (.int .i64 0) := hR.cell 2
      have f2 : W6.frozen? ⟨gR, 2, none⟩ = false := hR.frozen 2
      have r3 : W6.cell? ⟨gR, 3, none⟩ = some (.int .i64 0) := hR.cell 3
      have f3 : W6.frozen? ⟨gR, 3, none⟩ = false := hR.frozen 3
      have r4 : W6.cell? ⟨gR, 4, none⟩ = some (.int .i64 0) := hR.cell 4
      have f4 : W6.frozen? ⟨gR, 4, none⟩ = false := hR.frozen 4
      have r5 : W6.cell? ⟨gR, 5, none⟩ = some (.int .i64 0) := hR.cell 5
      have f5 : W6.frozen? ⟨gR, 5, none⟩ = false := hR.frozen 5
      have x0 : W6.cell? ⟨gX, 0, none⟩ = some (.int .i64 n0) := hX.cell 0
      have x1 : W6.cell? ⟨gX, 1, none⟩ = some (.string p1) := hX.cell 1
      have x2 : W6.cell? ⟨gX, 2, none⟩ = some (.int .i64 sg) := hX.cell 2
      have x3 : W6.cell? ⟨gX, 3, none⟩ = some (.int .i64 n4) := hX.cell 3
      have x4 : W6.cell? ⟨gX, 4, none⟩ = some (.int .i64 n6) := hX.cell 4
      have x5 : W6.cell? ⟨gX, 5, none⟩ = some (.int .i64 n8) := hX.cell 5
      go_wp2_with fail
      refine bodyPost_ret (results_cell_row_tmp (P := Tryz.prog) rfl _ _ gR 26 #[Value.int IntKind.i64 n0, Value.string p1, Value.int IntKind.i64 sg, Value.int IntKind.i64 n4, Value.int IntKind.i64 n6, Value.int IntKind.i64 n8] (0, 0) _ rfl ?_ Tryz.underlying26 rfl (by kernel_rfl)) rfl ?_
      · have h1 := hR.set_ 0 (.int .i64 n0)
        replace h1 := h1.set_ 1 (.string p1)
        replace h1 := h1.set_ 2 (.int .i64 sg)
        replace h1 := h1.set_ 3 (.int .i64 n4)
        replace h1 := h1.set_ 4 (.int .i64 n6)
        exact h1.set_ 5 (.int .i64 n8)
      · exact RetT.mk (by rw [outO_some HO.out]; rfl) (bl_set (bl_set (bl_set (bl_set (bl_set (bl_set (hv1) (p := ⟨gR, 0, none⟩) hgR1 (.int .i64 n0)) (p := ⟨gR, 1, none⟩) hgR1 (.string p1)) (p := ⟨gR, 2, none⟩) hgR1 (.int .i64 sg)) (p := ⟨gR, 3, none⟩) hgR1 (.int .i64 n4)) (p := ⟨gR, 4, none⟩) hgR1 (.int .i64 n6)) (p := ⟨gR, 5, none⟩) hgR1 (.int .i64 n8))
  · skip
    go_simp
    refine hK.out _ _ ?_ (fun hHeld => ?_)
    · exact (hS0.alloc _).below (Below.refl _ _).drew
    clear hK K
    try simp only [Act.put, List.setIfInBounds_toArray, List.set_cons_zero, List.set_cons_succ]
    refine wpAnyH_ready (rs := [8]) (by kernel_rfl) (by simp) ?_
    refine AllReadyH.cons (o := { dst := some 57, op := _, type := _, pos := _, after := _, guard := _ }) rfl (fun K hK => ?_) AllReadyH.nil
    go_simp
    refine (HIX.out _ (HW.out.below ((bl_alloc hv0 _).drew))).mono ?_
    rintro e w' ⟨rfl, hq⟩
    rw [hq]
    clear hq w'
    go_wp2_with fail
    refine hK.out _ _ ?_ (fun hHeld => ?_)
    · exact (hS0.alloc _).below (Below.refl _ _).drew
    clear hK K
    try simp only [Act.put, List.setIfInBounds_toArray, List.set_cons_zero, List.set_cons_succ]
    refine wpAnyH_take (i := 12) (oi := { dst := some 61, op := _, type := _, pos := _, after := _, guard := _ }) (v := ?_) rfl (by kernel_rfl) (by kernel_rfl) (by kernel_rfl) (fun _ _ _ h => h) (Or.inl ⟨by kernel_rfl, ?_⟩) (by assumption) ?_
    rotate_left
    · intro w hSw
      try dsimp only at hSw
      go_simp
      try with_reducible rfl
    try simp only [Act.put, List.setIfInBounds_toArray, List.set_cons_zero, List.set_cons_succ]
    refine wpAnyH_ready (rs := [14]) (by kernel_rfl) (by simp) ?_
    refine AllReadyH.cons (o := { dst := none, op := _, type := _, pos := _, after := _, guard := _ }) rfl (fun K hK => ?_) AllReadyH.nil
    skip
    go_simp
    refine hK.out _ _ ?_ (fun hHeld => ?_)
    · exact (hS0.alloc _).below (Below.refl _ _).drew
    clear hK K
    try simp only [Act.put]
    refine wpAnyH_done (by kernel_rfl) ?_ _
    clear hHeld
    obtain ⟨W5, hW5⟩ : ∃ W5, W5 = (W4.alloc (Obj.cells #[Value.int IntKind.i64 n0, Value.string p1, Value.int IntKind.i64 sg, Value.int IntKind.i64 n4, Value.int IntKind.i64 n6, Value.int IntKind.i64 n8] 26)).drew := ⟨_, rfl⟩
    obtain ⟨gX, hgX⟩ : ∃ gX, gX = W4.heap.size := ⟨_, rfl⟩
    have hX : Blk W5 gX 26 #[Value.int IntKind.i64 n0, Value.string p1, Value.int IntKind.i64 sg, Value.int IntKind.i64 n4, Value.int IntKind.i64 n6, Value.int IntKind.i64 n8] := by rw [hW5, hgX]; exact Blk.new W4 _ _
    have hb : Below W4.drew.heap.size W4.drew W5 := by rw [hW5]; exact bl_alloc (Below.refl W4.drew.heap.size W4.drew) _
    rw [← hW5, ← hgX]
    clear hW5 hgX
    replace hv1 := bl_trans hv1 hb
    replace hR := hR.below hb
    clear hb hS2 hS0
    have HMK : Hid (o0 = true → o4 = true → o6 = true → o8 = true → mkO t.data.toList p1.data.toList p2.data.toList p4.data.toList p6.data.toList p8.data.toList = ⟨n0, p1, sg, n4, n6, n8⟩) := Lib.hid (by
      intro q0 q4 q6 q8
      unfold mkO
      rw [HV0.out q0, HV4.out q4, HV6.out q6, HV8.out q8, HSG.out, bytes_list])
    cases o0
    · clear HMK
      have HO := Lib.hid (show rdO s.data.toList = none by rw [HL.out]; simp)
      have r0 : W5.cell? ⟨gR, 0, none⟩ = some (.int .i64 0) := hR.cell 0
      have f0 : W5.frozen? ⟨gR, 0, none⟩ = false := hR.frozen 0
      have r1 : W5.cell? ⟨gR, 1, none⟩ = some (.string ⟨#[]⟩) := hR.cell 1
      have f1 : W5.frozen? ⟨gR, 1, none⟩ = false := hR.frozen 1
      have r2 : W5.cell? ⟨gR, 2, none⟩ = some (.int .i64 0) := hR.cell 2
      have f2 : W5.frozen? ⟨gR, 2, none⟩ = false := hR.frozen 2
      have r3 : W5.cell? ⟨gR, 3, none⟩ = some (.int .i64 0) := hR.cell 3
      have f3 : W5.frozen? ⟨gR, 3, none⟩ = false := hR.frozen 3
      have r4 : W5.cell? ⟨gR, 4, none⟩ = some (.int .i64 0) := hR.cell 4
      have f4 : W5.frozen? ⟨gR, 4, none⟩ = false := hR.frozen 4
      have r5 : W5.cell? ⟨gR, 5, none⟩ = some (.int .i64 0) := hR.cell 5
      have f5 : W5.frozen? ⟨gR, 5, none⟩ = false := hR.frozen 5
      go_wp2_with fail
      refine bodyPost_ret (results_cell_row_tmp (P := Tryz.prog) rfl _ _ gR 26 #[Value.int IntKind.i64 0, Value.string ⟨#[]⟩, Value.int IntKind.i64 0, Value.int IntKind.i64 0, Value.int IntKind.i64 0, Value.int IntKind.i64 0] (0, 0) _ rfl ?_ Tryz.underlying26 rfl (by kernel_rfl)) rfl ?_
      · have h1 := hR.set_ 0 (.int .i64 0)
        replace h1 := h1.set_ 1 (.string ⟨#[]⟩)
        replace h1 := h1.set_ 2 (.int .i64 0)
        replace h1 := h1.set_ 3 (.int .i64 0)
        replace h1 := h1.set_ 4 (.int .i64 0)
        exact h1.set_ 5 (.int .i64 0)
      · exact RetT.mk (by rw [outO_none HO.out]; rfl) (bl_set (bl_set (bl_set (bl_set (bl_set (bl_set (hv1) (p := ⟨gR, 0, none⟩) hgR1 (.int .i64 0)) (p := ⟨gR, 1, none⟩) hgR1 (.string ⟨#[]⟩)) (p := ⟨gR, 2, none⟩) hgR1 (.int .i64 0)) (p := ⟨gR, 3, none⟩) hgR1 (.int .i64 0)) (p := ⟨gR, 4, none⟩) hgR1 (.int .i64 0)) (p := ⟨gR, 5, none⟩) hgR1 (.int .i64 0))
    cases o4
    · clear HMK
      have HO := Lib.hid (show rdO s.data.toList = none by rw [HL.out]; simp)
      have r0 : W5.cell? ⟨gR, 0, none⟩ = some (.int .i64 0) := hR.cell 0
      have f0 : W5.frozen? ⟨gR, 0, none⟩ = false := hR.frozen 0
      have r1 : W5.cell? ⟨gR, 1, none⟩ = some (.string ⟨#[]⟩) := hR.cell 1
      have f1 : W5.frozen? ⟨gR, 1, none⟩ = false := hR.frozen 1
      have r2 : W5.cell? ⟨gR, 2, none⟩ = some (.int .i64 0) := hR.cell 2
      have f2 : W5.frozen? ⟨gR, 2, none⟩ = false := hR.frozen 2
      have r3 : W5.cell? ⟨gR, 3, none⟩ = some (.int .i64 0) := hR.cell 3
      have f3 : W5.frozen? ⟨gR, 3, none⟩ = false := hR.frozen 3
      have r4 : W5.cell? ⟨gR, 4, none⟩ = some (.int .i64 0) := hR.cell 4
      have f4 : W5.frozen? ⟨gR, 4, none⟩ = false := hR.frozen 4
      have r5 : W5.cell? ⟨gR, 5, none⟩ = some (.int .i64 0) := hR.cell 5
      have f5 : W5.frozen? ⟨gR, 5, none⟩ = false := hR.frozen 5
      go_wp2_with fail
      refine bodyPost_ret (results_cell_row_tmp (P := Tryz.prog) rfl _ _ gR 26 #[Value.int IntKind.i64 0, Value.string ⟨#[]⟩, Value.int IntKind.i64 0, Value.int IntKind.i64 0, Value.int IntKind.i64 0, Value.int IntKind.i64 0] (0, 0) _ rfl ?_ Tryz.underlying26 rfl (by kernel_rfl)) rfl ?_
      · have h1 := hR.set_ 0 (.int .i64 0)
        replace h1 := h1.set_ 1 (.string ⟨#[]⟩)
        replace h1 := h1.set_ 2 (.int .i64 0)
        replace h1 := h1.set_ 3 (.int .i64 0)
        replace h1 := h1.set_ 4 (.int .i64 0)
        exact h1.set_ 5 (.int .i64 0)
      · exact RetT.mk (by rw [outO_none HO.out]; rfl) (bl_set (bl_set (bl_set (bl_set (bl_set (bl_set (hv1) (p := ⟨gR, 0, none⟩) hgR1 (.int .i64 0)) (p := ⟨gR, 1, none⟩) hgR1 (.string ⟨#[]⟩)) (p := ⟨gR, 2, none⟩) hgR1 (.int .i64 0)) (p := ⟨gR, 3, none⟩) hgR1 (.int .i64 0)) (p := ⟨gR, 4, none⟩) hgR1 (.int .i64 0)) (p := ⟨gR, 5, none⟩) hgR1 (.int .i64 0))
    cases o6
    · clear HMK
      have HO := Lib.hid (show rdO s.data.toList = none by rw [HL.out]; simp)
      have r0 : W5.cell? ⟨gR, 0, none⟩ = some (.int .i64 0) := hR.cell 0
      have f0 : W5.frozen? ⟨gR, 0, none⟩ = false := hR.frozen 0
      have r1 : W5.cell? ⟨gR, 1, none⟩ = some (.string ⟨#[]⟩) := hR.cell 1
      have f1 : W5.frozen? ⟨gR, 1, none⟩ = false := hR.frozen 1
      have r2 : W5.cell? ⟨gR, 2, none⟩ = some (.int .i64 0) := hR.cell 2
      have f2 : W5.frozen? ⟨gR, 2, none⟩ = false := hR.frozen 2
      have r3 : W5.cell? ⟨gR, 3, none⟩ = some (.int .i64 0) := hR.cell 3
      have f3 : W5.frozen? ⟨gR, 3, none⟩ = false := hR.frozen 3
      have r4 : W5.cell? ⟨gR, 4, none⟩ = some (.int .i64 0) := hR.cell 4
      have f4 : W5.frozen? ⟨gR, 4, none⟩ = false := hR.frozen 4
      have r5 : W5.cell? ⟨gR, 5, none⟩ = some (.int .i64 0) := hR.cell 5
      have f5 : W5.frozen? ⟨gR, 5, none⟩ = false := hR.frozen 5
      go_wp2_with fail
      refine bodyPost_ret (results_cell_row_tmp (P := Tryz.prog) rfl _ _ gR 26 #[Value.int IntKind.i64 0, Value.string ⟨#[]⟩, Value.int IntKind.i64 0, Value.int IntKind.i64 0, Value.int IntKind.i64 0, Value.int IntKind.i64 0] (0, 0) _ rfl ?_ Tryz.underlying26 rfl (by kernel_rfl)) rfl ?_
      · have h1 := hR.set_ 0 (.int .i64 0)
        replace h1 := h1.set_ 1 (.string ⟨#[]⟩)
        replace h1 := h1.set_ 2 (.int .i64 0)
        replace h1 := h1.set_ 3 (.int .i64 0)
        replace h1 := h1.set_ 4 (.int .i64 0)
        exact h1.set_ 5 (.int .i64 0)
      · exact RetT.mk (by rw [outO_none HO.out]; rfl) (bl_set (bl_set (bl_set (bl_set (bl_set (bl_set (hv1) (p := ⟨gR, 0, none⟩) hgR1 (.int .i64 0)) (p := ⟨gR, 1, none⟩) hgR1 (.string ⟨#[]⟩)) (p := ⟨gR, 2, none⟩) hgR1 (.int .i64 0)) (p := ⟨gR, 3, none⟩) hgR1 (.int .i64 0)) (p := ⟨gR, 4, none⟩) hgR1 (.int .i64 0)) (p := ⟨gR, 5, none⟩) hgR1 (.int .i64 0))
    cases o8
    · clear HMK
      have HO := Lib.hid (show rdO s.data.toList = none by rw [HL.out]; simp)
      have r0 : W5.cell? ⟨gR, 0, none⟩ = some (.int .i64 0) := hR.cell 0
      have f0 : W5.frozen? ⟨gR, 0, none⟩ = false := hR.frozen 0
      have r1 : W5.cell? ⟨gR, 1, none⟩ = some (.string ⟨#[]⟩) := hR.cell 1
      have f1 : W5.frozen? ⟨gR, 1, none⟩ = false := hR.frozen 1
      have r2 : W5.cell? ⟨gR, 2, none⟩ = some (.int .i64 0) := hR.cell 2
      have f2 : W5.frozen? ⟨gR, 2, none⟩ = false := hR.frozen 2
      have r3 : W5.cell? ⟨gR, 3, none⟩ = some (.int .i64 0) := hR.cell 3
      have f3 : W5.frozen? ⟨gR, 3, none⟩ = false := hR.frozen 3
      have r4 : W5.cell? ⟨gR, 4, none⟩ = some (.int .i64 0) := hR.cell 4
      have f4 : W5.frozen? ⟨gR, 4, none⟩ = false := hR.frozen 4
      have r5 : W5.cell? ⟨gR, 5, none⟩ = some (.int .i64 0) := hR.cell 5
      have f5 : W5.frozen? ⟨gR, 5, none⟩ = false := hR.frozen 5
      go_wp2_with fail
      refine bodyPost_ret (results_cell_row_tmp (P := Tryz.prog) rfl _ _ gR 26 #[Value.int IntKind.i64 0, Value.string ⟨#[]⟩, Value.int IntKind.i64 0, Value.int IntKind.i64 0, Value.int IntKind.i64 0, Value.int IntKind.i64 0] (0, 0) _ rfl ?_ Tryz.underlying26 rfl (by kernel_rfl)) rfl ?_
      · have h1 := hR.set_ 0 (.int .i64 0)
        replace h1 := h1.set_ 1 (.string ⟨#[]⟩)
        replace h1 := h1.set_ 2 (.int .i64 0)
        replace h1 := h1.set_ 3 (.int .i64 0)
        replace h1 := h1.set_ 4 (.int .i64 0)
        exact h1.set_ 5 (.int .i64 0)
      · exact RetT.mk (by rw [outO_none HO.out]; rfl) (bl_set (bl_set (bl_set (bl_set (bl_set (bl_set (hv1) (p := ⟨gR, 0, none⟩) hgR1 (.int .i64 0)) (p := ⟨gR, 1, none⟩) hgR1 (.string ⟨#[]⟩)) (p := ⟨gR, 2, none⟩) hgR1 (.int .i64 0)) (p := ⟨gR, 3, none⟩) hgR1 (.int .i64 0)) (p := ⟨gR, 4, none⟩) hgR1 (.int .i64 0)) (p := ⟨gR, 5, none⟩) hgR1 (.int .i64 0))
    have x0 : W5.cell? ⟨gX, 0, none⟩ = some (.int .i64 n0) := hX.cell 0
    have x1 : W5.cell? ⟨gX, 1, none⟩ = some (.string p1) := hX.cell 1
    have x2 : W5.cell? ⟨gX, 2, none⟩ = some (.int .i64 sg) := hX.cell 2
    have x3 : W5.cell? ⟨gX, 3, none⟩ = some (.int .i64 n4) := hX.cell 3
    have x4 : W5.cell? ⟨gX, 4, none⟩ = some (.int .i64 n6) := hX.cell 4
    have x5 : W5.cell? ⟨gX, 5, none⟩ = some (.int .i64 n8) := hX.cell 5
    have HX := Lib.hid (HMK.out rfl rfl rfl rfl)
    go_wp2_with fail
    refine (OrderText_c ⟨n0, p1, sg, n4, n6, n8⟩ (show p1.size ≤ _ by omega) _ (HT.out.below hv1).pow (HW.out.below hv1)).mono ?_
    rintro e W6 ⟨rfl, hb⟩
    replace hv1 := bl_trans hv1 hb
    replace hR := hR.below hb
    replace hX := hX.below hb
    clear hb x0 x1 x2 x3 x4 x5
    obtain ⟨tx, htx⟩ : ∃ tx, tx = otB ⟨n0, p1, sg, n4, n6, n8⟩ := ⟨_, rfl⟩
    rw [← htx]
    have HTX := Lib.hid htx
    clear htx
    cases hq : (tx.toList == s.toList)
    · have HO := Lib.hid (show rdO s.data.toList = none by
        rw [HL.out, HX.out, ← HTX.out, decide_eq_false (by rw [bytes_beq] at hq; exact of_decide_eq_false hq)]; simp)
      have r0 : W6.cell? ⟨gR, 0, none⟩ = some (.int .i64 0) := hR.cell 0
      have f0 : W6.frozen? ⟨gR, 0, none⟩ = false := hR.frozen 0
      have r1 : W6.cell? ⟨gR, 1, none⟩ = some (.string ⟨#[]⟩) := hR.cell 1
      have f1 : W6.frozen? ⟨gR, 1, none⟩ = false := hR.frozen 1
      have r2 : W6.cell? ⟨gR, 2, none⟩ = some (.int .i64 0) := hR.cell 2
      have f2 : W6.frozen? ⟨gR, 2, none⟩ = false := hR.frozen 2
      have r3 : W6.cell? ⟨gR, 3, none⟩ = some (.int .i64 0) := hR.cell 3
      have f3 : W6.frozen? ⟨gR, 3, none⟩ = false := hR.frozen 3
      have r4 : W6.cell? ⟨gR, 4, none⟩ = some (.int .i64 0) := hR.cell 4
      have f4 : W6.frozen? ⟨gR, 4, none⟩ = false := hR.frozen 4
      have r5 : W6.cell? ⟨gR, 5, none⟩ = some (.int .i64 0) := hR.cell 5
      have f5 : W6.frozen? ⟨gR, 5, none⟩ = false := hR.frozen 5
      go_wp2_with fail
      refine bodyPost_ret (results_cell_row_tmp (P := Tryz.prog) rfl _ _ gR 26 #[Value.int IntKind.i64 0, Value.string ⟨#[]⟩, Value.int IntKind.i64 0, Value.int IntKind.i64 0, Value.int IntKind.i64 0, Value.int IntKind.i64 0] (0, 0) _ rfl ?_ Tryz.underlying26 rfl (by kernel_rfl)) rfl ?_
      · have h1 := hR.set_ 0 (.int .i64 0)
        replace h1 := h1.set_ 1 (.string ⟨#[]⟩)
        replace h1 := h1.set_ 2 (.int .i64 0)
        replace h1 := h1.set_ 3 (.int .i64 0)
        replace h1 := h1.set_ 4 (.int .i64 0)
        exact h1.set_ 5 (.int .i64 0)
      · exact RetT.mk (by rw [outO_none HO.out]; rfl) (bl_set (bl_set (bl_set (bl_set (bl_set (bl_set (hv1) (p := ⟨gR, 0, none⟩) hgR1 (.int .i64 0)) (p := ⟨gR, 1, none⟩) hgR1 (.string ⟨#[]⟩)) (p := ⟨gR, 2, none⟩) hgR1 (.int .i64 0)) (p := ⟨gR, 3, none⟩) hgR1 (.int .i64 0)) (p := ⟨gR, 4, none⟩) hgR1 (.int .i64 0)) (p := ⟨gR, 5, none⟩) hgR1 (.int .i64 0))
    · have HO := Lib.hid (show rdO s.data.toList = some ⟨n0, p1, sg, n4, n6, n8⟩ by
        rw [HL.out, HX.out, ← HTX.out, decide_eq_true (by rw [bytes_beq] at hq; exact of_decide_eq_true hq)]; simp)
      have r0 : W6.cell? ⟨gR, 0, none⟩ = some (.int .i64 0) := hR.cell 0
      have f0 : W6.frozen? ⟨gR, 0, none⟩ = false := hR.frozen 0
      have r1 : W6.cell? ⟨gR, 1, none⟩ = some (.string ⟨#[]⟩) := hR.cell 1
      have f1 : W6.frozen? ⟨gR, 1, none⟩ = false := hR.frozen 1
      have r2 : W6.cell? ⟨gR, 2, none⟩ = some (.int .i64 0) := hR.cell 2
      have f2 : W6.frozen? ⟨gR, 2, none⟩ = false := hR.frozen 2
      have r3 : W6.cell? ⟨gR, 3, none⟩ = some (.int .i64 0) := hR.cell 3
      have f3 : W6.frozen? ⟨gR, 3, none⟩ = false := hR.frozen 3
      have r4 : W6.cell? ⟨gR, 4, none⟩ = some (.int .i64 0) := hR.cell 4
      have f4 : W6.frozen? ⟨gR, 4, none⟩ = false := hR.frozen 4
      have r5 : W6.cell? ⟨gR, 5, none⟩ = some (.int .i64 0) := hR.cell 5
      have f5 : W6.frozen? ⟨gR, 5, none⟩ = false := hR.frozen 5
      have x0 : W6.cell? ⟨gX, 0, none⟩ = some (.int .i64 n0) := hX.cell 0
      have x1 : W6.cell? ⟨gX, 1, none⟩ = some (.string p1) := hX.cell 1
      have x2 : W6.cell? ⟨gX, 2, none⟩ = some (.int .i64 sg) := hX.cell 2
      have x3 : W6.cell? ⟨gX, 3, none⟩ = some (.int .i64 n4) := hX.cell 3
      have x4 : W6.cell? ⟨gX, 4, none⟩ = some (.int .i64 n6) := hX.cell 4
      have x5 : W6.cell? ⟨gX, 5, none⟩ = some (.int .i64 n8) := hX.cell 5
      go_wp2_with fail
      refine bodyPost_ret (results_cell_row_tmp (P := Tryz.prog) rfl _ _ gR 26 #[Value.int IntKind.i64 n0, Value.string p1, Value.int IntKind.i64 sg, Value.int IntKind.i64 n4, Value.int IntKind.i64 n6, Value.int IntKind.i64 n8] (0, 0) _ rfl ?_ Tryz.underlying26 rfl (by kernel_rfl)) rfl ?_
      · have h1 := hR.set_ 0 (.int .i64 n0)
        replace h1 := h1.set_ 1 (.string p1)
        replace h1 := h1.set_ 2 (.int .i64 sg)
        replace h1 := h1.set_ 3 (.int .i64 n4)
        replace h1 := h1.set_ 4 (.int .i64 n6)
        exact h1.set_ 5 (.int .i64 n8)
      · exact RetT.mk (by rw [outO_some HO.out]; rfl) (bl_set (bl_set (bl_set (bl_set (bl_set (bl_set (hv1) (p := ⟨gR, 0, none⟩) hgR1 (.int .i64 n0)) (p := ⟨gR, 1, none⟩) hgR1 (.string p1)) (p := ⟨gR, 2, none⟩) hgR1 (.int .i64 sg)) (p := ⟨gR, 3, none⟩) hgR1 (.int .i64 n4)) (p := ⟨gR, 4, none⟩) hgR1 (.int .i64 n6)) (p := ⟨gR, 5, none⟩) hgR1 (.int .i64 n8))

end Go.Proofs.YtapnllbbdfoaaaaGreatDoor
