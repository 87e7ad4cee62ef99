/- Orders as text: the program's and the reference's. -/
import Derived.Test.YtapnllbbdfoaaaaGreatDoorMDec
import Derived.Test.YtapnllbbdfoaaaaGreatDoorStage
import Derived.Test.YtapnllbbdfoaaaaGreatDoorOrdA
namespace Go.Proofs.YtapnllbbdfoaaaaGreatDoor
open Go.RowKit

theorem below_of_eq {w w' : World} (h : w' = w) : Below w.heap.size w w' := by rw [h]; exact Below.refl _ _
def textO (x : Order) : ByteArray := ⟨#[35]⟩ ++ decI x.id ++ ⟨#[32]⟩ ++ x.customer ++ ⟨#[32]⟩ ++ wordAt x.stage ++ ⟨#[32, 100, 117, 101, 32]⟩ ++ decI x.due ++ ⟨#[32, 108, 101, 102, 116, 32]⟩ ++ decI x.left ++ ⟨#[32, 102, 105, 116, 116, 105, 110, 103, 115, 32]⟩ ++ decI x.fittings
def otB (x : Order) : ByteArray := if ordB x = true then textO x else ⟨#[]⟩
theorem wordAt_size (s : Int) : (wordAt s).size ≤ 7 := by
  unfold wordAt
  repeat' split
  all_goals decide
theorem ordB_name {x : Order} (h : ordB x = true) : x.customer.size ≤ 12 := by
  simp only [ordB, Bool.and_eq_true] at h
  have h2 := h.1.1.1.1.1.1.2
  simp only [nameB, nameL, Bool.and_eq_true, decide_eq_true_eq, bytes_len] at h2
  omega
theorem ordB_all {x : Order} (h : ordB x = true) : (1 ≤ x.id ∧ x.id ≤ 9999) ∧ (0 ≤ x.stage ∧ x.stage ≤ 4) ∧ (0 ≤ x.due ∧ x.due ≤ 10000) ∧ (0 ≤ x.left ∧ x.left ≤ 100) ∧ (0 ≤ x.fittings ∧ x.fittings ≤ 5) := by
  simp only [ordB, Bool.and_eq_true, inB_iff] at h
  omega

set_option maxRecDepth 100000 in
set_option maxHeartbeats 4000000 in
theorem l25Text_c (g : Addr) (x : Order) (hx : ordB x = true) (w : World) (c0 : w.cell? g = some (.int .i64 x.id)) (c1 : w.cell? ⟨g.block, g.off + 1, none⟩ = some (.string x.customer)) (c2 : w.cell? ⟨g.block, g.off + 2, none⟩ = some (.int .i64 x.stage)) (c3 : w.cell? ⟨g.block, g.off + 3, none⟩ = some (.int .i64 x.due)) (c4 : w.cell? ⟨g.block, g.off + 4, none⟩ = some (.int .i64 x.left)) (c5 : w.cell? ⟨g.block, g.off + 5, none⟩ = some (.int .i64 x.fittings)) :
    Calls Tryz.prog 57 #[.pointer (some g)] w (Ret (.string (textO x)) w) := by
  obtain ⟨⟨i0, i1⟩, ⟨sg0, sg1⟩, ⟨d0, d1⟩, ⟨l0, l1⟩, ⟨f0, f1⟩⟩ := ordB_all hx
  have sn := ordB_name hx
  have s1 := decI_size x.id
  have s2 := decI_size x.due
  have s3 := decI_size x.left
  have s4 := decI_size x.fittings
  have s5 := wordAt_size x.stage
  have z0 : (⟨#[32, 100, 117, 101, 32]⟩ : ByteArray).size = 5 := rfl
  have z1 : (⟨#[32, 102, 105, 116, 116, 105, 110, 103, 115, 32]⟩ : ByteArray).size = 10 := rfl
  have z2 : (⟨#[32, 108, 101, 102, 116, 32]⟩ : ByteArray).size = 6 := rfl
  have z3 : (⟨#[32]⟩ : ByteArray).size = 1 := rfl
  have z4 : (⟨#[35]⟩ : ByteArray).size = 1 := rfl
  have hadd1 := fun (w : World) => run_string_add_sum (P := Tryz.prog) w (⟨#[35]⟩) (decI x.id) (by simp only [z4]; omega)
  have hadd2 := fun (w : World) => run_string_add_sum (P := Tryz.prog) w (⟨#[35]⟩ ++ decI x.id) ⟨#[32]⟩ (by simp only [ByteArray.size_append', z3, z4]; omega)
  have hadd3 := fun (w : World) => run_string_add_sum (P := Tryz.prog) w (⟨#[35]⟩ ++ decI x.id ++ ⟨#[32]⟩) x.customer (by simp only [ByteArray.size_append', z3, z4]; omega)
  have hadd4 := fun (w : World) => run_string_add_sum (P := Tryz.prog) w (⟨#[35]⟩ ++ decI x.id ++ ⟨#[32]⟩ ++ x.customer) ⟨#[32]⟩ (by simp only [ByteArray.size_append', z3, z4]; omega)
  have hadd5 := fun (w : World) => run_string_add_sum (P := Tryz.prog) w (⟨#[35]⟩ ++ decI x.id ++ ⟨#[32]⟩ ++ x.customer ++ ⟨#[32]⟩) (wordAt x.stage) (by simp only [ByteArray.size_append', z3, z4]; omega)
  have hadd6 := fun (w : World) => run_string_add_sum (P := Tryz.prog) w (⟨#[35]⟩ ++ decI x.id ++ ⟨#[32]⟩ ++ x.customer ++ ⟨#[32]⟩ ++ wordAt x.stage) ⟨#[32, 100, 117, 101, 32]⟩ (by simp only [ByteArray.size_append', z0, z3, z4]; omega)
  have hadd7 := fun (w : World) => run_string_add_sum (P := Tryz.prog) w (⟨#[35]⟩ ++ decI x.id ++ ⟨#[32]⟩ ++ x.customer ++ ⟨#[32]⟩ ++ wordAt x.stage ++ ⟨#[32, 100, 117, 101, 32]⟩) (decI x.due) (by simp only [ByteArray.size_append', z0, z3, z4]; omega)
  have hadd8 := fun (w : World) => run_string_add_sum (P := Tryz.prog) w (⟨#[35]⟩ ++ decI x.id ++ ⟨#[32]⟩ ++ x.customer ++ ⟨#[32]⟩ ++ wordAt x.stage ++ ⟨#[32, 100, 117, 101, 32]⟩ ++ decI x.due) ⟨#[32, 108, 101, 102, 116, 32]⟩ (by simp only [ByteArray.size_append', z0, z2, z3, z4]; omega)
  have hadd9 := fun (w : World) => run_string_add_sum (P := Tryz.prog) w (⟨#[35]⟩ ++ decI x.id ++ ⟨#[32]⟩ ++ x.customer ++ ⟨#[32]⟩ ++ wordAt x.stage ++ ⟨#[32, 100, 117, 101, 32]⟩ ++ decI x.due ++ ⟨#[32, 108, 101, 102, 116, 32]⟩) (decI x.left) (by simp only [ByteArray.size_append', z0, z2, z3, z4]; omega)
  have hadd10 := fun (w : World) => run_string_add_sum (P := Tryz.prog) w (⟨#[35]⟩ ++ decI x.id ++ ⟨#[32]⟩ ++ x.customer ++ ⟨#[32]⟩ ++ wordAt x.stage ++ ⟨#[32, 100, 117, 101, 32]⟩ ++ decI x.due ++ ⟨#[32, 108, 101, 102, 116, 32]⟩ ++ decI x.left) ⟨#[32, 102, 105, 116, 116, 105, 110, 103, 115, 32]⟩ (by simp only [ByteArray.size_append', z0, z1, z2, z3, z4]; omega)
  have hadd11 := fun (w : World) => run_string_add_sum (P := Tryz.prog) w (⟨#[35]⟩ ++ decI x.id ++ ⟨#[32]⟩ ++ x.customer ++ ⟨#[32]⟩ ++ wordAt x.stage ++ ⟨#[32, 100, 117, 101, 32]⟩ ++ decI x.due ++ ⟨#[32, 108, 101, 102, 116, 32]⟩ ++ decI x.left ++ ⟨#[32, 102, 105, 116, 116, 105, 110, 103, 115, 32]⟩) (decI x.fittings) (by simp only [ByteArray.size_append', z0, z1, z2, z3, z4]; omega)
  clear sn s1 s2 s3 s4 s5 z0 z1 z2 z3 z4
  clear hx
  have hv := Below.refl w.heap.size w
  go_enter Tryz.func57, Tryz.ntmps57
  go_wp2_with fail
  go_region_held3 (fun w' => Below w.heap.size w w' ∧ w'.cell? g = some (.int .i64 x.id) ∧ w'.cell? ⟨g.block, g.off + 1, none⟩ = some (.string x.customer) ∧ w'.cell? ⟨g.block, g.off + 2, none⟩ = some (.int .i64 x.stage) ∧ w'.cell? ⟨g.block, g.off + 3, none⟩ = some (.int .i64 x.due) ∧ w'.cell? ⟨g.block, g.off + 4, none⟩ = some (.int .i64 x.left) ∧ w'.cell? ⟨g.block, g.off + 5, none⟩ = some (.int .i64 x.fittings))
    (first | exact ⟨hv.drew, c0, c1, c2, c3, c4, c5⟩ | (go_split_ands; exact ⟨bl_trans (by assumption) hb, bl_cell hb (by assumption), bl_cell hb (by assumption), bl_cell hb (by assumption), bl_cell hb (by assumption), bl_cell hb (by assumption), bl_cell hb (by assumption)⟩))
    (first | (go_at_call 77; refine (l01DecI_c _ (by omega) (by omega) _).mono ?_; rintro e W ⟨rfl, hb⟩) | (go_at_call 28; refine (SStageWord_c _ _).mono ?_; rintro e W ⟨rfl, hb⟩))
  go_split_ands
  go_wp2_with fail
  go_returns
  exact Ret.mk (vs (by rw [textO])) (by assumption)

set_option maxRecDepth 100000 in
set_option maxHeartbeats 4000000 in
theorem SOrderText_c (x : Order) (hs : x.customer.size ≤ 9223372036854775807) (w : World) : Calls Tryz.prog 25 #[.agg #[Value.int IntKind.i64 x.id, Value.string x.customer, Value.int IntKind.i64 x.stage, Value.int IntKind.i64 x.due, Value.int IntKind.i64 x.left, Value.int IntKind.i64 x.fittings]] w (Ret (.string (otB x)) w) := by
  go_enter Tryz.func25, Tryz.ntmps25
  go_wp2_with fail
  obtain ⟨W0, hW0⟩ : ∃ W0, W0 = w.alloc (Obj.cells #[Value.int IntKind.i64 x.id, Value.string x.customer, Value.int IntKind.i64 x.stage, Value.int IntKind.i64 x.due, Value.int IntKind.i64 x.left, Value.int IntKind.i64 x.fittings] 26) := ⟨_, rfl⟩
  obtain ⟨g, hg⟩ : ∃ g, g = w.heap.size := ⟨_, rfl⟩
  have hv : Below w.heap.size w W0 := by rw [hW0]; exact bl_alloc (Below.refl _ _) _
  have hB0 : Blk W0 g 26 #[Value.int IntKind.i64 x.id, Value.string x.customer, Value.int IntKind.i64 x.stage, Value.int IntKind.i64 x.due, Value.int IntKind.i64 x.left, Value.int IntKind.i64 x.fittings] := by rw [hW0, hg]; exact Blk.new _ _ _
  rw [← hW0]
  try rw [← hg]
  clear hW0 hg
  refine (l25One_c ⟨g, 0, none⟩ x hs _ (hB0.cell 0) (hB0.cell 1) (hB0.cell 2) (hB0.cell 3) (hB0.cell 4) (hB0.cell 5)).mono ?_
  rintro e w' ⟨rfl, rfl⟩
  cases hx : ordB x
  · have HX := Lib.hid (show otB x = ⟨#[]⟩ by unfold otB; rw [hx]; rfl)
    clear hx
    go_wp2_with fail
    go_returns
    exact Ret.mk (vs HX.out.symm) hv
  · have HX := Lib.hid (show otB x = textO x by unfold otB; rw [if_pos hx])
    have HO := Lib.hid hx
    clear hx
    go_wp2_with fail
    refine (l25Text_c ⟨g, 0, none⟩ x HO.out _ (hB0.cell 0) (hB0.cell 1) (hB0.cell 2) (hB0.cell 3) (hB0.cell 4) (hB0.cell 5)).mono ?_
    rintro e W ⟨rfl, hb⟩
    go_wp2_with fail
    go_returns
    exact Ret.mk (vs HX.out.symm) (bl_trans hv hb)

set_option maxRecDepth 100000 in
set_option maxHeartbeats 4000000 in
theorem OrderText_c (x : Order) (hs : x.customer.size ≤ 9223372036854775807) (w : World) (hT : Pow10 w) (hW : Words w) : Calls Tryz.prog 18 #[.agg #[Value.int IntKind.i64 x.id, Value.string x.customer, Value.int IntKind.i64 x.stage, Value.int IntKind.i64 x.due, Value.int IntKind.i64 x.left, Value.int IntKind.i64 x.fittings]] w (Ret (.string (otB x)) w) := by
  have HT := Lib.hid hT
  have HW := Lib.hid hW
  clear hT hW
  go_enter Tryz.func18, Tryz.ntmps18
  go_wp2_with fail
  obtain ⟨W0, hW0⟩ : ∃ W0, W0 = w.alloc (Obj.cells #[Value.int IntKind.i64 x.id, Value.string x.customer, Value.int IntKind.i64 x.stage, Value.int IntKind.i64 x.due, Value.int IntKind.i64 x.left, Value.int IntKind.i64 x.fittings] 26) := ⟨_, rfl⟩
  obtain ⟨g, hg⟩ : ∃ g, g = w.heap.size := ⟨_, rfl⟩
  have hv : Below w.heap.size w W0 := by rw [hW0]; exact bl_alloc (Below.refl _ _) _
  have hB0 : Blk W0 g 26 #[Value.int IntKind.i64 x.id, Value.string x.customer, Value.int IntKind.i64 x.stage, Value.int IntKind.i64 x.due, Value.int IntKind.i64 x.left, Value.int IntKind.i64 x.fittings] := by rw [hW0, hg]; exact Blk.new _ _ _
  rw [← hW0]
  try rw [← hg]
  clear hW0 hg
  have c0 : W0.cell? ⟨g, 0, none⟩ = some (.int .i64 x.id) := hB0.cell 0
  have c1 : W0.cell? ⟨g, 1, none⟩ = some (.string x.customer) := hB0.cell 1
  have c2 : W0.cell? ⟨g, 2, none⟩ = some (.int .i64 x.stage) := hB0.cell 2
  have c3 : W0.cell? ⟨g, 3, none⟩ = some (.int .i64 x.due) := hB0.cell 3
  have c4 : W0.cell? ⟨g, 4, none⟩ = some (.int .i64 x.left) := hB0.cell 4
  have c5 : W0.cell? ⟨g, 5, none⟩ = some (.int .i64 x.fittings) := hB0.cell 5
  refine (validOrder_c x hs _).mono ?_
  rintro e W ⟨rfl, hb⟩
  replace hv := bl_trans hv hb
  replace hB0 := hB0.below hb
  clear hb c0 c1 c2 c3 c4 c5
  have c0 : W.cell? ⟨g, 0, none⟩ = some (.int .i64 x.id) := hB0.cell 0
  have c1 : W.cell? ⟨g, 1, none⟩ = some (.string x.customer) := hB0.cell 1
  have c2 : W.cell? ⟨g, 2, none⟩ = some (.int .i64 x.stage) := hB0.cell 2
  have c3 : W.cell? ⟨g, 3, none⟩ = some (.int .i64 x.due) := hB0.cell 3
  have c4 : W.cell? ⟨g, 4, none⟩ = some (.int .i64 x.left) := hB0.cell 4
  have c5 : W.cell? ⟨g, 5, none⟩ = some (.int .i64 x.fittings) := hB0.cell 5
  cases hx : ordB x
  · have HX := Lib.hid (show otB x = ⟨#[]⟩ by unfold otB; rw [hx]; rfl)
    clear hx
    go_wp2_with fail
    go_returns
    exact Ret.mk (vs HX.out.symm) hv
  have HX := Lib.hid (show otB x = textO x by unfold otB; rw [if_pos hx])
  obtain ⟨⟨i0, i1⟩, ⟨sg0, sg1⟩, ⟨d0, d1⟩, ⟨l0, l1⟩, ⟨f0, f1⟩⟩ := ordB_all hx
  have sn := ordB_name hx
  have s1 := decI_size x.id
  have s2 := decI_size x.due
  have s3 := decI_size x.left
  have s4 := decI_size x.fittings
  have s5 := wordAt_size x.stage
  have z0 : (⟨#[32, 100, 117, 101, 32]⟩ : ByteArray).size = 5 := rfl
  have z1 : (⟨#[32, 102, 105, 116, 116, 105, 110, 103, 115, 32]⟩ : ByteArray).size = 10 := rfl
  have z2 : (⟨#[32, 108, 101, 102, 116, 32]⟩ : ByteArray).size = 6 := rfl
  have z3 : (⟨#[32]⟩ : ByteArray).size = 1 := rfl
  have z4 : (⟨#[35]⟩ : ByteArray).size = 1 := rfl
  have hadd1 := fun (w : World) => run_string_add_sum (P := Tryz.prog) w (⟨#[35]⟩) (decI x.id) (by simp only [z4]; omega)
  have hadd2 := fun (w : World) => run_string_add_sum (P := Tryz.prog) w (⟨#[35]⟩ ++ decI x.id) ⟨#[32]⟩ (by simp only [ByteArray.size_append', z3, z4]; omega)
  have hadd3 := fun (w : World) => run_string_add_sum (P := Tryz.prog) w (⟨#[35]⟩ ++ decI x.id ++ ⟨#[32]⟩) x.customer (by simp only [ByteArray.size_append', z3, z4]; omega)
  have hadd4 := fun (w : World) => run_string_add_sum (P := Tryz.prog) w (⟨#[35]⟩ ++ decI x.id ++ ⟨#[32]⟩ ++ x.customer) ⟨#[32]⟩ (by simp only [ByteArray.size_append', z3, z4]; omega)
  have hadd5 := fun (w : World) => run_string_add_sum (P := Tryz.prog) w (⟨#[35]⟩ ++ decI x.id ++ ⟨#[32]⟩ ++ x.customer ++ ⟨#[32]⟩) (wordAt x.stage) (by simp only [ByteArray.size_append', z3, z4]; omega)
  have hadd6 := fun (w : World) => run_string_add_sum (P := Tryz.prog) w (⟨#[35]⟩ ++ decI x.id ++ ⟨#[32]⟩ ++ x.customer ++ ⟨#[32]⟩ ++ wordAt x.stage) ⟨#[32, 100, 117, 101, 32]⟩ (by simp only [ByteArray.size_append', z0, z3, z4]; omega)
  have hadd7 := fun (w : World) => run_string_add_sum (P := Tryz.prog) w (⟨#[35]⟩ ++ decI x.id ++ ⟨#[32]⟩ ++ x.customer ++ ⟨#[32]⟩ ++ wordAt x.stage ++ ⟨#[32, 100, 117, 101, 32]⟩) (decI x.due) (by simp only [ByteArray.size_append', z0, z3, z4]; omega)
  have hadd8 := fun (w : World) => run_string_add_sum (P := Tryz.prog) w (⟨#[35]⟩ ++ decI x.id ++ ⟨#[32]⟩ ++ x.customer ++ ⟨#[32]⟩ ++ wordAt x.stage ++ ⟨#[32, 100, 117, 101, 32]⟩ ++ decI x.due) ⟨#[32, 108, 101, 102, 116, 32]⟩ (by simp only [ByteArray.size_append', z0, z2, z3, z4]; omega)
  have hadd9 := fun (w : World) => run_string_add_sum (P := Tryz.prog) w (⟨#[35]⟩ ++ decI x.id ++ ⟨#[32]⟩ ++ x.customer ++ ⟨#[32]⟩ ++ wordAt x.stage ++ ⟨#[32, 100, 117, 101, 32]⟩ ++ decI x.due ++ ⟨#[32, 108, 101, 102, 116, 32]⟩) (decI x.left) (by simp only [ByteArray.size_append', z0, z2, z3, z4]; omega)
  have hadd10 := fun (w : World) => run_string_add_sum (P := Tryz.prog) w (⟨#[35]⟩ ++ decI x.id ++ ⟨#[32]⟩ ++ x.customer ++ ⟨#[32]⟩ ++ wordAt x.stage ++ ⟨#[32, 100, 117, 101, 32]⟩ ++ decI x.due ++ ⟨#[32, 108, 101, 102, 116, 32]⟩ ++ decI x.left) ⟨#[32, 102, 105, 116, 116, 105, 110, 103, 115, 32]⟩ (by simp only [ByteArray.size_append', z0, z1, z2, z3, z4]; omega)
  have hadd11 := fun (w : World) => run_string_add_sum (P := Tryz.prog) w (⟨#[35]⟩ ++ decI x.id ++ ⟨#[32]⟩ ++ x.customer ++ ⟨#[32]⟩ ++ wordAt x.stage ++ ⟨#[32, 100, 117, 101, 32]⟩ ++ decI x.due ++ ⟨#[32, 108, 101, 102, 116, 32]⟩ ++ decI x.left ++ ⟨#[32, 102, 105, 116, 116, 105, 110, 103, 115, 32]⟩) (decI x.fittings) (by simp only [ByteArray.size_append', z0, z1, z2, z3, z4]; omega)
  clear sn s1 s2 s3 s4 s5 z0 z1 z2 z3 z4
  clear hx
  go_wp2_with fail
  have HS := Lib.hid (show (fun w' : World => Below w.heap.size w w' ∧ Words w' ∧ Pow10 w' ∧ w'.cell? ⟨g, 0, none⟩ = some (.int .i64 x.id) ∧ w'.cell? ⟨g, 1, none⟩ = some (.string x.customer) ∧ w'.cell? ⟨g, 2, none⟩ = some (.int .i64 x.stage) ∧ w'.cell? ⟨g, 3, none⟩ = some (.int .i64 x.due) ∧ w'.cell? ⟨g, 4, none⟩ = some (.int .i64 x.left) ∧ w'.cell? ⟨g, 5, none⟩ = some (.int .i64 x.fittings)) W.drew from ⟨hv.drew, HW.out.below hv.drew, HT.out.below hv.drew, c0, c1, c2, c3, c4, c5⟩)
  clear hv hB0 c0 c1 c2 c3 c4 c5
  go_region_held3 (fun w' => Below w.heap.size w w' ∧ Words w' ∧ Pow10 w' ∧ w'.cell? ⟨g, 0, none⟩ = some (.int .i64 x.id) ∧ w'.cell? ⟨g, 1, none⟩ = some (.string x.customer) ∧ w'.cell? ⟨g, 2, none⟩ = some (.int .i64 x.stage) ∧ w'.cell? ⟨g, 3, none⟩ = some (.int .i64 x.due) ∧ w'.cell? ⟨g, 4, none⟩ = some (.int .i64 x.left) ∧ w'.cell? ⟨g, 5, none⟩ = some (.int .i64 x.fittings))
    (first | (go_split_ands; exact ⟨bl_trans (by assumption) hb, Words.below (by assumption) hb, Pow10.below (by assumption) hb, bl_cell hb (by assumption), bl_cell hb (by assumption), bl_cell hb (by assumption), bl_cell hb (by assumption), bl_cell hb (by assumption), bl_cell hb (by assumption)⟩) | (go_split_ands; exact ⟨(by assumption), (by assumption), (by assumption), (by assumption), (by assumption), (by assumption), (by assumption), (by assumption), (by assumption)⟩) | exact HS.out)
    (first | (go_at_call 52; go_split_ands; refine (DecimalI_c _ (by omega) (by omega) _ (by assumption)).mono ?_; rintro e W ⟨rfl, hb⟩) | (go_at_call 27; go_split_ands; refine (StageWord_c _ _ (by assumption)).mono ?_; rintro e W ⟨rfl, rfl⟩))
  go_split_ands
  go_wp2_with fail
  go_returns
  exact Ret.mk (vs (by rw [HX.out, textO])) (by assumption)

end Go.Proofs.YtapnllbbdfoaaaaGreatDoor
