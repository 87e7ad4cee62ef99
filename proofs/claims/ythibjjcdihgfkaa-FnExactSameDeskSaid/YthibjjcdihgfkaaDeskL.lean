/- The law on SameDesk, walked over states whose cells are not looked into. -/
import Derived.Test.YthibjjcdihgfkaaDeskU
import Derived.BigRegion
namespace Go.Proofs.Ythibjjcdihgfkaa
open Go.RowKit

theorem run_load_row {P : Program} {eval : Operand → Value} {o : Oper} {w : World} (ty : TypeId) (x : Operand) (ho : o.op = .load ty x) (g : Nat) (hx : eval x = .pointer (some ⟨g, 0, none⟩)) (t : TypeId) (cs : Array Value) (d : TypeDesc) (hg : w.heap[g]? = some (.cells cs t (0, 0)))
    (hu : P.underlying ty = some d) (hd : (match d with | .struct _ | .array _ _ => true | _ => false) = true) (hi : (P.info? ty).map (·.size) = some cs.size) : (execOp eval o).run P w = .ok (.value (.agg cs)) w := by
  unfold execOp
  simp only [ho, hx, Instr.loadAt, Instr.sureAddr, Sem.run_bind, Sem.run_pure, Result.andThen_ok, run_loadVar_row w g t ty cs (0, 0) d hg hu hd hi]
/-- a state's copy, as far as the law asks it -/
def OutA (R : Nat → Array Value) (L : List Value) (w : World) (e : Ending) (w' : World) : Prop := ∃ g, e = .returned (.agg (R g)) ∧ Arr w' (some ⟨g, 0, none⟩) L ∧ Below w.heap.size w w'
set_option maxRecDepth 100000 in
set_option maxHeartbeats 4000000 in
theorem sameDesk_gen (V1 V2 : Array Value) (R1 R2 : Nat → Array Value) (L1 L2 : List Value) (A B : Option Addr) (n m : Nat) (b : Bool)
    (s1 : some V1.size = some 15) (s2 : some V2.size = some 15) (r1 : ∀ g, (R1 g).size = 15) (r2 : ∀ g, (R2 g).size = 15) (o1 : ∀ g, (R1 g).all (·.oneCell') = true) (o2 : ∀ g, (R2 g).all (·.oneCell') = true)
    (HZ1 : ∀ left w, 0 ≤ left → left ≤ 1048576 → Arr w A L1 → Calls Try.prog 8 #[.agg V1, .int .i64 left] w (OutZ n left w))
    (HZ2 : ∀ left w, 0 ≤ left → left ≤ 1048576 → Arr w B L2 → Calls Try.prog 8 #[.agg V2, .int .i64 left] w (OutZ m left w))
    (HT1 : (n : Int) ≤ 1048576 → ∀ w, Arr w A L1 → Calls Try.prog 10 #[.agg V1] w (OutA R1 L1 w))
    (HT2 : (m : Int) ≤ 1048576 → ∀ w, Arr w B L2 → Calls Try.prog 10 #[.agg V2] w (OutA R2 L2 w))
    (HS : (n : Int) ≤ 1048576 → ∀ w g h, Arr w (some ⟨g, 0, none⟩) L1 → Arr w (some ⟨h, 0, none⟩) L2 → Calls Try.prog 9 #[.agg (R1 g), .agg (R2 h)] w (Ret (.bool b) w))
    (HG : (n : Int) ≤ 1048576 → ∀ w g h, Arr w (some ⟨g, 0, none⟩) L1 → Arr w (some ⟨h, 0, none⟩) L2 → Calls Try.prog 11 #[.agg (R1 g), .agg (R2 h)] w (Ret (.bool b) w))
    (HE1 : (n : Int) ≤ 1048576 → ∀ w g h, Arr w (some ⟨g, 0, none⟩) L1 → Arr w (some ⟨h, 0, none⟩) L1 → Calls Try.prog 12 #[.agg (R1 g), .agg (R1 h)] w (Ret (.bool true) w))
    (HE2 : (m : Int) ≤ 1048576 → ∀ w g h, Arr w (some ⟨g, 0, none⟩) L2 → Arr w (some ⟨h, 0, none⟩) L2 → Calls Try.prog 12 #[.agg (R2 g), .agg (R2 h)] w (Ret (.bool true) w))
    (w : World) (hA : Arr w A L1) (hB : Arr w B L2) : Calls Try.prog 3 #[.agg V1, .agg V2] w (Ret (.bool true) w) := by
  have i1 : (Try.prog.info? 28).map (·.size) = some V1.size := by rw [s1]; kernel_rfl
  have i2 : (Try.prog.info? 28).map (·.size) = some V2.size := by rw [s2]; kernel_rfl
  have j1 : ∀ g, (Try.prog.info? 35).map (·.size) = some (R1 g).size := by intro g; rw [r1 g]; kernel_rfl
  have j2 : ∀ g, (Try.prog.info? 35).map (·.size) = some (R2 g).size := by intro g; rw [r2 g]; kernel_rfl
  replace i1 := Lib.hid i1
  replace i2 := Lib.hid i2
  replace j1 := Lib.hid j1
  replace j2 := Lib.hid j2
  replace r1 := Lib.hid r1
  replace r2 := Lib.hid r2
  replace o1 := Lib.hid o1
  replace o2 := Lib.hid o2
  replace HZ1 := Lib.hid HZ1
  replace HZ2 := Lib.hid HZ2
  replace HT1 := Lib.hid HT1
  replace HT2 := Lib.hid HT2
  replace HS := Lib.hid HS
  replace HG := Lib.hid HG
  replace HE1 := Lib.hid HE1
  replace HE2 := Lib.hid HE2
  clear s1 s2
  go_enter Try.func3, Try.ntmps3
  have B0 := Lib.hid (show Blk ((w.alloc (Obj.cells V1 28)).alloc (Obj.cells V2 28)) w.heap.size 28 V1 from (Blk.new _ _ _).alloc _)
  go_wp2_with (refine wpList_load_row rfl 28 _ rfl _ rfl 28 V1 (0, 0) _ B0.out Try.underlying28 rfl i1.out ?_)
  obtain ⟨W, hW⟩ : ∃ W, W = (w.alloc (Obj.cells V1 28)).alloc (Obj.cells V2 28) := ⟨_, rfl⟩
  obtain ⟨g0, hg0⟩ : ∃ g0, g0 = w.heap.size := ⟨_, rfl⟩
  obtain ⟨g1, hg1⟩ : ∃ g1, g1 = w.heap.size + 1 := ⟨_, rfl⟩
  have hv : Below w.heap.size w W := by rw [hW]; exact bl_alloc (bl_alloc (Below.refl _ _) _) _
  have b0 : Blk W g0 28 V1 := by rw [hW, hg0]; exact B0.out
  have b1 : Blk W g1 28 V2 := by rw [hW, hg1]; have h := Blk.new (w.alloc (Obj.cells V1 28)) 28 V2; simpa using h
  rw [← hW, ← hg1, ← hg0]
  clear hW hg0 hg1 B0
  refine (HZ1.out 1048576 _ (by omega) (by omega) (hA.below hv)).mono ?_
  rintro e W ⟨q, rfl, hq, hz, hb⟩
  replace hv := bl_trans hv hb
  replace b0 := b0.below hb
  replace b1 := b1.below hb
  clear hb
  by_cases hq0 : q < 0
  · go_wp2_with fail
    go_returns
    exact Ret.mk rfl hv
  have hz1 := hz (by omega)
  go_wp2_with (refine wpList_load_row rfl 28 _ rfl _ rfl 28 V2 (0, 0) _ b1 Try.underlying28 rfl i2.out ?_)
  refine (HZ2.out q _ (by omega) (by omega) (hB.below hv)).mono ?_
  rintro e W ⟨q2, rfl, hq2, hz', hb⟩
  replace hv := bl_trans hv hb
  replace b0 := b0.below hb
  replace b1 := b1.below hb
  clear hb
  by_cases hq20 : q2 < 0
  · go_wp2_with fail
    go_returns
    exact Ret.mk rfl hv
  have hz2 := hz' (by omega)
  clear hz hz'
  go_wp2_with fail
  refine wp_region_held_drew (S := fun w' => Below w.heap.size w w' ∧ Blk w' g0 28 V1 ∧ Blk w' g1 28 V2) (by kernel_rfl) ?_ (fun hHeld => ?_)
  · exact ⟨hv.drew, b0.below (Below.refl _ _).drew, b1.below (Below.refl _ _).drew⟩
  clear hv b0 b1
  refine wpAnyH_take (i := 0) (oi := { dst := some 20, op := _, type := _, pos := _, after := _, guard := _ }) (v := Value.agg V1) rfl (by kernel_rfl) (by kernel_rfl) (by kernel_rfl) (fun _ _ _ h => h) (Or.inl ⟨by kernel_rfl, ?_⟩) (by assumption) ?_

  · intro w hSw
    try dsimp only at hSw
    exact run_load_row _ _ rfl _ rfl _ V1 _ hSw.2.1 Try.underlying28 rfl i1.out
  try simp only [Act.put, List.setIfInBounds_toArray, List.set_cons_zero, List.set_cons_succ]
  refine wpAnyH_take (i := 2) (oi := { dst := some 22, op := _, type := _, pos := _, after := _, guard := _ }) (v := Value.agg V2) rfl (by kernel_rfl) (by kernel_rfl) (by kernel_rfl) (fun _ _ _ h => h) (Or.inl ⟨by kernel_rfl, ?_⟩) (by assumption) ?_

  · intro w hSw
    try dsimp only at hSw
    exact run_load_row _ _ rfl _ rfl _ V2 _ hSw.2.2 Try.underlying28 rfl i2.out
  try simp only [Act.put, List.setIfInBounds_toArray, List.set_cons_zero, List.set_cons_succ]
  refine wpAnyH_ready (rs := [1]) (by kernel_rfl) (by simp) ?_
  refine AllReadyH.cons (o := { dst := some 21, op := _, type := _, pos := _, after := _, guard := _ }) rfl (fun K hK => ?_) AllReadyH.nil
  go_simp
  (try dsimp only at hHeld); go_split_ands
  refine (HT1.out hz1 _ (hA.below (by assumption))).mono ?_; rintro e W ⟨ga, rfl, ha, hb⟩
  go_wp2_with fail
  refine hK.out _ _ ?_ (fun hHeld => ?_)
  · (try dsimp only); go_split_ands; exact ⟨bl_trans (by assumption) hb, Blk.below (by assumption) hb, Blk.below (by assumption) hb⟩
  clear hK K
  try simp only [Act.put, List.setIfInBounds_toArray, List.set_cons_zero, List.set_cons_succ]
  refine wpAnyH_ready (rs := [3]) (by kernel_rfl) (by simp) ?_
  refine AllReadyH.cons (o := { dst := some 23, op := _, type := _, pos := _, after := _, guard := _ }) rfl (fun K hK => ?_) AllReadyH.nil
  go_simp
  (try dsimp only at hHeld); go_split_ands
  refine (HT2.out hz2 _ (hB.below (by assumption))).mono ?_; rintro e W ⟨gb, rfl, hc, hb⟩; replace ha := ha.below hb
  go_wp2_with fail
  refine hK.out _ _ ?_ (fun hHeld => ?_)
  · (try dsimp only); go_split_ands; exact ⟨bl_trans (by assumption) hb, Blk.below (by assumption) hb, Blk.below (by assumption) hb⟩
  clear hK K
  try simp only [Act.put, List.setIfInBounds_toArray, List.set_cons_zero, List.set_cons_succ]
  refine wpAnyH_ready (rs := [4]) (by kernel_rfl) (by simp) ?_
  refine AllReadyH.cons (o := { dst := some 24, op := _, type := _, pos := _, after := _, guard := _ }) rfl (fun K hK => ?_) AllReadyH.nil
  go_simp
  (try dsimp only at hHeld); go_split_ands
  refine (HS.out hz1 _ _ _ ha hc).mono ?_; rintro e W ⟨rfl, hb⟩; clear ha hc
  go_wp2_with fail
  refine hK.out _ _ ?_ (fun hHeld => ?_)
  · (try dsimp only); go_split_ands; exact ⟨bl_trans (by assumption) hb, Blk.below (by assumption) hb, Blk.below (by assumption) hb⟩
  clear hK K
  try simp only [Act.put, List.setIfInBounds_toArray, List.set_cons_zero, List.set_cons_succ]
  refine wpAnyH_take (i := 5) (oi := { dst := some 6, op := _, type := _, pos := _, after := _, guard := _ }) (v := Value.bool b) rfl (by kernel_rfl) (by kernel_rfl) (by kernel_rfl) (fun _ _ _ h => h) (Or.inl ⟨by kernel_rfl, ?_⟩) (by assumption) ?_

  · intro w hSw
    try dsimp only at hSw
    go_simp
  try simp only [Act.put, List.setIfInBounds_toArray, List.set_cons_zero, List.set_cons_succ]
  refine wpAnyH_done (by kernel_rfl) ?_ _
  go_split_ands
  have hv := (by assumption : Below w.heap.size w _)
  have b0 := (by assumption : Blk _ g0 28 V1)
  have b1 := (by assumption : Blk _ g1 28 V2)
  go_wp2_with (refine wpList_load_row rfl 28 _ rfl _ rfl 28 V1 (0, 0) _ b0 Try.underlying28 rfl i1.out ?_)
  refine (HT1.out hz1 _ (hA.below hv)).mono ?_
  rintro e W ⟨gx, rfl, hx, hb⟩
  replace hv := bl_trans hv hb
  replace b0 := b0.below hb
  replace b1 := b1.below hb
  clear hb
  go_wp2_with (first | (refine wpList_store_row rfl 35 _ _ rfl W.heap.size (R1 gx) rfl rfl 35 #[Value.int IntKind.i64 0, Value.int IntKind.i64 0, Value.int IntKind.i64 0, Value.int IntKind.i64 0, Value.slice none 0 0, Value.string ⟨#[]⟩, Value.string ⟨#[]⟩, Value.string ⟨#[]⟩, Value.string ⟨#[]⟩, Value.int IntKind.i64 0, Value.int IntKind.i64 0, Value.int IntKind.i64 0, Value.int IntKind.i64 0, Value.bool false, Value.string ⟨#[]⟩] ?_ (j1.out gx) ?_ (o1.out gx) ?_; exact Blk.new _ _ _; (rw [r1.out gx]; rfl); obtain ⟨W1, hW1⟩ : ∃ W1, W1 = (W.alloc (Obj.cells #[Value.int IntKind.i64 0, Value.int IntKind.i64 0, Value.int IntKind.i64 0, Value.int IntKind.i64 0, Value.slice none 0 0, Value.string ⟨#[]⟩, Value.string ⟨#[]⟩, Value.string ⟨#[]⟩, Value.string ⟨#[]⟩, Value.int IntKind.i64 0, Value.int IntKind.i64 0, Value.int IntKind.i64 0, Value.int IntKind.i64 0, Value.bool false, Value.string ⟨#[]⟩] 35)).setRow W.heap.size (R1 gx) := ⟨_, rfl⟩; obtain ⟨kx, hk0⟩ : ∃ k, k = W.heap.size := ⟨_, rfl⟩; have hb : Below W.heap.size W W1 := (by rw [hW1]; exact below_setRow (bl_alloc (Below.refl _ _) _) (Nat.le_refl _) _); have bx : Blk W1 kx 35 (R1 gx) := (by rw [hW1, hk0]; exact setRow_heap _ _ _ _ _ _ (Blk.new _ _ _)); rw [← hW1, ← hk0]; clear hW1 hk0; replace hv := bl_trans hv hb; replace b0 := b0.below hb; replace b1 := b1.below hb; replace hx := hx.below hb; clear hb) | (refine wpList_load_row rfl 28 _ rfl _ rfl 28 V2 (0, 0) _ b1 Try.underlying28 rfl i2.out ?_))
  refine (HT2.out hz2 _ (hB.below hv)).mono ?_
  rintro e W ⟨gy, rfl, hy, hb⟩
  replace hv := bl_trans hv hb
  replace b0 := b0.below hb
  replace b1 := b1.below hb
  replace bx := bx.below hb
  replace hx := hx.below hb
  clear hb
  go_wp2_with (first | (refine wpList_store_row rfl 35 _ _ rfl W.heap.size (R2 gy) rfl rfl 35 #[Value.int IntKind.i64 0, Value.int IntKind.i64 0, Value.int IntKind.i64 0, Value.int IntKind.i64 0, Value.slice none 0 0, Value.string ⟨#[]⟩, Value.string ⟨#[]⟩, Value.string ⟨#[]⟩, Value.string ⟨#[]⟩, Value.int IntKind.i64 0, Value.int IntKind.i64 0, Value.int IntKind.i64 0, Value.int IntKind.i64 0, Value.bool false, Value.string ⟨#[]⟩] ?_ (j2.out gy) ?_ (o2.out gy) ?_; exact Blk.new _ _ _; (rw [r2.out gy]; rfl); obtain ⟨W1, hW1⟩ : ∃ W1, W1 = (W.alloc (Obj.cells #[Value.int IntKind.i64 0, Value.int IntKind.i64 0, Value.int IntKind.i64 0, Value.int IntKind.i64 0, Value.slice none 0 0, Value.string ⟨#[]⟩, Value.string ⟨#[]⟩, Value.string ⟨#[]⟩, Value.string ⟨#[]⟩, Value.int IntKind.i64 0, Value.int IntKind.i64 0, Value.int IntKind.i64 0, Value.int IntKind.i64 0, Value.bool false, Value.string ⟨#[]⟩] 35)).setRow W.heap.size (R2 gy) := ⟨_, rfl⟩; obtain ⟨ky, hk0⟩ : ∃ k, k = W.heap.size := ⟨_, rfl⟩; have hb : Below W.heap.size W W1 := (by rw [hW1]; exact below_setRow (bl_alloc (Below.refl _ _) _) (Nat.le_refl _) _); have bz : Blk W1 ky 35 (R2 gy) := (by rw [hW1, hk0]; exact setRow_heap _ _ _ _ _ _ (Blk.new _ _ _)); rw [← hW1, ← hk0]; clear hW1 hk0; replace hv := bl_trans hv hb; replace b0 := b0.below hb; replace b1 := b1.below hb; replace bx := bx.below hb; replace hx := hx.below hb; replace hy := hy.below hb; clear hb) | (refine wpList_load_row rfl 35 _ rfl _ rfl 35 (R1 gx) (0, 0) _ bx Try.underlying35 rfl (j1.out gx) ?_) | (refine wpList_load_row rfl 35 _ rfl _ rfl 35 (R2 gy) (0, 0) _ bz Try.underlying35 rfl (j2.out gy) ?_))
  refine (HG.out hz1 _ _ _ hx hy).mono ?_
  rintro e W ⟨rfl, hb⟩
  replace hv := bl_trans hv hb
  replace b0 := b0.below hb
  replace b1 := b1.below hb
  replace bx := bx.below hb
  replace bz := bz.below hb
  replace hx := hx.below hb
  replace hy := hy.below hb
  clear hb
  have hbb : (b != b) = false := by cases b <;> rfl
  go_wp2_with fail
  clear hbb
  refine wp_region_held_drew (S := fun w' => Below w.heap.size w w' ∧ Blk w' g0 28 V1 ∧ Blk w' g1 28 V2 ∧ Blk w' kx 35 (R1 gx) ∧ Blk w' ky 35 (R2 gy) ∧ Arr w' (some ⟨gx, 0, none⟩) L1 ∧ Arr w' (some ⟨gy, 0, none⟩) L2) (by kernel_rfl) ?_ (fun hHeld => ?_)
  · exact ⟨hv.drew, b0.below (Below.refl _ _).drew, b1.below (Below.refl _ _).drew, bx.below (Below.refl _ _).drew, bz.below (Below.refl _ _).drew, hx.below (Below.refl _ _).drew, hy.below (Below.refl _ _).drew⟩
  clear hv b0 b1 bx bz hx hy
  refine wpAnyH_take (i := 0) (oi := { dst := some 35, op := _, type := _, pos := _, after := _, guard := _ }) (v := Value.agg (R1 gx)) rfl (by kernel_rfl) (by kernel_rfl) (by kernel_rfl) (fun _ _ _ h => h) (Or.inl ⟨by kernel_rfl, ?_⟩) (by assumption) ?_

  · intro w hSw
    try dsimp only at hSw
    exact run_load_row _ _ rfl _ rfl _ (R1 gx) _ hSw.2.2.2.1 Try.underlying35 rfl (j1.out gx)
  try simp only [Act.put, List.setIfInBounds_toArray, List.set_cons_zero, List.set_cons_succ]
  refine wpAnyH_take (i := 1) (oi := { dst := some 36, op := _, type := _, pos := _, after := _, guard := _ }) (v := Value.agg V1) rfl (by kernel_rfl) (by kernel_rfl) (by kernel_rfl) (fun _ _ _ h => h) (Or.inl ⟨by kernel_rfl, ?_⟩) (by assumption) ?_

  · intro w hSw
    try dsimp only at hSw
    exact run_load_row _ _ rfl _ rfl _ V1 _ hSw.2.1 Try.underlying28 rfl i1.out
  try simp only [Act.put, List.setIfInBounds_toArray, List.set_cons_zero, List.set_cons_succ]
  refine wpAnyH_ready (rs := [2]) (by kernel_rfl) (by simp) ?_
  refine AllReadyH.cons (o := { dst := some 37, op := _, type := _, pos := _, after := _, guard := _ }) rfl (fun K hK => ?_) AllReadyH.nil
  go_simp
  (try dsimp only at hHeld); go_split_ands
  refine (HT1.out hz1 _ (hA.below (by assumption))).mono ?_; rintro e W ⟨gz, rfl, hq9, hb⟩
  go_wp2_with fail
  refine hK.out _ _ ?_ (fun hHeld => ?_)
  · (try dsimp only); go_split_ands; exact ⟨bl_trans (by assumption) hb, Blk.below (by assumption) hb, Blk.below (by assumption) hb, Blk.below (by assumption) hb, Blk.below (by assumption) hb, Arr.below (by assumption) hb, Arr.below (by assumption) hb⟩
  clear hK K
  try simp only [Act.put, List.setIfInBounds_toArray, List.set_cons_zero, List.set_cons_succ]
  refine wpAnyH_ready (rs := [3]) (by kernel_rfl) (by simp) ?_
  refine AllReadyH.cons (o := { dst := some 38, op := _, type := _, pos := _, after := _, guard := _ }) rfl (fun K hK => ?_) AllReadyH.nil
  go_simp
  (try dsimp only at hHeld); go_split_ands
  refine (HE1.out hz1 _ gx gz (by go_split_ands; assumption) hq9).mono ?_; rintro e W ⟨rfl, hb⟩; clear hq9
  go_wp2_with fail
  refine hK.out _ _ ?_ (fun hHeld => ?_)
  · (try dsimp only); go_split_ands; exact ⟨bl_trans (by assumption) hb, Blk.below (by assumption) hb, Blk.below (by assumption) hb, Blk.below (by assumption) hb, Blk.below (by assumption) hb, Arr.below (by assumption) hb, Arr.below (by assumption) hb⟩
  clear hK K
  try simp only [Act.put, List.setIfInBounds_toArray, List.set_cons_zero, List.set_cons_succ]
  refine wpAnyH_take (i := 4) (oi := { dst := some 39, op := _, type := _, pos := _, after := _, guard := _ }) (v := Value.bool false) rfl (by kernel_rfl) (by kernel_rfl) (by kernel_rfl) (fun _ _ _ h => h) (Or.inl ⟨by kernel_rfl, ?_⟩) (by assumption) ?_

  · intro w hSw
    try dsimp only at hSw
    go_simp
  try simp only [Act.put, List.setIfInBounds_toArray, List.set_cons_zero, List.set_cons_succ]
  refine wpAnyH_done (by kernel_rfl) ?_ _
  go_split_ands
  have hv := (by assumption : Below w.heap.size w _)
  have b0 := (by assumption : Blk _ g0 28 V1)
  have b1 := (by assumption : Blk _ g1 28 V2)
  have bx := (by assumption : Blk _ kx 35 (R1 gx))
  have bz := (by assumption : Blk _ ky 35 (R2 gy))
  have hx := (by assumption : Arr _ (some ⟨gx, 0, none⟩) L1)
  have hy := (by assumption : Arr _ (some ⟨gy, 0, none⟩) L2)
  go_wp2_with fail
  refine wp_region_held_drew (S := fun w' => Below w.heap.size w w' ∧ Blk w' g0 28 V1 ∧ Blk w' g1 28 V2 ∧ Blk w' kx 35 (R1 gx) ∧ Blk w' ky 35 (R2 gy) ∧ Arr w' (some ⟨gx, 0, none⟩) L1 ∧ Arr w' (some ⟨gy, 0, none⟩) L2) (by kernel_rfl) ?_ (fun hHeld => ?_)
  · exact ⟨hv.drew, b0.below (Below.refl _ _).drew, b1.below (Below.refl _ _).drew, bx.below (Below.refl _ _).drew, bz.below (Below.refl _ _).drew, hx.below (Below.refl _ _).drew, hy.below (Below.refl _ _).drew⟩
  clear hv b0 b1 bx bz hx hy
  refine wpAnyH_take (i := 0) (oi := { dst := some 40, op := _, type := _, pos := _, after := _, guard := _ }) (v := Value.agg (R2 gy)) rfl (by kernel_rfl) (by kernel_rfl) (by kernel_rfl) (fun _ _ _ h => h) (Or.inl ⟨by kernel_rfl, ?_⟩) (by assumption) ?_

  · intro w hSw
    try dsimp only at hSw
    exact run_load_row _ _ rfl _ rfl _ (R2 gy) _ hSw.2.2.2.2.1 Try.underlying35 rfl (j2.out gy)
  try simp only [Act.put, List.setIfInBounds_toArray, List.set_cons_zero, List.set_cons_succ]
  refine wpAnyH_take (i := 1) (oi := { dst := some 41, op := _, type := _, pos := _, after := _, guard := _ }) (v := Value.agg V2) rfl (by kernel_rfl) (by kernel_rfl) (by kernel_rfl) (fun _ _ _ h => h) (Or.inl ⟨by kernel_rfl, ?_⟩) (by assumption) ?_

  · intro w hSw
    try dsimp only at hSw
    exact run_load_row _ _ rfl _ rfl _ V2 _ hSw.2.2.1 Try.underlying28 rfl i2.out
  try simp only [Act.put, List.setIfInBounds_toArray, List.set_cons_zero, List.set_cons_succ]
  refine wpAnyH_ready (rs := [2]) (by kernel_rfl) (by simp) ?_
  refine AllReadyH.cons (o := { dst := some 42, op := _, type := _, pos := _, after := _, guard := _ }) rfl (fun K hK => ?_) AllReadyH.nil
  go_simp
  (try dsimp only at hHeld); go_split_ands
  refine (HT2.out hz2 _ (hB.below (by assumption))).mono ?_; rintro e W ⟨gz, rfl, hq9, hb⟩
  go_wp2_with fail
  refine hK.out _ _ ?_ (fun hHeld => ?_)
  · (try dsimp only); go_split_ands; exact ⟨bl_trans (by assumption) hb, Blk.below (by assumption) hb, Blk.below (by assumption) hb, Blk.below (by assumption) hb, Blk.below (by assumption) hb, Arr.below (by assumption) hb, Arr.below (by assumption) hb⟩
  clear hK K
  try simp only [Act.put, List.setIfInBounds_toArray, List.set_cons_zero, List.set_cons_succ]
  refine wpAnyH_ready (rs := [3]) (by kernel_rfl) (by simp) ?_
  refine AllReadyH.cons (o := { dst := some 43, op := _, type := _, pos := _, after := _, guard := _ }) rfl (fun K hK => ?_) AllReadyH.nil
  go_simp
  (try dsimp only at hHeld); go_split_ands
  refine (HE2.out hz2 _ gy gz (by go_split_ands; assumption) hq9).mono ?_; rintro e W ⟨rfl, hb⟩; clear hq9
  go_wp2_with fail
  refine hK.out _ _ ?_ (fun hHeld => ?_)
  · (try dsimp only); go_split_ands; exact ⟨bl_trans (by assumption) hb, Blk.below (by assumption) hb, Blk.below (by assumption) hb, Blk.below (by assumption) hb, Blk.below (by assumption) hb, Arr.below (by assumption) hb, Arr.below (by assumption) hb⟩
  clear hK K
  try simp only [Act.put, List.setIfInBounds_toArray, List.set_cons_zero, List.set_cons_succ]
  refine wpAnyH_take (i := 4) (oi := { dst := some 44, op := _, type := _, pos := _, after := _, guard := _ }) (v := Value.bool false) rfl (by kernel_rfl) (by kernel_rfl) (by kernel_rfl) (fun _ _ _ h => h) (Or.inl ⟨by kernel_rfl, ?_⟩) (by assumption) ?_

  · intro w hSw
    try dsimp only at hSw
    go_simp
  try simp only [Act.put, List.setIfInBounds_toArray, List.set_cons_zero, List.set_cons_succ]
  refine wpAnyH_done (by kernel_rfl) ?_ _
  go_split_ands
  have hv := (by assumption : Below w.heap.size w _)
  have b0 := (by assumption : Blk _ g0 28 V1)
  have b1 := (by assumption : Blk _ g1 28 V2)
  have bx := (by assumption : Blk _ kx 35 (R1 gx))
  have bz := (by assumption : Blk _ ky 35 (R2 gy))
  have hx := (by assumption : Arr _ (some ⟨gx, 0, none⟩) L1)
  have hy := (by assumption : Arr _ (some ⟨gy, 0, none⟩) L2)
  go_wp2_with fail
  go_returns
  exact Ret.mk rfl hv

end Go.Proofs.Ythibjjcdihgfkaa
