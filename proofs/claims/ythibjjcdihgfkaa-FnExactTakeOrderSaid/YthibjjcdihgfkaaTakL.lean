/- The law on TakeOrder, walked. -/
import Derived.Test.YthibjjcdihgfkaaTakS
namespace Go.Proofs.Ythibjjcdihgfkaa
open Go.RowKit

theorem eqOrderS_same (A B : Option Addr) (xs : List Order) (n c d : Nat) (hn : Hid (xs.length = n)) (hz : (n : Int) ≤ 1048576) (w : World) (hA : Arr w A (flat Order.cells xs)) (hB : Arr w B (flat Order.cells xs)) :
    Calls Try.prog 39 #[.slice A n c, .slice B n d] w (Ret (.bool true) w) := by
  have h := eqOrderS_c A B xs xs n n c d hn hn hz w hA hB
  rwa [(listBeq_iff Order.beq_iff xs xs).2 rfl] at h
set_option maxRecDepth 100000 in
set_option maxHeartbeats 4000000 in
theorem FnExactTakeOrder_law (A : Option Addr) (xs : List Order) (n c : Nat) (x : Order) (hn : Hid (xs.length = n)) (hmax : n ≤ 9223372036854775807) (hs : Hid (∀ x ∈ xs, x.customer.size ≤ 9223372036854775807)) (hsx : x.customer.size ≤ 9223372036854775807) (w : World) (hA : Arr w A (flat Order.cells xs)) :
    Calls Try.prog 7 #[.slice A n c, .agg #[Value.int IntKind.i64 x.id, Value.string x.customer, Value.int IntKind.i64 x.stage, Value.int IntKind.i64 x.due, Value.int IntKind.i64 x.left, Value.int IntKind.i64 x.fittings]] w (Ret (.bool true) w) := by
  have hle := szS_le Order.sizes xs 1048576 (by omega)
  go_enter Try.func7, Try.ntmps7
  go_wp2_with fail
  obtain ⟨W, hW⟩ : ∃ W, W = w.alloc (Obj.cells #[Value.int IntKind.i64 x.id, Value.string x.customer, Value.int IntKind.i64 x.stage, Value.int IntKind.i64 x.due, Value.int IntKind.i64 x.left, Value.int IntKind.i64 x.fittings] 69) := ⟨_, rfl⟩
  obtain ⟨g, hg⟩ : ∃ g, g = w.heap.size := ⟨_, rfl⟩
  have hv : Below w.heap.size w W := by rw [hW]; exact bl_alloc (Below.refl _ _) _
  have hB0 : Blk W g 69 #[Value.int IntKind.i64 x.id, Value.string x.customer, Value.int IntKind.i64 x.stage, Value.int IntKind.i64 x.due, Value.int IntKind.i64 x.left, Value.int IntKind.i64 x.fittings] := by rw [hW, hg]; exact Blk.new _ _ _
  rw [← hW, ← hg]
  clear hW hg
  have k0 : W.cell? ⟨g, 0, none⟩ = some (.int .i64 x.id) := hB0.cell 0
  have k1 : W.cell? ⟨g, 1, none⟩ = some (.string x.customer) := hB0.cell 1
  have k2 : W.cell? ⟨g, 2, none⟩ = some (.int .i64 x.stage) := hB0.cell 2
  have k3 : W.cell? ⟨g, 3, none⟩ = some (.int .i64 x.due) := hB0.cell 3
  have k4 : W.cell? ⟨g, 4, none⟩ = some (.int .i64 x.left) := hB0.cell 4
  have k5 : W.cell? ⟨g, 5, none⟩ = some (.int .i64 x.fittings) := hB0.cell 5
  refine (szOrderS_c A xs n c 1048576 hn hmax hs (by omega) (by omega) _ (hA.below hv)).mono ?_
  rintro e W ⟨rfl, hb⟩
  have z0 := Lib.hid hb.size
  replace hv := bl_trans hv hb
  replace hB0 := hB0.below hb
  clear hb
  have k0 : W.cell? ⟨g, 0, none⟩ = some (.int .i64 x.id) := hB0.cell 0
  have k1 : W.cell? ⟨g, 1, none⟩ = some (.string x.customer) := hB0.cell 1
  have k2 : W.cell? ⟨g, 2, none⟩ = some (.int .i64 x.stage) := hB0.cell 2
  have k3 : W.cell? ⟨g, 3, none⟩ = some (.int .i64 x.due) := hB0.cell 3
  have k4 : W.cell? ⟨g, 4, none⟩ = some (.int .i64 x.left) := hB0.cell 4
  have k5 : W.cell? ⟨g, 5, none⟩ = some (.int .i64 x.fittings) := hB0.cell 5
  obtain ⟨q, hq'⟩ : ∃ q, q = szS Order.sizes xs 1048576 := ⟨_, rfl⟩
  rw [← hq'] at hle ⊢
  by_cases hq : q < 0
  · clear hq'
    go_wp2_with fail
    go_returns
    exact Ret.mk rfl hv
  have hz : (n : Int) ≤ 1048576 := by rw [← hn.out]; exact szS_len (by rw [← hq']; omega) (by omega)
  clear hq'
  go_wp2_with fail
  refine (szOrder_c x q hsx (by omega) (by omega) _).mono ?_
  rintro e W ⟨rfl, hb⟩
  have z1 := Lib.hid hb.size
  replace hv := bl_trans hv hb
  replace hB0 := hB0.below hb
  clear hb
  have k0 : W.cell? ⟨g, 0, none⟩ = some (.int .i64 x.id) := hB0.cell 0
  have k1 : W.cell? ⟨g, 1, none⟩ = some (.string x.customer) := hB0.cell 1
  have k2 : W.cell? ⟨g, 2, none⟩ = some (.int .i64 x.stage) := hB0.cell 2
  have k3 : W.cell? ⟨g, 3, none⟩ = some (.int .i64 x.due) := hB0.cell 3
  have k4 : W.cell? ⟨g, 4, none⟩ = some (.int .i64 x.left) := hB0.cell 4
  have k5 : W.cell? ⟨g, 5, none⟩ = some (.int .i64 x.fittings) := hB0.cell 5
  obtain ⟨q2, hq2'⟩ : ∃ q2, q2 = szGo x.sizes q := ⟨_, rfl⟩
  rw [← hq2']
  by_cases hq2 : q2 < 0
  · clear hq2'
    go_wp2_with fail
    go_returns
    exact Ret.mk rfl hv
  clear hq2'
  obtain ⟨l, hl⟩ : ∃ l, l = (takeP xs x).1 := ⟨_, rfl⟩
  obtain ⟨co, hco⟩ : ∃ co, co = (takeP xs x).2 := ⟨_, rfl⟩
  have hlen : (l.length : Int) ≤ 30 := by rw [hl]; exact takeP_len _ _
  obtain ⟨r, hr⟩ : ∃ r, r = l.length := ⟨_, rfl⟩
  have HW := fun (g : Nat) (w : World) (h : Arr w (some ⟨g, 0, none⟩) (flat Order.cells xs)) => STakeOrder_c g xs n x hn hz hs hsx w h
  have HG' := fun (a : Addr) (w : World) (h : Arr w (some a) (flat Order.cells xs)) => TakeOrder_c a xs n n x hn hz hs hsx w h
  rw [← hl, ← hco, ← hr] at HW HG'
  rw [← hr] at hlen
  have hr1 := Lib.hid hr.symm
  clear hl hco hr
  replace HW := Lib.hid HW
  replace HG' := Lib.hid HG'
  go_wp2_with fail
  have z2 := Lib.hid hB0.lt
  refine wp_region_held_drew (S := fun w' => Below w.heap.size w w' ∧ Blk w' g 69 #[Value.int IntKind.i64 x.id, Value.string x.customer, Value.int IntKind.i64 x.stage, Value.int IntKind.i64 x.due, Value.int IntKind.i64 x.left, Value.int IntKind.i64 x.fittings]) (by kernel_rfl) ?_ (fun hHeld => ?_)
  · exact ⟨hv.drew, hB0.below (Below.refl _ _).drew⟩
  clear hv hB0 k0 k1 k2 k3 k4 k5
  refine wpAnyH_take (i := 0) (oi := { dst := some 27, op := _, type := _, pos := _, after := _, guard := _ }) (v := ?_) rfl (by kernel_rfl) (by kernel_rfl) (by kernel_rfl) (fun _ _ _ h => h) (Or.inl ⟨by kernel_rfl, ?_⟩) (by assumption) ?_
  rotate_left
  · intro w hSw
    try dsimp only at hSw
    go_simp
    try with_reducible rfl
  try simp only [Act.put, List.setIfInBounds_toArray, List.set_cons_zero, List.set_cons_succ]
  refine wpAnyH_take (i := 2) (oi := { dst := some 29, op := _, type := _, pos := _, after := _, guard := _ }) (v := ?_) rfl (by kernel_rfl) (by kernel_rfl) (by kernel_rfl) (fun _ _ _ h => h) (Or.inl ⟨by kernel_rfl, ?_⟩) (by assumption) ?_
  rotate_left
  · intro w hSw
    try dsimp only at hSw
    have y0 : w.cell? ⟨g, 0, none⟩ = some (.int .i64 x.id) := hSw.2.cell 0
    have y1 : w.cell? ⟨g, 1, none⟩ = some (.string x.customer) := hSw.2.cell 1
    have y2 : w.cell? ⟨g, 2, none⟩ = some (.int .i64 x.stage) := hSw.2.cell 2
    have y3 : w.cell? ⟨g, 3, none⟩ = some (.int .i64 x.due) := hSw.2.cell 3
    have y4 : w.cell? ⟨g, 4, none⟩ = some (.int .i64 x.left) := hSw.2.cell 4
    have y5 : w.cell? ⟨g, 5, none⟩ = some (.int .i64 x.fittings) := hSw.2.cell 5
    go_simp
    try with_reducible rfl
  try simp only [Act.put, List.setIfInBounds_toArray, List.set_cons_zero, List.set_cons_succ]
  refine wpAnyH_ready (rs := [1]) (by kernel_rfl) (by simp) ?_
  refine AllReadyH.cons (o := { dst := some 28, op := _, type := _, pos := _, after := _, guard := _ }) rfl (fun K hK => ?_) AllReadyH.nil
  go_simp
  (try dsimp only at hHeld); go_split_ands
  refine (toOrderS_c A xs n c hn hz _ (hA.below (by assumption))).mono ?_
  rintro e W ⟨g1, rfl, ha, hb⟩
  go_wp2_with fail
  refine hK.out _ _ ?_ (fun hHeld => ?_)
  · (try dsimp only); go_split_ands; exact ⟨bl_trans (by assumption) hb, Blk.below (by assumption) hb⟩
  clear hK K
  try simp only [Act.put, List.setIfInBounds_toArray, List.set_cons_zero, List.set_cons_succ]
  refine wpAnyH_ready (rs := [3]) (by kernel_rfl) (by simp) ?_
  refine AllReadyH.cons (o := { dst := some 30, op := _, type := _, pos := _, after := _, guard := _ }) rfl (fun K hK => ?_) AllReadyH.nil
  go_simp
  (try dsimp only at hHeld); go_split_ands
  refine (toOrder_c x _).mono ?_
  rintro e W ⟨rfl, hb⟩
  replace ha := own_below ha hb
  go_wp2_with fail
  refine hK.out _ _ ?_ (fun hHeld => ?_)
  · (try dsimp only); go_split_ands; exact ⟨bl_trans (by assumption) hb, Blk.below (by assumption) hb⟩
  clear hK K
  try simp only [Act.put, List.setIfInBounds_toArray, List.set_cons_zero, List.set_cons_succ]
  refine wpAnyH_ready (rs := [4]) (by kernel_rfl) (by simp) ?_
  refine AllReadyH.cons (o := { dst := some 31, op := _, type := _, pos := _, after := _, guard := _ }) rfl (fun K hK => ?_) AllReadyH.nil
  go_simp
  (try dsimp only at hHeld); go_split_ands
  refine (HW.out g1 _ (Arr.own ha)).mono ?_
  rintro e W ⟨Aw, cw, rfl, how, hb⟩
  have hkeep := hb
  go_wp2_with fail
  refine hK.out _ _ ?_ (fun hHeld => ?_)
  · (try dsimp only); go_split_ands; exact ⟨bl_trans (by assumption) hb, Blk.below (by assumption) hb⟩
  clear hK K
  try simp only [Act.put, List.setIfInBounds_toArray, List.set_cons_zero, List.set_cons_succ]
  refine wpAnyH_take (i := 5) (oi := { dst := some 26, op := _, type := _, pos := _, after := _, guard := _ }) (v := ?_) rfl (by kernel_rfl) (by kernel_rfl) (by kernel_rfl) (fun _ _ _ h => h) (Or.inl ⟨by kernel_rfl, ?_⟩) (by assumption) ?_
  rotate_left
  · intro w hSw
    try dsimp only at hSw
    go_simp
    try with_reducible rfl
  try simp only [Act.put, List.setIfInBounds_toArray, List.set_cons_zero, List.set_cons_succ]
  refine wpAnyH_take (i := 6) (oi := { dst := some 32, op := _, type := _, pos := _, after := _, guard := _ }) (v := ?_) rfl (by kernel_rfl) (by kernel_rfl) (by kernel_rfl) (fun _ _ _ h => h) (Or.inl ⟨by kernel_rfl, ?_⟩) (by assumption) ?_
  rotate_left
  · intro w hSw
    try dsimp only at hSw
    go_simp
    try with_reducible rfl
  try simp only [Act.put, List.setIfInBounds_toArray, List.set_cons_zero, List.set_cons_succ]
  refine wpAnyH_take (i := 7) (oi := { dst := some 33, op := _, type := _, pos := _, after := _, guard := _ }) (v := ?_) rfl (by kernel_rfl) (by kernel_rfl) (by kernel_rfl) (fun _ _ _ h => h) (Or.inl ⟨by kernel_rfl, ?_⟩) (by assumption) ?_
  rotate_left
  · intro w hSw
    try dsimp only at hSw
    go_simp
    try with_reducible rfl
  try simp only [Act.put, List.setIfInBounds_toArray, List.set_cons_zero, List.set_cons_succ]
  refine wpAnyH_take (i := 8) (oi := { dst := some 6, op := _, type := _, pos := _, after := _, guard := _ }) (v := ?_) rfl (by kernel_rfl) (by kernel_rfl) (by kernel_rfl) (fun _ _ _ h => h) (Or.inl ⟨by kernel_rfl, ?_⟩) (by assumption) ?_
  rotate_left
  · intro w hSw
    try dsimp only at hSw
    go_simp
    try with_reducible rfl
  try simp only [Act.put, List.setIfInBounds_toArray, List.set_cons_zero, List.set_cons_succ]
  refine wpAnyH_take (i := 9) (oi := { dst := some 7, op := _, type := _, pos := _, after := _, guard := _ }) (v := ?_) rfl (by kernel_rfl) (by kernel_rfl) (by kernel_rfl) (fun _ _ _ h => h) (Or.inl ⟨by kernel_rfl, ?_⟩) (by assumption) ?_
  rotate_left
  · intro w hSw
    try dsimp only at hSw
    go_simp
    try with_reducible rfl
  try simp only [Act.put, List.setIfInBounds_toArray, List.set_cons_zero, List.set_cons_succ]
  refine wpAnyH_done (by kernel_rfl) ?_ _
  go_split_ands
  have hv := (by assumption : Below w.heap.size w _)
  have hB0 := (by assumption : Blk _ g 69 _)
  clear ha
  obtain ⟨lw, uw, h_own, z3, z4⟩ := Own.named how hkeep
  replace how := h_own
  clear h_own hkeep
  have z5 := Lib.hid hB0.lt
  have z6 := Lib.hid hv.size
  have k0 : W.cell? ⟨g, 0, none⟩ = some (.int .i64 x.id) := hB0.cell 0
  have k1 : W.cell? ⟨g, 1, none⟩ = some (.string x.customer) := hB0.cell 1
  have k2 : W.cell? ⟨g, 2, none⟩ = some (.int .i64 x.stage) := hB0.cell 2
  have k3 : W.cell? ⟨g, 3, none⟩ = some (.int .i64 x.due) := hB0.cell 3
  have k4 : W.cell? ⟨g, 4, none⟩ = some (.int .i64 x.left) := hB0.cell 4
  have k5 : W.cell? ⟨g, 5, none⟩ = some (.int .i64 x.fittings) := hB0.cell 5
  go_wp2_with fail
  refine (toOrderS_c A xs n c hn hz _ (hA.below hv)).mono ?_
  rintro e W ⟨g2, rfl, hox, hb⟩
  obtain ⟨lx, ux, h_own, z7, z8⟩ := Own.named hox hb
  replace hox := h_own
  clear h_own
  have z9 := Lib.hid hb.size
  replace hv := bl_trans hv hb
  replace hB0 := hB0.below hb
  replace how := how.below hb
  clear hb
  have k0 : W.cell? ⟨g, 0, none⟩ = some (.int .i64 x.id) := hB0.cell 0
  have k1 : W.cell? ⟨g, 1, none⟩ = some (.string x.customer) := hB0.cell 1
  have k2 : W.cell? ⟨g, 2, none⟩ = some (.int .i64 x.stage) := hB0.cell 2
  have k3 : W.cell? ⟨g, 3, none⟩ = some (.int .i64 x.due) := hB0.cell 3
  have k4 : W.cell? ⟨g, 4, none⟩ = some (.int .i64 x.left) := hB0.cell 4
  have k5 : W.cell? ⟨g, 5, none⟩ = some (.int .i64 x.fittings) := hB0.cell 5
  go_wp2_with fail
  refine (toOrder_c x _).mono ?_
  rintro e W ⟨rfl, hb⟩
  have z10 := Lib.hid hb.size
  replace hv := bl_trans hv hb
  replace hB0 := hB0.below hb
  replace how := how.below hb
  replace hox := hox.below hb
  clear hb
  have k0 : W.cell? ⟨g, 0, none⟩ = some (.int .i64 x.id) := hB0.cell 0
  have k1 : W.cell? ⟨g, 1, none⟩ = some (.string x.customer) := hB0.cell 1
  have k2 : W.cell? ⟨g, 2, none⟩ = some (.int .i64 x.stage) := hB0.cell 2
  have k3 : W.cell? ⟨g, 3, none⟩ = some (.int .i64 x.due) := hB0.cell 3
  have k4 : W.cell? ⟨g, 4, none⟩ = some (.int .i64 x.left) := hB0.cell 4
  have k5 : W.cell? ⟨g, 5, none⟩ = some (.int .i64 x.fittings) := hB0.cell 5
  go_wp2_with fail
  refine (HG'.out _ _ hox.arr).mono ?_
  rintro e W ⟨Ag, cg, rfl, hog, hb⟩
  obtain ⟨lg, ug, h_own, z11, z12⟩ := Own.named hog hb
  replace hog := h_own
  clear h_own
  have z13 := Lib.hid hb.size
  replace hv := bl_trans hv hb
  replace hB0 := hB0.below hb
  replace how := how.below hb
  replace hox := hox.below hb
  clear hb
  have k0 : W.cell? ⟨g, 0, none⟩ = some (.int .i64 x.id) := hB0.cell 0
  have k1 : W.cell? ⟨g, 1, none⟩ = some (.string x.customer) := hB0.cell 1
  have k2 : W.cell? ⟨g, 2, none⟩ = some (.int .i64 x.stage) := hB0.cell 2
  have k3 : W.cell? ⟨g, 3, none⟩ = some (.int .i64 x.due) := hB0.cell 3
  have k4 : W.cell? ⟨g, 4, none⟩ = some (.int .i64 x.left) := hB0.cell 4
  have k5 : W.cell? ⟨g, 5, none⟩ = some (.int .i64 x.fittings) := hB0.cell 5
  go_wp2_with fail
  refine (eqOrderS_same Ag Aw l r cg cw hr1 (by omega) _ hog.arr how.arr).mono ?_
  rintro e W ⟨rfl, hb⟩
  have z14 := Lib.hid hb.size
  replace hv := bl_trans hv hb
  replace hB0 := hB0.below hb
  replace how := how.below hb
  replace hox := hox.below hb
  replace hog := hog.below hb
  clear hb
  have k0 : W.cell? ⟨g, 0, none⟩ = some (.int .i64 x.id) := hB0.cell 0
  have k1 : W.cell? ⟨g, 1, none⟩ = some (.string x.customer) := hB0.cell 1
  have k2 : W.cell? ⟨g, 2, none⟩ = some (.int .i64 x.stage) := hB0.cell 2
  have k3 : W.cell? ⟨g, 3, none⟩ = some (.int .i64 x.due) := hB0.cell 3
  have k4 : W.cell? ⟨g, 4, none⟩ = some (.int .i64 x.left) := hB0.cell 4
  have k5 : W.cell? ⟨g, 5, none⟩ = some (.int .i64 x.fittings) := hB0.cell 5
  go_wp2_with fail
  refine (toOrderS_c A xs n c hn hz _ (hA.below hv)).mono ?_
  rintro e W ⟨g3, rfl, hd, hb⟩
  obtain ⟨ld, ud, h_own, z15, z16⟩ := Own.named hd hb
  replace hd := h_own
  clear h_own
  have z17 := Lib.hid hb.size
  replace hv := bl_trans hv hb
  replace hB0 := hB0.below hb
  replace how := how.below hb
  replace hox := hox.below hb
  replace hog := hog.below hb
  clear hb
  have k0 : W.cell? ⟨g, 0, none⟩ = some (.int .i64 x.id) := hB0.cell 0
  have k1 : W.cell? ⟨g, 1, none⟩ = some (.string x.customer) := hB0.cell 1
  have k2 : W.cell? ⟨g, 2, none⟩ = some (.int .i64 x.stage) := hB0.cell 2
  have k3 : W.cell? ⟨g, 3, none⟩ = some (.int .i64 x.due) := hB0.cell 3
  have k4 : W.cell? ⟨g, 4, none⟩ = some (.int .i64 x.left) := hB0.cell 4
  have k5 : W.cell? ⟨g, 5, none⟩ = some (.int .i64 x.fittings) := hB0.cell 5
  go_wp2_with fail
  refine (eqOrderS_same _ _ xs n n n hn hz _ hox.arr hd.arr).mono ?_
  rintro e W ⟨rfl, hb⟩
  have z18 := Lib.hid hb.size
  replace hv := bl_trans hv hb
  replace hB0 := hB0.below hb
  replace how := how.below hb
  replace hox := hox.below hb
  replace hog := hog.below hb
  replace hd := hd.below hb
  clear hb
  have k0 : W.cell? ⟨g, 0, none⟩ = some (.int .i64 x.id) := hB0.cell 0
  have k1 : W.cell? ⟨g, 1, none⟩ = some (.string x.customer) := hB0.cell 1
  have k2 : W.cell? ⟨g, 2, none⟩ = some (.int .i64 x.stage) := hB0.cell 2
  have k3 : W.cell? ⟨g, 3, none⟩ = some (.int .i64 x.due) := hB0.cell 3
  have k4 : W.cell? ⟨g, 4, none⟩ = some (.int .i64 x.left) := hB0.cell 4
  have k5 : W.cell? ⟨g, 5, none⟩ = some (.int .i64 x.fittings) := hB0.cell 5
  go_wp2_with fail
  refine (markOrderS_c _ n n lx _ 1 (by omega) (by omega) (by omega) _ hox.1).mono ?_
  rintro e W ⟨rfl, hown, hg⟩
  have y0 := z0.out
  have y1 := z1.out
  have y2 := z2.out
  have y3 := z3.out
  have y4 := z4.out
  have y5 := z5.out
  have y6 := z6.out
  have y7 := z7.out
  have y8 := z8.out
  have y9 := z9.out
  have y10 := z10.out
  have y11 := z11.out
  have y12 := z12.out
  have y13 := z13.out
  have y14 := z14.out
  have y15 := z15.out
  have y16 := z16.out
  have y17 := z17.out
  have y18 := z18.out
  have hr := hox.row
  have l_how := how.2.1
  have l_hox := hox.2.1
  have l_hog := hog.2.1
  have l_hd := hd.2.1
  replace hv := bl_grown hv hg (fun k e => by have h1 := hr k e; omega)
  replace hB0 := hB0.grown hg (fun e => by have h1 := hr _ e.symm; omega)
  replace how := how.grown hg (fun k e => by have h1 := hr k e; omega)
  replace hog := hog.grown hg (fun k e => by have h1 := hr k e; omega)
  replace hd := hd.grown hg (fun k e => by have h1 := hr k e; omega)
  replace hox := hox.marked hg hown
  clear hg hown hr l_how l_hox l_hog l_hd
  clear y0 y1 y2 y3 y4 y5 y6 y7 y8 y9 y10 y11 y12 y13 y14 y15 y16 y17 y18
  have k0 : W.cell? ⟨g, 0, none⟩ = some (.int .i64 x.id) := hB0.cell 0
  have k1 : W.cell? ⟨g, 1, none⟩ = some (.string x.customer) := hB0.cell 1
  have k2 : W.cell? ⟨g, 2, none⟩ = some (.int .i64 x.stage) := hB0.cell 2
  have k3 : W.cell? ⟨g, 3, none⟩ = some (.int .i64 x.due) := hB0.cell 3
  have k4 : W.cell? ⟨g, 4, none⟩ = some (.int .i64 x.left) := hB0.cell 4
  have k5 : W.cell? ⟨g, 5, none⟩ = some (.int .i64 x.fittings) := hB0.cell 5
  go_wp2_with fail
  refine (eqOrderS_same Ag Aw l r cg cw hr1 (by omega) _ hog.arr how.arr).mono ?_
  rintro e W ⟨rfl, hb⟩
  have z19 := Lib.hid hb.size
  replace hv := bl_trans hv hb
  replace hB0 := hB0.below hb
  replace how := how.below hb
  replace hox := hox.below hb
  replace hog := hog.below hb
  replace hd := hd.below hb
  clear hb
  have k0 : W.cell? ⟨g, 0, none⟩ = some (.int .i64 x.id) := hB0.cell 0
  have k1 : W.cell? ⟨g, 1, none⟩ = some (.string x.customer) := hB0.cell 1
  have k2 : W.cell? ⟨g, 2, none⟩ = some (.int .i64 x.stage) := hB0.cell 2
  have k3 : W.cell? ⟨g, 3, none⟩ = some (.int .i64 x.due) := hB0.cell 3
  have k4 : W.cell? ⟨g, 4, none⟩ = some (.int .i64 x.left) := hB0.cell 4
  have k5 : W.cell? ⟨g, 5, none⟩ = some (.int .i64 x.fittings) := hB0.cell 5
  go_wp2_with fail
  refine (markOrderS_c Ag r cg lg _ 1 (by omega) (by omega) (by omega) _ hog.1).mono ?_
  rintro e W ⟨rfl, hown, hg⟩
  have y0 := z0.out
  have y1 := z1.out
  have y2 := z2.out
  have y3 := z3.out
  have y4 := z4.out
  have y5 := z5.out
  have y6 := z6.out
  have y7 := z7.out
  have y8 := z8.out
  have y9 := z9.out
  have y10 := z10.out
  have y11 := z11.out
  have y12 := z12.out
  have y13 := z13.out
  have y14 := z14.out
  have y15 := z15.out
  have y16 := z16.out
  have y17 := z17.out
  have y18 := z18.out
  have y19 := z19.out
  have hr := hog.row
  have l_how := how.2.1
  have l_hox := hox.2.1
  have l_hog := hog.2.1
  have l_hd := hd.2.1
  replace hv := bl_grown hv hg (fun k e => by have h1 := hr k e; omega)
  replace hB0 := hB0.grown hg (fun e => by have h1 := hr _ e.symm; omega)
  replace how := how.grown hg (fun k e => by have h1 := hr k e; omega)
  replace hox := hox.grown hg (fun k e => by have h1 := hr k e; omega)
  replace hd := hd.grown hg (fun k e => by have h1 := hr k e; omega)
  replace hog := hog.marked hg hown
  clear hg hown hr l_how l_hox l_hog l_hd
  clear y0 y1 y2 y3 y4 y5 y6 y7 y8 y9 y10 y11 y12 y13 y14 y15 y16 y17 y18 y19
  have k0 : W.cell? ⟨g, 0, none⟩ = some (.int .i64 x.id) := hB0.cell 0
  have k1 : W.cell? ⟨g, 1, none⟩ = some (.string x.customer) := hB0.cell 1
  have k2 : W.cell? ⟨g, 2, none⟩ = some (.int .i64 x.stage) := hB0.cell 2
  have k3 : W.cell? ⟨g, 3, none⟩ = some (.int .i64 x.due) := hB0.cell 3
  have k4 : W.cell? ⟨g, 4, none⟩ = some (.int .i64 x.left) := hB0.cell 4
  have k5 : W.cell? ⟨g, 5, none⟩ = some (.int .i64 x.fittings) := hB0.cell 5
  go_wp2_with fail
  refine (heldOrderS_c Ag r cg 1 (by omega) (by omega) (by omega) _ hog.arr).mono ?_
  rintro e W ⟨rfl, hb⟩
  have z20 := Lib.hid hb.size
  replace hv := bl_trans hv hb
  replace hB0 := hB0.below hb
  replace how := how.below hb
  replace hox := hox.below hb
  replace hog := hog.below hb
  replace hd := hd.below hb
  clear hb
  have k0 : W.cell? ⟨g, 0, none⟩ = some (.int .i64 x.id) := hB0.cell 0
  have k1 : W.cell? ⟨g, 1, none⟩ = some (.string x.customer) := hB0.cell 1
  have k2 : W.cell? ⟨g, 2, none⟩ = some (.int .i64 x.stage) := hB0.cell 2
  have k3 : W.cell? ⟨g, 3, none⟩ = some (.int .i64 x.due) := hB0.cell 3
  have k4 : W.cell? ⟨g, 4, none⟩ = some (.int .i64 x.left) := hB0.cell 4
  have k5 : W.cell? ⟨g, 5, none⟩ = some (.int .i64 x.fittings) := hB0.cell 5
  go_wp2_with fail
  clear hox hd
  refine wp_region_held_drew (S := fun w' => Below w.heap.size w w' ∧ Blk w' g 69 #[Value.int IntKind.i64 x.id, Value.string x.customer, Value.int IntKind.i64 x.stage, Value.int IntKind.i64 x.due, Value.int IntKind.i64 x.left, Value.int IntKind.i64 x.fittings] ∧ Own w' lw uw 76 6 r (.slice Aw r cw) (flat Order.cells l) ∧ Own w' lg ug 76 6 r (.slice Ag r cg) (flat (fun i : Nat => Order.mkc (1 + (i : Int) * 6)) (List.range r))) (by kernel_rfl) ?_ (fun hHeld => ?_)
  · exact ⟨hv.drew, hB0.below (Below.refl _ _).drew, how.drew, hog.drew⟩
  clear hv hB0 how hog k0 k1 k2 k3 k4 k5
  refine wpAnyH_take (i := 0) (oi := { dst := some 85, op := _, type := _, pos := _, after := _, guard := _ }) (v := ?_) rfl (by kernel_rfl) (by kernel_rfl) (by kernel_rfl) (fun _ _ _ h => h) (Or.inl ⟨by kernel_rfl, ?_⟩) (by assumption) ?_
  rotate_left
  · intro w hSw
    try dsimp only at hSw
    go_simp
    try with_reducible rfl
  try simp only [Act.put, List.setIfInBounds_toArray, List.set_cons_zero, List.set_cons_succ]
  refine wpAnyH_take (i := 2) (oi := { dst := some 87, op := _, type := _, pos := _, after := _, guard := _ }) (v := ?_) rfl (by kernel_rfl) (by kernel_rfl) (by kernel_rfl) (fun _ _ _ h => h) (Or.inl ⟨by kernel_rfl, ?_⟩) (by assumption) ?_
  rotate_left
  · intro w hSw
    try dsimp only at hSw
    have y0 : w.cell? ⟨g, 0, none⟩ = some (.int .i64 x.id) := hSw.2.1.cell 0
    have y1 : w.cell? ⟨g, 1, none⟩ = some (.string x.customer) := hSw.2.1.cell 1
    have y2 : w.cell? ⟨g, 2, none⟩ = some (.int .i64 x.stage) := hSw.2.1.cell 2
    have y3 : w.cell? ⟨g, 3, none⟩ = some (.int .i64 x.due) := hSw.2.1.cell 3
    have y4 : w.cell? ⟨g, 4, none⟩ = some (.int .i64 x.left) := hSw.2.1.cell 4
    have y5 : w.cell? ⟨g, 5, none⟩ = some (.int .i64 x.fittings) := hSw.2.1.cell 5
    go_simp
    try with_reducible rfl
  try simp only [Act.put, List.setIfInBounds_toArray, List.set_cons_zero, List.set_cons_succ]
  refine wpAnyH_ready (rs := [1]) (by kernel_rfl) (by simp) ?_
  refine AllReadyH.cons (o := { dst := some 86, op := _, type := _, pos := _, after := _, guard := _ }) rfl (fun K hK => ?_) AllReadyH.nil
  go_simp
  (try dsimp only at hHeld); go_split_ands
  refine (toOrderS_c A xs n c hn hz _ (hA.below (by assumption))).mono ?_
  rintro e W ⟨g4, rfl, ha, hb⟩
  go_wp2_with fail
  refine hK.out _ _ ?_ (fun hHeld => ?_)
  · (try dsimp only); go_split_ands; exact ⟨bl_trans (by assumption) hb, Blk.below (by assumption) hb, Own.below (by assumption) hb, Own.below (by assumption) hb⟩
  clear hK K
  try simp only [Act.put, List.setIfInBounds_toArray, List.set_cons_zero, List.set_cons_succ]
  refine wpAnyH_ready (rs := [3]) (by kernel_rfl) (by simp) ?_
  refine AllReadyH.cons (o := { dst := some 88, op := _, type := _, pos := _, after := _, guard := _ }) rfl (fun K hK => ?_) AllReadyH.nil
  go_simp
  (try dsimp only at hHeld); go_split_ands
  refine (toOrder_c x _).mono ?_
  rintro e W ⟨rfl, hb⟩
  replace ha := own_below ha hb
  go_wp2_with fail
  refine hK.out _ _ ?_ (fun hHeld => ?_)
  · (try dsimp only); go_split_ands; exact ⟨bl_trans (by assumption) hb, Blk.below (by assumption) hb, Own.below (by assumption) hb, Own.below (by assumption) hb⟩
  clear hK K
  try simp only [Act.put, List.setIfInBounds_toArray, List.set_cons_zero, List.set_cons_succ]
  refine wpAnyH_ready (rs := [4]) (by kernel_rfl) (by simp) ?_
  refine AllReadyH.cons (o := { dst := some 89, op := _, type := _, pos := _, after := _, guard := _ }) rfl (fun K hK => ?_) AllReadyH.nil
  go_simp
  (try dsimp only at hHeld); go_split_ands
  refine (HG'.out ⟨g4, 0, none⟩ _ (Arr.own ha)).mono ?_
  rintro e W ⟨Ah, ch, rfl, hoh, hb⟩
  have hkeep := hb
  go_wp2_with fail
  refine hK.out _ _ ?_ (fun hHeld => ?_)
  · (try dsimp only); go_split_ands; exact ⟨bl_trans (by assumption) hb, Blk.below (by assumption) hb, Own.below (by assumption) hb, Own.below (by assumption) hb⟩
  clear hK K
  try simp only [Act.put, List.setIfInBounds_toArray, List.set_cons_zero, List.set_cons_succ]
  refine wpAnyH_take (i := 5) (oi := { dst := some 84, op := _, type := _, pos := _, after := _, guard := _ }) (v := ?_) rfl (by kernel_rfl) (by kernel_rfl) (by kernel_rfl) (fun _ _ _ h => h) (Or.inl ⟨by kernel_rfl, ?_⟩) (by assumption) ?_
  rotate_left
  · intro w hSw
    try dsimp only at hSw
    go_simp
    try with_reducible rfl
  try simp only [Act.put, List.setIfInBounds_toArray, List.set_cons_zero, List.set_cons_succ]
  refine wpAnyH_take (i := 6) (oi := { dst := some 90, op := _, type := _, pos := _, after := _, guard := _ }) (v := ?_) rfl (by kernel_rfl) (by kernel_rfl) (by kernel_rfl) (fun _ _ _ h => h) (Or.inl ⟨by kernel_rfl, ?_⟩) (by assumption) ?_
  rotate_left
  · intro w hSw
    try dsimp only at hSw
    go_simp
    try with_reducible rfl
  try simp only [Act.put, List.setIfInBounds_toArray, List.set_cons_zero, List.set_cons_succ]
  refine wpAnyH_take (i := 7) (oi := { dst := some 91, op := _, type := _, pos := _, after := _, guard := _ }) (v := ?_) rfl (by kernel_rfl) (by kernel_rfl) (by kernel_rfl) (fun _ _ _ h => h) (Or.inl ⟨by kernel_rfl, ?_⟩) (by assumption) ?_
  rotate_left
  · intro w hSw
    try dsimp only at hSw
    go_simp
    try with_reducible rfl
  try simp only [Act.put, List.setIfInBounds_toArray, List.set_cons_zero, List.set_cons_succ]
  refine wpAnyH_take (i := 8) (oi := { dst := some 14, op := _, type := _, pos := _, after := _, guard := _ }) (v := ?_) rfl (by kernel_rfl) (by kernel_rfl) (by kernel_rfl) (fun _ _ _ h => h) (Or.inl ⟨by kernel_rfl, ?_⟩) (by assumption) ?_
  rotate_left
  · intro w hSw
    try dsimp only at hSw
    go_simp
    try with_reducible rfl
  try simp only [Act.put, List.setIfInBounds_toArray, List.set_cons_zero, List.set_cons_succ]
  refine wpAnyH_take (i := 9) (oi := { dst := some 15, op := _, type := _, pos := _, after := _, guard := _ }) (v := ?_) rfl (by kernel_rfl) (by kernel_rfl) (by kernel_rfl) (fun _ _ _ h => h) (Or.inl ⟨by kernel_rfl, ?_⟩) (by assumption) ?_
  rotate_left
  · intro w hSw
    try dsimp only at hSw
    go_simp
    try with_reducible rfl
  try simp only [Act.put, List.setIfInBounds_toArray, List.set_cons_zero, List.set_cons_succ]
  refine wpAnyH_done (by kernel_rfl) ?_ _
  go_split_ands
  have hv := (by assumption : Below w.heap.size w _)
  have hB0 := (by assumption : Blk _ g 69 _)
  have how := (by assumption : Own _ lw uw 76 6 r (.slice Aw r cw) (flat Order.cells l))
  have hog := (by assumption : Own _ lg ug 76 6 r (.slice Ag r cg) (flat (fun i : Nat => Order.mkc (1 + (i : Int) * 6)) (List.range r)))
  clear ha
  obtain ⟨lh, uh, h_own, z21, z22⟩ := Own.named hoh hkeep
  replace hoh := h_own
  clear h_own hkeep
  have z23 := Lib.hid hB0.lt
  have z24 := Lib.hid hv.size
  have k0 : W.cell? ⟨g, 0, none⟩ = some (.int .i64 x.id) := hB0.cell 0
  have k1 : W.cell? ⟨g, 1, none⟩ = some (.string x.customer) := hB0.cell 1
  have k2 : W.cell? ⟨g, 2, none⟩ = some (.int .i64 x.stage) := hB0.cell 2
  have k3 : W.cell? ⟨g, 3, none⟩ = some (.int .i64 x.due) := hB0.cell 3
  have k4 : W.cell? ⟨g, 4, none⟩ = some (.int .i64 x.left) := hB0.cell 4
  have k5 : W.cell? ⟨g, 5, none⟩ = some (.int .i64 x.fittings) := hB0.cell 5
  go_wp2_with fail
  refine (eqOrderS_same Ah Aw l r ch cw hr1 (by omega) _ hoh.arr how.arr).mono ?_
  rintro e W ⟨rfl, hb⟩
  have z25 := Lib.hid hb.size
  replace hv := bl_trans hv hb
  replace hB0 := hB0.below hb
  replace how := how.below hb
  replace hog := hog.below hb
  replace hoh := hoh.below hb
  clear hb
  have k0 : W.cell? ⟨g, 0, none⟩ = some (.int .i64 x.id) := hB0.cell 0
  have k1 : W.cell? ⟨g, 1, none⟩ = some (.string x.customer) := hB0.cell 1
  have k2 : W.cell? ⟨g, 2, none⟩ = some (.int .i64 x.stage) := hB0.cell 2
  have k3 : W.cell? ⟨g, 3, none⟩ = some (.int .i64 x.due) := hB0.cell 3
  have k4 : W.cell? ⟨g, 4, none⟩ = some (.int .i64 x.left) := hB0.cell 4
  have k5 : W.cell? ⟨g, 5, none⟩ = some (.int .i64 x.fittings) := hB0.cell 5
  go_wp2_with fail
  refine (heldOrderS_c Ag r cg 1 (by omega) (by omega) (by omega) _ hog.arr).mono ?_
  rintro e W ⟨rfl, hb⟩
  have z26 := Lib.hid hb.size
  replace hv := bl_trans hv hb
  replace hB0 := hB0.below hb
  replace how := how.below hb
  replace hog := hog.below hb
  replace hoh := hoh.below hb
  clear hb
  have k0 : W.cell? ⟨g, 0, none⟩ = some (.int .i64 x.id) := hB0.cell 0
  have k1 : W.cell? ⟨g, 1, none⟩ = some (.string x.customer) := hB0.cell 1
  have k2 : W.cell? ⟨g, 2, none⟩ = some (.int .i64 x.stage) := hB0.cell 2
  have k3 : W.cell? ⟨g, 3, none⟩ = some (.int .i64 x.due) := hB0.cell 3
  have k4 : W.cell? ⟨g, 4, none⟩ = some (.int .i64 x.left) := hB0.cell 4
  have k5 : W.cell? ⟨g, 5, none⟩ = some (.int .i64 x.fittings) := hB0.cell 5
  go_wp2_with fail
  go_returns
  exact Ret.mk rfl hv

end Go.Proofs.Ythibjjcdihgfkaa
