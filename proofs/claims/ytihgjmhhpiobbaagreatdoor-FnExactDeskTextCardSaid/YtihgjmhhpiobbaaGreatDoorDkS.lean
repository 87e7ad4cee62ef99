/- The size of a console's state, and what it leaves for the laws; the laws' frames. -/
import Derived.Test.YtihgjmhhpiobbaaGreatDoorDeskU
import Derived.Test.YtihgjmhhpiobbaaGreatDoorTabs
namespace Go.Proofs.YtihgjmhhpiobbaaGreatDoor
open Go.RowKit

theorem szGo_all : ∀ (l : List Nat) (q : Int), 0 ≤ szGo l q → ∀ s ∈ l, (s : Int) ≤ q
  | [], _, _, _, h => by simp at h
  | a :: r, q, h, s, hs => by
    by_cases h0 : q - a < 0
    · rw [szGo_cons_lo h0] at h; omega
    · rw [szGo_cons_hi (by omega)] at h
      rcases List.mem_cons.1 hs with rfl | hs
      · omega
      · have := szGo_all r _ h s hs; omega
theorem run_load_row {P : Program} {eval : Operand → Value} {o : Oper} {w : World} (ty : TypeId) (x : Operand) (ho : o.op = .load ty x) (g : Nat) (hx : eval x = .pointer (some ⟨g, 0, none⟩)) (t : TypeId) (cs : Array Value) (d : TypeDesc) (hg : w.heap[g]? = some (.cells cs t (0, 0)))
    (hu : P.underlying ty = some d) (hd : (match d with | .struct _ | .array _ _ => true | _ => false) = true) (hi : (P.info? ty).map (·.size) = some cs.size) : (execOp eval o).run P w = .ok (.value (.agg cs)) w := by
  unfold execOp
  simp only [ho, hx, Instr.loadAt, Instr.sureAddr, Sem.run_bind, Sem.run_pure, Result.andThen_ok, run_loadVar_row w g t ty cs (0, 0) d hg hu hd hi]
/-- a state's copy, as far as the law asks it -/
def OutA (R : Nat → Array Value) (L : List Value) (w : World) (e : Ending) (w' : World) : Prop := ∃ g, e = .returned (.agg (R g)) ∧ Arr w' (some ⟨g, 0, none⟩) L ∧ Below w.heap.size w w'
def OutZP (P : Prop) (left : Int) (w : World) (e : Ending) (w' : World) : Prop := ∃ q : Int, e = .returned (.int .i64 q) ∧ q ≤ left ∧ (0 ≤ q → P) ∧ Below w.heap.size w w'
def smallD (n : Nat) (s : Style) (lg : ByteArray) : Prop := (n : Int) ≤ 1048576 ∧ lg.size ≤ 1048576 ∧ s.upper.size ≤ 1048576 ∧ s.color.size ≤ 1048576 ∧ s.lining.size ≤ 1048576 ∧ s.sole.size ≤ 1048576
set_option maxRecDepth 100000 in
set_option maxHeartbeats 2000000 in
theorem szDeskP_c (f : Foot) (s : Style) (lg : ByteArray) (A : Option Addr) (xs : List Last) (n c : Nat) (left : Int) (hn : Hid (xs.length = n)) (hm : n ≤ 9223372036854775807) (hs : Hid (∀ x ∈ xs, x.name.size ≤ 9223372036854775807)) (hs0 : s.upper.size ≤ 9223372036854775807) (hs1 : s.color.size ≤ 9223372036854775807) (hs2 : s.lining.size ≤ 9223372036854775807) (hs3 : s.sole.size ≤ 9223372036854775807) (hlg : lg.size ≤ 9223372036854775807) (h0 : 0 ≤ left) (hl : left ≤ 1048576) (w : World) (hA : Arr w A (flat Last.cells xs)) :
    Calls Tryz.prog 6 #[Value.agg #[Value.int IntKind.i64 f.length, Value.int IntKind.i64 f.ball, Value.int IntKind.i64 f.instep, Value.int IntKind.i64 f.heel, Value.slice A n c, Value.string s.upper, Value.string s.color, Value.string s.lining, Value.string s.sole, Value.int IntKind.i64 s.thick, Value.int IntKind.i64 s.heel, Value.int IntKind.i64 s.eyelets, Value.int IntKind.i64 s.density, Value.bool s.double, Value.string lg], .int .i64 left] w (OutZP (smallD n s lg) left w) := by
  have hle := szS_le Last.sizes xs left h0
  go_enter Tryz.func6, Tryz.ntmps6
  go_wp2_with fail
  obtain ⟨W, hW⟩ : ∃ W, W = w.alloc (Obj.cells #[Value.int IntKind.i64 f.length, Value.int IntKind.i64 f.ball, Value.int IntKind.i64 f.instep, Value.int IntKind.i64 f.heel, Value.slice A n c, Value.string s.upper, Value.string s.color, Value.string s.lining, Value.string s.sole, Value.int IntKind.i64 s.thick, Value.int IntKind.i64 s.heel, Value.int IntKind.i64 s.eyelets, Value.int IntKind.i64 s.density, Value.bool s.double, Value.string lg] 28) := ⟨_, rfl⟩
  obtain ⟨g0, hg0⟩ : ∃ g0, g0 = w.heap.size := ⟨_, rfl⟩
  have hv : Below w.heap.size w W := by rw [hW]; exact bl_alloc (Below.refl _ _) _
  have b0 : Blk W g0 28 #[Value.int IntKind.i64 f.length, Value.int IntKind.i64 f.ball, Value.int IntKind.i64 f.instep, Value.int IntKind.i64 f.heel, Value.slice A n c, Value.string s.upper, Value.string s.color, Value.string s.lining, Value.string s.sole, Value.int IntKind.i64 s.thick, Value.int IntKind.i64 s.heel, Value.int IntKind.i64 s.eyelets, Value.int IntKind.i64 s.density, Value.bool s.double, Value.string lg] := by rw [hW, hg0]; exact Blk.new _ _ _
  rw [← hW, ← hg0]
  clear hW hg0
  refine (szLastS_c A xs n c left hn hm hs h0 hl _ (hA.below hv)).mono ?_
  rintro e W ⟨rfl, hb⟩
  replace hv := bl_trans hv hb
  replace b0 := b0.below hb
  clear hb
  have k0 : W.cell? ⟨g0, 0, none⟩ = some (Value.int IntKind.i64 f.length) := b0.cell 0
  have k1 : W.cell? ⟨g0, 1, none⟩ = some (Value.int IntKind.i64 f.ball) := b0.cell 1
  have k2 : W.cell? ⟨g0, 2, none⟩ = some (Value.int IntKind.i64 f.instep) := b0.cell 2
  have k3 : W.cell? ⟨g0, 3, none⟩ = some (Value.int IntKind.i64 f.heel) := b0.cell 3
  have k4 : W.cell? ⟨g0, 4, none⟩ = some (Value.slice A n c) := b0.cell 4
  have k5 : W.cell? ⟨g0, 5, none⟩ = some (Value.string s.upper) := b0.cell 5
  have k6 : W.cell? ⟨g0, 6, none⟩ = some (Value.string s.color) := b0.cell 6
  have k7 : W.cell? ⟨g0, 7, none⟩ = some (Value.string s.lining) := b0.cell 7
  have k8 : W.cell? ⟨g0, 8, none⟩ = some (Value.string s.sole) := b0.cell 8
  have k9 : W.cell? ⟨g0, 9, none⟩ = some (Value.int IntKind.i64 s.thick) := b0.cell 9
  have k10 : W.cell? ⟨g0, 10, none⟩ = some (Value.int IntKind.i64 s.heel) := b0.cell 10
  have k11 : W.cell? ⟨g0, 11, none⟩ = some (Value.int IntKind.i64 s.eyelets) := b0.cell 11
  have k12 : W.cell? ⟨g0, 12, none⟩ = some (Value.int IntKind.i64 s.density) := b0.cell 12
  have k13 : W.cell? ⟨g0, 13, none⟩ = some (Value.bool s.double) := b0.cell 13
  have k14 : W.cell? ⟨g0, 14, none⟩ = some (Value.string lg) := b0.cell 14
  have hlen := Lib.hid (fun h => szS_len (f := Last.sizes) (xs := xs) (l := left) h hl)
  obtain ⟨q, hq'⟩ : ∃ q, q = szS Last.sizes xs left := ⟨_, rfl⟩
  rw [← hq'] at hle hlen ⊢
  clear hq'
  by_cases hq : q < 0
  · go_wp2_with fail
    go_returns
    exact ⟨-1, rfl, by omega, by omega, hv⟩
  have hz : (n : Int) ≤ 1048576 := by rw [← hn.out]; exact hlen.out (by omega)
  have hle2 := szGo_le s.sizes q (by omega)
  have hall := Lib.hid (szGo_all s.sizes q)
  go_wp2_with fail
  clear k0 k1 k2 k3 k4 k5 k6 k7 k8 k9 k10 k11 k12 k13 k14
  refine (szStyle_c s q hs0 hs1 hs2 hs3 (by omega) (by omega) _).mono ?_
  rintro e W ⟨rfl, hb⟩
  replace hv := bl_trans hv hb
  replace b0 := b0.below hb
  clear hb
  have k0 : W.cell? ⟨g0, 0, none⟩ = some (Value.int IntKind.i64 f.length) := b0.cell 0
  have k1 : W.cell? ⟨g0, 1, none⟩ = some (Value.int IntKind.i64 f.ball) := b0.cell 1
  have k2 : W.cell? ⟨g0, 2, none⟩ = some (Value.int IntKind.i64 f.instep) := b0.cell 2
  have k3 : W.cell? ⟨g0, 3, none⟩ = some (Value.int IntKind.i64 f.heel) := b0.cell 3
  have k4 : W.cell? ⟨g0, 4, none⟩ = some (Value.slice A n c) := b0.cell 4
  have k5 : W.cell? ⟨g0, 5, none⟩ = some (Value.string s.upper) := b0.cell 5
  have k6 : W.cell? ⟨g0, 6, none⟩ = some (Value.string s.color) := b0.cell 6
  have k7 : W.cell? ⟨g0, 7, none⟩ = some (Value.string s.lining) := b0.cell 7
  have k8 : W.cell? ⟨g0, 8, none⟩ = some (Value.string s.sole) := b0.cell 8
  have k9 : W.cell? ⟨g0, 9, none⟩ = some (Value.int IntKind.i64 s.thick) := b0.cell 9
  have k10 : W.cell? ⟨g0, 10, none⟩ = some (Value.int IntKind.i64 s.heel) := b0.cell 10
  have k11 : W.cell? ⟨g0, 11, none⟩ = some (Value.int IntKind.i64 s.eyelets) := b0.cell 11
  have k12 : W.cell? ⟨g0, 12, none⟩ = some (Value.int IntKind.i64 s.density) := b0.cell 12
  have k13 : W.cell? ⟨g0, 13, none⟩ = some (Value.bool s.double) := b0.cell 13
  have k14 : W.cell? ⟨g0, 14, none⟩ = some (Value.string lg) := b0.cell 14
  obtain ⟨r, hr'⟩ : ∃ r, r = szGo s.sizes q := ⟨_, rfl⟩
  rw [← hr'] at hle2 hall ⊢
  clear hr'
  by_cases hr : r < 0
  · go_wp2_with fail
    go_returns
    exact ⟨-1, rfl, by omega, by omega, hv⟩
  by_cases ht : r - (lg.size : Int) < 0
  · go_wp2_with fail
    go_returns
    exact ⟨-1, rfl, by omega, by omega, hv⟩
  · have hh := hall.out (by omega)
    have z0 := hh s.upper.size (by simp [Style.sizes])
    have z1 := hh s.color.size (by simp [Style.sizes])
    have z2 := hh s.lining.size (by simp [Style.sizes])
    have z3 := hh s.sole.size (by simp [Style.sizes])
    have hP : smallD n s lg := by unfold smallD; omega
    have HP := Lib.hid hP
    clear hP hh z0 z1 z2 z3 hall
    go_wp2_with fail
    go_returns
    exact ⟨_, rfl, by omega, fun _ => HP.out, hv⟩

set_option maxRecDepth 100000 in
set_option maxHeartbeats 4000000 in
theorem ValidDesk_gen (V1 : Array Value) (R1 : Nat → Array Value) (L1 : List Value) (A : Option Addr) (P : Prop) (b : Bool)
    (s1 : some V1.size = some 15) (r1 : ∀ g, (R1 g).size = 15) (o1 : ∀ g, (R1 g).all (·.oneCell') = true)
    (HZ1 : ∀ left w, 0 ≤ left → left ≤ 1048576 → Arr w A L1 → Calls Tryz.prog 6 #[.agg V1, .int .i64 left] w (OutZP P left w))
    (HT1 : P → ∀ w, Arr w A L1 → Calls Tryz.prog 8 #[.agg V1] w (OutA R1 L1 w))
    (HS : P → ∀ w g, Arr w (some ⟨g, 0, none⟩) L1 → Calls Tryz.prog 7 #[.agg (R1 g)] w (Ret (.bool b) w))
    (HG : P → ∀ w g, Arr w (some ⟨g, 0, none⟩) L1 → Tabs w → Calls Tryz.prog 9 #[.agg (R1 g)] w (Ret (.bool b) w))
    (HE1 : P → ∀ w g h, Arr w (some ⟨g, 0, none⟩) L1 → Arr w (some ⟨h, 0, none⟩) L1 → Calls Tryz.prog 10 #[.agg (R1 g), .agg (R1 h)] w (Ret (.bool true) w))
    (w : World) (hA : Arr w A L1) (hT : Tabs w) : Calls Tryz.prog 3 #[.agg V1] w (Ret (.bool true) w) := by
  have i1 : (Tryz.prog.info? 28).map (·.size) = some V1.size := by rw [s1]; kernel_rfl
  have j1 : ∀ g, (Tryz.prog.info? 35).map (·.size) = some (R1 g).size := by intro g; rw [r1 g]; kernel_rfl
  replace i1 := Lib.hid i1
  replace j1 := Lib.hid j1
  replace r1 := Lib.hid r1
  replace o1 := Lib.hid o1
  replace HZ1 := Lib.hid HZ1
  replace HT1 := Lib.hid HT1
  replace HS := Lib.hid HS
  replace HG := Lib.hid HG
  replace HE1 := Lib.hid HE1
  have HT := Lib.hid hT
  clear s1 hT
  go_enter Tryz.func3, Tryz.ntmps3
  have B0 := Lib.hid (show Blk (w.alloc (Obj.cells V1 28)) w.heap.size 28 V1 from Blk.new _ _ _)
  go_wp2_with (refine wpList_load_row rfl 28 _ rfl _ rfl 28 V1 (0, 0) _ B0.out Tryz.underlying28 rfl i1.out ?_)
  obtain ⟨W, hW⟩ : ∃ W, W = w.alloc (Obj.cells V1 28) := ⟨_, rfl⟩
  obtain ⟨g0, hg0⟩ : ∃ g0, g0 = w.heap.size := ⟨_, rfl⟩
  have hv : Below w.heap.size w W := by rw [hW]; exact bl_alloc (Below.refl _ _) _
  have b0 : Blk W g0 28 V1 := by rw [hW, hg0]; exact B0.out
  rw [← hW, ← hg0]
  clear hW hg0 B0
  refine (HZ1.out 1048576 _ (by omega) (by omega) (hA.below hv)).mono ?_
  rintro e W ⟨q, rfl, hq, hz, hb⟩
  replace hv := bl_trans hv hb
  replace b0 := b0.below hb
  clear hb
  by_cases hq0 : q < 0
  · go_wp2_with fail
    go_returns
    exact Ret.mk rfl hv
  have hz1 := hz (by omega)
  clear hz
  go_wp2_with (refine wpList_load_row rfl 28 _ rfl _ rfl 28 V1 (0, 0) _ b0 Tryz.underlying28 rfl i1.out ?_)
  refine (HT1.out hz1 _ (hA.below hv)).mono ?_
  rintro e W ⟨ga, rfl, ha, hb⟩
  replace hv := bl_trans hv hb
  replace b0 := b0.below hb
  clear hb
  go_wp2_with fail
  refine (HS.out hz1 _ _ ha).mono ?_
  rintro e W ⟨rfl, hb⟩
  clear ha
  replace hv := bl_trans hv hb
  replace b0 := b0.below hb
  clear hb
  go_wp2_with (refine wpList_load_row rfl 28 _ rfl _ rfl 28 V1 (0, 0) _ b0 Tryz.underlying28 rfl i1.out ?_)
  refine (HT1.out hz1 _ (hA.below hv)).mono ?_
  rintro e W ⟨gx, rfl, hx, hb⟩
  replace hv := bl_trans hv hb
  replace b0 := b0.below hb
  clear hb
  go_wp2_with (first | (refine wpList_store_row rfl 35 _ _ rfl W.heap.size (R1 gx) rfl rfl 35 #[Value.int IntKind.i64 0, Value.int IntKind.i64 0, Value.int IntKind.i64 0, Value.int IntKind.i64 0, Value.slice none 0 0, Value.string ⟨#[]⟩, Value.string ⟨#[]⟩, Value.string ⟨#[]⟩, Value.string ⟨#[]⟩, Value.int IntKind.i64 0, Value.int IntKind.i64 0, Value.int IntKind.i64 0, Value.int IntKind.i64 0, Value.bool false, Value.string ⟨#[]⟩] ?_ (j1.out gx) ?_ (o1.out gx) ?_; exact Blk.new _ _ _; (rw [r1.out gx]; rfl); obtain ⟨W1, hW1⟩ : ∃ W1, W1 = (W.alloc (Obj.cells #[Value.int IntKind.i64 0, Value.int IntKind.i64 0, Value.int IntKind.i64 0, Value.int IntKind.i64 0, Value.slice none 0 0, Value.string ⟨#[]⟩, Value.string ⟨#[]⟩, Value.string ⟨#[]⟩, Value.string ⟨#[]⟩, Value.int IntKind.i64 0, Value.int IntKind.i64 0, Value.int IntKind.i64 0, Value.int IntKind.i64 0, Value.bool false, Value.string ⟨#[]⟩] 35)).setRow W.heap.size (R1 gx) := ⟨_, rfl⟩; obtain ⟨kx, hk0⟩ : ∃ k, k = W.heap.size := ⟨_, rfl⟩; have hb : Below W.heap.size W W1 := (by rw [hW1]; exact below_setRow (bl_alloc (Below.refl _ _) _) (Nat.le_refl _) _); have bx : Blk W1 kx 35 (R1 gx) := (by rw [hW1, hk0]; exact setRow_heap _ _ _ _ _ _ (Blk.new _ _ _)); rw [← hW1, ← hk0]; clear hW1 hk0; replace hv := bl_trans hv hb; replace b0 := b0.below hb; replace hx := hx.below hb; clear hb) | (refine wpList_load_row rfl 35 _ rfl _ rfl 35 (R1 gx) (0, 0) _ bx Tryz.underlying35 rfl (j1.out gx) ?_))
  refine (HG.out hz1 _ _ hx (HT.out.below hv)).mono ?_
  rintro e W ⟨rfl, hb⟩
  replace hv := bl_trans hv hb
  replace b0 := b0.below hb
  replace bx := bx.below hb
  replace hx := hx.below hb
  clear hb
  have hbb : (b != b) = false := by cases b <;> rfl
  go_wp2_with fail
  clear hbb
  refine wp_region_held_drew (S := fun w' => Below w.heap.size w w' ∧ Blk w' g0 28 V1 ∧ Blk w' kx 35 (R1 gx) ∧ Arr w' (some ⟨gx, 0, none⟩) L1) (by kernel_rfl) ?_ (fun hHeld => ?_)
  · exact ⟨hv.drew, b0.below (Below.refl _ _).drew, bx.below (Below.refl _ _).drew, hx.below (Below.refl _ _).drew⟩
  clear hv b0 bx hx
  refine wpAnyH_take (i := 0) (oi := { dst := some 22, op := _, type := _, pos := _, after := _, guard := _ }) (v := Value.agg (R1 gx)) rfl (by kernel_rfl) (by kernel_rfl) (by kernel_rfl) (fun _ _ _ h => h) (Or.inl ⟨by kernel_rfl, ?_⟩) (by assumption) ?_
  · intro w hSw
    try dsimp only at hSw
    exact run_load_row _ _ rfl _ rfl _ (R1 gx) _ hSw.2.2.1 Tryz.underlying35 rfl (j1.out gx)
  try simp only [Act.put, List.setIfInBounds_toArray, List.set_cons_zero, List.set_cons_succ]
  refine wpAnyH_take (i := 1) (oi := { dst := some 23, op := _, type := _, pos := _, after := _, guard := _ }) (v := Value.agg V1) rfl (by kernel_rfl) (by kernel_rfl) (by kernel_rfl) (fun _ _ _ h => h) (Or.inl ⟨by kernel_rfl, ?_⟩) (by assumption) ?_
  · intro w hSw
    try dsimp only at hSw
    exact run_load_row _ _ rfl _ rfl _ V1 _ hSw.2.1 Tryz.underlying28 rfl i1.out
  try simp only [Act.put, List.setIfInBounds_toArray, List.set_cons_zero, List.set_cons_succ]
  refine wpAnyH_ready (rs := [2]) (by kernel_rfl) (by simp) ?_
  refine AllReadyH.cons (o := { dst := some 24, op := _, type := _, pos := _, after := _, guard := _ }) rfl (fun K hK => ?_) AllReadyH.nil
  go_simp
  (try dsimp only at hHeld); go_split_ands
  refine (HT1.out hz1 _ (hA.below (by assumption))).mono ?_; rintro e W ⟨gz, rfl, hq9, hb⟩
  go_wp2_with fail
  refine hK.out _ _ ?_ (fun hHeld => ?_)
  · (try dsimp only); go_split_ands; exact ⟨bl_trans (by assumption) hb, Blk.below (by assumption) hb, Blk.below (by assumption) hb, Arr.below (by assumption) hb⟩
  clear hK K
  try simp only [Act.put, List.setIfInBounds_toArray, List.set_cons_zero, List.set_cons_succ]
  refine wpAnyH_ready (rs := [3]) (by kernel_rfl) (by simp) ?_
  refine AllReadyH.cons (o := { dst := some 25, op := _, type := _, pos := _, after := _, guard := _ }) rfl (fun K hK => ?_) AllReadyH.nil
  go_simp
  (try dsimp only at hHeld); go_split_ands
  refine (HE1.out hz1 _ gx gz (by go_split_ands; assumption) hq9).mono ?_; rintro e W ⟨rfl, hb⟩; clear hq9
  go_wp2_with fail
  refine hK.out _ _ ?_ (fun hHeld => ?_)
  · (try dsimp only); go_split_ands; exact ⟨bl_trans (by assumption) hb, Blk.below (by assumption) hb, Blk.below (by assumption) hb, Arr.below (by assumption) hb⟩
  clear hK K
  try simp only [Act.put, List.setIfInBounds_toArray, List.set_cons_zero, List.set_cons_succ]
  refine wpAnyH_take (i := 4) (oi := { dst := some 26, op := _, type := _, pos := _, after := _, guard := _ }) (v := Value.bool false) rfl (by kernel_rfl) (by kernel_rfl) (by kernel_rfl) (fun _ _ _ h => h) (Or.inl ⟨by kernel_rfl, ?_⟩) (by assumption) ?_
  · intro w hSw
    try dsimp only at hSw
    go_simp
  try simp only [Act.put, List.setIfInBounds_toArray, List.set_cons_zero, List.set_cons_succ]
  refine wpAnyH_done (by kernel_rfl) ?_ _
  go_split_ands
  have hv := (by assumption : Below w.heap.size w _)
  go_wp2_with fail
  go_returns
  exact Ret.mk rfl hv

set_option maxRecDepth 100000 in
set_option maxHeartbeats 4000000 in
theorem DeskText_gen (V1 : Array Value) (R1 : Nat → Array Value) (L1 : List Value) (A : Option Addr) (P : Prop) (b : ByteArray)
    (s1 : some V1.size = some 15) (r1 : ∀ g, (R1 g).size = 15) (o1 : ∀ g, (R1 g).all (·.oneCell') = true)
    (HZ1 : ∀ left w, 0 ≤ left → left ≤ 1048576 → Arr w A L1 → Calls Tryz.prog 6 #[.agg V1, .int .i64 left] w (OutZP P left w))
    (HT1 : P → ∀ w, Arr w A L1 → Calls Tryz.prog 8 #[.agg V1] w (OutA R1 L1 w))
    (HS : P → ∀ w g, Arr w (some ⟨g, 0, none⟩) L1 → Calls Tryz.prog 11 #[.agg (R1 g)] w (Ret (.string b) w))
    (HG : P → ∀ w g, Arr w (some ⟨g, 0, none⟩) L1 → Tabs w → Calls Tryz.prog 12 #[.agg (R1 g)] w (Ret (.string b) w))
    (HE1 : P → ∀ w g h, Arr w (some ⟨g, 0, none⟩) L1 → Arr w (some ⟨h, 0, none⟩) L1 → Calls Tryz.prog 10 #[.agg (R1 g), .agg (R1 h)] w (Ret (.bool true) w))
    (w : World) (hA : Arr w A L1) (hT : Tabs w) : Calls Tryz.prog 4 #[.agg V1] w (Ret (.bool true) w) := by
  have i1 : (Tryz.prog.info? 28).map (·.size) = some V1.size := by rw [s1]; kernel_rfl
  have j1 : ∀ g, (Tryz.prog.info? 35).map (·.size) = some (R1 g).size := by intro g; rw [r1 g]; kernel_rfl
  replace i1 := Lib.hid i1
  replace j1 := Lib.hid j1
  replace r1 := Lib.hid r1
  replace o1 := Lib.hid o1
  replace HZ1 := Lib.hid HZ1
  replace HT1 := Lib.hid HT1
  replace HS := Lib.hid HS
  replace HG := Lib.hid HG
  replace HE1 := Lib.hid HE1
  have HT := Lib.hid hT
  clear s1 hT
  go_enter Tryz.func4, Tryz.ntmps4
  have B0 := Lib.hid (show Blk (w.alloc (Obj.cells V1 28)) w.heap.size 28 V1 from Blk.new _ _ _)
  go_wp2_with (refine wpList_load_row rfl 28 _ rfl _ rfl 28 V1 (0, 0) _ B0.out Tryz.underlying28 rfl i1.out ?_)
  obtain ⟨W, hW⟩ : ∃ W, W = w.alloc (Obj.cells V1 28) := ⟨_, rfl⟩
  obtain ⟨g0, hg0⟩ : ∃ g0, g0 = w.heap.size := ⟨_, rfl⟩
  have hv : Below w.heap.size w W := by rw [hW]; exact bl_alloc (Below.refl _ _) _
  have b0 : Blk W g0 28 V1 := by rw [hW, hg0]; exact B0.out
  rw [← hW, ← hg0]
  clear hW hg0 B0
  refine (HZ1.out 1048576 _ (by omega) (by omega) (hA.below hv)).mono ?_
  rintro e W ⟨q, rfl, hq, hz, hb⟩
  replace hv := bl_trans hv hb
  replace b0 := b0.below hb
  clear hb
  by_cases hq0 : q < 0
  · go_wp2_with fail
    go_returns
    exact Ret.mk rfl hv
  have hz1 := hz (by omega)
  clear hz
  go_wp2_with (refine wpList_load_row rfl 28 _ rfl _ rfl 28 V1 (0, 0) _ b0 Tryz.underlying28 rfl i1.out ?_)
  refine (HT1.out hz1 _ (hA.below hv)).mono ?_
  rintro e W ⟨ga, rfl, ha, hb⟩
  replace hv := bl_trans hv hb
  replace b0 := b0.below hb
  clear hb
  go_wp2_with fail
  refine (HS.out hz1 _ _ ha).mono ?_
  rintro e W ⟨rfl, hb⟩
  clear ha
  replace hv := bl_trans hv hb
  replace b0 := b0.below hb
  clear hb
  go_wp2_with (refine wpList_load_row rfl 28 _ rfl _ rfl 28 V1 (0, 0) _ b0 Tryz.underlying28 rfl i1.out ?_)
  refine (HT1.out hz1 _ (hA.below hv)).mono ?_
  rintro e W ⟨gx, rfl, hx, hb⟩
  replace hv := bl_trans hv hb
  replace b0 := b0.below hb
  clear hb
  go_wp2_with (first | (refine wpList_store_row rfl 35 _ _ rfl W.heap.size (R1 gx) rfl rfl 35 #[Value.int IntKind.i64 0, Value.int IntKind.i64 0, Value.int IntKind.i64 0, Value.int IntKind.i64 0, Value.slice none 0 0, Value.string ⟨#[]⟩, Value.string ⟨#[]⟩, Value.string ⟨#[]⟩, Value.string ⟨#[]⟩, Value.int IntKind.i64 0, Value.int IntKind.i64 0, Value.int IntKind.i64 0, Value.int IntKind.i64 0, Value.bool false, Value.string ⟨#[]⟩] ?_ (j1.out gx) ?_ (o1.out gx) ?_; exact Blk.new _ _ _; (rw [r1.out gx]; rfl); obtain ⟨W1, hW1⟩ : ∃ W1, W1 = (W.alloc (Obj.cells #[Value.int IntKind.i64 0, Value.int IntKind.i64 0, Value.int IntKind.i64 0, Value.int IntKind.i64 0, Value.slice none 0 0, Value.string ⟨#[]⟩, Value.string ⟨#[]⟩, Value.string ⟨#[]⟩, Value.string ⟨#[]⟩, Value.int IntKind.i64 0, Value.int IntKind.i64 0, Value.int IntKind.i64 0, Value.int IntKind.i64 0, Value.bool false, Value.string ⟨#[]⟩] 35)).setRow W.heap.size (R1 gx) := ⟨_, rfl⟩; obtain ⟨kx, hk0⟩ : ∃ k, k = W.heap.size := ⟨_, rfl⟩; have hb : Below W.heap.size W W1 := (by rw [hW1]; exact below_setRow (bl_alloc (Below.refl _ _) _) (Nat.le_refl _) _); have bx : Blk W1 kx 35 (R1 gx) := (by rw [hW1, hk0]; exact setRow_heap _ _ _ _ _ _ (Blk.new _ _ _)); rw [← hW1, ← hk0]; clear hW1 hk0; replace hv := bl_trans hv hb; replace b0 := b0.below hb; replace hx := hx.below hb; clear hb) | (refine wpList_load_row rfl 35 _ rfl _ rfl 35 (R1 gx) (0, 0) _ bx Tryz.underlying35 rfl (j1.out gx) ?_))
  refine (HG.out hz1 _ _ hx (HT.out.below hv)).mono ?_
  rintro e W ⟨rfl, hb⟩
  replace hv := bl_trans hv hb
  replace b0 := b0.below hb
  replace bx := bx.below hb
  replace hx := hx.below hb
  clear hb
  have hbb : (!b.toList == b.toList) = false := by simp
  go_wp2_with fail
  clear hbb
  refine wp_region_held_drew (S := fun w' => Below w.heap.size w w' ∧ Blk w' g0 28 V1 ∧ Blk w' kx 35 (R1 gx) ∧ Arr w' (some ⟨gx, 0, none⟩) L1) (by kernel_rfl) ?_ (fun hHeld => ?_)
  · exact ⟨hv.drew, b0.below (Below.refl _ _).drew, bx.below (Below.refl _ _).drew, hx.below (Below.refl _ _).drew⟩
  clear hv b0 bx hx
  refine wpAnyH_take (i := 0) (oi := { dst := some 22, op := _, type := _, pos := _, after := _, guard := _ }) (v := Value.agg (R1 gx)) rfl (by kernel_rfl) (by kernel_rfl) (by kernel_rfl) (fun _ _ _ h => h) (Or.inl ⟨by kernel_rfl, ?_⟩) (by assumption) ?_
  · intro w hSw
    try dsimp only at hSw
    exact run_load_row _ _ rfl _ rfl _ (R1 gx) _ hSw.2.2.1 Tryz.underlying35 rfl (j1.out gx)
  try simp only [Act.put, List.setIfInBounds_toArray, List.set_cons_zero, List.set_cons_succ]
  refine wpAnyH_take (i := 1) (oi := { dst := some 23, op := _, type := _, pos := _, after := _, guard := _ }) (v := Value.agg V1) rfl (by kernel_rfl) (by kernel_rfl) (by kernel_rfl) (fun _ _ _ h => h) (Or.inl ⟨by kernel_rfl, ?_⟩) (by assumption) ?_
  · intro w hSw
    try dsimp only at hSw
    exact run_load_row _ _ rfl _ rfl _ V1 _ hSw.2.1 Tryz.underlying28 rfl i1.out
  try simp only [Act.put, List.setIfInBounds_toArray, List.set_cons_zero, List.set_cons_succ]
  refine wpAnyH_ready (rs := [2]) (by kernel_rfl) (by simp) ?_
  refine AllReadyH.cons (o := { dst := some 24, op := _, type := _, pos := _, after := _, guard := _ }) rfl (fun K hK => ?_) AllReadyH.nil
  go_simp
  (try dsimp only at hHeld); go_split_ands
  refine (HT1.out hz1 _ (hA.below (by assumption))).mono ?_; rintro e W ⟨gz, rfl, hq9, hb⟩
  go_wp2_with fail
  refine hK.out _ _ ?_ (fun hHeld => ?_)
  · (try dsimp only); go_split_ands; exact ⟨bl_trans (by assumption) hb, Blk.below (by assumption) hb, Blk.below (by assumption) hb, Arr.below (by assumption) hb⟩
  clear hK K
  try simp only [Act.put, List.setIfInBounds_toArray, List.set_cons_zero, List.set_cons_succ]
  refine wpAnyH_ready (rs := [3]) (by kernel_rfl) (by simp) ?_
  refine AllReadyH.cons (o := { dst := some 25, op := _, type := _, pos := _, after := _, guard := _ }) rfl (fun K hK => ?_) AllReadyH.nil
  go_simp
  (try dsimp only at hHeld); go_split_ands
  refine (HE1.out hz1 _ gx gz (by go_split_ands; assumption) hq9).mono ?_; rintro e W ⟨rfl, hb⟩; clear hq9
  go_wp2_with fail
  refine hK.out _ _ ?_ (fun hHeld => ?_)
  · (try dsimp only); go_split_ands; exact ⟨bl_trans (by assumption) hb, Blk.below (by assumption) hb, Blk.below (by assumption) hb, Arr.below (by assumption) hb⟩
  clear hK K
  try simp only [Act.put, List.setIfInBounds_toArray, List.set_cons_zero, List.set_cons_succ]
  refine wpAnyH_take (i := 4) (oi := { dst := some 26, op := _, type := _, pos := _, after := _, guard := _ }) (v := Value.bool false) rfl (by kernel_rfl) (by kernel_rfl) (by kernel_rfl) (fun _ _ _ h => h) (Or.inl ⟨by kernel_rfl, ?_⟩) (by assumption) ?_
  · intro w hSw
    try dsimp only at hSw
    go_simp
  try simp only [Act.put, List.setIfInBounds_toArray, List.set_cons_zero, List.set_cons_succ]
  refine wpAnyH_done (by kernel_rfl) ?_ _
  go_split_ands
  have hv := (by assumption : Below w.heap.size w _)
  go_wp2_with fail
  go_returns
  exact Ret.mk rfl hv

end Go.Proofs.YtihgjmhhpiobbaaGreatDoor
