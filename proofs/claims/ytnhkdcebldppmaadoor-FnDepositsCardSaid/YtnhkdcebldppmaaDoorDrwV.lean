/- What the law on deposits draws. builds. -/
import Derived.Test.YtnhkdcebldppmaaDoorDrwN
namespace Go.Proofs.YtnhkdcebldppmaaDoor
open Go.RowKit

def OutB3 (w : World) (e : Ending) (w' : World) : Prop := ∃ (ga : Nat) (xs : List Item) (n c : Nat) (o t p u v : Int), e = .returned (.tuple #[.agg #[.slice (some ⟨ga, 0, none⟩) n c, .int .i64 o, .int .i64 t, .int .i64 p], .int .i64 u, .int .i64 v]) ∧ xs.length = n ∧ n ≤ 21 ∧ (∀ x ∈ xs, x.name.size ≤ 100) ∧ w'.ownsRow w.heap.size 77 3 (.slice (some ⟨ga, 0, none⟩) n c) n (flat Item.cells xs) ∧ Below w.heap.size w w'
def OutMt (w : World) (e : Ending) (w' : World) : Prop := ∃ r : Int, e = .returned (.int .i64 r) ∧ Below w.heap.size w w'
set_option maxRecDepth 100000 in
set_option maxHeartbeats 4000000 in
theorem DrawDepositFor_c (C : Option Addr) (nn cc : Nat) (cs : List UInt8) (hnn : Hid (cs.length = nn)) (hnb : nn ≤ 1048576) (w : World) (hA : Arr w C (cs.map bvS)) (hlt : ∀ ad, C = some ad → ad.block < w.heap.size) : Calls Tryd.prog 7 #[.slice C nn cc] w (OutB3 w) := by
  have HL0 := Lib.hid hlt
  have HA0 := Lib.hid hA
  clear hlt hA
  go_enter Tryd.func7, Tryd.ntmps7
  go_wp2_with fail
  obtain ⟨W0, hW0⟩ : ∃ z, z = w.alloc (Obj.cells #[Value.slice none 0 0, Value.int IntKind.i64 0, Value.int IntKind.i64 0, Value.int IntKind.i64 0] 26) := ⟨_, rfl⟩
  obtain ⟨gz, hgz⟩ : ∃ z, z = w.heap.size := ⟨_, rfl⟩
  have HZ : Hid (Blk W0 gz 26 #[Value.slice none 0 0, Value.int IntKind.i64 0, Value.int IntKind.i64 0, Value.int IntKind.i64 0]) := Lib.hid (by rw [hW0, hgz]; exact Blk.new _ _ _)
  have hb0 : Below w.heap.size w W0 := by rw [hW0]; exact bl_alloc (Below.refl _ _) _
  have hn0 : gz + 1 = W0.heap.size := by rw [hW0, hgz]; exact (World.size_alloc _ _).symm
  have HGZ := Lib.hid hgz
  have HB0 := Lib.hid hb0
  rw [← hW0, ← hgz]
  clear hW0 hgz
  refine (l00From_c C nn cc cs hnn hnb W0 (HA0.out.below hb0) (fun ad e => Nat.lt_of_lt_of_le (HL0.out ad e) hb0.size)).mono ?_
  rintro e W1 ⟨rfl, hS, hb1⟩
  obtain ⟨g, hg⟩ : ∃ z, z = W0.heap.size := ⟨_, rfl⟩
  rw [← hg] at hS ⊢
  have HS := Lib.hid hS
  have HG := Lib.hid (grown_below (grown_of_below hb0 (some g)) hb1)
  have HW : Hid (gz ≤ W1.heap.size) := Lib.hid (by have := hb1.size; omega)
  replace HZ := Lib.hid (HZ.out.below hb1)
  have hgg : gz < g := by omega
  have hgw : w.heap.size ≤ g := by have := HGZ.out; omega
  have hz0 : w.heap.size ≤ gz := by have := HGZ.out; omega
  clear hS hb1 HA0 HL0 hb0 hg hn0
  go_wp2_with fail

  have HS0 := HS
  refine (l26Bent_c g _ (by omega) _ HS.out).mono ?_
  rintro e W2 ⟨ga, xs, n, c, o, t, p, rfl, hxl, hn5, hxs, ho1, hS, hg⟩
  replace HS := Lib.hid hS
  replace HG := Lib.hid (grown_trans HG.out hg)
  replace HZ := Lib.hid (HZ.out.grown hg (by intro e; injection e; omega))
  replace HW := Lib.hid (Nat.le_trans HW.out hg.size)
  clear hS hg
  have HXL := Lib.hid hxl
  have HXS := Lib.hid hxs
  have hw1 : g < W1.heap.size := HS0.out.lt
  have hga := own_at ho1 ga rfl
  have hgag : g < ga := by omega
  have hgaW := own_lt ho1 ga rfl
  have HO := Lib.hid (own_base ho1 (base' := g + 1) (by omega))
  clear hxl hxs ho1 HS0 hga
  go_wp2_with fail
  obtain ⟨W3, hWW3⟩ : ∃ z, z = World.alloc W2 (Obj.cells #[Value.slice (some ⟨ga, 0, none⟩) n c, Value.int IntKind.i64 o, Value.int IntKind.i64 t, Value.int IntKind.i64 p] 26) := ⟨_, rfl⟩
  obtain ⟨gx, hggx⟩ : ∃ z, z = (W2).heap.size := ⟨_, rfl⟩
  have HX : Hid (Blk W3 gx 26 #[Value.slice (some ⟨ga, 0, none⟩) n c, Value.int IntKind.i64 o, Value.int IntKind.i64 t, Value.int IntKind.i64 p]) := Lib.hid (by rw [hWW3, hggx]; exact Blk.new _ _ _)
  have hb : Below (W2).heap.size W2 W3 := by rw [hWW3]; exact bl_alloc (Below.refl (W2).heap.size (W2)) _
  have hgx0 : gz ≤ gx := by rw [hggx]; exact HW.out
  have hgx1 : g < gx := by have h : g < (W2).heap.size := HS.out.lt; omega
  have hgx_HZ := Nat.ne_of_lt (hggx ▸ HZ.out.lt)
  replace HS := Lib.hid (HS.out.below hb)
  replace HG := Lib.hid (grown_below HG.out hb)
  replace HO := Lib.hid (own_below HO.out hb)
  replace HZ := Lib.hid (HZ.out.below hb)
  replace HW := Lib.hid (Nat.le_trans HW.out (hb).size)
  have hn_W3 : gx + 1 = W3.heap.size := by rw [hWW3, hggx]; exact (World.size_alloc _ _).symm
  rw [← hWW3, ← hggx]
  clear hWW3 hggx hb
  refine (pick_c g _ 21 (by omega) (by omega) _ HS.out).mono ?_
  rintro e W4 ⟨r, rfl, r0, r1, hS, hg⟩
  replace HS := Lib.hid hS
  replace HG := Lib.hid (grown_trans HG.out hg)
  replace HO := Lib.hid (HO.out.kept hg (.inr (fun e => by have := own_at HO.out g e; omega)))
  replace HZ := Lib.hid (HZ.out.grown hg (by intro e; injection e; omega))
  replace HX := Lib.hid (HX.out.grown hg (by intro e; injection e; omega))
  replace HW := Lib.hid (Nat.le_trans HW.out hg.size)
  clear hS hg
  go_wp2_with fail
  refine (one_c g _ 10 (by omega) (by omega) _ HS.out).mono ?_
  rintro e W5 ⟨bb, rfl, hS, hg⟩
  replace HS := Lib.hid hS
  replace HG := Lib.hid (grown_trans HG.out hg)
  replace HO := Lib.hid (HO.out.kept hg (.inr (fun e => by have := own_at HO.out g e; omega)))
  replace HZ := Lib.hid (HZ.out.grown hg (by intro e; injection e; omega))
  replace HX := Lib.hid (HX.out.grown hg (by intro e; injection e; omega))
  replace HW := Lib.hid (Nat.le_trans HW.out hg.size)
  clear hS hg
  cases bb
  · skip
    go_wp2_with fail
    refine (one_c g _ 10 (by omega) (by omega) _ HS.out).mono ?_
    rintro e W6 ⟨b2, rfl, hS, hg⟩
    replace HS := Lib.hid hS
    replace HG := Lib.hid (grown_trans HG.out hg)
    replace HO := Lib.hid (HO.out.kept hg (.inr (fun e => by have := own_at HO.out g e; omega)))
    replace HZ := Lib.hid (HZ.out.grown hg (by intro e; injection e; omega))
    replace HX := Lib.hid (HX.out.grown hg (by intro e; injection e; omega))
    replace HW := Lib.hid (Nat.le_trans HW.out hg.size)
    clear hS hg
    cases b2
    · skip
      go_wp2_with fail
      refine wp_region_held_drew (S := fun w' => Blk w' gx 26 #[Value.slice (some ⟨ga, 0, none⟩) n c, Value.int IntKind.i64 o, Value.int IntKind.i64 t, Value.int IntKind.i64 p]) (by kernel_rfl) ?_ (fun _ => ?_)
      · exact (HX.out).below (Below.refl (W6).heap.size (W6)).drew
      replace HS := Lib.hid (HS.out.below (Below.refl (W6).heap.size (W6)).drew)
      replace HG := Lib.hid (grown_below HG.out (Below.refl (W6).heap.size (W6)).drew)
      replace HO := Lib.hid (own_below HO.out (Below.refl (W6).heap.size (W6)).drew)
      replace HZ := Lib.hid (HZ.out.below (Below.refl (W6).heap.size (W6)).drew)
      replace HX := Lib.hid (HX.out.below (Below.refl (W6).heap.size (W6)).drew)
      replace HW := Lib.hid (Nat.le_trans HW.out ((Below.refl (W6).heap.size (W6)).drew).size)
      refine wpAnyH_take (i := 0) (oi := { dst := some 27, op := _, type := _, pos := _, after := _, guard := _ }) (v := ?_) rfl (by kernel_rfl) (by kernel_rfl) (by kernel_rfl) (fun _ _ _ h => h) (Or.inl ⟨by kernel_rfl, ?_⟩) (HX.out) ?_
      rotate_left
      · intro w hSw
        try dsimp only at hSw
        have k0 : w.cell? ⟨gx, 0, none⟩ = some (Value.slice (some ⟨ga, 0, none⟩) n c) := hSw.cell 0
        have k1 : w.cell? ⟨gx, 1, none⟩ = some (Value.int IntKind.i64 o) := hSw.cell 1
        have k2 : w.cell? ⟨gx, 2, none⟩ = some (Value.int IntKind.i64 t) := hSw.cell 2
        have k3 : w.cell? ⟨gx, 3, none⟩ = some (Value.int IntKind.i64 p) := hSw.cell 3
        go_simp
        try with_reducible rfl
      try simp only [Act.put, List.setIfInBounds_toArray, List.set_cons_zero, List.set_cons_succ]
      refine wpAnyH_take (i := 1) (oi := { dst := some 28, op := _, type := _, pos := _, after := _, guard := _ }) (v := ?_) rfl (by kernel_rfl) (by kernel_rfl) (by kernel_rfl) (fun _ _ _ h => h) (Or.inl ⟨by kernel_rfl, ?_⟩) (HX.out) ?_
      rotate_left
      · intro w hSw
        try dsimp only at hSw
        go_simp
        try with_reducible rfl
      try simp only [Act.put, List.setIfInBounds_toArray, List.set_cons_zero, List.set_cons_succ]
      refine wpAnyH_take (i := 2) (oi := { dst := some 29, op := _, type := _, pos := _, after := _, guard := _ }) (v := ?_) rfl (by kernel_rfl) (by kernel_rfl) (by kernel_rfl) (fun _ _ _ h => h) (Or.inl ⟨by kernel_rfl, ?_⟩) (HX.out) ?_
      rotate_left
      · intro w hSw
        try dsimp only at hSw
        go_simp
        try with_reducible rfl
      try simp only [Act.put, List.setIfInBounds_toArray, List.set_cons_zero, List.set_cons_succ]
      refine wpAnyH_ready (rs := [3]) (by kernel_rfl) (by simp) ?_
      refine (AllReadyH.cons (o := { dst := some 30, op := _, type := _, pos := _, after := _, guard := _ }) rfl (fun K hK => ?_) AllReadyH.nil)
      go_simp
      obtain ⟨W7, hWW7⟩ : ∃ z, z = (World.alloc W6 (Obj.cells #[Value.int IntKind.i64 1, Value.int IntKind.i64 50, Value.int IntKind.i64 100, Value.int IntKind.i64 500] 2)).drew := ⟨_, rfl⟩
      obtain ⟨gl, hggl⟩ : ∃ z, z = (W6).heap.size := ⟨_, rfl⟩
      have HL : Hid (Blk W7 gl 2 #[Value.int IntKind.i64 1, Value.int IntKind.i64 50, Value.int IntKind.i64 100, Value.int IntKind.i64 500]) := Lib.hid (by rw [hWW7, hggl]; exact Blk.new W6 _ _)
      have hb : Below ((W6).drew).heap.size (W6).drew W7 := by rw [hWW7]; exact bl_alloc (Below.refl ((W6).drew).heap.size ((W6).drew)) _
      have hgl0 : gz ≤ gl := by rw [hggl]; exact HW.out
      have hgl1 : g < gl := by have h : g < (W6).heap.size := HS.out.lt; omega
      have hgl_HZ := Nat.ne_of_lt (hggl ▸ HZ.out.lt)
      have hgl_HX := Nat.ne_of_lt (hggl ▸ HX.out.lt)
      replace HS := Lib.hid (HS.out.below hb)
      replace HG := Lib.hid (grown_below HG.out hb)
      replace HO := Lib.hid (own_below HO.out hb)
      replace HZ := Lib.hid (HZ.out.below hb)
      replace HX := Lib.hid (HX.out.below hb)
      replace HW := Lib.hid (Nat.le_trans HW.out (hb).size)
      have hn_W7 : gl + 1 = W7.heap.size := by rw [hWW7, hggl]; exact (World.size_alloc W6 _).symm
      rw [← hWW7, ← hggl]
      clear hWW7 hggl hb

      refine hK.out _ _ (HX.out) (fun _ => ?_)
      clear hK K
      try simp only [Act.put, List.setIfInBounds_toArray, List.set_cons_zero, List.set_cons_succ]
      refine wpAnyH_ready (rs := [4]) (by kernel_rfl) (by simp) ?_
      refine (AllReadyH.cons (o := { dst := some 31, op := _, type := _, pos := _, after := _, guard := _ }) rfl (fun K hK => ?_) AllReadyH.nil)
      go_simp
      have hA : Arr W7 (some ⟨gl, 0, none⟩) (flat icell [1, 50, 100, 500]) := arr_of_blkM HL.out
      refine (among_c g _ _ [1, 50, 100, 500] 4 4 (Lib.hid rfl) (by omega) (by omega) (by omega) _ HS.out hA (fun ad e => by injection e with e; subst e; simp only; omega)).mono ?_
      rintro e W8 ⟨v, hv, rfl, hS, hg⟩
      replace HS := Lib.hid hS
      replace HG := Lib.hid (grown_trans HG.out hg)
      replace HO := Lib.hid (HO.out.kept hg (.inr (fun e => by have := own_at HO.out g e; omega)))
      replace HZ := Lib.hid (HZ.out.grown hg (by intro e; injection e; omega))
      replace HX := Lib.hid (HX.out.grown hg (by intro e; injection e; omega))
      replace HL := Lib.hid (HL.out.grown hg (by intro e; injection e; omega))
      replace HW := Lib.hid (Nat.le_trans HW.out hg.size)
      clear hS hg
      clear hv hA
      clear HL
      go_wp2_with fail

      refine hK.out _ _ (HX.out) (fun _ => ?_)
      clear hK K
      try simp only [Act.put, List.setIfInBounds_toArray, List.set_cons_zero, List.set_cons_succ]
      refine wpAnyH_ready (rs := [5]) (by kernel_rfl) (by simp) ?_
      refine (AllReadyH.cons (o := { dst := none, op := _, type := _, pos := _, after := _, guard := _ }) rfl (fun K hK => ?_) AllReadyH.nil)
      have z0 : World.cell? (W8) ⟨gz, 0, none⟩ = some (Value.slice none 0 0) := HZ.out.cell 0
      have f0 := HZ.out.frozen 0
      have z1 : World.cell? (W8) ⟨gz, 1, none⟩ = some (Value.int IntKind.i64 0) := HZ.out.cell 1
      have f1 := HZ.out.frozen 1
      have z2 : World.cell? (W8) ⟨gz, 2, none⟩ = some (Value.int IntKind.i64 0) := HZ.out.cell 2
      have f2 := HZ.out.frozen 2
      have z3 : World.cell? (W8) ⟨gz, 3, none⟩ = some (Value.int IntKind.i64 0) := HZ.out.cell 3
      have f3 := HZ.out.frozen 3
      go_simp
      clear z0 z1 z2 z3 f0 f1 f2 f3 HS
      obtain ⟨W10, hW⟩ : ∃ z, z = (World.setCell (World.setCell (World.setCell (World.setCell W8 ⟨gz, 0, none⟩ (Value.slice (some ⟨ga, 0, none⟩) n c)) ⟨gz, 1, none⟩ (Value.int IntKind.i64 o)) ⟨gz, 2, none⟩ (Value.int IntKind.i64 t)) ⟨gz, 3, none⟩ (Value.int IntKind.i64 p)) := ⟨_, rfl⟩
      replace HZ := Lib.hid (((((HZ.out).set_ 0 (Value.slice (some ⟨ga, 0, none⟩) n c)).set_ 1 (Value.int IntKind.i64 o)).set_ 2 (Value.int IntKind.i64 t)).set_ 3 (Value.int IntKind.i64 p))
      replace HG := Lib.hid (grown_setCell (p := ⟨gz, 3, none⟩) (grown_setCell (p := ⟨gz, 2, none⟩) (grown_setCell (p := ⟨gz, 1, none⟩) (grown_setCell (p := ⟨gz, 0, none⟩) (HG.out) (.inr (by simp only; omega)) (Value.slice (some ⟨ga, 0, none⟩) n c)) (.inr (by simp only; omega)) (Value.int IntKind.i64 o)) (.inr (by simp only; omega)) (Value.int IntKind.i64 t)) (.inr (by simp only; omega)) (Value.int IntKind.i64 p))
      replace HO := Lib.hid (own_far (own_far (own_far (own_far (HO.out) (p := ⟨gz, 0, none⟩) (fun k e => by have : ga = k := (by simpa [Value.ownBlock] using e); simp only; omega) (Value.slice (some ⟨ga, 0, none⟩) n c)) (p := ⟨gz, 1, none⟩) (fun k e => by have : ga = k := (by simpa [Value.ownBlock] using e); simp only; omega) (Value.int IntKind.i64 o)) (p := ⟨gz, 2, none⟩) (fun k e => by have : ga = k := (by simpa [Value.ownBlock] using e); simp only; omega) (Value.int IntKind.i64 t)) (p := ⟨gz, 3, none⟩) (fun k e => by have : ga = k := (by simpa [Value.ownBlock] using e); simp only; omega) (Value.int IntKind.i64 p))
      replace HX := Lib.hid (((((HX.out).far (p := ⟨gz, 0, none⟩) (by simp only; omega) (Value.slice (some ⟨ga, 0, none⟩) n c)).far (p := ⟨gz, 1, none⟩) (by simp only; omega) (Value.int IntKind.i64 o)).far (p := ⟨gz, 2, none⟩) (by simp only; omega) (Value.int IntKind.i64 t)).far (p := ⟨gz, 3, none⟩) (by simp only; omega) (Value.int IntKind.i64 p))
      replace HW := Lib.hid (show gz ≤ ((World.setCell (World.setCell (World.setCell (World.setCell W8 ⟨gz, 0, none⟩ (Value.slice (some ⟨ga, 0, none⟩) n c)) ⟨gz, 1, none⟩ (Value.int IntKind.i64 o)) ⟨gz, 2, none⟩ (Value.int IntKind.i64 t)) ⟨gz, 3, none⟩ (Value.int IntKind.i64 p))).heap.size by simp only [World.size_setCell]; exact HW.out)
      rw [← hW] at HG HW HO HZ HX ⊢
      clear hW
      replace HZ : Hid (Blk W10 gz 26 #[Value.slice (some ⟨ga, 0, none⟩) n c, Value.int IntKind.i64 o, Value.int IntKind.i64 t, Value.int IntKind.i64 p]) := HZ

      refine hK.out _ _ (HX.out) (fun _ => ?_)
      clear hK K
      try simp only [Act.put]
      refine wpAnyH_ready (rs := [6]) (by kernel_rfl) (by simp) ?_
      refine (AllReadyH.cons (o := { dst := some 3, op := _, type := _, pos := _, after := _, guard := _ }) rfl (fun K hK => ?_) AllReadyH.nil)
      go_simp
      refine hK.out _ _ (HX.out) (fun _ => ?_)
      clear hK K
      try simp only [Act.put, List.setIfInBounds_toArray, List.set_cons_zero, List.set_cons_succ]
      refine wpAnyH_ready (rs := [7]) (by kernel_rfl) (by simp) ?_
      refine (AllReadyH.cons (o := { dst := some 4, op := _, type := _, pos := _, after := _, guard := _ }) rfl (fun K hK => ?_) AllReadyH.nil)
      go_simp
      refine hK.out _ _ (HX.out) (fun _ => ?_)
      clear hK K
      try simp only [Act.put, List.setIfInBounds_toArray, List.set_cons_zero, List.set_cons_succ]
      refine wpAnyH_done (by kernel_rfl) ?_ _
      have m0 : W10.cell? ⟨gz, 0, none⟩ = some (Value.slice (some ⟨ga, 0, none⟩) n c) := HZ.out.cell 0
      have m1 : W10.cell? ⟨gz, 1, none⟩ = some (Value.int IntKind.i64 o) := HZ.out.cell 1
      have m2 : W10.cell? ⟨gz, 2, none⟩ = some (Value.int IntKind.i64 t) := HZ.out.cell 2
      have m3 : W10.cell? ⟨gz, 3, none⟩ = some (Value.int IntKind.i64 p) := HZ.out.cell 3
      go_wp2_with fail
      try simp only [Exit.inBlock, Exit.then]
      refine bodyPost_ret (v := .tuple #[.agg #[Value.slice (some ⟨ga, 0, none⟩) n c, Value.int IntKind.i64 o, Value.int IntKind.i64 t, Value.int IntKind.i64 p], .int .i64 (5 * r), .int .i64 (v)]) (by simp [results, Tryd.results7, go_sem, m0, m1, m2, m3]) rfl ?_
      exact ⟨ga, xs, n, c, o, t, p, _, _, rfl, HXL.out, hn5, HXS.out, own_base HO.out (by omega), bl_grown (Below.refl _ _) HG.out (fun k e => by injection e with e; omega)⟩
    · skip
      go_wp2_with fail
      refine wp_region_held_drew (S := fun w' => Blk w' gx 26 #[Value.slice (some ⟨ga, 0, none⟩) n c, Value.int IntKind.i64 o, Value.int IntKind.i64 t, Value.int IntKind.i64 p]) (by kernel_rfl) ?_ (fun _ => ?_)
      · exact (HX.out).below (Below.refl (W6).heap.size (W6)).drew
      replace HS := Lib.hid (HS.out.below (Below.refl (W6).heap.size (W6)).drew)
      replace HG := Lib.hid (grown_below HG.out (Below.refl (W6).heap.size (W6)).drew)
      replace HO := Lib.hid (own_below HO.out (Below.refl (W6).heap.size (W6)).drew)
      replace HZ := Lib.hid (HZ.out.below (Below.refl (W6).heap.size (W6)).drew)
      replace HX := Lib.hid (HX.out.below (Below.refl (W6).heap.size (W6)).drew)
      replace HW := Lib.hid (Nat.le_trans HW.out ((Below.refl (W6).heap.size (W6)).drew).size)
      refine wpAnyH_take (i := 0) (oi := { dst := some 22, op := _, type := _, pos := _, after := _, guard := _ }) (v := ?_) rfl (by kernel_rfl) (by kernel_rfl) (by kernel_rfl) (fun _ _ _ h => h) (Or.inl ⟨by kernel_rfl, ?_⟩) (HX.out) ?_
      rotate_left
      · intro w hSw
        try dsimp only at hSw
        have k0 : w.cell? ⟨gx, 0, none⟩ = some (Value.slice (some ⟨ga, 0, none⟩) n c) := hSw.cell 0
        have k1 : w.cell? ⟨gx, 1, none⟩ = some (Value.int IntKind.i64 o) := hSw.cell 1
        have k2 : w.cell? ⟨gx, 2, none⟩ = some (Value.int IntKind.i64 t) := hSw.cell 2
        have k3 : w.cell? ⟨gx, 3, none⟩ = some (Value.int IntKind.i64 p) := hSw.cell 3
        go_simp
        try with_reducible rfl
      try simp only [Act.put, List.setIfInBounds_toArray, List.set_cons_zero, List.set_cons_succ]
      refine wpAnyH_take (i := 1) (oi := { dst := some 23, op := _, type := _, pos := _, after := _, guard := _ }) (v := ?_) rfl (by kernel_rfl) (by kernel_rfl) (by kernel_rfl) (fun _ _ _ h => h) (Or.inl ⟨by kernel_rfl, ?_⟩) (HX.out) ?_
      rotate_left
      · intro w hSw
        try dsimp only at hSw
        go_simp
        try with_reducible rfl
      try simp only [Act.put, List.setIfInBounds_toArray, List.set_cons_zero, List.set_cons_succ]
      refine wpAnyH_take (i := 2) (oi := { dst := some 24, op := _, type := _, pos := _, after := _, guard := _ }) (v := ?_) rfl (by kernel_rfl) (by kernel_rfl) (by kernel_rfl) (fun _ _ _ h => h) (Or.inl ⟨by kernel_rfl, ?_⟩) (HX.out) ?_
      rotate_left
      · intro w hSw
        try dsimp only at hSw
        go_simp
        try with_reducible rfl
      try simp only [Act.put, List.setIfInBounds_toArray, List.set_cons_zero, List.set_cons_succ]
      refine wpAnyH_ready (rs := [3]) (by kernel_rfl) (by simp) ?_
      refine (AllReadyH.cons (o := { dst := some 25, op := _, type := _, pos := _, after := _, guard := _ }) rfl (fun K hK => ?_) AllReadyH.nil)
      go_simp
      obtain ⟨W7, hWW7⟩ : ∃ z, z = (World.alloc W6 (Obj.cells #[Value.int IntKind.i64 (-1), Value.int IntKind.i64 0, Value.int IntKind.i64 1, Value.int IntKind.i64 100000, Value.int IntKind.i64 100001] 2)).drew := ⟨_, rfl⟩
      obtain ⟨gl, hggl⟩ : ∃ z, z = (W6).heap.size := ⟨_, rfl⟩
      have HL : Hid (Blk W7 gl 2 #[Value.int IntKind.i64 (-1), Value.int IntKind.i64 0, Value.int IntKind.i64 1, Value.int IntKind.i64 100000, Value.int IntKind.i64 100001]) := Lib.hid (by rw [hWW7, hggl]; exact Blk.new W6 _ _)
      have hb : Below ((W6).drew).heap.size (W6).drew W7 := by rw [hWW7]; exact bl_alloc (Below.refl ((W6).drew).heap.size ((W6).drew)) _
      have hgl0 : gz ≤ gl := by rw [hggl]; exact HW.out
      have hgl1 : g < gl := by have h : g < (W6).heap.size := HS.out.lt; omega
      have hgl_HZ := Nat.ne_of_lt (hggl ▸ HZ.out.lt)
      have hgl_HX := Nat.ne_of_lt (hggl ▸ HX.out.lt)
      replace HS := Lib.hid (HS.out.below hb)
      replace HG := Lib.hid (grown_below HG.out hb)
      replace HO := Lib.hid (own_below HO.out hb)
      replace HZ := Lib.hid (HZ.out.below hb)
      replace HX := Lib.hid (HX.out.below hb)
      replace HW := Lib.hid (Nat.le_trans HW.out (hb).size)
      have hn_W7 : gl + 1 = W7.heap.size := by rw [hWW7, hggl]; exact (World.size_alloc W6 _).symm
      rw [← hWW7, ← hggl]
      clear hWW7 hggl hb

      refine hK.out _ _ (HX.out) (fun _ => ?_)
      clear hK K
      try simp only [Act.put, List.setIfInBounds_toArray, List.set_cons_zero, List.set_cons_succ]
      refine wpAnyH_ready (rs := [4]) (by kernel_rfl) (by simp) ?_
      refine (AllReadyH.cons (o := { dst := some 26, op := _, type := _, pos := _, after := _, guard := _ }) rfl (fun K hK => ?_) AllReadyH.nil)
      go_simp
      have hA : Arr W7 (some ⟨gl, 0, none⟩) (flat icell [-1, 0, 1, 100000, 100001]) := arr_of_blkM HL.out
      refine (among_c g _ _ [-1, 0, 1, 100000, 100001] 5 5 (Lib.hid rfl) (by omega) (by omega) (by omega) _ HS.out hA (fun ad e => by injection e with e; subst e; simp only; omega)).mono ?_
      rintro e W8 ⟨v, hv, rfl, hS, hg⟩
      replace HS := Lib.hid hS
      replace HG := Lib.hid (grown_trans HG.out hg)
      replace HO := Lib.hid (HO.out.kept hg (.inr (fun e => by have := own_at HO.out g e; omega)))
      replace HZ := Lib.hid (HZ.out.grown hg (by intro e; injection e; omega))
      replace HX := Lib.hid (HX.out.grown hg (by intro e; injection e; omega))
      replace HL := Lib.hid (HL.out.grown hg (by intro e; injection e; omega))
      replace HW := Lib.hid (Nat.le_trans HW.out hg.size)
      clear hS hg
      clear hv hA
      clear HL
      go_wp2_with fail

      refine hK.out _ _ (HX.out) (fun _ => ?_)
      clear hK K
      try simp only [Act.put, List.setIfInBounds_toArray, List.set_cons_zero, List.set_cons_succ]
      refine wpAnyH_ready (rs := [5]) (by kernel_rfl) (by simp) ?_
      refine (AllReadyH.cons (o := { dst := none, op := _, type := _, pos := _, after := _, guard := _ }) rfl (fun K hK => ?_) AllReadyH.nil)
      have z0 : World.cell? (W8) ⟨gz, 0, none⟩ = some (Value.slice none 0 0) := HZ.out.cell 0
      have f0 := HZ.out.frozen 0
      have z1 : World.cell? (W8) ⟨gz, 1, none⟩ = some (Value.int IntKind.i64 0) := HZ.out.cell 1
      have f1 := HZ.out.frozen 1
      have z2 : World.cell? (W8) ⟨gz, 2, none⟩ = some (Value.int IntKind.i64 0) := HZ.out.cell 2
      have f2 := HZ.out.frozen 2
      have z3 : World.cell? (W8) ⟨gz, 3, none⟩ = some (Value.int IntKind.i64 0) := HZ.out.cell 3
      have f3 := HZ.out.frozen 3
      go_simp
      clear z0 z1 z2 z3 f0 f1 f2 f3 HS
      obtain ⟨W10, hW⟩ : ∃ z, z = (World.setCell (World.setCell (World.setCell (World.setCell W8 ⟨gz, 0, none⟩ (Value.slice (some ⟨ga, 0, none⟩) n c)) ⟨gz, 1, none⟩ (Value.int IntKind.i64 o)) ⟨gz, 2, none⟩ (Value.int IntKind.i64 t)) ⟨gz, 3, none⟩ (Value.int IntKind.i64 p)) := ⟨_, rfl⟩
      replace HZ := Lib.hid (((((HZ.out).set_ 0 (Value.slice (some ⟨ga, 0, none⟩) n c)).set_ 1 (Value.int IntKind.i64 o)).set_ 2 (Value.int IntKind.i64 t)).set_ 3 (Value.int IntKind.i64 p))
      replace HG := Lib.hid (grown_setCell (p := ⟨gz, 3, none⟩) (grown_setCell (p := ⟨gz, 2, none⟩) (grown_setCell (p := ⟨gz, 1, none⟩) (grown_setCell (p := ⟨gz, 0, none⟩) (HG.out) (.inr (by simp only; omega)) (Value.slice (some ⟨ga, 0, none⟩) n c)) (.inr (by simp only; omega)) (Value.int IntKind.i64 o)) (.inr (by simp only; omega)) (Value.int IntKind.i64 t)) (.inr (by simp only; omega)) (Value.int IntKind.i64 p))
      replace HO := Lib.hid (own_far (own_far (own_far (own_far (HO.out) (p := ⟨gz, 0, none⟩) (fun k e => by have : ga = k := (by simpa [Value.ownBlock] using e); simp only; omega) (Value.slice (some ⟨ga, 0, none⟩) n c)) (p := ⟨gz, 1, none⟩) (fun k e => by have : ga = k := (by simpa [Value.ownBlock] using e); simp only; omega) (Value.int IntKind.i64 o)) (p := ⟨gz, 2, none⟩) (fun k e => by have : ga = k := (by simpa [Value.ownBlock] using e); simp only; omega) (Value.int IntKind.i64 t)) (p := ⟨gz, 3, none⟩) (fun k e => by have : ga = k := (by simpa [Value.ownBlock] using e); simp only; omega) (Value.int IntKind.i64 p))
      replace HX := Lib.hid (((((HX.out).far (p := ⟨gz, 0, none⟩) (by simp only; omega) (Value.slice (some ⟨ga, 0, none⟩) n c)).far (p := ⟨gz, 1, none⟩) (by simp only; omega) (Value.int IntKind.i64 o)).far (p := ⟨gz, 2, none⟩) (by simp only; omega) (Value.int IntKind.i64 t)).far (p := ⟨gz, 3, none⟩) (by simp only; omega) (Value.int IntKind.i64 p))
      replace HW := Lib.hid (show gz ≤ ((World.setCell (World.setCell (World.setCell (World.setCell W8 ⟨gz, 0, none⟩ (Value.slice (some ⟨ga, 0, none⟩) n c)) ⟨gz, 1, none⟩ (Value.int IntKind.i64 o)) ⟨gz, 2, none⟩ (Value.int IntKind.i64 t)) ⟨gz, 3, none⟩ (Value.int IntKind.i64 p))).heap.size by simp only [World.size_setCell]; exact HW.out)
      rw [← hW] at HG HW HO HZ HX ⊢
      clear hW
      replace HZ : Hid (Blk W10 gz 26 #[Value.slice (some ⟨ga, 0, none⟩) n c, Value.int IntKind.i64 o, Value.int IntKind.i64 t, Value.int IntKind.i64 p]) := HZ

      refine hK.out _ _ (HX.out) (fun _ => ?_)
      clear hK K
      try simp only [Act.put]
      refine wpAnyH_ready (rs := [6]) (by kernel_rfl) (by simp) ?_
      refine (AllReadyH.cons (o := { dst := some 3, op := _, type := _, pos := _, after := _, guard := _ }) rfl (fun K hK => ?_) AllReadyH.nil)
      go_simp
      refine hK.out _ _ (HX.out) (fun _ => ?_)
      clear hK K
      try simp only [Act.put, List.setIfInBounds_toArray, List.set_cons_zero, List.set_cons_succ]
      refine wpAnyH_ready (rs := [7]) (by kernel_rfl) (by simp) ?_
      refine (AllReadyH.cons (o := { dst := some 4, op := _, type := _, pos := _, after := _, guard := _ }) rfl (fun K hK => ?_) AllReadyH.nil)
      go_simp
      refine hK.out _ _ (HX.out) (fun _ => ?_)
      clear hK K
      try simp only [Act.put, List.setIfInBounds_toArray, List.set_cons_zero, List.set_cons_succ]
      refine wpAnyH_done (by kernel_rfl) ?_ _
      have m0 : W10.cell? ⟨gz, 0, none⟩ = some (Value.slice (some ⟨ga, 0, none⟩) n c) := HZ.out.cell 0
      have m1 : W10.cell? ⟨gz, 1, none⟩ = some (Value.int IntKind.i64 o) := HZ.out.cell 1
      have m2 : W10.cell? ⟨gz, 2, none⟩ = some (Value.int IntKind.i64 t) := HZ.out.cell 2
      have m3 : W10.cell? ⟨gz, 3, none⟩ = some (Value.int IntKind.i64 p) := HZ.out.cell 3
      go_wp2_with fail
      try simp only [Exit.inBlock, Exit.then]
      refine bodyPost_ret (v := .tuple #[.agg #[Value.slice (some ⟨ga, 0, none⟩) n c, Value.int IntKind.i64 o, Value.int IntKind.i64 t, Value.int IntKind.i64 p], .int .i64 (5 * r), .int .i64 (v)]) (by simp [results, Tryd.results7, go_sem, m0, m1, m2, m3]) rfl ?_
      exact ⟨ga, xs, n, c, o, t, p, _, _, rfl, HXL.out, hn5, HXS.out, own_base HO.out (by omega), bl_grown (Below.refl _ _) HG.out (fun k e => by injection e with e; omega)⟩
  · skip
    go_wp2_with fail
    have hA := arr_new W5 2 #[.int .i64 (-1), .int .i64 0, .int .i64 100, .int .i64 101]
    have hgA := HS.out.lt
    replace HS := Lib.hid (HS.out.below (bl_alloc (Below.refl _ _) (.cells #[.int .i64 (-1), .int .i64 0, .int .i64 100, .int .i64 101] 2)))
    replace HG := Lib.hid (grown_alloc HG.out (.cells #[.int .i64 (-1), .int .i64 0, .int .i64 100, .int .i64 101] 2))
    replace HO := Lib.hid (HO.out.alloc (.cells #[.int .i64 (-1), .int .i64 0, .int .i64 100, .int .i64 101] 2))
    replace HZ := Lib.hid (HZ.out.alloc (.cells #[.int .i64 (-1), .int .i64 0, .int .i64 100, .int .i64 101] 2))
    replace HX := Lib.hid (HX.out.alloc (.cells #[.int .i64 (-1), .int .i64 0, .int .i64 100, .int .i64 101] 2))
    replace HW := Lib.hid (show gz ≤ (World.alloc W5 (.cells #[.int .i64 (-1), .int .i64 0, .int .i64 100, .int .i64 101] 2)).heap.size by have := HW.out; rw [World.size_alloc]; omega)
    refine (among_c g _ _ [-1, 0, 100, 101] 4 4 (Lib.hid rfl) (by omega) (by omega) (by omega) _ HS.out hA (fun ad e => by injection e with e; subst e; simp only; omega)).mono ?_
    rintro e W55 ⟨u, hv, rfl, hS, hg⟩
    replace HS := Lib.hid hS
    replace HG := Lib.hid (grown_trans HG.out hg)
    replace HO := Lib.hid (HO.out.kept hg (.inr (fun e => by have := own_at HO.out g e; omega)))
    replace HZ := Lib.hid (HZ.out.grown hg (by intro e; injection e; omega))
    replace HX := Lib.hid (HX.out.grown hg (by intro e; injection e; omega))
    replace HW := Lib.hid (Nat.le_trans HW.out hg.size)
    clear hS hg
    clear hA hv hgA
    go_wp2_with fail
    refine (one_c g _ 10 (by omega) (by omega) _ HS.out).mono ?_
    rintro e W6 ⟨b2, rfl, hS, hg⟩
    replace HS := Lib.hid hS
    replace HG := Lib.hid (grown_trans HG.out hg)
    replace HO := Lib.hid (HO.out.kept hg (.inr (fun e => by have := own_at HO.out g e; omega)))
    replace HZ := Lib.hid (HZ.out.grown hg (by intro e; injection e; omega))
    replace HX := Lib.hid (HX.out.grown hg (by intro e; injection e; omega))
    replace HW := Lib.hid (Nat.le_trans HW.out hg.size)
    clear hS hg
    cases b2
    · skip
      go_wp2_with fail
      refine wp_region_held_drew (S := fun w' => Blk w' gx 26 #[Value.slice (some ⟨ga, 0, none⟩) n c, Value.int IntKind.i64 o, Value.int IntKind.i64 t, Value.int IntKind.i64 p]) (by kernel_rfl) ?_ (fun _ => ?_)
      · exact (HX.out).below (Below.refl (W6).heap.size (W6)).drew
      replace HS := Lib.hid (HS.out.below (Below.refl (W6).heap.size (W6)).drew)
      replace HG := Lib.hid (grown_below HG.out (Below.refl (W6).heap.size (W6)).drew)
      replace HO := Lib.hid (own_below HO.out (Below.refl (W6).heap.size (W6)).drew)
      replace HZ := Lib.hid (HZ.out.below (Below.refl (W6).heap.size (W6)).drew)
      replace HX := Lib.hid (HX.out.below (Below.refl (W6).heap.size (W6)).drew)
      replace HW := Lib.hid (Nat.le_trans HW.out ((Below.refl (W6).heap.size (W6)).drew).size)
      refine wpAnyH_take (i := 0) (oi := { dst := some 27, op := _, type := _, pos := _, after := _, guard := _ }) (v := ?_) rfl (by kernel_rfl) (by kernel_rfl) (by kernel_rfl) (fun _ _ _ h => h) (Or.inl ⟨by kernel_rfl, ?_⟩) (HX.out) ?_
      rotate_left
      · intro w hSw
        try dsimp only at hSw
        have k0 : w.cell? ⟨gx, 0, none⟩ = some (Value.slice (some ⟨ga, 0, none⟩) n c) := hSw.cell 0
        have k1 : w.cell? ⟨gx, 1, none⟩ = some (Value.int IntKind.i64 o) := hSw.cell 1
        have k2 : w.cell? ⟨gx, 2, none⟩ = some (Value.int IntKind.i64 t) := hSw.cell 2
        have k3 : w.cell? ⟨gx, 3, none⟩ = some (Value.int IntKind.i64 p) := hSw.cell 3
        go_simp
        try with_reducible rfl
      try simp only [Act.put, List.setIfInBounds_toArray, List.set_cons_zero, List.set_cons_succ]
      refine wpAnyH_take (i := 1) (oi := { dst := some 28, op := _, type := _, pos := _, after := _, guard := _ }) (v := ?_) rfl (by kernel_rfl) (by kernel_rfl) (by kernel_rfl) (fun _ _ _ h => h) (Or.inl ⟨by kernel_rfl, ?_⟩) (HX.out) ?_
      rotate_left
      · intro w hSw
        try dsimp only at hSw
        go_simp
        try with_reducible rfl
      try simp only [Act.put, List.setIfInBounds_toArray, List.set_cons_zero, List.set_cons_succ]
      refine wpAnyH_take (i := 2) (oi := { dst := some 29, op := _, type := _, pos := _, after := _, guard := _ }) (v := ?_) rfl (by kernel_rfl) (by kernel_rfl) (by kernel_rfl) (fun _ _ _ h => h) (Or.inl ⟨by kernel_rfl, ?_⟩) (HX.out) ?_
      rotate_left
      · intro w hSw
        try dsimp only at hSw
        go_simp
        try with_reducible rfl
      try simp only [Act.put, List.setIfInBounds_toArray, List.set_cons_zero, List.set_cons_succ]
      refine wpAnyH_ready (rs := [3]) (by kernel_rfl) (by simp) ?_
      refine (AllReadyH.cons (o := { dst := some 30, op := _, type := _, pos := _, after := _, guard := _ }) rfl (fun K hK => ?_) AllReadyH.nil)
      go_simp
      obtain ⟨W7, hWW7⟩ : ∃ z, z = (World.alloc W6 (Obj.cells #[Value.int IntKind.i64 1, Value.int IntKind.i64 50, Value.int IntKind.i64 100, Value.int IntKind.i64 500] 2)).drew := ⟨_, rfl⟩
      obtain ⟨gl, hggl⟩ : ∃ z, z = (W6).heap.size := ⟨_, rfl⟩
      have HL : Hid (Blk W7 gl 2 #[Value.int IntKind.i64 1, Value.int IntKind.i64 50, Value.int IntKind.i64 100, Value.int IntKind.i64 500]) := Lib.hid (by rw [hWW7, hggl]; exact Blk.new W6 _ _)
      have hb : Below ((W6).drew).heap.size (W6).drew W7 := by rw [hWW7]; exact bl_alloc (Below.refl ((W6).drew).heap.size ((W6).drew)) _
      have hgl0 : gz ≤ gl := by rw [hggl]; exact HW.out
      have hgl1 : g < gl := by have h : g < (W6).heap.size := HS.out.lt; omega
      have hgl_HZ := Nat.ne_of_lt (hggl ▸ HZ.out.lt)
      have hgl_HX := Nat.ne_of_lt (hggl ▸ HX.out.lt)
      replace HS := Lib.hid (HS.out.below hb)
      replace HG := Lib.hid (grown_below HG.out hb)
      replace HO := Lib.hid (own_below HO.out hb)
      replace HZ := Lib.hid (HZ.out.below hb)
      replace HX := Lib.hid (HX.out.below hb)
      replace HW := Lib.hid (Nat.le_trans HW.out (hb).size)
      have hn_W7 : gl + 1 = W7.heap.size := by rw [hWW7, hggl]; exact (World.size_alloc W6 _).symm
      rw [← hWW7, ← hggl]
      clear hWW7 hggl hb

      refine hK.out _ _ (HX.out) (fun _ => ?_)
      clear hK K
      try simp only [Act.put, List.setIfInBounds_toArray, List.set_cons_zero, List.set_cons_succ]
      refine wpAnyH_ready (rs := [4]) (by kernel_rfl) (by simp) ?_
      refine (AllReadyH.cons (o := { dst := some 31, op := _, type := _, pos := _, after := _, guard := _ }) rfl (fun K hK => ?_) AllReadyH.nil)
      go_simp
      have hA : Arr W7 (some ⟨gl, 0, none⟩) (flat icell [1, 50, 100, 500]) := arr_of_blkM HL.out
      refine (among_c g _ _ [1, 50, 100, 500] 4 4 (Lib.hid rfl) (by omega) (by omega) (by omega) _ HS.out hA (fun ad e => by injection e with e; subst e; simp only; omega)).mono ?_
      rintro e W8 ⟨v, hv, rfl, hS, hg⟩
      replace HS := Lib.hid hS
      replace HG := Lib.hid (grown_trans HG.out hg)
      replace HO := Lib.hid (HO.out.kept hg (.inr (fun e => by have := own_at HO.out g e; omega)))
      replace HZ := Lib.hid (HZ.out.grown hg (by intro e; injection e; omega))
      replace HX := Lib.hid (HX.out.grown hg (by intro e; injection e; omega))
      replace HL := Lib.hid (HL.out.grown hg (by intro e; injection e; omega))
      replace HW := Lib.hid (Nat.le_trans HW.out hg.size)
      clear hS hg
      clear hv hA
      clear HL
      go_wp2_with fail

      refine hK.out _ _ (HX.out) (fun _ => ?_)
      clear hK K
      try simp only [Act.put, List.setIfInBounds_toArray, List.set_cons_zero, List.set_cons_succ]
      refine wpAnyH_ready (rs := [5]) (by kernel_rfl) (by simp) ?_
      refine (AllReadyH.cons (o := { dst := none, op := _, type := _, pos := _, after := _, guard := _ }) rfl (fun K hK => ?_) AllReadyH.nil)
      have z0 : World.cell? (W8) ⟨gz, 0, none⟩ = some (Value.slice none 0 0) := HZ.out.cell 0
      have f0 := HZ.out.frozen 0
      have z1 : World.cell? (W8) ⟨gz, 1, none⟩ = some (Value.int IntKind.i64 0) := HZ.out.cell 1
      have f1 := HZ.out.frozen 1
      have z2 : World.cell? (W8) ⟨gz, 2, none⟩ = some (Value.int IntKind.i64 0) := HZ.out.cell 2
      have f2 := HZ.out.frozen 2
      have z3 : World.cell? (W8) ⟨gz, 3, none⟩ = some (Value.int IntKind.i64 0) := HZ.out.cell 3
      have f3 := HZ.out.frozen 3
      go_simp
      clear z0 z1 z2 z3 f0 f1 f2 f3 HS
      obtain ⟨W10, hW⟩ : ∃ z, z = (World.setCell (World.setCell (World.setCell (World.setCell W8 ⟨gz, 0, none⟩ (Value.slice (some ⟨ga, 0, none⟩) n c)) ⟨gz, 1, none⟩ (Value.int IntKind.i64 o)) ⟨gz, 2, none⟩ (Value.int IntKind.i64 t)) ⟨gz, 3, none⟩ (Value.int IntKind.i64 p)) := ⟨_, rfl⟩
      replace HZ := Lib.hid (((((HZ.out).set_ 0 (Value.slice (some ⟨ga, 0, none⟩) n c)).set_ 1 (Value.int IntKind.i64 o)).set_ 2 (Value.int IntKind.i64 t)).set_ 3 (Value.int IntKind.i64 p))
      replace HG := Lib.hid (grown_setCell (p := ⟨gz, 3, none⟩) (grown_setCell (p := ⟨gz, 2, none⟩) (grown_setCell (p := ⟨gz, 1, none⟩) (grown_setCell (p := ⟨gz, 0, none⟩) (HG.out) (.inr (by simp only; omega)) (Value.slice (some ⟨ga, 0, none⟩) n c)) (.inr (by simp only; omega)) (Value.int IntKind.i64 o)) (.inr (by simp only; omega)) (Value.int IntKind.i64 t)) (.inr (by simp only; omega)) (Value.int IntKind.i64 p))
      replace HO := Lib.hid (own_far (own_far (own_far (own_far (HO.out) (p := ⟨gz, 0, none⟩) (fun k e => by have : ga = k := (by simpa [Value.ownBlock] using e); simp only; omega) (Value.slice (some ⟨ga, 0, none⟩) n c)) (p := ⟨gz, 1, none⟩) (fun k e => by have : ga = k := (by simpa [Value.ownBlock] using e); simp only; omega) (Value.int IntKind.i64 o)) (p := ⟨gz, 2, none⟩) (fun k e => by have : ga = k := (by simpa [Value.ownBlock] using e); simp only; omega) (Value.int IntKind.i64 t)) (p := ⟨gz, 3, none⟩) (fun k e => by have : ga = k := (by simpa [Value.ownBlock] using e); simp only; omega) (Value.int IntKind.i64 p))
      replace HX := Lib.hid (((((HX.out).far (p := ⟨gz, 0, none⟩) (by simp only; omega) (Value.slice (some ⟨ga, 0, none⟩) n c)).far (p := ⟨gz, 1, none⟩) (by simp only; omega) (Value.int IntKind.i64 o)).far (p := ⟨gz, 2, none⟩) (by simp only; omega) (Value.int IntKind.i64 t)).far (p := ⟨gz, 3, none⟩) (by simp only; omega) (Value.int IntKind.i64 p))
      replace HW := Lib.hid (show gz ≤ ((World.setCell (World.setCell (World.setCell (World.setCell W8 ⟨gz, 0, none⟩ (Value.slice (some ⟨ga, 0, none⟩) n c)) ⟨gz, 1, none⟩ (Value.int IntKind.i64 o)) ⟨gz, 2, none⟩ (Value.int IntKind.i64 t)) ⟨gz, 3, none⟩ (Value.int IntKind.i64 p))).heap.size by simp only [World.size_setCell]; exact HW.out)
      rw [← hW] at HG HW HO HZ HX ⊢
      clear hW
      replace HZ : Hid (Blk W10 gz 26 #[Value.slice (some ⟨ga, 0, none⟩) n c, Value.int IntKind.i64 o, Value.int IntKind.i64 t, Value.int IntKind.i64 p]) := HZ

      refine hK.out _ _ (HX.out) (fun _ => ?_)
      clear hK K
      try simp only [Act.put]
      refine wpAnyH_ready (rs := [6]) (by kernel_rfl) (by simp) ?_
      refine (AllReadyH.cons (o := { dst := some 3, op := _, type := _, pos := _, after := _, guard := _ }) rfl (fun K hK => ?_) AllReadyH.nil)
      go_simp
      refine hK.out _ _ (HX.out) (fun _ => ?_)
      clear hK K
      try simp only [Act.put, List.setIfInBounds_toArray, List.set_cons_zero, List.set_cons_succ]
      refine wpAnyH_ready (rs := [7]) (by kernel_rfl) (by simp) ?_
      refine (AllReadyH.cons (o := { dst := some 4, op := _, type := _, pos := _, after := _, guard := _ }) rfl (fun K hK => ?_) AllReadyH.nil)
      go_simp
      refine hK.out _ _ (HX.out) (fun _ => ?_)
      clear hK K
      try simp only [Act.put, List.setIfInBounds_toArray, List.set_cons_zero, List.set_cons_succ]
      refine wpAnyH_done (by kernel_rfl) ?_ _
      have m0 : W10.cell? ⟨gz, 0, none⟩ = some (Value.slice (some ⟨ga, 0, none⟩) n c) := HZ.out.cell 0
      have m1 : W10.cell? ⟨gz, 1, none⟩ = some (Value.int IntKind.i64 o) := HZ.out.cell 1
      have m2 : W10.cell? ⟨gz, 2, none⟩ = some (Value.int IntKind.i64 t) := HZ.out.cell 2
      have m3 : W10.cell? ⟨gz, 3, none⟩ = some (Value.int IntKind.i64 p) := HZ.out.cell 3
      go_wp2_with fail
      try simp only [Exit.inBlock, Exit.then]
      refine bodyPost_ret (v := .tuple #[.agg #[Value.slice (some ⟨ga, 0, none⟩) n c, Value.int IntKind.i64 o, Value.int IntKind.i64 t, Value.int IntKind.i64 p], .int .i64 (u), .int .i64 (v)]) (by simp [results, Tryd.results7, go_sem, m0, m1, m2, m3]) rfl ?_
      exact ⟨ga, xs, n, c, o, t, p, _, _, rfl, HXL.out, hn5, HXS.out, own_base HO.out (by omega), bl_grown (Below.refl _ _) HG.out (fun k e => by injection e with e; omega)⟩
    · skip
      go_wp2_with fail
      refine wp_region_held_drew (S := fun w' => Blk w' gx 26 #[Value.slice (some ⟨ga, 0, none⟩) n c, Value.int IntKind.i64 o, Value.int IntKind.i64 t, Value.int IntKind.i64 p]) (by kernel_rfl) ?_ (fun _ => ?_)
      · exact (HX.out).below (Below.refl (W6).heap.size (W6)).drew
      replace HS := Lib.hid (HS.out.below (Below.refl (W6).heap.size (W6)).drew)
      replace HG := Lib.hid (grown_below HG.out (Below.refl (W6).heap.size (W6)).drew)
      replace HO := Lib.hid (own_below HO.out (Below.refl (W6).heap.size (W6)).drew)
      replace HZ := Lib.hid (HZ.out.below (Below.refl (W6).heap.size (W6)).drew)
      replace HX := Lib.hid (HX.out.below (Below.refl (W6).heap.size (W6)).drew)
      replace HW := Lib.hid (Nat.le_trans HW.out ((Below.refl (W6).heap.size (W6)).drew).size)
      refine wpAnyH_take (i := 0) (oi := { dst := some 22, op := _, type := _, pos := _, after := _, guard := _ }) (v := ?_) rfl (by kernel_rfl) (by kernel_rfl) (by kernel_rfl) (fun _ _ _ h => h) (Or.inl ⟨by kernel_rfl, ?_⟩) (HX.out) ?_
      rotate_left
      · intro w hSw
        try dsimp only at hSw
        have k0 : w.cell? ⟨gx, 0, none⟩ = some (Value.slice (some ⟨ga, 0, none⟩) n c) := hSw.cell 0
        have k1 : w.cell? ⟨gx, 1, none⟩ = some (Value.int IntKind.i64 o) := hSw.cell 1
        have k2 : w.cell? ⟨gx, 2, none⟩ = some (Value.int IntKind.i64 t) := hSw.cell 2
        have k3 : w.cell? ⟨gx, 3, none⟩ = some (Value.int IntKind.i64 p) := hSw.cell 3
        go_simp
        try with_reducible rfl
      try simp only [Act.put, List.setIfInBounds_toArray, List.set_cons_zero, List.set_cons_succ]
      refine wpAnyH_take (i := 1) (oi := { dst := some 23, op := _, type := _, pos := _, after := _, guard := _ }) (v := ?_) rfl (by kernel_rfl) (by kernel_rfl) (by kernel_rfl) (fun _ _ _ h => h) (Or.inl ⟨by kernel_rfl, ?_⟩) (HX.out) ?_
      rotate_left
      · intro w hSw
        try dsimp only at hSw
        go_simp
        try with_reducible rfl
      try simp only [Act.put, List.setIfInBounds_toArray, List.set_cons_zero, List.set_cons_succ]
      refine wpAnyH_take (i := 2) (oi := { dst := some 24, op := _, type := _, pos := _, after := _, guard := _ }) (v := ?_) rfl (by kernel_rfl) (by kernel_rfl) (by kernel_rfl) (fun _ _ _ h => h) (Or.inl ⟨by kernel_rfl, ?_⟩) (HX.out) ?_
      rotate_left
      · intro w hSw
        try dsimp only at hSw
        go_simp
        try with_reducible rfl
      try simp only [Act.put, List.setIfInBounds_toArray, List.set_cons_zero, List.set_cons_succ]
      refine wpAnyH_ready (rs := [3]) (by kernel_rfl) (by simp) ?_
      refine (AllReadyH.cons (o := { dst := some 25, op := _, type := _, pos := _, after := _, guard := _ }) rfl (fun K hK => ?_) AllReadyH.nil)
      go_simp
      obtain ⟨W7, hWW7⟩ : ∃ z, z = (World.alloc W6 (Obj.cells #[Value.int IntKind.i64 (-1), Value.int IntKind.i64 0, Value.int IntKind.i64 1, Value.int IntKind.i64 100000, Value.int IntKind.i64 100001] 2)).drew := ⟨_, rfl⟩
      obtain ⟨gl, hggl⟩ : ∃ z, z = (W6).heap.size := ⟨_, rfl⟩
      have HL : Hid (Blk W7 gl 2 #[Value.int IntKind.i64 (-1), Value.int IntKind.i64 0, Value.int IntKind.i64 1, Value.int IntKind.i64 100000, Value.int IntKind.i64 100001]) := Lib.hid (by rw [hWW7, hggl]; exact Blk.new W6 _ _)
      have hb : Below ((W6).drew).heap.size (W6).drew W7 := by rw [hWW7]; exact bl_alloc (Below.refl ((W6).drew).heap.size ((W6).drew)) _
      have hgl0 : gz ≤ gl := by rw [hggl]; exact HW.out
      have hgl1 : g < gl := by have h : g < (W6).heap.size := HS.out.lt; omega
      have hgl_HZ := Nat.ne_of_lt (hggl ▸ HZ.out.lt)
      have hgl_HX := Nat.ne_of_lt (hggl ▸ HX.out.lt)
      replace HS := Lib.hid (HS.out.below hb)
      replace HG := Lib.hid (grown_below HG.out hb)
      replace HO := Lib.hid (own_below HO.out hb)
      replace HZ := Lib.hid (HZ.out.below hb)
      replace HX := Lib.hid (HX.out.below hb)
      replace HW := Lib.hid (Nat.le_trans HW.out (hb).size)
      have hn_W7 : gl + 1 = W7.heap.size := by rw [hWW7, hggl]; exact (World.size_alloc W6 _).symm
      rw [← hWW7, ← hggl]
      clear hWW7 hggl hb

      refine hK.out _ _ (HX.out) (fun _ => ?_)
      clear hK K
      try simp only [Act.put, List.setIfInBounds_toArray, List.set_cons_zero, List.set_cons_succ]
      refine wpAnyH_ready (rs := [4]) (by kernel_rfl) (by simp) ?_
      refine (AllReadyH.cons (o := { dst := some 26, op := _, type := _, pos := _, after := _, guard := _ }) rfl (fun K hK => ?_) AllReadyH.nil)
      go_simp
      have hA : Arr W7 (some ⟨gl, 0, none⟩) (flat icell [-1, 0, 1, 100000, 100001]) := arr_of_blkM HL.out
      refine (among_c g _ _ [-1, 0, 1, 100000, 100001] 5 5 (Lib.hid rfl) (by omega) (by omega) (by omega) _ HS.out hA (fun ad e => by injection e with e; subst e; simp only; omega)).mono ?_
      rintro e W8 ⟨v, hv, rfl, hS, hg⟩
      replace HS := Lib.hid hS
      replace HG := Lib.hid (grown_trans HG.out hg)
      replace HO := Lib.hid (HO.out.kept hg (.inr (fun e => by have := own_at HO.out g e; omega)))
      replace HZ := Lib.hid (HZ.out.grown hg (by intro e; injection e; omega))
      replace HX := Lib.hid (HX.out.grown hg (by intro e; injection e; omega))
      replace HL := Lib.hid (HL.out.grown hg (by intro e; injection e; omega))
      replace HW := Lib.hid (Nat.le_trans HW.out hg.size)
      clear hS hg
      clear hv hA
      clear HL
      go_wp2_with fail

      refine hK.out _ _ (HX.out) (fun _ => ?_)
      clear hK K
      try simp only [Act.put, List.setIfInBounds_toArray, List.set_cons_zero, List.set_cons_succ]
      refine wpAnyH_ready (rs := [5]) (by kernel_rfl) (by simp) ?_
      refine (AllReadyH.cons (o := { dst := none, op := _, type := _, pos := _, after := _, guard := _ }) rfl (fun K hK => ?_) AllReadyH.nil)
      have z0 : World.cell? (W8) ⟨gz, 0, none⟩ = some (Value.slice none 0 0) := HZ.out.cell 0
      have f0 := HZ.out.frozen 0
      have z1 : World.cell? (W8) ⟨gz, 1, none⟩ = some (Value.int IntKind.i64 0) := HZ.out.cell 1
      have f1 := HZ.out.frozen 1
      have z2 : World.cell? (W8) ⟨gz, 2, none⟩ = some (Value.int IntKind.i64 0) := HZ.out.cell 2
      have f2 := HZ.out.frozen 2
      have z3 : World.cell? (W8) ⟨gz, 3, none⟩ = some (Value.int IntKind.i64 0) := HZ.out.cell 3
      have f3 := HZ.out.frozen 3
      go_simp
      clear z0 z1 z2 z3 f0 f1 f2 f3 HS
      obtain ⟨W10, hW⟩ : ∃ z, z = (World.setCell (World.setCell (World.setCell (World.setCell W8 ⟨gz, 0, none⟩ (Value.slice (some ⟨ga, 0, none⟩) n c)) ⟨gz, 1, none⟩ (Value.int IntKind.i64 o)) ⟨gz, 2, none⟩ (Value.int IntKind.i64 t)) ⟨gz, 3, none⟩ (Value.int IntKind.i64 p)) := ⟨_, rfl⟩
      replace HZ := Lib.hid (((((HZ.out).set_ 0 (Value.slice (some ⟨ga, 0, none⟩) n c)).set_ 1 (Value.int IntKind.i64 o)).set_ 2 (Value.int IntKind.i64 t)).set_ 3 (Value.int IntKind.i64 p))
      replace HG := Lib.hid (grown_setCell (p := ⟨gz, 3, none⟩) (grown_setCell (p := ⟨gz, 2, none⟩) (grown_setCell (p := ⟨gz, 1, none⟩) (grown_setCell (p := ⟨gz, 0, none⟩) (HG.out) (.inr (by simp only; omega)) (Value.slice (some ⟨ga, 0, none⟩) n c)) (.inr (by simp only; omega)) (Value.int IntKind.i64 o)) (.inr (by simp only; omega)) (Value.int IntKind.i64 t)) (.inr (by simp only; omega)) (Value.int IntKind.i64 p))
      replace HO := Lib.hid (own_far (own_far (own_far (own_far (HO.out) (p := ⟨gz, 0, none⟩) (fun k e => by have : ga = k := (by simpa [Value.ownBlock] using e); simp only; omega) (Value.slice (some ⟨ga, 0, none⟩) n c)) (p := ⟨gz, 1, none⟩) (fun k e => by have : ga = k := (by simpa [Value.ownBlock] using e); simp only; omega) (Value.int IntKind.i64 o)) (p := ⟨gz, 2, none⟩) (fun k e => by have : ga = k := (by simpa [Value.ownBlock] using e); simp only; omega) (Value.int IntKind.i64 t)) (p := ⟨gz, 3, none⟩) (fun k e => by have : ga = k := (by simpa [Value.ownBlock] using e); simp only; omega) (Value.int IntKind.i64 p))
      replace HX := Lib.hid (((((HX.out).far (p := ⟨gz, 0, none⟩) (by simp only; omega) (Value.slice (some ⟨ga, 0, none⟩) n c)).far (p := ⟨gz, 1, none⟩) (by simp only; omega) (Value.int IntKind.i64 o)).far (p := ⟨gz, 2, none⟩) (by simp only; omega) (Value.int IntKind.i64 t)).far (p := ⟨gz, 3, none⟩) (by simp only; omega) (Value.int IntKind.i64 p))
      replace HW := Lib.hid (show gz ≤ ((World.setCell (World.setCell (World.setCell (World.setCell W8 ⟨gz, 0, none⟩ (Value.slice (some ⟨ga, 0, none⟩) n c)) ⟨gz, 1, none⟩ (Value.int IntKind.i64 o)) ⟨gz, 2, none⟩ (Value.int IntKind.i64 t)) ⟨gz, 3, none⟩ (Value.int IntKind.i64 p))).heap.size by simp only [World.size_setCell]; exact HW.out)
      rw [← hW] at HG HW HO HZ HX ⊢
      clear hW
      replace HZ : Hid (Blk W10 gz 26 #[Value.slice (some ⟨ga, 0, none⟩) n c, Value.int IntKind.i64 o, Value.int IntKind.i64 t, Value.int IntKind.i64 p]) := HZ

      refine hK.out _ _ (HX.out) (fun _ => ?_)
      clear hK K
      try simp only [Act.put]
      refine wpAnyH_ready (rs := [6]) (by kernel_rfl) (by simp) ?_
      refine (AllReadyH.cons (o := { dst := some 3, op := _, type := _, pos := _, after := _, guard := _ }) rfl (fun K hK => ?_) AllReadyH.nil)
      go_simp
      refine hK.out _ _ (HX.out) (fun _ => ?_)
      clear hK K
      try simp only [Act.put, List.setIfInBounds_toArray, List.set_cons_zero, List.set_cons_succ]
      refine wpAnyH_ready (rs := [7]) (by kernel_rfl) (by simp) ?_
      refine (AllReadyH.cons (o := { dst := some 4, op := _, type := _, pos := _, after := _, guard := _ }) rfl (fun K hK => ?_) AllReadyH.nil)
      go_simp
      refine hK.out _ _ (HX.out) (fun _ => ?_)
      clear hK K
      try simp only [Act.put, List.setIfInBounds_toArray, List.set_cons_zero, List.set_cons_succ]
      refine wpAnyH_done (by kernel_rfl) ?_ _
      have m0 : W10.cell? ⟨gz, 0, none⟩ = some (Value.slice (some ⟨ga, 0, none⟩) n c) := HZ.out.cell 0
      have m1 : W10.cell? ⟨gz, 1, none⟩ = some (Value.int IntKind.i64 o) := HZ.out.cell 1
      have m2 : W10.cell? ⟨gz, 2, none⟩ = some (Value.int IntKind.i64 t) := HZ.out.cell 2
      have m3 : W10.cell? ⟨gz, 3, none⟩ = some (Value.int IntKind.i64 p) := HZ.out.cell 3
      go_wp2_with fail
      try simp only [Exit.inBlock, Exit.then]
      refine bodyPost_ret (v := .tuple #[.agg #[Value.slice (some ⟨ga, 0, none⟩) n c, Value.int IntKind.i64 o, Value.int IntKind.i64 t, Value.int IntKind.i64 p], .int .i64 (u), .int .i64 (v)]) (by simp [results, Tryd.results7, go_sem, m0, m1, m2, m3]) rfl ?_
      exact ⟨ga, xs, n, c, o, t, p, _, _, rfl, HXL.out, hn5, HXS.out, own_base HO.out (by omega), bl_grown (Below.refl _ _) HG.out (fun k e => by injection e with e; omega)⟩
set_option maxRecDepth 100000 in
set_option maxHeartbeats 4000000 in
theorem DrawRefundFor_c (C : Option Addr) (nn cc : Nat) (cs : List UInt8) (hnn : Hid (cs.length = nn)) (hnb : nn ≤ 1048576) (w : World) (hA : Arr w C (cs.map bvS)) (hlt : ∀ ad, C = some ad → ad.block < w.heap.size) : Calls Tryd.prog 13 #[.slice C nn cc] w (OutB3 w) := by
  have HL0 := Lib.hid hlt
  have HA0 := Lib.hid hA
  clear hlt hA
  go_enter Tryd.func13, Tryd.ntmps13
  go_wp2_with fail
  obtain ⟨W0, hW0⟩ : ∃ z, z = w.alloc (Obj.cells #[Value.slice none 0 0, Value.int IntKind.i64 0, Value.int IntKind.i64 0, Value.int IntKind.i64 0] 26) := ⟨_, rfl⟩
  obtain ⟨gz, hgz⟩ : ∃ z, z = w.heap.size := ⟨_, rfl⟩
  have HZ : Hid (Blk W0 gz 26 #[Value.slice none 0 0, Value.int IntKind.i64 0, Value.int IntKind.i64 0, Value.int IntKind.i64 0]) := Lib.hid (by rw [hW0, hgz]; exact Blk.new _ _ _)
  have hb0 : Below w.heap.size w W0 := by rw [hW0]; exact bl_alloc (Below.refl _ _) _
  have hn0 : gz + 1 = W0.heap.size := by rw [hW0, hgz]; exact (World.size_alloc _ _).symm
  have HGZ := Lib.hid hgz
  have HB0 := Lib.hid hb0
  rw [← hW0, ← hgz]
  clear hW0 hgz
  refine (l00From_c C nn cc cs hnn hnb W0 (HA0.out.below hb0) (fun ad e => Nat.lt_of_lt_of_le (HL0.out ad e) hb0.size)).mono ?_
  rintro e W1 ⟨rfl, hS, hb1⟩
  obtain ⟨g, hg⟩ : ∃ z, z = W0.heap.size := ⟨_, rfl⟩
  rw [← hg] at hS ⊢
  have HS := Lib.hid hS
  have HG := Lib.hid (grown_below (grown_of_below hb0 (some g)) hb1)
  have HW : Hid (gz ≤ W1.heap.size) := Lib.hid (by have := hb1.size; omega)
  replace HZ := Lib.hid (HZ.out.below hb1)
  have hgg : gz < g := by omega
  have hgw : w.heap.size ≤ g := by have := HGZ.out; omega
  have hz0 : w.heap.size ≤ gz := by have := HGZ.out; omega
  clear hS hb1 HA0 HL0 hb0 hg hn0
  go_wp2_with fail

  have HS0 := HS
  refine (l26Bent_c g _ (by omega) _ HS.out).mono ?_
  rintro e W2 ⟨ga, xs, n, c, o, t, p, rfl, hxl, hn5, hxs, ho1, hS, hg⟩
  replace HS := Lib.hid hS
  replace HG := Lib.hid (grown_trans HG.out hg)
  replace HZ := Lib.hid (HZ.out.grown hg (by intro e; injection e; omega))
  replace HW := Lib.hid (Nat.le_trans HW.out hg.size)
  clear hS hg
  have HXL := Lib.hid hxl
  have HXS := Lib.hid hxs
  have hw1 : g < W1.heap.size := HS0.out.lt
  have hga := own_at ho1 ga rfl
  have hgag : g < ga := by omega
  have hgaW := own_lt ho1 ga rfl
  have HO := Lib.hid (own_base ho1 (base' := g + 1) (by omega))
  clear hxl hxs ho1 HS0 hga
  go_wp2_with fail
  obtain ⟨W3, hWW3⟩ : ∃ z, z = World.alloc W2 (Obj.cells #[Value.slice (some ⟨ga, 0, none⟩) n c, Value.int IntKind.i64 o, Value.int IntKind.i64 t, Value.int IntKind.i64 p] 26) := ⟨_, rfl⟩
  obtain ⟨gx, hggx⟩ : ∃ z, z = (W2).heap.size := ⟨_, rfl⟩
  have HX : Hid (Blk W3 gx 26 #[Value.slice (some ⟨ga, 0, none⟩) n c, Value.int IntKind.i64 o, Value.int IntKind.i64 t, Value.int IntKind.i64 p]) := Lib.hid (by rw [hWW3, hggx]; exact Blk.new _ _ _)
  have hb : Below (W2).heap.size W2 W3 := by rw [hWW3]; exact bl_alloc (Below.refl (W2).heap.size (W2)) _
  have hgx0 : gz ≤ gx := by rw [hggx]; exact HW.out
  have hgx1 : g < gx := by have h : g < (W2).heap.size := HS.out.lt; omega
  have hgx_HZ := Nat.ne_of_lt (hggx ▸ HZ.out.lt)
  replace HS := Lib.hid (HS.out.below hb)
  replace HG := Lib.hid (grown_below HG.out hb)
  replace HO := Lib.hid (own_below HO.out hb)
  replace HZ := Lib.hid (HZ.out.below hb)
  replace HW := Lib.hid (Nat.le_trans HW.out (hb).size)
  have hn_W3 : gx + 1 = W3.heap.size := by rw [hWW3, hggx]; exact (World.size_alloc _ _).symm
  rw [← hWW3, ← hggx]
  clear hWW3 hggx hb
  refine (pick_c g _ 30 (by omega) (by omega) _ HS.out).mono ?_
  rintro e W4 ⟨r, rfl, r0, r1, hS, hg⟩
  replace HS := Lib.hid hS
  replace HG := Lib.hid (grown_trans HG.out hg)
  replace HO := Lib.hid (HO.out.kept hg (.inr (fun e => by have := own_at HO.out g e; omega)))
  replace HZ := Lib.hid (HZ.out.grown hg (by intro e; injection e; omega))
  replace HX := Lib.hid (HX.out.grown hg (by intro e; injection e; omega))
  replace HW := Lib.hid (Nat.le_trans HW.out hg.size)
  clear hS hg
  go_wp2_with fail
  refine (one_c g _ 10 (by omega) (by omega) _ HS.out).mono ?_
  rintro e W5 ⟨bb, rfl, hS, hg⟩
  replace HS := Lib.hid hS
  replace HG := Lib.hid (grown_trans HG.out hg)
  replace HO := Lib.hid (HO.out.kept hg (.inr (fun e => by have := own_at HO.out g e; omega)))
  replace HZ := Lib.hid (HZ.out.grown hg (by intro e; injection e; omega))
  replace HX := Lib.hid (HX.out.grown hg (by intro e; injection e; omega))
  replace HW := Lib.hid (Nat.le_trans HW.out hg.size)
  clear hS hg
  cases bb
  · skip
    go_wp2_with fail
    refine (one_c g _ 10 (by omega) (by omega) _ HS.out).mono ?_
    rintro e W6 ⟨b2, rfl, hS, hg⟩
    replace HS := Lib.hid hS
    replace HG := Lib.hid (grown_trans HG.out hg)
    replace HO := Lib.hid (HO.out.kept hg (.inr (fun e => by have := own_at HO.out g e; omega)))
    replace HZ := Lib.hid (HZ.out.grown hg (by intro e; injection e; omega))
    replace HX := Lib.hid (HX.out.grown hg (by intro e; injection e; omega))
    replace HW := Lib.hid (Nat.le_trans HW.out hg.size)
    clear hS hg
    cases b2
    · skip
      go_wp2_with fail
      refine wp_region_held_drew (S := fun w' => Blk w' gx 26 #[Value.slice (some ⟨ga, 0, none⟩) n c, Value.int IntKind.i64 o, Value.int IntKind.i64 t, Value.int IntKind.i64 p]) (by kernel_rfl) ?_ (fun _ => ?_)
      · exact (HX.out).below (Below.refl (W6).heap.size (W6)).drew
      replace HS := Lib.hid (HS.out.below (Below.refl (W6).heap.size (W6)).drew)
      replace HG := Lib.hid (grown_below HG.out (Below.refl (W6).heap.size (W6)).drew)
      replace HO := Lib.hid (own_below HO.out (Below.refl (W6).heap.size (W6)).drew)
      replace HZ := Lib.hid (HZ.out.below (Below.refl (W6).heap.size (W6)).drew)
      replace HX := Lib.hid (HX.out.below (Below.refl (W6).heap.size (W6)).drew)
      replace HW := Lib.hid (Nat.le_trans HW.out ((Below.refl (W6).heap.size (W6)).drew).size)
      refine wpAnyH_take (i := 0) (oi := { dst := some 26, op := _, type := _, pos := _, after := _, guard := _ }) (v := ?_) rfl (by kernel_rfl) (by kernel_rfl) (by kernel_rfl) (fun _ _ _ h => h) (Or.inl ⟨by kernel_rfl, ?_⟩) (HX.out) ?_
      rotate_left
      · intro w hSw
        try dsimp only at hSw
        have k0 : w.cell? ⟨gx, 0, none⟩ = some (Value.slice (some ⟨ga, 0, none⟩) n c) := hSw.cell 0
        have k1 : w.cell? ⟨gx, 1, none⟩ = some (Value.int IntKind.i64 o) := hSw.cell 1
        have k2 : w.cell? ⟨gx, 2, none⟩ = some (Value.int IntKind.i64 t) := hSw.cell 2
        have k3 : w.cell? ⟨gx, 3, none⟩ = some (Value.int IntKind.i64 p) := hSw.cell 3
        go_simp
        try with_reducible rfl
      try simp only [Act.put, List.setIfInBounds_toArray, List.set_cons_zero, List.set_cons_succ]
      refine wpAnyH_take (i := 1) (oi := { dst := some 27, op := _, type := _, pos := _, after := _, guard := _ }) (v := ?_) rfl (by kernel_rfl) (by kernel_rfl) (by kernel_rfl) (fun _ _ _ h => h) (Or.inl ⟨by kernel_rfl, ?_⟩) (HX.out) ?_
      rotate_left
      · intro w hSw
        try dsimp only at hSw
        go_simp
        try with_reducible rfl
      try simp only [Act.put, List.setIfInBounds_toArray, List.set_cons_zero, List.set_cons_succ]
      refine wpAnyH_take (i := 2) (oi := { dst := some 28, op := _, type := _, pos := _, after := _, guard := _ }) (v := ?_) rfl (by kernel_rfl) (by kernel_rfl) (by kernel_rfl) (fun _ _ _ h => h) (Or.inl ⟨by kernel_rfl, ?_⟩) (HX.out) ?_
      rotate_left
      · intro w hSw
        try dsimp only at hSw
        go_simp
        try with_reducible rfl
      try simp only [Act.put, List.setIfInBounds_toArray, List.set_cons_zero, List.set_cons_succ]
      refine wpAnyH_ready (rs := [3]) (by kernel_rfl) (by simp) ?_
      refine (AllReadyH.cons (o := { dst := some 29, op := _, type := _, pos := _, after := _, guard := _ }) rfl (fun K hK => ?_) AllReadyH.nil)
      go_simp
      refine (pick_c g _ 24 (by omega) (by omega) _ HS.out).mono ?_
      rintro e W8 ⟨v, rfl, v0, v1, hS, hg⟩
      replace HS := Lib.hid hS
      replace HG := Lib.hid (grown_trans HG.out hg)
      replace HO := Lib.hid (HO.out.kept hg (.inr (fun e => by have := own_at HO.out g e; omega)))
      replace HZ := Lib.hid (HZ.out.grown hg (by intro e; injection e; omega))
      replace HX := Lib.hid (HX.out.grown hg (by intro e; injection e; omega))
      replace HW := Lib.hid (Nat.le_trans HW.out hg.size)
      clear hS hg
      go_wp2_with fail

      refine hK.out _ _ (HX.out) (fun _ => ?_)
      clear hK K
      try simp only [Act.put, List.setIfInBounds_toArray, List.set_cons_zero, List.set_cons_succ]
      refine wpAnyH_take (i := 4) (oi := { dst := some 30, op := _, type := _, pos := _, after := _, guard := _ }) (v := ?_) rfl (by kernel_rfl) (by kernel_rfl) (by kernel_rfl) (fun _ _ _ h => h) (Or.inl ⟨by kernel_rfl, ?_⟩) (HX.out) ?_
      rotate_left
      · intro w hSw
        try dsimp only at hSw
        go_simp
        try with_reducible rfl
      try simp only [Act.put, List.setIfInBounds_toArray, List.set_cons_zero, List.set_cons_succ]
      refine wpAnyH_ready (rs := [5]) (by kernel_rfl) (by simp) ?_
      refine (AllReadyH.cons (o := { dst := none, op := _, type := _, pos := _, after := _, guard := _ }) rfl (fun K hK => ?_) AllReadyH.nil)
      have z0 : World.cell? (W8) ⟨gz, 0, none⟩ = some (Value.slice none 0 0) := HZ.out.cell 0
      have f0 := HZ.out.frozen 0
      have z1 : World.cell? (W8) ⟨gz, 1, none⟩ = some (Value.int IntKind.i64 0) := HZ.out.cell 1
      have f1 := HZ.out.frozen 1
      have z2 : World.cell? (W8) ⟨gz, 2, none⟩ = some (Value.int IntKind.i64 0) := HZ.out.cell 2
      have f2 := HZ.out.frozen 2
      have z3 : World.cell? (W8) ⟨gz, 3, none⟩ = some (Value.int IntKind.i64 0) := HZ.out.cell 3
      have f3 := HZ.out.frozen 3
      go_simp
      clear z0 z1 z2 z3 f0 f1 f2 f3 HS
      obtain ⟨W10, hW⟩ : ∃ z, z = (World.setCell (World.setCell (World.setCell (World.setCell W8 ⟨gz, 0, none⟩ (Value.slice (some ⟨ga, 0, none⟩) n c)) ⟨gz, 1, none⟩ (Value.int IntKind.i64 o)) ⟨gz, 2, none⟩ (Value.int IntKind.i64 t)) ⟨gz, 3, none⟩ (Value.int IntKind.i64 p)) := ⟨_, rfl⟩
      replace HZ := Lib.hid (((((HZ.out).set_ 0 (Value.slice (some ⟨ga, 0, none⟩) n c)).set_ 1 (Value.int IntKind.i64 o)).set_ 2 (Value.int IntKind.i64 t)).set_ 3 (Value.int IntKind.i64 p))
      replace HG := Lib.hid (grown_setCell (p := ⟨gz, 3, none⟩) (grown_setCell (p := ⟨gz, 2, none⟩) (grown_setCell (p := ⟨gz, 1, none⟩) (grown_setCell (p := ⟨gz, 0, none⟩) (HG.out) (.inr (by simp only; omega)) (Value.slice (some ⟨ga, 0, none⟩) n c)) (.inr (by simp only; omega)) (Value.int IntKind.i64 o)) (.inr (by simp only; omega)) (Value.int IntKind.i64 t)) (.inr (by simp only; omega)) (Value.int IntKind.i64 p))
      replace HO := Lib.hid (own_far (own_far (own_far (own_far (HO.out) (p := ⟨gz, 0, none⟩) (fun k e => by have : ga = k := (by simpa [Value.ownBlock] using e); simp only; omega) (Value.slice (some ⟨ga, 0, none⟩) n c)) (p := ⟨gz, 1, none⟩) (fun k e => by have : ga = k := (by simpa [Value.ownBlock] using e); simp only; omega) (Value.int IntKind.i64 o)) (p := ⟨gz, 2, none⟩) (fun k e => by have : ga = k := (by simpa [Value.ownBlock] using e); simp only; omega) (Value.int IntKind.i64 t)) (p := ⟨gz, 3, none⟩) (fun k e => by have : ga = k := (by simpa [Value.ownBlock] using e); simp only; omega) (Value.int IntKind.i64 p))
      replace HX := Lib.hid (((((HX.out).far (p := ⟨gz, 0, none⟩) (by simp only; omega) (Value.slice (some ⟨ga, 0, none⟩) n c)).far (p := ⟨gz, 1, none⟩) (by simp only; omega) (Value.int IntKind.i64 o)).far (p := ⟨gz, 2, none⟩) (by simp only; omega) (Value.int IntKind.i64 t)).far (p := ⟨gz, 3, none⟩) (by simp only; omega) (Value.int IntKind.i64 p))
      replace HW := Lib.hid (show gz ≤ ((World.setCell (World.setCell (World.setCell (World.setCell W8 ⟨gz, 0, none⟩ (Value.slice (some ⟨ga, 0, none⟩) n c)) ⟨gz, 1, none⟩ (Value.int IntKind.i64 o)) ⟨gz, 2, none⟩ (Value.int IntKind.i64 t)) ⟨gz, 3, none⟩ (Value.int IntKind.i64 p))).heap.size by simp only [World.size_setCell]; exact HW.out)
      rw [← hW] at HG HW HO HZ HX ⊢
      clear hW
      replace HZ : Hid (Blk W10 gz 26 #[Value.slice (some ⟨ga, 0, none⟩) n c, Value.int IntKind.i64 o, Value.int IntKind.i64 t, Value.int IntKind.i64 p]) := HZ

      refine hK.out _ _ (HX.out) (fun _ => ?_)
      clear hK K
      try simp only [Act.put]
      refine wpAnyH_ready (rs := [6]) (by kernel_rfl) (by simp) ?_
      refine (AllReadyH.cons (o := { dst := some 3, op := _, type := _, pos := _, after := _, guard := _ }) rfl (fun K hK => ?_) AllReadyH.nil)
      go_simp
      refine hK.out _ _ (HX.out) (fun _ => ?_)
      clear hK K
      try simp only [Act.put, List.setIfInBounds_toArray, List.set_cons_zero, List.set_cons_succ]
      refine wpAnyH_ready (rs := [7]) (by kernel_rfl) (by simp) ?_
      refine (AllReadyH.cons (o := { dst := some 4, op := _, type := _, pos := _, after := _, guard := _ }) rfl (fun K hK => ?_) AllReadyH.nil)
      go_simp
      refine hK.out _ _ (HX.out) (fun _ => ?_)
      clear hK K
      try simp only [Act.put, List.setIfInBounds_toArray, List.set_cons_zero, List.set_cons_succ]
      refine wpAnyH_done (by kernel_rfl) ?_ _
      have m0 : W10.cell? ⟨gz, 0, none⟩ = some (Value.slice (some ⟨ga, 0, none⟩) n c) := HZ.out.cell 0
      have m1 : W10.cell? ⟨gz, 1, none⟩ = some (Value.int IntKind.i64 o) := HZ.out.cell 1
      have m2 : W10.cell? ⟨gz, 2, none⟩ = some (Value.int IntKind.i64 t) := HZ.out.cell 2
      have m3 : W10.cell? ⟨gz, 3, none⟩ = some (Value.int IntKind.i64 p) := HZ.out.cell 3
      go_wp2_with fail
      try simp only [Exit.inBlock, Exit.then]
      refine bodyPost_ret (v := .tuple #[.agg #[Value.slice (some ⟨ga, 0, none⟩) n c, Value.int IntKind.i64 o, Value.int IntKind.i64 t, Value.int IntKind.i64 p], .int .i64 (r), .int .i64 (IntKind.i64.wrap (1 + v))]) (by simp [results, Tryd.results13, go_sem, m0, m1, m2, m3]) rfl ?_
      exact ⟨ga, xs, n, c, o, t, p, _, _, rfl, HXL.out, hn5, HXS.out, own_base HO.out (by omega), bl_grown (Below.refl _ _) HG.out (fun k e => by injection e with e; omega)⟩
    · skip
      go_wp2_with fail
      refine wp_region_held_drew (S := fun w' => Blk w' gx 26 #[Value.slice (some ⟨ga, 0, none⟩) n c, Value.int IntKind.i64 o, Value.int IntKind.i64 t, Value.int IntKind.i64 p]) (by kernel_rfl) ?_ (fun _ => ?_)
      · exact (HX.out).below (Below.refl (W6).heap.size (W6)).drew
      replace HS := Lib.hid (HS.out.below (Below.refl (W6).heap.size (W6)).drew)
      replace HG := Lib.hid (grown_below HG.out (Below.refl (W6).heap.size (W6)).drew)
      replace HO := Lib.hid (own_below HO.out (Below.refl (W6).heap.size (W6)).drew)
      replace HZ := Lib.hid (HZ.out.below (Below.refl (W6).heap.size (W6)).drew)
      replace HX := Lib.hid (HX.out.below (Below.refl (W6).heap.size (W6)).drew)
      replace HW := Lib.hid (Nat.le_trans HW.out ((Below.refl (W6).heap.size (W6)).drew).size)
      refine wpAnyH_take (i := 0) (oi := { dst := some 21, op := _, type := _, pos := _, after := _, guard := _ }) (v := ?_) rfl (by kernel_rfl) (by kernel_rfl) (by kernel_rfl) (fun _ _ _ h => h) (Or.inl ⟨by kernel_rfl, ?_⟩) (HX.out) ?_
      rotate_left
      · intro w hSw
        try dsimp only at hSw
        have k0 : w.cell? ⟨gx, 0, none⟩ = some (Value.slice (some ⟨ga, 0, none⟩) n c) := hSw.cell 0
        have k1 : w.cell? ⟨gx, 1, none⟩ = some (Value.int IntKind.i64 o) := hSw.cell 1
        have k2 : w.cell? ⟨gx, 2, none⟩ = some (Value.int IntKind.i64 t) := hSw.cell 2
        have k3 : w.cell? ⟨gx, 3, none⟩ = some (Value.int IntKind.i64 p) := hSw.cell 3
        go_simp
        try with_reducible rfl
      try simp only [Act.put, List.setIfInBounds_toArray, List.set_cons_zero, List.set_cons_succ]
      refine wpAnyH_take (i := 1) (oi := { dst := some 22, op := _, type := _, pos := _, after := _, guard := _ }) (v := ?_) rfl (by kernel_rfl) (by kernel_rfl) (by kernel_rfl) (fun _ _ _ h => h) (Or.inl ⟨by kernel_rfl, ?_⟩) (HX.out) ?_
      rotate_left
      · intro w hSw
        try dsimp only at hSw
        go_simp
        try with_reducible rfl
      try simp only [Act.put, List.setIfInBounds_toArray, List.set_cons_zero, List.set_cons_succ]
      refine wpAnyH_take (i := 2) (oi := { dst := some 23, op := _, type := _, pos := _, after := _, guard := _ }) (v := ?_) rfl (by kernel_rfl) (by kernel_rfl) (by kernel_rfl) (fun _ _ _ h => h) (Or.inl ⟨by kernel_rfl, ?_⟩) (HX.out) ?_
      rotate_left
      · intro w hSw
        try dsimp only at hSw
        go_simp
        try with_reducible rfl
      try simp only [Act.put, List.setIfInBounds_toArray, List.set_cons_zero, List.set_cons_succ]
      refine wpAnyH_ready (rs := [3]) (by kernel_rfl) (by simp) ?_
      refine (AllReadyH.cons (o := { dst := some 24, op := _, type := _, pos := _, after := _, guard := _ }) rfl (fun K hK => ?_) AllReadyH.nil)
      go_simp
      obtain ⟨W7, hWW7⟩ : ∃ z, z = (World.alloc W6 (Obj.cells #[Value.int IntKind.i64 (-1), Value.int IntKind.i64 0, Value.int IntKind.i64 1, Value.int IntKind.i64 120, Value.int IntKind.i64 121] 2)).drew := ⟨_, rfl⟩
      obtain ⟨gl, hggl⟩ : ∃ z, z = (W6).heap.size := ⟨_, rfl⟩
      have HL : Hid (Blk W7 gl 2 #[Value.int IntKind.i64 (-1), Value.int IntKind.i64 0, Value.int IntKind.i64 1, Value.int IntKind.i64 120, Value.int IntKind.i64 121]) := Lib.hid (by rw [hWW7, hggl]; exact Blk.new W6 _ _)
      have hb : Below ((W6).drew).heap.size (W6).drew W7 := by rw [hWW7]; exact bl_alloc (Below.refl ((W6).drew).heap.size ((W6).drew)) _
      have hgl0 : gz ≤ gl := by rw [hggl]; exact HW.out
      have hgl1 : g < gl := by have h : g < (W6).heap.size := HS.out.lt; omega
      have hgl_HZ := Nat.ne_of_lt (hggl ▸ HZ.out.lt)
      have hgl_HX := Nat.ne_of_lt (hggl ▸ HX.out.lt)
      replace HS := Lib.hid (HS.out.below hb)
      replace HG := Lib.hid (grown_below HG.out hb)
      replace HO := Lib.hid (own_below HO.out hb)
      replace HZ := Lib.hid (HZ.out.below hb)
      replace HX := Lib.hid (HX.out.below hb)
      replace HW := Lib.hid (Nat.le_trans HW.out (hb).size)
      have hn_W7 : gl + 1 = W7.heap.size := by rw [hWW7, hggl]; exact (World.size_alloc W6 _).symm
      rw [← hWW7, ← hggl]
      clear hWW7 hggl hb

      refine hK.out _ _ (HX.out) (fun _ => ?_)
      clear hK K
      try simp only [Act.put, List.setIfInBounds_toArray, List.set_cons_zero, List.set_cons_succ]
      refine wpAnyH_ready (rs := [4]) (by kernel_rfl) (by simp) ?_
      refine (AllReadyH.cons (o := { dst := some 25, op := _, type := _, pos := _, after := _, guard := _ }) rfl (fun K hK => ?_) AllReadyH.nil)
      go_simp
      have hA : Arr W7 (some ⟨gl, 0, none⟩) (flat icell [-1, 0, 1, 120, 121]) := arr_of_blkM HL.out
      refine (among_c g _ _ [-1, 0, 1, 120, 121] 5 5 (Lib.hid rfl) (by omega) (by omega) (by omega) _ HS.out hA (fun ad e => by injection e with e; subst e; simp only; omega)).mono ?_
      rintro e W8 ⟨v, hv, rfl, hS, hg⟩
      replace HS := Lib.hid hS
      replace HG := Lib.hid (grown_trans HG.out hg)
      replace HO := Lib.hid (HO.out.kept hg (.inr (fun e => by have := own_at HO.out g e; omega)))
      replace HZ := Lib.hid (HZ.out.grown hg (by intro e; injection e; omega))
      replace HX := Lib.hid (HX.out.grown hg (by intro e; injection e; omega))
      replace HL := Lib.hid (HL.out.grown hg (by intro e; injection e; omega))
      replace HW := Lib.hid (Nat.le_trans HW.out hg.size)
      clear hS hg
      clear hv hA
      clear HL
      go_wp2_with fail

      refine hK.out _ _ (HX.out) (fun _ => ?_)
      clear hK K
      try simp only [Act.put, List.setIfInBounds_toArray, List.set_cons_zero, List.set_cons_succ]
      refine wpAnyH_ready (rs := [5]) (by kernel_rfl) (by simp) ?_
      refine (AllReadyH.cons (o := { dst := none, op := _, type := _, pos := _, after := _, guard := _ }) rfl (fun K hK => ?_) AllReadyH.nil)
      have z0 : World.cell? (W8) ⟨gz, 0, none⟩ = some (Value.slice none 0 0) := HZ.out.cell 0
      have f0 := HZ.out.frozen 0
      have z1 : World.cell? (W8) ⟨gz, 1, none⟩ = some (Value.int IntKind.i64 0) := HZ.out.cell 1
      have f1 := HZ.out.frozen 1
      have z2 : World.cell? (W8) ⟨gz, 2, none⟩ = some (Value.int IntKind.i64 0) := HZ.out.cell 2
      have f2 := HZ.out.frozen 2
      have z3 : World.cell? (W8) ⟨gz, 3, none⟩ = some (Value.int IntKind.i64 0) := HZ.out.cell 3
      have f3 := HZ.out.frozen 3
      go_simp
      clear z0 z1 z2 z3 f0 f1 f2 f3 HS
      obtain ⟨W10, hW⟩ : ∃ z, z = (World.setCell (World.setCell (World.setCell (World.setCell W8 ⟨gz, 0, none⟩ (Value.slice (some ⟨ga, 0, none⟩) n c)) ⟨gz, 1, none⟩ (Value.int IntKind.i64 o)) ⟨gz, 2, none⟩ (Value.int IntKind.i64 t)) ⟨gz, 3, none⟩ (Value.int IntKind.i64 p)) := ⟨_, rfl⟩
      replace HZ := Lib.hid (((((HZ.out).set_ 0 (Value.slice (some ⟨ga, 0, none⟩) n c)).set_ 1 (Value.int IntKind.i64 o)).set_ 2 (Value.int IntKind.i64 t)).set_ 3 (Value.int IntKind.i64 p))
      replace HG := Lib.hid (grown_setCell (p := ⟨gz, 3, none⟩) (grown_setCell (p := ⟨gz, 2, none⟩) (grown_setCell (p := ⟨gz, 1, none⟩) (grown_setCell (p := ⟨gz, 0, none⟩) (HG.out) (.inr (by simp only; omega)) (Value.slice (some ⟨ga, 0, none⟩) n c)) (.inr (by simp only; omega)) (Value.int IntKind.i64 o)) (.inr (by simp only; omega)) (Value.int IntKind.i64 t)) (.inr (by simp only; omega)) (Value.int IntKind.i64 p))
      replace HO := Lib.hid (own_far (own_far (own_far (own_far (HO.out) (p := ⟨gz, 0, none⟩) (fun k e => by have : ga = k := (by simpa [Value.ownBlock] using e); simp only; omega) (Value.slice (some ⟨ga, 0, none⟩) n c)) (p := ⟨gz, 1, none⟩) (fun k e => by have : ga = k := (by simpa [Value.ownBlock] using e); simp only; omega) (Value.int IntKind.i64 o)) (p := ⟨gz, 2, none⟩) (fun k e => by have : ga = k := (by simpa [Value.ownBlock] using e); simp only; omega) (Value.int IntKind.i64 t)) (p := ⟨gz, 3, none⟩) (fun k e => by have : ga = k := (by simpa [Value.ownBlock] using e); simp only; omega) (Value.int IntKind.i64 p))
      replace HX := Lib.hid (((((HX.out).far (p := ⟨gz, 0, none⟩) (by simp only; omega) (Value.slice (some ⟨ga, 0, none⟩) n c)).far (p := ⟨gz, 1, none⟩) (by simp only; omega) (Value.int IntKind.i64 o)).far (p := ⟨gz, 2, none⟩) (by simp only; omega) (Value.int IntKind.i64 t)).far (p := ⟨gz, 3, none⟩) (by simp only; omega) (Value.int IntKind.i64 p))
      replace HW := Lib.hid (show gz ≤ ((World.setCell (World.setCell (World.setCell (World.setCell W8 ⟨gz, 0, none⟩ (Value.slice (some ⟨ga, 0, none⟩) n c)) ⟨gz, 1, none⟩ (Value.int IntKind.i64 o)) ⟨gz, 2, none⟩ (Value.int IntKind.i64 t)) ⟨gz, 3, none⟩ (Value.int IntKind.i64 p))).heap.size by simp only [World.size_setCell]; exact HW.out)
      rw [← hW] at HG HW HO HZ HX ⊢
      clear hW
      replace HZ : Hid (Blk W10 gz 26 #[Value.slice (some ⟨ga, 0, none⟩) n c, Value.int IntKind.i64 o, Value.int IntKind.i64 t, Value.int IntKind.i64 p]) := HZ

      refine hK.out _ _ (HX.out) (fun _ => ?_)
      clear hK K
      try simp only [Act.put]
      refine wpAnyH_ready (rs := [6]) (by kernel_rfl) (by simp) ?_
      refine (AllReadyH.cons (o := { dst := some 3, op := _, type := _, pos := _, after := _, guard := _ }) rfl (fun K hK => ?_) AllReadyH.nil)
      go_simp
      refine hK.out _ _ (HX.out) (fun _ => ?_)
      clear hK K
      try simp only [Act.put, List.setIfInBounds_toArray, List.set_cons_zero, List.set_cons_succ]
      refine wpAnyH_ready (rs := [7]) (by kernel_rfl) (by simp) ?_
      refine (AllReadyH.cons (o := { dst := some 4, op := _, type := _, pos := _, after := _, guard := _ }) rfl (fun K hK => ?_) AllReadyH.nil)
      go_simp
      refine hK.out _ _ (HX.out) (fun _ => ?_)
      clear hK K
      try simp only [Act.put, List.setIfInBounds_toArray, List.set_cons_zero, List.set_cons_succ]
      refine wpAnyH_done (by kernel_rfl) ?_ _
      have m0 : W10.cell? ⟨gz, 0, none⟩ = some (Value.slice (some ⟨ga, 0, none⟩) n c) := HZ.out.cell 0
      have m1 : W10.cell? ⟨gz, 1, none⟩ = some (Value.int IntKind.i64 o) := HZ.out.cell 1
      have m2 : W10.cell? ⟨gz, 2, none⟩ = some (Value.int IntKind.i64 t) := HZ.out.cell 2
      have m3 : W10.cell? ⟨gz, 3, none⟩ = some (Value.int IntKind.i64 p) := HZ.out.cell 3
      go_wp2_with fail
      try simp only [Exit.inBlock, Exit.then]
      refine bodyPost_ret (v := .tuple #[.agg #[Value.slice (some ⟨ga, 0, none⟩) n c, Value.int IntKind.i64 o, Value.int IntKind.i64 t, Value.int IntKind.i64 p], .int .i64 (r), .int .i64 (v)]) (by simp [results, Tryd.results13, go_sem, m0, m1, m2, m3]) rfl ?_
      exact ⟨ga, xs, n, c, o, t, p, _, _, rfl, HXL.out, hn5, HXS.out, own_base HO.out (by omega), bl_grown (Below.refl _ _) HG.out (fun k e => by injection e with e; omega)⟩
  · skip
    go_wp2_with fail
    have hA := arr_new W5 2 #[.int .i64 (-1), .int .i64 0, .int .i64 1000, .int .i64 1001]
    have hgA := HS.out.lt
    replace HS := Lib.hid (HS.out.below (bl_alloc (Below.refl _ _) (.cells #[.int .i64 (-1), .int .i64 0, .int .i64 1000, .int .i64 1001] 2)))
    replace HG := Lib.hid (grown_alloc HG.out (.cells #[.int .i64 (-1), .int .i64 0, .int .i64 1000, .int .i64 1001] 2))
    replace HO := Lib.hid (HO.out.alloc (.cells #[.int .i64 (-1), .int .i64 0, .int .i64 1000, .int .i64 1001] 2))
    replace HZ := Lib.hid (HZ.out.alloc (.cells #[.int .i64 (-1), .int .i64 0, .int .i64 1000, .int .i64 1001] 2))
    replace HX := Lib.hid (HX.out.alloc (.cells #[.int .i64 (-1), .int .i64 0, .int .i64 1000, .int .i64 1001] 2))
    replace HW := Lib.hid (show gz ≤ (World.alloc W5 (.cells #[.int .i64 (-1), .int .i64 0, .int .i64 1000, .int .i64 1001] 2)).heap.size by have := HW.out; rw [World.size_alloc]; omega)
    refine (among_c g _ _ [-1, 0, 1000, 1001] 4 4 (Lib.hid rfl) (by omega) (by omega) (by omega) _ HS.out hA (fun ad e => by injection e with e; subst e; simp only; omega)).mono ?_
    rintro e W55 ⟨u, hv, rfl, hS, hg⟩
    replace HS := Lib.hid hS
    replace HG := Lib.hid (grown_trans HG.out hg)
    replace HO := Lib.hid (HO.out.kept hg (.inr (fun e => by have := own_at HO.out g e; omega)))
    replace HZ := Lib.hid (HZ.out.grown hg (by intro e; injection e; omega))
    replace HX := Lib.hid (HX.out.grown hg (by intro e; injection e; omega))
    replace HW := Lib.hid (Nat.le_trans HW.out hg.size)
    clear hS hg
    clear hA hv hgA
    go_wp2_with fail
    refine (one_c g _ 10 (by omega) (by omega) _ HS.out).mono ?_
    rintro e W6 ⟨b2, rfl, hS, hg⟩
    replace HS := Lib.hid hS
    replace HG := Lib.hid (grown_trans HG.out hg)
    replace HO := Lib.hid (HO.out.kept hg (.inr (fun e => by have := own_at HO.out g e; omega)))
    replace HZ := Lib.hid (HZ.out.grown hg (by intro e; injection e; omega))
    replace HX := Lib.hid (HX.out.grown hg (by intro e; injection e; omega))
    replace HW := Lib.hid (Nat.le_trans HW.out hg.size)
    clear hS hg
    cases b2
    · skip
      go_wp2_with fail
      refine wp_region_held_drew (S := fun w' => Blk w' gx 26 #[Value.slice (some ⟨ga, 0, none⟩) n c, Value.int IntKind.i64 o, Value.int IntKind.i64 t, Value.int IntKind.i64 p]) (by kernel_rfl) ?_ (fun _ => ?_)
      · exact (HX.out).below (Below.refl (W6).heap.size (W6)).drew
      replace HS := Lib.hid (HS.out.below (Below.refl (W6).heap.size (W6)).drew)
      replace HG := Lib.hid (grown_below HG.out (Below.refl (W6).heap.size (W6)).drew)
      replace HO := Lib.hid (own_below HO.out (Below.refl (W6).heap.size (W6)).drew)
      replace HZ := Lib.hid (HZ.out.below (Below.refl (W6).heap.size (W6)).drew)
      replace HX := Lib.hid (HX.out.below (Below.refl (W6).heap.size (W6)).drew)
      replace HW := Lib.hid (Nat.le_trans HW.out ((Below.refl (W6).heap.size (W6)).drew).size)
      refine wpAnyH_take (i := 0) (oi := { dst := some 26, op := _, type := _, pos := _, after := _, guard := _ }) (v := ?_) rfl (by kernel_rfl) (by kernel_rfl) (by kernel_rfl) (fun _ _ _ h => h) (Or.inl ⟨by kernel_rfl, ?_⟩) (HX.out) ?_
      rotate_left
      · intro w hSw
        try dsimp only at hSw
        have k0 : w.cell? ⟨gx, 0, none⟩ = some (Value.slice (some ⟨ga, 0, none⟩) n c) := hSw.cell 0
        have k1 : w.cell? ⟨gx, 1, none⟩ = some (Value.int IntKind.i64 o) := hSw.cell 1
        have k2 : w.cell? ⟨gx, 2, none⟩ = some (Value.int IntKind.i64 t) := hSw.cell 2
        have k3 : w.cell? ⟨gx, 3, none⟩ = some (Value.int IntKind.i64 p) := hSw.cell 3
        go_simp
        try with_reducible rfl
      try simp only [Act.put, List.setIfInBounds_toArray, List.set_cons_zero, List.set_cons_succ]
      refine wpAnyH_take (i := 1) (oi := { dst := some 27, op := _, type := _, pos := _, after := _, guard := _ }) (v := ?_) rfl (by kernel_rfl) (by kernel_rfl) (by kernel_rfl) (fun _ _ _ h => h) (Or.inl ⟨by kernel_rfl, ?_⟩) (HX.out) ?_
      rotate_left
      · intro w hSw
        try dsimp only at hSw
        go_simp
        try with_reducible rfl
      try simp only [Act.put, List.setIfInBounds_toArray, List.set_cons_zero, List.set_cons_succ]
      refine wpAnyH_take (i := 2) (oi := { dst := some 28, op := _, type := _, pos := _, after := _, guard := _ }) (v := ?_) rfl (by kernel_rfl) (by kernel_rfl) (by kernel_rfl) (fun _ _ _ h => h) (Or.inl ⟨by kernel_rfl, ?_⟩) (HX.out) ?_
      rotate_left
      · intro w hSw
        try dsimp only at hSw
        go_simp
        try with_reducible rfl
      try simp only [Act.put, List.setIfInBounds_toArray, List.set_cons_zero, List.set_cons_succ]
      refine wpAnyH_ready (rs := [3]) (by kernel_rfl) (by simp) ?_
      refine (AllReadyH.cons (o := { dst := some 29, op := _, type := _, pos := _, after := _, guard := _ }) rfl (fun K hK => ?_) AllReadyH.nil)
      go_simp
      refine (pick_c g _ 24 (by omega) (by omega) _ HS.out).mono ?_
      rintro e W8 ⟨v, rfl, v0, v1, hS, hg⟩
      replace HS := Lib.hid hS
      replace HG := Lib.hid (grown_trans HG.out hg)
      replace HO := Lib.hid (HO.out.kept hg (.inr (fun e => by have := own_at HO.out g e; omega)))
      replace HZ := Lib.hid (HZ.out.grown hg (by intro e; injection e; omega))
      replace HX := Lib.hid (HX.out.grown hg (by intro e; injection e; omega))
      replace HW := Lib.hid (Nat.le_trans HW.out hg.size)
      clear hS hg
      go_wp2_with fail

      refine hK.out _ _ (HX.out) (fun _ => ?_)
      clear hK K
      try simp only [Act.put, List.setIfInBounds_toArray, List.set_cons_zero, List.set_cons_succ]
      refine wpAnyH_take (i := 4) (oi := { dst := some 30, op := _, type := _, pos := _, after := _, guard := _ }) (v := ?_) rfl (by kernel_rfl) (by kernel_rfl) (by kernel_rfl) (fun _ _ _ h => h) (Or.inl ⟨by kernel_rfl, ?_⟩) (HX.out) ?_
      rotate_left
      · intro w hSw
        try dsimp only at hSw
        go_simp
        try with_reducible rfl
      try simp only [Act.put, List.setIfInBounds_toArray, List.set_cons_zero, List.set_cons_succ]
      refine wpAnyH_ready (rs := [5]) (by kernel_rfl) (by simp) ?_
      refine (AllReadyH.cons (o := { dst := none, op := _, type := _, pos := _, after := _, guard := _ }) rfl (fun K hK => ?_) AllReadyH.nil)
      have z0 : World.cell? (W8) ⟨gz, 0, none⟩ = some (Value.slice none 0 0) := HZ.out.cell 0
      have f0 := HZ.out.frozen 0
      have z1 : World.cell? (W8) ⟨gz, 1, none⟩ = some (Value.int IntKind.i64 0) := HZ.out.cell 1
      have f1 := HZ.out.frozen 1
      have z2 : World.cell? (W8) ⟨gz, 2, none⟩ = some (Value.int IntKind.i64 0) := HZ.out.cell 2
      have f2 := HZ.out.frozen 2
      have z3 : World.cell? (W8) ⟨gz, 3, none⟩ = some (Value.int IntKind.i64 0) := HZ.out.cell 3
      have f3 := HZ.out.frozen 3
      go_simp
      clear z0 z1 z2 z3 f0 f1 f2 f3 HS
      obtain ⟨W10, hW⟩ : ∃ z, z = (World.setCell (World.setCell (World.setCell (World.setCell W8 ⟨gz, 0, none⟩ (Value.slice (some ⟨ga, 0, none⟩) n c)) ⟨gz, 1, none⟩ (Value.int IntKind.i64 o)) ⟨gz, 2, none⟩ (Value.int IntKind.i64 t)) ⟨gz, 3, none⟩ (Value.int IntKind.i64 p)) := ⟨_, rfl⟩
      replace HZ := Lib.hid (((((HZ.out).set_ 0 (Value.slice (some ⟨ga, 0, none⟩) n c)).set_ 1 (Value.int IntKind.i64 o)).set_ 2 (Value.int IntKind.i64 t)).set_ 3 (Value.int IntKind.i64 p))
      replace HG := Lib.hid (grown_setCell (p := ⟨gz, 3, none⟩) (grown_setCell (p := ⟨gz, 2, none⟩) (grown_setCell (p := ⟨gz, 1, none⟩) (grown_setCell (p := ⟨gz, 0, none⟩) (HG.out) (.inr (by simp only; omega)) (Value.slice (some ⟨ga, 0, none⟩) n c)) (.inr (by simp only; omega)) (Value.int IntKind.i64 o)) (.inr (by simp only; omega)) (Value.int IntKind.i64 t)) (.inr (by simp only; omega)) (Value.int IntKind.i64 p))
      replace HO := Lib.hid (own_far (own_far (own_far (own_far (HO.out) (p := ⟨gz, 0, none⟩) (fun k e => by have : ga = k := (by simpa [Value.ownBlock] using e); simp only; omega) (Value.slice (some ⟨ga, 0, none⟩) n c)) (p := ⟨gz, 1, none⟩) (fun k e => by have : ga = k := (by simpa [Value.ownBlock] using e); simp only; omega) (Value.int IntKind.i64 o)) (p := ⟨gz, 2, none⟩) (fun k e => by have : ga = k := (by simpa [Value.ownBlock] using e); simp only; omega) (Value.int IntKind.i64 t)) (p := ⟨gz, 3, none⟩) (fun k e => by have : ga = k := (by simpa [Value.ownBlock] using e); simp only; omega) (Value.int IntKind.i64 p))
      replace HX := Lib.hid (((((HX.out).far (p := ⟨gz, 0, none⟩) (by simp only; omega) (Value.slice (some ⟨ga, 0, none⟩) n c)).far (p := ⟨gz, 1, none⟩) (by simp only; omega) (Value.int IntKind.i64 o)).far (p := ⟨gz, 2, none⟩) (by simp only; omega) (Value.int IntKind.i64 t)).far (p := ⟨gz, 3, none⟩) (by simp only; omega) (Value.int IntKind.i64 p))
      replace HW := Lib.hid (show gz ≤ ((World.setCell (World.setCell (World.setCell (World.setCell W8 ⟨gz, 0, none⟩ (Value.slice (some ⟨ga, 0, none⟩) n c)) ⟨gz, 1, none⟩ (Value.int IntKind.i64 o)) ⟨gz, 2, none⟩ (Value.int IntKind.i64 t)) ⟨gz, 3, none⟩ (Value.int IntKind.i64 p))).heap.size by simp only [World.size_setCell]; exact HW.out)
      rw [← hW] at HG HW HO HZ HX ⊢
      clear hW
      replace HZ : Hid (Blk W10 gz 26 #[Value.slice (some ⟨ga, 0, none⟩) n c, Value.int IntKind.i64 o, Value.int IntKind.i64 t, Value.int IntKind.i64 p]) := HZ

      refine hK.out _ _ (HX.out) (fun _ => ?_)
      clear hK K
      try simp only [Act.put]
      refine wpAnyH_ready (rs := [6]) (by kernel_rfl) (by simp) ?_
      refine (AllReadyH.cons (o := { dst := some 3, op := _, type := _, pos := _, after := _, guard := _ }) rfl (fun K hK => ?_) AllReadyH.nil)
      go_simp
      refine hK.out _ _ (HX.out) (fun _ => ?_)
      clear hK K
      try simp only [Act.put, List.setIfInBounds_toArray, List.set_cons_zero, List.set_cons_succ]
      refine wpAnyH_ready (rs := [7]) (by kernel_rfl) (by simp) ?_
      refine (AllReadyH.cons (o := { dst := some 4, op := _, type := _, pos := _, after := _, guard := _ }) rfl (fun K hK => ?_) AllReadyH.nil)
      go_simp
      refine hK.out _ _ (HX.out) (fun _ => ?_)
      clear hK K
      try simp only [Act.put, List.setIfInBounds_toArray, List.set_cons_zero, List.set_cons_succ]
      refine wpAnyH_done (by kernel_rfl) ?_ _
      have m0 : W10.cell? ⟨gz, 0, none⟩ = some (Value.slice (some ⟨ga, 0, none⟩) n c) := HZ.out.cell 0
      have m1 : W10.cell? ⟨gz, 1, none⟩ = some (Value.int IntKind.i64 o) := HZ.out.cell 1
      have m2 : W10.cell? ⟨gz, 2, none⟩ = some (Value.int IntKind.i64 t) := HZ.out.cell 2
      have m3 : W10.cell? ⟨gz, 3, none⟩ = some (Value.int IntKind.i64 p) := HZ.out.cell 3
      go_wp2_with fail
      try simp only [Exit.inBlock, Exit.then]
      refine bodyPost_ret (v := .tuple #[.agg #[Value.slice (some ⟨ga, 0, none⟩) n c, Value.int IntKind.i64 o, Value.int IntKind.i64 t, Value.int IntKind.i64 p], .int .i64 (u), .int .i64 (IntKind.i64.wrap (1 + v))]) (by simp [results, Tryd.results13, go_sem, m0, m1, m2, m3]) rfl ?_
      exact ⟨ga, xs, n, c, o, t, p, _, _, rfl, HXL.out, hn5, HXS.out, own_base HO.out (by omega), bl_grown (Below.refl _ _) HG.out (fun k e => by injection e with e; omega)⟩
    · skip
      go_wp2_with fail
      refine wp_region_held_drew (S := fun w' => Blk w' gx 26 #[Value.slice (some ⟨ga, 0, none⟩) n c, Value.int IntKind.i64 o, Value.int IntKind.i64 t, Value.int IntKind.i64 p]) (by kernel_rfl) ?_ (fun _ => ?_)
      · exact (HX.out).below (Below.refl (W6).heap.size (W6)).drew
      replace HS := Lib.hid (HS.out.below (Below.refl (W6).heap.size (W6)).drew)
      replace HG := Lib.hid (grown_below HG.out (Below.refl (W6).heap.size (W6)).drew)
      replace HO := Lib.hid (own_below HO.out (Below.refl (W6).heap.size (W6)).drew)
      replace HZ := Lib.hid (HZ.out.below (Below.refl (W6).heap.size (W6)).drew)
      replace HX := Lib.hid (HX.out.below (Below.refl (W6).heap.size (W6)).drew)
      replace HW := Lib.hid (Nat.le_trans HW.out ((Below.refl (W6).heap.size (W6)).drew).size)
      refine wpAnyH_take (i := 0) (oi := { dst := some 21, op := _, type := _, pos := _, after := _, guard := _ }) (v := ?_) rfl (by kernel_rfl) (by kernel_rfl) (by kernel_rfl) (fun _ _ _ h => h) (Or.inl ⟨by kernel_rfl, ?_⟩) (HX.out) ?_
      rotate_left
      · intro w hSw
        try dsimp only at hSw
        have k0 : w.cell? ⟨gx, 0, none⟩ = some (Value.slice (some ⟨ga, 0, none⟩) n c) := hSw.cell 0
        have k1 : w.cell? ⟨gx, 1, none⟩ = some (Value.int IntKind.i64 o) := hSw.cell 1
        have k2 : w.cell? ⟨gx, 2, none⟩ = some (Value.int IntKind.i64 t) := hSw.cell 2
        have k3 : w.cell? ⟨gx, 3, none⟩ = some (Value.int IntKind.i64 p) := hSw.cell 3
        go_simp
        try with_reducible rfl
      try simp only [Act.put, List.setIfInBounds_toArray, List.set_cons_zero, List.set_cons_succ]
      refine wpAnyH_take (i := 1) (oi := { dst := some 22, op := _, type := _, pos := _, after := _, guard := _ }) (v := ?_) rfl (by kernel_rfl) (by kernel_rfl) (by kernel_rfl) (fun _ _ _ h => h) (Or.inl ⟨by kernel_rfl, ?_⟩) (HX.out) ?_
      rotate_left
      · intro w hSw
        try dsimp only at hSw
        go_simp
        try with_reducible rfl
      try simp only [Act.put, List.setIfInBounds_toArray, List.set_cons_zero, List.set_cons_succ]
      refine wpAnyH_take (i := 2) (oi := { dst := some 23, op := _, type := _, pos := _, after := _, guard := _ }) (v := ?_) rfl (by kernel_rfl) (by kernel_rfl) (by kernel_rfl) (fun _ _ _ h => h) (Or.inl ⟨by kernel_rfl, ?_⟩) (HX.out) ?_
      rotate_left
      · intro w hSw
        try dsimp only at hSw
        go_simp
        try with_reducible rfl
      try simp only [Act.put, List.setIfInBounds_toArray, List.set_cons_zero, List.set_cons_succ]
      refine wpAnyH_ready (rs := [3]) (by kernel_rfl) (by simp) ?_
      refine (AllReadyH.cons (o := { dst := some 24, op := _, type := _, pos := _, after := _, guard := _ }) rfl (fun K hK => ?_) AllReadyH.nil)
      go_simp
      obtain ⟨W7, hWW7⟩ : ∃ z, z = (World.alloc W6 (Obj.cells #[Value.int IntKind.i64 (-1), Value.int IntKind.i64 0, Value.int IntKind.i64 1, Value.int IntKind.i64 120, Value.int IntKind.i64 121] 2)).drew := ⟨_, rfl⟩
      obtain ⟨gl, hggl⟩ : ∃ z, z = (W6).heap.size := ⟨_, rfl⟩
      have HL : Hid (Blk W7 gl 2 #[Value.int IntKind.i64 (-1), Value.int IntKind.i64 0, Value.int IntKind.i64 1, Value.int IntKind.i64 120, Value.int IntKind.i64 121]) := Lib.hid (by rw [hWW7, hggl]; exact Blk.new W6 _ _)
      have hb : Below ((W6).drew).heap.size (W6).drew W7 := by rw [hWW7]; exact bl_alloc (Below.refl ((W6).drew).heap.size ((W6).drew)) _
      have hgl0 : gz ≤ gl := by rw [hggl]; exact HW.out
      have hgl1 : g < gl := by have h : g < (W6).heap.size := HS.out.lt; omega
      have hgl_HZ := Nat.ne_of_lt (hggl ▸ HZ.out.lt)
      have hgl_HX := Nat.ne_of_lt (hggl ▸ HX.out.lt)
      replace HS := Lib.hid (HS.out.below hb)
      replace HG := Lib.hid (grown_below HG.out hb)
      replace HO := Lib.hid (own_below HO.out hb)
      replace HZ := Lib.hid (HZ.out.below hb)
      replace HX := Lib.hid (HX.out.below hb)
      replace HW := Lib.hid (Nat.le_trans HW.out (hb).size)
      have hn_W7 : gl + 1 = W7.heap.size := by rw [hWW7, hggl]; exact (World.size_alloc W6 _).symm
      rw [← hWW7, ← hggl]
      clear hWW7 hggl hb

      refine hK.out _ _ (HX.out) (fun _ => ?_)
      clear hK K
      try simp only [Act.put, List.setIfInBounds_toArray, List.set_cons_zero, List.set_cons_succ]
      refine wpAnyH_ready (rs := [4]) (by kernel_rfl) (by simp) ?_
      refine (AllReadyH.cons (o := { dst := some 25, op := _, type := _, pos := _, after := _, guard := _ }) rfl (fun K hK => ?_) AllReadyH.nil)
      go_simp
      have hA : Arr W7 (some ⟨gl, 0, none⟩) (flat icell [-1, 0, 1, 120, 121]) := arr_of_blkM HL.out
      refine (among_c g _ _ [-1, 0, 1, 120, 121] 5 5 (Lib.hid rfl) (by omega) (by omega) (by omega) _ HS.out hA (fun ad e => by injection e with e; subst e; simp only; omega)).mono ?_
      rintro e W8 ⟨v, hv, rfl, hS, hg⟩
      replace HS := Lib.hid hS
      replace HG := Lib.hid (grown_trans HG.out hg)
      replace HO := Lib.hid (HO.out.kept hg (.inr (fun e => by have := own_at HO.out g e; omega)))
      replace HZ := Lib.hid (HZ.out.grown hg (by intro e; injection e; omega))
      replace HX := Lib.hid (HX.out.grown hg (by intro e; injection e; omega))
      replace HL := Lib.hid (HL.out.grown hg (by intro e; injection e; omega))
      replace HW := Lib.hid (Nat.le_trans HW.out hg.size)
      clear hS hg
      clear hv hA
      clear HL
      go_wp2_with fail

      refine hK.out _ _ (HX.out) (fun _ => ?_)
      clear hK K
      try simp only [Act.put, List.setIfInBounds_toArray, List.set_cons_zero, List.set_cons_succ]
      refine wpAnyH_ready (rs := [5]) (by kernel_rfl) (by simp) ?_
      refine (AllReadyH.cons (o := { dst := none, op := _, type := _, pos := _, after := _, guard := _ }) rfl (fun K hK => ?_) AllReadyH.nil)
      have z0 : World.cell? (W8) ⟨gz, 0, none⟩ = some (Value.slice none 0 0) := HZ.out.cell 0
      have f0 := HZ.out.frozen 0
      have z1 : World.cell? (W8) ⟨gz, 1, none⟩ = some (Value.int IntKind.i64 0) := HZ.out.cell 1
      have f1 := HZ.out.frozen 1
      have z2 : World.cell? (W8) ⟨gz, 2, none⟩ = some (Value.int IntKind.i64 0) := HZ.out.cell 2
      have f2 := HZ.out.frozen 2
      have z3 : World.cell? (W8) ⟨gz, 3, none⟩ = some (Value.int IntKind.i64 0) := HZ.out.cell 3
      have f3 := HZ.out.frozen 3
      go_simp
      clear z0 z1 z2 z3 f0 f1 f2 f3 HS
      obtain ⟨W10, hW⟩ : ∃ z, z = (World.setCell (World.setCell (World.setCell (World.setCell W8 ⟨gz, 0, none⟩ (Value.slice (some ⟨ga, 0, none⟩) n c)) ⟨gz, 1, none⟩ (Value.int IntKind.i64 o)) ⟨gz, 2, none⟩ (Value.int IntKind.i64 t)) ⟨gz, 3, none⟩ (Value.int IntKind.i64 p)) := ⟨_, rfl⟩
      replace HZ := Lib.hid (((((HZ.out).set_ 0 (Value.slice (some ⟨ga, 0, none⟩) n c)).set_ 1 (Value.int IntKind.i64 o)).set_ 2 (Value.int IntKind.i64 t)).set_ 3 (Value.int IntKind.i64 p))
      replace HG := Lib.hid (grown_setCell (p := ⟨gz, 3, none⟩) (grown_setCell (p := ⟨gz, 2, none⟩) (grown_setCell (p := ⟨gz, 1, none⟩) (grown_setCell (p := ⟨gz, 0, none⟩) (HG.out) (.inr (by simp only; omega)) (Value.slice (some ⟨ga, 0, none⟩) n c)) (.inr (by simp only; omega)) (Value.int IntKind.i64 o)) (.inr (by simp only; omega)) (Value.int IntKind.i64 t)) (.inr (by simp only; omega)) (Value.int IntKind.i64 p))
      replace HO := Lib.hid (own_far (own_far (own_far (own_far (HO.out) (p := ⟨gz, 0, none⟩) (fun k e => by have : ga = k := (by simpa [Value.ownBlock] using e); simp only; omega) (Value.slice (some ⟨ga, 0, none⟩) n c)) (p := ⟨gz, 1, none⟩) (fun k e => by have : ga = k := (by simpa [Value.ownBlock] using e); simp only; omega) (Value.int IntKind.i64 o)) (p := ⟨gz, 2, none⟩) (fun k e => by have : ga = k := (by simpa [Value.ownBlock] using e); simp only; omega) (Value.int IntKind.i64 t)) (p := ⟨gz, 3, none⟩) (fun k e => by have : ga = k := (by simpa [Value.ownBlock] using e); simp only; omega) (Value.int IntKind.i64 p))
      replace HX := Lib.hid (((((HX.out).far (p := ⟨gz, 0, none⟩) (by simp only; omega) (Value.slice (some ⟨ga, 0, none⟩) n c)).far (p := ⟨gz, 1, none⟩) (by simp only; omega) (Value.int IntKind.i64 o)).far (p := ⟨gz, 2, none⟩) (by simp only; omega) (Value.int IntKind.i64 t)).far (p := ⟨gz, 3, none⟩) (by simp only; omega) (Value.int IntKind.i64 p))
      replace HW := Lib.hid (show gz ≤ ((World.setCell (World.setCell (World.setCell (World.setCell W8 ⟨gz, 0, none⟩ (Value.slice (some ⟨ga, 0, none⟩) n c)) ⟨gz, 1, none⟩ (Value.int IntKind.i64 o)) ⟨gz, 2, none⟩ (Value.int IntKind.i64 t)) ⟨gz, 3, none⟩ (Value.int IntKind.i64 p))).heap.size by simp only [World.size_setCell]; exact HW.out)
      rw [← hW] at HG HW HO HZ HX ⊢
      clear hW
      replace HZ : Hid (Blk W10 gz 26 #[Value.slice (some ⟨ga, 0, none⟩) n c, Value.int IntKind.i64 o, Value.int IntKind.i64 t, Value.int IntKind.i64 p]) := HZ

      refine hK.out _ _ (HX.out) (fun _ => ?_)
      clear hK K
      try simp only [Act.put]
      refine wpAnyH_ready (rs := [6]) (by kernel_rfl) (by simp) ?_
      refine (AllReadyH.cons (o := { dst := some 3, op := _, type := _, pos := _, after := _, guard := _ }) rfl (fun K hK => ?_) AllReadyH.nil)
      go_simp
      refine hK.out _ _ (HX.out) (fun _ => ?_)
      clear hK K
      try simp only [Act.put, List.setIfInBounds_toArray, List.set_cons_zero, List.set_cons_succ]
      refine wpAnyH_ready (rs := [7]) (by kernel_rfl) (by simp) ?_
      refine (AllReadyH.cons (o := { dst := some 4, op := _, type := _, pos := _, after := _, guard := _ }) rfl (fun K hK => ?_) AllReadyH.nil)
      go_simp
      refine hK.out _ _ (HX.out) (fun _ => ?_)
      clear hK K
      try simp only [Act.put, List.setIfInBounds_toArray, List.set_cons_zero, List.set_cons_succ]
      refine wpAnyH_done (by kernel_rfl) ?_ _
      have m0 : W10.cell? ⟨gz, 0, none⟩ = some (Value.slice (some ⟨ga, 0, none⟩) n c) := HZ.out.cell 0
      have m1 : W10.cell? ⟨gz, 1, none⟩ = some (Value.int IntKind.i64 o) := HZ.out.cell 1
      have m2 : W10.cell? ⟨gz, 2, none⟩ = some (Value.int IntKind.i64 t) := HZ.out.cell 2
      have m3 : W10.cell? ⟨gz, 3, none⟩ = some (Value.int IntKind.i64 p) := HZ.out.cell 3
      go_wp2_with fail
      try simp only [Exit.inBlock, Exit.then]
      refine bodyPost_ret (v := .tuple #[.agg #[Value.slice (some ⟨ga, 0, none⟩) n c, Value.int IntKind.i64 o, Value.int IntKind.i64 t, Value.int IntKind.i64 p], .int .i64 (u), .int .i64 (v)]) (by simp [results, Tryd.results13, go_sem, m0, m1, m2, m3]) rfl ?_
      exact ⟨ga, xs, n, c, o, t, p, _, _, rfl, HXL.out, hn5, HXS.out, own_base HO.out (by omega), bl_grown (Below.refl _ _) HG.out (fun k e => by injection e with e; omega)⟩
set_option maxRecDepth 100000 in
set_option maxHeartbeats 4000000 in
theorem DrawOffFor_c (C : Option Addr) (nn cc : Nat) (cs : List UInt8) (hnn : Hid (cs.length = nn)) (hnb : nn ≤ 1048576) (w : World) (hA : Arr w C (cs.map bvS)) (hlt : ∀ ad, C = some ad → ad.block < w.heap.size) : Calls Tryd.prog 10 #[.slice C nn cc] w (OutB2 w) := by
  have HL0 := Lib.hid hlt
  have HA0 := Lib.hid hA
  clear hlt hA
  go_enter Tryd.func10, Tryd.ntmps10
  go_wp2_with fail
  obtain ⟨W0, hW0⟩ : ∃ z, z = w.alloc (Obj.cells #[Value.slice none 0 0, Value.int IntKind.i64 0, Value.int IntKind.i64 0, Value.int IntKind.i64 0] 26) := ⟨_, rfl⟩
  obtain ⟨gz, hgz⟩ : ∃ z, z = w.heap.size := ⟨_, rfl⟩
  have HZ : Hid (Blk W0 gz 26 #[Value.slice none 0 0, Value.int IntKind.i64 0, Value.int IntKind.i64 0, Value.int IntKind.i64 0]) := Lib.hid (by rw [hW0, hgz]; exact Blk.new _ _ _)
  have hb0 : Below w.heap.size w W0 := by rw [hW0]; exact bl_alloc (Below.refl _ _) _
  have hn0 : gz + 1 = W0.heap.size := by rw [hW0, hgz]; exact (World.size_alloc _ _).symm
  have HGZ := Lib.hid hgz
  have HB0 := Lib.hid hb0
  rw [← hW0, ← hgz]
  clear hW0 hgz
  refine (l00From_c C nn cc cs hnn hnb W0 (HA0.out.below hb0) (fun ad e => Nat.lt_of_lt_of_le (HL0.out ad e) hb0.size)).mono ?_
  rintro e W1 ⟨rfl, hS, hb1⟩
  obtain ⟨g, hg⟩ : ∃ z, z = W0.heap.size := ⟨_, rfl⟩
  rw [← hg] at hS ⊢
  have HS := Lib.hid hS
  have HG := Lib.hid (grown_below (grown_of_below hb0 (some g)) hb1)
  have HW : Hid (gz ≤ W1.heap.size) := Lib.hid (by have := hb1.size; omega)
  replace HZ := Lib.hid (HZ.out.below hb1)
  have hgg : gz < g := by omega
  have hgw : w.heap.size ≤ g := by have := HGZ.out; omega
  have hz0 : w.heap.size ≤ gz := by have := HGZ.out; omega
  clear hS hb1 HA0 HL0 hb0 hg hn0
  go_wp2_with fail

  have HS0 := HS
  refine (l26Bent_c g _ (by omega) _ HS.out).mono ?_
  rintro e W2 ⟨ga, xs, n, c, o, t, p, rfl, hxl, hn5, hxs, ho1, hS, hg⟩
  replace HS := Lib.hid hS
  replace HG := Lib.hid (grown_trans HG.out hg)
  replace HZ := Lib.hid (HZ.out.grown hg (by intro e; injection e; omega))
  replace HW := Lib.hid (Nat.le_trans HW.out hg.size)
  clear hS hg
  have HXL := Lib.hid hxl
  have HXS := Lib.hid hxs
  have hw1 : g < W1.heap.size := HS0.out.lt
  have hga := own_at ho1 ga rfl
  have hgag : g < ga := by omega
  have hgaW := own_lt ho1 ga rfl
  have HO := Lib.hid (own_base ho1 (base' := g + 1) (by omega))
  clear hxl hxs ho1 HS0 hga
  go_wp2_with fail
  obtain ⟨W3, hWW3⟩ : ∃ z, z = World.alloc W2 (Obj.cells #[Value.slice (some ⟨ga, 0, none⟩) n c, Value.int IntKind.i64 o, Value.int IntKind.i64 t, Value.int IntKind.i64 p] 26) := ⟨_, rfl⟩
  obtain ⟨gx, hggx⟩ : ∃ z, z = (W2).heap.size := ⟨_, rfl⟩
  have HX : Hid (Blk W3 gx 26 #[Value.slice (some ⟨ga, 0, none⟩) n c, Value.int IntKind.i64 o, Value.int IntKind.i64 t, Value.int IntKind.i64 p]) := Lib.hid (by rw [hWW3, hggx]; exact Blk.new _ _ _)
  have hb : Below (W2).heap.size W2 W3 := by rw [hWW3]; exact bl_alloc (Below.refl (W2).heap.size (W2)) _
  have hgx0 : gz ≤ gx := by rw [hggx]; exact HW.out
  have hgx1 : g < gx := by have h : g < (W2).heap.size := HS.out.lt; omega
  have hgx_HZ := Nat.ne_of_lt (hggx ▸ HZ.out.lt)
  replace HS := Lib.hid (HS.out.below hb)
  replace HG := Lib.hid (grown_below HG.out hb)
  replace HO := Lib.hid (own_below HO.out hb)
  replace HZ := Lib.hid (HZ.out.below hb)
  replace HW := Lib.hid (Nat.le_trans HW.out (hb).size)
  have hn_W3 : gx + 1 = W3.heap.size := by rw [hWW3, hggx]; exact (World.size_alloc _ _).symm
  rw [← hWW3, ← hggx]
  clear hWW3 hggx hb
  go_wp2_with fail
  refine wp_region_held_drew (S := fun w' => Blk w' gx 26 #[Value.slice (some ⟨ga, 0, none⟩) n c, Value.int IntKind.i64 o, Value.int IntKind.i64 t, Value.int IntKind.i64 p]) (by kernel_rfl) ?_ (fun _ => ?_)
  · exact (HX.out).below (Below.refl (W3).heap.size (W3)).drew
  replace HS := Lib.hid (HS.out.below (Below.refl (W3).heap.size (W3)).drew)
  replace HG := Lib.hid (grown_below HG.out (Below.refl (W3).heap.size (W3)).drew)
  replace HO := Lib.hid (own_below HO.out (Below.refl (W3).heap.size (W3)).drew)
  replace HZ := Lib.hid (HZ.out.below (Below.refl (W3).heap.size (W3)).drew)
  replace HX := Lib.hid (HX.out.below (Below.refl (W3).heap.size (W3)).drew)
  replace HW := Lib.hid (Nat.le_trans HW.out ((Below.refl (W3).heap.size (W3)).drew).size)
  refine wpAnyH_take (i := 0) (oi := { dst := some 10, op := _, type := _, pos := _, after := _, guard := _ }) (v := ?_) rfl (by kernel_rfl) (by kernel_rfl) (by kernel_rfl) (fun _ _ _ h => h) (Or.inl ⟨by kernel_rfl, ?_⟩) (HX.out) ?_
  rotate_left
  · intro w hSw
    try dsimp only at hSw
    have k0 : w.cell? ⟨gx, 0, none⟩ = some (Value.slice (some ⟨ga, 0, none⟩) n c) := hSw.cell 0
    have k1 : w.cell? ⟨gx, 1, none⟩ = some (Value.int IntKind.i64 o) := hSw.cell 1
    have k2 : w.cell? ⟨gx, 2, none⟩ = some (Value.int IntKind.i64 t) := hSw.cell 2
    have k3 : w.cell? ⟨gx, 3, none⟩ = some (Value.int IntKind.i64 p) := hSw.cell 3
    go_simp
    try with_reducible rfl
  try simp only [Act.put, List.setIfInBounds_toArray, List.set_cons_zero, List.set_cons_succ]
  refine wpAnyH_take (i := 1) (oi := { dst := some 11, op := _, type := _, pos := _, after := _, guard := _ }) (v := ?_) rfl (by kernel_rfl) (by kernel_rfl) (by kernel_rfl) (fun _ _ _ h => h) (Or.inl ⟨by kernel_rfl, ?_⟩) (HX.out) ?_
  rotate_left
  · intro w hSw
    try dsimp only at hSw
    go_simp
    try with_reducible rfl
  try simp only [Act.put, List.setIfInBounds_toArray, List.set_cons_zero, List.set_cons_succ]
  refine wpAnyH_ready (rs := [2]) (by kernel_rfl) (by simp) ?_
  refine (AllReadyH.cons (o := { dst := some 12, op := _, type := _, pos := _, after := _, guard := _ }) rfl (fun K hK => ?_) AllReadyH.nil)
  go_simp
  refine (l26DrawMoney_c g _ (by omega) _ HS.out).mono ?_
  rintro e W7 ⟨v, rfl, hS, hg⟩
  replace HS := Lib.hid hS
  replace HG := Lib.hid (grown_trans HG.out hg)
  replace HO := Lib.hid (HO.out.kept hg (.inr (fun e => by have := own_at HO.out g e; omega)))
  replace HZ := Lib.hid (HZ.out.grown hg (by intro e; injection e; omega))
  replace HX := Lib.hid (HX.out.grown hg (by intro e; injection e; omega))
  replace HW := Lib.hid (Nat.le_trans HW.out hg.size)
  clear hS hg
  go_wp2_with fail

  refine hK.out _ _ (HX.out) (fun _ => ?_)
  clear hK K
  try simp only [Act.put, List.setIfInBounds_toArray, List.set_cons_zero, List.set_cons_succ]
  refine wpAnyH_ready (rs := [3]) (by kernel_rfl) (by simp) ?_
  refine (AllReadyH.cons (o := { dst := none, op := _, type := _, pos := _, after := _, guard := _ }) rfl (fun K hK => ?_) AllReadyH.nil)
  have z0 : World.cell? (W7) ⟨gz, 0, none⟩ = some (Value.slice none 0 0) := HZ.out.cell 0
  have f0 := HZ.out.frozen 0
  have z1 : World.cell? (W7) ⟨gz, 1, none⟩ = some (Value.int IntKind.i64 0) := HZ.out.cell 1
  have f1 := HZ.out.frozen 1
  have z2 : World.cell? (W7) ⟨gz, 2, none⟩ = some (Value.int IntKind.i64 0) := HZ.out.cell 2
  have f2 := HZ.out.frozen 2
  have z3 : World.cell? (W7) ⟨gz, 3, none⟩ = some (Value.int IntKind.i64 0) := HZ.out.cell 3
  have f3 := HZ.out.frozen 3
  go_simp
  clear z0 z1 z2 z3 f0 f1 f2 f3 HS
  obtain ⟨W10, hW⟩ : ∃ z, z = (World.setCell (World.setCell (World.setCell (World.setCell W7 ⟨gz, 0, none⟩ (Value.slice (some ⟨ga, 0, none⟩) n c)) ⟨gz, 1, none⟩ (Value.int IntKind.i64 o)) ⟨gz, 2, none⟩ (Value.int IntKind.i64 t)) ⟨gz, 3, none⟩ (Value.int IntKind.i64 p)) := ⟨_, rfl⟩
  replace HZ := Lib.hid (((((HZ.out).set_ 0 (Value.slice (some ⟨ga, 0, none⟩) n c)).set_ 1 (Value.int IntKind.i64 o)).set_ 2 (Value.int IntKind.i64 t)).set_ 3 (Value.int IntKind.i64 p))
  replace HG := Lib.hid (grown_setCell (p := ⟨gz, 3, none⟩) (grown_setCell (p := ⟨gz, 2, none⟩) (grown_setCell (p := ⟨gz, 1, none⟩) (grown_setCell (p := ⟨gz, 0, none⟩) (HG.out) (.inr (by simp only; omega)) (Value.slice (some ⟨ga, 0, none⟩) n c)) (.inr (by simp only; omega)) (Value.int IntKind.i64 o)) (.inr (by simp only; omega)) (Value.int IntKind.i64 t)) (.inr (by simp only; omega)) (Value.int IntKind.i64 p))
  replace HO := Lib.hid (own_far (own_far (own_far (own_far (HO.out) (p := ⟨gz, 0, none⟩) (fun k e => by have : ga = k := (by simpa [Value.ownBlock] using e); simp only; omega) (Value.slice (some ⟨ga, 0, none⟩) n c)) (p := ⟨gz, 1, none⟩) (fun k e => by have : ga = k := (by simpa [Value.ownBlock] using e); simp only; omega) (Value.int IntKind.i64 o)) (p := ⟨gz, 2, none⟩) (fun k e => by have : ga = k := (by simpa [Value.ownBlock] using e); simp only; omega) (Value.int IntKind.i64 t)) (p := ⟨gz, 3, none⟩) (fun k e => by have : ga = k := (by simpa [Value.ownBlock] using e); simp only; omega) (Value.int IntKind.i64 p))
  replace HX := Lib.hid (((((HX.out).far (p := ⟨gz, 0, none⟩) (by simp only; omega) (Value.slice (some ⟨ga, 0, none⟩) n c)).far (p := ⟨gz, 1, none⟩) (by simp only; omega) (Value.int IntKind.i64 o)).far (p := ⟨gz, 2, none⟩) (by simp only; omega) (Value.int IntKind.i64 t)).far (p := ⟨gz, 3, none⟩) (by simp only; omega) (Value.int IntKind.i64 p))
  replace HW := Lib.hid (show gz ≤ ((World.setCell (World.setCell (World.setCell (World.setCell W7 ⟨gz, 0, none⟩ (Value.slice (some ⟨ga, 0, none⟩) n c)) ⟨gz, 1, none⟩ (Value.int IntKind.i64 o)) ⟨gz, 2, none⟩ (Value.int IntKind.i64 t)) ⟨gz, 3, none⟩ (Value.int IntKind.i64 p))).heap.size by simp only [World.size_setCell]; exact HW.out)
  rw [← hW] at HG HW HO HZ HX ⊢
  clear hW
  replace HZ : Hid (Blk W10 gz 26 #[Value.slice (some ⟨ga, 0, none⟩) n c, Value.int IntKind.i64 o, Value.int IntKind.i64 t, Value.int IntKind.i64 p]) := HZ

  refine hK.out _ _ (HX.out) (fun _ => ?_)
  clear hK K
  try simp only [Act.put]
  refine wpAnyH_ready (rs := [4]) (by kernel_rfl) (by simp) ?_
  refine (AllReadyH.cons (o := { dst := some 3, op := _, type := _, pos := _, after := _, guard := _ }) rfl (fun K hK => ?_) AllReadyH.nil)
  go_simp
  refine hK.out _ _ (HX.out) (fun _ => ?_)
  clear hK K
  try simp only [Act.put, List.setIfInBounds_toArray, List.set_cons_zero, List.set_cons_succ]
  refine wpAnyH_done (by kernel_rfl) ?_ _
  have m0 : W10.cell? ⟨gz, 0, none⟩ = some (Value.slice (some ⟨ga, 0, none⟩) n c) := HZ.out.cell 0
  have m1 : W10.cell? ⟨gz, 1, none⟩ = some (Value.int IntKind.i64 o) := HZ.out.cell 1
  have m2 : W10.cell? ⟨gz, 2, none⟩ = some (Value.int IntKind.i64 t) := HZ.out.cell 2
  have m3 : W10.cell? ⟨gz, 3, none⟩ = some (Value.int IntKind.i64 p) := HZ.out.cell 3
  go_wp2_with fail
  try simp only [Exit.inBlock, Exit.then]
  refine bodyPost_ret (v := .tuple #[.agg #[Value.slice (some ⟨ga, 0, none⟩) n c, Value.int IntKind.i64 o, Value.int IntKind.i64 t, Value.int IntKind.i64 p], .int .i64 (v)]) (by simp [results, Tryd.results10, go_sem, m0, m1, m2, m3]) rfl ?_
  exact ⟨ga, xs, n, c, o, t, p, _, rfl, HXL.out, hn5, HXS.out, own_base HO.out (by omega), bl_grown (Below.refl _ _) HG.out (fun k e => by injection e with e; omega)⟩
set_option maxRecDepth 100000 in
set_option maxHeartbeats 4000000 in
theorem DrawBillLines_c (C : Option Addr) (nn cc : Nat) (cs : List UInt8) (hnn : Hid (cs.length = nn)) (hnb : nn ≤ 1048576) (w : World) (hA : Arr w C (cs.map bvS)) (hlt : ∀ ad, C = some ad → ad.block < w.heap.size) : Calls Tryd.prog 16 #[.slice C nn cc] w (OutB1 w) := by
  have HL0 := Lib.hid hlt
  have HA0 := Lib.hid hA
  clear hlt hA
  go_enter Tryd.func16, Tryd.ntmps16
  go_wp2_with fail
  obtain ⟨W0, hW0⟩ : ∃ z, z = w.alloc (Obj.cells #[Value.slice none 0 0, Value.int IntKind.i64 0, Value.int IntKind.i64 0, Value.int IntKind.i64 0] 26) := ⟨_, rfl⟩
  obtain ⟨gz, hgz⟩ : ∃ z, z = w.heap.size := ⟨_, rfl⟩
  have HZ : Hid (Blk W0 gz 26 #[Value.slice none 0 0, Value.int IntKind.i64 0, Value.int IntKind.i64 0, Value.int IntKind.i64 0]) := Lib.hid (by rw [hW0, hgz]; exact Blk.new _ _ _)
  have hb0 : Below w.heap.size w W0 := by rw [hW0]; exact bl_alloc (Below.refl _ _) _
  have hn0 : gz + 1 = W0.heap.size := by rw [hW0, hgz]; exact (World.size_alloc _ _).symm
  have HGZ := Lib.hid hgz
  have HB0 := Lib.hid hb0
  rw [← hW0, ← hgz]
  clear hW0 hgz
  refine (l00From_c C nn cc cs hnn hnb W0 (HA0.out.below hb0) (fun ad e => Nat.lt_of_lt_of_le (HL0.out ad e) hb0.size)).mono ?_
  rintro e W1 ⟨rfl, hS, hb1⟩
  obtain ⟨g, hg⟩ : ∃ z, z = W0.heap.size := ⟨_, rfl⟩
  rw [← hg] at hS ⊢
  have HS := Lib.hid hS
  have HG := Lib.hid (grown_below (grown_of_below hb0 (some g)) hb1)
  have HW : Hid (gz ≤ W1.heap.size) := Lib.hid (by have := hb1.size; omega)
  replace HZ := Lib.hid (HZ.out.below hb1)
  have hgg : gz < g := by omega
  have hgw : w.heap.size ≤ g := by have := HGZ.out; omega
  have hz0 : w.heap.size ≤ gz := by have := HGZ.out; omega
  clear hS hb1 HA0 HL0 hb0 hg hn0
  go_wp2_with fail

  have HS0 := HS
  refine (l26Bent_c g _ (by omega) _ HS.out).mono ?_
  rintro e W2 ⟨ga, xs, n, c, o, t, p, rfl, hxl, hn5, hxs, ho1, hS, hg⟩
  replace HS := Lib.hid hS
  replace HG := Lib.hid (grown_trans HG.out hg)
  replace HZ := Lib.hid (HZ.out.grown hg (by intro e; injection e; omega))
  replace HW := Lib.hid (Nat.le_trans HW.out hg.size)
  clear hS hg
  have HXL := Lib.hid hxl
  have HXS := Lib.hid hxs
  have hw1 : g < W1.heap.size := HS0.out.lt
  have hga := own_at ho1 ga rfl
  have hgag : g < ga := by omega
  have hgaW := own_lt ho1 ga rfl
  have HO := Lib.hid (own_base ho1 (base' := g + 1) (by omega))
  clear hxl hxs ho1 HS0 hga
  have z0 : World.cell? (W2) ⟨gz, 0, none⟩ = some (Value.slice none 0 0) := HZ.out.cell 0
  have f0 := HZ.out.frozen 0
  have z1 : World.cell? (W2) ⟨gz, 1, none⟩ = some (Value.int IntKind.i64 0) := HZ.out.cell 1
  have f1 := HZ.out.frozen 1
  have z2 : World.cell? (W2) ⟨gz, 2, none⟩ = some (Value.int IntKind.i64 0) := HZ.out.cell 2
  have f2 := HZ.out.frozen 2
  have z3 : World.cell? (W2) ⟨gz, 3, none⟩ = some (Value.int IntKind.i64 0) := HZ.out.cell 3
  have f3 := HZ.out.frozen 3
  go_wp2_with fail
  clear z0 z1 z2 z3 f0 f1 f2 f3 HS
  obtain ⟨W10, hW⟩ : ∃ z, z = (World.setCell (World.setCell (World.setCell (World.setCell W2 ⟨gz, 0, none⟩ (Value.slice (some ⟨ga, 0, none⟩) n c)) ⟨gz, 1, none⟩ (Value.int IntKind.i64 o)) ⟨gz, 2, none⟩ (Value.int IntKind.i64 t)) ⟨gz, 3, none⟩ (Value.int IntKind.i64 p)) := ⟨_, rfl⟩
  replace HZ := Lib.hid (((((HZ.out).set_ 0 (Value.slice (some ⟨ga, 0, none⟩) n c)).set_ 1 (Value.int IntKind.i64 o)).set_ 2 (Value.int IntKind.i64 t)).set_ 3 (Value.int IntKind.i64 p))
  replace HG := Lib.hid (grown_setCell (p := ⟨gz, 3, none⟩) (grown_setCell (p := ⟨gz, 2, none⟩) (grown_setCell (p := ⟨gz, 1, none⟩) (grown_setCell (p := ⟨gz, 0, none⟩) (HG.out) (.inr (by simp only; omega)) (Value.slice (some ⟨ga, 0, none⟩) n c)) (.inr (by simp only; omega)) (Value.int IntKind.i64 o)) (.inr (by simp only; omega)) (Value.int IntKind.i64 t)) (.inr (by simp only; omega)) (Value.int IntKind.i64 p))
  replace HO := Lib.hid (own_far (own_far (own_far (own_far (HO.out) (p := ⟨gz, 0, none⟩) (fun k e => by have : ga = k := (by simpa [Value.ownBlock] using e); simp only; omega) (Value.slice (some ⟨ga, 0, none⟩) n c)) (p := ⟨gz, 1, none⟩) (fun k e => by have : ga = k := (by simpa [Value.ownBlock] using e); simp only; omega) (Value.int IntKind.i64 o)) (p := ⟨gz, 2, none⟩) (fun k e => by have : ga = k := (by simpa [Value.ownBlock] using e); simp only; omega) (Value.int IntKind.i64 t)) (p := ⟨gz, 3, none⟩) (fun k e => by have : ga = k := (by simpa [Value.ownBlock] using e); simp only; omega) (Value.int IntKind.i64 p))
  replace HW := Lib.hid (show gz ≤ ((World.setCell (World.setCell (World.setCell (World.setCell W2 ⟨gz, 0, none⟩ (Value.slice (some ⟨ga, 0, none⟩) n c)) ⟨gz, 1, none⟩ (Value.int IntKind.i64 o)) ⟨gz, 2, none⟩ (Value.int IntKind.i64 t)) ⟨gz, 3, none⟩ (Value.int IntKind.i64 p))).heap.size by simp only [World.size_setCell]; exact HW.out)
  rw [← hW] at HG HW HO HZ ⊢
  clear hW
  replace HZ : Hid (Blk W10 gz 26 #[Value.slice (some ⟨ga, 0, none⟩) n c, Value.int IntKind.i64 o, Value.int IntKind.i64 t, Value.int IntKind.i64 p]) := HZ
  have m0 : W10.cell? ⟨gz, 0, none⟩ = some (Value.slice (some ⟨ga, 0, none⟩) n c) := HZ.out.cell 0
  have m1 : W10.cell? ⟨gz, 1, none⟩ = some (Value.int IntKind.i64 o) := HZ.out.cell 1
  have m2 : W10.cell? ⟨gz, 2, none⟩ = some (Value.int IntKind.i64 t) := HZ.out.cell 2
  have m3 : W10.cell? ⟨gz, 3, none⟩ = some (Value.int IntKind.i64 p) := HZ.out.cell 3
  try simp only [Exit.inBlock, Exit.then]
  refine bodyPost_ret (v := .agg #[Value.slice (some ⟨ga, 0, none⟩) n c, Value.int IntKind.i64 o, Value.int IntKind.i64 t, Value.int IntKind.i64 p]) (by simp [results, Tryd.results16, go_sem, m0, m1, m2, m3]) rfl ?_
  exact ⟨ga, xs, n, c, o, t, p, rfl, HXL.out, hn5, HXS.out, own_base HO.out (by omega), bl_grown (Below.refl _ _) HG.out (fun k e => by injection e with e; omega)⟩
set_option maxHeartbeats 2000000 in
theorem DrawMoneyText_c (C : Option Addr) (nn cc : Nat) (cs : List UInt8) (hnn : Hid (cs.length = nn)) (hnb : nn ≤ 1048576) (w : World) (hA : Arr w C (cs.map bvS)) (hlt : ∀ ad, C = some ad → ad.block < w.heap.size) : Calls Tryd.prog 19 #[.slice C nn cc] w (OutMt w) := by
  have HL0 := Lib.hid hlt
  have HA0 := Lib.hid hA
  clear hlt hA
  go_enter Tryd.func19, Tryd.ntmps19
  go_wp2_with fail
  refine (l00From_c C nn cc cs hnn hnb w HA0.out HL0.out).mono ?_
  rintro e W1 ⟨rfl, hS1, hb1⟩
  have HB1 := Lib.hid hb1
  clear hb1
  go_wp2_with fail
  refine (l26DrawMoney_c w.heap.size 0 (by omega) _ hS1).mono ?_
  rintro e W2 ⟨r, rfl, hS2, hg⟩
  have hB2 := bl_grown HB1.out hg (fun k e => by injection e with e; omega)
  clear hS1 hS2 hg
  go_wp2_with fail
  go_returns
  exact ⟨r, rfl, hB2⟩
end Go.Proofs.YtnhkdcebldppmaaDoor
