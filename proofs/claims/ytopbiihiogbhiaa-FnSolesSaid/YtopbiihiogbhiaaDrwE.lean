/- Drawn materials, a sole and a number. -/
import Derived.Test.YtopbiihiogbhiaaDrwD
import Derived.Test.YtopbiihiogbhiaaAppF
namespace Go.Proofs.Ytopbiihiogbhiaa
open Go.RowKit

def OutOnly (w : World) (e : Ending) (w' : World) : Prop := ∃ (A : Option Addr) (xs : List Stuff) (n c : Nat) (B : Option Addr) (ps : List Int) (m d : Nat) (v : Int), e = .returned (.tuple #[.slice A n c, .agg #[.slice B m d], .int .i64 v]) ∧ xs.length = n ∧ n ≤ 13 ∧ (∀ x ∈ xs, x.name.size ≤ 100) ∧ ps.length = m ∧ m ≤ 7 ∧
  w'.ownsRow w.heap.size 46 5 (.slice A n c) n (flat Stuff.cells xs) ∧ w'.ownsRow w.heap.size 2 1 (.slice B m d) m (flat icell ps) ∧ Below w.heap.size w w'
set_option maxRecDepth 100000 in
set_option maxHeartbeats 2000000 in
theorem DrawWearLayers_c (C : Option Addr) (nn cc : Nat) (cs : List UInt8) (hnn : Hid (cs.length = nn)) (hnb : nn ≤ 1048576) (w : World) (hA : Arr w C (cs.map bvS)) (hlt : ∀ ad, C = some ad → ad.block < w.heap.size) : Calls Try.prog 6 #[.slice C nn cc] w (OutOnly w) := by
  have HL0 := Lib.hid hlt
  have HA0 := Lib.hid hA
  clear hlt hA
  go_enter Try.func6, Try.ntmps6
  go_wp2_with fail
  obtain ⟨W0, hW0⟩ : ∃ z, z = w.alloc (Obj.cells #[Value.slice none 0 0] 27) := ⟨_, rfl⟩
  obtain ⟨gz, hgz⟩ : ∃ z, z = w.heap.size := ⟨_, rfl⟩
  have HZ : Hid (Blk W0 gz 27 #[Value.slice none 0 0]) := Lib.hid (by rw [hW0, hgz]; exact Blk.new _ _ _)
  have hb0 : Below w.heap.size w W0 := by rw [hW0]; exact bl_alloc (Below.refl _ _) _
  have hn0 : gz + 1 = W0.heap.size := by rw [hW0, hgz]; exact (World.size_alloc _ _).symm
  have HGZ := Lib.hid hgz
  have HB0 := Lib.hid hb0
  rw [← hW0, ← hgz]
  clear hW0 hgz
  refine (l00From_c C nn cc cs hnn hnb W0 (HA0.out.below hb0) (fun ad e => Nat.lt_of_lt_of_le (HL0.out ad e) hb0.size)).mono ?_
  rintro e W1 ⟨rfl, hS, hb1⟩
  obtain ⟨g, hg⟩ : ∃ z, z = W0.heap.size := ⟨_, rfl⟩
  rw [← hg] at hS ⊢
  have HS := Lib.hid hS
  have HG := Lib.hid (grown_below (grown_of_below hb0 (some g)) hb1)
  have HW : Hid (gz ≤ W1.heap.size) := Lib.hid (by have := hb1.size; omega)
  replace HZ := Lib.hid (HZ.out.below hb1)
  have hgg : gz < g := by omega
  have hgw : w.heap.size ≤ g := by have := HGZ.out; omega
  have hz0 : w.heap.size ≤ gz := by have := HGZ.out; omega
  clear hS hb1 HA0 HL0 hb0 hg hn0
  go_wp2_with fail

  have HS0 := HS
  refine (l17Both_c g _ (by omega) _ HS.out).mono ?_
  rintro e W2 ⟨A, xs, n, c, B, ps, m, e, rfl, hxl, hn5, hxs, hpl, hm7, ho1, ho2, hS, hg⟩
  replace HS := Lib.hid hS
  replace HG := Lib.hid (grown_trans HG.out hg)
  replace HZ := Lib.hid (HZ.out.grown hg (by intro e; injection e; omega))
  replace HW := Lib.hid (Nat.le_trans HW.out hg.size)
  clear hS hg
  have HXL := Lib.hid hxl
  have HXS := Lib.hid hxs
  have HPL := Lib.hid hpl
  have hbs := own_at ho1
  have hbs2 := own_at ho2
  have hw1 : g < W1.heap.size := HS0.out.lt
  have HO := Lib.hid (own_base ho1 (base' := g + 1) (by omega))
  have HP := Lib.hid (own_base ho2 (base' := g + 1) (by omega))
  have HOZ := Lib.hid (own_at HO.out)
  have HPZ := Lib.hid (own_at HP.out)
  clear hxl hxs hpl ho1 ho2 hbs hbs2 HS0
  go_wp2_with fail
  obtain ⟨W3, hWW3⟩ : ∃ z, z = World.alloc W2 (Obj.cells #[Value.slice B m e] 27) := ⟨_, rfl⟩
  obtain ⟨gx, hggx⟩ : ∃ z, z = (W2).heap.size := ⟨_, rfl⟩
  have HX : Hid (Blk W3 gx 27 #[Value.slice B m e]) := Lib.hid (by rw [hWW3, hggx]; exact Blk.new _ _ _)
  have hb : Below (W2).heap.size W2 W3 := by rw [hWW3]; exact bl_alloc (Below.refl (W2).heap.size (W2)) _
  have hgx0 : gz ≤ gx := by rw [hggx]; exact HW.out
  have hgx1 : g < gx := by have h : g < (W2).heap.size := HS.out.lt; omega
  have hgx_HZ := Nat.ne_of_lt (hggx ▸ HZ.out.lt)
  replace HS := Lib.hid (HS.out.below hb)
  replace HG := Lib.hid (grown_below HG.out hb)
  replace HO := Lib.hid (own_below HO.out hb)
  replace HP := Lib.hid (own_below HP.out hb)
  replace HZ := Lib.hid (HZ.out.below hb)
  replace HW := Lib.hid (Nat.le_trans HW.out (hb).size)
  have hn_W3 : gx + 1 = W3.heap.size := by rw [hWW3, hggx]; exact (World.size_alloc _ _).symm
  rw [← hWW3, ← hggx]
  clear hWW3 hggx hb
  refine (one_c g _ 8 (by omega) (by omega) _ HS.out).mono ?_
  rintro e W4 ⟨bb, rfl, hS, hg⟩
  replace HS := Lib.hid hS
  replace HG := Lib.hid (grown_trans HG.out hg)
  replace HO := Lib.hid (HO.out.kept hg (.inr (fun e => by have := own_at HO.out g e; omega)))
  replace HP := Lib.hid (HP.out.kept hg (.inr (fun e => by have := own_at HP.out g e; omega)))
  replace HZ := Lib.hid (HZ.out.grown hg (by intro e; injection e; omega))
  replace HX := Lib.hid (HX.out.grown hg (by intro e; injection e; omega))
  replace HW := Lib.hid (Nat.le_trans HW.out hg.size)
  clear hS hg
  cases bb
  · skip
    go_wp2_with fail
    refine wp_region_held_drew (S := fun w' => Blk w' gx 27 #[Value.slice B m e]) (by kernel_rfl) ?_ (fun _ => ?_)
    · exact (HX.out).below (Below.refl (W4).heap.size (W4)).drew
    replace HS := Lib.hid (HS.out.below (Below.refl (W4).heap.size (W4)).drew)
    replace HG := Lib.hid (grown_below HG.out (Below.refl (W4).heap.size (W4)).drew)
    replace HO := Lib.hid (own_below HO.out (Below.refl (W4).heap.size (W4)).drew)
    replace HP := Lib.hid (own_below HP.out (Below.refl (W4).heap.size (W4)).drew)
    replace HZ := Lib.hid (HZ.out.below (Below.refl (W4).heap.size (W4)).drew)
    replace HX := Lib.hid (HX.out.below (Below.refl (W4).heap.size (W4)).drew)
    replace HW := Lib.hid (Nat.le_trans HW.out ((Below.refl (W4).heap.size (W4)).drew).size)
    refine wpAnyH_take (i := 0) (oi := { dst := some 22, op := _, type := _, pos := _, after := _, guard := _ }) (v := ?_) rfl (by kernel_rfl) (by kernel_rfl) (by kernel_rfl) (fun _ _ _ h => h) (Or.inl ⟨by kernel_rfl, ?_⟩) (HX.out) ?_
    rotate_left
    · intro w hSw
      try dsimp only at hSw
      go_simp
      try with_reducible rfl
    try simp only [Act.put, List.setIfInBounds_toArray, List.set_cons_zero, List.set_cons_succ]
    refine wpAnyH_take (i := 1) (oi := { dst := some 23, op := _, type := _, pos := _, after := _, guard := _ }) (v := ?_) rfl (by kernel_rfl) (by kernel_rfl) (by kernel_rfl) (fun _ _ _ h => h) (Or.inl ⟨by kernel_rfl, ?_⟩) (HX.out) ?_
    rotate_left
    · intro w hSw
      try dsimp only at hSw
      have k0 : w.cell? ⟨gx, 0, none⟩ = some (.slice B m e) := hSw.cell 0
      go_simp
      try with_reducible rfl
    try simp only [Act.put, List.setIfInBounds_toArray, List.set_cons_zero, List.set_cons_succ]
    refine wpAnyH_take (i := 2) (oi := { dst := some 24, op := _, type := _, pos := _, after := _, guard := _ }) (v := ?_) rfl (by kernel_rfl) (by kernel_rfl) (by kernel_rfl) (fun _ _ _ h => h) (Or.inl ⟨by kernel_rfl, ?_⟩) (HX.out) ?_
    rotate_left
    · intro w hSw
      try dsimp only at hSw
      go_simp
      try with_reducible rfl
    try simp only [Act.put, List.setIfInBounds_toArray, List.set_cons_zero, List.set_cons_succ]
    refine wpAnyH_ready (rs := [3]) (by kernel_rfl) (by simp) ?_
    refine (AllReadyH.cons (o := { dst := some 25, op := _, type := _, pos := _, after := _, guard := _ }) rfl (fun K hK => ?_) AllReadyH.nil)
    go_simp
    refine (pick_c g _ 30 (by omega) (by omega) _ HS.out).mono ?_
    rintro e W5 ⟨v, rfl, v0, v1, hS, hg⟩
    replace HS := Lib.hid hS
    replace HG := Lib.hid (grown_trans HG.out hg)
    replace HO := Lib.hid (HO.out.kept hg (.inr (fun e => by have := own_at HO.out g e; omega)))
    replace HP := Lib.hid (HP.out.kept hg (.inr (fun e => by have := own_at HP.out g e; omega)))
    replace HZ := Lib.hid (HZ.out.grown hg (by intro e; injection e; omega))
    replace HX := Lib.hid (HX.out.grown hg (by intro e; injection e; omega))
    replace HW := Lib.hid (Nat.le_trans HW.out hg.size)
    clear hS hg
    go_wp2_with fail

    refine hK.out _ _ (HX.out) (fun _ => ?_)
    clear hK K
    try simp only [Act.put, List.setIfInBounds_toArray, List.set_cons_zero, List.set_cons_succ]
    refine wpAnyH_take (i := 4) (oi := { dst := some 26, op := _, type := _, pos := _, after := _, guard := _ }) (v := ?_) rfl (by kernel_rfl) (by kernel_rfl) (by kernel_rfl) (fun _ _ _ h => h) (Or.inl ⟨by kernel_rfl, ?_⟩) (HX.out) ?_
    rotate_left
    · intro w hSw
      try dsimp only at hSw
      go_simp
      try with_reducible rfl
    try simp only [Act.put, List.setIfInBounds_toArray, List.set_cons_zero, List.set_cons_succ]
    refine wpAnyH_ready (rs := [5]) (by kernel_rfl) (by simp) ?_
    refine (AllReadyH.cons (o := { dst := some 2, op := _, type := _, pos := _, after := _, guard := _ }) rfl (fun K hK => ?_) AllReadyH.nil)
    go_simp
    refine hK.out _ _ (HX.out) (fun _ => ?_)
    clear hK K
    try simp only [Act.put, List.setIfInBounds_toArray, List.set_cons_zero, List.set_cons_succ]
    refine wpAnyH_ready (rs := [6]) (by kernel_rfl) (by simp) ?_
    refine (AllReadyH.cons (o := { dst := none, op := _, type := _, pos := _, after := _, guard := _ }) rfl (fun K hK => ?_) AllReadyH.nil)
    have k0 : World.cell? (W5) ⟨gz, 0, none⟩ = some (.slice none 0 0) := HZ.out.cell 0
    have f0 := HZ.out.frozen 0
    go_simp
    clear k0 f0 HS
    obtain ⟨W10, hW⟩ : ∃ z, z = World.setCell W5 ⟨gz, 0, none⟩ (Value.slice B m e) := ⟨_, rfl⟩
    replace HZ := Lib.hid (HZ.out.set_ 0 (Value.slice B m e))
    replace HG := Lib.hid (grown_setCell (p := ⟨gz, 0, none⟩) HG.out (.inr (by simp only; omega)) (Value.slice B m e))
    replace HO := Lib.hid (own_far HO.out (p := ⟨gz, 0, none⟩) (fun k e => by have := HOZ.out k e; simp only; omega) (Value.slice B m e))
    replace HP := Lib.hid (own_far HP.out (p := ⟨gz, 0, none⟩) (fun k e => by have := HPZ.out k e; simp only; omega) (Value.slice B m e))
    replace HX := Lib.hid (HX.out.far (p := ⟨gz, 0, none⟩) (by simp only; omega) (Value.slice B m e))
    replace HW := Lib.hid (show gz ≤ (World.setCell W5 ⟨gz, 0, none⟩ (Value.slice B m e)).heap.size by rw [World.size_setCell]; exact HW.out)
    rw [← hW] at HG HW HO HP HZ HX ⊢
    clear hW
    replace HZ : Hid (Blk W10 gz 27 #[Value.slice B m e]) := HZ

    refine hK.out _ _ (HX.out) (fun _ => ?_)
    clear hK K
    try simp only [Act.put]
    refine wpAnyH_ready (rs := [7]) (by kernel_rfl) (by simp) ?_
    refine (AllReadyH.cons (o := { dst := some 4, op := _, type := _, pos := _, after := _, guard := _ }) rfl (fun K hK => ?_) AllReadyH.nil)
    go_simp
    refine hK.out _ _ (HX.out) (fun _ => ?_)
    clear hK K
    try simp only [Act.put, List.setIfInBounds_toArray, List.set_cons_zero, List.set_cons_succ]
    refine wpAnyH_done (by kernel_rfl) ?_ _
    have m0 : W10.cell? ⟨gz, 0, none⟩ = some (.slice B m e) := HZ.out.cell 0
    go_wp2_with fail
    try simp only [Exit.inBlock, Exit.then]
    refine bodyPost_ret (v := .tuple #[.slice A n c, .agg #[.slice B m e], .int .i64 (IntKind.i64.wrap (5 * v))]) (by simp [results, Try.results6, go_sem, m0]) rfl ?_
    exact ⟨A, xs, n, c, B, ps, m, e, _, rfl, HXL.out, hn5, HXS.out, HPL.out, hm7, own_base HO.out (by omega), own_base HP.out (by omega), bl_grown (Below.refl _ _) HG.out (fun k e => by injection e with e; omega)⟩
  · skip
    go_wp2_with fail
    refine wp_region_held_drew (S := fun w' => Blk w' gx 27 #[Value.slice B m e]) (by kernel_rfl) ?_ (fun _ => ?_)
    · exact (HX.out).below (Below.refl (W4).heap.size (W4)).drew
    replace HS := Lib.hid (HS.out.below (Below.refl (W4).heap.size (W4)).drew)
    replace HG := Lib.hid (grown_below HG.out (Below.refl (W4).heap.size (W4)).drew)
    replace HO := Lib.hid (own_below HO.out (Below.refl (W4).heap.size (W4)).drew)
    replace HP := Lib.hid (own_below HP.out (Below.refl (W4).heap.size (W4)).drew)
    replace HZ := Lib.hid (HZ.out.below (Below.refl (W4).heap.size (W4)).drew)
    replace HX := Lib.hid (HX.out.below (Below.refl (W4).heap.size (W4)).drew)
    replace HW := Lib.hid (Nat.le_trans HW.out ((Below.refl (W4).heap.size (W4)).drew).size)
    refine wpAnyH_take (i := 0) (oi := { dst := some 17, op := _, type := _, pos := _, after := _, guard := _ }) (v := ?_) rfl (by kernel_rfl) (by kernel_rfl) (by kernel_rfl) (fun _ _ _ h => h) (Or.inl ⟨by kernel_rfl, ?_⟩) (HX.out) ?_
    rotate_left
    · intro w hSw
      try dsimp only at hSw
      go_simp
      try with_reducible rfl
    try simp only [Act.put, List.setIfInBounds_toArray, List.set_cons_zero, List.set_cons_succ]
    refine wpAnyH_take (i := 1) (oi := { dst := some 18, op := _, type := _, pos := _, after := _, guard := _ }) (v := ?_) rfl (by kernel_rfl) (by kernel_rfl) (by kernel_rfl) (fun _ _ _ h => h) (Or.inl ⟨by kernel_rfl, ?_⟩) (HX.out) ?_
    rotate_left
    · intro w hSw
      try dsimp only at hSw
      have k0 : w.cell? ⟨gx, 0, none⟩ = some (.slice B m e) := hSw.cell 0
      go_simp
      try with_reducible rfl
    try simp only [Act.put, List.setIfInBounds_toArray, List.set_cons_zero, List.set_cons_succ]
    refine wpAnyH_take (i := 2) (oi := { dst := some 19, op := _, type := _, pos := _, after := _, guard := _ }) (v := ?_) rfl (by kernel_rfl) (by kernel_rfl) (by kernel_rfl) (fun _ _ _ h => h) (Or.inl ⟨by kernel_rfl, ?_⟩) (HX.out) ?_
    rotate_left
    · intro w hSw
      try dsimp only at hSw
      go_simp
      try with_reducible rfl
    try simp only [Act.put, List.setIfInBounds_toArray, List.set_cons_zero, List.set_cons_succ]
    refine wpAnyH_ready (rs := [3]) (by kernel_rfl) (by simp) ?_
    refine (AllReadyH.cons (o := { dst := some 20, op := _, type := _, pos := _, after := _, guard := _ }) rfl (fun K hK => ?_) AllReadyH.nil)
    go_simp
    obtain ⟨W5, hWW5⟩ : ∃ z, z = (World.alloc W4 (Obj.cells #[Value.int IntKind.i64 (-1), Value.int IntKind.i64 0, Value.int IntKind.i64 1200, Value.int IntKind.i64 9223372036854775807] 2)).drew := ⟨_, rfl⟩
    obtain ⟨gl, hggl⟩ : ∃ z, z = (W4).heap.size := ⟨_, rfl⟩
    have HL : Hid (Blk W5 gl 2 #[Value.int IntKind.i64 (-1), Value.int IntKind.i64 0, Value.int IntKind.i64 1200, Value.int IntKind.i64 9223372036854775807]) := Lib.hid (by rw [hWW5, hggl]; exact Blk.new W4 _ _)
    have hb : Below ((W4).drew).heap.size (W4).drew W5 := by rw [hWW5]; exact bl_alloc (Below.refl ((W4).drew).heap.size ((W4).drew)) _
    have hgl0 : gz ≤ gl := by rw [hggl]; exact HW.out
    have hgl1 : g < gl := by have h : g < (W4).heap.size := HS.out.lt; omega
    have hgl_HZ := Nat.ne_of_lt (hggl ▸ HZ.out.lt)
    have hgl_HX := Nat.ne_of_lt (hggl ▸ HX.out.lt)
    replace HS := Lib.hid (HS.out.below hb)
    replace HG := Lib.hid (grown_below HG.out hb)
    replace HO := Lib.hid (own_below HO.out hb)
    replace HP := Lib.hid (own_below HP.out hb)
    replace HZ := Lib.hid (HZ.out.below hb)
    replace HX := Lib.hid (HX.out.below hb)
    replace HW := Lib.hid (Nat.le_trans HW.out (hb).size)
    have hn_W5 : gl + 1 = W5.heap.size := by rw [hWW5, hggl]; exact (World.size_alloc W4 _).symm
    rw [← hWW5, ← hggl]
    clear hWW5 hggl hb

    refine hK.out _ _ (HX.out) (fun _ => ?_)
    clear hK K
    try simp only [Act.put, List.setIfInBounds_toArray, List.set_cons_zero, List.set_cons_succ]
    refine wpAnyH_ready (rs := [4]) (by kernel_rfl) (by simp) ?_
    refine (AllReadyH.cons (o := { dst := some 21, op := _, type := _, pos := _, after := _, guard := _ }) rfl (fun K hK => ?_) AllReadyH.nil)
    go_simp
    have hA : Arr W5 (some ⟨gl, 0, none⟩) (flat icell [-1, 0, 1200, 9223372036854775807]) := arr_of_blk HL.out
    refine (among_c g _ _ [-1, 0, 1200, 9223372036854775807] 4 4 (Lib.hid rfl) (by omega) (by omega) (by omega) _ HS.out hA (fun ad e => by injection e with e; subst e; simp only; omega)).mono ?_
    rintro e W6 ⟨v, hv, rfl, hS, hg⟩
    replace HS := Lib.hid hS
    replace HG := Lib.hid (grown_trans HG.out hg)
    replace HO := Lib.hid (HO.out.kept hg (.inr (fun e => by have := own_at HO.out g e; omega)))
    replace HP := Lib.hid (HP.out.kept hg (.inr (fun e => by have := own_at HP.out g e; omega)))
    replace HZ := Lib.hid (HZ.out.grown hg (by intro e; injection e; omega))
    replace HX := Lib.hid (HX.out.grown hg (by intro e; injection e; omega))
    replace HL := Lib.hid (HL.out.grown hg (by intro e; injection e; omega))
    replace HW := Lib.hid (Nat.le_trans HW.out hg.size)
    clear hS hg
    clear hv hA
    clear HL
    go_wp2_with fail

    refine hK.out _ _ (HX.out) (fun _ => ?_)
    clear hK K
    try simp only [Act.put, List.setIfInBounds_toArray, List.set_cons_zero, List.set_cons_succ]
    refine wpAnyH_ready (rs := [5]) (by kernel_rfl) (by simp) ?_
    refine (AllReadyH.cons (o := { dst := some 2, op := _, type := _, pos := _, after := _, guard := _ }) rfl (fun K hK => ?_) AllReadyH.nil)
    go_simp
    refine hK.out _ _ (HX.out) (fun _ => ?_)
    clear hK K
    try simp only [Act.put, List.setIfInBounds_toArray, List.set_cons_zero, List.set_cons_succ]
    refine wpAnyH_ready (rs := [6]) (by kernel_rfl) (by simp) ?_
    refine (AllReadyH.cons (o := { dst := none, op := _, type := _, pos := _, after := _, guard := _ }) rfl (fun K hK => ?_) AllReadyH.nil)
    have k0 : World.cell? (W6) ⟨gz, 0, none⟩ = some (.slice none 0 0) := HZ.out.cell 0
    have f0 := HZ.out.frozen 0
    go_simp
    clear k0 f0 HS
    obtain ⟨W10, hW⟩ : ∃ z, z = World.setCell W6 ⟨gz, 0, none⟩ (Value.slice B m e) := ⟨_, rfl⟩
    replace HZ := Lib.hid (HZ.out.set_ 0 (Value.slice B m e))
    replace HG := Lib.hid (grown_setCell (p := ⟨gz, 0, none⟩) HG.out (.inr (by simp only; omega)) (Value.slice B m e))
    replace HO := Lib.hid (own_far HO.out (p := ⟨gz, 0, none⟩) (fun k e => by have := HOZ.out k e; simp only; omega) (Value.slice B m e))
    replace HP := Lib.hid (own_far HP.out (p := ⟨gz, 0, none⟩) (fun k e => by have := HPZ.out k e; simp only; omega) (Value.slice B m e))
    replace HX := Lib.hid (HX.out.far (p := ⟨gz, 0, none⟩) (by simp only; omega) (Value.slice B m e))
    replace HW := Lib.hid (show gz ≤ (World.setCell W6 ⟨gz, 0, none⟩ (Value.slice B m e)).heap.size by rw [World.size_setCell]; exact HW.out)
    rw [← hW] at HG HW HO HP HZ HX ⊢
    clear hW
    replace HZ : Hid (Blk W10 gz 27 #[Value.slice B m e]) := HZ

    refine hK.out _ _ (HX.out) (fun _ => ?_)
    clear hK K
    try simp only [Act.put]
    refine wpAnyH_ready (rs := [7]) (by kernel_rfl) (by simp) ?_
    refine (AllReadyH.cons (o := { dst := some 4, op := _, type := _, pos := _, after := _, guard := _ }) rfl (fun K hK => ?_) AllReadyH.nil)
    go_simp
    refine hK.out _ _ (HX.out) (fun _ => ?_)
    clear hK K
    try simp only [Act.put, List.setIfInBounds_toArray, List.set_cons_zero, List.set_cons_succ]
    refine wpAnyH_done (by kernel_rfl) ?_ _
    have m0 : W10.cell? ⟨gz, 0, none⟩ = some (.slice B m e) := HZ.out.cell 0
    go_wp2_with fail
    try simp only [Exit.inBlock, Exit.then]
    refine bodyPost_ret (v := .tuple #[.slice A n c, .agg #[.slice B m e], .int .i64 (v)]) (by simp [results, Try.results6, go_sem, m0]) rfl ?_
    exact ⟨A, xs, n, c, B, ps, m, e, _, rfl, HXL.out, hn5, HXS.out, HPL.out, hm7, own_base HO.out (by omega), own_base HP.out (by omega), bl_grown (Below.refl _ _) HG.out (fun k e => by injection e with e; omega)⟩
set_option maxRecDepth 100000 in
set_option maxHeartbeats 2000000 in
theorem DrawGramsOf_c (C : Option Addr) (nn cc : Nat) (cs : List UInt8) (hnn : Hid (cs.length = nn)) (hnb : nn ≤ 1048576) (w : World) (hA : Arr w C (cs.map bvS)) (hlt : ∀ ad, C = some ad → ad.block < w.heap.size) : Calls Try.prog 17 #[.slice C nn cc] w (OutOnly w) := by
  have HL0 := Lib.hid hlt
  have HA0 := Lib.hid hA
  clear hlt hA
  go_enter Try.func17, Try.ntmps17
  go_wp2_with fail
  obtain ⟨W0, hW0⟩ : ∃ z, z = w.alloc (Obj.cells #[Value.slice none 0 0] 27) := ⟨_, rfl⟩
  obtain ⟨gz, hgz⟩ : ∃ z, z = w.heap.size := ⟨_, rfl⟩
  have HZ : Hid (Blk W0 gz 27 #[Value.slice none 0 0]) := Lib.hid (by rw [hW0, hgz]; exact Blk.new _ _ _)
  have hb0 : Below w.heap.size w W0 := by rw [hW0]; exact bl_alloc (Below.refl _ _) _
  have hn0 : gz + 1 = W0.heap.size := by rw [hW0, hgz]; exact (World.size_alloc _ _).symm
  have HGZ := Lib.hid hgz
  have HB0 := Lib.hid hb0
  rw [← hW0, ← hgz]
  clear hW0 hgz
  refine (l00From_c C nn cc cs hnn hnb W0 (HA0.out.below hb0) (fun ad e => Nat.lt_of_lt_of_le (HL0.out ad e) hb0.size)).mono ?_
  rintro e W1 ⟨rfl, hS, hb1⟩
  obtain ⟨g, hg⟩ : ∃ z, z = W0.heap.size := ⟨_, rfl⟩
  rw [← hg] at hS ⊢
  have HS := Lib.hid hS
  have HG := Lib.hid (grown_below (grown_of_below hb0 (some g)) hb1)
  have HW : Hid (gz ≤ W1.heap.size) := Lib.hid (by have := hb1.size; omega)
  replace HZ := Lib.hid (HZ.out.below hb1)
  have hgg : gz < g := by omega
  have hgw : w.heap.size ≤ g := by have := HGZ.out; omega
  have hz0 : w.heap.size ≤ gz := by have := HGZ.out; omega
  clear hS hb1 HA0 HL0 hb0 hg hn0
  go_wp2_with fail

  have HS0 := HS
  refine (l17Both_c g _ (by omega) _ HS.out).mono ?_
  rintro e W2 ⟨A, xs, n, c, B, ps, m, e, rfl, hxl, hn5, hxs, hpl, hm7, ho1, ho2, hS, hg⟩
  replace HS := Lib.hid hS
  replace HG := Lib.hid (grown_trans HG.out hg)
  replace HZ := Lib.hid (HZ.out.grown hg (by intro e; injection e; omega))
  replace HW := Lib.hid (Nat.le_trans HW.out hg.size)
  clear hS hg
  have HXL := Lib.hid hxl
  have HXS := Lib.hid hxs
  have HPL := Lib.hid hpl
  have hbs := own_at ho1
  have hbs2 := own_at ho2
  have hw1 : g < W1.heap.size := HS0.out.lt
  have HO := Lib.hid (own_base ho1 (base' := g + 1) (by omega))
  have HP := Lib.hid (own_base ho2 (base' := g + 1) (by omega))
  have HOZ := Lib.hid (own_at HO.out)
  have HPZ := Lib.hid (own_at HP.out)
  clear hxl hxs hpl ho1 ho2 hbs hbs2 HS0
  go_wp2_with fail
  obtain ⟨W3, hWW3⟩ : ∃ z, z = World.alloc W2 (Obj.cells #[Value.slice B m e] 27) := ⟨_, rfl⟩
  obtain ⟨gx, hggx⟩ : ∃ z, z = (W2).heap.size := ⟨_, rfl⟩
  have HX : Hid (Blk W3 gx 27 #[Value.slice B m e]) := Lib.hid (by rw [hWW3, hggx]; exact Blk.new _ _ _)
  have hb : Below (W2).heap.size W2 W3 := by rw [hWW3]; exact bl_alloc (Below.refl (W2).heap.size (W2)) _
  have hgx0 : gz ≤ gx := by rw [hggx]; exact HW.out
  have hgx1 : g < gx := by have h : g < (W2).heap.size := HS.out.lt; omega
  have hgx_HZ := Nat.ne_of_lt (hggx ▸ HZ.out.lt)
  replace HS := Lib.hid (HS.out.below hb)
  replace HG := Lib.hid (grown_below HG.out hb)
  replace HO := Lib.hid (own_below HO.out hb)
  replace HP := Lib.hid (own_below HP.out hb)
  replace HZ := Lib.hid (HZ.out.below hb)
  replace HW := Lib.hid (Nat.le_trans HW.out (hb).size)
  have hn_W3 : gx + 1 = W3.heap.size := by rw [hWW3, hggx]; exact (World.size_alloc _ _).symm
  rw [← hWW3, ← hggx]
  clear hWW3 hggx hb
  refine (one_c g _ 8 (by omega) (by omega) _ HS.out).mono ?_
  rintro e W4 ⟨bb, rfl, hS, hg⟩
  replace HS := Lib.hid hS
  replace HG := Lib.hid (grown_trans HG.out hg)
  replace HO := Lib.hid (HO.out.kept hg (.inr (fun e => by have := own_at HO.out g e; omega)))
  replace HP := Lib.hid (HP.out.kept hg (.inr (fun e => by have := own_at HP.out g e; omega)))
  replace HZ := Lib.hid (HZ.out.grown hg (by intro e; injection e; omega))
  replace HX := Lib.hid (HX.out.grown hg (by intro e; injection e; omega))
  replace HW := Lib.hid (Nat.le_trans HW.out hg.size)
  clear hS hg
  cases bb
  · skip
    go_wp2_with fail
    refine wp_region_held_drew (S := fun w' => Blk w' gx 27 #[Value.slice B m e]) (by kernel_rfl) ?_ (fun _ => ?_)
    · exact (HX.out).below (Below.refl (W4).heap.size (W4)).drew
    replace HS := Lib.hid (HS.out.below (Below.refl (W4).heap.size (W4)).drew)
    replace HG := Lib.hid (grown_below HG.out (Below.refl (W4).heap.size (W4)).drew)
    replace HO := Lib.hid (own_below HO.out (Below.refl (W4).heap.size (W4)).drew)
    replace HP := Lib.hid (own_below HP.out (Below.refl (W4).heap.size (W4)).drew)
    replace HZ := Lib.hid (HZ.out.below (Below.refl (W4).heap.size (W4)).drew)
    replace HX := Lib.hid (HX.out.below (Below.refl (W4).heap.size (W4)).drew)
    replace HW := Lib.hid (Nat.le_trans HW.out ((Below.refl (W4).heap.size (W4)).drew).size)
    refine wpAnyH_take (i := 0) (oi := { dst := some 22, op := _, type := _, pos := _, after := _, guard := _ }) (v := ?_) rfl (by kernel_rfl) (by kernel_rfl) (by kernel_rfl) (fun _ _ _ h => h) (Or.inl ⟨by kernel_rfl, ?_⟩) (HX.out) ?_
    rotate_left
    · intro w hSw
      try dsimp only at hSw
      go_simp
      try with_reducible rfl
    try simp only [Act.put, List.setIfInBounds_toArray, List.set_cons_zero, List.set_cons_succ]
    refine wpAnyH_take (i := 1) (oi := { dst := some 23, op := _, type := _, pos := _, after := _, guard := _ }) (v := ?_) rfl (by kernel_rfl) (by kernel_rfl) (by kernel_rfl) (fun _ _ _ h => h) (Or.inl ⟨by kernel_rfl, ?_⟩) (HX.out) ?_
    rotate_left
    · intro w hSw
      try dsimp only at hSw
      have k0 : w.cell? ⟨gx, 0, none⟩ = some (.slice B m e) := hSw.cell 0
      go_simp
      try with_reducible rfl
    try simp only [Act.put, List.setIfInBounds_toArray, List.set_cons_zero, List.set_cons_succ]
    refine wpAnyH_take (i := 2) (oi := { dst := some 24, op := _, type := _, pos := _, after := _, guard := _ }) (v := ?_) rfl (by kernel_rfl) (by kernel_rfl) (by kernel_rfl) (fun _ _ _ h => h) (Or.inl ⟨by kernel_rfl, ?_⟩) (HX.out) ?_
    rotate_left
    · intro w hSw
      try dsimp only at hSw
      go_simp
      try with_reducible rfl
    try simp only [Act.put, List.setIfInBounds_toArray, List.set_cons_zero, List.set_cons_succ]
    refine wpAnyH_ready (rs := [3]) (by kernel_rfl) (by simp) ?_
    refine (AllReadyH.cons (o := { dst := some 25, op := _, type := _, pos := _, after := _, guard := _ }) rfl (fun K hK => ?_) AllReadyH.nil)
    go_simp
    refine (pick_c g _ 300 (by omega) (by omega) _ HS.out).mono ?_
    rintro e W5 ⟨v, rfl, v0, v1, hS, hg⟩
    replace HS := Lib.hid hS
    replace HG := Lib.hid (grown_trans HG.out hg)
    replace HO := Lib.hid (HO.out.kept hg (.inr (fun e => by have := own_at HO.out g e; omega)))
    replace HP := Lib.hid (HP.out.kept hg (.inr (fun e => by have := own_at HP.out g e; omega)))
    replace HZ := Lib.hid (HZ.out.grown hg (by intro e; injection e; omega))
    replace HX := Lib.hid (HX.out.grown hg (by intro e; injection e; omega))
    replace HW := Lib.hid (Nat.le_trans HW.out hg.size)
    clear hS hg
    go_wp2_with fail

    refine hK.out _ _ (HX.out) (fun _ => ?_)
    clear hK K
    try simp only [Act.put, List.setIfInBounds_toArray, List.set_cons_zero, List.set_cons_succ]
    refine wpAnyH_take (i := 4) (oi := { dst := some 26, op := _, type := _, pos := _, after := _, guard := _ }) (v := ?_) rfl (by kernel_rfl) (by kernel_rfl) (by kernel_rfl) (fun _ _ _ h => h) (Or.inl ⟨by kernel_rfl, ?_⟩) (HX.out) ?_
    rotate_left
    · intro w hSw
      try dsimp only at hSw
      go_simp
      try with_reducible rfl
    try simp only [Act.put, List.setIfInBounds_toArray, List.set_cons_zero, List.set_cons_succ]
    refine wpAnyH_ready (rs := [5]) (by kernel_rfl) (by simp) ?_
    refine (AllReadyH.cons (o := { dst := some 2, op := _, type := _, pos := _, after := _, guard := _ }) rfl (fun K hK => ?_) AllReadyH.nil)
    go_simp
    refine hK.out _ _ (HX.out) (fun _ => ?_)
    clear hK K
    try simp only [Act.put, List.setIfInBounds_toArray, List.set_cons_zero, List.set_cons_succ]
    refine wpAnyH_ready (rs := [6]) (by kernel_rfl) (by simp) ?_
    refine (AllReadyH.cons (o := { dst := none, op := _, type := _, pos := _, after := _, guard := _ }) rfl (fun K hK => ?_) AllReadyH.nil)
    have k0 : World.cell? (W5) ⟨gz, 0, none⟩ = some (.slice none 0 0) := HZ.out.cell 0
    have f0 := HZ.out.frozen 0
    go_simp
    clear k0 f0 HS
    obtain ⟨W10, hW⟩ : ∃ z, z = World.setCell W5 ⟨gz, 0, none⟩ (Value.slice B m e) := ⟨_, rfl⟩
    replace HZ := Lib.hid (HZ.out.set_ 0 (Value.slice B m e))
    replace HG := Lib.hid (grown_setCell (p := ⟨gz, 0, none⟩) HG.out (.inr (by simp only; omega)) (Value.slice B m e))
    replace HO := Lib.hid (own_far HO.out (p := ⟨gz, 0, none⟩) (fun k e => by have := HOZ.out k e; simp only; omega) (Value.slice B m e))
    replace HP := Lib.hid (own_far HP.out (p := ⟨gz, 0, none⟩) (fun k e => by have := HPZ.out k e; simp only; omega) (Value.slice B m e))
    replace HX := Lib.hid (HX.out.far (p := ⟨gz, 0, none⟩) (by simp only; omega) (Value.slice B m e))
    replace HW := Lib.hid (show gz ≤ (World.setCell W5 ⟨gz, 0, none⟩ (Value.slice B m e)).heap.size by rw [World.size_setCell]; exact HW.out)
    rw [← hW] at HG HW HO HP HZ HX ⊢
    clear hW
    replace HZ : Hid (Blk W10 gz 27 #[Value.slice B m e]) := HZ

    refine hK.out _ _ (HX.out) (fun _ => ?_)
    clear hK K
    try simp only [Act.put]
    refine wpAnyH_ready (rs := [7]) (by kernel_rfl) (by simp) ?_
    refine (AllReadyH.cons (o := { dst := some 4, op := _, type := _, pos := _, after := _, guard := _ }) rfl (fun K hK => ?_) AllReadyH.nil)
    go_simp
    refine hK.out _ _ (HX.out) (fun _ => ?_)
    clear hK K
    try simp only [Act.put, List.setIfInBounds_toArray, List.set_cons_zero, List.set_cons_succ]
    refine wpAnyH_done (by kernel_rfl) ?_ _
    have m0 : W10.cell? ⟨gz, 0, none⟩ = some (.slice B m e) := HZ.out.cell 0
    go_wp2_with fail
    try simp only [Exit.inBlock, Exit.then]
    refine bodyPost_ret (v := .tuple #[.slice A n c, .agg #[.slice B m e], .int .i64 (IntKind.i64.wrap (100 + v))]) (by simp [results, Try.results17, go_sem, m0]) rfl ?_
    exact ⟨A, xs, n, c, B, ps, m, e, _, rfl, HXL.out, hn5, HXS.out, HPL.out, hm7, own_base HO.out (by omega), own_base HP.out (by omega), bl_grown (Below.refl _ _) HG.out (fun k e => by injection e with e; omega)⟩
  · skip
    go_wp2_with fail
    refine wp_region_held_drew (S := fun w' => Blk w' gx 27 #[Value.slice B m e]) (by kernel_rfl) ?_ (fun _ => ?_)
    · exact (HX.out).below (Below.refl (W4).heap.size (W4)).drew
    replace HS := Lib.hid (HS.out.below (Below.refl (W4).heap.size (W4)).drew)
    replace HG := Lib.hid (grown_below HG.out (Below.refl (W4).heap.size (W4)).drew)
    replace HO := Lib.hid (own_below HO.out (Below.refl (W4).heap.size (W4)).drew)
    replace HP := Lib.hid (own_below HP.out (Below.refl (W4).heap.size (W4)).drew)
    replace HZ := Lib.hid (HZ.out.below (Below.refl (W4).heap.size (W4)).drew)
    replace HX := Lib.hid (HX.out.below (Below.refl (W4).heap.size (W4)).drew)
    replace HW := Lib.hid (Nat.le_trans HW.out ((Below.refl (W4).heap.size (W4)).drew).size)
    refine wpAnyH_take (i := 0) (oi := { dst := some 17, op := _, type := _, pos := _, after := _, guard := _ }) (v := ?_) rfl (by kernel_rfl) (by kernel_rfl) (by kernel_rfl) (fun _ _ _ h => h) (Or.inl ⟨by kernel_rfl, ?_⟩) (HX.out) ?_
    rotate_left
    · intro w hSw
      try dsimp only at hSw
      go_simp
      try with_reducible rfl
    try simp only [Act.put, List.setIfInBounds_toArray, List.set_cons_zero, List.set_cons_succ]
    refine wpAnyH_take (i := 1) (oi := { dst := some 18, op := _, type := _, pos := _, after := _, guard := _ }) (v := ?_) rfl (by kernel_rfl) (by kernel_rfl) (by kernel_rfl) (fun _ _ _ h => h) (Or.inl ⟨by kernel_rfl, ?_⟩) (HX.out) ?_
    rotate_left
    · intro w hSw
      try dsimp only at hSw
      have k0 : w.cell? ⟨gx, 0, none⟩ = some (.slice B m e) := hSw.cell 0
      go_simp
      try with_reducible rfl
    try simp only [Act.put, List.setIfInBounds_toArray, List.set_cons_zero, List.set_cons_succ]
    refine wpAnyH_take (i := 2) (oi := { dst := some 19, op := _, type := _, pos := _, after := _, guard := _ }) (v := ?_) rfl (by kernel_rfl) (by kernel_rfl) (by kernel_rfl) (fun _ _ _ h => h) (Or.inl ⟨by kernel_rfl, ?_⟩) (HX.out) ?_
    rotate_left
    · intro w hSw
      try dsimp only at hSw
      go_simp
      try with_reducible rfl
    try simp only [Act.put, List.setIfInBounds_toArray, List.set_cons_zero, List.set_cons_succ]
    refine wpAnyH_ready (rs := [3]) (by kernel_rfl) (by simp) ?_
    refine (AllReadyH.cons (o := { dst := some 20, op := _, type := _, pos := _, after := _, guard := _ }) rfl (fun K hK => ?_) AllReadyH.nil)
    go_simp
    obtain ⟨W5, hWW5⟩ : ∃ z, z = (World.alloc W4 (Obj.cells #[Value.int IntKind.i64 (-1), Value.int IntKind.i64 0, Value.int IntKind.i64 1, Value.int IntKind.i64 1000, Value.int IntKind.i64 1001] 2)).drew := ⟨_, rfl⟩
    obtain ⟨gl, hggl⟩ : ∃ z, z = (W4).heap.size := ⟨_, rfl⟩
    have HL : Hid (Blk W5 gl 2 #[Value.int IntKind.i64 (-1), Value.int IntKind.i64 0, Value.int IntKind.i64 1, Value.int IntKind.i64 1000, Value.int IntKind.i64 1001]) := Lib.hid (by rw [hWW5, hggl]; exact Blk.new W4 _ _)
    have hb : Below ((W4).drew).heap.size (W4).drew W5 := by rw [hWW5]; exact bl_alloc (Below.refl ((W4).drew).heap.size ((W4).drew)) _
    have hgl0 : gz ≤ gl := by rw [hggl]; exact HW.out
    have hgl1 : g < gl := by have h : g < (W4).heap.size := HS.out.lt; omega
    have hgl_HZ := Nat.ne_of_lt (hggl ▸ HZ.out.lt)
    have hgl_HX := Nat.ne_of_lt (hggl ▸ HX.out.lt)
    replace HS := Lib.hid (HS.out.below hb)
    replace HG := Lib.hid (grown_below HG.out hb)
    replace HO := Lib.hid (own_below HO.out hb)
    replace HP := Lib.hid (own_below HP.out hb)
    replace HZ := Lib.hid (HZ.out.below hb)
    replace HX := Lib.hid (HX.out.below hb)
    replace HW := Lib.hid (Nat.le_trans HW.out (hb).size)
    have hn_W5 : gl + 1 = W5.heap.size := by rw [hWW5, hggl]; exact (World.size_alloc W4 _).symm
    rw [← hWW5, ← hggl]
    clear hWW5 hggl hb

    refine hK.out _ _ (HX.out) (fun _ => ?_)
    clear hK K
    try simp only [Act.put, List.setIfInBounds_toArray, List.set_cons_zero, List.set_cons_succ]
    refine wpAnyH_ready (rs := [4]) (by kernel_rfl) (by simp) ?_
    refine (AllReadyH.cons (o := { dst := some 21, op := _, type := _, pos := _, after := _, guard := _ }) rfl (fun K hK => ?_) AllReadyH.nil)
    go_simp
    have hA : Arr W5 (some ⟨gl, 0, none⟩) (flat icell [-1, 0, 1, 1000, 1001]) := arr_of_blk HL.out
    refine (among_c g _ _ [-1, 0, 1, 1000, 1001] 5 5 (Lib.hid rfl) (by omega) (by omega) (by omega) _ HS.out hA (fun ad e => by injection e with e; subst e; simp only; omega)).mono ?_
    rintro e W6 ⟨v, hv, rfl, hS, hg⟩
    replace HS := Lib.hid hS
    replace HG := Lib.hid (grown_trans HG.out hg)
    replace HO := Lib.hid (HO.out.kept hg (.inr (fun e => by have := own_at HO.out g e; omega)))
    replace HP := Lib.hid (HP.out.kept hg (.inr (fun e => by have := own_at HP.out g e; omega)))
    replace HZ := Lib.hid (HZ.out.grown hg (by intro e; injection e; omega))
    replace HX := Lib.hid (HX.out.grown hg (by intro e; injection e; omega))
    replace HL := Lib.hid (HL.out.grown hg (by intro e; injection e; omega))
    replace HW := Lib.hid (Nat.le_trans HW.out hg.size)
    clear hS hg
    clear hv hA
    clear HL
    go_wp2_with fail

    refine hK.out _ _ (HX.out) (fun _ => ?_)
    clear hK K
    try simp only [Act.put, List.setIfInBounds_toArray, List.set_cons_zero, List.set_cons_succ]
    refine wpAnyH_ready (rs := [5]) (by kernel_rfl) (by simp) ?_
    refine (AllReadyH.cons (o := { dst := some 2, op := _, type := _, pos := _, after := _, guard := _ }) rfl (fun K hK => ?_) AllReadyH.nil)
    go_simp
    refine hK.out _ _ (HX.out) (fun _ => ?_)
    clear hK K
    try simp only [Act.put, List.setIfInBounds_toArray, List.set_cons_zero, List.set_cons_succ]
    refine wpAnyH_ready (rs := [6]) (by kernel_rfl) (by simp) ?_
    refine (AllReadyH.cons (o := { dst := none, op := _, type := _, pos := _, after := _, guard := _ }) rfl (fun K hK => ?_) AllReadyH.nil)
    have k0 : World.cell? (W6) ⟨gz, 0, none⟩ = some (.slice none 0 0) := HZ.out.cell 0
    have f0 := HZ.out.frozen 0
    go_simp
    clear k0 f0 HS
    obtain ⟨W10, hW⟩ : ∃ z, z = World.setCell W6 ⟨gz, 0, none⟩ (Value.slice B m e) := ⟨_, rfl⟩
    replace HZ := Lib.hid (HZ.out.set_ 0 (Value.slice B m e))
    replace HG := Lib.hid (grown_setCell (p := ⟨gz, 0, none⟩) HG.out (.inr (by simp only; omega)) (Value.slice B m e))
    replace HO := Lib.hid (own_far HO.out (p := ⟨gz, 0, none⟩) (fun k e => by have := HOZ.out k e; simp only; omega) (Value.slice B m e))
    replace HP := Lib.hid (own_far HP.out (p := ⟨gz, 0, none⟩) (fun k e => by have := HPZ.out k e; simp only; omega) (Value.slice B m e))
    replace HX := Lib.hid (HX.out.far (p := ⟨gz, 0, none⟩) (by simp only; omega) (Value.slice B m e))
    replace HW := Lib.hid (show gz ≤ (World.setCell W6 ⟨gz, 0, none⟩ (Value.slice B m e)).heap.size by rw [World.size_setCell]; exact HW.out)
    rw [← hW] at HG HW HO HP HZ HX ⊢
    clear hW
    replace HZ : Hid (Blk W10 gz 27 #[Value.slice B m e]) := HZ

    refine hK.out _ _ (HX.out) (fun _ => ?_)
    clear hK K
    try simp only [Act.put]
    refine wpAnyH_ready (rs := [7]) (by kernel_rfl) (by simp) ?_
    refine (AllReadyH.cons (o := { dst := some 4, op := _, type := _, pos := _, after := _, guard := _ }) rfl (fun K hK => ?_) AllReadyH.nil)
    go_simp
    refine hK.out _ _ (HX.out) (fun _ => ?_)
    clear hK K
    try simp only [Act.put, List.setIfInBounds_toArray, List.set_cons_zero, List.set_cons_succ]
    refine wpAnyH_done (by kernel_rfl) ?_ _
    have m0 : W10.cell? ⟨gz, 0, none⟩ = some (.slice B m e) := HZ.out.cell 0
    go_wp2_with fail
    try simp only [Exit.inBlock, Exit.then]
    refine bodyPost_ret (v := .tuple #[.slice A n c, .agg #[.slice B m e], .int .i64 (v)]) (by simp [results, Try.results17, go_sem, m0]) rfl ?_
    exact ⟨A, xs, n, c, B, ps, m, e, _, rfl, HXL.out, hn5, HXS.out, HPL.out, hm7, own_base HO.out (by omega), own_base HP.out (by omega), bl_grown (Below.refl _ _) HG.out (fun k e => by injection e with e; omega)⟩
set_option maxRecDepth 100000 in
set_option maxHeartbeats 2000000 in
theorem DrawGrooveDepth_c (C : Option Addr) (nn cc : Nat) (cs : List UInt8) (hnn : Hid (cs.length = nn)) (hnb : nn ≤ 1048576) (w : World) (hA : Arr w C (cs.map bvS)) (hlt : ∀ ad, C = some ad → ad.block < w.heap.size) : Calls Try.prog 20 #[.slice C nn cc] w (OutOnly w) := by
  have HL0 := Lib.hid hlt
  have HA0 := Lib.hid hA
  clear hlt hA
  go_enter Try.func20, Try.ntmps20
  go_wp2_with fail
  obtain ⟨W0, hW0⟩ : ∃ z, z = w.alloc (Obj.cells #[Value.slice none 0 0] 27) := ⟨_, rfl⟩
  obtain ⟨gz, hgz⟩ : ∃ z, z = w.heap.size := ⟨_, rfl⟩
  have HZ : Hid (Blk W0 gz 27 #[Value.slice none 0 0]) := Lib.hid (by rw [hW0, hgz]; exact Blk.new _ _ _)
  have hb0 : Below w.heap.size w W0 := by rw [hW0]; exact bl_alloc (Below.refl _ _) _
  have hn0 : gz + 1 = W0.heap.size := by rw [hW0, hgz]; exact (World.size_alloc _ _).symm
  have HGZ := Lib.hid hgz
  have HB0 := Lib.hid hb0
  rw [← hW0, ← hgz]
  clear hW0 hgz
  refine (l00From_c C nn cc cs hnn hnb W0 (HA0.out.below hb0) (fun ad e => Nat.lt_of_lt_of_le (HL0.out ad e) hb0.size)).mono ?_
  rintro e W1 ⟨rfl, hS, hb1⟩
  obtain ⟨g, hg⟩ : ∃ z, z = W0.heap.size := ⟨_, rfl⟩
  rw [← hg] at hS ⊢
  have HS := Lib.hid hS
  have HG := Lib.hid (grown_below (grown_of_below hb0 (some g)) hb1)
  have HW : Hid (gz ≤ W1.heap.size) := Lib.hid (by have := hb1.size; omega)
  replace HZ := Lib.hid (HZ.out.below hb1)
  have hgg : gz < g := by omega
  have hgw : w.heap.size ≤ g := by have := HGZ.out; omega
  have hz0 : w.heap.size ≤ gz := by have := HGZ.out; omega
  clear hS hb1 HA0 HL0 hb0 hg hn0
  go_wp2_with fail

  have HS0 := HS
  refine (l17Both_c g _ (by omega) _ HS.out).mono ?_
  rintro e W2 ⟨A, xs, n, c, B, ps, m, e, rfl, hxl, hn5, hxs, hpl, hm7, ho1, ho2, hS, hg⟩
  replace HS := Lib.hid hS
  replace HG := Lib.hid (grown_trans HG.out hg)
  replace HZ := Lib.hid (HZ.out.grown hg (by intro e; injection e; omega))
  replace HW := Lib.hid (Nat.le_trans HW.out hg.size)
  clear hS hg
  have HXL := Lib.hid hxl
  have HXS := Lib.hid hxs
  have HPL := Lib.hid hpl
  have hbs := own_at ho1
  have hbs2 := own_at ho2
  have hw1 : g < W1.heap.size := HS0.out.lt
  have HO := Lib.hid (own_base ho1 (base' := g + 1) (by omega))
  have HP := Lib.hid (own_base ho2 (base' := g + 1) (by omega))
  have HOZ := Lib.hid (own_at HO.out)
  have HPZ := Lib.hid (own_at HP.out)
  clear hxl hxs hpl ho1 ho2 hbs hbs2 HS0
  go_wp2_with fail
  obtain ⟨W3, hWW3⟩ : ∃ z, z = World.alloc W2 (Obj.cells #[Value.slice B m e] 27) := ⟨_, rfl⟩
  obtain ⟨gx, hggx⟩ : ∃ z, z = (W2).heap.size := ⟨_, rfl⟩
  have HX : Hid (Blk W3 gx 27 #[Value.slice B m e]) := Lib.hid (by rw [hWW3, hggx]; exact Blk.new _ _ _)
  have hb : Below (W2).heap.size W2 W3 := by rw [hWW3]; exact bl_alloc (Below.refl (W2).heap.size (W2)) _
  have hgx0 : gz ≤ gx := by rw [hggx]; exact HW.out
  have hgx1 : g < gx := by have h : g < (W2).heap.size := HS.out.lt; omega
  have hgx_HZ := Nat.ne_of_lt (hggx ▸ HZ.out.lt)
  replace HS := Lib.hid (HS.out.below hb)
  replace HG := Lib.hid (grown_below HG.out hb)
  replace HO := Lib.hid (own_below HO.out hb)
  replace HP := Lib.hid (own_below HP.out hb)
  replace HZ := Lib.hid (HZ.out.below hb)
  replace HW := Lib.hid (Nat.le_trans HW.out (hb).size)
  have hn_W3 : gx + 1 = W3.heap.size := by rw [hWW3, hggx]; exact (World.size_alloc _ _).symm
  rw [← hWW3, ← hggx]
  clear hWW3 hggx hb
  refine (one_c g _ 8 (by omega) (by omega) _ HS.out).mono ?_
  rintro e W4 ⟨bb, rfl, hS, hg⟩
  replace HS := Lib.hid hS
  replace HG := Lib.hid (grown_trans HG.out hg)
  replace HO := Lib.hid (HO.out.kept hg (.inr (fun e => by have := own_at HO.out g e; omega)))
  replace HP := Lib.hid (HP.out.kept hg (.inr (fun e => by have := own_at HP.out g e; omega)))
  replace HZ := Lib.hid (HZ.out.grown hg (by intro e; injection e; omega))
  replace HX := Lib.hid (HX.out.grown hg (by intro e; injection e; omega))
  replace HW := Lib.hid (Nat.le_trans HW.out hg.size)
  clear hS hg
  cases bb
  · skip
    go_wp2_with fail
    refine wp_region_held_drew (S := fun w' => Blk w' gx 27 #[Value.slice B m e]) (by kernel_rfl) ?_ (fun _ => ?_)
    · exact (HX.out).below (Below.refl (W4).heap.size (W4)).drew
    replace HS := Lib.hid (HS.out.below (Below.refl (W4).heap.size (W4)).drew)
    replace HG := Lib.hid (grown_below HG.out (Below.refl (W4).heap.size (W4)).drew)
    replace HO := Lib.hid (own_below HO.out (Below.refl (W4).heap.size (W4)).drew)
    replace HP := Lib.hid (own_below HP.out (Below.refl (W4).heap.size (W4)).drew)
    replace HZ := Lib.hid (HZ.out.below (Below.refl (W4).heap.size (W4)).drew)
    replace HX := Lib.hid (HX.out.below (Below.refl (W4).heap.size (W4)).drew)
    replace HW := Lib.hid (Nat.le_trans HW.out ((Below.refl (W4).heap.size (W4)).drew).size)
    refine wpAnyH_take (i := 0) (oi := { dst := some 22, op := _, type := _, pos := _, after := _, guard := _ }) (v := ?_) rfl (by kernel_rfl) (by kernel_rfl) (by kernel_rfl) (fun _ _ _ h => h) (Or.inl ⟨by kernel_rfl, ?_⟩) (HX.out) ?_
    rotate_left
    · intro w hSw
      try dsimp only at hSw
      go_simp
      try with_reducible rfl
    try simp only [Act.put, List.setIfInBounds_toArray, List.set_cons_zero, List.set_cons_succ]
    refine wpAnyH_take (i := 1) (oi := { dst := some 23, op := _, type := _, pos := _, after := _, guard := _ }) (v := ?_) rfl (by kernel_rfl) (by kernel_rfl) (by kernel_rfl) (fun _ _ _ h => h) (Or.inl ⟨by kernel_rfl, ?_⟩) (HX.out) ?_
    rotate_left
    · intro w hSw
      try dsimp only at hSw
      have k0 : w.cell? ⟨gx, 0, none⟩ = some (.slice B m e) := hSw.cell 0
      go_simp
      try with_reducible rfl
    try simp only [Act.put, List.setIfInBounds_toArray, List.set_cons_zero, List.set_cons_succ]
    refine wpAnyH_take (i := 2) (oi := { dst := some 24, op := _, type := _, pos := _, after := _, guard := _ }) (v := ?_) rfl (by kernel_rfl) (by kernel_rfl) (by kernel_rfl) (fun _ _ _ h => h) (Or.inl ⟨by kernel_rfl, ?_⟩) (HX.out) ?_
    rotate_left
    · intro w hSw
      try dsimp only at hSw
      go_simp
      try with_reducible rfl
    try simp only [Act.put, List.setIfInBounds_toArray, List.set_cons_zero, List.set_cons_succ]
    refine wpAnyH_ready (rs := [3]) (by kernel_rfl) (by simp) ?_
    refine (AllReadyH.cons (o := { dst := some 25, op := _, type := _, pos := _, after := _, guard := _ }) rfl (fun K hK => ?_) AllReadyH.nil)
    go_simp
    refine (pick_c g _ 60 (by omega) (by omega) _ HS.out).mono ?_
    rintro e W5 ⟨v, rfl, v0, v1, hS, hg⟩
    replace HS := Lib.hid hS
    replace HG := Lib.hid (grown_trans HG.out hg)
    replace HO := Lib.hid (HO.out.kept hg (.inr (fun e => by have := own_at HO.out g e; omega)))
    replace HP := Lib.hid (HP.out.kept hg (.inr (fun e => by have := own_at HP.out g e; omega)))
    replace HZ := Lib.hid (HZ.out.grown hg (by intro e; injection e; omega))
    replace HX := Lib.hid (HX.out.grown hg (by intro e; injection e; omega))
    replace HW := Lib.hid (Nat.le_trans HW.out hg.size)
    clear hS hg
    go_wp2_with fail

    refine hK.out _ _ (HX.out) (fun _ => ?_)
    clear hK K
    try simp only [Act.put, List.setIfInBounds_toArray, List.set_cons_zero, List.set_cons_succ]
    refine wpAnyH_ready (rs := [4]) (by kernel_rfl) (by simp) ?_
    refine (AllReadyH.cons (o := { dst := some 2, op := _, type := _, pos := _, after := _, guard := _ }) rfl (fun K hK => ?_) AllReadyH.nil)
    go_simp
    refine hK.out _ _ (HX.out) (fun _ => ?_)
    clear hK K
    try simp only [Act.put, List.setIfInBounds_toArray, List.set_cons_zero, List.set_cons_succ]
    refine wpAnyH_ready (rs := [5]) (by kernel_rfl) (by simp) ?_
    refine (AllReadyH.cons (o := { dst := none, op := _, type := _, pos := _, after := _, guard := _ }) rfl (fun K hK => ?_) AllReadyH.nil)
    have k0 : World.cell? (W5) ⟨gz, 0, none⟩ = some (.slice none 0 0) := HZ.out.cell 0
    have f0 := HZ.out.frozen 0
    go_simp
    clear k0 f0 HS
    obtain ⟨W10, hW⟩ : ∃ z, z = World.setCell W5 ⟨gz, 0, none⟩ (Value.slice B m e) := ⟨_, rfl⟩
    replace HZ := Lib.hid (HZ.out.set_ 0 (Value.slice B m e))
    replace HG := Lib.hid (grown_setCell (p := ⟨gz, 0, none⟩) HG.out (.inr (by simp only; omega)) (Value.slice B m e))
    replace HO := Lib.hid (own_far HO.out (p := ⟨gz, 0, none⟩) (fun k e => by have := HOZ.out k e; simp only; omega) (Value.slice B m e))
    replace HP := Lib.hid (own_far HP.out (p := ⟨gz, 0, none⟩) (fun k e => by have := HPZ.out k e; simp only; omega) (Value.slice B m e))
    replace HX := Lib.hid (HX.out.far (p := ⟨gz, 0, none⟩) (by simp only; omega) (Value.slice B m e))
    replace HW := Lib.hid (show gz ≤ (World.setCell W5 ⟨gz, 0, none⟩ (Value.slice B m e)).heap.size by rw [World.size_setCell]; exact HW.out)
    rw [← hW] at HG HW HO HP HZ HX ⊢
    clear hW
    replace HZ : Hid (Blk W10 gz 27 #[Value.slice B m e]) := HZ

    refine hK.out _ _ (HX.out) (fun _ => ?_)
    clear hK K
    try simp only [Act.put]
    refine wpAnyH_ready (rs := [6]) (by kernel_rfl) (by simp) ?_
    refine (AllReadyH.cons (o := { dst := some 4, op := _, type := _, pos := _, after := _, guard := _ }) rfl (fun K hK => ?_) AllReadyH.nil)
    go_simp
    refine hK.out _ _ (HX.out) (fun _ => ?_)
    clear hK K
    try simp only [Act.put, List.setIfInBounds_toArray, List.set_cons_zero, List.set_cons_succ]
    refine wpAnyH_done (by kernel_rfl) ?_ _
    have m0 : W10.cell? ⟨gz, 0, none⟩ = some (.slice B m e) := HZ.out.cell 0
    go_wp2_with fail
    try simp only [Exit.inBlock, Exit.then]
    refine bodyPost_ret (v := .tuple #[.slice A n c, .agg #[.slice B m e], .int .i64 (v)]) (by simp [results, Try.results20, go_sem, m0]) rfl ?_
    exact ⟨A, xs, n, c, B, ps, m, e, _, rfl, HXL.out, hn5, HXS.out, HPL.out, hm7, own_base HO.out (by omega), own_base HP.out (by omega), bl_grown (Below.refl _ _) HG.out (fun k e => by injection e with e; omega)⟩
  · skip
    go_wp2_with fail
    refine wp_region_held_drew (S := fun w' => Blk w' gx 27 #[Value.slice B m e]) (by kernel_rfl) ?_ (fun _ => ?_)
    · exact (HX.out).below (Below.refl (W4).heap.size (W4)).drew
    replace HS := Lib.hid (HS.out.below (Below.refl (W4).heap.size (W4)).drew)
    replace HG := Lib.hid (grown_below HG.out (Below.refl (W4).heap.size (W4)).drew)
    replace HO := Lib.hid (own_below HO.out (Below.refl (W4).heap.size (W4)).drew)
    replace HP := Lib.hid (own_below HP.out (Below.refl (W4).heap.size (W4)).drew)
    replace HZ := Lib.hid (HZ.out.below (Below.refl (W4).heap.size (W4)).drew)
    replace HX := Lib.hid (HX.out.below (Below.refl (W4).heap.size (W4)).drew)
    replace HW := Lib.hid (Nat.le_trans HW.out ((Below.refl (W4).heap.size (W4)).drew).size)
    refine wpAnyH_take (i := 0) (oi := { dst := some 17, op := _, type := _, pos := _, after := _, guard := _ }) (v := ?_) rfl (by kernel_rfl) (by kernel_rfl) (by kernel_rfl) (fun _ _ _ h => h) (Or.inl ⟨by kernel_rfl, ?_⟩) (HX.out) ?_
    rotate_left
    · intro w hSw
      try dsimp only at hSw
      go_simp
      try with_reducible rfl
    try simp only [Act.put, List.setIfInBounds_toArray, List.set_cons_zero, List.set_cons_succ]
    refine wpAnyH_take (i := 1) (oi := { dst := some 18, op := _, type := _, pos := _, after := _, guard := _ }) (v := ?_) rfl (by kernel_rfl) (by kernel_rfl) (by kernel_rfl) (fun _ _ _ h => h) (Or.inl ⟨by kernel_rfl, ?_⟩) (HX.out) ?_
    rotate_left
    · intro w hSw
      try dsimp only at hSw
      have k0 : w.cell? ⟨gx, 0, none⟩ = some (.slice B m e) := hSw.cell 0
      go_simp
      try with_reducible rfl
    try simp only [Act.put, List.setIfInBounds_toArray, List.set_cons_zero, List.set_cons_succ]
    refine wpAnyH_take (i := 2) (oi := { dst := some 19, op := _, type := _, pos := _, after := _, guard := _ }) (v := ?_) rfl (by kernel_rfl) (by kernel_rfl) (by kernel_rfl) (fun _ _ _ h => h) (Or.inl ⟨by kernel_rfl, ?_⟩) (HX.out) ?_
    rotate_left
    · intro w hSw
      try dsimp only at hSw
      go_simp
      try with_reducible rfl
    try simp only [Act.put, List.setIfInBounds_toArray, List.set_cons_zero, List.set_cons_succ]
    refine wpAnyH_ready (rs := [3]) (by kernel_rfl) (by simp) ?_
    refine (AllReadyH.cons (o := { dst := some 20, op := _, type := _, pos := _, after := _, guard := _ }) rfl (fun K hK => ?_) AllReadyH.nil)
    go_simp
    obtain ⟨W5, hWW5⟩ : ∃ z, z = (World.alloc W4 (Obj.cells #[Value.int IntKind.i64 (-1), Value.int IntKind.i64 0, Value.int IntKind.i64 100, Value.int IntKind.i64 101] 2)).drew := ⟨_, rfl⟩
    obtain ⟨gl, hggl⟩ : ∃ z, z = (W4).heap.size := ⟨_, rfl⟩
    have HL : Hid (Blk W5 gl 2 #[Value.int IntKind.i64 (-1), Value.int IntKind.i64 0, Value.int IntKind.i64 100, Value.int IntKind.i64 101]) := Lib.hid (by rw [hWW5, hggl]; exact Blk.new W4 _ _)
    have hb : Below ((W4).drew).heap.size (W4).drew W5 := by rw [hWW5]; exact bl_alloc (Below.refl ((W4).drew).heap.size ((W4).drew)) _
    have hgl0 : gz ≤ gl := by rw [hggl]; exact HW.out
    have hgl1 : g < gl := by have h : g < (W4).heap.size := HS.out.lt; omega
    have hgl_HZ := Nat.ne_of_lt (hggl ▸ HZ.out.lt)
    have hgl_HX := Nat.ne_of_lt (hggl ▸ HX.out.lt)
    replace HS := Lib.hid (HS.out.below hb)
    replace HG := Lib.hid (grown_below HG.out hb)
    replace HO := Lib.hid (own_below HO.out hb)
    replace HP := Lib.hid (own_below HP.out hb)
    replace HZ := Lib.hid (HZ.out.below hb)
    replace HX := Lib.hid (HX.out.below hb)
    replace HW := Lib.hid (Nat.le_trans HW.out (hb).size)
    have hn_W5 : gl + 1 = W5.heap.size := by rw [hWW5, hggl]; exact (World.size_alloc W4 _).symm
    rw [← hWW5, ← hggl]
    clear hWW5 hggl hb

    refine hK.out _ _ (HX.out) (fun _ => ?_)
    clear hK K
    try simp only [Act.put, List.setIfInBounds_toArray, List.set_cons_zero, List.set_cons_succ]
    refine wpAnyH_ready (rs := [4]) (by kernel_rfl) (by simp) ?_
    refine (AllReadyH.cons (o := { dst := some 21, op := _, type := _, pos := _, after := _, guard := _ }) rfl (fun K hK => ?_) AllReadyH.nil)
    go_simp
    have hA : Arr W5 (some ⟨gl, 0, none⟩) (flat icell [-1, 0, 100, 101]) := arr_of_blk HL.out
    refine (among_c g _ _ [-1, 0, 100, 101] 4 4 (Lib.hid rfl) (by omega) (by omega) (by omega) _ HS.out hA (fun ad e => by injection e with e; subst e; simp only; omega)).mono ?_
    rintro e W6 ⟨v, hv, rfl, hS, hg⟩
    replace HS := Lib.hid hS
    replace HG := Lib.hid (grown_trans HG.out hg)
    replace HO := Lib.hid (HO.out.kept hg (.inr (fun e => by have := own_at HO.out g e; omega)))
    replace HP := Lib.hid (HP.out.kept hg (.inr (fun e => by have := own_at HP.out g e; omega)))
    replace HZ := Lib.hid (HZ.out.grown hg (by intro e; injection e; omega))
    replace HX := Lib.hid (HX.out.grown hg (by intro e; injection e; omega))
    replace HL := Lib.hid (HL.out.grown hg (by intro e; injection e; omega))
    replace HW := Lib.hid (Nat.le_trans HW.out hg.size)
    clear hS hg
    clear hv hA
    clear HL
    go_wp2_with fail

    refine hK.out _ _ (HX.out) (fun _ => ?_)
    clear hK K
    try simp only [Act.put, List.setIfInBounds_toArray, List.set_cons_zero, List.set_cons_succ]
    refine wpAnyH_ready (rs := [5]) (by kernel_rfl) (by simp) ?_
    refine (AllReadyH.cons (o := { dst := some 2, op := _, type := _, pos := _, after := _, guard := _ }) rfl (fun K hK => ?_) AllReadyH.nil)
    go_simp
    refine hK.out _ _ (HX.out) (fun _ => ?_)
    clear hK K
    try simp only [Act.put, List.setIfInBounds_toArray, List.set_cons_zero, List.set_cons_succ]
    refine wpAnyH_ready (rs := [6]) (by kernel_rfl) (by simp) ?_
    refine (AllReadyH.cons (o := { dst := none, op := _, type := _, pos := _, after := _, guard := _ }) rfl (fun K hK => ?_) AllReadyH.nil)
    have k0 : World.cell? (W6) ⟨gz, 0, none⟩ = some (.slice none 0 0) := HZ.out.cell 0
    have f0 := HZ.out.frozen 0
    go_simp
    clear k0 f0 HS
    obtain ⟨W10, hW⟩ : ∃ z, z = World.setCell W6 ⟨gz, 0, none⟩ (Value.slice B m e) := ⟨_, rfl⟩
    replace HZ := Lib.hid (HZ.out.set_ 0 (Value.slice B m e))
    replace HG := Lib.hid (grown_setCell (p := ⟨gz, 0, none⟩) HG.out (.inr (by simp only; omega)) (Value.slice B m e))
    replace HO := Lib.hid (own_far HO.out (p := ⟨gz, 0, none⟩) (fun k e => by have := HOZ.out k e; simp only; omega) (Value.slice B m e))
    replace HP := Lib.hid (own_far HP.out (p := ⟨gz, 0, none⟩) (fun k e => by have := HPZ.out k e; simp only; omega) (Value.slice B m e))
    replace HX := Lib.hid (HX.out.far (p := ⟨gz, 0, none⟩) (by simp only; omega) (Value.slice B m e))
    replace HW := Lib.hid (show gz ≤ (World.setCell W6 ⟨gz, 0, none⟩ (Value.slice B m e)).heap.size by rw [World.size_setCell]; exact HW.out)
    rw [← hW] at HG HW HO HP HZ HX ⊢
    clear hW
    replace HZ : Hid (Blk W10 gz 27 #[Value.slice B m e]) := HZ

    refine hK.out _ _ (HX.out) (fun _ => ?_)
    clear hK K
    try simp only [Act.put]
    refine wpAnyH_ready (rs := [7]) (by kernel_rfl) (by simp) ?_
    refine (AllReadyH.cons (o := { dst := some 4, op := _, type := _, pos := _, after := _, guard := _ }) rfl (fun K hK => ?_) AllReadyH.nil)
    go_simp
    refine hK.out _ _ (HX.out) (fun _ => ?_)
    clear hK K
    try simp only [Act.put, List.setIfInBounds_toArray, List.set_cons_zero, List.set_cons_succ]
    refine wpAnyH_done (by kernel_rfl) ?_ _
    have m0 : W10.cell? ⟨gz, 0, none⟩ = some (.slice B m e) := HZ.out.cell 0
    go_wp2_with fail
    try simp only [Exit.inBlock, Exit.then]
    refine bodyPost_ret (v := .tuple #[.slice A n c, .agg #[.slice B m e], .int .i64 (v)]) (by simp [results, Try.results20, go_sem, m0]) rfl ?_
    exact ⟨A, xs, n, c, B, ps, m, e, _, rfl, HXL.out, hn5, HXS.out, HPL.out, hm7, own_base HO.out (by omega), own_base HP.out (by omega), bl_grown (Below.refl _ _) HG.out (fun k e => by injection e with e; omega)⟩
end Go.Proofs.Ytopbiihiogbhiaa
