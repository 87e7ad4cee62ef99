/- A last changed: the program's and the reference's functions. -/
import Derived.Test.YtpiehlfffjhoaaaGreatDoorQ0
import Derived.Test.YtpiehlfffjhoaaaGreatDoorQ20
import Derived.Deep.RegionHeld3
namespace Go.Proofs.YtpiehlfffjhoaaaGreatDoor
open Go.RowKit
def OutNm (x : Last) (w : World) (e : Ending) (w' : World) : Prop := ∃ g, e = .returned (.slice (some ⟨g, 0, none⟩) 5 5) ∧ w.heap.size ≤ g ∧ Blk w' g 2 #[Value.int .i64 x.length, Value.int .i64 x.ball, Value.int .i64 x.instep, Value.int .i64 x.heel, Value.int .i64 x.pitch] ∧ Below w.heap.size w w'
theorem last_bd {x : Last} (h : lastB x = true) : (500 ≤ x.length ∧ x.length ≤ 5000) ∧ (500 ≤ x.ball ∧ x.ball ≤ 5000) ∧ (500 ≤ x.instep ∧ x.instep ≤ 5000) ∧ (500 ≤ x.heel ∧ x.heel ≤ 5000) ∧ 0 ≤ x.pitch ∧ x.pitch ≤ 1000 := by
 obtain ⟨_, hf, p0, p1⟩ := lastB_parts h
 obtain ⟨h1, h2, h3, h4⟩ := foot_bd hf
 exact ⟨h1, h2, h3, h4, p0, p1⟩
set_option maxHeartbeats 1000000 in
theorem numbers_c (x : Last) (w : World) : Calls Tryz.prog 206 #[.agg #[.string x.name, .int .i64 x.length, .int .i64 x.ball, .int .i64 x.instep, .int .i64 x.heel, .int .i64 x.pitch]] w (OutNm x w) := by
 obtain ⟨W, hW⟩ : ∃ W, W = w.alloc (Obj.cells #[.string x.name, .int .i64 x.length, .int .i64 x.ball, .int .i64 x.instep, .int .i64 x.heel, .int .i64 x.pitch] 100) := ⟨_, rfl⟩
 obtain ⟨g, hg⟩ : ∃ g, g = w.heap.size := ⟨_, rfl⟩
 have hv : Below w.heap.size w W := by rw [hW]; exact bl_alloc (Below.refl _ _) _
 have hB : Blk W g 100 #[.string x.name, .int .i64 x.length, .int .i64 x.ball, .int .i64 x.instep, .int .i64 x.heel, .int .i64 x.pitch] := by rw [hW, hg]; exact Blk.new _ _ _
 obtain ⟨k0, k1, k2, k3, k4, k5⟩ := qC6 hB
 have HW := qH hW
 have HG := qH hg
 clear hW hg hB
 go_enter Tryz.func206, Tryz.ntmps206
 go_upto_region 1 with fail
 rw [← HW.out, ← HG.out]
 clear HW HG
 go_wp2_with fail
 go_returns
 exact ⟨_, rfl, hv.size, Blk.new _ _ _, bl_alloc hv _⟩
theorem grown_setCellI {w : World} {p : Addr} (u : Value) : World.grownBy w (w.setCell p u) (some p.block) := grown_setCell (World.grownBy.refl w (some p.block)) (.inl rfl) u
set_option maxRecDepth 100000 in
set_option maxHeartbeats 4000000 in
theorem changed1_c (x : Last) (a : Int) (HX : Hid (lastB x = true)) (a0 : -300 ≤ a) (a1 : a ≤ 300) (w : World) : Calls Tryz.prog 136 #[.agg #[.string x.name, .int .i64 x.length, .int .i64 x.ball, .int .i64 x.instep, .int .i64 x.heel, .int .i64 x.pitch], .agg #[.int .i64 1, .int .i64 a]] w (Ret (.agg #[.string x.name, .int .i64 (x.length + a), .int .i64 x.ball, .int .i64 x.instep, .int .i64 x.heel, .int .i64 x.pitch]) w) := by
 obtain ⟨⟨l0, l1⟩, ⟨b0, b1⟩, ⟨i0, i1⟩, ⟨h0, h1⟩, p0, p1⟩ := last_bd HX.out
 have hwk : IntKind.i64.wrap 0 = 0 := IntWalk.i64_in _ (by omega)
 have hwa : IntKind.i64.wrap (x.length + a) = x.length + a := IntWalk.i64_in _ (by omega)
 obtain ⟨gx, hgx⟩ : ∃ z, z = w.heap.size := ⟨_, rfl⟩
 obtain ⟨gc, hgc⟩ : ∃ z, z = w.heap.size + 1 := ⟨_, rfl⟩
 obtain ⟨gz, hgz⟩ : ∃ z, z = w.heap.size + 1 + 1 := ⟨_, rfl⟩
 obtain ⟨W, hW⟩ : ∃ z, z = ((w.alloc (Obj.cells #[.string x.name, .int .i64 x.length, .int .i64 x.ball, .int .i64 x.instep, .int .i64 x.heel, .int .i64 x.pitch] 100)).alloc (Obj.cells #[.int .i64 1, .int .i64 a] 126)).alloc (Obj.cells #[.string ⟨#[]⟩, .int .i64 0, .int .i64 0, .int .i64 0, .int .i64 0, .int .i64 0] 100) := ⟨_, rfl⟩
 have hv : Below w.heap.size w W := by rw [hW]; exact bl_alloc (bl_alloc (bl_alloc (Below.refl _ _) _) _) _
 have HX1 : Hid (Blk W gx 100 #[.string x.name, .int .i64 x.length, .int .i64 x.ball, .int .i64 x.instep, .int .i64 x.heel, .int .i64 x.pitch]) := qH (by rw [hW, hgx]; exact ((Blk.new w _ _).alloc _).alloc _)
 have HC : Hid (Blk W gc 126 #[.int .i64 1, .int .i64 a]) := qH (by
   have h := (Blk.new (w.alloc (Obj.cells #[.string x.name, .int .i64 x.length, .int .i64 x.ball, .int .i64 x.instep, .int .i64 x.heel, .int .i64 x.pitch] 100)) 126 #[Value.int .i64 1, Value.int .i64 a]).alloc (Obj.cells #[.string ⟨#[]⟩, .int .i64 0, .int .i64 0, .int .i64 0, .int .i64 0, .int .i64 0] 100)
   rw [World.size_alloc] at h
   rw [hW, hgc]; exact h)
 have HZ : Hid (Blk W gz 100 #[.string ⟨#[]⟩, .int .i64 0, .int .i64 0, .int .i64 0, .int .i64 0, .int .i64 0]) := qH (by
   have h := Blk.new ((w.alloc (Obj.cells #[.string x.name, .int .i64 x.length, .int .i64 x.ball, .int .i64 x.instep, .int .i64 x.heel, .int .i64 x.pitch] 100)).alloc (Obj.cells #[.int .i64 1, .int .i64 a] 126)) 100 #[Value.string ⟨#[]⟩, Value.int .i64 0, Value.int .i64 0, Value.int .i64 0, Value.int .i64 0, Value.int .i64 0]
   rw [World.size_alloc, World.size_alloc] at h
   rw [hW, hgz]; exact h)
 have hzw : w.heap.size ≤ gz := by omega
 have hxz : gx ≠ gz := by omega
 have hWz : W.heap.size = gz + 1 := by rw [hW, World.size_alloc, World.size_alloc, World.size_alloc, hgz]
 have HW := qH hW
 have G1 := qH hgx
 have G2 := qH hgc
 have G3 := qH hgz
 obtain ⟨k0, k1, k2, k3, k4, k5⟩ := qC6 HX1.out
 clear hW hgx hgc hgz
 go_enter Tryz.func136, Tryz.ntmps136
 go_upto_region 1 with fail
 rw [← HW.out]
 first | rw [← G3.out, ← G2.out, ← G1.out] | rw [show w.heap.size + 2 = gz from G3.out.symm, ← G2.out, ← G1.out]
 clear HW G1 G2 G3
 go_wp2_with fail
 refine (numbers_c x _).mono ?_
 rintro e W1 ⟨gn, rfl, hgn, hN, hb⟩
 have HN := qH hN
 clear hN k0 k1 k2 k3 k4 k5
 replace HX1 := qH (HX1.out.below hb)
 replace HC := qH (HC.out.below hb)
 replace HZ := qH (HZ.out.below hb)
 replace hv := bl_trans hv hb
 have hne : gz ≠ gn := by omega
 have hnw : w.heap.size ≤ gn := by omega
 have hxn : gx ≠ gn := by have := HX1.out.lt; intro e; subst e; have h1 := HN.out; have h2 := HX1.out; unfold Blk at h1 h2; rw [h1] at h2; simp at h2
 clear hb hWz
 go_upto_region 2 with fail
 have HXD := qH (HX1.out.below (Below.refl W1.heap.size W1).drew)
 have HCD := qH (HC.out.below (Below.refl W1.heap.size W1).drew)
 have HZD := qH (HZ.out.below (Below.refl W1.heap.size W1).drew)
 have HND := qH (HN.out.below (Below.refl W1.heap.size W1).drew)
 clear HX1 HC HZ HN
 refine wp_region_held_drew (S := fun w' => Blk w' gc 126 #[Value.int .i64 1, Value.int .i64 a]) (by kernel_rfl) ?_ (fun hHeld => ?_)
 · exact HCD.out
 refine zT 0 8 ?_ rfl ?_ ((by assumption)) ?_
 rotate_left
 · intro w hSw
   try dsimp only at hSw
   have y0 : w.cell? ⟨gc, 0, none⟩ = some (.int .i64 1) := hSw.cell 0
   have y1 : w.cell? ⟨gc, 1, none⟩ = some (.int .i64 a) := hSw.cell 1
   go_simp
   try with_reducible rfl
 try simp only [Act.put, zA, zB, zC]
 refine zT 1 9 ?_ rfl ?_ ((by assumption)) ?_
 rotate_left
 · intro w hSw
   try dsimp only at hSw
   have y0 : w.cell? ⟨gc, 0, none⟩ = some (.int .i64 1) := hSw.cell 0
   have y1 : w.cell? ⟨gc, 1, none⟩ = some (.int .i64 a) := hSw.cell 1
   go_simp
   try with_reducible rfl
 try simp only [Act.put, zA, zB, zC]
 refine zT 2 10 ?_ rfl ?_ ((by assumption)) ?_
 rotate_left
 · intro w hSw
   try dsimp only at hSw
   have y0 : w.cell? ⟨gc, 0, none⟩ = some (.int .i64 1) := hSw.cell 0
   have y1 : w.cell? ⟨gc, 1, none⟩ = some (.int .i64 a) := hSw.cell 1
   go_simp
   try with_reducible rfl
 try simp only [Act.put, zA, zB, zC]
 refine zT 3 11 ?_ rfl ?_ ((by assumption)) ?_
 rotate_left
 · intro w hSw
   try dsimp only at hSw
   have y0 : w.cell? ⟨gc, 0, none⟩ = some (.int .i64 1) := hSw.cell 0
   have y1 : w.cell? ⟨gc, 1, none⟩ = some (.int .i64 a) := hSw.cell 1
   go_simp
   try with_reducible rfl
 try simp only [Act.put, zA, zB, zC]
 refine zT 4 12 ?_ rfl ?_ ((by assumption)) ?_
 rotate_left
 · intro w hSw
   try dsimp only at hSw
   have y0 : w.cell? ⟨gc, 0, none⟩ = some (.int .i64 1) := hSw.cell 0
   have y1 : w.cell? ⟨gc, 1, none⟩ = some (.int .i64 a) := hSw.cell 1
   go_simp
   try with_reducible rfl
 try simp only [Act.put, zA, zB, zC]
 refine zT 6 14 ?_ rfl ?_ ((by assumption)) ?_
 rotate_left
 · intro w hSw
   try dsimp only at hSw
   have y0 : w.cell? ⟨gc, 0, none⟩ = some (.int .i64 1) := hSw.cell 0
   have y1 : w.cell? ⟨gc, 1, none⟩ = some (.int .i64 a) := hSw.cell 1
   go_simp
   try with_reducible rfl
 try simp only [Act.put, zA, zB, zC]
 refine zT 7 15 ?_ rfl ?_ ((by assumption)) ?_
 rotate_left
 · intro w hSw
   try dsimp only at hSw
   have y0 : w.cell? ⟨gc, 0, none⟩ = some (.int .i64 1) := hSw.cell 0
   have y1 : w.cell? ⟨gc, 1, none⟩ = some (.int .i64 a) := hSw.cell 1
   go_simp
   try with_reducible rfl
 try simp only [Act.put, zA, zB, zC]
 refine wpAnyH_ready (rs := [5]) (by kernel_rfl) (by simp) ?_
 refine (AllReadyH.cons (o := { dst := some 13, op := _, type := _, pos := _, after := _, guard := _ }) rfl (fun K hK => ?_) AllReadyH.nil)
 have n0 : World.cell? (W1.drew) ⟨gn, 0, none⟩ = some (.int .i64 x.length) := HND.out.cell 0
 go_simp
 refine hK.out _ _ (by assumption) (fun hHeld2 => ?_)
 clear hK K n0
 try simp only [Act.put, zA, zB, zC]
 refine zT 8 16 ?_ rfl ?_ ((by assumption)) ?_
 rotate_left
 · intro w hSw
   try dsimp only at hSw
   have y0 : w.cell? ⟨gc, 0, none⟩ = some (.int .i64 1) := hSw.cell 0
   have y1 : w.cell? ⟨gc, 1, none⟩ = some (.int .i64 a) := hSw.cell 1
   go_simp
   try with_reducible rfl
 try simp only [Act.put, zA, zB, zC]
 refine zT 9 17 ?_ rfl ?_ ((by assumption)) ?_
 rotate_left
 · intro w hSw
   try dsimp only at hSw
   have y0 : w.cell? ⟨gc, 0, none⟩ = some (.int .i64 1) := hSw.cell 0
   have y1 : w.cell? ⟨gc, 1, none⟩ = some (.int .i64 a) := hSw.cell 1
   go_simp
   try with_reducible rfl
 try simp only [Act.put, zA, zB, zC]
 refine wpAnyH_ready (rs := [10]) (by kernel_rfl) (by simp) ?_
 refine (AllReadyH.cons (o := { dst := none, op := _, type := _, pos := _, after := _, guard := _ }) rfl (fun K hK => ?_) AllReadyH.nil)
 have n0 : World.cell? (W1.drew) ⟨gn, 0, none⟩ = some (.int .i64 x.length) := HND.out.cell 0
 have f0 : World.frozen? (W1.drew) ⟨gn, 0, none⟩ = false := HND.out.frozen 0
 go_simp
 clear n0 f0
 have eW : World.setCell W1.drew ⟨gn, 0, none⟩ (Value.int .i64 (x.length + a)) = (World.setCell W1 ⟨gn, 0, none⟩ (Value.int .i64 (x.length + a))).drew := rfl
 obtain ⟨W2, hW2⟩ : ∃ z, z = (World.setCell W1 ⟨gn, 0, none⟩ (Value.int .i64 (x.length + a))).drew := ⟨_, rfl⟩
 have HN2 := qH (HND.out.set_ 0 (Value.int .i64 (x.length + a)))
 have HX2 := qH (HXD.out.far (p := ⟨gn, 0, none⟩) (by simp only; omega) (Value.int .i64 (x.length + a)))
 have HZ2 := qH (HZD.out.far (p := ⟨gn, 0, none⟩) (by simp only; omega) (Value.int .i64 (x.length + a)))
 have hcn : gc ≠ gn := by intro e; subst e; have h1 := HND.out; have h2 := HCD.out; unfold Blk at h1 h2; rw [h1] at h2; simp at h2
 have HC2 := qH (HCD.out.far (p := ⟨gn, 0, none⟩) (by simp only; omega) (Value.int .i64 (x.length + a)))
 have hv2 := bl_grown hv.drew (grown_setCellI (p := ⟨gn, 0, none⟩) (Value.int .i64 (x.length + a))) (fun k e => by injection e with e; have e2 : gn = k := e; omega)
 rw [eW, ← hW2] at HN2 HX2 HZ2 HC2 hv2
 rw [← hW2]
 clear hW2 eW HND HXD HZD hcn
 replace HN2 : Hid (Blk W2 gn 2 #[.int .i64 (x.length + a), .int .i64 x.ball, .int .i64 x.instep, .int .i64 x.heel, .int .i64 x.pitch]) := HN2
 refine hK.out _ _ HC2.out (fun hHeld3 => ?_)
 clear hK K
 try simp only [Act.put]
 refine wpAnyH_done (by kernel_rfl) ?_ _
 clear hv
 have hv := hv2
 clear hv2
 go_upto_region 3 with fail
 obtain ⟨n0, n1, n2, n3, n4⟩ := qC5 HN2.out
 have x0 : W2.cell? ⟨gx, 0, none⟩ = some (.string x.name) := HX2.out.cell 0
 have HZ3 := qH (HZ2.out.below (Below.refl W2.heap.size W2).drew)
 refine wp_region_held_drew (S := fun w' => World.cell? w' ⟨gn, 0, none⟩ = some (.int .i64 (x.length + a)) ∧ World.cell? w' ⟨gn, 1, none⟩ = some (.int .i64 x.ball) ∧ World.cell? w' ⟨gn, 2, none⟩ = some (.int .i64 x.instep) ∧ World.cell? w' ⟨gn, 3, none⟩ = some (.int .i64 x.heel) ∧ World.cell? w' ⟨gn, 4, none⟩ = some (.int .i64 x.pitch) ∧ World.cell? w' ⟨gx, 0, none⟩ = some (.string x.name)) (by kernel_rfl) ?_ (fun hHeld => ?_)
 · exact ⟨n0, n1, n2, n3, n4, x0⟩
 refine zT 0 18 ?_ rfl ?_ ((by assumption)) ?_
 rotate_left
 · intro w hSw
   try dsimp only at hSw
   obtain ⟨y0, y1, y2, y3, y4, y5⟩ := hSw
   go_simp
   try with_reducible rfl
 try simp only [Act.put, zA, zB, zC]
 refine zT 1 19 ?_ rfl ?_ ((by assumption)) ?_
 rotate_left
 · intro w hSw
   try dsimp only at hSw
   obtain ⟨y0, y1, y2, y3, y4, y5⟩ := hSw
   go_simp
   try with_reducible rfl
 try simp only [Act.put, zA, zB, zC]
 refine zT 2 20 ?_ rfl ?_ ((by assumption)) ?_
 rotate_left
 · intro w hSw
   try dsimp only at hSw
   obtain ⟨y0, y1, y2, y3, y4, y5⟩ := hSw
   go_simp
   try with_reducible rfl
 try simp only [Act.put, zA, zB, zC]
 refine zT 3 21 ?_ rfl ?_ ((by assumption)) ?_
 rotate_left
 · intro w hSw
   try dsimp only at hSw
   obtain ⟨y0, y1, y2, y3, y4, y5⟩ := hSw
   go_simp
   try with_reducible rfl
 try simp only [Act.put, zA, zB, zC]
 refine zT 4 22 ?_ rfl ?_ ((by assumption)) ?_
 rotate_left
 · intro w hSw
   try dsimp only at hSw
   obtain ⟨y0, y1, y2, y3, y4, y5⟩ := hSw
   go_simp
   try with_reducible rfl
 try simp only [Act.put, zA, zB, zC]
 refine zT 5 23 ?_ rfl ?_ ((by assumption)) ?_
 rotate_left
 · intro w hSw
   try dsimp only at hSw
   obtain ⟨y0, y1, y2, y3, y4, y5⟩ := hSw
   go_simp
   try with_reducible rfl
 try simp only [Act.put, zA, zB, zC]
 refine zT 6 24 ?_ rfl ?_ ((by assumption)) ?_
 rotate_left
 · intro w hSw
   try dsimp only at hSw
   obtain ⟨y0, y1, y2, y3, y4, y5⟩ := hSw
   go_simp
   try with_reducible rfl
 try simp only [Act.put, zA, zB, zC]
 refine zT 7 25 ?_ rfl ?_ ((by assumption)) ?_
 rotate_left
 · intro w hSw
   try dsimp only at hSw
   obtain ⟨y0, y1, y2, y3, y4, y5⟩ := hSw
   go_simp
   try with_reducible rfl
 try simp only [Act.put, zA, zB, zC]
 refine zT 8 26 ?_ rfl ?_ ((by assumption)) ?_
 rotate_left
 · intro w hSw
   try dsimp only at hSw
   obtain ⟨y0, y1, y2, y3, y4, y5⟩ := hSw
   go_simp
   try with_reducible rfl
 try simp only [Act.put, zA, zB, zC]
 refine zT 9 27 ?_ rfl ?_ ((by assumption)) ?_
 rotate_left
 · intro w hSw
   try dsimp only at hSw
   obtain ⟨y0, y1, y2, y3, y4, y5⟩ := hSw
   go_simp
   try with_reducible rfl
 try simp only [Act.put, zA, zB, zC]
 refine zT 10 28 ?_ rfl ?_ ((by assumption)) ?_
 rotate_left
 · intro w hSw
   try dsimp only at hSw
   obtain ⟨y0, y1, y2, y3, y4, y5⟩ := hSw
   go_simp
   try with_reducible rfl
 try simp only [Act.put, zA, zB, zC]
 refine zT 11 29 ?_ rfl ?_ ((by assumption)) ?_
 rotate_left
 · intro w hSw
   try dsimp only at hSw
   obtain ⟨y0, y1, y2, y3, y4, y5⟩ := hSw
   go_simp
   try with_reducible rfl
 try simp only [Act.put, zA, zB, zC]
 refine zT 12 30 ?_ rfl ?_ ((by assumption)) ?_
 rotate_left
 · intro w hSw
   try dsimp only at hSw
   obtain ⟨y0, y1, y2, y3, y4, y5⟩ := hSw
   go_simp
   try with_reducible rfl
 try simp only [Act.put, zA, zB, zC]
 refine zT 13 31 ?_ rfl ?_ ((by assumption)) ?_
 rotate_left
 · intro w hSw
   try dsimp only at hSw
   obtain ⟨y0, y1, y2, y3, y4, y5⟩ := hSw
   go_simp
   try with_reducible rfl
 try simp only [Act.put, zA, zB, zC]
 refine zT 14 32 ?_ rfl ?_ ((by assumption)) ?_
 rotate_left
 · intro w hSw
   try dsimp only at hSw
   obtain ⟨y0, y1, y2, y3, y4, y5⟩ := hSw
   go_simp
   try with_reducible rfl
 try simp only [Act.put, zA, zB, zC]
 refine zT 15 33 ?_ rfl ?_ ((by assumption)) ?_
 rotate_left
 · intro w hSw
   try dsimp only at hSw
   obtain ⟨y0, y1, y2, y3, y4, y5⟩ := hSw
   go_simp
   try with_reducible rfl
 try simp only [Act.put, zA, zB, zC]
 refine zT 16 34 ?_ rfl ?_ ((by assumption)) ?_
 rotate_left
 · intro w hSw
   try dsimp only at hSw
   obtain ⟨y0, y1, y2, y3, y4, y5⟩ := hSw
   go_simp
   try with_reducible rfl
 try simp only [Act.put, zA, zB, zC]
 refine zT 17 35 ?_ rfl ?_ ((by assumption)) ?_
 rotate_left
 · intro w hSw
   try dsimp only at hSw
   obtain ⟨y0, y1, y2, y3, y4, y5⟩ := hSw
   go_simp
   try with_reducible rfl
 try simp only [Act.put, zA, zB, zC]
 refine wpAnyH_ready (rs := [18]) (by kernel_rfl) (by simp) ?_
 refine (AllReadyH.cons (o := { dst := none, op := _, type := _, pos := _, after := _, guard := _ }) rfl (fun K hK => ?_) AllReadyH.nil)
 refine wp_store_row 100 _ _ rfl gz #[.string x.name, .int .i64 (x.length + a), .int .i64 x.ball, .int .i64 x.instep, .int .i64 x.heel, .int .i64 x.pitch] rfl rfl 100 #[Value.string ⟨#[]⟩, Value.int .i64 0, Value.int .i64 0, Value.int .i64 0, Value.int .i64 0, Value.int .i64 0] HZ3.out (by kernel_rfl) rfl (by simp [Value.oneCell']) ?_
 refine hK.out _ _ ⟨cell_farR n0 (by simp only; omega), cell_farR n1 (by simp only; omega), cell_farR n2 (by simp only; omega), cell_farR n3 (by simp only; omega), cell_farR n4 (by simp only; omega), cell_farR x0 (by simp only; omega)⟩ (fun hHeld4 => ?_)
 clear hK K
 try simp only [Act.put]
 refine wpAnyH_done (by kernel_rfl) ?_ _
 go_wp2_with fail
 try simp only [Exit.inBlock, Exit.then]
 refine bodyPost_ret (results_cell_row (P := Tryz.prog) rfl _ _ gz 100 #[Value.string x.name, Value.int .i64 (x.length + a), Value.int .i64 x.ball, Value.int .i64 x.instep, Value.int .i64 x.heel, Value.int .i64 x.pitch] (0, 0) _ rfl ?_ Tryz.underlying100 rfl (by kernel_rfl)) rfl ?_
 · exact setRow_heap _ _ _ _ _ _ HZ3.out
 · exact Ret.mk rfl (below_rowL hv.drew hzw _)
set_option maxRecDepth 100000 in
set_option maxHeartbeats 4000000 in
theorem changed2_c (x : Last) (a : Int) (HX : Hid (lastB x = true)) (a0 : -300 ≤ a) (a1 : a ≤ 300) (w : World) : Calls Tryz.prog 136 #[.agg #[.string x.name, .int .i64 x.length, .int .i64 x.ball, .int .i64 x.instep, .int .i64 x.heel, .int .i64 x.pitch], .agg #[.int .i64 2, .int .i64 a]] w (Ret (.agg #[.string x.name, .int .i64 x.length, .int .i64 (x.ball + a), .int .i64 x.instep, .int .i64 x.heel, .int .i64 x.pitch]) w) := by
 obtain ⟨⟨l0, l1⟩, ⟨b0, b1⟩, ⟨i0, i1⟩, ⟨h0, h1⟩, p0, p1⟩ := last_bd HX.out
 have hwk : IntKind.i64.wrap 1 = 1 := IntWalk.i64_in _ (by omega)
 have hwa : IntKind.i64.wrap (x.ball + a) = x.ball + a := IntWalk.i64_in _ (by omega)
 obtain ⟨gx, hgx⟩ : ∃ z, z = w.heap.size := ⟨_, rfl⟩
 obtain ⟨gc, hgc⟩ : ∃ z, z = w.heap.size + 1 := ⟨_, rfl⟩
 obtain ⟨gz, hgz⟩ : ∃ z, z = w.heap.size + 1 + 1 := ⟨_, rfl⟩
 obtain ⟨W, hW⟩ : ∃ z, z = ((w.alloc (Obj.cells #[.string x.name, .int .i64 x.length, .int .i64 x.ball, .int .i64 x.instep, .int .i64 x.heel, .int .i64 x.pitch] 100)).alloc (Obj.cells #[.int .i64 2, .int .i64 a] 126)).alloc (Obj.cells #[.string ⟨#[]⟩, .int .i64 0, .int .i64 0, .int .i64 0, .int .i64 0, .int .i64 0] 100) := ⟨_, rfl⟩
 have hv : Below w.heap.size w W := by rw [hW]; exact bl_alloc (bl_alloc (bl_alloc (Below.refl _ _) _) _) _
 have HX1 : Hid (Blk W gx 100 #[.string x.name, .int .i64 x.length, .int .i64 x.ball, .int .i64 x.instep, .int .i64 x.heel, .int .i64 x.pitch]) := qH (by rw [hW, hgx]; exact ((Blk.new w _ _).alloc _).alloc _)
 have HC : Hid (Blk W gc 126 #[.int .i64 2, .int .i64 a]) := qH (by
   have h := (Blk.new (w.alloc (Obj.cells #[.string x.name, .int .i64 x.length, .int .i64 x.ball, .int .i64 x.instep, .int .i64 x.heel, .int .i64 x.pitch] 100)) 126 #[Value.int .i64 2, Value.int .i64 a]).alloc (Obj.cells #[.string ⟨#[]⟩, .int .i64 0, .int .i64 0, .int .i64 0, .int .i64 0, .int .i64 0] 100)
   rw [World.size_alloc] at h
   rw [hW, hgc]; exact h)
 have HZ : Hid (Blk W gz 100 #[.string ⟨#[]⟩, .int .i64 0, .int .i64 0, .int .i64 0, .int .i64 0, .int .i64 0]) := qH (by
   have h := Blk.new ((w.alloc (Obj.cells #[.string x.name, .int .i64 x.length, .int .i64 x.ball, .int .i64 x.instep, .int .i64 x.heel, .int .i64 x.pitch] 100)).alloc (Obj.cells #[.int .i64 2, .int .i64 a] 126)) 100 #[Value.string ⟨#[]⟩, Value.int .i64 0, Value.int .i64 0, Value.int .i64 0, Value.int .i64 0, Value.int .i64 0]
   rw [World.size_alloc, World.size_alloc] at h
   rw [hW, hgz]; exact h)
 have hzw : w.heap.size ≤ gz := by omega
 have hxz : gx ≠ gz := by omega
 have hWz : W.heap.size = gz + 1 := by rw [hW, World.size_alloc, World.size_alloc, World.size_alloc, hgz]
 have HW := qH hW
 have G1 := qH hgx
 have G2 := qH hgc
 have G3 := qH hgz
 obtain ⟨k0, k1, k2, k3, k4, k5⟩ := qC6 HX1.out
 clear hW hgx hgc hgz
 go_enter Tryz.func136, Tryz.ntmps136
 go_upto_region 1 with fail
 rw [← HW.out]
 first | rw [← G3.out, ← G2.out, ← G1.out] | rw [show w.heap.size + 2 = gz from G3.out.symm, ← G2.out, ← G1.out]
 clear HW G1 G2 G3
 go_wp2_with fail
 refine (numbers_c x _).mono ?_
 rintro e W1 ⟨gn, rfl, hgn, hN, hb⟩
 have HN := qH hN
 clear hN k0 k1 k2 k3 k4 k5
 replace HX1 := qH (HX1.out.below hb)
 replace HC := qH (HC.out.below hb)
 replace HZ := qH (HZ.out.below hb)
 replace hv := bl_trans hv hb
 have hne : gz ≠ gn := by omega
 have hnw : w.heap.size ≤ gn := by omega
 have hxn : gx ≠ gn := by have := HX1.out.lt; intro e; subst e; have h1 := HN.out; have h2 := HX1.out; unfold Blk at h1 h2; rw [h1] at h2; simp at h2
 clear hb hWz
 go_upto_region 2 with fail
 have HXD := qH (HX1.out.below (Below.refl W1.heap.size W1).drew)
 have HCD := qH (HC.out.below (Below.refl W1.heap.size W1).drew)
 have HZD := qH (HZ.out.below (Below.refl W1.heap.size W1).drew)
 have HND := qH (HN.out.below (Below.refl W1.heap.size W1).drew)
 clear HX1 HC HZ HN
 refine wp_region_held_drew (S := fun w' => Blk w' gc 126 #[Value.int .i64 2, Value.int .i64 a]) (by kernel_rfl) ?_ (fun hHeld => ?_)
 · exact HCD.out
 refine zT 0 8 ?_ rfl ?_ ((by assumption)) ?_
 rotate_left
 · intro w hSw
   try dsimp only at hSw
   have y0 : w.cell? ⟨gc, 0, none⟩ = some (.int .i64 2) := hSw.cell 0
   have y1 : w.cell? ⟨gc, 1, none⟩ = some (.int .i64 a) := hSw.cell 1
   go_simp
   try with_reducible rfl
 try simp only [Act.put, zA, zB, zC]
 refine zT 1 9 ?_ rfl ?_ ((by assumption)) ?_
 rotate_left
 · intro w hSw
   try dsimp only at hSw
   have y0 : w.cell? ⟨gc, 0, none⟩ = some (.int .i64 2) := hSw.cell 0
   have y1 : w.cell? ⟨gc, 1, none⟩ = some (.int .i64 a) := hSw.cell 1
   go_simp
   try with_reducible rfl
 try simp only [Act.put, zA, zB, zC]
 refine zT 2 10 ?_ rfl ?_ ((by assumption)) ?_
 rotate_left
 · intro w hSw
   try dsimp only at hSw
   have y0 : w.cell? ⟨gc, 0, none⟩ = some (.int .i64 2) := hSw.cell 0
   have y1 : w.cell? ⟨gc, 1, none⟩ = some (.int .i64 a) := hSw.cell 1
   go_simp
   try with_reducible rfl
 try simp only [Act.put, zA, zB, zC]
 refine zT 3 11 ?_ rfl ?_ ((by assumption)) ?_
 rotate_left
 · intro w hSw
   try dsimp only at hSw
   have y0 : w.cell? ⟨gc, 0, none⟩ = some (.int .i64 2) := hSw.cell 0
   have y1 : w.cell? ⟨gc, 1, none⟩ = some (.int .i64 a) := hSw.cell 1
   go_simp
   try with_reducible rfl
 try simp only [Act.put, zA, zB, zC]
 refine zT 4 12 ?_ rfl ?_ ((by assumption)) ?_
 rotate_left
 · intro w hSw
   try dsimp only at hSw
   have y0 : w.cell? ⟨gc, 0, none⟩ = some (.int .i64 2) := hSw.cell 0
   have y1 : w.cell? ⟨gc, 1, none⟩ = some (.int .i64 a) := hSw.cell 1
   go_simp
   try with_reducible rfl
 try simp only [Act.put, zA, zB, zC]
 refine zT 6 14 ?_ rfl ?_ ((by assumption)) ?_
 rotate_left
 · intro w hSw
   try dsimp only at hSw
   have y0 : w.cell? ⟨gc, 0, none⟩ = some (.int .i64 2) := hSw.cell 0
   have y1 : w.cell? ⟨gc, 1, none⟩ = some (.int .i64 a) := hSw.cell 1
   go_simp
   try with_reducible rfl
 try simp only [Act.put, zA, zB, zC]
 refine zT 7 15 ?_ rfl ?_ ((by assumption)) ?_
 rotate_left
 · intro w hSw
   try dsimp only at hSw
   have y0 : w.cell? ⟨gc, 0, none⟩ = some (.int .i64 2) := hSw.cell 0
   have y1 : w.cell? ⟨gc, 1, none⟩ = some (.int .i64 a) := hSw.cell 1
   go_simp
   try with_reducible rfl
 try simp only [Act.put, zA, zB, zC]
 refine wpAnyH_ready (rs := [5]) (by kernel_rfl) (by simp) ?_
 refine (AllReadyH.cons (o := { dst := some 13, op := _, type := _, pos := _, after := _, guard := _ }) rfl (fun K hK => ?_) AllReadyH.nil)
 have n0 : World.cell? (W1.drew) ⟨gn, 1, none⟩ = some (.int .i64 x.ball) := HND.out.cell 1
 go_simp
 refine hK.out _ _ (by assumption) (fun hHeld2 => ?_)
 clear hK K n0
 try simp only [Act.put, zA, zB, zC]
 refine zT 8 16 ?_ rfl ?_ ((by assumption)) ?_
 rotate_left
 · intro w hSw
   try dsimp only at hSw
   have y0 : w.cell? ⟨gc, 0, none⟩ = some (.int .i64 2) := hSw.cell 0
   have y1 : w.cell? ⟨gc, 1, none⟩ = some (.int .i64 a) := hSw.cell 1
   go_simp
   try with_reducible rfl
 try simp only [Act.put, zA, zB, zC]
 refine zT 9 17 ?_ rfl ?_ ((by assumption)) ?_
 rotate_left
 · intro w hSw
   try dsimp only at hSw
   have y0 : w.cell? ⟨gc, 0, none⟩ = some (.int .i64 2) := hSw.cell 0
   have y1 : w.cell? ⟨gc, 1, none⟩ = some (.int .i64 a) := hSw.cell 1
   go_simp
   try with_reducible rfl
 try simp only [Act.put, zA, zB, zC]
 refine wpAnyH_ready (rs := [10]) (by kernel_rfl) (by simp) ?_
 refine (AllReadyH.cons (o := { dst := none, op := _, type := _, pos := _, after := _, guard := _ }) rfl (fun K hK => ?_) AllReadyH.nil)
 have n0 : World.cell? (W1.drew) ⟨gn, 1, none⟩ = some (.int .i64 x.ball) := HND.out.cell 1
 have f0 : World.frozen? (W1.drew) ⟨gn, 1, none⟩ = false := HND.out.frozen 1
 go_simp
 clear n0 f0
 have eW : World.setCell W1.drew ⟨gn, 1, none⟩ (Value.int .i64 (x.ball + a)) = (World.setCell W1 ⟨gn, 1, none⟩ (Value.int .i64 (x.ball + a))).drew := rfl
 obtain ⟨W2, hW2⟩ : ∃ z, z = (World.setCell W1 ⟨gn, 1, none⟩ (Value.int .i64 (x.ball + a))).drew := ⟨_, rfl⟩
 have HN2 := qH (HND.out.set_ 1 (Value.int .i64 (x.ball + a)))
 have HX2 := qH (HXD.out.far (p := ⟨gn, 1, none⟩) (by simp only; omega) (Value.int .i64 (x.ball + a)))
 have HZ2 := qH (HZD.out.far (p := ⟨gn, 1, none⟩) (by simp only; omega) (Value.int .i64 (x.ball + a)))
 have hcn : gc ≠ gn := by intro e; subst e; have h1 := HND.out; have h2 := HCD.out; unfold Blk at h1 h2; rw [h1] at h2; simp at h2
 have HC2 := qH (HCD.out.far (p := ⟨gn, 1, none⟩) (by simp only; omega) (Value.int .i64 (x.ball + a)))
 have hv2 := bl_grown hv.drew (grown_setCellI (p := ⟨gn, 1, none⟩) (Value.int .i64 (x.ball + a))) (fun k e => by injection e with e; have e2 : gn = k := e; omega)
 rw [eW, ← hW2] at HN2 HX2 HZ2 HC2 hv2
 rw [← hW2]
 clear hW2 eW HND HXD HZD hcn
 replace HN2 : Hid (Blk W2 gn 2 #[.int .i64 x.length, .int .i64 (x.ball + a), .int .i64 x.instep, .int .i64 x.heel, .int .i64 x.pitch]) := HN2
 refine hK.out _ _ HC2.out (fun hHeld3 => ?_)
 clear hK K
 try simp only [Act.put]
 refine wpAnyH_done (by kernel_rfl) ?_ _
 clear hv
 have hv := hv2
 clear hv2
 go_upto_region 3 with fail
 obtain ⟨n0, n1, n2, n3, n4⟩ := qC5 HN2.out
 have x0 : W2.cell? ⟨gx, 0, none⟩ = some (.string x.name) := HX2.out.cell 0
 have HZ3 := qH (HZ2.out.below (Below.refl W2.heap.size W2).drew)
 refine wp_region_held_drew (S := fun w' => World.cell? w' ⟨gn, 0, none⟩ = some (.int .i64 x.length) ∧ World.cell? w' ⟨gn, 1, none⟩ = some (.int .i64 (x.ball + a)) ∧ World.cell? w' ⟨gn, 2, none⟩ = some (.int .i64 x.instep) ∧ World.cell? w' ⟨gn, 3, none⟩ = some (.int .i64 x.heel) ∧ World.cell? w' ⟨gn, 4, none⟩ = some (.int .i64 x.pitch) ∧ World.cell? w' ⟨gx, 0, none⟩ = some (.string x.name)) (by kernel_rfl) ?_ (fun hHeld => ?_)
 · exact ⟨n0, n1, n2, n3, n4, x0⟩
 refine zT 0 18 ?_ rfl ?_ ((by assumption)) ?_
 rotate_left
 · intro w hSw
   try dsimp only at hSw
   obtain ⟨y0, y1, y2, y3, y4, y5⟩ := hSw
   go_simp
   try with_reducible rfl
 try simp only [Act.put, zA, zB, zC]
 refine zT 1 19 ?_ rfl ?_ ((by assumption)) ?_
 rotate_left
 · intro w hSw
   try dsimp only at hSw
   obtain ⟨y0, y1, y2, y3, y4, y5⟩ := hSw
   go_simp
   try with_reducible rfl
 try simp only [Act.put, zA, zB, zC]
 refine zT 2 20 ?_ rfl ?_ ((by assumption)) ?_
 rotate_left
 · intro w hSw
   try dsimp only at hSw
   obtain ⟨y0, y1, y2, y3, y4, y5⟩ := hSw
   go_simp
   try with_reducible rfl
 try simp only [Act.put, zA, zB, zC]
 refine zT 3 21 ?_ rfl ?_ ((by assumption)) ?_
 rotate_left
 · intro w hSw
   try dsimp only at hSw
   obtain ⟨y0, y1, y2, y3, y4, y5⟩ := hSw
   go_simp
   try with_reducible rfl
 try simp only [Act.put, zA, zB, zC]
 refine zT 4 22 ?_ rfl ?_ ((by assumption)) ?_
 rotate_left
 · intro w hSw
   try dsimp only at hSw
   obtain ⟨y0, y1, y2, y3, y4, y5⟩ := hSw
   go_simp
   try with_reducible rfl
 try simp only [Act.put, zA, zB, zC]
 refine zT 5 23 ?_ rfl ?_ ((by assumption)) ?_
 rotate_left
 · intro w hSw
   try dsimp only at hSw
   obtain ⟨y0, y1, y2, y3, y4, y5⟩ := hSw
   go_simp
   try with_reducible rfl
 try simp only [Act.put, zA, zB, zC]
 refine zT 6 24 ?_ rfl ?_ ((by assumption)) ?_
 rotate_left
 · intro w hSw
   try dsimp only at hSw
   obtain ⟨y0, y1, y2, y3, y4, y5⟩ := hSw
   go_simp
   try with_reducible rfl
 try simp only [Act.put, zA, zB, zC]
 refine zT 7 25 ?_ rfl ?_ ((by assumption)) ?_
 rotate_left
 · intro w hSw
   try dsimp only at hSw
   obtain ⟨y0, y1, y2, y3, y4, y5⟩ := hSw
   go_simp
   try with_reducible rfl
 try simp only [Act.put, zA, zB, zC]
 refine zT 8 26 ?_ rfl ?_ ((by assumption)) ?_
 rotate_left
 · intro w hSw
   try dsimp only at hSw
   obtain ⟨y0, y1, y2, y3, y4, y5⟩ := hSw
   go_simp
   try with_reducible rfl
 try simp only [Act.put, zA, zB, zC]
 refine zT 9 27 ?_ rfl ?_ ((by assumption)) ?_
 rotate_left
 · intro w hSw
   try dsimp only at hSw
   obtain ⟨y0, y1, y2, y3, y4, y5⟩ := hSw
   go_simp
   try with_reducible rfl
 try simp only [Act.put, zA, zB, zC]
 refine zT 10 28 ?_ rfl ?_ ((by assumption)) ?_
 rotate_left
 · intro w hSw
   try dsimp only at hSw
   obtain ⟨y0, y1, y2, y3, y4, y5⟩ := hSw
   go_simp
   try with_reducible rfl
 try simp only [Act.put, zA, zB, zC]
 refine zT 11 29 ?_ rfl ?_ ((by assumption)) ?_
 rotate_left
 · intro w hSw
   try dsimp only at hSw
   obtain ⟨y0, y1, y2, y3, y4, y5⟩ := hSw
   go_simp
   try with_reducible rfl
 try simp only [Act.put, zA, zB, zC]
 refine zT 12 30 ?_ rfl ?_ ((by assumption)) ?_
 rotate_left
 · intro w hSw
   try dsimp only at hSw
   obtain ⟨y0, y1, y2, y3, y4, y5⟩ := hSw
   go_simp
   try with_reducible rfl
 try simp only [Act.put, zA, zB, zC]
 refine zT 13 31 ?_ rfl ?_ ((by assumption)) ?_
 rotate_left
 · intro w hSw
   try dsimp only at hSw
   obtain ⟨y0, y1, y2, y3, y4, y5⟩ := hSw
   go_simp
   try with_reducible rfl
 try simp only [Act.put, zA, zB, zC]
 refine zT 14 32 ?_ rfl ?_ ((by assumption)) ?_
 rotate_left
 · intro w hSw
   try dsimp only at hSw
   obtain ⟨y0, y1, y2, y3, y4, y5⟩ := hSw
   go_simp
   try with_reducible rfl
 try simp only [Act.put, zA, zB, zC]
 refine zT 15 33 ?_ rfl ?_ ((by assumption)) ?_
 rotate_left
 · intro w hSw
   try dsimp only at hSw
   obtain ⟨y0, y1, y2, y3, y4, y5⟩ := hSw
   go_simp
   try with_reducible rfl
 try simp only [Act.put, zA, zB, zC]
 refine zT 16 34 ?_ rfl ?_ ((by assumption)) ?_
 rotate_left
 · intro w hSw
   try dsimp only at hSw
   obtain ⟨y0, y1, y2, y3, y4, y5⟩ := hSw
   go_simp
   try with_reducible rfl
 try simp only [Act.put, zA, zB, zC]
 refine zT 17 35 ?_ rfl ?_ ((by assumption)) ?_
 rotate_left
 · intro w hSw
   try dsimp only at hSw
   obtain ⟨y0, y1, y2, y3, y4, y5⟩ := hSw
   go_simp
   try with_reducible rfl
 try simp only [Act.put, zA, zB, zC]
 refine wpAnyH_ready (rs := [18]) (by kernel_rfl) (by simp) ?_
 refine (AllReadyH.cons (o := { dst := none, op := _, type := _, pos := _, after := _, guard := _ }) rfl (fun K hK => ?_) AllReadyH.nil)
 refine wp_store_row 100 _ _ rfl gz #[.string x.name, .int .i64 x.length, .int .i64 (x.ball + a), .int .i64 x.instep, .int .i64 x.heel, .int .i64 x.pitch] rfl rfl 100 #[Value.string ⟨#[]⟩, Value.int .i64 0, Value.int .i64 0, Value.int .i64 0, Value.int .i64 0, Value.int .i64 0] HZ3.out (by kernel_rfl) rfl (by simp [Value.oneCell']) ?_
 refine hK.out _ _ ⟨cell_farR n0 (by simp only; omega), cell_farR n1 (by simp only; omega), cell_farR n2 (by simp only; omega), cell_farR n3 (by simp only; omega), cell_farR n4 (by simp only; omega), cell_farR x0 (by simp only; omega)⟩ (fun hHeld4 => ?_)
 clear hK K
 try simp only [Act.put]
 refine wpAnyH_done (by kernel_rfl) ?_ _
 go_wp2_with fail
 try simp only [Exit.inBlock, Exit.then]
 refine bodyPost_ret (results_cell_row (P := Tryz.prog) rfl _ _ gz 100 #[Value.string x.name, Value.int .i64 x.length, Value.int .i64 (x.ball + a), Value.int .i64 x.instep, Value.int .i64 x.heel, Value.int .i64 x.pitch] (0, 0) _ rfl ?_ Tryz.underlying100 rfl (by kernel_rfl)) rfl ?_
 · exact setRow_heap _ _ _ _ _ _ HZ3.out
 · exact Ret.mk rfl (below_rowL hv.drew hzw _)
set_option maxRecDepth 100000 in
set_option maxHeartbeats 4000000 in
theorem changed3_c (x : Last) (a : Int) (HX : Hid (lastB x = true)) (a0 : -300 ≤ a) (a1 : a ≤ 300) (w : World) : Calls Tryz.prog 136 #[.agg #[.string x.name, .int .i64 x.length, .int .i64 x.ball, .int .i64 x.instep, .int .i64 x.heel, .int .i64 x.pitch], .agg #[.int .i64 3, .int .i64 a]] w (Ret (.agg #[.string x.name, .int .i64 x.length, .int .i64 x.ball, .int .i64 (x.instep + a), .int .i64 x.heel, .int .i64 x.pitch]) w) := by
 obtain ⟨⟨l0, l1⟩, ⟨b0, b1⟩, ⟨i0, i1⟩, ⟨h0, h1⟩, p0, p1⟩ := last_bd HX.out
 have hwk : IntKind.i64.wrap 2 = 2 := IntWalk.i64_in _ (by omega)
 have hwa : IntKind.i64.wrap (x.instep + a) = x.instep + a := IntWalk.i64_in _ (by omega)
 obtain ⟨gx, hgx⟩ : ∃ z, z = w.heap.size := ⟨_, rfl⟩
 obtain ⟨gc, hgc⟩ : ∃ z, z = w.heap.size + 1 := ⟨_, rfl⟩
 obtain ⟨gz, hgz⟩ : ∃ z, z = w.heap.size + 1 + 1 := ⟨_, rfl⟩
 obtain ⟨W, hW⟩ : ∃ z, z = ((w.alloc (Obj.cells #[.string x.name, .int .i64 x.length, .int .i64 x.ball, .int .i64 x.instep, .int .i64 x.heel, .int .i64 x.pitch] 100)).alloc (Obj.cells #[.int .i64 3, .int .i64 a] 126)).alloc (Obj.cells #[.string ⟨#[]⟩, .int .i64 0, .int .i64 0, .int .i64 0, .int .i64 0, .int .i64 0] 100) := ⟨_, rfl⟩
 have hv : Below w.heap.size w W := by rw [hW]; exact bl_alloc (bl_alloc (bl_alloc (Below.refl _ _) _) _) _
 have HX1 : Hid (Blk W gx 100 #[.string x.name, .int .i64 x.length, .int .i64 x.ball, .int .i64 x.instep, .int .i64 x.heel, .int .i64 x.pitch]) := qH (by rw [hW, hgx]; exact ((Blk.new w _ _).alloc _).alloc _)
 have HC : Hid (Blk W gc 126 #[.int .i64 3, .int .i64 a]) := qH (by
   have h := (Blk.new (w.alloc (Obj.cells #[.string x.name, .int .i64 x.length, .int .i64 x.ball, .int .i64 x.instep, .int .i64 x.heel, .int .i64 x.pitch] 100)) 126 #[Value.int .i64 3, Value.int .i64 a]).alloc (Obj.cells #[.string ⟨#[]⟩, .int .i64 0, .int .i64 0, .int .i64 0, .int .i64 0, .int .i64 0] 100)
   rw [World.size_alloc] at h
   rw [hW, hgc]; exact h)
 have HZ : Hid (Blk W gz 100 #[.string ⟨#[]⟩, .int .i64 0, .int .i64 0, .int .i64 0, .int .i64 0, .int .i64 0]) := qH (by
   have h := Blk.new ((w.alloc (Obj.cells #[.string x.name, .int .i64 x.length, .int .i64 x.ball, .int .i64 x.instep, .int .i64 x.heel, .int .i64 x.pitch] 100)).alloc (Obj.cells #[.int .i64 3, .int .i64 a] 126)) 100 #[Value.string ⟨#[]⟩, Value.int .i64 0, Value.int .i64 0, Value.int .i64 0, Value.int .i64 0, Value.int .i64 0]
   rw [World.size_alloc, World.size_alloc] at h
   rw [hW, hgz]; exact h)
 have hzw : w.heap.size ≤ gz := by omega
 have hxz : gx ≠ gz := by omega
 have hWz : W.heap.size = gz + 1 := by rw [hW, World.size_alloc, World.size_alloc, World.size_alloc, hgz]
 have HW := qH hW
 have G1 := qH hgx
 have G2 := qH hgc
 have G3 := qH hgz
 obtain ⟨k0, k1, k2, k3, k4, k5⟩ := qC6 HX1.out
 clear hW hgx hgc hgz
 go_enter Tryz.func136, Tryz.ntmps136
 go_upto_region 1 with fail
 rw [← HW.out]
 first | rw [← G3.out, ← G2.out, ← G1.out] | rw [show w.heap.size + 2 = gz from G3.out.symm, ← G2.out, ← G1.out]
 clear HW G1 G2 G3
 go_wp2_with fail
 refine (numbers_c x _).mono ?_
 rintro e W1 ⟨gn, rfl, hgn, hN, hb⟩
 have HN := qH hN
 clear hN k0 k1 k2 k3 k4 k5
 replace HX1 := qH (HX1.out.below hb)
 replace HC := qH (HC.out.below hb)
 replace HZ := qH (HZ.out.below hb)
 replace hv := bl_trans hv hb
 have hne : gz ≠ gn := by omega
 have hnw : w.heap.size ≤ gn := by omega
 have hxn : gx ≠ gn := by have := HX1.out.lt; intro e; subst e; have h1 := HN.out; have h2 := HX1.out; unfold Blk at h1 h2; rw [h1] at h2; simp at h2
 clear hb hWz
 go_upto_region 2 with fail
 have HXD := qH (HX1.out.below (Below.refl W1.heap.size W1).drew)
 have HCD := qH (HC.out.below (Below.refl W1.heap.size W1).drew)
 have HZD := qH (HZ.out.below (Below.refl W1.heap.size W1).drew)
 have HND := qH (HN.out.below (Below.refl W1.heap.size W1).drew)
 clear HX1 HC HZ HN
 refine wp_region_held_drew (S := fun w' => Blk w' gc 126 #[Value.int .i64 3, Value.int .i64 a]) (by kernel_rfl) ?_ (fun hHeld => ?_)
 · exact HCD.out
 refine zT 0 8 ?_ rfl ?_ ((by assumption)) ?_
 rotate_left
 · intro w hSw
   try dsimp only at hSw
   have y0 : w.cell? ⟨gc, 0, none⟩ = some (.int .i64 3) := hSw.cell 0
   have y1 : w.cell? ⟨gc, 1, none⟩ = some (.int .i64 a) := hSw.cell 1
   go_simp
   try with_reducible rfl
 try simp only [Act.put, zA, zB, zC]
 refine zT 1 9 ?_ rfl ?_ ((by assumption)) ?_
 rotate_left
 · intro w hSw
   try dsimp only at hSw
   have y0 : w.cell? ⟨gc, 0, none⟩ = some (.int .i64 3) := hSw.cell 0
   have y1 : w.cell? ⟨gc, 1, none⟩ = some (.int .i64 a) := hSw.cell 1
   go_simp
   try with_reducible rfl
 try simp only [Act.put, zA, zB, zC]
 refine zT 2 10 ?_ rfl ?_ ((by assumption)) ?_
 rotate_left
 · intro w hSw
   try dsimp only at hSw
   have y0 : w.cell? ⟨gc, 0, none⟩ = some (.int .i64 3) := hSw.cell 0
   have y1 : w.cell? ⟨gc, 1, none⟩ = some (.int .i64 a) := hSw.cell 1
   go_simp
   try with_reducible rfl
 try simp only [Act.put, zA, zB, zC]
 refine zT 3 11 ?_ rfl ?_ ((by assumption)) ?_
 rotate_left
 · intro w hSw
   try dsimp only at hSw
   have y0 : w.cell? ⟨gc, 0, none⟩ = some (.int .i64 3) := hSw.cell 0
   have y1 : w.cell? ⟨gc, 1, none⟩ = some (.int .i64 a) := hSw.cell 1
   go_simp
   try with_reducible rfl
 try simp only [Act.put, zA, zB, zC]
 refine zT 4 12 ?_ rfl ?_ ((by assumption)) ?_
 rotate_left
 · intro w hSw
   try dsimp only at hSw
   have y0 : w.cell? ⟨gc, 0, none⟩ = some (.int .i64 3) := hSw.cell 0
   have y1 : w.cell? ⟨gc, 1, none⟩ = some (.int .i64 a) := hSw.cell 1
   go_simp
   try with_reducible rfl
 try simp only [Act.put, zA, zB, zC]
 refine zT 6 14 ?_ rfl ?_ ((by assumption)) ?_
 rotate_left
 · intro w hSw
   try dsimp only at hSw
   have y0 : w.cell? ⟨gc, 0, none⟩ = some (.int .i64 3) := hSw.cell 0
   have y1 : w.cell? ⟨gc, 1, none⟩ = some (.int .i64 a) := hSw.cell 1
   go_simp
   try with_reducible rfl
 try simp only [Act.put, zA, zB, zC]
 refine zT 7 15 ?_ rfl ?_ ((by assumption)) ?_
 rotate_left
 · intro w hSw
   try dsimp only at hSw
   have y0 : w.cell? ⟨gc, 0, none⟩ = some (.int .i64 3) := hSw.cell 0
   have y1 : w.cell? ⟨gc, 1, none⟩ = some (.int .i64 a) := hSw.cell 1
   go_simp
   try with_reducible rfl
 try simp only [Act.put, zA, zB, zC]
 refine wpAnyH_ready (rs := [5]) (by kernel_rfl) (by simp) ?_
 refine (AllReadyH.cons (o := { dst := some 13, op := _, type := _, pos := _, after := _, guard := _ }) rfl (fun K hK => ?_) AllReadyH.nil)
 have n0 : World.cell? (W1.drew) ⟨gn, 2, none⟩ = some (.int .i64 x.instep) := HND.out.cell 2
 go_simp
 refine hK.out _ _ (by assumption) (fun hHeld2 => ?_)
 clear hK K n0
 try simp only [Act.put, zA, zB, zC]
 refine zT 8 16 ?_ rfl ?_ ((by assumption)) ?_
 rotate_left
 · intro w hSw
   try dsimp only at hSw
   have y0 : w.cell? ⟨gc, 0, none⟩ = some (.int .i64 3) := hSw.cell 0
   have y1 : w.cell? ⟨gc, 1, none⟩ = some (.int .i64 a) := hSw.cell 1
   go_simp
   try with_reducible rfl
 try simp only [Act.put, zA, zB, zC]
 refine zT 9 17 ?_ rfl ?_ ((by assumption)) ?_
 rotate_left
 · intro w hSw
   try dsimp only at hSw
   have y0 : w.cell? ⟨gc, 0, none⟩ = some (.int .i64 3) := hSw.cell 0
   have y1 : w.cell? ⟨gc, 1, none⟩ = some (.int .i64 a) := hSw.cell 1
   go_simp
   try with_reducible rfl
 try simp only [Act.put, zA, zB, zC]
 refine wpAnyH_ready (rs := [10]) (by kernel_rfl) (by simp) ?_
 refine (AllReadyH.cons (o := { dst := none, op := _, type := _, pos := _, after := _, guard := _ }) rfl (fun K hK => ?_) AllReadyH.nil)
 have n0 : World.cell? (W1.drew) ⟨gn, 2, none⟩ = some (.int .i64 x.instep) := HND.out.cell 2
 have f0 : World.frozen? (W1.drew) ⟨gn, 2, none⟩ = false := HND.out.frozen 2
 go_simp
 clear n0 f0
 have eW : World.setCell W1.drew ⟨gn, 2, none⟩ (Value.int .i64 (x.instep + a)) = (World.setCell W1 ⟨gn, 2, none⟩ (Value.int .i64 (x.instep + a))).drew := rfl
 obtain ⟨W2, hW2⟩ : ∃ z, z = (World.setCell W1 ⟨gn, 2, none⟩ (Value.int .i64 (x.instep + a))).drew := ⟨_, rfl⟩
 have HN2 := qH (HND.out.set_ 2 (Value.int .i64 (x.instep + a)))
 have HX2 := qH (HXD.out.far (p := ⟨gn, 2, none⟩) (by simp only; omega) (Value.int .i64 (x.instep + a)))
 have HZ2 := qH (HZD.out.far (p := ⟨gn, 2, none⟩) (by simp only; omega) (Value.int .i64 (x.instep + a)))
 have hcn : gc ≠ gn := by intro e; subst e; have h1 := HND.out; have h2 := HCD.out; unfold Blk at h1 h2; rw [h1] at h2; simp at h2
 have HC2 := qH (HCD.out.far (p := ⟨gn, 2, none⟩) (by simp only; omega) (Value.int .i64 (x.instep + a)))
 have hv2 := bl_grown hv.drew (grown_setCellI (p := ⟨gn, 2, none⟩) (Value.int .i64 (x.instep + a))) (fun k e => by injection e with e; have e2 : gn = k := e; omega)
 rw [eW, ← hW2] at HN2 HX2 HZ2 HC2 hv2
 rw [← hW2]
 clear hW2 eW HND HXD HZD hcn
 replace HN2 : Hid (Blk W2 gn 2 #[.int .i64 x.length, .int .i64 x.ball, .int .i64 (x.instep + a), .int .i64 x.heel, .int .i64 x.pitch]) := HN2
 refine hK.out _ _ HC2.out (fun hHeld3 => ?_)
 clear hK K
 try simp only [Act.put]
 refine wpAnyH_done (by kernel_rfl) ?_ _
 clear hv
 have hv := hv2
 clear hv2
 go_upto_region 3 with fail
 obtain ⟨n0, n1, n2, n3, n4⟩ := qC5 HN2.out
 have x0 : W2.cell? ⟨gx, 0, none⟩ = some (.string x.name) := HX2.out.cell 0
 have HZ3 := qH (HZ2.out.below (Below.refl W2.heap.size W2).drew)
 refine wp_region_held_drew (S := fun w' => World.cell? w' ⟨gn, 0, none⟩ = some (.int .i64 x.length) ∧ World.cell? w' ⟨gn, 1, none⟩ = some (.int .i64 x.ball) ∧ World.cell? w' ⟨gn, 2, none⟩ = some (.int .i64 (x.instep + a)) ∧ World.cell? w' ⟨gn, 3, none⟩ = some (.int .i64 x.heel) ∧ World.cell? w' ⟨gn, 4, none⟩ = some (.int .i64 x.pitch) ∧ World.cell? w' ⟨gx, 0, none⟩ = some (.string x.name)) (by kernel_rfl) ?_ (fun hHeld => ?_)
 · exact ⟨n0, n1, n2, n3, n4, x0⟩
 refine zT 0 18 ?_ rfl ?_ ((by assumption)) ?_
 rotate_left
 · intro w hSw
   try dsimp only at hSw
   obtain ⟨y0, y1, y2, y3, y4, y5⟩ := hSw
   go_simp
   try with_reducible rfl
 try simp only [Act.put, zA, zB, zC]
 refine zT 1 19 ?_ rfl ?_ ((by assumption)) ?_
 rotate_left
 · intro w hSw
   try dsimp only at hSw
   obtain ⟨y0, y1, y2, y3, y4, y5⟩ := hSw
   go_simp
   try with_reducible rfl
 try simp only [Act.put, zA, zB, zC]
 refine zT 2 20 ?_ rfl ?_ ((by assumption)) ?_
 rotate_left
 · intro w hSw
   try dsimp only at hSw
   obtain ⟨y0, y1, y2, y3, y4, y5⟩ := hSw
   go_simp
   try with_reducible rfl
 try simp only [Act.put, zA, zB, zC]
 refine zT 3 21 ?_ rfl ?_ ((by assumption)) ?_
 rotate_left
 · intro w hSw
   try dsimp only at hSw
   obtain ⟨y0, y1, y2, y3, y4, y5⟩ := hSw
   go_simp
   try with_reducible rfl
 try simp only [Act.put, zA, zB, zC]
 refine zT 4 22 ?_ rfl ?_ ((by assumption)) ?_
 rotate_left
 · intro w hSw
   try dsimp only at hSw
   obtain ⟨y0, y1, y2, y3, y4, y5⟩ := hSw
   go_simp
   try with_reducible rfl
 try simp only [Act.put, zA, zB, zC]
 refine zT 5 23 ?_ rfl ?_ ((by assumption)) ?_
 rotate_left
 · intro w hSw
   try dsimp only at hSw
   obtain ⟨y0, y1, y2, y3, y4, y5⟩ := hSw
   go_simp
   try with_reducible rfl
 try simp only [Act.put, zA, zB, zC]
 refine zT 6 24 ?_ rfl ?_ ((by assumption)) ?_
 rotate_left
 · intro w hSw
   try dsimp only at hSw
   obtain ⟨y0, y1, y2, y3, y4, y5⟩ := hSw
   go_simp
   try with_reducible rfl
 try simp only [Act.put, zA, zB, zC]
 refine zT 7 25 ?_ rfl ?_ ((by assumption)) ?_
 rotate_left
 · intro w hSw
   try dsimp only at hSw
   obtain ⟨y0, y1, y2, y3, y4, y5⟩ := hSw
   go_simp
   try with_reducible rfl
 try simp only [Act.put, zA, zB, zC]
 refine zT 8 26 ?_ rfl ?_ ((by assumption)) ?_
 rotate_left
 · intro w hSw
   try dsimp only at hSw
   obtain ⟨y0, y1, y2, y3, y4, y5⟩ := hSw
   go_simp
   try with_reducible rfl
 try simp only [Act.put, zA, zB, zC]
 refine zT 9 27 ?_ rfl ?_ ((by assumption)) ?_
 rotate_left
 · intro w hSw
   try dsimp only at hSw
   obtain ⟨y0, y1, y2, y3, y4, y5⟩ := hSw
   go_simp
   try with_reducible rfl
 try simp only [Act.put, zA, zB, zC]
 refine zT 10 28 ?_ rfl ?_ ((by assumption)) ?_
 rotate_left
 · intro w hSw
   try dsimp only at hSw
   obtain ⟨y0, y1, y2, y3, y4, y5⟩ := hSw
   go_simp
   try with_reducible rfl
 try simp only [Act.put, zA, zB, zC]
 refine zT 11 29 ?_ rfl ?_ ((by assumption)) ?_
 rotate_left
 · intro w hSw
   try dsimp only at hSw
   obtain ⟨y0, y1, y2, y3, y4, y5⟩ := hSw
   go_simp
   try with_reducible rfl
 try simp only [Act.put, zA, zB, zC]
 refine zT 12 30 ?_ rfl ?_ ((by assumption)) ?_
 rotate_left
 · intro w hSw
   try dsimp only at hSw
   obtain ⟨y0, y1, y2, y3, y4, y5⟩ := hSw
   go_simp
   try with_reducible rfl
 try simp only [Act.put, zA, zB, zC]
 refine zT 13 31 ?_ rfl ?_ ((by assumption)) ?_
 rotate_left
 · intro w hSw
   try dsimp only at hSw
   obtain ⟨y0, y1, y2, y3, y4, y5⟩ := hSw
   go_simp
   try with_reducible rfl
 try simp only [Act.put, zA, zB, zC]
 refine zT 14 32 ?_ rfl ?_ ((by assumption)) ?_
 rotate_left
 · intro w hSw
   try dsimp only at hSw
   obtain ⟨y0, y1, y2, y3, y4, y5⟩ := hSw
   go_simp
   try with_reducible rfl
 try simp only [Act.put, zA, zB, zC]
 refine zT 15 33 ?_ rfl ?_ ((by assumption)) ?_
 rotate_left
 · intro w hSw
   try dsimp only at hSw
   obtain ⟨y0, y1, y2, y3, y4, y5⟩ := hSw
   go_simp
   try with_reducible rfl
 try simp only [Act.put, zA, zB, zC]
 refine zT 16 34 ?_ rfl ?_ ((by assumption)) ?_
 rotate_left
 · intro w hSw
   try dsimp only at hSw
   obtain ⟨y0, y1, y2, y3, y4, y5⟩ := hSw
   go_simp
   try with_reducible rfl
 try simp only [Act.put, zA, zB, zC]
 refine zT 17 35 ?_ rfl ?_ ((by assumption)) ?_
 rotate_left
 · intro w hSw
   try dsimp only at hSw
   obtain ⟨y0, y1, y2, y3, y4, y5⟩ := hSw
   go_simp
   try with_reducible rfl
 try simp only [Act.put, zA, zB, zC]
 refine wpAnyH_ready (rs := [18]) (by kernel_rfl) (by simp) ?_
 refine (AllReadyH.cons (o := { dst := none, op := _, type := _, pos := _, after := _, guard := _ }) rfl (fun K hK => ?_) AllReadyH.nil)
 refine wp_store_row 100 _ _ rfl gz #[.string x.name, .int .i64 x.length, .int .i64 x.ball, .int .i64 (x.instep + a), .int .i64 x.heel, .int .i64 x.pitch] rfl rfl 100 #[Value.string ⟨#[]⟩, Value.int .i64 0, Value.int .i64 0, Value.int .i64 0, Value.int .i64 0, Value.int .i64 0] HZ3.out (by kernel_rfl) rfl (by simp [Value.oneCell']) ?_
 refine hK.out _ _ ⟨cell_farR n0 (by simp only; omega), cell_farR n1 (by simp only; omega), cell_farR n2 (by simp only; omega), cell_farR n3 (by simp only; omega), cell_farR n4 (by simp only; omega), cell_farR x0 (by simp only; omega)⟩ (fun hHeld4 => ?_)
 clear hK K
 try simp only [Act.put]
 refine wpAnyH_done (by kernel_rfl) ?_ _
 go_wp2_with fail
 try simp only [Exit.inBlock, Exit.then]
 refine bodyPost_ret (results_cell_row (P := Tryz.prog) rfl _ _ gz 100 #[Value.string x.name, Value.int .i64 x.length, Value.int .i64 x.ball, Value.int .i64 (x.instep + a), Value.int .i64 x.heel, Value.int .i64 x.pitch] (0, 0) _ rfl ?_ Tryz.underlying100 rfl (by kernel_rfl)) rfl ?_
 · exact setRow_heap _ _ _ _ _ _ HZ3.out
 · exact Ret.mk rfl (below_rowL hv.drew hzw _)
set_option maxRecDepth 100000 in
set_option maxHeartbeats 4000000 in
theorem changed4_c (x : Last) (a : Int) (HX : Hid (lastB x = true)) (a0 : -300 ≤ a) (a1 : a ≤ 300) (w : World) : Calls Tryz.prog 136 #[.agg #[.string x.name, .int .i64 x.length, .int .i64 x.ball, .int .i64 x.instep, .int .i64 x.heel, .int .i64 x.pitch], .agg #[.int .i64 4, .int .i64 a]] w (Ret (.agg #[.string x.name, .int .i64 x.length, .int .i64 x.ball, .int .i64 x.instep, .int .i64 (x.heel + a), .int .i64 x.pitch]) w) := by
 obtain ⟨⟨l0, l1⟩, ⟨b0, b1⟩, ⟨i0, i1⟩, ⟨h0, h1⟩, p0, p1⟩ := last_bd HX.out
 have hwk : IntKind.i64.wrap 3 = 3 := IntWalk.i64_in _ (by omega)
 have hwa : IntKind.i64.wrap (x.heel + a) = x.heel + a := IntWalk.i64_in _ (by omega)
 obtain ⟨gx, hgx⟩ : ∃ z, z = w.heap.size := ⟨_, rfl⟩
 obtain ⟨gc, hgc⟩ : ∃ z, z = w.heap.size + 1 := ⟨_, rfl⟩
 obtain ⟨gz, hgz⟩ : ∃ z, z = w.heap.size + 1 + 1 := ⟨_, rfl⟩
 obtain ⟨W, hW⟩ : ∃ z, z = ((w.alloc (Obj.cells #[.string x.name, .int .i64 x.length, .int .i64 x.ball, .int .i64 x.instep, .int .i64 x.heel, .int .i64 x.pitch] 100)).alloc (Obj.cells #[.int .i64 4, .int .i64 a] 126)).alloc (Obj.cells #[.string ⟨#[]⟩, .int .i64 0, .int .i64 0, .int .i64 0, .int .i64 0, .int .i64 0] 100) := ⟨_, rfl⟩
 have hv : Below w.heap.size w W := by rw [hW]; exact bl_alloc (bl_alloc (bl_alloc (Below.refl _ _) _) _) _
 have HX1 : Hid (Blk W gx 100 #[.string x.name, .int .i64 x.length, .int .i64 x.ball, .int .i64 x.instep, .int .i64 x.heel, .int .i64 x.pitch]) := qH (by rw [hW, hgx]; exact ((Blk.new w _ _).alloc _).alloc _)
 have HC : Hid (Blk W gc 126 #[.int .i64 4, .int .i64 a]) := qH (by
   have h := (Blk.new (w.alloc (Obj.cells #[.string x.name, .int .i64 x.length, .int .i64 x.ball, .int .i64 x.instep, .int .i64 x.heel, .int .i64 x.pitch] 100)) 126 #[Value.int .i64 4, Value.int .i64 a]).alloc (Obj.cells #[.string ⟨#[]⟩, .int .i64 0, .int .i64 0, .int .i64 0, .int .i64 0, .int .i64 0] 100)
   rw [World.size_alloc] at h
   rw [hW, hgc]; exact h)
 have HZ : Hid (Blk W gz 100 #[.string ⟨#[]⟩, .int .i64 0, .int .i64 0, .int .i64 0, .int .i64 0, .int .i64 0]) := qH (by
   have h := Blk.new ((w.alloc (Obj.cells #[.string x.name, .int .i64 x.length, .int .i64 x.ball, .int .i64 x.instep, .int .i64 x.heel, .int .i64 x.pitch] 100)).alloc (Obj.cells #[.int .i64 4, .int .i64 a] 126)) 100 #[Value.string ⟨#[]⟩, Value.int .i64 0, Value.int .i64 0, Value.int .i64 0, Value.int .i64 0, Value.int .i64 0]
   rw [World.size_alloc, World.size_alloc] at h
   rw [hW, hgz]; exact h)
 have hzw : w.heap.size ≤ gz := by omega
 have hxz : gx ≠ gz := by omega
 have hWz : W.heap.size = gz + 1 := by rw [hW, World.size_alloc, World.size_alloc, World.size_alloc, hgz]
 have HW := qH hW
 have G1 := qH hgx
 have G2 := qH hgc
 have G3 := qH hgz
 obtain ⟨k0, k1, k2, k3, k4, k5⟩ := qC6 HX1.out
 clear hW hgx hgc hgz
 go_enter Tryz.func136, Tryz.ntmps136
 go_upto_region 1 with fail
 rw [← HW.out]
 first | rw [← G3.out, ← G2.out, ← G1.out] | rw [show w.heap.size + 2 = gz from G3.out.symm, ← G2.out, ← G1.out]
 clear HW G1 G2 G3
 go_wp2_with fail
 refine (numbers_c x _).mono ?_
 rintro e W1 ⟨gn, rfl, hgn, hN, hb⟩
 have HN := qH hN
 clear hN k0 k1 k2 k3 k4 k5
 replace HX1 := qH (HX1.out.below hb)
 replace HC := qH (HC.out.below hb)
 replace HZ := qH (HZ.out.below hb)
 replace hv := bl_trans hv hb
 have hne : gz ≠ gn := by omega
 have hnw : w.heap.size ≤ gn := by omega
 have hxn : gx ≠ gn := by have := HX1.out.lt; intro e; subst e; have h1 := HN.out; have h2 := HX1.out; unfold Blk at h1 h2; rw [h1] at h2; simp at h2
 clear hb hWz
 go_upto_region 2 with fail
 have HXD := qH (HX1.out.below (Below.refl W1.heap.size W1).drew)
 have HCD := qH (HC.out.below (Below.refl W1.heap.size W1).drew)
 have HZD := qH (HZ.out.below (Below.refl W1.heap.size W1).drew)
 have HND := qH (HN.out.below (Below.refl W1.heap.size W1).drew)
 clear HX1 HC HZ HN
 refine wp_region_held_drew (S := fun w' => Blk w' gc 126 #[Value.int .i64 4, Value.int .i64 a]) (by kernel_rfl) ?_ (fun hHeld => ?_)
 · exact HCD.out
 refine zT 0 8 ?_ rfl ?_ ((by assumption)) ?_
 rotate_left
 · intro w hSw
   try dsimp only at hSw
   have y0 : w.cell? ⟨gc, 0, none⟩ = some (.int .i64 4) := hSw.cell 0
   have y1 : w.cell? ⟨gc, 1, none⟩ = some (.int .i64 a) := hSw.cell 1
   go_simp
   try with_reducible rfl
 try simp only [Act.put, zA, zB, zC]
 refine zT 1 9 ?_ rfl ?_ ((by assumption)) ?_
 rotate_left
 · intro w hSw
   try dsimp only at hSw
   have y0 : w.cell? ⟨gc, 0, none⟩ = some (.int .i64 4) := hSw.cell 0
   have y1 : w.cell? ⟨gc, 1, none⟩ = some (.int .i64 a) := hSw.cell 1
   go_simp
   try with_reducible rfl
 try simp only [Act.put, zA, zB, zC]
 refine zT 2 10 ?_ rfl ?_ ((by assumption)) ?_
 rotate_left
 · intro w hSw
   try dsimp only at hSw
   have y0 : w.cell? ⟨gc, 0, none⟩ = some (.int .i64 4) := hSw.cell 0
   have y1 : w.cell? ⟨gc, 1, none⟩ = some (.int .i64 a) := hSw.cell 1
   go_simp
   try with_reducible rfl
 try simp only [Act.put, zA, zB, zC]
 refine zT 3 11 ?_ rfl ?_ ((by assumption)) ?_
 rotate_left
 · intro w hSw
   try dsimp only at hSw
   have y0 : w.cell? ⟨gc, 0, none⟩ = some (.int .i64 4) := hSw.cell 0
   have y1 : w.cell? ⟨gc, 1, none⟩ = some (.int .i64 a) := hSw.cell 1
   go_simp
   try with_reducible rfl
 try simp only [Act.put, zA, zB, zC]
 refine zT 4 12 ?_ rfl ?_ ((by assumption)) ?_
 rotate_left
 · intro w hSw
   try dsimp only at hSw
   have y0 : w.cell? ⟨gc, 0, none⟩ = some (.int .i64 4) := hSw.cell 0
   have y1 : w.cell? ⟨gc, 1, none⟩ = some (.int .i64 a) := hSw.cell 1
   go_simp
   try with_reducible rfl
 try simp only [Act.put, zA, zB, zC]
 refine zT 6 14 ?_ rfl ?_ ((by assumption)) ?_
 rotate_left
 · intro w hSw
   try dsimp only at hSw
   have y0 : w.cell? ⟨gc, 0, none⟩ = some (.int .i64 4) := hSw.cell 0
   have y1 : w.cell? ⟨gc, 1, none⟩ = some (.int .i64 a) := hSw.cell 1
   go_simp
   try with_reducible rfl
 try simp only [Act.put, zA, zB, zC]
 refine zT 7 15 ?_ rfl ?_ ((by assumption)) ?_
 rotate_left
 · intro w hSw
   try dsimp only at hSw
   have y0 : w.cell? ⟨gc, 0, none⟩ = some (.int .i64 4) := hSw.cell 0
   have y1 : w.cell? ⟨gc, 1, none⟩ = some (.int .i64 a) := hSw.cell 1
   go_simp
   try with_reducible rfl
 try simp only [Act.put, zA, zB, zC]
 refine wpAnyH_ready (rs := [5]) (by kernel_rfl) (by simp) ?_
 refine (AllReadyH.cons (o := { dst := some 13, op := _, type := _, pos := _, after := _, guard := _ }) rfl (fun K hK => ?_) AllReadyH.nil)
 have n0 : World.cell? (W1.drew) ⟨gn, 3, none⟩ = some (.int .i64 x.heel) := HND.out.cell 3
 go_simp
 refine hK.out _ _ (by assumption) (fun hHeld2 => ?_)
 clear hK K n0
 try simp only [Act.put, zA, zB, zC]
 refine zT 8 16 ?_ rfl ?_ ((by assumption)) ?_
 rotate_left
 · intro w hSw
   try dsimp only at hSw
   have y0 : w.cell? ⟨gc, 0, none⟩ = some (.int .i64 4) := hSw.cell 0
   have y1 : w.cell? ⟨gc, 1, none⟩ = some (.int .i64 a) := hSw.cell 1
   go_simp
   try with_reducible rfl
 try simp only [Act.put, zA, zB, zC]
 refine zT 9 17 ?_ rfl ?_ ((by assumption)) ?_
 rotate_left
 · intro w hSw
   try dsimp only at hSw
   have y0 : w.cell? ⟨gc, 0, none⟩ = some (.int .i64 4) := hSw.cell 0
   have y1 : w.cell? ⟨gc, 1, none⟩ = some (.int .i64 a) := hSw.cell 1
   go_simp
   try with_reducible rfl
 try simp only [Act.put, zA, zB, zC]
 refine wpAnyH_ready (rs := [10]) (by kernel_rfl) (by simp) ?_
 refine (AllReadyH.cons (o := { dst := none, op := _, type := _, pos := _, after := _, guard := _ }) rfl (fun K hK => ?_) AllReadyH.nil)
 have n0 : World.cell? (W1.drew) ⟨gn, 3, none⟩ = some (.int .i64 x.heel) := HND.out.cell 3
 have f0 : World.frozen? (W1.drew) ⟨gn, 3, none⟩ = false := HND.out.frozen 3
 go_simp
 clear n0 f0
 have eW : World.setCell W1.drew ⟨gn, 3, none⟩ (Value.int .i64 (x.heel + a)) = (World.setCell W1 ⟨gn, 3, none⟩ (Value.int .i64 (x.heel + a))).drew := rfl
 obtain ⟨W2, hW2⟩ : ∃ z, z = (World.setCell W1 ⟨gn, 3, none⟩ (Value.int .i64 (x.heel + a))).drew := ⟨_, rfl⟩
 have HN2 := qH (HND.out.set_ 3 (Value.int .i64 (x.heel + a)))
 have HX2 := qH (HXD.out.far (p := ⟨gn, 3, none⟩) (by simp only; omega) (Value.int .i64 (x.heel + a)))
 have HZ2 := qH (HZD.out.far (p := ⟨gn, 3, none⟩) (by simp only; omega) (Value.int .i64 (x.heel + a)))
 have hcn : gc ≠ gn := by intro e; subst e; have h1 := HND.out; have h2 := HCD.out; unfold Blk at h1 h2; rw [h1] at h2; simp at h2
 have HC2 := qH (HCD.out.far (p := ⟨gn, 3, none⟩) (by simp only; omega) (Value.int .i64 (x.heel + a)))
 have hv2 := bl_grown hv.drew (grown_setCellI (p := ⟨gn, 3, none⟩) (Value.int .i64 (x.heel + a))) (fun k e => by injection e with e; have e2 : gn = k := e; omega)
 rw [eW, ← hW2] at HN2 HX2 HZ2 HC2 hv2
 rw [← hW2]
 clear hW2 eW HND HXD HZD hcn
 replace HN2 : Hid (Blk W2 gn 2 #[.int .i64 x.length, .int .i64 x.ball, .int .i64 x.instep, .int .i64 (x.heel + a), .int .i64 x.pitch]) := HN2
 refine hK.out _ _ HC2.out (fun hHeld3 => ?_)
 clear hK K
 try simp only [Act.put]
 refine wpAnyH_done (by kernel_rfl) ?_ _
 clear hv
 have hv := hv2
 clear hv2
 go_upto_region 3 with fail
 obtain ⟨n0, n1, n2, n3, n4⟩ := qC5 HN2.out
 have x0 : W2.cell? ⟨gx, 0, none⟩ = some (.string x.name) := HX2.out.cell 0
 have HZ3 := qH (HZ2.out.below (Below.refl W2.heap.size W2).drew)
 refine wp_region_held_drew (S := fun w' => World.cell? w' ⟨gn, 0, none⟩ = some (.int .i64 x.length) ∧ World.cell? w' ⟨gn, 1, none⟩ = some (.int .i64 x.ball) ∧ World.cell? w' ⟨gn, 2, none⟩ = some (.int .i64 x.instep) ∧ World.cell? w' ⟨gn, 3, none⟩ = some (.int .i64 (x.heel + a)) ∧ World.cell? w' ⟨gn, 4, none⟩ = some (.int .i64 x.pitch) ∧ World.cell? w' ⟨gx, 0, none⟩ = some (.string x.name)) (by kernel_rfl) ?_ (fun hHeld => ?_)
 · exact ⟨n0, n1, n2, n3, n4, x0⟩
 refine zT 0 18 ?_ rfl ?_ ((by assumption)) ?_
 rotate_left
 · intro w hSw
   try dsimp only at hSw
   obtain ⟨y0, y1, y2, y3, y4, y5⟩ := hSw
   go_simp
   try with_reducible rfl
 try simp only [Act.put, zA, zB, zC]
 refine zT 1 19 ?_ rfl ?_ ((by assumption)) ?_
 rotate_left
 · intro w hSw
   try dsimp only at hSw
   obtain ⟨y0, y1, y2, y3, y4, y5⟩ := hSw
   go_simp
   try with_reducible rfl
 try simp only [Act.put, zA, zB, zC]
 refine zT 2 20 ?_ rfl ?_ ((by assumption)) ?_
 rotate_left
 · intro w hSw
   try dsimp only at hSw
   obtain ⟨y0, y1, y2, y3, y4, y5⟩ := hSw
   go_simp
   try with_reducible rfl
 try simp only [Act.put, zA, zB, zC]
 refine zT 3 21 ?_ rfl ?_ ((by assumption)) ?_
 rotate_left
 · intro w hSw
   try dsimp only at hSw
   obtain ⟨y0, y1, y2, y3, y4, y5⟩ := hSw
   go_simp
   try with_reducible rfl
 try simp only [Act.put, zA, zB, zC]
 refine zT 4 22 ?_ rfl ?_ ((by assumption)) ?_
 rotate_left
 · intro w hSw
   try dsimp only at hSw
   obtain ⟨y0, y1, y2, y3, y4, y5⟩ := hSw
   go_simp
   try with_reducible rfl
 try simp only [Act.put, zA, zB, zC]
 refine zT 5 23 ?_ rfl ?_ ((by assumption)) ?_
 rotate_left
 · intro w hSw
   try dsimp only at hSw
   obtain ⟨y0, y1, y2, y3, y4, y5⟩ := hSw
   go_simp
   try with_reducible rfl
 try simp only [Act.put, zA, zB, zC]
 refine zT 6 24 ?_ rfl ?_ ((by assumption)) ?_
 rotate_left
 · intro w hSw
   try dsimp only at hSw
   obtain ⟨y0, y1, y2, y3, y4, y5⟩ := hSw
   go_simp
   try with_reducible rfl
 try simp only [Act.put, zA, zB, zC]
 refine zT 7 25 ?_ rfl ?_ ((by assumption)) ?_
 rotate_left
 · intro w hSw
   try dsimp only at hSw
   obtain ⟨y0, y1, y2, y3, y4, y5⟩ := hSw
   go_simp
   try with_reducible rfl
 try simp only [Act.put, zA, zB, zC]
 refine zT 8 26 ?_ rfl ?_ ((by assumption)) ?_
 rotate_left
 · intro w hSw
   try dsimp only at hSw
   obtain ⟨y0, y1, y2, y3, y4, y5⟩ := hSw
   go_simp
   try with_reducible rfl
 try simp only [Act.put, zA, zB, zC]
 refine zT 9 27 ?_ rfl ?_ ((by assumption)) ?_
 rotate_left
 · intro w hSw
   try dsimp only at hSw
   obtain ⟨y0, y1, y2, y3, y4, y5⟩ := hSw
   go_simp
   try with_reducible rfl
 try simp only [Act.put, zA, zB, zC]
 refine zT 10 28 ?_ rfl ?_ ((by assumption)) ?_
 rotate_left
 · intro w hSw
   try dsimp only at hSw
   obtain ⟨y0, y1, y2, y3, y4, y5⟩ := hSw
   go_simp
   try with_reducible rfl
 try simp only [Act.put, zA, zB, zC]
 refine zT 11 29 ?_ rfl ?_ ((by assumption)) ?_
 rotate_left
 · intro w hSw
   try dsimp only at hSw
   obtain ⟨y0, y1, y2, y3, y4, y5⟩ := hSw
   go_simp
   try with_reducible rfl
 try simp only [Act.put, zA, zB, zC]
 refine zT 12 30 ?_ rfl ?_ ((by assumption)) ?_
 rotate_left
 · intro w hSw
   try dsimp only at hSw
   obtain ⟨y0, y1, y2, y3, y4, y5⟩ := hSw
   go_simp
   try with_reducible rfl
 try simp only [Act.put, zA, zB, zC]
 refine zT 13 31 ?_ rfl ?_ ((by assumption)) ?_
 rotate_left
 · intro w hSw
   try dsimp only at hSw
   obtain ⟨y0, y1, y2, y3, y4, y5⟩ := hSw
   go_simp
   try with_reducible rfl
 try simp only [Act.put, zA, zB, zC]
 refine zT 14 32 ?_ rfl ?_ ((by assumption)) ?_
 rotate_left
 · intro w hSw
   try dsimp only at hSw
   obtain ⟨y0, y1, y2, y3, y4, y5⟩ := hSw
   go_simp
   try with_reducible rfl
 try simp only [Act.put, zA, zB, zC]
 refine zT 15 33 ?_ rfl ?_ ((by assumption)) ?_
 rotate_left
 · intro w hSw
   try dsimp only at hSw
   obtain ⟨y0, y1, y2, y3, y4, y5⟩ := hSw
   go_simp
   try with_reducible rfl
 try simp only [Act.put, zA, zB, zC]
 refine zT 16 34 ?_ rfl ?_ ((by assumption)) ?_
 rotate_left
 · intro w hSw
   try dsimp only at hSw
   obtain ⟨y0, y1, y2, y3, y4, y5⟩ := hSw
   go_simp
   try with_reducible rfl
 try simp only [Act.put, zA, zB, zC]
 refine zT 17 35 ?_ rfl ?_ ((by assumption)) ?_
 rotate_left
 · intro w hSw
   try dsimp only at hSw
   obtain ⟨y0, y1, y2, y3, y4, y5⟩ := hSw
   go_simp
   try with_reducible rfl
 try simp only [Act.put, zA, zB, zC]
 refine wpAnyH_ready (rs := [18]) (by kernel_rfl) (by simp) ?_
 refine (AllReadyH.cons (o := { dst := none, op := _, type := _, pos := _, after := _, guard := _ }) rfl (fun K hK => ?_) AllReadyH.nil)
 refine wp_store_row 100 _ _ rfl gz #[.string x.name, .int .i64 x.length, .int .i64 x.ball, .int .i64 x.instep, .int .i64 (x.heel + a), .int .i64 x.pitch] rfl rfl 100 #[Value.string ⟨#[]⟩, Value.int .i64 0, Value.int .i64 0, Value.int .i64 0, Value.int .i64 0, Value.int .i64 0] HZ3.out (by kernel_rfl) rfl (by simp [Value.oneCell']) ?_
 refine hK.out _ _ ⟨cell_farR n0 (by simp only; omega), cell_farR n1 (by simp only; omega), cell_farR n2 (by simp only; omega), cell_farR n3 (by simp only; omega), cell_farR n4 (by simp only; omega), cell_farR x0 (by simp only; omega)⟩ (fun hHeld4 => ?_)
 clear hK K
 try simp only [Act.put]
 refine wpAnyH_done (by kernel_rfl) ?_ _
 go_wp2_with fail
 try simp only [Exit.inBlock, Exit.then]
 refine bodyPost_ret (results_cell_row (P := Tryz.prog) rfl _ _ gz 100 #[Value.string x.name, Value.int .i64 x.length, Value.int .i64 x.ball, Value.int .i64 x.instep, Value.int .i64 (x.heel + a), Value.int .i64 x.pitch] (0, 0) _ rfl ?_ Tryz.underlying100 rfl (by kernel_rfl)) rfl ?_
 · exact setRow_heap _ _ _ _ _ _ HZ3.out
 · exact Ret.mk rfl (below_rowL hv.drew hzw _)
set_option maxRecDepth 100000 in
set_option maxHeartbeats 4000000 in
theorem changed5_c (x : Last) (a : Int) (HX : Hid (lastB x = true)) (a0 : -300 ≤ a) (a1 : a ≤ 300) (w : World) : Calls Tryz.prog 136 #[.agg #[.string x.name, .int .i64 x.length, .int .i64 x.ball, .int .i64 x.instep, .int .i64 x.heel, .int .i64 x.pitch], .agg #[.int .i64 5, .int .i64 a]] w (Ret (.agg #[.string x.name, .int .i64 x.length, .int .i64 x.ball, .int .i64 x.instep, .int .i64 x.heel, .int .i64 (x.pitch + a)]) w) := by
 obtain ⟨⟨l0, l1⟩, ⟨b0, b1⟩, ⟨i0, i1⟩, ⟨h0, h1⟩, p0, p1⟩ := last_bd HX.out
 have hwk : IntKind.i64.wrap 4 = 4 := IntWalk.i64_in _ (by omega)
 have hwa : IntKind.i64.wrap (x.pitch + a) = x.pitch + a := IntWalk.i64_in _ (by omega)
 obtain ⟨gx, hgx⟩ : ∃ z, z = w.heap.size := ⟨_, rfl⟩
 obtain ⟨gc, hgc⟩ : ∃ z, z = w.heap.size + 1 := ⟨_, rfl⟩
 obtain ⟨gz, hgz⟩ : ∃ z, z = w.heap.size + 1 + 1 := ⟨_, rfl⟩
 obtain ⟨W, hW⟩ : ∃ z, z = ((w.alloc (Obj.cells #[.string x.name, .int .i64 x.length, .int .i64 x.ball, .int .i64 x.instep, .int .i64 x.heel, .int .i64 x.pitch] 100)).alloc (Obj.cells #[.int .i64 5, .int .i64 a] 126)).alloc (Obj.cells #[.string ⟨#[]⟩, .int .i64 0, .int .i64 0, .int .i64 0, .int .i64 0, .int .i64 0] 100) := ⟨_, rfl⟩
 have hv : Below w.heap.size w W := by rw [hW]; exact bl_alloc (bl_alloc (bl_alloc (Below.refl _ _) _) _) _
 have HX1 : Hid (Blk W gx 100 #[.string x.name, .int .i64 x.length, .int .i64 x.ball, .int .i64 x.instep, .int .i64 x.heel, .int .i64 x.pitch]) := qH (by rw [hW, hgx]; exact ((Blk.new w _ _).alloc _).alloc _)
 have HC : Hid (Blk W gc 126 #[.int .i64 5, .int .i64 a]) := qH (by
   have h := (Blk.new (w.alloc (Obj.cells #[.string x.name, .int .i64 x.length, .int .i64 x.ball, .int .i64 x.instep, .int .i64 x.heel, .int .i64 x.pitch] 100)) 126 #[Value.int .i64 5, Value.int .i64 a]).alloc (Obj.cells #[.string ⟨#[]⟩, .int .i64 0, .int .i64 0, .int .i64 0, .int .i64 0, .int .i64 0] 100)
   rw [World.size_alloc] at h
   rw [hW, hgc]; exact h)
 have HZ : Hid (Blk W gz 100 #[.string ⟨#[]⟩, .int .i64 0, .int .i64 0, .int .i64 0, .int .i64 0, .int .i64 0]) := qH (by
   have h := Blk.new ((w.alloc (Obj.cells #[.string x.name, .int .i64 x.length, .int .i64 x.ball, .int .i64 x.instep, .int .i64 x.heel, .int .i64 x.pitch] 100)).alloc (Obj.cells #[.int .i64 5, .int .i64 a] 126)) 100 #[Value.string ⟨#[]⟩, Value.int .i64 0, Value.int .i64 0, Value.int .i64 0, Value.int .i64 0, Value.int .i64 0]
   rw [World.size_alloc, World.size_alloc] at h
   rw [hW, hgz]; exact h)
 have hzw : w.heap.size ≤ gz := by omega
 have hxz : gx ≠ gz := by omega
 have hWz : W.heap.size = gz + 1 := by rw [hW, World.size_alloc, World.size_alloc, World.size_alloc, hgz]
 have HW := qH hW
 have G1 := qH hgx
 have G2 := qH hgc
 have G3 := qH hgz
 obtain ⟨k0, k1, k2, k3, k4, k5⟩ := qC6 HX1.out
 clear hW hgx hgc hgz
 go_enter Tryz.func136, Tryz.ntmps136
 go_upto_region 1 with fail
 rw [← HW.out]
 first | rw [← G3.out, ← G2.out, ← G1.out] | rw [show w.heap.size + 2 = gz from G3.out.symm, ← G2.out, ← G1.out]
 clear HW G1 G2 G3
 go_wp2_with fail
 refine (numbers_c x _).mono ?_
 rintro e W1 ⟨gn, rfl, hgn, hN, hb⟩
 have HN := qH hN
 clear hN k0 k1 k2 k3 k4 k5
 replace HX1 := qH (HX1.out.below hb)
 replace HC := qH (HC.out.below hb)
 replace HZ := qH (HZ.out.below hb)
 replace hv := bl_trans hv hb
 have hne : gz ≠ gn := by omega
 have hnw : w.heap.size ≤ gn := by omega
 have hxn : gx ≠ gn := by have := HX1.out.lt; intro e; subst e; have h1 := HN.out; have h2 := HX1.out; unfold Blk at h1 h2; rw [h1] at h2; simp at h2
 clear hb hWz
 go_upto_region 2 with fail
 have HXD := qH (HX1.out.below (Below.refl W1.heap.size W1).drew)
 have HCD := qH (HC.out.below (Below.refl W1.heap.size W1).drew)
 have HZD := qH (HZ.out.below (Below.refl W1.heap.size W1).drew)
 have HND := qH (HN.out.below (Below.refl W1.heap.size W1).drew)
 clear HX1 HC HZ HN
 refine wp_region_held_drew (S := fun w' => Blk w' gc 126 #[Value.int .i64 5, Value.int .i64 a]) (by kernel_rfl) ?_ (fun hHeld => ?_)
 · exact HCD.out
 refine zT 0 8 ?_ rfl ?_ ((by assumption)) ?_
 rotate_left
 · intro w hSw
   try dsimp only at hSw
   have y0 : w.cell? ⟨gc, 0, none⟩ = some (.int .i64 5) := hSw.cell 0
   have y1 : w.cell? ⟨gc, 1, none⟩ = some (.int .i64 a) := hSw.cell 1
   go_simp
   try with_reducible rfl
 try simp only [Act.put, zA, zB, zC]
 refine zT 1 9 ?_ rfl ?_ ((by assumption)) ?_
 rotate_left
 · intro w hSw
   try dsimp only at hSw
   have y0 : w.cell? ⟨gc, 0, none⟩ = some (.int .i64 5) := hSw.cell 0
   have y1 : w.cell? ⟨gc, 1, none⟩ = some (.int .i64 a) := hSw.cell 1
   go_simp
   try with_reducible rfl
 try simp only [Act.put, zA, zB, zC]
 refine zT 2 10 ?_ rfl ?_ ((by assumption)) ?_
 rotate_left
 · intro w hSw
   try dsimp only at hSw
   have y0 : w.cell? ⟨gc, 0, none⟩ = some (.int .i64 5) := hSw.cell 0
   have y1 : w.cell? ⟨gc, 1, none⟩ = some (.int .i64 a) := hSw.cell 1
   go_simp
   try with_reducible rfl
 try simp only [Act.put, zA, zB, zC]
 refine zT 3 11 ?_ rfl ?_ ((by assumption)) ?_
 rotate_left
 · intro w hSw
   try dsimp only at hSw
   have y0 : w.cell? ⟨gc, 0, none⟩ = some (.int .i64 5) := hSw.cell 0
   have y1 : w.cell? ⟨gc, 1, none⟩ = some (.int .i64 a) := hSw.cell 1
   go_simp
   try with_reducible rfl
 try simp only [Act.put, zA, zB, zC]
 refine zT 4 12 ?_ rfl ?_ ((by assumption)) ?_
 rotate_left
 · intro w hSw
   try dsimp only at hSw
   have y0 : w.cell? ⟨gc, 0, none⟩ = some (.int .i64 5) := hSw.cell 0
   have y1 : w.cell? ⟨gc, 1, none⟩ = some (.int .i64 a) := hSw.cell 1
   go_simp
   try with_reducible rfl
 try simp only [Act.put, zA, zB, zC]
 refine zT 6 14 ?_ rfl ?_ ((by assumption)) ?_
 rotate_left
 · intro w hSw
   try dsimp only at hSw
   have y0 : w.cell? ⟨gc, 0, none⟩ = some (.int .i64 5) := hSw.cell 0
   have y1 : w.cell? ⟨gc, 1, none⟩ = some (.int .i64 a) := hSw.cell 1
   go_simp
   try with_reducible rfl
 try simp only [Act.put, zA, zB, zC]
 refine zT 7 15 ?_ rfl ?_ ((by assumption)) ?_
 rotate_left
 · intro w hSw
   try dsimp only at hSw
   have y0 : w.cell? ⟨gc, 0, none⟩ = some (.int .i64 5) := hSw.cell 0
   have y1 : w.cell? ⟨gc, 1, none⟩ = some (.int .i64 a) := hSw.cell 1
   go_simp
   try with_reducible rfl
 try simp only [Act.put, zA, zB, zC]
 refine wpAnyH_ready (rs := [5]) (by kernel_rfl) (by simp) ?_
 refine (AllReadyH.cons (o := { dst := some 13, op := _, type := _, pos := _, after := _, guard := _ }) rfl (fun K hK => ?_) AllReadyH.nil)
 have n0 : World.cell? (W1.drew) ⟨gn, 4, none⟩ = some (.int .i64 x.pitch) := HND.out.cell 4
 go_simp
 refine hK.out _ _ (by assumption) (fun hHeld2 => ?_)
 clear hK K n0
 try simp only [Act.put, zA, zB, zC]
 refine zT 8 16 ?_ rfl ?_ ((by assumption)) ?_
 rotate_left
 · intro w hSw
   try dsimp only at hSw
   have y0 : w.cell? ⟨gc, 0, none⟩ = some (.int .i64 5) := hSw.cell 0
   have y1 : w.cell? ⟨gc, 1, none⟩ = some (.int .i64 a) := hSw.cell 1
   go_simp
   try with_reducible rfl
 try simp only [Act.put, zA, zB, zC]
 refine zT 9 17 ?_ rfl ?_ ((by assumption)) ?_
 rotate_left
 · intro w hSw
   try dsimp only at hSw
   have y0 : w.cell? ⟨gc, 0, none⟩ = some (.int .i64 5) := hSw.cell 0
   have y1 : w.cell? ⟨gc, 1, none⟩ = some (.int .i64 a) := hSw.cell 1
   go_simp
   try with_reducible rfl
 try simp only [Act.put, zA, zB, zC]
 refine wpAnyH_ready (rs := [10]) (by kernel_rfl) (by simp) ?_
 refine (AllReadyH.cons (o := { dst := none, op := _, type := _, pos := _, after := _, guard := _ }) rfl (fun K hK => ?_) AllReadyH.nil)
 have n0 : World.cell? (W1.drew) ⟨gn, 4, none⟩ = some (.int .i64 x.pitch) := HND.out.cell 4
 have f0 : World.frozen? (W1.drew) ⟨gn, 4, none⟩ = false := HND.out.frozen 4
 go_simp
 clear n0 f0
 have eW : World.setCell W1.drew ⟨gn, 4, none⟩ (Value.int .i64 (x.pitch + a)) = (World.setCell W1 ⟨gn, 4, none⟩ (Value.int .i64 (x.pitch + a))).drew := rfl
 obtain ⟨W2, hW2⟩ : ∃ z, z = (World.setCell W1 ⟨gn, 4, none⟩ (Value.int .i64 (x.pitch + a))).drew := ⟨_, rfl⟩
 have HN2 := qH (HND.out.set_ 4 (Value.int .i64 (x.pitch + a)))
 have HX2 := qH (HXD.out.far (p := ⟨gn, 4, none⟩) (by simp only; omega) (Value.int .i64 (x.pitch + a)))
 have HZ2 := qH (HZD.out.far (p := ⟨gn, 4, none⟩) (by simp only; omega) (Value.int .i64 (x.pitch + a)))
 have hcn : gc ≠ gn := by intro e; subst e; have h1 := HND.out; have h2 := HCD.out; unfold Blk at h1 h2; rw [h1] at h2; simp at h2
 have HC2 := qH (HCD.out.far (p := ⟨gn, 4, none⟩) (by simp only; omega) (Value.int .i64 (x.pitch + a)))
 have hv2 := bl_grown hv.drew (grown_setCellI (p := ⟨gn, 4, none⟩) (Value.int .i64 (x.pitch + a))) (fun k e => by injection e with e; have e2 : gn = k := e; omega)
 rw [eW, ← hW2] at HN2 HX2 HZ2 HC2 hv2
 rw [← hW2]
 clear hW2 eW HND HXD HZD hcn
 replace HN2 : Hid (Blk W2 gn 2 #[.int .i64 x.length, .int .i64 x.ball, .int .i64 x.instep, .int .i64 x.heel, .int .i64 (x.pitch + a)]) := HN2
 refine hK.out _ _ HC2.out (fun hHeld3 => ?_)
 clear hK K
 try simp only [Act.put]
 refine wpAnyH_done (by kernel_rfl) ?_ _
 clear hv
 have hv := hv2
 clear hv2
 go_upto_region 3 with fail
 obtain ⟨n0, n1, n2, n3, n4⟩ := qC5 HN2.out
 have x0 : W2.cell? ⟨gx, 0, none⟩ = some (.string x.name) := HX2.out.cell 0
 have HZ3 := qH (HZ2.out.below (Below.refl W2.heap.size W2).drew)
 refine wp_region_held_drew (S := fun w' => World.cell? w' ⟨gn, 0, none⟩ = some (.int .i64 x.length) ∧ World.cell? w' ⟨gn, 1, none⟩ = some (.int .i64 x.ball) ∧ World.cell? w' ⟨gn, 2, none⟩ = some (.int .i64 x.instep) ∧ World.cell? w' ⟨gn, 3, none⟩ = some (.int .i64 x.heel) ∧ World.cell? w' ⟨gn, 4, none⟩ = some (.int .i64 (x.pitch + a)) ∧ World.cell? w' ⟨gx, 0, none⟩ = some (.string x.name)) (by kernel_rfl) ?_ (fun hHeld => ?_)
 · exact ⟨n0, n1, n2, n3, n4, x0⟩
 refine zT 0 18 ?_ rfl ?_ ((by assumption)) ?_
 rotate_left
 · intro w hSw
   try dsimp only at hSw
   obtain ⟨y0, y1, y2, y3, y4, y5⟩ := hSw
   go_simp
   try with_reducible rfl
 try simp only [Act.put, zA, zB, zC]
 refine zT 1 19 ?_ rfl ?_ ((by assumption)) ?_
 rotate_left
 · intro w hSw
   try dsimp only at hSw
   obtain ⟨y0, y1, y2, y3, y4, y5⟩ := hSw
   go_simp
   try with_reducible rfl
 try simp only [Act.put, zA, zB, zC]
 refine zT 2 20 ?_ rfl ?_ ((by assumption)) ?_
 rotate_left
 · intro w hSw
   try dsimp only at hSw
   obtain ⟨y0, y1, y2, y3, y4, y5⟩ := hSw
   go_simp
   try with_reducible rfl
 try simp only [Act.put, zA, zB, zC]
 refine zT 3 21 ?_ rfl ?_ ((by assumption)) ?_
 rotate_left
 · intro w hSw
   try dsimp only at hSw
   obtain ⟨y0, y1, y2, y3, y4, y5⟩ := hSw
   go_simp
   try with_reducible rfl
 try simp only [Act.put, zA, zB, zC]
 refine zT 4 22 ?_ rfl ?_ ((by assumption)) ?_
 rotate_left
 · intro w hSw
   try dsimp only at hSw
   obtain ⟨y0, y1, y2, y3, y4, y5⟩ := hSw
   go_simp
   try with_reducible rfl
 try simp only [Act.put, zA, zB, zC]
 refine zT 5 23 ?_ rfl ?_ ((by assumption)) ?_
 rotate_left
 · intro w hSw
   try dsimp only at hSw
   obtain ⟨y0, y1, y2, y3, y4, y5⟩ := hSw
   go_simp
   try with_reducible rfl
 try simp only [Act.put, zA, zB, zC]
 refine zT 6 24 ?_ rfl ?_ ((by assumption)) ?_
 rotate_left
 · intro w hSw
   try dsimp only at hSw
   obtain ⟨y0, y1, y2, y3, y4, y5⟩ := hSw
   go_simp
   try with_reducible rfl
 try simp only [Act.put, zA, zB, zC]
 refine zT 7 25 ?_ rfl ?_ ((by assumption)) ?_
 rotate_left
 · intro w hSw
   try dsimp only at hSw
   obtain ⟨y0, y1, y2, y3, y4, y5⟩ := hSw
   go_simp
   try with_reducible rfl
 try simp only [Act.put, zA, zB, zC]
 refine zT 8 26 ?_ rfl ?_ ((by assumption)) ?_
 rotate_left
 · intro w hSw
   try dsimp only at hSw
   obtain ⟨y0, y1, y2, y3, y4, y5⟩ := hSw
   go_simp
   try with_reducible rfl
 try simp only [Act.put, zA, zB, zC]
 refine zT 9 27 ?_ rfl ?_ ((by assumption)) ?_
 rotate_left
 · intro w hSw
   try dsimp only at hSw
   obtain ⟨y0, y1, y2, y3, y4, y5⟩ := hSw
   go_simp
   try with_reducible rfl
 try simp only [Act.put, zA, zB, zC]
 refine zT 10 28 ?_ rfl ?_ ((by assumption)) ?_
 rotate_left
 · intro w hSw
   try dsimp only at hSw
   obtain ⟨y0, y1, y2, y3, y4, y5⟩ := hSw
   go_simp
   try with_reducible rfl
 try simp only [Act.put, zA, zB, zC]
 refine zT 11 29 ?_ rfl ?_ ((by assumption)) ?_
 rotate_left
 · intro w hSw
   try dsimp only at hSw
   obtain ⟨y0, y1, y2, y3, y4, y5⟩ := hSw
   go_simp
   try with_reducible rfl
 try simp only [Act.put, zA, zB, zC]
 refine zT 12 30 ?_ rfl ?_ ((by assumption)) ?_
 rotate_left
 · intro w hSw
   try dsimp only at hSw
   obtain ⟨y0, y1, y2, y3, y4, y5⟩ := hSw
   go_simp
   try with_reducible rfl
 try simp only [Act.put, zA, zB, zC]
 refine zT 13 31 ?_ rfl ?_ ((by assumption)) ?_
 rotate_left
 · intro w hSw
   try dsimp only at hSw
   obtain ⟨y0, y1, y2, y3, y4, y5⟩ := hSw
   go_simp
   try with_reducible rfl
 try simp only [Act.put, zA, zB, zC]
 refine zT 14 32 ?_ rfl ?_ ((by assumption)) ?_
 rotate_left
 · intro w hSw
   try dsimp only at hSw
   obtain ⟨y0, y1, y2, y3, y4, y5⟩ := hSw
   go_simp
   try with_reducible rfl
 try simp only [Act.put, zA, zB, zC]
 refine zT 15 33 ?_ rfl ?_ ((by assumption)) ?_
 rotate_left
 · intro w hSw
   try dsimp only at hSw
   obtain ⟨y0, y1, y2, y3, y4, y5⟩ := hSw
   go_simp
   try with_reducible rfl
 try simp only [Act.put, zA, zB, zC]
 refine zT 16 34 ?_ rfl ?_ ((by assumption)) ?_
 rotate_left
 · intro w hSw
   try dsimp only at hSw
   obtain ⟨y0, y1, y2, y3, y4, y5⟩ := hSw
   go_simp
   try with_reducible rfl
 try simp only [Act.put, zA, zB, zC]
 refine zT 17 35 ?_ rfl ?_ ((by assumption)) ?_
 rotate_left
 · intro w hSw
   try dsimp only at hSw
   obtain ⟨y0, y1, y2, y3, y4, y5⟩ := hSw
   go_simp
   try with_reducible rfl
 try simp only [Act.put, zA, zB, zC]
 refine wpAnyH_ready (rs := [18]) (by kernel_rfl) (by simp) ?_
 refine (AllReadyH.cons (o := { dst := none, op := _, type := _, pos := _, after := _, guard := _ }) rfl (fun K hK => ?_) AllReadyH.nil)
 refine wp_store_row 100 _ _ rfl gz #[.string x.name, .int .i64 x.length, .int .i64 x.ball, .int .i64 x.instep, .int .i64 x.heel, .int .i64 (x.pitch + a)] rfl rfl 100 #[Value.string ⟨#[]⟩, Value.int .i64 0, Value.int .i64 0, Value.int .i64 0, Value.int .i64 0, Value.int .i64 0] HZ3.out (by kernel_rfl) rfl (by simp [Value.oneCell']) ?_
 refine hK.out _ _ ⟨cell_farR n0 (by simp only; omega), cell_farR n1 (by simp only; omega), cell_farR n2 (by simp only; omega), cell_farR n3 (by simp only; omega), cell_farR n4 (by simp only; omega), cell_farR x0 (by simp only; omega)⟩ (fun hHeld4 => ?_)
 clear hK K
 try simp only [Act.put]
 refine wpAnyH_done (by kernel_rfl) ?_ _
 go_wp2_with fail
 try simp only [Exit.inBlock, Exit.then]
 refine bodyPost_ret (results_cell_row (P := Tryz.prog) rfl _ _ gz 100 #[Value.string x.name, Value.int .i64 x.length, Value.int .i64 x.ball, Value.int .i64 x.instep, Value.int .i64 x.heel, Value.int .i64 (x.pitch + a)] (0, 0) _ rfl ?_ Tryz.underlying100 rfl (by kernel_rfl)) rfl ?_
 · exact setRow_heap _ _ _ _ _ _ HZ3.out
 · exact Ret.mk rfl (below_rowL hv.drew hzw _)
end Go.Proofs.YtpiehlfffjhoaaaGreatDoor
