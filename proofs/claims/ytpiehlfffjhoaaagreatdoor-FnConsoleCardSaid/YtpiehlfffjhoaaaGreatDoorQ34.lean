/- Lemmas for the law on the console: the parts CnN, LogG, CoD. -/
import Derived.Test.YtpiehlfffjhoaaaGreatDoorQ0
import Derived.Test.YtpiehlfffjhoaaaGreatDoorQ21
import Derived.Test.YtpiehlfffjhoaaaGreatDoorQ24
import Derived.Test.YtpiehlfffjhoaaaGreatDoorQ31
import Derived.Test.YtpiehlfffjhoaaaGreatDoorQ32
import Derived.Test.YtpiehlfffjhoaaaGreatDoorQ33
import Derived.Deep.MidRow
namespace Go.Proofs.YtpiehlfffjhoaaaGreatDoor
open Go.RowKit
def outAp (p : Last × Int) : Array Value := #[.agg #[.string p.1.name, .int .i64 p.1.length, .int .i64 p.1.ball, .int .i64 p.1.instep, .int .i64 p.1.heel, .int .i64 p.1.pitch], .int .i64 p.2]
theorem aplP_inv {x : Last} {k a : Int} (h : (lastB x && chgB k a) = false) : aplP x k a = (zLast, 1) := by unfold aplP; rw [if_neg (by rw [h]; simp)]
theorem aplP_tight {x : Last} {k a : Int} (h : (lastB x && chgB k a) = true) (h2 : lastB (chgd x k a) = false) : aplP x k a = (zLast, 10) := by unfold aplP; rw [if_pos h, if_neg (by simp [h2])]
theorem aplP_ok {x : Last} {k a : Int} (h : (lastB x && chgB k a) = true) (h2 : lastB (chgd x k a) = true) : aplP x k a = (chgd x k a, 0) := by unfold aplP; rw [if_pos h, if_pos h2]
theorem changed_c (x : Last) (k a : Int) (HX : Hid (lastB x = true)) (HC : Hid (chgB k a = true)) (w : World) : Calls Tryz.prog 136 #[.agg #[.string x.name, .int .i64 x.length, .int .i64 x.ball, .int .i64 x.instep, .int .i64 x.heel, .int .i64 x.pitch], .agg #[.int .i64 k, .int .i64 a]] w (Ret (.agg #[.string (chgd x k a).name, .int .i64 (chgd x k a).length, .int .i64 (chgd x k a).ball, .int .i64 (chgd x k a).instep, .int .i64 (chgd x k a).heel, .int .i64 (chgd x k a).pitch]) w) := by
 obtain ⟨h1, h5, h0, ha, hb⟩ := chgB_bd HC.out
 rcases (show k = 1 ∨ k = 2 ∨ k = 3 ∨ k = 4 ∨ k = 5 by omega) with rfl | rfl | rfl | rfl | rfl
 · exact changed1_c x a HX ha hb w
 · exact changed2_c x a HX ha hb w
 · exact changed3_c x a HX ha hb w
 · exact changed4_c x a HX ha hb w
 · exact changed5_c x a HX ha hb w
set_option maxRecDepth 100000 in
set_option maxHeartbeats 8000000 in
theorem ApplyChanges1_c (x : Last) (k a : Int) (gc : Nat) (hs : x.name.size ≤ 9223372036854775807) (w : World) (hB : Blk w gc 126 #[.int .i64 k, .int .i64 a]) : Calls Tryz.prog 80 #[.agg #[.string x.name, .int .i64 x.length, .int .i64 x.ball, .int .i64 x.instep, .int .i64 x.heel, .int .i64 x.pitch], .slice (some ⟨gc, 0, none⟩) 1 1] w (RetT (outAp (aplP x k a)) w) := by
 have HI := @aplP_inv x k a
 have HG1 := @aplP_tight x k a
 have HO1 := @aplP_ok x k a
 have HC1 := fun h1 h2 w => changed_c x k a (qH h1) (qH h2) w
 have hyn : (chgd x k a).name.size ≤ 9223372036854775807 := by rw [chgd_name]; exact hs
 obtain ⟨y, hy⟩ : ∃ z, z = chgd x k a := ⟨_, rfl⟩
 rw [← hy] at HG1 HO1 HC1 hyn
 have HV1 := fun w => validLast_c x hs w
 have HV2 := fun w => validLast_c y hyn w
 have HV3 := fun w h => ValidChanges1_c k a gc w h
 obtain ⟨b1, hb1⟩ : ∃ z, z = lastB x := ⟨_, rfl⟩
 obtain ⟨b2, hb2⟩ : ∃ z, z = chgB k a := ⟨_, rfl⟩
 obtain ⟨b3, hb3⟩ : ∃ z, z = lastB y := ⟨_, rfl⟩
 rw [← hb1, ← hb2] at HI HG1 HO1 HC1
 rw [← hb1] at HV1
 rw [← hb2] at HV3
 rw [← hb3] at HV2 HG1 HO1
 replace HI := qH HI
 replace HG1 := qH HG1
 replace HO1 := qH HO1
 replace HC1 := qH HC1
 replace HV1 := qH HV1
 replace HV2 := qH HV2
 replace HV3 := qH HV3
 obtain ⟨R, hR⟩ : ∃ z, z = aplP x k a := ⟨_, rfl⟩
 rw [← hR] at HI HG1 HO1 ⊢
 clear hy hb1 hb2 hb3 hR hs hyn
 obtain ⟨gx, hgx⟩ : ∃ z, z = w.heap.size := ⟨_, rfl⟩
 obtain ⟨gz, hgz⟩ : ∃ z, z = w.heap.size + 1 := ⟨_, rfl⟩
 obtain ⟨W, hW⟩ : ∃ z, z = (w.alloc (Obj.cells #[.string x.name, .int .i64 x.length, .int .i64 x.ball, .int .i64 x.instep, .int .i64 x.heel, .int .i64 x.pitch] 100)).alloc (Obj.cells #[.string ⟨#[]⟩, .int .i64 0, .int .i64 0, .int .i64 0, .int .i64 0, .int .i64 0] 100) := ⟨_, rfl⟩
 have hv : Below w.heap.size w W := by rw [hW]; exact bl_alloc (bl_alloc (Below.refl _ _) _) _
 have HX : Hid (Blk W gx 100 #[.string x.name, .int .i64 x.length, .int .i64 x.ball, .int .i64 x.instep, .int .i64 x.heel, .int .i64 x.pitch]) := qH (by rw [hW, hgx]; exact (Blk.new w _ _).alloc _)
 have HZ : Hid (Blk W gz 100 #[.string ⟨#[]⟩, .int .i64 0, .int .i64 0, .int .i64 0, .int .i64 0, .int .i64 0]) := qH (by
   have h := Blk.new (w.alloc (Obj.cells #[.string x.name, .int .i64 x.length, .int .i64 x.ball, .int .i64 x.instep, .int .i64 x.heel, .int .i64 x.pitch] 100)) 100 #[Value.string ⟨#[]⟩, Value.int .i64 0, Value.int .i64 0, Value.int .i64 0, Value.int .i64 0, Value.int .i64 0]
   rw [World.size_alloc] at h
   rw [hW, hgz]; exact h)
 have HB : Hid (Blk W gc 126 #[.int .i64 k, .int .i64 a]) := qH (by rw [hW]; exact (hB.alloc _).alloc _)
 have hcx : gc < gx := by rw [hgx]; exact hB.lt
 have hzw : w.heap.size ≤ gz := by omega
 have hxz : gx ≠ gz := by omega
 have hxw : w.heap.size ≤ gx := by omega
 have HW := qH hW
 have G1 := qH hgx
 have G2 := qH hgz
 clear hW hgx hgz hB
 go_enter Tryz.func80, Tryz.ntmps80
 go_upto_region 1 with fail
 rw [← HW.out, ← G2.out, ← G1.out]
 clear HW G1 G2
 go_wp2_with (refine wpList_load_row rfl 100 _ rfl gx rfl 100 _ (0, 0) _ HX.out Tryz.underlying100 rfl (by kernel_rfl) ?_)
 refine (HV1.out _).mono ?_
 rintro e W1 ⟨rfl, hb⟩
 replace HX := qH (HX.out.below hb)
 replace HZ := qH (HZ.out.below hb)
 replace HB := qH (HB.out.below hb)
 replace hv := bl_trans hv hb
 clear hb
 cases b1
 case false =>
   have HR := qH (HI.out rfl)
   go_upto_if 15 with fail
   go_wp2_with (refine wpList_store_row rfl 100 _ _ rfl gz #[.string ⟨#[]⟩, .int .i64 0, .int .i64 0, .int .i64 0, .int .i64 0, .int .i64 0] rfl rfl 100 _ HZ.out (by kernel_rfl) rfl (by simp [Value.oneCell']) ?_)
   have hF : Blk (World.setRow W1 gz #[Value.string ⟨#[]⟩, Value.int .i64 0, Value.int .i64 0, Value.int .i64 0, Value.int .i64 0, Value.int .i64 0]) gz 100 #[.string ⟨#[]⟩, .int .i64 0, .int .i64 0, .int .i64 0, .int .i64 0, .int .i64 0] := setRow_heap _ _ _ _ _ _ HZ.out
   have hbF := below_rowL hv hzw #[Value.string ⟨#[]⟩, Value.int .i64 0, Value.int .i64 0, Value.int .i64 0, Value.int .i64 0, Value.int .i64 0]
   obtain ⟨WF, hWF⟩ : ∃ z, z = World.setRow W1 gz #[Value.string ⟨#[]⟩, Value.int .i64 0, Value.int .i64 0, Value.int .i64 0, Value.int .i64 0, Value.int .i64 0] := ⟨_, rfl⟩
   rw [← hWF] at hF hbF ⊢
   clear hWF
   obtain ⟨m0, m1, m2, m3, m4, m5⟩ := qC6 hF
   go_wp2_with fail
   try simp only [Exit.inBlock, Exit.then]
   refine bodyPost_ret (v := .tuple #[.agg #[.string ⟨#[]⟩, .int .i64 0, .int .i64 0, .int .i64 0, .int .i64 0, .int .i64 0], .int .i64 1]) (by simp [results, Tryz.results80, go_sem, m0, m1, m2, m3, m4, m5]) rfl ?_
   exact RetT.mk (by rw [HR.out]; rfl) hbF
 go_wp2_with fail
 refine (HV3.out _ HB.out).mono ?_
 rintro e W2 ⟨rfl, hb⟩
 replace HX := qH (HX.out.below hb)
 replace HZ := qH (HZ.out.below hb)
 replace HB := qH (HB.out.below hb)
 replace hv := bl_trans hv hb
 clear hb
 cases b2
 case false =>
   have HR := qH (HI.out rfl)
   go_upto_if 15 with fail
   go_wp2_with (refine wpList_store_row rfl 100 _ _ rfl gz #[.string ⟨#[]⟩, .int .i64 0, .int .i64 0, .int .i64 0, .int .i64 0, .int .i64 0] rfl rfl 100 _ HZ.out (by kernel_rfl) rfl (by simp [Value.oneCell']) ?_)
   have hF : Blk (World.setRow W2 gz #[Value.string ⟨#[]⟩, Value.int .i64 0, Value.int .i64 0, Value.int .i64 0, Value.int .i64 0, Value.int .i64 0]) gz 100 #[.string ⟨#[]⟩, .int .i64 0, .int .i64 0, .int .i64 0, .int .i64 0, .int .i64 0] := setRow_heap _ _ _ _ _ _ HZ.out
   have hbF := below_rowL hv hzw #[Value.string ⟨#[]⟩, Value.int .i64 0, Value.int .i64 0, Value.int .i64 0, Value.int .i64 0, Value.int .i64 0]
   obtain ⟨WF, hWF⟩ : ∃ z, z = World.setRow W2 gz #[Value.string ⟨#[]⟩, Value.int .i64 0, Value.int .i64 0, Value.int .i64 0, Value.int .i64 0, Value.int .i64 0] := ⟨_, rfl⟩
   rw [← hWF] at hF hbF ⊢
   clear hWF
   obtain ⟨m0, m1, m2, m3, m4, m5⟩ := qC6 hF
   go_wp2_with fail
   try simp only [Exit.inBlock, Exit.then]
   refine bodyPost_ret (v := .tuple #[.agg #[.string ⟨#[]⟩, .int .i64 0, .int .i64 0, .int .i64 0, .int .i64 0, .int .i64 0], .int .i64 1]) (by simp [results, Tryz.results80, go_sem, m0, m1, m2, m3, m4, m5]) rfl ?_
   exact RetT.mk (by rw [HR.out]; rfl) hbF
 have hk0 : W2.cell? ⟨gc, 0, none⟩ = some (.int .i64 k) := HB.out.cell 0
 have hk1 : W2.cell? ⟨gc, 1, none⟩ = some (.int .i64 a) := HB.out.cell 1
 clear hk0 hk1
 go_wp2_with fail
 go_loopw [19] (fun i wr => ∃ j : Nat, j ≤ 1 ∧ i = .int .i64 j ∧ Hid (Blk wr gx 100 (if j = 0 then #[Value.string x.name, Value.int .i64 x.length, Value.int .i64 x.ball, Value.int .i64 x.instep, Value.int .i64 x.heel, Value.int .i64 x.pitch] else #[Value.string y.name, Value.int .i64 y.length, Value.int .i64 y.ball, Value.int .i64 y.instep, Value.int .i64 y.heel, Value.int .i64 y.pitch])) ∧ Hid (j = 1 → b3 = true) ∧ Hid (Blk wr gz 100 #[.string ⟨#[]⟩, .int .i64 0, .int .i64 0, .int .i64 0, .int .i64 0, .int .i64 0]) ∧ Hid (Blk wr gc 126 #[.int .i64 k, .int .i64 a]) ∧ Below w.heap.size w wr) (fun i _ => 1 - (intOf i).toNat)
 case atStart => exact ⟨0, by omega, rfl, HX, qH (by omega), HZ, HB, hv⟩
 case round =>
 clear HX HZ HB hv
 obtain ⟨j, hj, rfl, HX, HJ, HZ, HB, hv⟩ := hrel
 by_cases h0 : j = 0
 case pos =>
   subst h0
   replace HX : Hid (Blk wr gx 100 #[.string x.name, .int .i64 x.length, .int .i64 x.ball, .int .i64 x.instep, .int .i64 x.heel, .int .i64 x.pitch]) := HX
   have k0 : wr.cell? ⟨gc, 0, none⟩ = some (.int .i64 k) := HB.out.cell 0
   have k1 : wr.cell? ⟨gc, 1, none⟩ = some (.int .i64 a) := HB.out.cell 1
   go_upto_region 6 with fail
   obtain ⟨W3, hWn⟩ : ∃ q9, q9 = World.alloc wr (Obj.cells #[.int .i64 k, .int .i64 a] 126) := ⟨_, rfl⟩
   obtain ⟨gd, hgn⟩ : ∃ q9, q9 = wr.heap.size := ⟨_, rfl⟩
   have hb : Below wr.heap.size wr W3 := by rw [hWn]; exact bl_alloc (Below.refl _ _) _
   have HD : Hid (Blk W3 gd 126 #[.int .i64 k, .int .i64 a]) := qH (by rw [hWn, hgn]; exact Blk.new _ _ _)
   rw [← hWn, ← hgn]
   clear hWn hgn k0 k1
   replace HX := qH (HX.out.below hb)
   replace HZ := qH (HZ.out.below hb)
   replace HB := qH (HB.out.below hb)
   replace hv := bl_trans hv hb
   clear hb
   go_wp2_with (first | (refine wpList_load_row rfl 100 _ rfl gx rfl 100 _ (0, 0) _ HX.out Tryz.underlying100 rfl (by kernel_rfl) ?_) | (refine wpList_load_row rfl 126 _ rfl gd rfl 126 _ (0, 0) _ HD.out Tryz.underlying126 rfl (by kernel_rfl) ?_))
   refine (HC1.out (by trivial) (by trivial) _).mono ?_
   rintro e W4 ⟨rfl, hb⟩
   replace HX := qH (HX.out.below hb)
   replace HZ := qH (HZ.out.below hb)
   replace HB := qH (HB.out.below hb)
   replace hv := bl_trans hv hb
   clear hb
   go_upto_region 7 with (refine wpList_store_row rfl 100 _ _ rfl gx #[.string y.name, .int .i64 y.length, .int .i64 y.ball, .int .i64 y.instep, .int .i64 y.heel, .int .i64 y.pitch] rfl rfl 100 _ HX.out (by kernel_rfl) rfl (by simp [Value.oneCell']) ?_)
   have hXF : Blk (World.setRow W4 gx #[Value.string y.name, Value.int .i64 y.length, Value.int .i64 y.ball, Value.int .i64 y.instep, Value.int .i64 y.heel, Value.int .i64 y.pitch]) gx 100 #[.string y.name, .int .i64 y.length, .int .i64 y.ball, .int .i64 y.instep, .int .i64 y.heel, .int .i64 y.pitch] := setRow_heap _ _ _ _ _ _ HX.out
   have hr9 : World.grownBy W4 (World.setRow W4 gx #[Value.string y.name, Value.int .i64 y.length, Value.int .i64 y.ball, Value.int .i64 y.instep, Value.int .i64 y.heel, Value.int .i64 y.pitch]) (some gx) := ⟨rfl, rfl, rfl, by simp, fun i _ hne => setRow_other _ gx i #[Value.string y.name, Value.int .i64 y.length, Value.int .i64 y.ball, Value.int .i64 y.instep, Value.int .i64 y.heel, Value.int .i64 y.pitch] (fun e => hne (by rw [e]))⟩
   have hZF := HZ.out.grown hr9 (by intro e; injection e; omega)
   have hBF := HB.out.grown hr9 (by intro e; injection e; omega)
   have hvF := below_rowL hv hxw #[Value.string y.name, Value.int .i64 y.length, Value.int .i64 y.ball, Value.int .i64 y.instep, Value.int .i64 y.heel, Value.int .i64 y.pitch]
   obtain ⟨W5, hW5⟩ : ∃ z, z = World.setRow W4 gx #[Value.string y.name, Value.int .i64 y.length, Value.int .i64 y.ball, Value.int .i64 y.instep, Value.int .i64 y.heel, Value.int .i64 y.pitch] := ⟨_, rfl⟩
   rw [← hW5] at hXF hZF hBF hvF ⊢
   clear hW5 hr9 HX HZ HB hv
   have HX := qH hXF
   have HZ := qH hZF
   have HB := qH hBF
   have hv := hvF
   clear hXF hZF hBF hvF
   go_wp2_with (refine wpList_load_row rfl 100 _ rfl gx rfl 100 _ (0, 0) _ HX.out Tryz.underlying100 rfl (by kernel_rfl) ?_)
   refine (HV2.out _).mono ?_
   rintro e W6 ⟨rfl, hb⟩
   replace HX := qH (HX.out.below hb)
   replace HZ := qH (HZ.out.below hb)
   replace HB := qH (HB.out.below hb)
   replace hv := bl_trans hv hb
   clear hb
   cases b3
   · have HR := qH (HG1.out (by trivial) (by trivial))
     go_wp2_with (refine wpList_store_row rfl 100 _ _ rfl gz #[.string ⟨#[]⟩, .int .i64 0, .int .i64 0, .int .i64 0, .int .i64 0, .int .i64 0] rfl rfl 100 _ HZ.out (by kernel_rfl) rfl (by simp [Value.oneCell']) ?_)
     have hF : Blk (World.setRow W6 gz #[Value.string ⟨#[]⟩, Value.int .i64 0, Value.int .i64 0, Value.int .i64 0, Value.int .i64 0, Value.int .i64 0]) gz 100 #[.string ⟨#[]⟩, .int .i64 0, .int .i64 0, .int .i64 0, .int .i64 0, .int .i64 0] := setRow_heap _ _ _ _ _ _ HZ.out
     have hbF := below_rowL hv hzw #[Value.string ⟨#[]⟩, Value.int .i64 0, Value.int .i64 0, Value.int .i64 0, Value.int .i64 0, Value.int .i64 0]
     obtain ⟨WF, hWF⟩ : ∃ z, z = World.setRow W6 gz #[Value.string ⟨#[]⟩, Value.int .i64 0, Value.int .i64 0, Value.int .i64 0, Value.int .i64 0, Value.int .i64 0] := ⟨_, rfl⟩
     rw [← hWF] at hF hbF ⊢
     clear hWF
     obtain ⟨m0, m1, m2, m3, m4, m5⟩ := qC6 hF
     go_wp2_with fail
     try simp only [Exit.inBlock, Exit.then]
     refine bodyPost_ret (v := .tuple #[.agg #[.string ⟨#[]⟩, .int .i64 0, .int .i64 0, .int .i64 0, .int .i64 0, .int .i64 0], .int .i64 10]) (by simp [results, Tryz.results80, go_sem, m0, m1, m2, m3, m4, m5]) rfl ?_
     exact RetT.mk (by rw [HR.out]; rfl) hbF
   go_wp2_with fail
   exact ⟨⟨1, by omega, by go_num, HX, qH (by simp), HZ, HB, hv⟩, by simp [intOf]⟩
 case neg =>
 obtain rfl : j = 1 := by omega
 obtain rfl := HJ.out rfl
 replace HX : Hid (Blk wr gx 100 #[.string y.name, .int .i64 y.length, .int .i64 y.ball, .int .i64 y.instep, .int .i64 y.heel, .int .i64 y.pitch]) := HX
 have HR := qH (HO1.out (by trivial) (by trivial))
 go_wp2_with (first | (refine wpList_load_row rfl 100 _ rfl gx rfl 100 _ (0, 0) _ HX.out Tryz.underlying100 rfl (by kernel_rfl) ?_) | (refine wpList_store_row rfl 100 _ _ rfl gz #[.string y.name, .int .i64 y.length, .int .i64 y.ball, .int .i64 y.instep, .int .i64 y.heel, .int .i64 y.pitch] rfl rfl 100 _ HZ.out (by kernel_rfl) rfl (by simp [Value.oneCell']) ?_))
 have hF : Blk (World.setRow wr gz #[Value.string y.name, Value.int .i64 y.length, Value.int .i64 y.ball, Value.int .i64 y.instep, Value.int .i64 y.heel, Value.int .i64 y.pitch]) gz 100 #[.string y.name, .int .i64 y.length, .int .i64 y.ball, .int .i64 y.instep, .int .i64 y.heel, .int .i64 y.pitch] := setRow_heap _ _ _ _ _ _ HZ.out
 have hbF := below_rowL hv hzw #[Value.string y.name, Value.int .i64 y.length, Value.int .i64 y.ball, Value.int .i64 y.instep, Value.int .i64 y.heel, Value.int .i64 y.pitch]
 obtain ⟨WF, hWF⟩ : ∃ z, z = World.setRow wr gz #[Value.string y.name, Value.int .i64 y.length, Value.int .i64 y.ball, Value.int .i64 y.instep, Value.int .i64 y.heel, Value.int .i64 y.pitch] := ⟨_, rfl⟩
 rw [← hWF] at hF hbF ⊢
 clear hWF
 obtain ⟨m0, m1, m2, m3, m4, m5⟩ := qC6 hF
 go_wp2_with fail
 try simp only [Exit.inBlock, Exit.then]
 refine bodyPost_ret (v := .tuple #[.agg #[.string y.name, .int .i64 y.length, .int .i64 y.ball, .int .i64 y.instep, .int .i64 y.heel, .int .i64 y.pitch], .int .i64 0]) (by simp [results, Tryz.results80, go_sem, m0, m1, m2, m3, m4, m5]) rfl ?_
 exact RetT.mk (by rw [HR.out]; rfl) hbF
set_option maxRecDepth 100000 in
set_option maxHeartbeats 4000000 in
theorem AddEntry_c (s : ByteArray) (hs : s.size ≤ 1048576) (x : Entry) (hxs : x.what.size ≤ 9223372036854775807) (w : World) (hT : Tabs w) :
   Calls Tryz.prog 85 #[.string s, .agg #[.int .i64 x.day, .string x.what, .int .i64 x.value]] w (RetT #[.string (addV s x).1, .int .i64 (addV s x).2] w) := by
 have HT := qH hT
 clear hT
 obtain ⟨W0, hW0⟩ : ∃ W0, W0 = w.alloc (Obj.cells #[.int .i64 x.day, .string x.what, .int .i64 x.value] 141) := ⟨_, rfl⟩
 obtain ⟨gX, hgX⟩ : ∃ gX, gX = w.heap.size := ⟨_, rfl⟩
 have hv : Below w.heap.size w W0 := by rw [hW0]; exact bl_alloc (Below.refl _ _) _
 have hX : Blk W0 gX 141 #[.int .i64 x.day, .string x.what, .int .i64 x.value] := by rw [hW0, hgX]; exact Blk.new _ _ _
 have HW0 := qH hW0
 have HGX := qH hgX
 clear hW0 hgX
 go_enter Tryz.func85, Tryz.ntmps85
 go_wp2_with fail
 rw [← HW0.out, ← HGX.out]
 refine (logCode_c s hs _ (HT.out.below hv)).mono ?_
 rintro e W ⟨A, c, m, es, st, n, rfl, hG, hm, hown, hok, hno, hb⟩
 replace hv := bl_trans hv hb
 replace hX := hX.below hb
 clear hb
 have x0 : ∀ O, (W.alloc O).cell? ⟨gX, 0, none⟩ = some (.int .i64 x.day) := fun O => (hX.alloc O).cell 0
 have x1 : ∀ O, (W.alloc O).cell? ⟨gX, 1, none⟩ = some (.string x.what) := fun O => (hX.alloc O).cell 1
 have x2 : ∀ O, (W.alloc O).cell? ⟨gX, 2, none⟩ = some (.int .i64 x.value) := fun O => (hX.alloc O).cell 2
 by_cases h0 : cdL s = 0
 · have HR := qH (addV_ok (x := x) h0 (hok h0))
   have hle := hG.le
   have hmb : m ≤ 1048576 := by have := hG.few; omega
   have HM := qH hm
   have hs0 := hG.s0
   have hs1 := hG.s1
   rw [h0]
   clear h0 hok hno hm
   go_wp2_with fail
   refine (added_c s hs A es m c st n x hxs HM hmb hs0 hs1 _ (Arr.own (hown.alloc _)) (HT.out.below (bl_alloc hv _))).mono ?_
   rintro e W2 ⟨rfl, hb⟩
   go_wp2_with fail
   go_returns
   exact RetT.mk (by rw [HR.out]; rfl) (bl_trans (bl_alloc hv _) hb)
 · have HR := qH (addV_no (x := x) h0)
   have hne : (cdL s != 0) = true := by rw [bne_iff_ne]; exact h0
   clear hok hno
   generalize cdL s = C at *
   clear h0
   go_wp2_with fail
   go_returns
   exact RetT.mk (by rw [HR.out]; rfl) (bl_alloc hv _)
def DkAt (w : World) (lo hi g : Nat) (d : Dk) : Prop := ∃ (A : Option Addr) (n c : Nat), Blk w g 32 (#[Value.int .i64 d.f.length, Value.int .i64 d.f.ball, Value.int .i64 d.f.instep, Value.int .i64 d.f.heel, Value.slice A n c, Value.string d.s.upper, Value.string d.s.color, Value.string d.s.lining, Value.string d.s.sole, Value.int .i64 d.s.thick, Value.int .i64 d.s.heel, Value.int .i64 d.s.eyelets, Value.int .i64 d.s.density, Value.bool d.s.double, Value.string d.lg]) ∧ d.xs.length = n ∧ Own w lo hi 100 6 n (.slice A n c) (flat Last.cells d.xs)
structure XIn (w0 w : World) (gd ga : Nat) (f : Foot) (xs : List Last) (s : Style) (lg : ByteArray) (n c : Nat) (A An : Option Addr) (ws : List ByteArray) (ns : List Int) (nw kn : Nat) : Prop where
 hbw : Below w0.heap.size w0 w
 hws : Arr w0 (some ⟨ga, 0, none⟩) (flat scell ws)
 hns : Arr w An (flat icell ns)
 hdk : Blk w gd 32 #[.int .i64 f.length, .int .i64 f.ball, .int .i64 f.instep, .int .i64 f.heel, .slice A n c, .string s.upper, .string s.color, .string s.lining, .string s.sole, .int .i64 s.thick, .int .i64 s.heel, .int .i64 s.eyelets, .int .i64 s.density, .bool s.double, .string lg]
 hgd : w0.heap.size ≤ gd
 hown : w.ownsRow w0.heap.size 100 6 (.slice A n c) n (flat Last.cells xs)
 hne : ∀ k, (Value.slice A n c).ownBlock = some k → k ≠ gd
 hn : Hid (xs.length = n)
 hnw : Hid (ws.length = nw)
 hkn : Hid (ns.length = kn)
 nw0 : 0 < nw
 nw1 : nw ≤ 1048577
 htabs : Tabs w0
 hchg : ChgN w0
 hok : (Dk.mk f xs s lg).ok = true
 hsz : ∀ y ∈ ws, y.size ≤ 1048576
 hrsz : (restD ws).size ≤ 1048576
def OutX (w0 : World) (gd : Nat) (r : ResD) (e : Ending) (w' : World) : Prop := ∃ (A : Option Addr) (k c : Nat), e = .returned (.tuple #[.slice A k c, .int .i64 r.2.2]) ∧ Below w0.heap.size w0 w' ∧ (r.2.2 = 0 → r.2.1.length = k ∧ ∃ mid, w'.ownsRow mid 9 1 (.slice A k c) k (flat scell r.2.1) ∧ DkAt w' w0.heap.size mid gd r.1)
theorem own_one {w : World} {g lo : Nat} {t : ByteArray} (h : Blk w g 9 #[.string t]) (hg : lo ≤ g) : w.ownsRow lo 9 1 (.slice (some ⟨g, 0, none⟩) 1 1) 1 (flat scell [t]) :=
 ⟨rfl, .inr ⟨g, 1, #[.string t], rfl, hg, h, Nat.le_refl _, by unfold maxLen; omega, rfl, rfl⟩⟩
theorem OutX.no {w0 w' : World} {gd : Nat} {r : ResD} {c : Int} (hc : r.2.2 = c) (h0 : c ≠ 0) (hb : Below w0.heap.size w0 w') : OutX w0 gd r (.returned (.tuple #[.slice none 0 0, .int .i64 c])) w' := by
 subst hc
 exact ⟨none, 0, 0, rfl, hb, fun h => absurd h h0⟩
theorem OutX.one {w0 W : World} {gd n c : Nat} {A : Option Addr} {f : Foot} {xs : List Last} {s : Style} {lg t : ByteArray} {r : ResD} (hr : r = (⟨f, xs, s, lg⟩, [t], 0)) (hn : xs.length = n) (hb : Below w0.heap.size w0 W)
   (hO : W.ownsRow w0.heap.size 100 6 (.slice A n c) n (flat Last.cells xs)) (hD : Blk W gd 32 (#[Value.int .i64 f.length, Value.int .i64 f.ball, Value.int .i64 f.instep, Value.int .i64 f.heel, Value.slice A n c, Value.string s.upper, Value.string s.color, Value.string s.lining, Value.string s.sole, Value.int .i64 s.thick, Value.int .i64 s.heel, Value.int .i64 s.eyelets, Value.int .i64 s.density, Value.bool s.double, Value.string lg])) : OutX w0 gd r (.returned (.tuple #[.slice (some ⟨W.heap.size, 0, none⟩) 1 1, .int .i64 0])) (W.alloc (Obj.cells #[.string t] 9)) := by
 subst hr
 exact ⟨_, 1, 1, rfl, bl_alloc hb _, fun _ => ⟨rfl, W.heap.size, own_one (Blk.new _ _ _) (Nat.le_refl _), A, n, c, hD.alloc _, hn, (Own.of hO hb).below (bl_alloc (Below.refl _ _) _)⟩⟩
theorem OutX.many {w0 W W5 : World} {gd n c c5 : Nat} {A A5 : Option Addr} {f : Foot} {xs : List Last} {s : Style} {lg : ByteArray} {L : List ByteArray} {r : ResD} (hr : r = (⟨f, xs, s, lg⟩, L, 0)) (hn : xs.length = n) (hb : Below w0.heap.size w0 W)
   (hO : W.ownsRow w0.heap.size 100 6 (.slice A n c) n (flat Last.cells xs)) (hD : Blk W gd 32 (#[Value.int .i64 f.length, Value.int .i64 f.ball, Value.int .i64 f.instep, Value.int .i64 f.heel, Value.slice A n c, Value.string s.upper, Value.string s.color, Value.string s.lining, Value.string s.sole, Value.int .i64 s.thick, Value.int .i64 s.heel, Value.int .i64 s.eyelets, Value.int .i64 s.density, Value.bool s.double, Value.string lg])) (hb5 : Below W.heap.size W W5) (h5 : W5.ownsRow W.heap.size 9 1 (.slice A5 L.length c5) L.length (flat scell L)) :
   OutX w0 gd r (.returned (.tuple #[.slice A5 L.length c5, .int .i64 0])) W5 := by
 subst hr
 exact ⟨A5, L.length, c5, rfl, bl_trans hb hb5, fun _ => ⟨rfl, W.heap.size, h5, A, n, c, hD.below hb5, hn, (Own.of hO hb).below hb5⟩⟩
section
variable {w0 w : World} {gd ga : Nat} {f : Foot} {xs : List Last} {s : Style} {lg : ByteArray} {n c : Nat} {A An : Option Addr} {ws : List ByteArray} {ns : List Int} {nw kn : Nat}
theorem XIn.n30 (h : XIn w0 w gd ga f xs s lg n c A An ws ns nw kn) : n ≤ 30 := by
 have h1 := las_len (ok_parts h.hok).2.1
 have h2 := h.hn.out
 dsimp only at h1
 omega
theorem XIn.word (h : XIn w0 w gd ga f xs s lg n c A An ws ns nw kn) {k : Nat} (hk : k < nw) : w.cell? ⟨ga, k, none⟩ = some (.string (nthD ws k)) := by
 have h1 : ws[k]? = some (nthD ws k) := by
   unfold nthD
   have h3 : k < ws.length := by rw [h.hnw.out]; exact hk
   rw [List.getD_eq_getElem?_getD, List.getElem?_eq_getElem h3]; rfl
 exact bl_cell h.hbw (scell_lit h.hws h1)
theorem XIn.word0 (h : XIn w0 w gd ga f xs s lg n c A An ws ns nw kn) {t : ByteArray} (hk : nthD ws 0 = t) : w.cell? ⟨ga, 0, none⟩ = some (.string t) := by
 rw [← hk]; exact h.word h.nw0
theorem XIn.join (h : XIn w0 w gd ga f xs s lg n c A An ws ns nw kn) : Calls Tryz.prog 69 #[.slice (some ⟨ga, 1, none⟩) (nw - 1) (nw - 1), .string ⟨#[32]⟩] w (Ret (.string (restD ws)) w) := by
 have hl : (ws.drop 1).length = nw - 1 := by rw [List.length_drop, h.hnw.out]
 have hga : ga < w.heap.size := block_lt_of_cell (h.word h.nw0)
 have hz : (restD ws).size = (Lib.join ((ws.drop 1).map (·.data.toList)) (ByteArray.mk #[32]).data.toList).length := by
   unfold restD joinW
   rw [← bytes_len]
 have hr := h.hrsz
 rw [hz] at hr
 have hjn := Tryz.strings_Join ga 1 (nw - 1) (ws.drop 1) ⟨#[32]⟩ w (fun i y hy => by
   rw [List.getElem?_drop] at hy
   have h1 := bl_cell h.hbw (scell_lit h.hws hy)
   exact h1) hga (by rw [hl]; have := h.nw1; omega) (by rw [hl]; exact Nat.le_refl _) (Nat.le_trans hr (by omega))
 rw [hl] at hjn
 refine hjn.mono ?_
 rintro e W3 ⟨rfl, hb3⟩
 exact Ret.mk rfl hb3
theorem XIn.numO (h : XIn w0 w gd ga f xs s lg n c A An ws ns nw kn) {gn : Nat} (hA : An = some ⟨gn, 0, none⟩) {k : Nat} (hk : k < kn) : w.cell? ⟨gn, k, none⟩ = some (.int .i64 (numD ns k)) := by
 have h1 : ns[k]? = some (numD ns k) := by
   unfold numD
   have h3 : k < ns.length := by rw [h.hkn.out]; exact hk
   rw [List.getD_eq_getElem?_getD, List.getElem?_eq_getElem h3]; rfl
 obtain ⟨ad, e, _, hc⟩ := icell_at h.hns h1
 rw [hA] at e
 injection e with e
 subst e
 rw [show (⟨gn, 0, none⟩ : Addr).add k = ⟨gn, k, none⟩ by unfold Addr.add; split <;> simp_all] at hc
 exact hc
theorem XIn.join1 (h : XIn w0 w gd ga f xs s lg n c A An ws ns 1 kn) : Calls Tryz.prog 69 #[.slice (some ⟨ga, 0, none⟩) 0 0, .string ⟨#[32]⟩] w (Ret (.string (restD ws)) w) := by
 have hga : ga < w.heap.size := block_lt_of_cell (h.word h.nw0)
 have hl : ws.drop 1 = [] := List.drop_eq_nil_of_le (by rw [h.hnw.out]; exact Nat.le_refl _)
 have hr : restD ws = ⟨#[]⟩ := by unfold restD joinW; rw [hl]; rfl
 have hjn := Tryz.strings_Join ga 0 0 [] ⟨#[32]⟩ w (fun i y hy => by cases hy) hga (by simp) (by simp) (by simp [Lib.join_nil])
 refine hjn.mono ?_
 rintro e W3 ⟨rfl, hb3⟩
 exact Ret.mk (by rw [hr]; rfl) hb3
end
theorem blk_there {w : World} {g : Nat} {t : TypeId} {cs : Array Value} (h : Blk w g t cs) {o n : Nat} (hn : o + n ≤ cs.size) : w.there g o n := fun j hj =>
 ⟨by rw [h.cell, Array.getElem?_eq_getElem (by omega)]; rfl, h.frozen _⟩
theorem grown_cell (w : World) (g o : Nat) (v : Value) : w.grownBy (w.setCell ⟨g, o, none⟩ v) (some g) :=
 ⟨rfl, rfl, rfl, by simp [World.setCell], fun k _ hk => Below.heap_setCell w ⟨g, o, none⟩ v k (fun e => hk (by rw [e]))⟩
theorem grown_cells (g : Nat) : ∀ (vs : List Value) (o : Nat) (w : World), w.grownBy (w.setCells g o vs) (some g)
 | [], _, _ => grown_of_below (Below.refl _ _) _
 | v :: r, o, w => grown_trans (grown_cell w g o v) (grown_cells g r (o + 1) _)
theorem bl_cells {a w : World} {g : Nat} (h : Below a.heap.size a w) (hg : a.heap.size ≤ g) (o : Nat) (vs : List Value) : Below a.heap.size a (w.setCells g o vs) :=
 bl_grown h (grown_cells g vs o w) (fun k e => by injection e with e; omega)
theorem blk_farC {w : World} {g g' o : Nat} {t : TypeId} {cs : Array Value} (h : Blk w g t cs) (hg : g ≠ g') (vs : List Value) : Blk (w.setCells g' o vs) g t cs :=
 h.grown (grown_cells g' vs o w) (fun e => hg (by injection e))
theorem own_cells {w : World} {base e size n g : Nat} {v : Value} {cs : List Value} (h : w.ownsRow base e size v n cs) (hp : ∀ k, v.ownBlock = some k → k ≠ g) (o : Nat) (vs : List Value) : (w.setCells g o vs).ownsRow base e size v n cs :=
 h.kept (grown_cells g vs o w) (by
   cases hv : v.ownBlock with
   | none => exact .inl rfl
   | some k => exact .inr (fun e => hp k hv (by injection e)))
end Go.Proofs.YtpiehlfffjhoaaaGreatDoor
