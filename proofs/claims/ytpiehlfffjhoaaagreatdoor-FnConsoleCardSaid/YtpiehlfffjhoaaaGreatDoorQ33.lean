/- ReadLast, both sides. -/
import Derived.Test.YtpiehlfffjhoaaaGreatDoorQ0
import Derived.Test.YtpiehlfffjhoaaaGreatDoorQ32
namespace Go.Proofs.YtpiehlfffjhoaaaGreatDoor
open Go.RowKit
def zLa : Last := ⟨⟨#[]⟩, 0, 0, 0, 0, 0⟩
def outLa (o : Option Last) : Array Value := #[.agg #[.string (o.getD zLa).name, .int .i64 (o.getD zLa).length, .int .i64 (o.getD zLa).ball, .int .i64 (o.getD zLa).instep, .int .i64 (o.getD zLa).heel, .int .i64 (o.getD zLa).pitch], .bool o.isSome]
theorem outLa_none {s : ByteArray} (h : rdLa s = none) : outLa (rdLa s) = #[.agg #[.string ⟨#[]⟩, .int .i64 0, .int .i64 0, .int .i64 0, .int .i64 0, .int .i64 0], .bool false] := by rw [h]; rfl
theorem scell_lit {w : World} {g j : Nat} {L : List ByteArray} {y : ByteArray} (h : Arr w (some ⟨g, 0, none⟩) (flat scell L)) (hy : L[j]? = some y) : w.cell? ⟨g, j, none⟩ = some (.string y) := by
 obtain ⟨bd, hbd, _, d0⟩ := scell_at h hy
 injection hbd with hbd
 subst hbd
 rw [Addr.add_lit, Nat.zero_add] at d0
 exact d0
theorem arr_new_cellsD (w : World) (t : TypeId) (C : List Value) : Arr (w.alloc (.cells C.toArray t)) (some ⟨w.heap.size, 0, none⟩) C := arr_blkO (Blk.new w t C.toArray)
set_option maxRecDepth 100000 in
set_option maxHeartbeats 8000000 in
theorem ReadLast_c (s : ByteArray) (hs : s.size ≤ 4194304) (w : World) (hT : Tabs w) : Calls Tryz.prog 71 #[.string s] w (RetT (outLa (rdLa s)) w) := by
 have HT := qH hT
 have HSP := qH (fun w h => SplitC_c 32 s (by omega) w h)
 clear hT
 have hyz : Hid (∀ y ∈ splC 32 s, y.size ≤ s.size) := qH (fun y hy => splC_part (c := 32) hy)
 have hno := @rdLa_short s
 have h4f := @four4_of (splC 32 s)
 have hnf := fun a b c d => @rdLa_nofoot s a b c d
 have h4r := fun a b c d f => @rdLa_four s a b c d f
 have hmk := fun a b c d f => @ltB_mk s a b c d f
 obtain ⟨L, hL⟩ : ∃ z, z = splC 32 s := ⟨_, rfl⟩
 rw [← hL] at HSP hyz hno h4f h4r hnf hmk
 have HNO := qH hno
 have H4F := qH h4f
 have H4R := qH h4r
 have HNF := qH hnf
 have HMK := qH hmk
 obtain ⟨n, hn⟩ : ∃ z, z = L.length := ⟨_, rfl⟩
 rw [← hn] at HSP
 have HN := qH hn.symm
 clear hL hno h4f h4r hn hnf hmk
 obtain ⟨W, hW⟩ : ∃ z, z = w.alloc (Obj.cells #[.string ⟨#[]⟩, .int .i64 0, .int .i64 0, .int .i64 0, .int .i64 0, .int .i64 0] 100) := ⟨_, rfl⟩
 obtain ⟨g, hg⟩ : ∃ z, z = w.heap.size := ⟨_, rfl⟩
 have hv : Below w.heap.size w W := by rw [hW]; exact bl_alloc (Below.refl _ _) _
 have HB : Hid (Blk W g 100 #[.string ⟨#[]⟩, .int .i64 0, .int .i64 0, .int .i64 0, .int .i64 0, .int .i64 0]) := qH (by rw [hW, hg]; exact Blk.new _ _ _)
 have hgw : w.heap.size ≤ g := by omega
 have HW := qH hW
 have HG := qH hg
 clear hW hg
 go_enter Tryz.func71, Tryz.ntmps71
 go_upto_region 1 with fail
 rw [← HW.out, ← HG.out]
 clear HW HG
 go_wp2_with fail
 refine (HSP.out _ (HT.out.below hv)).mono ?_
 rintro e W1 ⟨rfl, hw1⟩
 obtain ⟨ga, hga⟩ : ∃ z, z = W.heap.size := ⟨_, rfl⟩
 have hb : Below W.heap.size W W1 := by rw [hw1]; exact bl_alloc (Below.refl _ _) _
 have HA : Hid (Arr W1 (some ⟨ga, 0, none⟩) (flat scell L)) := qH (by rw [hw1, hga, flat_str]; exact arr_new_cellsD _ _ _)
 rw [← hga]
 clear hw1 hga HSP
 replace HB := qH (HB.out.below hb)
 replace hv := bl_trans hv hb
 clear hb
 by_cases hm4 : n = 4
 case neg =>
   have hne : ((n : Int) != 4) = true := by rw [bne_iff_ne]; omega
   have HR := qH (outLa_none (HNO.out (fun h => hm4 (HN.out.symm.trans h))))
   go_wp2_with (refine wpList_store_row rfl 100 _ _ rfl g #[.string ⟨#[]⟩, .int .i64 0, .int .i64 0, .int .i64 0, .int .i64 0, .int .i64 0] rfl rfl 100 _ HB.out (by kernel_rfl) rfl (by simp [Value.oneCell']) ?_)
   have hF : Blk (World.setRow W1 g #[Value.string ⟨#[]⟩, Value.int .i64 0, Value.int .i64 0, Value.int .i64 0, Value.int .i64 0, Value.int .i64 0]) g 100 #[.string ⟨#[]⟩, .int .i64 0, .int .i64 0, .int .i64 0, .int .i64 0, .int .i64 0] := setRow_heap _ _ _ _ _ _ HB.out
   have hbF := below_rowL hv hgw #[Value.string ⟨#[]⟩, Value.int .i64 0, Value.int .i64 0, Value.int .i64 0, Value.int .i64 0, Value.int .i64 0]
   obtain ⟨WF, hWF⟩ : ∃ z, z = World.setRow W1 g #[Value.string ⟨#[]⟩, Value.int .i64 0, Value.int .i64 0, Value.int .i64 0, Value.int .i64 0, Value.int .i64 0] := ⟨_, rfl⟩
   rw [← hWF] at hF hbF ⊢
   clear hWF
   obtain ⟨m0, m1, m2, m3, m4, m5⟩ := qC6 hF
   go_wp2_with fail
   try simp only [Exit.inBlock, Exit.then]
   refine bodyPost_ret (v := .tuple #[.agg #[.string ⟨#[]⟩, .int .i64 0, .int .i64 0, .int .i64 0, .int .i64 0, .int .i64 0], .bool false]) (by simp [results, Tryz.results71, go_sem, m0, m1, m2, m3, m4, m5]) rfl ?_
   exact RetT.mk (HR.out).symm hbF
 subst hm4
 obtain ⟨nm, ft, q, p, hL⟩ := H4F.out HN.out
 have hz1 := hyz.out nm (by rw [hL]; simp)
 have hz2 := hyz.out ft (by rw [hL]; simp)
 have hz4 := hyz.out p (by rw [hL]; simp)
 have h0 : L[0]? = some nm := by rw [hL]; rfl
 have h1 : L[1]? = some ft := by rw [hL]; rfl
 have h2 : L[2]? = some q := by rw [hL]; rfl
 have h3 : L[3]? = some p := by rw [hL]; rfl
 have HL := qH hL
 have HI0 := qH h0
 have HI1 := qH h1
 have HI2 := qH h2
 have HI3 := qH h3
 clear hL h0 h1 h2 h3 hyz HNO H4F
 have HRF := qH (fun w h => ReadFoot_c ft (by omega) w h)
 have hrd := fun w h => ReadDecimal_c p (by omega) w h
 change ∀ w, Tabs w → Calls Tryz.prog 33 #[.string p] w (RetT #[.int .i64 (numV p), .bool (okB p)] w) at hrd
 obtain ⟨b1, hb1⟩ : ∃ z, z = (rdFo ft).isSome := ⟨_, rfl⟩
 obtain ⟨f, hf⟩ : ∃ z, z = (rdFo ft).getD zFo := ⟨_, rfl⟩
 have hfs : b1 = true → rdFo ft = some f := fun h => by
   rw [hb1] at h
   rw [hf]
   cases hr : rdFo ft with
   | none => rw [hr] at h; cases h
   | some f => rfl
 have hfn : b1 = false → rdFo ft = none := fun h => by
   rw [hb1] at h
   cases hr : rdFo ft with
   | none => rfl
   | some f => rw [hr] at h; cases h
 unfold outFo at HRF
 rw [← hb1, ← hf] at HRF
 have HFS := qH hfs
 have HFN := qH hfn
 obtain ⟨b2, hb2⟩ : ∃ z, z = okB p := ⟨_, rfl⟩
 rw [← hb2] at hrd
 have HB2 := qH hb2.symm
 obtain ⟨np, hnp⟩ : ∃ z, z = numV p := ⟨_, rfl⟩
 rw [← hnp] at hrd
 have HNP := qH hnp
 have HRD := qH hrd
 clear hb1 hf hfs hfn hb2 hnp hrd
 have k1 : W1.cell? ⟨ga, 1, none⟩ = some (.string ft) := scell_lit HA.out HI1.out
 go_wp2_with fail
 refine (HRF.out _ (HT.out.below hv)).mono ?_
 rintro e W2 ⟨rfl, hb⟩
 clear k1
 replace HB := qH (HB.out.below hb)
 replace HA := qH (HA.out.below hb)
 replace hv := bl_trans hv hb
 clear hb
 go_upto_region 5 with fail
 obtain ⟨W3, hWn⟩ : ∃ q9, q9 = World.alloc W2 (Obj.cells #[.int .i64 f.length, .int .i64 f.ball, .int .i64 f.instep, .int .i64 f.heel] 27) := ⟨_, rfl⟩
 obtain ⟨gf, hgn⟩ : ∃ q9, q9 = W2.heap.size := ⟨_, rfl⟩
 have hb : Below W2.heap.size W2 W3 := by rw [hWn]; exact bl_alloc (Below.refl _ _) _
 have HF : Hid (Blk W3 gf 27 #[.int .i64 f.length, .int .i64 f.ball, .int .i64 f.instep, .int .i64 f.heel]) := qH (by rw [hWn, hgn]; exact Blk.new _ _ _)
 rw [← hWn, ← hgn]
 clear hWn hgn
 replace HB := qH (HB.out.below hb)
 replace HA := qH (HA.out.below hb)
 replace hv := bl_trans hv hb
 clear hb
 have k3 : W3.cell? ⟨ga, 3, none⟩ = some (.string p) := scell_lit HA.out HI3.out
 go_wp2_with fail
 refine (HRD.out _ (HT.out.below hv)).mono ?_
 rintro e W4 ⟨rfl, hb⟩
 clear k3
 replace HB := qH (HB.out.below hb)
 replace HA := qH (HA.out.below hb)
 replace HF := qH (HF.out.below hb)
 replace hv := bl_trans hv hb
 clear hb
 go_upto_region 6 with fail
 have k0 : W4.cell? ⟨ga, 0, none⟩ = some (.string nm) := scell_lit HA.out HI0.out
 obtain ⟨q0, q1, q2, q3⟩ := qC4 HF.out
 clear HA HF
 refine wp_region_held_drew (S := fun w' => Below W4.heap.size W4 w' ∧ True) (by as_aux_lemma => kernel_rfl) ?_ (fun hHeld => ?_)
 · exact ⟨(Below.refl _ _).drew, trivial⟩
 have hd9 := hHeld.1
 refine zU 0 30 rfl (by assumption) ?_
 try simp only [Act.put, zA, zB, zC]
 refine zU 1 31 rfl (by assumption) ?_
 try simp only [Act.put, zA, zB, zC]
 refine zT 2 32 ?_ rfl ?_ (by assumption) ?_
 rotate_left
 · intro w hSw
   try dsimp only at hSw
   have x_k0 := bl_cell hSw.1 k0
   go_simp
   try with_reducible rfl
 try simp only [Act.put, zA, zB, zC]
 refine zU 3 33 rfl (by assumption) ?_
 try simp only [Act.put, zA, zB, zC]
 refine zT 4 34 ?_ rfl ?_ (by assumption) ?_
 rotate_left
 · intro w hSw
   try dsimp only at hSw
   have x_q0 := bl_cell hSw.1 q0
   go_simp
   try with_reducible rfl
 try simp only [Act.put, zA, zB, zC]
 refine zU 5 35 rfl (by assumption) ?_
 try simp only [Act.put, zA, zB, zC]
 refine zT 6 36 ?_ rfl ?_ (by assumption) ?_
 rotate_left
 · intro w hSw
   try dsimp only at hSw
   have x_q1 := bl_cell hSw.1 q1
   go_simp
   try with_reducible rfl
 try simp only [Act.put, zA, zB, zC]
 refine zU 7 37 rfl (by assumption) ?_
 try simp only [Act.put, zA, zB, zC]
 refine zT 8 38 ?_ rfl ?_ (by assumption) ?_
 rotate_left
 · intro w hSw
   try dsimp only at hSw
   have x_q2 := bl_cell hSw.1 q2
   go_simp
   try with_reducible rfl
 try simp only [Act.put, zA, zB, zC]
 refine zU 9 39 rfl (by assumption) ?_
 try simp only [Act.put, zA, zB, zC]
 refine zT 10 40 ?_ rfl ?_ (by assumption) ?_
 rotate_left
 · intro w hSw
   try dsimp only at hSw
   have x_q3 := bl_cell hSw.1 q3
   go_simp
   try with_reducible rfl
 try simp only [Act.put, zA, zB, zC]
 refine zU 11 41 rfl (by assumption) ?_
 try simp only [Act.put, zA, zB, zC]
 refine zU 12 42 rfl (by assumption) ?_
 try simp only [Act.put, zA, zB, zC]
 clear k0 q0 q1 q2 q3
 refine zR 13 (some 9) rfl (fun K hK => ?_)
 go_simp
 (try dsimp only at hHeld); go_split_ands
 obtain ⟨W5, hW5⟩ : ∃ z, z = World.drew (World.alloc W4 (Obj.cells #[.string ⟨#[]⟩, .int .i64 0, .int .i64 0, .int .i64 0, .int .i64 0, .int .i64 0] 100)) := ⟨_, rfl⟩
 obtain ⟨gx, hgx⟩ : ∃ z, z = W4.heap.size := ⟨_, rfl⟩
 have HX0 : Hid (Blk W5 gx 100 #[.string ⟨#[]⟩, .int .i64 0, .int .i64 0, .int .i64 0, .int .i64 0, .int .i64 0]) := qH (by rw [hW5, hgx]; exact Blk.new W4 _ _)
 have hb9 : Below W4.drew.heap.size W4.drew W5 := by rw [hW5]; exact bl_alloc (Below.refl _ _) _
 have hgx4 : W4.heap.size ≤ gx := by omega
 replace hd9 := bl_trans hd9 hb9
 rw [← hW5, ← hgx]
 clear hW5 hgx hb9
 refine hK.out _ _ ?_ (fun hHeld => ?_)
 · (try dsimp only); go_split_ands; exact ⟨hd9, trivial⟩
 clear hK K
 try simp only [Act.put, zA, zB, zC]
 refine zR 14 none rfl (fun K hK => ?_)
 skip
 (try dsimp only at hHeld); go_split_ands
 refine wp_store_row 100 _ _ rfl gx #[.string nm, .int .i64 f.length, .int .i64 f.ball, .int .i64 f.instep, .int .i64 f.heel, .int .i64 np] rfl rfl 100 #[Value.string ⟨#[]⟩, Value.int .i64 0, Value.int .i64 0, Value.int .i64 0, Value.int .i64 0, Value.int .i64 0] HX0.out (by kernel_rfl) rfl (by simp [Value.oneCell']) ?_
 have HX1 : Hid (Blk (World.setRow W5 gx #[Value.string nm, Value.int .i64 f.length, Value.int .i64 f.ball, Value.int .i64 f.instep, Value.int .i64 f.heel, Value.int .i64 np]) gx 100 #[.string nm, .int .i64 f.length, .int .i64 f.ball, .int .i64 f.instep, .int .i64 f.heel, .int .i64 np]) := qH (setRow_heap _ _ _ _ _ _ HX0.out)
 have hd8 := below_rowL hd9 hgx4 #[Value.string nm, Value.int .i64 f.length, Value.int .i64 f.ball, Value.int .i64 f.instep, Value.int .i64 f.heel, Value.int .i64 np]
 clear HX0 hd9
 obtain ⟨W6, hW6⟩ : ∃ z, z = World.setRow W5 gx #[Value.string nm, Value.int .i64 f.length, Value.int .i64 f.ball, Value.int .i64 f.instep, Value.int .i64 f.heel, Value.int .i64 np] := ⟨_, rfl⟩
 rw [← hW6] at HX1 hd8 ⊢
 clear hW6
 refine hK.out _ _ ?_ (fun hHeld => ?_)
 · (try dsimp only); go_split_ands; exact ⟨hd8, trivial⟩
 clear hK K
 try simp only [Act.put]
 refine wpAnyH_done (by as_aux_lemma => kernel_rfl) ?_ _
 clear hHeld
 have hb := hd8
 clear hd8
 have HX := HX1
 clear HX1
 replace HB := qH (HB.out.below hb)
 replace hv := bl_trans hv hb
 clear hb
 obtain ⟨x, hx⟩ : ∃ z, z = mkL nm f p := ⟨_, rfl⟩
 have HX2 : Hid (Blk W6 gx 100 #[.string x.name, .int .i64 x.length, .int .i64 x.ball, .int .i64 x.instep, .int .i64 x.heel, .int .i64 x.pitch]) := qH (by
   have h := HX.out
   rw [HNP.out] at h
   rw [hx]
   exact h)
 have hxz : x.name.size ≤ 4194304 := by rw [hx]; exact Nat.le_trans hz1 hs
 have HXX := qH hx
 clear HX hx
 cases b1
 case false =>
   have HR := qH (outLa_none (HNF.out _ _ _ _ HL.out (HFN.out rfl)))
   go_upto_if 54 with fail
   go_wp2_with (refine wpList_store_row rfl 100 _ _ rfl g #[.string ⟨#[]⟩, .int .i64 0, .int .i64 0, .int .i64 0, .int .i64 0, .int .i64 0] rfl rfl 100 _ HB.out (by kernel_rfl) rfl (by simp [Value.oneCell']) ?_)
   have hF : Blk (World.setRow W6 g #[Value.string ⟨#[]⟩, Value.int .i64 0, Value.int .i64 0, Value.int .i64 0, Value.int .i64 0, Value.int .i64 0]) g 100 #[.string ⟨#[]⟩, .int .i64 0, .int .i64 0, .int .i64 0, .int .i64 0, .int .i64 0] := setRow_heap _ _ _ _ _ _ HB.out
   have hbF := below_rowL hv hgw #[Value.string ⟨#[]⟩, Value.int .i64 0, Value.int .i64 0, Value.int .i64 0, Value.int .i64 0, Value.int .i64 0]
   obtain ⟨WF, hWF⟩ : ∃ z, z = World.setRow W6 g #[Value.string ⟨#[]⟩, Value.int .i64 0, Value.int .i64 0, Value.int .i64 0, Value.int .i64 0, Value.int .i64 0] := ⟨_, rfl⟩
   rw [← hWF] at hF hbF ⊢
   clear hWF
   obtain ⟨m0, m1, m2, m3, m4, m5⟩ := qC6 hF
   go_wp2_with fail
   try simp only [Exit.inBlock, Exit.then]
   refine bodyPost_ret (v := .tuple #[.agg #[.string ⟨#[]⟩, .int .i64 0, .int .i64 0, .int .i64 0, .int .i64 0, .int .i64 0], .bool false]) (by simp [results, Tryz.results71, go_sem, m0, m1, m2, m3, m4, m5]) rfl ?_
   exact RetT.mk (HR.out).symm hbF
 have H4 := qH (H4R.out _ _ _ _ f HL.out (HFS.out rfl))
 cases b2
 case false =>
   have HR := qH (outLa_none (s := s) (by rw [H4.out, HB2.out, Bool.and_false]; rfl))
   go_upto_if 54 with fail
   go_wp2_with (refine wpList_store_row rfl 100 _ _ rfl g #[.string ⟨#[]⟩, .int .i64 0, .int .i64 0, .int .i64 0, .int .i64 0, .int .i64 0] rfl rfl 100 _ HB.out (by kernel_rfl) rfl (by simp [Value.oneCell']) ?_)
   have hF : Blk (World.setRow W6 g #[Value.string ⟨#[]⟩, Value.int .i64 0, Value.int .i64 0, Value.int .i64 0, Value.int .i64 0, Value.int .i64 0]) g 100 #[.string ⟨#[]⟩, .int .i64 0, .int .i64 0, .int .i64 0, .int .i64 0, .int .i64 0] := setRow_heap _ _ _ _ _ _ HB.out
   have hbF := below_rowL hv hgw #[Value.string ⟨#[]⟩, Value.int .i64 0, Value.int .i64 0, Value.int .i64 0, Value.int .i64 0, Value.int .i64 0]
   obtain ⟨WF, hWF⟩ : ∃ z, z = World.setRow W6 g #[Value.string ⟨#[]⟩, Value.int .i64 0, Value.int .i64 0, Value.int .i64 0, Value.int .i64 0, Value.int .i64 0] := ⟨_, rfl⟩
   rw [← hWF] at hF hbF ⊢
   clear hWF
   obtain ⟨m0, m1, m2, m3, m4, m5⟩ := qC6 hF
   go_wp2_with fail
   try simp only [Exit.inBlock, Exit.then]
   refine bodyPost_ret (v := .tuple #[.agg #[.string ⟨#[]⟩, .int .i64 0, .int .i64 0, .int .i64 0, .int .i64 0, .int .i64 0], .bool false]) (by simp [results, Tryz.results71, go_sem, m0, m1, m2, m3, m4, m5]) rfl ?_
   exact RetT.mk (HR.out).symm hbF
 have HMM := qH (HMK.out _ _ _ _ f HL.out (HFS.out rfl) HB2.out)
 have HLT := fun w h => LastText_c x (by omega) w h
 rw [← HXX.out] at H4 HMM
 obtain ⟨u, hu⟩ : ∃ z, z = ltB x := ⟨_, rfl⟩
 rw [← hu] at HLT HMM
 obtain ⟨c, hc⟩ : ∃ z, z = (decide (q = wPitch) && lastB x) := ⟨_, rfl⟩
 rw [← hc] at HMM
 have hbb : (u.toList == s.toList) = c := by rw [bytes_beq]; exact HMM.out
 have HL9 := qH HLT
 have HC : Hid (outLa (rdLa s) = if c = true then outLa (some x) else outLa none) := qH (by
   rw [H4.out, HB2.out, Bool.and_true, ← hc]
   cases c <;> rfl)
 clear hu hc HLT HMM
 obtain ⟨x0, x1, x2, x3, x4, x5⟩ := qC6 HX2.out
 go_wp2_with fail
 refine (HL9.out _ (HT.out.below hv)).mono ?_
 rintro e W7 ⟨rfl, hb⟩
 clear x0 x1 x2 x3 x4 x5
 replace HB := qH (HB.out.below hb)
 replace HX2 := qH (HX2.out.below hb)
 replace hv := bl_trans hv hb
 clear hb
 cases c
 · have HR := qH (HC.out : outLa (rdLa s) = #[.agg #[.string ⟨#[]⟩, .int .i64 0, .int .i64 0, .int .i64 0, .int .i64 0, .int .i64 0], .bool false])
   go_wp2_with (refine wpList_store_row rfl 100 _ _ rfl g #[.string ⟨#[]⟩, .int .i64 0, .int .i64 0, .int .i64 0, .int .i64 0, .int .i64 0] rfl rfl 100 _ HB.out (by kernel_rfl) rfl (by simp [Value.oneCell']) ?_)
   have hF : Blk (World.setRow W7 g #[Value.string ⟨#[]⟩, Value.int .i64 0, Value.int .i64 0, Value.int .i64 0, Value.int .i64 0, Value.int .i64 0]) g 100 #[.string ⟨#[]⟩, .int .i64 0, .int .i64 0, .int .i64 0, .int .i64 0, .int .i64 0] := setRow_heap _ _ _ _ _ _ HB.out
   have hbF := below_rowL hv hgw #[Value.string ⟨#[]⟩, Value.int .i64 0, Value.int .i64 0, Value.int .i64 0, Value.int .i64 0, Value.int .i64 0]
   obtain ⟨WF, hWF⟩ : ∃ z, z = World.setRow W7 g #[Value.string ⟨#[]⟩, Value.int .i64 0, Value.int .i64 0, Value.int .i64 0, Value.int .i64 0, Value.int .i64 0] := ⟨_, rfl⟩
   rw [← hWF] at hF hbF ⊢
   clear hWF
   obtain ⟨m0, m1, m2, m3, m4, m5⟩ := qC6 hF
   go_wp2_with fail
   try simp only [Exit.inBlock, Exit.then]
   refine bodyPost_ret (v := .tuple #[.agg #[.string ⟨#[]⟩, .int .i64 0, .int .i64 0, .int .i64 0, .int .i64 0, .int .i64 0], .bool false]) (by simp [results, Tryz.results71, go_sem, m0, m1, m2, m3, m4, m5]) rfl ?_
   exact RetT.mk (HR.out).symm hbF
 have HR := qH (HC.out : outLa (rdLa s) = #[.agg #[.string x.name, .int .i64 x.length, .int .i64 x.ball, .int .i64 x.instep, .int .i64 x.heel, .int .i64 x.pitch], .bool true])
 go_wp2_with (first | (refine wpList_load_row rfl 100 _ rfl gx rfl 100 _ (0, 0) _ HX2.out Tryz.underlying100 rfl (by kernel_rfl) ?_) | (refine wpList_store_row rfl 100 _ _ rfl g #[.string x.name, .int .i64 x.length, .int .i64 x.ball, .int .i64 x.instep, .int .i64 x.heel, .int .i64 x.pitch] rfl rfl 100 _ HB.out (by kernel_rfl) rfl (by simp [Value.oneCell']) ?_))
 have hF : Blk (World.setRow W7 g #[Value.string x.name, Value.int .i64 x.length, Value.int .i64 x.ball, Value.int .i64 x.instep, Value.int .i64 x.heel, Value.int .i64 x.pitch]) g 100 #[.string x.name, .int .i64 x.length, .int .i64 x.ball, .int .i64 x.instep, .int .i64 x.heel, .int .i64 x.pitch] := setRow_heap _ _ _ _ _ _ HB.out
 have hbF := below_rowL hv hgw #[Value.string x.name, Value.int .i64 x.length, Value.int .i64 x.ball, Value.int .i64 x.instep, Value.int .i64 x.heel, Value.int .i64 x.pitch]
 obtain ⟨WF, hWF⟩ : ∃ z, z = World.setRow W7 g #[Value.string x.name, Value.int .i64 x.length, Value.int .i64 x.ball, Value.int .i64 x.instep, Value.int .i64 x.heel, Value.int .i64 x.pitch] := ⟨_, rfl⟩
 rw [← hWF] at hF hbF ⊢
 clear hWF
 obtain ⟨m0, m1, m2, m3, m4, m5⟩ := qC6 hF
 go_wp2_with fail
 try simp only [Exit.inBlock, Exit.then]
 refine bodyPost_ret (v := .tuple #[.agg #[.string x.name, .int .i64 x.length, .int .i64 x.ball, .int .i64 x.instep, .int .i64 x.heel, .int .i64 x.pitch], .bool true]) (by simp [results, Tryz.results71, go_sem, m0, m1, m2, m3, m4, m5]) rfl ?_
 exact RetT.mk (HR.out).symm hbF
end Go.Proofs.YtpiehlfffjhoaaaGreatDoor
