/- Lemmas for the law on the console: the parts CnW, CnC, CnX. -/
import Derived.Test.YtpiehlfffjhoaaaGreatDoorQ0
import Derived.Test.YtpiehlfffjhoaaaGreatDoorQ31
import Derived.Test.YtpiehlfffjhoaaaGreatDoorQ20
import Derived.Deep.RegionHeld3
import Derived.Lib.SlicesS
namespace Go.Proofs.YtpiehlfffjhoaaaGreatDoor
open Go.RowKit
set_option maxHeartbeats 2000000 in
theorem needOf_c (x : Last) (f : Foot) (HX : Hid (lastB x = true)) (HF : Hid (footB f = true)) (w : World) : Calls Tryz.prog 78 #[.agg #[.string x.name, .int .i64 x.length, .int .i64 x.ball, .int .i64 x.instep, .int .i64 x.heel, .int .i64 x.pitch], .agg #[.int .i64 f.length, .int .i64 f.ball, .int .i64 f.instep, .int .i64 f.heel]] w (OutI1 (needP x f) w) := by
 obtain ⟨_, hf, p0, p1⟩ := lastB_parts HX.out
 obtain ⟨⟨a1, a2⟩, ⟨b1, b2⟩, ⟨c1, c2⟩, ⟨d1, d2⟩⟩ := foot_bd hf
 obtain ⟨⟨e1, e2⟩, ⟨g1, g2⟩, ⟨h1, h2⟩, ⟨i1, i2⟩⟩ := foot_bd HF.out
 unfold Last.foot at *
 dsimp only at *
 obtain ⟨gx, hgx⟩ : ∃ z, z = w.heap.size := ⟨_, rfl⟩
 obtain ⟨gf, hgf⟩ : ∃ z, z = w.heap.size + 1 := ⟨_, rfl⟩
 obtain ⟨W, hW⟩ : ∃ z, z = (w.alloc (Obj.cells #[.string x.name, .int .i64 x.length, .int .i64 x.ball, .int .i64 x.instep, .int .i64 x.heel, .int .i64 x.pitch] 100)).alloc (Obj.cells #[.int .i64 f.length, .int .i64 f.ball, .int .i64 f.instep, .int .i64 f.heel] 27) := ⟨_, rfl⟩
 have hv : Below w.heap.size w W := by rw [hW]; exact bl_alloc (bl_alloc (Below.refl _ _) _) _
 have HX1 : Blk W gx 100 #[.string x.name, .int .i64 x.length, .int .i64 x.ball, .int .i64 x.instep, .int .i64 x.heel, .int .i64 x.pitch] := by rw [hW, hgx]; exact (Blk.new w _ _).alloc _
 have HF1 : Blk W gf 27 #[.int .i64 f.length, .int .i64 f.ball, .int .i64 f.instep, .int .i64 f.heel] := by
   have h := Blk.new (w.alloc (Obj.cells #[.string x.name, .int .i64 x.length, .int .i64 x.ball, .int .i64 x.instep, .int .i64 x.heel, .int .i64 x.pitch] 100)) 27 #[Value.int .i64 f.length, Value.int .i64 f.ball, Value.int .i64 f.instep, Value.int .i64 f.heel]
   rw [World.size_alloc] at h
   rw [hW, hgf]; exact h
 have k2 : W.cell? ⟨gx, 2, none⟩ = some (.int .i64 x.ball) := HX1.cell 2
 have k3 : W.cell? ⟨gx, 3, none⟩ = some (.int .i64 x.instep) := HX1.cell 3
 have k4 : W.cell? ⟨gx, 4, none⟩ = some (.int .i64 x.heel) := HX1.cell 4
 have q1 : W.cell? ⟨gf, 1, none⟩ = some (.int .i64 f.ball) := HF1.cell 1
 have q2 : W.cell? ⟨gf, 2, none⟩ = some (.int .i64 f.instep) := HF1.cell 2
 have q3 : W.cell? ⟨gf, 3, none⟩ = some (.int .i64 f.heel) := HF1.cell 3
 have r1 : IntKind.i64.wrap (f.ball - x.ball) = f.ball - x.ball := IntWalk.i64_in _ (by omega)
 have r2 : IntKind.i64.wrap (f.instep - x.instep) = f.instep - x.instep := IntWalk.i64_in _ (by omega)
 have r3 : IntKind.i64.wrap (f.heel - x.heel) = f.heel - x.heel := IntWalk.i64_in _ (by omega)
 have hN := qH (show needP x f = [max (f.ball - x.ball) 0, max (f.instep - x.instep) 0, max (f.heel - x.heel) 0] from rfl)
 obtain ⟨n1, hn1⟩ : ∃ z, z = max (f.ball - x.ball) 0 := ⟨_, rfl⟩
 obtain ⟨n2, hn2⟩ : ∃ z, z = max (f.instep - x.instep) 0 := ⟨_, rfl⟩
 obtain ⟨n3, hn3⟩ : ∃ z, z = max (f.heel - x.heel) 0 := ⟨_, rfl⟩
 rw [← hn1, ← hn2, ← hn3] at hN
 have s1 : max (f.ball - x.ball) 0 = n1 := hn1.symm
 have s2 : max (f.instep - x.instep) 0 = n2 := hn2.symm
 have s3 : max (f.heel - x.heel) 0 = n3 := hn3.symm
 have HW := qH hW
 have G1 := qH hgx
 have G2 := qH hgf
 clear hW hgx hgf HX1 HF1 hn1 hn2 hn3
 go_enter Tryz.func78, Tryz.ntmps78
 go_upto_region 1 with fail
 rw [← HW.out, ← G2.out, ← G1.out]
 clear HW G1 G2
 go_wp2_with fail
 go_returns
 exact ⟨_, 3, 3, rfl, by rw [hN.out]; rfl, by rw [hN.out]; exact arr_new_cells _ _ _, bl_alloc hv _⟩
def ChgN (w : World) : Prop := ∀ k : Nat, k ≤ 5 → w.cell? ⟨1, k, none⟩ = some (.string (chW k))
theorem ChgN.below {w w' : World} (h : ChgN w) (hb : Below w.heap.size w w') : ChgN w' := fun k hk => bl_cell hb (h k hk)
theorem chW_size (k : Int) : (chW k).size ≤ 6 := by
 unfold chW
 repeat' split
 all_goals decide
set_option maxRecDepth 100000 in
set_option maxHeartbeats 4000000 in
theorem ChangeText_c (k a : Int) (w : World) (hT : Pow10 w) (hN : ChgN w) : Calls Tryz.prog 134 #[.agg #[.int .i64 k, .int .i64 a]] w (Ret (.string (chT k a)) w) := by
 have HT := qH hT
 have HN := qH hN
 have HV := fun w => validChange_c k a w
 have HTX : Hid (chT k a = if chgB k a = true then (if 0 < a then ((chW k ++ ⟨#[32, 43]⟩) ++ decI a) else ((chW k ++ ⟨#[32]⟩) ++ decI a)) else ⟨#[]⟩) := qH rfl
 have hbd := fun h => chgB_bd (k := k) (a := a) h
 obtain ⟨b, hb⟩ : ∃ z, z = chgB k a := ⟨_, rfl⟩
 rw [← hb] at HV HTX hbd
 have HVV := qH HV
 have HBD := qH hbd
 clear hb HV hT hN hbd
 obtain ⟨W, hW⟩ : ∃ W, W = w.alloc (Obj.cells #[.int .i64 k, .int .i64 a] 126) := ⟨_, rfl⟩
 obtain ⟨g, hg⟩ : ∃ g, g = w.heap.size := ⟨_, rfl⟩
 have hv : Below w.heap.size w W := by rw [hW]; exact bl_alloc (Below.refl _ _) _
 have HB : Hid (Blk W g 126 #[.int .i64 k, .int .i64 a]) := qH (by rw [hW, hg]; exact Blk.new _ _ _)
 have HW := qH hW
 have HG := qH hg
 clear hW hg
 go_enter Tryz.func134, Tryz.ntmps134
 go_upto_region 1 with fail
 rw [← HW.out, ← HG.out]
 clear HW HG
 go_wp2_with (refine wpList_load_row rfl 126 _ rfl g rfl 126 _ (0, 0) _ HB.out Tryz.underlying126 rfl (by kernel_rfl) ?_)
 refine (HVV.out _).mono ?_
 rintro e W1 ⟨rfl, hb⟩
 replace HB := qH (HB.out.below hb)
 replace hv := bl_trans hv hb
 clear hb HVV
 cases b
 · go_wp2_with fail
   go_returns
   exact Ret.mk (vs (by rw [HTX.out]; rfl)) hv
 obtain ⟨h1, h5, h0, ha, hb⟩ := HBD.out rfl
 obtain ⟨j, hj⟩ : ∃ j : Nat, k = (j : Int) := ⟨k.toNat, by omega⟩
 have hj0 : (0 : Int) ≤ (j : Int) := by omega
 have hj6 : (j : Int) < 6 := by omega
 have k0 : W1.cell? ⟨g, 0, none⟩ = some (.int .i64 (j : Int)) := by rw [← hj]; exact HB.out.cell 0
 have k1 : W1.cell? ⟨g, 1, none⟩ = some (.int .i64 a) := HB.out.cell 1
 have n0 : W1.cell? ⟨1, j, none⟩ = some (.string (chW k)) := by rw [hj]; exact (HN.out.below hv) j (by omega)
 have HT1 := qH (HT.out.below hv)
 have D1 := qH (fun w h => DecimalI_c a (by omega) (by omega) w h)
 have z1 := chW_size k
 have z2 := dec21 (v := a) (by omega) (by omega)
 obtain ⟨d, hd⟩ : ∃ z, z = decI a := ⟨_, rfl⟩
 obtain ⟨nm, hnm⟩ : ∃ z, z = chW k := ⟨_, rfl⟩
 rw [← hd] at D1 HTX z2
 rw [← hnm] at n0 HTX z1
 have l1 : (⟨#[32, 43]⟩ : ByteArray).size = 2 := rfl
 have l2 : (⟨#[32]⟩ : ByteArray).size = 1 := rfl
 have s1 := fun (w : World) => run_string_add_sum (P := Tryz.prog) w nm ⟨#[32, 43]⟩ (by omega)
 have s2 := fun (w : World) => run_string_add_sum (P := Tryz.prog) w nm ⟨#[32]⟩ (by omega)
 have s3 := fun (w : World) => run_string_add_sum (P := Tryz.prog) w (nm ++ ⟨#[32, 43]⟩) d (by simp only [app_size]; omega)
 have s4 := fun (w : World) => run_string_add_sum (P := Tryz.prog) w (nm ++ ⟨#[32]⟩) d (by simp only [app_size]; omega)
 clear hd hnm z1 z2 l1 l2 HB hj HBD h1 h5 ha hb
 by_cases hp : 0 < a
 · skip
   have HE := qH (show chT k a = (nm ++ ⟨#[32, 43]⟩) ++ d by rw [HTX.out]; simp [hp])
   go_upto_region 4 with fail
   refine wp_region_held_drew (S := fun w' => Below W1.heap.size W1 w' ∧ True) (by as_aux_lemma => kernel_rfl) ?_ (fun hHeld => ?_)
   · exact ⟨(Below.refl _ _).drew, trivial⟩
   have hd9 := hHeld.1
   refine zU 0 11 rfl (by assumption) ?_
   try simp only [Act.put, zA, zB, zC]
   refine zT 1 12 ?_ rfl ?_ (by assumption) ?_
   rotate_left
   · intro w hSw
     try dsimp only at hSw
     have x_k0 := bl_cell hSw.1 k0
     go_simp
     try with_reducible rfl
   try simp only [Act.put, zA, zB, zC]
   refine zU 2 13 rfl (by assumption) ?_
   try simp only [Act.put, zA, zB, zC]
   refine zT 3 14 ?_ rfl ?_ (by assumption) ?_
   rotate_left
   · intro w hSw
     try dsimp only at hSw
     have x_n0 := bl_cell hSw.1 n0
     go_simp
     try with_reducible rfl
   try simp only [Act.put, zA, zB, zC]
   refine zU 4 15 rfl (by assumption) ?_
   try simp only [Act.put, zA, zB, zC]
   refine zU 5 16 rfl (by assumption) ?_
   try simp only [Act.put, zA, zB, zC]
   refine zT 6 17 ?_ rfl ?_ (by assumption) ?_
   rotate_left
   · intro w hSw
     try dsimp only at hSw
     have x_k1 := bl_cell hSw.1 k1
     go_simp
     try with_reducible rfl
   try simp only [Act.put, zA, zB, zC]
   refine zR 7 (some 18) rfl (fun K hK => ?_)
   go_simp
   (try dsimp only at hHeld); go_split_ands
   refine (D1.out _ (HT1.out.below hd9)).mono ?_
   rintro e V1 ⟨rfl, hb9⟩
   replace hd9 := bl_trans hd9 hb9
   clear hb9
   go_wp2_with fail
   refine hK.out _ _ ?_ (fun hHeld => ?_)
   · (try dsimp only); go_split_ands; exact ⟨hd9, trivial⟩
   clear hK K
   try simp only [Act.put, zA, zB, zC]
   refine zU 8 19 rfl (by assumption) ?_
   try simp only [Act.put, zA, zB, zC]
   refine zU 9 2 rfl (by assumption) ?_
   try simp only [Act.put, zA, zB, zC]
   refine wpAnyH_done (by as_aux_lemma => kernel_rfl) ?_ _
   clear hHeld
   replace hv := bl_trans hv hd9
   go_wp2_with fail
   go_returns
   exact Ret.mk (vs HE.out.symm) hv
 · skip
   have HE := qH (show chT k a = (nm ++ ⟨#[32]⟩) ++ d by rw [HTX.out]; simp [hp])
   go_upto_region 5 with fail
   refine wp_region_held_drew (S := fun w' => Below W1.heap.size W1 w' ∧ True) (by as_aux_lemma => kernel_rfl) ?_ (fun hHeld => ?_)
   · exact ⟨(Below.refl _ _).drew, trivial⟩
   have hd9 := hHeld.1
   refine zU 0 20 rfl (by assumption) ?_
   try simp only [Act.put, zA, zB, zC]
   refine zT 1 21 ?_ rfl ?_ (by assumption) ?_
   rotate_left
   · intro w hSw
     try dsimp only at hSw
     have x_k0 := bl_cell hSw.1 k0
     go_simp
     try with_reducible rfl
   try simp only [Act.put, zA, zB, zC]
   refine zU 2 22 rfl (by assumption) ?_
   try simp only [Act.put, zA, zB, zC]
   refine zT 3 23 ?_ rfl ?_ (by assumption) ?_
   rotate_left
   · intro w hSw
     try dsimp only at hSw
     have x_n0 := bl_cell hSw.1 n0
     go_simp
     try with_reducible rfl
   try simp only [Act.put, zA, zB, zC]
   refine zU 4 24 rfl (by assumption) ?_
   try simp only [Act.put, zA, zB, zC]
   refine zU 5 25 rfl (by assumption) ?_
   try simp only [Act.put, zA, zB, zC]
   refine zT 6 26 ?_ rfl ?_ (by assumption) ?_
   rotate_left
   · intro w hSw
     try dsimp only at hSw
     have x_k1 := bl_cell hSw.1 k1
     go_simp
     try with_reducible rfl
   try simp only [Act.put, zA, zB, zC]
   refine zR 7 (some 27) rfl (fun K hK => ?_)
   go_simp
   (try dsimp only at hHeld); go_split_ands
   refine (D1.out _ (HT1.out.below hd9)).mono ?_
   rintro e V1 ⟨rfl, hb9⟩
   replace hd9 := bl_trans hd9 hb9
   clear hb9
   go_wp2_with fail
   refine hK.out _ _ ?_ (fun hHeld => ?_)
   · (try dsimp only); go_split_ands; exact ⟨hd9, trivial⟩
   clear hK K
   try simp only [Act.put, zA, zB, zC]
   refine zU 8 28 rfl (by assumption) ?_
   try simp only [Act.put, zA, zB, zC]
   refine zU 9 2 rfl (by assumption) ?_
   try simp only [Act.put, zA, zB, zC]
   refine wpAnyH_done (by as_aux_lemma => kernel_rfl) ?_ _
   clear hHeld
   replace hv := bl_trans hv hd9
   go_wp2_with fail
   go_returns
   exact Ret.mk (vs HE.out.symm) hv
theorem outFo_none {s : ByteArray} (h : rdFo s = none) : outFo (rdFo s) = #[.agg #[.int .i64 0, .int .i64 0, .int .i64 0, .int .i64 0], .bool false] := by rw [h]; rfl
theorem outFo_some {s : ByteArray} {f : Foot} (h : rdFo s = some f) : outFo (rdFo s) = #[.agg #[.int .i64 f.length, .int .i64 f.ball, .int .i64 f.instep, .int .i64 f.heel], .bool true] := by rw [h]; rfl
theorem four4_of {L : List ByteArray} (h : L.length = 4) : ∃ a b c d, L = [a, b, c, d] := by
 match L, h with
 | [a, b, c, d], _ => exact ⟨a, b, c, d, rfl⟩
set_option maxRecDepth 100000 in
set_option maxHeartbeats 4000000 in
theorem ReadFoot_c (s : ByteArray) (hs : s.size ≤ 4194304) (w : World) (hT : Tabs w) : Calls Tryz.prog 70 #[.string s] w (RetT (outFo (rdFo s)) w) := by
 have HT := qH hT
 have HRN := qH (fun w h => readNumbers_c s hs w h)
 clear hT
 obtain ⟨W, hW⟩ : ∃ z, z = w.alloc (Obj.cells #[.int .i64 0, .int .i64 0, .int .i64 0, .int .i64 0] 27) := ⟨_, rfl⟩
 obtain ⟨g, hg⟩ : ∃ z, z = w.heap.size := ⟨_, rfl⟩
 have hv : Below w.heap.size w W := by rw [hW]; exact bl_alloc (Below.refl _ _) _
 have HB : Hid (Blk W g 27 #[.int .i64 0, .int .i64 0, .int .i64 0, .int .i64 0]) := qH (by rw [hW, hg]; exact Blk.new _ _ _)
 have hgw : w.heap.size ≤ g := by omega
 have HW := qH hW
 have HG := qH hg
 clear hW hg
 go_enter Tryz.func70, Tryz.ntmps70
 go_upto_region 1 with fail
 rw [← HW.out, ← HG.out]
 clear HW HG
 go_wp2_with fail
 refine (HRN.out _ (HT.out.below hv)).mono ?_
 rintro e W1 ⟨A, m, c, ok, rfl, hok, hA, hb⟩
 replace HB := qH (HB.out.below hb)
 replace hv := bl_trans hv hb
 clear hb
 have HA := qH hA
 clear hA HRN
 cases ok
 case false =>
   have HR := qH (outFo_none (s := s) (by
     by_cases h4 : (splC 47 s).length = 4
     · obtain ⟨a, b, c', d, hL⟩ := four4_of h4
       rw [h4, decide_eq_true rfl, Bool.true_and, hL] at hok
       have h2 : (okB a && okB b && okB c' && okB d) = false := by rw [hok]; simp [allB, Bool.and_assoc]
       rw [rdFo_four hL, h2]
       rfl
     · exact rdFo_short h4))
   clear hok HA
   go_wp2_with (refine wpList_store_row rfl 27 _ _ rfl g #[.int .i64 0, .int .i64 0, .int .i64 0, .int .i64 0] rfl rfl 27 _ HB.out (by kernel_rfl) rfl (by simp [Value.oneCell']) ?_)
   have hF : Blk (World.setRow W1 g #[Value.int .i64 0, Value.int .i64 0, Value.int .i64 0, Value.int .i64 0]) g 27 #[.int .i64 0, .int .i64 0, .int .i64 0, .int .i64 0] := setRow_heap _ _ _ _ _ _ HB.out
   have hbF := below_rowL hv hgw #[Value.int .i64 0, Value.int .i64 0, Value.int .i64 0, Value.int .i64 0]
   obtain ⟨WF, hWF⟩ : ∃ z, z = World.setRow W1 g #[Value.int .i64 0, Value.int .i64 0, Value.int .i64 0, Value.int .i64 0] := ⟨_, rfl⟩
   rw [← hWF] at hF hbF ⊢
   clear hWF
   obtain ⟨m0, m1, m2, m3⟩ := qC4 hF
   go_wp2_with fail
   try simp only [Exit.inBlock, Exit.then]
   refine bodyPost_ret (v := .tuple #[.agg #[.int .i64 0, .int .i64 0, .int .i64 0, .int .i64 0], .bool false]) (by simp [results, Tryz.results70, go_sem, m0, m1, m2, m3]) rfl ?_
   exact RetT.mk (HR.out).symm hbF
 case true =>
 have h4 : (splC 47 s).length = 4 ∧ allB (splC 47 s) = true := by
   have h := hok.symm
   rw [Bool.and_eq_true, decide_eq_true_eq] at h
   exact h
 obtain ⟨rfl, hA4⟩ := HA.out rfl
 obtain ⟨a, b, c', d, hL⟩ := four4_of h4.1
 have hall := h4.2
 rw [hL] at hall hA4
 have hk : okB a = true ∧ okB b = true ∧ okB c' = true ∧ okB d = true := by
   simp [allB] at hall
   exact hall
 obtain ⟨ka, kb, kc, kd⟩ := hk
 have HE := qH (ftB_mk hL ka kb kc kd)
 have HR4 := qH (rdFo_four hL)
 have HKK := qH (show (okB a && okB b && okB c' && okB d) = true by rw [ka, kb, kc, kd]; rfl)
 have HA4 : Hid (Arr W1 A (flat icell [numV a, numV b, numV c', numV d])) := qH hA4
 obtain ⟨f, hf⟩ : ∃ z, z = mkF a b c' d := ⟨_, rfl⟩
 have HOF := qH (fun w h => footOf_c A (numV a) (numV b) (numV c') (numV d) c w h)
 have HOF2 : Hid (∀ w, Arr w A (flat icell [numV a, numV b, numV c', numV d]) → Calls Tryz.prog 26 #[.slice A 4 c] w (Ret (.agg #[.int .i64 f.length, .int .i64 f.ball, .int .i64 f.instep, .int .i64 f.heel]) w)) := qH (by rw [hf]; exact HOF.out)
 rw [← hf] at HE HR4
 have HFT := qH (fun w h => FootTextB_c f w h)
 obtain ⟨u, hu⟩ : ∃ z, z = ftB f := ⟨_, rfl⟩
 rw [← hu] at HE HFT
 have hbb : (u.toList == s.toList) = footB f := by rw [bytes_beq]; exact HE.out
 clear HOF HA hok h4 hL hall hA4 ka kb kc kd hf hu HE
 go_wp2_with fail
 refine (HOF2.out _ HA4.out).mono ?_
 rintro e W2 ⟨rfl, hb⟩
 replace HA4 := qH (HA4.out.below hb)
 replace HB := qH (HB.out.below hb)
 replace hv := bl_trans hv hb
 clear hb
 go_wp2_with fail
 refine (HFT.out _ (HT.out.below hv)).mono ?_
 rintro e W3 ⟨rfl, hb⟩
 replace HA4 := qH (HA4.out.below hb)
 replace HB := qH (HB.out.below hb)
 replace hv := bl_trans hv hb
 clear hb
 cases hq : footB f
 · have HR := qH (outFo_none (s := s) (by rw [HR4.out, HKK.out, hq]; rfl))
   rw [hq] at hbb
   clear hq
   go_wp2_with (refine wpList_store_row rfl 27 _ _ rfl g #[.int .i64 0, .int .i64 0, .int .i64 0, .int .i64 0] rfl rfl 27 _ HB.out (by kernel_rfl) rfl (by simp [Value.oneCell']) ?_)
   have hF : Blk (World.setRow W3 g #[Value.int .i64 0, Value.int .i64 0, Value.int .i64 0, Value.int .i64 0]) g 27 #[.int .i64 0, .int .i64 0, .int .i64 0, .int .i64 0] := setRow_heap _ _ _ _ _ _ HB.out
   have hbF := below_rowL hv hgw #[Value.int .i64 0, Value.int .i64 0, Value.int .i64 0, Value.int .i64 0]
   obtain ⟨WF, hWF⟩ : ∃ z, z = World.setRow W3 g #[Value.int .i64 0, Value.int .i64 0, Value.int .i64 0, Value.int .i64 0] := ⟨_, rfl⟩
   rw [← hWF] at hF hbF ⊢
   clear hWF
   obtain ⟨m0, m1, m2, m3⟩ := qC4 hF
   go_wp2_with fail
   try simp only [Exit.inBlock, Exit.then]
   refine bodyPost_ret (v := .tuple #[.agg #[.int .i64 0, .int .i64 0, .int .i64 0, .int .i64 0], .bool false]) (by simp [results, Tryz.results70, go_sem, m0, m1, m2, m3]) rfl ?_
   exact RetT.mk (HR.out).symm hbF
 have HR := qH (outFo_some (s := s) (f := f) (by rw [HR4.out, HKK.out, hq]; rfl))
 rw [hq] at hbb
 clear hq
 go_wp2_with fail
 refine (HOF2.out _ HA4.out).mono ?_
 rintro e W4 ⟨rfl, hb⟩
 replace HB := qH (HB.out.below hb)
 replace hv := bl_trans hv hb
 clear hb
 go_wp2_with (refine wpList_store_row rfl 27 _ _ rfl g #[.int .i64 f.length, .int .i64 f.ball, .int .i64 f.instep, .int .i64 f.heel] rfl rfl 27 _ HB.out (by kernel_rfl) rfl (by simp [Value.oneCell']) ?_)
 have hF : Blk (World.setRow W4 g #[Value.int .i64 f.length, Value.int .i64 f.ball, Value.int .i64 f.instep, Value.int .i64 f.heel]) g 27 #[.int .i64 f.length, .int .i64 f.ball, .int .i64 f.instep, .int .i64 f.heel] := setRow_heap _ _ _ _ _ _ HB.out
 have hbF := below_rowL hv hgw #[Value.int .i64 f.length, Value.int .i64 f.ball, Value.int .i64 f.instep, Value.int .i64 f.heel]
 obtain ⟨WF, hWF⟩ : ∃ z, z = World.setRow W4 g #[Value.int .i64 f.length, Value.int .i64 f.ball, Value.int .i64 f.instep, Value.int .i64 f.heel] := ⟨_, rfl⟩
 rw [← hWF] at hF hbF ⊢
 clear hWF
 obtain ⟨m0, m1, m2, m3⟩ := qC4 hF
 go_wp2_with fail
 try simp only [Exit.inBlock, Exit.then]
 refine bodyPost_ret (v := .tuple #[.agg #[.int .i64 f.length, .int .i64 f.ball, .int .i64 f.instep, .int .i64 f.heel], .bool true]) (by simp [results, Tryz.results70, go_sem, m0, m1, m2, m3]) rfl ?_
 exact RetT.mk (HR.out).symm hbF
theorem index32 : ∀ (a b : List UInt8), (32 : UInt8) ∉ a → Lib.index (a ++ 32 :: b) [32] = a.length
 | [], b, _ => by rw [List.nil_append, Lib.index]; simp [List.isPrefixOf]
 | c :: r, b, h => by
   simp only [List.mem_cons, not_or] at h
   have ih := index32 r b h.2
   have hp : ([32] : List UInt8).isPrefixOf (c :: (r ++ 32 :: b)) = false := by simp [List.isPrefixOf, h.1]
   rw [List.cons_append, Lib.index, hp, ih]
   simp <;> omega
theorem cut32 {a b : List UInt8} (h : (32 : UInt8) ∉ a) : Lib.cut (a ++ 32 :: b) [32] = (a, b, true) := by
 unfold Lib.cut
 rw [index32 a b h, if_pos (by omega)]
 simp
def chA (s : ByteArray) : ByteArray := ⟨(Lib.cut s.data.toList [32]).1.toArray⟩
def chB2 (s : ByteArray) : ByteArray := ⟨(Lib.cut s.data.toList [32]).2.1.toArray⟩
def chR (s : ByteArray) : ByteArray := ⟨(Lib.trimPrefix (chB2 s).data.toList [43]).toArray⟩
def namesC : List ByteArray := [chW 0, chW 1, chW 2, chW 3, chW 4, chW 5]
def chI (s : ByteArray) : Int := Lib.idxOfS namesC (chA s)
theorem idx_chW {k : Int} (h1 : 1 ≤ k) (h5 : k ≤ 5) : Lib.idxOfS namesC (chW k) = k := by
 rcases (show k = 1 ∨ k = 2 ∨ k = 3 ∨ k = 4 ∨ k = 5 by omega) with rfl | rfl | rfl | rfl | rfl <;> decide
theorem rdCh_cut {s : ByteArray} {k a : Int} (h : rdCh s = some (k, a)) : chI s = k ∧ okB (chR s) = true ∧ numV (chR s) = a ∧ chT k a = s := by
 obtain ⟨ht, hc⟩ := rdCh_some h
 obtain ⟨h1, h5, h0, hl, hu⟩ := chgB_bd hc
 have hd := chT_data hc
 rw [ht] at hd
 have hd2 : s.data.toList = (chW k).data.toList ++ 32 :: ((if 0 < a then 43 else 45) :: Lib.itoa a.natAbs) := by rw [hd]; simp [List.intercalate]
 have hcut := cut32 (b := ((if 0 < a then 43 else 45) :: Lib.itoa a.natAbs)) (chW_free k)
 rw [← hd2] at hcut
 have hA : chA s = chW k := by unfold chA; rw [hcut]
 have hB : (chB2 s).data.toList = (if 0 < a then 43 else 45) :: Lib.itoa a.natAbs := by unfold chB2; rw [hcut]
 have hR : (chR s).data.toList = Lib.itoa a := by
   unfold chR
   rw [hB]
   by_cases hp : 0 < a
   · rw [if_pos hp]
     have : ((a.natAbs : Nat) : Int) = a := by omega
     simp [Lib.trimPrefix, Lib.hasPrefix, this]
   · rw [if_neg hp]
     have e : a = -((a.natAbs : Nat) : Int) := by omega
     have h2 := itoa_negC (n := ((a.natAbs : Nat) : Int)) (by omega)
     rw [if_neg (by omega), ← e] at h2
     rw [h2]
     simp [Lib.trimPrefix, Lib.hasPrefix]
 have hok : okB (chR s) = true := by unfold okB; rw [hR]; exact okN_itoa (by omega) (by omega)
 refine ⟨by unfold chI; rw [hA]; exact idx_chW h1 h5, hok, ?_, ht⟩
 rw [numV_yes hok, hR]
 exact (itoa_bare a).2
theorem rdCh_prog (s : ByteArray) : rdCh s = if (okB (chR s) && decide (chT (chI s) (numV (chR s)) = s)) = true then some (chI s, numV (chR s)) else none := by
 by_cases hc : (okB (chR s) && decide (chT (chI s) (numV (chR s)) = s)) = true
 · rw [if_pos hc]
   simp only [Bool.and_eq_true, decide_eq_true_eq] at hc
   obtain ⟨h1, h2⟩ := hc
   cases hg : chgB (chI s) (numV (chR s))
   · exfalso
     have e : chT (chI s) (numV (chR s)) = ⟨#[]⟩ := by unfold chT; rw [if_neg (by simp [hg])]
     rw [e] at h2
     rw [← h2] at h1
     revert h1
     decide
   · have h3 := rdCh_text hg
     rw [h2] at h3
     exact h3
 · rw [if_neg hc]
   cases hr : rdCh s with
   | none => rfl
   | some p =>
     exfalso
     obtain ⟨k, a⟩ := p
     obtain ⟨h1, h2, h3, h4⟩ := rdCh_cut hr
     apply hc
     rw [h1, h2, h3, h4]
     simp
def outCh (o : Option (Int × Int)) : Array Value := #[.agg #[.int .i64 (o.getD (0, 0)).1, .int .i64 (o.getD (0, 0)).2], .bool o.isSome]
theorem IndexC_c (p : ByteArray) (w : World) (hN : ChgN w) : Calls Tryz.prog 64 #[.slice (some ⟨1, 0, none⟩) 6 6, .string p] w (RetQ (.int .i64 (Lib.idxOfS namesC p)) w) := by
 have h := Tryz.slices_Index_string 1 0 6 6 namesC p w (by simp [namesC]) (by omega) (by
   intro j hj
   have hj6 : j ≤ 5 := by simp [namesC] at hj; omega
   rw [Nat.zero_add, hN j hj6]
   rcases (show j = 0 ∨ j = 1 ∨ j = 2 ∨ j = 3 ∨ j = 4 ∨ j = 5 by omega) with rfl | rfl | rfl | rfl | rfl | rfl <;> rfl)
 rw [show namesC.take 6 = namesC from rfl] at h
 exact h
theorem chR_size (s : ByteArray) : (chR s).size ≤ s.size := by
 have h1 : (chB2 s).data.toList.length ≤ s.data.toList.length := by
   unfold chB2 Lib.cut
   split
   · simp only [List.length_drop]; omega
   · simp
 have h2 : (chR s).data.toList.length ≤ (chB2 s).data.toList.length := by
   unfold chR Lib.trimPrefix
   split
   · simp
   · simp
 rw [bytes_len, bytes_len] at *
 omega
set_option maxRecDepth 100000 in
set_option maxHeartbeats 4000000 in
theorem ReadChange_c (s : ByteArray) (hs : s.size ≤ 4194304) (w : World) (hT : Tabs w) (hN : ChgN w) : Calls Tryz.prog 79 #[.string s] w (RetT (outCh (rdCh s)) w) := by
 have HT := qH hT
 have HN := qH hN
 have HP := rdCh_prog s
 have hrz := chR_size s
 have HTR : ∀ w, Calls Tryz.prog 66 #[.string (chB2 s), .string ⟨#[43]⟩] w fun e w' => e = .returned (.string (chR s)) ∧ w' = w := fun w => Tryz.strings_TrimPrefix (chB2 s) ⟨#[43]⟩ w
 have HCU : ∀ w, Tabs w → Calls Tryz.prog 133 #[.string s, .string ⟨#[32]⟩] w fun e w' => ∃ b : Bool, e = .returned (.tuple #[.string (chA s), .string (chB2 s), .bool b]) ∧ Below w.heap.size w w' := fun w h => by
   obtain ⟨m, hm⟩ := h.len
   refine (Tryz.strings_Cut s ⟨#[32]⟩ m w (by omega) hm).mono ?_
   rintro e w' ⟨rfl, n, rfl⟩
   exact ⟨_, rfl, below_drewN (Below.refl _ _) n⟩
 have HIX : ∀ w, ChgN w → Calls Tryz.prog 64 #[.slice (some ⟨1, 0, none⟩) 6 6, .string (chA s)] w (RetQ (.int .i64 (chI s)) w) := fun w h => IndexC_c (chA s) w h
 obtain ⟨ka, hka⟩ : ∃ z, z = chA s := ⟨_, rfl⟩
 obtain ⟨am, ham⟩ : ∃ z, z = chB2 s := ⟨_, rfl⟩
 obtain ⟨tr, htr⟩ : ∃ z, z = chR s := ⟨_, rfl⟩
 obtain ⟨k, hk⟩ : ∃ z, z = chI s := ⟨_, rfl⟩
 rw [← hka, ← ham] at HCU
 rw [← ham, ← htr] at HTR
 rw [← hka, ← hk] at HIX
 rw [← hk, ← htr] at HP
 rw [← htr] at hrz
 have hrd := fun w h => ReadDecimal_c tr (by omega) w h
 change ∀ w, Tabs w → Calls Tryz.prog 33 #[.string tr] w (RetT #[.int .i64 (numV tr), .bool (okB tr)] w) at hrd
 obtain ⟨n, hn⟩ : ∃ z, z = numV tr := ⟨_, rfl⟩
 obtain ⟨b, hb⟩ : ∃ z, z = okB tr := ⟨_, rfl⟩
 rw [← hn, ← hb] at hrd HP
 have HCT := fun w h h2 => ChangeText_c k n w h h2
 obtain ⟨u, hu⟩ : ∃ z, z = chT k n := ⟨_, rfl⟩
 rw [← hu] at HP HCT
 obtain ⟨q, hq⟩ : ∃ z, z = decide (u = s) := ⟨_, rfl⟩
 rw [← hq] at HP
 have hbb : (u.toList == s.toList) = q := by rw [hq]; exact bytes_beq _ _
 replace HP := qH HP
 replace HTR := qH HTR
 replace HCU := qH HCU
 replace HIX := qH HIX
 have HRD := qH hrd
 replace HCT := qH HCT
 clear hka ham htr hk hn hb hu hq hrd hrz hT hN
 obtain ⟨W, hW⟩ : ∃ z, z = w.alloc (Obj.cells #[.int .i64 0, .int .i64 0] 126) := ⟨_, rfl⟩
 obtain ⟨g, hg⟩ : ∃ z, z = w.heap.size := ⟨_, rfl⟩
 have hv : Below w.heap.size w W := by rw [hW]; exact bl_alloc (Below.refl _ _) _
 have HB : Hid (Blk W g 126 #[.int .i64 0, .int .i64 0]) := qH (by rw [hW, hg]; exact Blk.new _ _ _)
 have hgw : w.heap.size ≤ g := by omega
 have HW := qH hW
 have HG := qH hg
 clear hW hg
 go_enter Tryz.func79, Tryz.ntmps79
 go_upto_region 1 with fail
 rw [← HW.out, ← HG.out]
 clear HW HG
 go_wp2_with fail
 refine (HCU.out _ (HT.out.below hv)).mono ?_
 rintro e W1 ⟨b9, rfl, hb⟩
 replace HB := qH (HB.out.below hb)
 replace hv := bl_trans hv hb
 clear hb HCU
 go_wp2_with fail
 refine (HTR.out _).mono ?_
 rintro e w' ⟨rfl, hq⟩
 rw [hq]
 clear hq w' HTR
 go_wp2_with fail
 refine (HRD.out _ (HT.out.below hv)).mono ?_
 rintro e W2 ⟨rfl, hb⟩
 replace HB := qH (HB.out.below hb)
 replace hv := bl_trans hv hb
 clear hb HRD
 go_wp2_with fail
 refine (HIX.out _ (HN.out.below hv)).mono ?_
 rintro e w' ⟨rfl, hq⟩
 rw [hq]
 clear hq w' HIX
 go_upto_region 4 with fail
 obtain ⟨W3, hWn⟩ : ∃ q9, q9 = World.alloc W2 (Obj.cells #[.int .i64 k, .int .i64 n] 126) := ⟨_, rfl⟩
 obtain ⟨gd, hgn⟩ : ∃ q9, q9 = W2.heap.size := ⟨_, rfl⟩
 have hb : Below W2.heap.size W2 W3 := by rw [hWn]; exact bl_alloc (Below.refl _ _) _
 have HD : Hid (Blk W3 gd 126 #[.int .i64 k, .int .i64 n]) := qH (by rw [hWn, hgn]; exact Blk.new _ _ _)
 rw [← hWn, ← hgn]
 clear hWn hgn
 replace HB := qH (HB.out.below hb)
 replace hv := bl_trans hv hb
 clear hb
 cases b
 case false =>
   have HR := qH (show outCh (rdCh s) = #[.agg #[.int .i64 0, .int .i64 0], .bool false] by rw [HP.out]; rfl)
   go_upto_if 34 with fail
   go_wp2_with (refine wpList_store_row rfl 126 _ _ rfl g #[.int .i64 0, .int .i64 0] rfl rfl 126 _ HB.out (by kernel_rfl) rfl (by simp [Value.oneCell']) ?_)
   have hF : Blk (World.setRow W3 g #[Value.int .i64 0, Value.int .i64 0]) g 126 #[.int .i64 0, .int .i64 0] := setRow_heap _ _ _ _ _ _ HB.out
   have hbF := below_rowL hv hgw #[Value.int .i64 0, Value.int .i64 0]
   obtain ⟨WF, hWF⟩ : ∃ z, z = World.setRow W3 g #[Value.int .i64 0, Value.int .i64 0] := ⟨_, rfl⟩
   rw [← hWF] at hF hbF ⊢
   clear hWF
   have m0 : WF.cell? ⟨g, 0, none⟩ = some (.int .i64 0) := hF.cell 0
   have m1 : WF.cell? ⟨g, 1, none⟩ = some (.int .i64 0) := hF.cell 1
   go_wp2_with fail
   try simp only [Exit.inBlock, Exit.then]
   refine bodyPost_ret (v := .tuple #[.agg #[.int .i64 0, .int .i64 0], .bool false]) (by simp [results, Tryz.results79, go_sem, m0, m1]) rfl ?_
   exact RetT.mk HR.out.symm hbF
 have k0 : W3.cell? ⟨gd, 0, none⟩ = some (.int .i64 k) := HD.out.cell 0
 have k1 : W3.cell? ⟨gd, 1, none⟩ = some (.int .i64 n) := HD.out.cell 1
 go_wp2_with fail
 refine (HCT.out _ (HT.out.below hv).pow (HN.out.below hv)).mono ?_
 rintro e W4 ⟨rfl, hb⟩
 clear k0 k1 HCT
 replace HB := qH (HB.out.below hb)
 replace HD := qH (HD.out.below hb)
 replace hv := bl_trans hv hb
 clear hb
 cases q
 case false =>
   have HR := qH (show outCh (rdCh s) = #[.agg #[.int .i64 0, .int .i64 0], .bool false] by rw [HP.out]; rfl)
   go_upto_if 34 with fail
   go_wp2_with (refine wpList_store_row rfl 126 _ _ rfl g #[.int .i64 0, .int .i64 0] rfl rfl 126 _ HB.out (by kernel_rfl) rfl (by simp [Value.oneCell']) ?_)
   have hF : Blk (World.setRow W4 g #[Value.int .i64 0, Value.int .i64 0]) g 126 #[.int .i64 0, .int .i64 0] := setRow_heap _ _ _ _ _ _ HB.out
   have hbF := below_rowL hv hgw #[Value.int .i64 0, Value.int .i64 0]
   obtain ⟨WF, hWF⟩ : ∃ z, z = World.setRow W4 g #[Value.int .i64 0, Value.int .i64 0] := ⟨_, rfl⟩
   rw [← hWF] at hF hbF ⊢
   clear hWF
   have m0 : WF.cell? ⟨g, 0, none⟩ = some (.int .i64 0) := hF.cell 0
   have m1 : WF.cell? ⟨g, 1, none⟩ = some (.int .i64 0) := hF.cell 1
   go_wp2_with fail
   try simp only [Exit.inBlock, Exit.then]
   refine bodyPost_ret (v := .tuple #[.agg #[.int .i64 0, .int .i64 0], .bool false]) (by simp [results, Tryz.results79, go_sem, m0, m1]) rfl ?_
   exact RetT.mk HR.out.symm hbF
 have HR := qH (show outCh (rdCh s) = #[.agg #[.int .i64 k, .int .i64 n], .bool true] by rw [HP.out]; rfl)
 go_wp2_with (first | (refine wpList_load_row rfl 126 _ rfl gd rfl 126 _ (0, 0) _ HD.out Tryz.underlying126 rfl (by kernel_rfl) ?_) | (refine wpList_store_row rfl 126 _ _ rfl g #[.int .i64 k, .int .i64 n] rfl rfl 126 _ HB.out (by kernel_rfl) rfl (by simp [Value.oneCell']) ?_))
 have hF : Blk (World.setRow W4 g #[Value.int .i64 k, Value.int .i64 n]) g 126 #[.int .i64 k, .int .i64 n] := setRow_heap _ _ _ _ _ _ HB.out
 have hbF := below_rowL hv hgw #[Value.int .i64 k, Value.int .i64 n]
 obtain ⟨WF, hWF⟩ : ∃ z, z = World.setRow W4 g #[Value.int .i64 k, Value.int .i64 n] := ⟨_, rfl⟩
 rw [← hWF] at hF hbF ⊢
 clear hWF
 have m0 : WF.cell? ⟨g, 0, none⟩ = some (.int .i64 k) := hF.cell 0
 have m1 : WF.cell? ⟨g, 1, none⟩ = some (.int .i64 n) := hF.cell 1
 go_wp2_with fail
 try simp only [Exit.inBlock, Exit.then]
 refine bodyPost_ret (v := .tuple #[.agg #[.int .i64 k, .int .i64 n], .bool true]) (by simp [results, Tryz.results79, go_sem, m0, m1]) rfl ?_
 exact RetT.mk HR.out.symm hbF
end Go.Proofs.YtpiehlfffjhoaaaGreatDoor
