/- Lemmas for the law on the console: the parts StyI, StyZ. -/
import Derived.Test.YtpiehlfffjhoaaaGreatDoorQ0
import Derived.Test.YtpiehlfffjhoaaaGreatDoorQ35
import Derived.Test.YtpiehlfffjhoaaaGreatDoorQ22
import Derived.Test.YtpiehlfffjhoaaaGreatDoorQ26
import Derived.Test.YtpiehlfffjhoaaaGreatDoorQ15
import Derived.Lib.IndexAny
namespace Go.Proofs.YtpiehlfffjhoaaaGreatDoor
open Go.RowKit
theorem infoStrI : (Tryz.prog.info? 9).map (fun i => (i.zero, i.size, i.bytes)) = some (some (.string ByteArray.empty), 1, 16) := by kernel_rfl
theorem outT_pos (x : Style) : 0 < (outT x).length := by
 unfold outT txts
 rw [List.flatMap_cons, opt_one (by unfold txt0; exact lit_pos _ _ (lit_pos _ _ (lit_pos _ _ (by decide))))]
 simp
theorem text_len {x : Style} (hx : styB x = true) : (Lib.join ((outT x).map (·.data.toList)) [59, 32]).length ≤ 300 := by
 have h := (text_reads hx).1
 unfold textS at h
 simpa [ByteArray.size, Lib.join] using h
theorem out_step {x : Style} {j : Nat} {R : ByteArray} (h : (txts x)[j]? = some R) : ((txts x).take (j + 1)).flatMap optT = ((txts x).take j).flatMap optT ++ optT R := by
 rw [take_at h, List.flatMap_append]; simp
set_option maxRecDepth 100000 in
set_option maxHeartbeats 8000000 in
theorem StyleText_c (x : Style) (hx : Hid (styB x = true)) (w : World) (hT : Tabs w) : Calls Tryz.prog 82 #[.agg #[.string x.upper, .string x.color, .string x.lining, .string x.sole, .int .i64 x.thick, .int .i64 x.heel, .int .i64 x.eyelets, .int .i64 x.density, .bool x.double]] w (Ret (.string (textS x)) w) := by
 obtain ⟨i0, hi0, hz0, hz1, hz2⟩ := info_parts (P := Tryz.prog) (e := 9) (z := .string ByteArray.empty) (size := 1) (bytes := 16) infoStrI
 have HT := qH hT
 clear hT
 have hsx : Hid (x.upper.size ≤ 4194304 ∧ x.color.size ≤ 4194304 ∧ x.lining.size ≤ 4194304 ∧ x.sole.size ≤ 4194304) := qH (by have h := (sty_small hx.out).1; omega)
 have V1 := fun w => ValidStyle_c x hsx w
 rw [hx.out] at V1
 replace V1 := qH V1
 have HCL := qH (fun t (ht : t ∈ styW) w h => clause_c x hx t ht w h)
 have HTX := qH (fun k h => clK_txt hx.out k h)
 have HLN := qH (text_len hx.out)
 obtain ⟨W, hW⟩ : ∃ W, W = w.alloc (Obj.cells #[.string x.upper, .string x.color, .string x.lining, .string x.sole, .int .i64 x.thick, .int .i64 x.heel, .int .i64 x.eyelets, .int .i64 x.density, .bool x.double] 30) := ⟨_, rfl⟩
 obtain ⟨gx, hgx⟩ : ∃ g, g = w.heap.size := ⟨_, rfl⟩
 have hv : Below w.heap.size w W := by rw [hW]; exact bl_alloc (Below.refl _ _) _
 have hX : Hid (Blk W gx 30 #[.string x.upper, .string x.color, .string x.lining, .string x.sole, .int .i64 x.thick, .int .i64 x.heel, .int .i64 x.eyelets, .int .i64 x.density, .bool x.double]) := qH (by rw [hW, hgx]; exact Blk.new _ _ _)
 have HW := qH hW
 have HGX := qH hgx
 clear hW hgx
 go_enter Tryz.func82, Tryz.ntmps82
 go_upto_region 1 with fail
 rw [← HW.out, ← HGX.out]
 clear HW HGX
 go_wp2_with (refine wpList_load_row rfl 30 _ rfl gx rfl 30 _ (0, 0) _ hX.out Tryz.underlying30 rfl (by kernel_rfl) ?_)
 refine (V1.out _).mono ?_
 rintro e W1 ⟨rfl, hb⟩
 replace hv := bl_trans hv hb
 replace hX := qH (hX.out.below hb)
 clear hb V1
 have hlx1 : gx < W1.heap.size := hX.out.lt
 go_wp2_with fail
 have hO0 := own_empty W1 w.heap.size 9 1 hv.size
 have hb := bl_alloc (Below.refl W1.heap.size W1) (.cells #[] 9)
 refine (StyleWords_c _).mono ?_
 rintro e W2 ⟨rfl, hq⟩
 obtain ⟨gw, hgw⟩ : ∃ z, z = (W1.alloc (.cells #[] 9)).heap.size := ⟨_, rfl⟩
 have HB : Hid (Blk W2 gw 9 (styW.map Value.string).toArray) := qH (by rw [hq, hgw]; exact Blk.new _ _ _)
 have hb2 : Below (W1.alloc (.cells #[] 9)).heap.size (W1.alloc (.cells #[] 9)) W2 := by rw [hq]; exact bl_alloc (Below.refl _ _) _
 rw [← hgw]
 have HO := qH (own_below hO0 hb2)
 have hgl : W1.heap.size < gw := by rw [hgw, World.size_alloc]; omega
 replace hX := qH ((hX.out.below hb).below hb2)
 replace hv := bl_trans (bl_trans hv hb) hb2
 have HR0 := qH (show ([] : List ByteArray) = ((txts x).take 0).flatMap optT from rfl)
 obtain ⟨g0, hg0⟩ : ∃ z, z = W1.heap.size := ⟨_, rfl⟩
 rw [← hg0] at HO hgl hlx1 ⊢
 clear hb hb2 hq hgw hO0 hg0
 go_wp2_with fail
 go_loopw [3, 13] (fun v i wr => ∃ (j k g1 c1 : Nat) (ou : List ByteArray), j ≤ 6 ∧ i = .int .i64 j ∧ v = .slice (some ⟨g1, 0, none⟩) k c1 ∧ k ≤ j ∧ g1 ≠ gw ∧ Hid (ou.length = k) ∧ Hid (ou = ((txts x).take j).flatMap optT) ∧ Hid (wr.ownsRow w.heap.size 9 1 (.slice (some ⟨g1, 0, none⟩) k c1) k (flat scell ou)) ∧ Hid (Blk wr gx 30 #[.string x.upper, .string x.color, .string x.lining, .string x.sole, .int .i64 x.thick, .int .i64 x.heel, .int .i64 x.eyelets, .int .i64 x.density, .bool x.double]) ∧ Hid (Blk wr gw 9 (styW.map Value.string).toArray) ∧ Below w.heap.size w wr ∧ gx < g1) (fun _ i _ => 6 - (intOf i).toNat)
 case atStart => exact ⟨0, 0, g0, 0, [], by omega, rfl, rfl, by omega, by omega, qH rfl, HR0, HO, hX, HB, hv, hlx1⟩
 case round =>
 clear HO hX HB hv HR0 hgl hlx1
 obtain ⟨j, k, g1, c1, ou, hj, rfl, rfl, hkj, hne, HU, HR, HO, hX, HB, hv, hgx1⟩ := hrel
 have hj0 : (0 : Int) ≤ (j : Int) := by omega
 by_cases hlt : j < 6
 case neg =>
   have hj6 : j = 6 := by omega
   subst hj6
   have hj1 : ¬ ((6 : Nat) : Int) < 6 := by omega
   have hou : ou = outT x := by rw [HR.out]; unfold outT; rw [List.take_of_length_le (by simp [txts])]
   subst hou
   have hk0 : 0 < k := by rw [← HU.out]; exact outT_pos x
   have hgl := own_lt HO.out g1 rfl
   have hcap : k ≤ c1 := by obtain ⟨_, _, e, h, _⟩ := own_form HO.out; injection e with _ _ e3; omega
   have hjn := Tryz.strings_Join g1 0 c1 (outT x) ⟨#[59, 32]⟩ wr (fun i y hy => by
     have hi : i < (outT x).length := (List.getElem?_eq_some_iff.1 hy).1
     have h0 := HO.out.cellAt i (by rw [Nat.mul_one, ← HU.out]; exact hi)
     rw [Nat.zero_add, h0]
     have := flat_get (f := scell) (s := 1) (fun _ => rfl) (outT x) i 0 y hy (by omega)
     rw [Nat.mul_one, Nat.add_zero] at this
     exact this) hgl (by rw [HU.out]; omega) (by rw [HU.out]; exact hcap) (Nat.le_trans HLN.out (by omega))
   rw [HU.out] at hjn
   have HJ := qH hjn
   clear hjn hk0 hcap hgl
   go_wp2_with fail
   refine HJ.out.mono ?_
   rintro e W3 ⟨rfl, hb3⟩
   go_wp2_with fail
   go_returns
   exact Ret.mk rfl (bl_trans hv hb3)
 case pos =>
 have hj1 : (j : Int) < 6 := by omega
 obtain ⟨t, ht, hk⟩ := styW_nth j hlt
 have c0 : wr.cell? ⟨gw, j, none⟩ = some (.string t) := (HB.out.cell j).trans (by simp [ht])
 have HC := fun w h => HCL.out t (List.mem_of_getElem? ht) w h
 have hR := HTX.out j hlt
 rw [hk] at HC
 obtain ⟨R, hRe⟩ : ∃ z, z = clK (j : Int) x := ⟨_, rfl⟩
 rw [← hRe] at HC hR
 replace HC := qH HC
 have HS := qH (out_step hR)
 clear ht hk hR hRe
 go_wp2_with (refine wpList_load_row rfl 30 _ rfl gx rfl 30 _ (0, 0) _ hX.out Tryz.underlying30 rfl (by kernel_rfl) ?_)
 refine (HC.out _ (HT.out.below hv)).mono ?_
 rintro e W3 ⟨rfl, hb⟩
 replace hv := bl_trans hv hb
 replace hX := qH (hX.out.below hb)
 replace HB := qH (HB.out.below hb)
 replace HO := qH (own_below HO.out hb)
 clear hb c0 HC
 have hE := empty_beq R
 by_cases h0 : R.size = 0
 · rw [decide_eq_true h0] at hE
   have HS2 := qH (show ou = ((txts x).take (j + 1)).flatMap optT by rw [HS.out, ← HR.out]; unfold optT; rw [if_pos h0, List.append_nil])
   clear h0 HS
   go_wp2_with fail
   exact ⟨⟨j + 1, k, g1, c1, ou, by omega, by go_num, rfl, by omega, hne, HU, HS2, HO, hX, HB, hv, hgx1⟩, by simp [intOf]; omega⟩
 · rw [decide_eq_false h0] at hE
   have HS2 := qH (show ou ++ [R] = ((txts x).take (j + 1)).flatMap optT by rw [HS.out, ← HR.out]; unfold optT; rw [if_neg h0])
   clear h0 HS
   go_wp2_with (at_builtin; refine app_fresh1 W3 #[.string R] rfl _ _ 24 9 rfl i0 _ 1 16 Tryz.underlying24 hi0 hz0 hz1 hz2 rfl (by omega) w.heap.size (some ⟨g1, 0, none⟩) k c1 _ rfl _ rfl rfl HO.out rfl (by simp [Value.oneCell']) (by unfold maxLen; omega) (by omega) hv.size ?_; intro g4 c4 W4 hown4 hg4 hf4)
   have hlw := HB.out.lt
   have hlx := hX.out.lt
   have hne4 : g4 ≠ gw ∧ gx < g4 := by
     rcases hf4 with e | e
     · simp only [Option.some.injEq, Addr.mk.injEq, and_true] at e; omega
     · omega
   have hX4 := hX.out.grown hg4 (by intro e; simp at e; omega)
   have HB4 := HB.out.grown hg4 (by intro e; simp at e; omega)
   have hv4 := bl_grown hv hg4 (fun k e => by simp at e; have := own_at HO.out g1 rfl; omega)
   exact ⟨⟨j + 1, k + 1, g4, c4, ou ++ [R], by omega, by go_num, rfl, by omega, hne4.1, qH (by rw [List.length_append, HU.out]; rfl), HS2, qH (by rw [flat_append, flat_one]; exact hown4), qH hX4, qH HB4, hv4, hne4.2⟩, by simp [intOf]; omega⟩
theorem split_one (s : ByteArray) : decide ((splC 59 s).length ≤ 1) = !decide (0 ≤ Lib.indexByte s.data.toList 59) := by
 rw [← Lib.contains_iff_indexByte]
 unfold splC
 rw [List.length_map, spl_len]
 by_cases h : (59 : UInt8) ∈ s.data.toList
 · have h1 := List.count_pos_iff.2 h
   rw [decide_eq_false (by omega), List.contains_iff_mem.2 h]; rfl
 · have h1 := List.count_eq_zero.2 h
   have h2 : s.data.toList.contains (59 : UInt8) = false := by
     rw [Bool.eq_false_iff]; intro hc; exact h (List.contains_iff_mem.1 hc)
   rw [h2, decide_eq_true (by omega)]; rfl
set_option maxRecDepth 100000 in
set_option maxHeartbeats 8000000 in
theorem ChangeStyle_c (x : Style) (hx : Hid (x.upper.size ≤ 4194304 ∧ x.color.size ≤ 4194304 ∧ x.lining.size ≤ 4194304 ∧ x.sole.size ≤ 4194304)) (s : ByteArray) (hs : s.size ≤ 1048576) (w : World) (hT : Tabs w) : Calls Tryz.prog 83 #[.agg #[.string x.upper, .string x.color, .string x.lining, .string x.sole, .int .i64 x.thick, .int .i64 x.heel, .int .i64 x.eyelets, .int .i64 x.density, .bool x.double], .string s] w (RetT #[.agg #[.string (chgS x s).upper, .string (chgS x s).color, .string (chgS x s).lining, .string (chgS x s).sole, .int .i64 (chgS x s).thick, .int .i64 (chgS x s).heel, .int .i64 (chgS x s).eyelets, .int .i64 (chgS x s).density, .bool (chgS x s).double], .int .i64 (chgC x s)] w) := by
 have HT := qH hT
 clear hT
 obtain ⟨W, hW⟩ : ∃ W, W = (w.alloc (Obj.cells #[.string x.upper, .string x.color, .string x.lining, .string x.sole, .int .i64 x.thick, .int .i64 x.heel, .int .i64 x.eyelets, .int .i64 x.density, .bool x.double] 30)).alloc (Obj.cells #[.string ⟨#[]⟩, .string ⟨#[]⟩, .string ⟨#[]⟩, .string ⟨#[]⟩, .int .i64 0, .int .i64 0, .int .i64 0, .int .i64 0, .bool false] 30) := ⟨_, rfl⟩
 obtain ⟨gx, hgx⟩ : ∃ g, g = w.heap.size := ⟨_, rfl⟩
 obtain ⟨gr, hgr⟩ : ∃ g, g = w.heap.size + 1 := ⟨_, rfl⟩
 have hv : Below w.heap.size w W := by rw [hW]; exact bl_alloc (bl_alloc (Below.refl _ _) _) _
 have hX : Hid (Blk W gx 30 #[.string x.upper, .string x.color, .string x.lining, .string x.sole, .int .i64 x.thick, .int .i64 x.heel, .int .i64 x.eyelets, .int .i64 x.density, .bool x.double]) := qH (by rw [hW, hgx]; exact (Blk.new _ _ _).alloc _)
 have hR : Hid (Blk W gr 30 #[.string ⟨#[]⟩, .string ⟨#[]⟩, .string ⟨#[]⟩, .string ⟨#[]⟩, .int .i64 0, .int .i64 0, .int .i64 0, .int .i64 0, .bool false]) := qH (by
   have h := Blk.new (w.alloc (Obj.cells #[.string x.upper, .string x.color, .string x.lining, .string x.sole, .int .i64 x.thick, .int .i64 x.heel, .int .i64 x.eyelets, .int .i64 x.density, .bool x.double] 30)) 30 #[Value.string ⟨#[]⟩, Value.string ⟨#[]⟩, Value.string ⟨#[]⟩, Value.string ⟨#[]⟩, Value.int .i64 0, Value.int .i64 0, Value.int .i64 0, Value.int .i64 0, Value.bool false]
   rw [World.size_alloc] at h
   rw [hW, hgr]; exact h)
 have hge : w.heap.size ≤ gr := by omega
 have HW := qH hW
 have HGX := qH hgx
 have HGR := qH hgr
 clear hW hgx hgr
 have HOK := fun w => ValidStyle_c x hx w
 obtain ⟨sb, hsb⟩ : ∃ z, z = styB x := ⟨_, rfl⟩
 rw [← hsb] at HOK
 replace HOK := qH HOK
 have HSB := qH hsb.symm
 clear hsb
 go_enter Tryz.func83, Tryz.ntmps83
 go_upto_region 1 with fail
 rw [← HW.out, ← HGR.out, ← HGX.out]
 clear HW HGR HGX
 go_wp2_with (refine wpList_load_row rfl 30 _ rfl gx rfl 30 _ (0, 0) _ hX.out Tryz.underlying30 rfl (by kernel_rfl) ?_)
 refine (HOK.out _).mono ?_
 rintro e W1 ⟨rfl, hb⟩
 replace hv := bl_trans hv hb
 replace hX := qH (hX.out.below hb)
 replace hR := qH (hR.out.below hb)
 clear hb HOK
 cases sb
 · have H1 := qH (show chgS x s = zeroS by unfold chgS; rw [HSB.out]; rfl)
   have H2 := qH (show chgC x s = 1 by unfold chgC; rw [HSB.out]; rfl)
   go_wp2_with (refine wpList_store_row rfl 30 _ _ rfl gr #[.string ⟨#[]⟩, .string ⟨#[]⟩, .string ⟨#[]⟩, .string ⟨#[]⟩, .int .i64 0, .int .i64 0, .int .i64 0, .int .i64 0, .bool false] rfl rfl 30 _ hR.out (by kernel_rfl) rfl (by simp [Value.oneCell']) ?_)
   refine bodyPost_ret (results_cell_row_tmp (P := Tryz.prog) rfl _ _ gr 30 #[Value.string ⟨#[]⟩, Value.string ⟨#[]⟩, Value.string ⟨#[]⟩, Value.string ⟨#[]⟩, Value.int .i64 0, Value.int .i64 0, Value.int .i64 0, Value.int .i64 0, Value.bool false] (0, 0) _ rfl ?_ Tryz.underlying30 rfl (by kernel_rfl)) rfl ?_
   · exact setRow_heap _ _ _ _ _ _ hR.out
   · exact RetT.mk (by rw [H1.out, H2.out]; rfl) (below_rowX hv hge _)
 have hok : okCl s = (!decide (0 ≤ Lib.indexByte s.data.toList 59) && decide (prob (wrds s) = 0)) := by unfold okCl; rw [split_one]
 have hpr : chgS x s = (if okCl s = true then setS x (wrds s) else zeroS) := by unfold chgS; rw [HSB.out]; rfl
 have hpc : chgC x s = (if okCl s = true then 0 else 7) := by unfold chgC; rw [HSB.out]; rfl
 have HSC := fun w => Tryz.strings_Contains_one s 59 w
 obtain ⟨cb, hcb⟩ : ∃ z, z = decide (0 ≤ Lib.indexByte s.data.toList 59) := ⟨_, rfl⟩
 rw [← hcb] at hok HSC
 replace HSC := qH HSC
 have HOKC := qH hok
 have HPR := qH hpr
 have HPC := qH hpc
 have HCP := qH (fun w h => clauseProblem_c s (by omega) w h)
 clear hcb hok hpr hpc HSB
 go_wp2_with fail
 refine (HSC.out _).mono ?_
 rintro e w' ⟨rfl, hq⟩
 rw [hq]
 clear hq w' HSC
 cases cb
 case true =>
   have hk : okCl s = false := by rw [HOKC.out]; rfl
   have H1 := qH (show chgS x s = zeroS by rw [HPR.out, hk]; rfl)
   have H2 := qH (show chgC x s = 7 by rw [HPC.out, hk]; rfl)
   clear hk
   go_wp2_with (refine wpList_store_row rfl 30 _ _ rfl gr #[.string ⟨#[]⟩, .string ⟨#[]⟩, .string ⟨#[]⟩, .string ⟨#[]⟩, .int .i64 0, .int .i64 0, .int .i64 0, .int .i64 0, .bool false] rfl rfl 30 _ hR.out (by kernel_rfl) rfl (by simp [Value.oneCell']) ?_)
   refine bodyPost_ret (results_cell_row_tmp (P := Tryz.prog) rfl _ _ gr 30 #[Value.string ⟨#[]⟩, Value.string ⟨#[]⟩, Value.string ⟨#[]⟩, Value.string ⟨#[]⟩, Value.int .i64 0, Value.int .i64 0, Value.int .i64 0, Value.int .i64 0, Value.bool false] (0, 0) _ rfl ?_ Tryz.underlying30 rfl (by kernel_rfl)) rfl ?_
   · exact setRow_heap _ _ _ _ _ _ hR.out
   · exact RetT.mk (by rw [H1.out, H2.out]; rfl) (below_rowX hv hge _)
 go_wp2_with fail
 refine (HCP.out _ (HT.out.below hv)).mono ?_
 rintro e W4 ⟨rfl, hb⟩
 replace hv := bl_trans hv hb
 replace hX := qH (hX.out.below hb)
 replace hR := qH (hR.out.below hb)
 clear hb HCP
 by_cases hp0 : prob (wrds s) = 0
 case neg =>
   have hpq : (prob (wrds s) != 0) = true := by rw [bne_iff_ne]; exact hp0
   have hk : okCl s = false := by rw [HOKC.out, decide_eq_false hp0, Bool.and_false]
   have H1 := qH (show chgS x s = zeroS by rw [HPR.out, hk]; rfl)
   have H2 := qH (show chgC x s = 7 by rw [HPC.out, hk]; rfl)
   clear hk hp0
   go_wp2_with (refine wpList_store_row rfl 30 _ _ rfl gr #[.string ⟨#[]⟩, .string ⟨#[]⟩, .string ⟨#[]⟩, .string ⟨#[]⟩, .int .i64 0, .int .i64 0, .int .i64 0, .int .i64 0, .bool false] rfl rfl 30 _ hR.out (by kernel_rfl) rfl (by simp [Value.oneCell']) ?_)
   refine bodyPost_ret (results_cell_row_tmp (P := Tryz.prog) rfl _ _ gr 30 #[Value.string ⟨#[]⟩, Value.string ⟨#[]⟩, Value.string ⟨#[]⟩, Value.string ⟨#[]⟩, Value.int .i64 0, Value.int .i64 0, Value.int .i64 0, Value.int .i64 0, Value.bool false] (0, 0) _ rfl ?_ Tryz.underlying30 rfl (by kernel_rfl)) rfl ?_
   · exact setRow_heap _ _ _ _ _ _ hR.out
   · exact RetT.mk (by rw [H1.out, H2.out]; rfl) (below_rowX hv hge _)
 have hpq : (prob (wrds s) != 0) = false := by rw [hp0]; rfl
 have hk : okCl s = true := by rw [HOKC.out, decide_eq_true hp0]; rfl
 have H1 := qH (show chgS x s = setS x (wrds s) by rw [HPR.out, hk]; rfl)
 have H2 := qH (show chgC x s = 0 by rw [HPC.out, hk]; rfl)
 have HWT := fun w h => with_c x s (by omega) (qH hp0) w h
 rw [← H1.out] at HWT
 replace HWT := qH HWT
 clear hk hp0
 obtain ⟨Y, hY⟩ : ∃ z, z = chgS x s := ⟨_, rfl⟩
 rw [← hY] at HWT
 have HY := qH hY.symm
 clear hY
 go_wp2_with (refine wpList_load_row rfl 30 _ rfl gx rfl 30 _ (0, 0) _ hX.out Tryz.underlying30 rfl (by kernel_rfl) ?_)
 refine (HWT.out _ (HT.out.below hv)).mono ?_
 rintro e W5 ⟨rfl, hb⟩
 replace hv := bl_trans hv hb
 replace hR := qH (hR.out.below hb)
 clear hb HWT
 go_wp2_with (refine wpList_store_row rfl 30 _ _ rfl gr #[.string Y.upper, .string Y.color, .string Y.lining, .string Y.sole, .int .i64 Y.thick, .int .i64 Y.heel, .int .i64 Y.eyelets, .int .i64 Y.density, .bool Y.double] rfl rfl 30 _ hR.out (by kernel_rfl) rfl (by simp [Value.oneCell']) ?_)
 refine bodyPost_ret (results_cell_row_tmp (P := Tryz.prog) rfl _ _ gr 30 #[Value.string Y.upper, Value.string Y.color, Value.string Y.lining, Value.string Y.sole, Value.int .i64 Y.thick, Value.int .i64 Y.heel, Value.int .i64 Y.eyelets, Value.int .i64 Y.density, Value.bool Y.double] (0, 0) _ rfl ?_ Tryz.underlying30 rfl (by kernel_rfl)) rfl ?_
 · exact setRow_heap _ _ _ _ _ _ hR.out
 · exact RetT.mk (by rw [HY.out, H2.out]; rfl) (below_rowX hv hge _)
end Go.Proofs.YtpiehlfffjhoaaaGreatDoor
