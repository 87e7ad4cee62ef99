/- Styles: ChangeStyle, the program's. builds (7 s). -/
import Derived.Test.YtihgjmhhpiobbaaDoorStyY
import Derived.Test.YtihgjmhhpiobbaaDoorStyC
import Derived.Lib.IndexAny
namespace Go.Proofs.YtihgjmhhpiobbaaDoor
open Go.RowKit

theorem split_one (s : ByteArray) : decide ((splC 59 s).length ≤ 1) = !decide (0 ≤ Lib.indexByte s.data.toList 59) := by
  rw [← Lib.contains_iff_indexByte]
  unfold splC
  rw [List.length_map, spl_len]
  by_cases h : (59 : UInt8) ∈ s.data.toList
  · have h1 := List.count_pos_iff.2 h
    rw [decide_eq_false (by omega), List.contains_iff_mem.2 h]; rfl
  · have h1 := List.count_eq_zero.2 h
    have h2 : s.data.toList.contains (59 : UInt8) = false := by
      rw [Bool.eq_false_iff]; intro hc; exact h (List.contains_iff_mem.1 hc)
    rw [h2, decide_eq_true (by omega)]; rfl
set_option maxRecDepth 100000 in
set_option maxHeartbeats 8000000 in
theorem ChangeStyle_c (x : Style) (hx : Hid (x.upper.size ≤ 4194304 ∧ x.color.size ≤ 4194304 ∧ x.lining.size ≤ 4194304 ∧ x.sole.size ≤ 4194304)) (s : ByteArray) (hs : s.size ≤ 1048576) (w : World) (hT : Tabs w) : Calls Tryd.prog 8 #[.agg #[.string x.upper, .string x.color, .string x.lining, .string x.sole, .int .i64 x.thick, .int .i64 x.heel, .int .i64 x.eyelets, .int .i64 x.density, .bool x.double], .string s] w (RetT #[.agg #[.string (chgS x s).upper, .string (chgS x s).color, .string (chgS x s).lining, .string (chgS x s).sole, .int .i64 (chgS x s).thick, .int .i64 (chgS x s).heel, .int .i64 (chgS x s).eyelets, .int .i64 (chgS x s).density, .bool (chgS x s).double], .int .i64 (chgC x s)] w) := by
  have HT := Lib.hid hT
  clear hT
  obtain ⟨W, hW⟩ : ∃ W, W = (w.alloc (Obj.cells #[Value.string x.upper, Value.string x.color, Value.string x.lining, Value.string x.sole, Value.int IntKind.i64 x.thick, Value.int IntKind.i64 x.heel, Value.int IntKind.i64 x.eyelets, Value.int IntKind.i64 x.density, Value.bool x.double] 25)).alloc (Obj.cells #[Value.string ⟨#[]⟩, Value.string ⟨#[]⟩, Value.string ⟨#[]⟩, Value.string ⟨#[]⟩, Value.int IntKind.i64 0, Value.int IntKind.i64 0, Value.int IntKind.i64 0, Value.int IntKind.i64 0, Value.bool false] 25) := ⟨_, rfl⟩
  obtain ⟨gx, hgx⟩ : ∃ g, g = w.heap.size := ⟨_, rfl⟩
  obtain ⟨gr, hgr⟩ : ∃ g, g = w.heap.size + 1 := ⟨_, rfl⟩
  have hv : Below w.heap.size w W := by rw [hW]; exact bl_alloc (bl_alloc (Below.refl _ _) _) _
  have hX : Hid (Blk W gx 25 #[Value.string x.upper, Value.string x.color, Value.string x.lining, Value.string x.sole, Value.int IntKind.i64 x.thick, Value.int IntKind.i64 x.heel, Value.int IntKind.i64 x.eyelets, Value.int IntKind.i64 x.density, Value.bool x.double]) := Lib.hid (by rw [hW, hgx]; exact (Blk.new _ _ _).alloc _)
  have hR : Hid (Blk W gr 25 #[Value.string ⟨#[]⟩, Value.string ⟨#[]⟩, Value.string ⟨#[]⟩, Value.string ⟨#[]⟩, Value.int IntKind.i64 0, Value.int IntKind.i64 0, Value.int IntKind.i64 0, Value.int IntKind.i64 0, Value.bool false]) := Lib.hid (by
    have h := Blk.new (w.alloc (Obj.cells #[Value.string x.upper, Value.string x.color, Value.string x.lining, Value.string x.sole, Value.int IntKind.i64 x.thick, Value.int IntKind.i64 x.heel, Value.int IntKind.i64 x.eyelets, Value.int IntKind.i64 x.density, Value.bool x.double] 25)) 25 #[Value.string ⟨#[]⟩, Value.string ⟨#[]⟩, Value.string ⟨#[]⟩, Value.string ⟨#[]⟩, Value.int IntKind.i64 0, Value.int IntKind.i64 0, Value.int IntKind.i64 0, Value.int IntKind.i64 0, Value.bool false]
    rw [World.size_alloc] at h
    rw [hW, hgr]; exact h)
  have hge : w.heap.size ≤ gr := by omega
  have HW := Lib.hid hW
  have HGX := Lib.hid hgx
  have HGR := Lib.hid hgr
  clear hW hgx hgr
  have HOK := fun w => ValidStyle_c x hx w
  obtain ⟨sb, hsb⟩ : ∃ z, z = styB x := ⟨_, rfl⟩
  rw [← hsb] at HOK
  replace HOK := Lib.hid HOK
  have HSB := Lib.hid hsb.symm
  clear hsb
  go_enter Tryd.func8, Tryd.ntmps8
  go_upto_region 1 with fail
  rw [← HW.out, ← HGR.out, ← HGX.out]
  clear HW HGR HGX
  go_wp2_with (refine wpList_load_row rfl 25 _ rfl gx rfl 25 #[Value.string x.upper, Value.string x.color, Value.string x.lining, Value.string x.sole, Value.int IntKind.i64 x.thick, Value.int IntKind.i64 x.heel, Value.int IntKind.i64 x.eyelets, Value.int IntKind.i64 x.density, Value.bool x.double] (0, 0) _ hX.out Tryd.underlying25 rfl (by kernel_rfl) ?_)
  refine (HOK.out _).mono ?_
  rintro e W1 ⟨rfl, hb⟩
  replace hv := bl_trans hv hb
  replace hX := Lib.hid (hX.out.below hb)
  replace hR := Lib.hid (hR.out.below hb)
  clear hb HOK
  cases sb
  · have H1 := Lib.hid (show chgS x s = zeroS by unfold chgS; rw [HSB.out]; rfl)
    have H2 := Lib.hid (show chgC x s = 1 by unfold chgC; rw [HSB.out]; rfl)
    go_wp2_with (refine wpList_store_row rfl 25 _ _ rfl gr #[Value.string ⟨#[]⟩, Value.string ⟨#[]⟩, Value.string ⟨#[]⟩, Value.string ⟨#[]⟩, Value.int IntKind.i64 0, Value.int IntKind.i64 0, Value.int IntKind.i64 0, Value.int IntKind.i64 0, Value.bool false] rfl rfl 25 #[Value.string ⟨#[]⟩, Value.string ⟨#[]⟩, Value.string ⟨#[]⟩, Value.string ⟨#[]⟩, Value.int IntKind.i64 0, Value.int IntKind.i64 0, Value.int IntKind.i64 0, Value.int IntKind.i64 0, Value.bool false] hR.out (by kernel_rfl) rfl (by simp [Value.oneCell']) ?_)
    refine bodyPost_ret (results_cell_row_tmp (P := Tryd.prog) rfl _ _ gr 25 #[Value.string ⟨#[]⟩, Value.string ⟨#[]⟩, Value.string ⟨#[]⟩, Value.string ⟨#[]⟩, Value.int IntKind.i64 0, Value.int IntKind.i64 0, Value.int IntKind.i64 0, Value.int IntKind.i64 0, Value.bool false] (0, 0) _ rfl ?_ Tryd.underlying25 rfl (by kernel_rfl)) rfl ?_
    · exact setRow_heap _ _ _ _ _ _ hR.out
    · exact RetT.mk (by rw [H1.out, H2.out]; rfl) (below_rowX hv hge _)
  have hok : okCl s = (!decide (0 ≤ Lib.indexByte s.data.toList 59) && decide (prob (wrds s) = 0)) := by unfold okCl; rw [split_one]
  have hpr : chgS x s = (if okCl s = true then setS x (wrds s) else zeroS) := by unfold chgS; rw [HSB.out]; rfl
  have hpc : chgC x s = (if okCl s = true then 0 else 7) := by unfold chgC; rw [HSB.out]; rfl
  have HSC := fun w => Tryd.strings_Contains_one s 59 w
  obtain ⟨cb, hcb⟩ : ∃ z, z = decide (0 ≤ Lib.indexByte s.data.toList 59) := ⟨_, rfl⟩
  rw [← hcb] at hok HSC
  replace HSC := Lib.hid HSC
  have HOKC := Lib.hid hok
  have HPR := Lib.hid hpr
  have HPC := Lib.hid hpc
  have HCP := Lib.hid (fun w h => clauseProblem_c s (by omega) w h)
  clear hcb hok hpr hpc HSB
  go_wp2_with fail
  refine (HSC.out _).mono ?_
  rintro e w' ⟨rfl, hq⟩
  rw [hq]
  clear hq w' HSC
  cases cb
  case true =>
    have hk : okCl s = false := by rw [HOKC.out]; rfl
    have H1 := Lib.hid (show chgS x s = zeroS by rw [HPR.out, hk]; rfl)
    have H2 := Lib.hid (show chgC x s = 7 by rw [HPC.out, hk]; rfl)
    clear hk
    go_wp2_with (refine wpList_store_row rfl 25 _ _ rfl gr #[Value.string ⟨#[]⟩, Value.string ⟨#[]⟩, Value.string ⟨#[]⟩, Value.string ⟨#[]⟩, Value.int IntKind.i64 0, Value.int IntKind.i64 0, Value.int IntKind.i64 0, Value.int IntKind.i64 0, Value.bool false] rfl rfl 25 #[Value.string ⟨#[]⟩, Value.string ⟨#[]⟩, Value.string ⟨#[]⟩, Value.string ⟨#[]⟩, Value.int IntKind.i64 0, Value.int IntKind.i64 0, Value.int IntKind.i64 0, Value.int IntKind.i64 0, Value.bool false] hR.out (by kernel_rfl) rfl (by simp [Value.oneCell']) ?_)
    refine bodyPost_ret (results_cell_row_tmp (P := Tryd.prog) rfl _ _ gr 25 #[Value.string ⟨#[]⟩, Value.string ⟨#[]⟩, Value.string ⟨#[]⟩, Value.string ⟨#[]⟩, Value.int IntKind.i64 0, Value.int IntKind.i64 0, Value.int IntKind.i64 0, Value.int IntKind.i64 0, Value.bool false] (0, 0) _ rfl ?_ Tryd.underlying25 rfl (by kernel_rfl)) rfl ?_
    · exact setRow_heap _ _ _ _ _ _ hR.out
    · exact RetT.mk (by rw [H1.out, H2.out]; rfl) (below_rowX hv hge _)
  go_wp2_with fail
  refine (HCP.out _ (HT.out.below hv)).mono ?_
  rintro e W4 ⟨rfl, hb⟩
  replace hv := bl_trans hv hb
  replace hX := Lib.hid (hX.out.below hb)
  replace hR := Lib.hid (hR.out.below hb)
  clear hb HCP
  by_cases hp0 : prob (wrds s) = 0
  case neg =>
    have hpq : (prob (wrds s) != 0) = true := by rw [bne_iff_ne]; exact hp0
    have hk : okCl s = false := by rw [HOKC.out, decide_eq_false hp0, Bool.and_false]
    have H1 := Lib.hid (show chgS x s = zeroS by rw [HPR.out, hk]; rfl)
    have H2 := Lib.hid (show chgC x s = 7 by rw [HPC.out, hk]; rfl)
    clear hk hp0
    go_wp2_with (refine wpList_store_row rfl 25 _ _ rfl gr #[Value.string ⟨#[]⟩, Value.string ⟨#[]⟩, Value.string ⟨#[]⟩, Value.string ⟨#[]⟩, Value.int IntKind.i64 0, Value.int IntKind.i64 0, Value.int IntKind.i64 0, Value.int IntKind.i64 0, Value.bool false] rfl rfl 25 #[Value.string ⟨#[]⟩, Value.string ⟨#[]⟩, Value.string ⟨#[]⟩, Value.string ⟨#[]⟩, Value.int IntKind.i64 0, Value.int IntKind.i64 0, Value.int IntKind.i64 0, Value.int IntKind.i64 0, Value.bool false] hR.out (by kernel_rfl) rfl (by simp [Value.oneCell']) ?_)
    refine bodyPost_ret (results_cell_row_tmp (P := Tryd.prog) rfl _ _ gr 25 #[Value.string ⟨#[]⟩, Value.string ⟨#[]⟩, Value.string ⟨#[]⟩, Value.string ⟨#[]⟩, Value.int IntKind.i64 0, Value.int IntKind.i64 0, Value.int IntKind.i64 0, Value.int IntKind.i64 0, Value.bool false] (0, 0) _ rfl ?_ Tryd.underlying25 rfl (by kernel_rfl)) rfl ?_
    · exact setRow_heap _ _ _ _ _ _ hR.out
    · exact RetT.mk (by rw [H1.out, H2.out]; rfl) (below_rowX hv hge _)
  have hpq : (prob (wrds s) != 0) = false := by rw [hp0]; rfl
  have hk : okCl s = true := by rw [HOKC.out, decide_eq_true hp0]; rfl
  have H1 := Lib.hid (show chgS x s = setS x (wrds s) by rw [HPR.out, hk]; rfl)
  have H2 := Lib.hid (show chgC x s = 0 by rw [HPC.out, hk]; rfl)
  have HWT := fun w h => with_c x s (by omega) (Lib.hid hp0) w h
  rw [← H1.out] at HWT
  replace HWT := Lib.hid HWT
  clear hk hp0
  obtain ⟨Y, hY⟩ : ∃ z, z = chgS x s := ⟨_, rfl⟩
  rw [← hY] at HWT
  have HY := Lib.hid hY.symm
  clear hY
  go_wp2_with (refine wpList_load_row rfl 25 _ rfl gx rfl 25 #[Value.string x.upper, Value.string x.color, Value.string x.lining, Value.string x.sole, Value.int IntKind.i64 x.thick, Value.int IntKind.i64 x.heel, Value.int IntKind.i64 x.eyelets, Value.int IntKind.i64 x.density, Value.bool x.double] (0, 0) _ hX.out Tryd.underlying25 rfl (by kernel_rfl) ?_)
  refine (HWT.out _ (HT.out.below hv)).mono ?_
  rintro e W5 ⟨rfl, hb⟩
  replace hv := bl_trans hv hb
  replace hR := Lib.hid (hR.out.below hb)
  clear hb HWT
  go_wp2_with (refine wpList_store_row rfl 25 _ _ rfl gr #[Value.string Y.upper, Value.string Y.color, Value.string Y.lining, Value.string Y.sole, Value.int IntKind.i64 Y.thick, Value.int IntKind.i64 Y.heel, Value.int IntKind.i64 Y.eyelets, Value.int IntKind.i64 Y.density, Value.bool Y.double] rfl rfl 25 #[Value.string ⟨#[]⟩, Value.string ⟨#[]⟩, Value.string ⟨#[]⟩, Value.string ⟨#[]⟩, Value.int IntKind.i64 0, Value.int IntKind.i64 0, Value.int IntKind.i64 0, Value.int IntKind.i64 0, Value.bool false] hR.out (by kernel_rfl) rfl (by simp [Value.oneCell']) ?_)
  refine bodyPost_ret (results_cell_row_tmp (P := Tryd.prog) rfl _ _ gr 25 #[Value.string Y.upper, Value.string Y.color, Value.string Y.lining, Value.string Y.sole, Value.int IntKind.i64 Y.thick, Value.int IntKind.i64 Y.heel, Value.int IntKind.i64 Y.eyelets, Value.int IntKind.i64 Y.density, Value.bool Y.double] (0, 0) _ rfl ?_ Tryd.underlying25 rfl (by kernel_rfl)) rfl ?_
  · exact setRow_heap _ _ _ _ _ _ hR.out
  · exact RetT.mk (by rw [HY.out, H2.out]; rfl) (below_rowX hv hge _)
end Go.Proofs.YtihgjmhhpiobbaaDoor
