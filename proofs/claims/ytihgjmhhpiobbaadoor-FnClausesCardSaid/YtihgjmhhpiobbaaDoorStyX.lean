/- Styles: ChangeStyle, the reference's. builds (9 s). -/
import Derived.Test.YtihgjmhhpiobbaaDoorStyW
import Derived.Laws.ResultCell
import Derived.Laws.Rows
namespace Go.Proofs.YtihgjmhhpiobbaaDoor
open Go.RowKit

def okCl (s : ByteArray) : Bool := decide ((splC 59 s).length ≤ 1) && decide (prob (wrds s) = 0)
def chgS (x : Style) (s : ByteArray) : Style := if styB x = true then (if okCl s = true then setS x (wrds s) else zeroS) else zeroS
def chgC (x : Style) (s : ByteArray) : Int := if styB x = true then (if okCl s = true then 0 else 7) else 1
theorem grown_rowX (W : World) (g : Nat) (cs : Array Value) : W.grownBy (W.setRow g cs) (some g) :=
  ⟨rfl, rfl, rfl, by simp, fun i _ hne => setRow_other W g i cs (fun e => hne (by rw [e]))⟩
theorem below_rowX {a w : World} {g : Nat} (h : Below a.heap.size a w) (hg : a.heap.size ≤ g) (cs : Array Value) : Below a.heap.size a (w.setRow g cs) :=
  bl_grown h (grown_rowX w g cs) (fun k e => by injection e with e; omega)
set_option maxRecDepth 100000 in
set_option maxHeartbeats 8000000 in
theorem SChangeStyle_c (x : Style) (hx : Hid x.fits) (s : ByteArray) (hs : s.size ≤ 1048576) (w : World) : Calls Tryd.prog 6 #[.agg #[.string x.upper, .string x.color, .string x.lining, .string x.sole, .int .i64 x.thick, .int .i64 x.heel, .int .i64 x.eyelets, .int .i64 x.density, .bool x.double], .string s] w (RetT #[.agg #[.string (chgS x s).upper, .string (chgS x s).color, .string (chgS x s).lining, .string (chgS x s).sole, .int .i64 (chgS x s).thick, .int .i64 (chgS x s).heel, .int .i64 (chgS x s).eyelets, .int .i64 (chgS x s).density, .bool (chgS x s).double], .int .i64 (chgC x s)] w) := by
  obtain ⟨W, hW⟩ : ∃ W, W = (w.alloc (Obj.cells #[Value.string x.upper, Value.string x.color, Value.string x.lining, Value.string x.sole, Value.int IntKind.i64 x.thick, Value.int IntKind.i64 x.heel, Value.int IntKind.i64 x.eyelets, Value.int IntKind.i64 x.density, Value.bool x.double] 25)).alloc (Obj.cells #[Value.string ⟨#[]⟩, Value.string ⟨#[]⟩, Value.string ⟨#[]⟩, Value.string ⟨#[]⟩, Value.int IntKind.i64 0, Value.int IntKind.i64 0, Value.int IntKind.i64 0, Value.int IntKind.i64 0, Value.bool false] 25) := ⟨_, rfl⟩
  obtain ⟨gx, hgx⟩ : ∃ g, g = w.heap.size := ⟨_, rfl⟩
  obtain ⟨gr, hgr⟩ : ∃ g, g = w.heap.size + 1 := ⟨_, rfl⟩
  have hv : Below w.heap.size w W := by rw [hW]; exact bl_alloc (bl_alloc (Below.refl _ _) _) _
  have hX : Hid (Blk W gx 25 #[Value.string x.upper, Value.string x.color, Value.string x.lining, Value.string x.sole, Value.int IntKind.i64 x.thick, Value.int IntKind.i64 x.heel, Value.int IntKind.i64 x.eyelets, Value.int IntKind.i64 x.density, Value.bool x.double]) := Lib.hid (by rw [hW, hgx]; exact (Blk.new _ _ _).alloc _)
  have hR : Hid (Blk W gr 25 #[Value.string ⟨#[]⟩, Value.string ⟨#[]⟩, Value.string ⟨#[]⟩, Value.string ⟨#[]⟩, Value.int IntKind.i64 0, Value.int IntKind.i64 0, Value.int IntKind.i64 0, Value.int IntKind.i64 0, Value.bool false]) := Lib.hid (by
    have h := Blk.new (w.alloc (Obj.cells #[Value.string x.upper, Value.string x.color, Value.string x.lining, Value.string x.sole, Value.int IntKind.i64 x.thick, Value.int IntKind.i64 x.heel, Value.int IntKind.i64 x.eyelets, Value.int IntKind.i64 x.density, Value.bool x.double] 25)) 25 #[Value.string ⟨#[]⟩, Value.string ⟨#[]⟩, Value.string ⟨#[]⟩, Value.string ⟨#[]⟩, Value.int IntKind.i64 0, Value.int IntKind.i64 0, Value.int IntKind.i64 0, Value.int IntKind.i64 0, Value.bool false]
    rw [World.size_alloc] at h
    rw [hW, hgr]; exact h)
  have hge : w.heap.size ≤ gr := by omega
  have hgex : w.heap.size ≤ gx := by omega
  have hxr : gx ≠ gr := by omega
  have hxl : gx + 1 < W.heap.size := by have := hR.out.lt; omega
  have HW := Lib.hid hW
  have HGX := Lib.hid hgx
  have HGR := Lib.hid hgr
  clear hW hgx hgr
  have HOK := fun w h => l24Ok_c x hx gx w h
  obtain ⟨sb, hsb⟩ : ∃ z, z = styB x := ⟨_, rfl⟩
  rw [← hsb] at HOK
  replace HOK := Lib.hid HOK
  have HSB := Lib.hid hsb.symm
  clear hsb
  go_enter Tryd.func6, Tryd.ntmps6
  go_upto_region 1 with fail
  rw [← HW.out, ← HGR.out, ← HGX.out]
  clear HW HGR HGX
  go_wp2_with fail
  refine (HOK.out _ hX.out).mono ?_
  rintro e W1 ⟨rfl, hb⟩
  replace hv := bl_trans hv hb
  replace hX := Lib.hid (hX.out.below hb)
  replace hR := Lib.hid (hR.out.below hb)
  have hxl1 : gx + 1 < W1.heap.size := Nat.lt_of_lt_of_le hxl hb.size
  clear hb HOK hxl
  cases sb
  · have H1 := Lib.hid (show chgS x s = zeroS by unfold chgS; rw [HSB.out]; rfl)
    have H2 := Lib.hid (show chgC x s = 1 by unfold chgC; rw [HSB.out]; rfl)
    go_wp2_with (refine wpList_store_row rfl 25 _ _ rfl gr #[Value.string ⟨#[]⟩, Value.string ⟨#[]⟩, Value.string ⟨#[]⟩, Value.string ⟨#[]⟩, Value.int IntKind.i64 0, Value.int IntKind.i64 0, Value.int IntKind.i64 0, Value.int IntKind.i64 0, Value.bool false] rfl rfl 25 #[Value.string ⟨#[]⟩, Value.string ⟨#[]⟩, Value.string ⟨#[]⟩, Value.string ⟨#[]⟩, Value.int IntKind.i64 0, Value.int IntKind.i64 0, Value.int IntKind.i64 0, Value.int IntKind.i64 0, Value.bool false] hR.out (by kernel_rfl) rfl (by simp [Value.oneCell']) ?_)
    refine bodyPost_ret (results_cell_row_tmp (P := Tryd.prog) rfl _ _ gr 25 #[Value.string ⟨#[]⟩, Value.string ⟨#[]⟩, Value.string ⟨#[]⟩, Value.string ⟨#[]⟩, Value.int IntKind.i64 0, Value.int IntKind.i64 0, Value.int IntKind.i64 0, Value.int IntKind.i64 0, Value.bool false] (0, 0) _ rfl ?_ Tryd.underlying25 rfl (by kernel_rfl)) rfl ?_
    · exact setRow_heap _ _ _ _ _ _ hR.out
    · exact RetT.mk (by rw [H1.out, H2.out]; rfl) (below_rowX hv hge _)
  have HSW := Lib.hid (fun w => SSplitWordsN_c s (by omega) w)
  have HSP := Lib.hid (fun w => l01Split_c 59 s hs w)
  go_wp2_with fail
  refine (HSW.out _).mono ?_
  rintro e W2 ⟨A, n, c, rfl, hn', hA', hnew, hb⟩
  have hne : Hid (∀ ad, A = some ad → ad.block ≠ gx) := Lib.hid (fun ad e => by have := hnew ad e; omega)
  clear hnew
  have hn := Lib.hid hn'
  have hA := Lib.hid hA'
  replace hv := bl_trans hv hb
  replace hX := Lib.hid (hX.out.below hb)
  replace hR := Lib.hid (hR.out.below hb)
  clear hn' hA' HSW
  go_wp2_with fail
  refine (HSP.out _).mono ?_
  rintro e W3 ⟨B, d, rfl, _, hb⟩
  replace hv := bl_trans hv hb
  replace hX := Lib.hid (hX.out.below hb)
  replace hR := Lib.hid (hR.out.below hb)
  replace hA := Lib.hid (hA.out.below hb)
  clear hb HSP
  have hok : okCl s = (decide ((splC 59 s).length ≤ 1) && decide (prob (wrds s) = 0)) := rfl
  have hle := wrds_le s
  have HPT := Lib.hid (fun y (hy : y ∈ wrds s) => Nat.le_trans (wrds_part hy) (by omega : s.size ≤ 4194304))
  have hpr : chgS x s = (if okCl s = true then setS x (wrds s) else zeroS) := by unfold chgS; rw [HSB.out]; rfl
  have hpc : chgC x s = (if okCl s = true then 0 else 7) := by unfold chgC; rw [HSB.out]; rfl
  obtain ⟨ws, hws⟩ : ∃ z, z = wrds s := ⟨_, rfl⟩
  rw [← hws] at hok hle HPT hpr hn hA
  have hnn : (n : Int) ≤ 4194305 := by have := hn.out; omega
  have HLP := Lib.hid (fun w h => l24Problem_c A ws n c hn hnn HPT w h)
  obtain ⟨q, hq⟩ : ∃ z, z = (splC 59 s).length := ⟨_, rfl⟩
  rw [← hq] at hok ⊢
  have hb1 := Lib.hid hok
  have HPR := Lib.hid hpr
  have HPC := Lib.hid hpc
  clear hok hpr hpc hws hq hle HSB
  by_cases hq1 : q ≤ 1
  case neg =>
    have hgt : (1 : Int) < (q : Int) := by omega
    have hk : okCl s = false := by rw [hb1.out, decide_eq_false hq1]; rfl
    have H1 := Lib.hid (show chgS x s = zeroS by rw [HPR.out, hk]; rfl)
    have H2 := Lib.hid (show chgC x s = 7 by rw [HPC.out, hk]; rfl)
    clear hk
    go_wp2_with (refine wpList_store_row rfl 25 _ _ rfl gr #[Value.string ⟨#[]⟩, Value.string ⟨#[]⟩, Value.string ⟨#[]⟩, Value.string ⟨#[]⟩, Value.int IntKind.i64 0, Value.int IntKind.i64 0, Value.int IntKind.i64 0, Value.int IntKind.i64 0, Value.bool false] rfl rfl 25 #[Value.string ⟨#[]⟩, Value.string ⟨#[]⟩, Value.string ⟨#[]⟩, Value.string ⟨#[]⟩, Value.int IntKind.i64 0, Value.int IntKind.i64 0, Value.int IntKind.i64 0, Value.int IntKind.i64 0, Value.bool false] hR.out (by kernel_rfl) rfl (by simp [Value.oneCell']) ?_)
    refine bodyPost_ret (results_cell_row_tmp (P := Tryd.prog) rfl _ _ gr 25 #[Value.string ⟨#[]⟩, Value.string ⟨#[]⟩, Value.string ⟨#[]⟩, Value.string ⟨#[]⟩, Value.int IntKind.i64 0, Value.int IntKind.i64 0, Value.int IntKind.i64 0, Value.int IntKind.i64 0, Value.bool false] (0, 0) _ rfl ?_ Tryd.underlying25 rfl (by kernel_rfl)) rfl ?_
    · exact setRow_heap _ _ _ _ _ _ hR.out
    · exact RetT.mk (by rw [H1.out, H2.out]; rfl) (below_rowX hv hge _)
  have hgt : ¬ (1 : Int) < (q : Int) := by omega
  go_wp2_with fail
  refine (HLP.out _ hA.out).mono ?_
  rintro e W4 ⟨rfl, hb⟩
  replace hv := bl_trans hv hb
  replace hX := Lib.hid (hX.out.below hb)
  replace hR := Lib.hid (hR.out.below hb)
  replace hA := Lib.hid (hA.out.below hb)
  clear hb HLP
  by_cases hp0 : prob ws = 0
  case neg =>
    have hpq : (prob ws != 0) = true := by rw [bne_iff_ne]; exact hp0
    have hk : okCl s = false := by rw [hb1.out, decide_eq_false hp0, Bool.and_false]
    have H1 := Lib.hid (show chgS x s = zeroS by rw [HPR.out, hk]; rfl)
    have H2 := Lib.hid (show chgC x s = 7 by rw [HPC.out, hk]; rfl)
    clear hk hp0
    go_wp2_with (refine wpList_store_row rfl 25 _ _ rfl gr #[Value.string ⟨#[]⟩, Value.string ⟨#[]⟩, Value.string ⟨#[]⟩, Value.string ⟨#[]⟩, Value.int IntKind.i64 0, Value.int IntKind.i64 0, Value.int IntKind.i64 0, Value.int IntKind.i64 0, Value.bool false] rfl rfl 25 #[Value.string ⟨#[]⟩, Value.string ⟨#[]⟩, Value.string ⟨#[]⟩, Value.string ⟨#[]⟩, Value.int IntKind.i64 0, Value.int IntKind.i64 0, Value.int IntKind.i64 0, Value.int IntKind.i64 0, Value.bool false] hR.out (by kernel_rfl) rfl (by simp [Value.oneCell']) ?_)
    refine bodyPost_ret (results_cell_row_tmp (P := Tryd.prog) rfl _ _ gr 25 #[Value.string ⟨#[]⟩, Value.string ⟨#[]⟩, Value.string ⟨#[]⟩, Value.string ⟨#[]⟩, Value.int IntKind.i64 0, Value.int IntKind.i64 0, Value.int IntKind.i64 0, Value.int IntKind.i64 0, Value.bool false] (0, 0) _ rfl ?_ Tryd.underlying25 rfl (by kernel_rfl)) rfl ?_
    · exact setRow_heap _ _ _ _ _ _ hR.out
    · exact RetT.mk (by rw [H1.out, H2.out]; rfl) (below_rowX hv hge _)
  have hpq : (prob ws != 0) = false := by rw [hp0]; rfl
  have hk : okCl s = true := by rw [hb1.out, decide_eq_true hq1, decide_eq_true hp0]; rfl
  have H1 := Lib.hid (show chgS x s = setS x ws by rw [HPR.out, hk]; rfl)
  have H2 := Lib.hid (show chgC x s = 0 by rw [HPC.out, hk]; rfl)
  have HP0 := Lib.hid hp0
  clear hk hp0
  go_wp2_with fail
  refine (l24Set_c x gx A ws n c hn HP0 HPT W4 hX.out hA.out hne).mono ?_
  rintro e W5 ⟨rfl, hX5, hg5⟩
  replace hX := Lib.hid hX5
  replace hR := Lib.hid (hR.out.grown hg5 (fun e => by injection e with e; omega))
  replace hv := bl_grown hv hg5 (fun k e => by injection e with e; omega)
  clear hX5 hg5
  go_wp2_with (refine wpList_load_row rfl 25 _ rfl gx rfl 25 #[Value.string (setS x ws).upper, Value.string (setS x ws).color, Value.string (setS x ws).lining, Value.string (setS x ws).sole, Value.int IntKind.i64 (setS x ws).thick, Value.int IntKind.i64 (setS x ws).heel, Value.int IntKind.i64 (setS x ws).eyelets, Value.int IntKind.i64 (setS x ws).density, Value.bool (setS x ws).double] (0, 0) _ hX.out Tryd.underlying25 rfl (by kernel_rfl) ?_; refine wpList_store_row rfl 25 _ _ rfl gr #[Value.string (setS x ws).upper, Value.string (setS x ws).color, Value.string (setS x ws).lining, Value.string (setS x ws).sole, Value.int IntKind.i64 (setS x ws).thick, Value.int IntKind.i64 (setS x ws).heel, Value.int IntKind.i64 (setS x ws).eyelets, Value.int IntKind.i64 (setS x ws).density, Value.bool (setS x ws).double] rfl rfl 25 #[Value.string ⟨#[]⟩, Value.string ⟨#[]⟩, Value.string ⟨#[]⟩, Value.string ⟨#[]⟩, Value.int IntKind.i64 0, Value.int IntKind.i64 0, Value.int IntKind.i64 0, Value.int IntKind.i64 0, Value.bool false] hR.out (by kernel_rfl) rfl (by simp [Value.oneCell']) ?_)
  refine bodyPost_ret (results_cell_row_tmp (P := Tryd.prog) rfl _ _ gr 25 #[Value.string (setS x ws).upper, Value.string (setS x ws).color, Value.string (setS x ws).lining, Value.string (setS x ws).sole, Value.int IntKind.i64 (setS x ws).thick, Value.int IntKind.i64 (setS x ws).heel, Value.int IntKind.i64 (setS x ws).eyelets, Value.int IntKind.i64 (setS x ws).density, Value.bool (setS x ws).double] (0, 0) _ rfl ?_ Tryd.underlying25 rfl (by kernel_rfl)) rfl ?_
  · exact setRow_heap _ _ _ _ _ _ hR.out
  · exact RetT.mk (by rw [H1.out, H2.out]; rfl) (below_rowX hv hge _)
end Go.Proofs.YtihgjmhhpiobbaaDoor
