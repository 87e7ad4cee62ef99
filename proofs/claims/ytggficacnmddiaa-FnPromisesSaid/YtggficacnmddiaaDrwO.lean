/- Drawn orders: one order. -/
import Derived.Test.YtggficacnmddiaaDrwP
namespace Go.Proofs.Ytggficacnmddiaa
open Go.RowKit

theorem grown_row {W : World} {g : Nat} {t : TypeId} {old cs : Array Value} (_h : Blk W g t old) : W.grownBy (W.setRow g cs) (some g) :=
  ⟨rfl, rfl, rfl, by simp, fun i _ hne => setRow_other W g i cs (fun e => hne (by rw [e]))⟩
def OutO (id : Int) (g q : Nat) (w : World) (e : Ending) (w' : World) : Prop := ∃ x : Order, e = .returned x.val ∧ x.customer.size ≤ 100 ∧ x.id = id ∧ Src w' g (q + 10) ∧ w.grownBy w' (some g)
set_option maxRecDepth 100000 in
set_option maxHeartbeats 4000000 in
theorem l25New_c (g q : Nat) (id : Int) (hq : q ≤ 800000000000) (w : World) (hS : Src w g q) : Calls Try.prog 41 #[.pointer (some ⟨g, 0, none⟩), .int .i64 id] w (OutO id g q w) := by
  have HS := Lib.hid hS
  have hgw := hS.lt
  clear hS
  go_enter Try.func41, Try.ntmps41
  go_wp2_with fail
  obtain ⟨W0, hW0⟩ : ∃ z, z = w.alloc (.cells #[.int .i64 0, .string ⟨#[]⟩, .int .i64 0, .int .i64 0, .int .i64 0, .int .i64 0] 38) := ⟨_, rfl⟩
  obtain ⟨gz, hgz0⟩ : ∃ z, z = w.heap.size := ⟨_, rfl⟩
  have HZ : Hid (Blk W0 gz 38 #[.int .i64 0, .string ⟨#[]⟩, .int .i64 0, .int .i64 0, .int .i64 0, .int .i64 0]) := Lib.hid (by rw [hW0, hgz0]; exact Blk.new _ _ _)
  have hb : Below w.heap.size w W0 := by rw [hW0]; exact bl_alloc (Below.refl _ _) _
  have hzW0 := hb.size
  have hzz := HZ.out.lt
  replace HS := Lib.hid (HS.out.below hb)
  have HG := Lib.hid (grown_of_below hb (some g))
  have hsz : w.heap.size + 1 = W0.heap.size := by rw [hW0, World.size_alloc]
  rw [← hW0, hsz, ← hgz0]
  clear hW0 hb hsz
  have hgz : g < gz := by omega
  have hzw : w.heap.size ≤ gz := by omega
  clear hgz0
  have hA := arr_new W0 9 #[.string ⟨#[100, 111, 121, 108, 101]⟩, .string ⟨#[109, 114, 115, 45, 98, 101, 101]⟩, .string ⟨#[116, 105, 109]⟩]
  refine (text_c g q _ [⟨#[100, 111, 121, 108, 101]⟩, ⟨#[109, 114, 115, 45, 98, 101, 101]⟩, ⟨#[116, 105, 109]⟩] 3 3 (Lib.hid rfl) (by omega) (by omega) (by omega) _ (HS.out.below (bl_alloc (Below.refl _ _) _)) hA (fun ad e => by injection e with e; subst e; simp only; omega)).mono ?_
  clear hA HS
  rintro e W1 ⟨v, hv, rfl, hS, hg⟩
  have HV : Hid (v.size ≤ 100) := Lib.hid (by
    simp only [List.mem_cons, List.not_mem_nil, or_false] at hv
    rcases hv with rfl | rfl | rfl <;> decide)
  clear hv
  have hzW1 : w.heap.size ≤ W1.heap.size := by have := hg.size; rw [World.size_alloc] at this; omega
  have HS1 := Lib.hid hS
  replace HG := Lib.hid (grown_trans (grown_alloc HG.out _) hg)
  replace HZ := Lib.hid ((HZ.out.alloc _).grown hg (by intro e; injection e; omega))
  clear hS hg
  go_wp2_with fail
  have hzl := HZ.out.lt
  obtain ⟨W2, hW2⟩ : ∃ z, z = W1.alloc (.cells #[.int .i64 id, .string v, .int .i64 0, .int .i64 0, .int .i64 0, .int .i64 0] 38) := ⟨_, rfl⟩
  obtain ⟨gx, hgx0⟩ : ∃ z, z = W1.heap.size := ⟨_, rfl⟩
  have HX : Hid (Blk W2 gx 38 #[.int .i64 id, .string v, .int .i64 0, .int .i64 0, .int .i64 0, .int .i64 0]) := Lib.hid (by rw [hW2, hgx0]; exact Blk.new _ _ _)
  have hb : Below W1.heap.size W1 W2 := by rw [hW2]; exact bl_alloc (Below.refl _ _) _
  have hzW2 := Nat.le_trans hzW1 hb.size
  have HS := Lib.hid (HS1.out.below hb)
  replace HG := Lib.hid (grown_below HG.out hb)
  replace HZ := Lib.hid (HZ.out.below hb)
  have hzx : gz ≠ gx := by omega
  have hgx : g < gx := by omega
  have hxw : w.heap.size ≤ gx := by omega
  rw [← hW2, ← hgx0]
  clear hW2 hgx0 hb HS1
  refine (pick_c g _ 5 (by omega) (by omega) _ HS.out).mono ?_
  clear HS
  rintro e W3 ⟨st, rfl, st0, st1, hS, hg⟩
  have hzW3 := Nat.le_trans hzW2 hg.size
  have HS := Lib.hid hS
  replace HG := Lib.hid (grown_trans HG.out hg)
  replace HZ := Lib.hid (HZ.out.grown hg (by intro e; injection e; omega))
  replace HX := Lib.hid (HX.out.grown hg (by intro e; injection e; omega))
  clear hS hg
  have f2 := HX.out.frozen 2
  have d2 : W3.cell? ⟨gx, 2, none⟩ = some (.int .i64 0) := HX.out.cell 2
  obtain ⟨W4, hW⟩ : ∃ z, z = W3.setCell ⟨gx, 2, none⟩ (.int .i64 st) := ⟨_, rfl⟩
  have HX2 := Lib.hid (HX.out.set_ 2 (.int .i64 st))
  have HZ2 := Lib.hid (HZ.out.far (p := ⟨gx, 2, none⟩) hzx (.int .i64 st))
  have HS2 := Lib.hid (HS.out.far (p := ⟨gx, 2, none⟩) hgx (.int .i64 st))
  have HG2 := Lib.hid (grown_setCell (p := ⟨gx, 2, none⟩) HG.out (.inr hxw) (.int .i64 st))
  have hzW4 : w.heap.size ≤ W4.heap.size := by rw [hW, World.size_setCell]; exact hzW3
  rw [← hW] at HX2 HZ2 HS2 HG2
  clear HX HZ HS HG
  have HX : Hid (Blk W4 gx 38 #[.int .i64 id, .string v, .int .i64 st, .int .i64 0, .int .i64 0, .int .i64 0]) := HX2
  have HZ := HZ2
  have HS := HS2
  have HG := HG2
  clear HX2 HZ2 HS2 HG2
  go_wp2_with fail
  rw [← hW]
  clear hW f2 d2
  refine (pick_c g _ 60 (by omega) (by omega) _ HS.out).mono ?_
  clear HS
  rintro e W5 ⟨due, rfl, due0, due1, hS, hg⟩
  have hzW5 := Nat.le_trans hzW4 hg.size
  have HS := Lib.hid hS
  replace HG := Lib.hid (grown_trans HG.out hg)
  replace HZ := Lib.hid (HZ.out.grown hg (by intro e; injection e; omega))
  replace HX := Lib.hid (HX.out.grown hg (by intro e; injection e; omega))
  clear hS hg
  have f3 := HX.out.frozen 3
  have d3 : W5.cell? ⟨gx, 3, none⟩ = some (.int .i64 0) := HX.out.cell 3
  obtain ⟨W6, hW⟩ : ∃ z, z = W5.setCell ⟨gx, 3, none⟩ (.int .i64 due) := ⟨_, rfl⟩
  have HX2 := Lib.hid (HX.out.set_ 3 (.int .i64 due))
  have HZ2 := Lib.hid (HZ.out.far (p := ⟨gx, 3, none⟩) hzx (.int .i64 due))
  have HS2 := Lib.hid (HS.out.far (p := ⟨gx, 3, none⟩) hgx (.int .i64 due))
  have HG2 := Lib.hid (grown_setCell (p := ⟨gx, 3, none⟩) HG.out (.inr hxw) (.int .i64 due))
  have hzW6 : w.heap.size ≤ W6.heap.size := by rw [hW, World.size_setCell]; exact hzW5
  rw [← hW] at HX2 HZ2 HS2 HG2
  clear HX HZ HS HG
  have HX : Hid (Blk W6 gx 38 #[.int .i64 id, .string v, .int .i64 st, .int .i64 due, .int .i64 0, .int .i64 0]) := HX2
  have HZ := HZ2
  have HS := HS2
  have HG := HG2
  clear HX2 HZ2 HS2 HG2
  have e2 : W6.cell? ⟨gx, 2, none⟩ = some (.int .i64 st) := HX.out.cell 2
  rw [hW] at e2
  by_cases h3 : st < 3
  case neg =>
    have h2 : ¬ st < 2 := by omega
    rw [hW] at HX HZ HS HG
    clear hzW6 hW W6
    have hgr := grown_row (cs := #[.int .i64 id, .string v, .int .i64 st, .int .i64 due, .int .i64 0, .int .i64 0]) HZ.out
    have HSF := Lib.hid (HS.out.kept hgr hgz)
    have HGF := Lib.hid (grown_over HG.out hgr (fun i e => by injection e with e; omega))
    go_wp2_with (refine wpList_load_row rfl 38 _ rfl gx rfl 38 #[.int .i64 id, .string v, .int .i64 st, .int .i64 due, .int .i64 0, .int .i64 0] (0, 0) _ HX.out Try.underlying38 rfl (by kernel_rfl) ?_; refine wpList_store_row rfl 38 _ _ rfl gz #[.int .i64 id, .string v, .int .i64 st, .int .i64 due, .int .i64 0, .int .i64 0] rfl rfl 38 #[.int .i64 0, .string ⟨#[]⟩, .int .i64 0, .int .i64 0, .int .i64 0, .int .i64 0] HZ.out (by kernel_rfl) rfl (by simp [Value.oneCell']) ?_)
    try simp only [Exit.inBlock, Exit.then]
    refine bodyPost_ret (results_cell_row (P := Try.prog) rfl _ _ gz 38 #[.int .i64 id, .string v, .int .i64 st, .int .i64 due, .int .i64 0, .int .i64 0] (0, 0) _ rfl ?_ Try.underlying38 rfl (by kernel_rfl)) rfl ?_
    · exact setRow_heap _ _ _ _ _ _ HZ.out
    · exact ⟨⟨id, v, st, due, 0, 0⟩, rfl, HV.out, rfl, HSF.out.more (by omega), HGF.out⟩
  go_wp2_with fail
  rw [← hW]
  rw [← hW] at e2
  clear hW f3 d3
  refine (pick_c g _ 9 (by omega) (by omega) _ HS.out).mono ?_
  clear HS e2
  rintro e W7 ⟨lf, rfl, lf0, lf1, hS, hg⟩
  have hzW7 := Nat.le_trans hzW6 hg.size
  have HS := Lib.hid hS
  replace HG := Lib.hid (grown_trans HG.out hg)
  replace HZ := Lib.hid (HZ.out.grown hg (by intro e; injection e; omega))
  replace HX := Lib.hid (HX.out.grown hg (by intro e; injection e; omega))
  clear hS hg
  have f4 := HX.out.frozen 4
  have d4 : W7.cell? ⟨gx, 4, none⟩ = some (.int .i64 0) := HX.out.cell 4
  obtain ⟨W8, hW⟩ : ∃ z, z = W7.setCell ⟨gx, 4, none⟩ (.int .i64 lf) := ⟨_, rfl⟩
  have HX2 := Lib.hid (HX.out.set_ 4 (.int .i64 lf))
  have HZ2 := Lib.hid (HZ.out.far (p := ⟨gx, 4, none⟩) hzx (.int .i64 lf))
  have HS2 := Lib.hid (HS.out.far (p := ⟨gx, 4, none⟩) hgx (.int .i64 lf))
  have HG2 := Lib.hid (grown_setCell (p := ⟨gx, 4, none⟩) HG.out (.inr hxw) (.int .i64 lf))
  have hzW8 : w.heap.size ≤ W8.heap.size := by rw [hW, World.size_setCell]; exact hzW7
  rw [← hW] at HX2 HZ2 HS2 HG2
  clear HX HZ HS HG
  have HX : Hid (Blk W8 gx 38 #[.int .i64 id, .string v, .int .i64 st, .int .i64 due, .int .i64 lf, .int .i64 0]) := HX2
  have HZ := HZ2
  have HS := HS2
  have HG := HG2
  clear HX2 HZ2 HS2 HG2
  have e2 : W8.cell? ⟨gx, 2, none⟩ = some (.int .i64 st) := HX.out.cell 2
  rw [hW] at e2
  by_cases h2 : st < 2
  case neg =>
    rw [hW] at HX HZ HS HG
    clear hzW8 hW W8
    have hgr := grown_row (cs := #[.int .i64 id, .string v, .int .i64 st, .int .i64 due, .int .i64 lf, .int .i64 0]) HZ.out
    have HSF := Lib.hid (HS.out.kept hgr hgz)
    have HGF := Lib.hid (grown_over HG.out hgr (fun i e => by injection e with e; omega))
    go_wp2_with (refine wpList_load_row rfl 38 _ rfl gx rfl 38 #[.int .i64 id, .string v, .int .i64 st, .int .i64 due, .int .i64 lf, .int .i64 0] (0, 0) _ HX.out Try.underlying38 rfl (by kernel_rfl) ?_; refine wpList_store_row rfl 38 _ _ rfl gz #[.int .i64 id, .string v, .int .i64 st, .int .i64 due, .int .i64 lf, .int .i64 0] rfl rfl 38 #[.int .i64 0, .string ⟨#[]⟩, .int .i64 0, .int .i64 0, .int .i64 0, .int .i64 0] HZ.out (by kernel_rfl) rfl (by simp [Value.oneCell']) ?_)
    try simp only [Exit.inBlock, Exit.then]
    refine bodyPost_ret (results_cell_row (P := Try.prog) rfl _ _ gz 38 #[.int .i64 id, .string v, .int .i64 st, .int .i64 due, .int .i64 lf, .int .i64 0] (0, 0) _ rfl ?_ Try.underlying38 rfl (by kernel_rfl)) rfl ?_
    · exact setRow_heap _ _ _ _ _ _ HZ.out
    · exact ⟨⟨id, v, st, due, lf, 0⟩, rfl, HV.out, rfl, HSF.out.more (by omega), HGF.out⟩
  go_wp2_with fail
  rw [← hW]
  rw [← hW] at e2
  clear hW f4 d4
  refine (pick_c g _ 3 (by omega) (by omega) _ HS.out).mono ?_
  clear HS e2
  rintro e W9 ⟨ft, rfl, ft0, ft1, hS, hg⟩
  have hzW9 := Nat.le_trans hzW8 hg.size
  have HS := Lib.hid hS
  replace HG := Lib.hid (grown_trans HG.out hg)
  replace HZ := Lib.hid (HZ.out.grown hg (by intro e; injection e; omega))
  replace HX := Lib.hid (HX.out.grown hg (by intro e; injection e; omega))
  clear hS hg
  have f5 := HX.out.frozen 5
  have d5 : W9.cell? ⟨gx, 5, none⟩ = some (.int .i64 0) := HX.out.cell 5
  obtain ⟨WA, hW⟩ : ∃ z, z = W9.setCell ⟨gx, 5, none⟩ (.int .i64 ft) := ⟨_, rfl⟩
  have HX2 := Lib.hid (HX.out.set_ 5 (.int .i64 ft))
  have HZ2 := Lib.hid (HZ.out.far (p := ⟨gx, 5, none⟩) hzx (.int .i64 ft))
  have HS2 := Lib.hid (HS.out.far (p := ⟨gx, 5, none⟩) hgx (.int .i64 ft))
  have HG2 := Lib.hid (grown_setCell (p := ⟨gx, 5, none⟩) HG.out (.inr hxw) (.int .i64 ft))
  have hzWA : w.heap.size ≤ WA.heap.size := by rw [hW, World.size_setCell]; exact hzW9
  rw [← hW] at HX2 HZ2 HS2 HG2
  clear HX HZ HS HG
  have HX : Hid (Blk WA gx 38 #[.int .i64 id, .string v, .int .i64 st, .int .i64 due, .int .i64 lf, .int .i64 ft]) := HX2
  have HZ := HZ2
  have HS := HS2
  have HG := HG2
  clear HX2 HZ2 HS2 HG2
  rw [hW] at HX HZ HS HG
  clear hzWA hW WA
  have hgr := grown_row (cs := #[.int .i64 id, .string v, .int .i64 st, .int .i64 due, .int .i64 lf, .int .i64 ft]) HZ.out
  have HSF := Lib.hid (HS.out.kept hgr hgz)
  have HGF := Lib.hid (grown_over HG.out hgr (fun i e => by injection e with e; omega))
  go_wp2_with (refine wpList_load_row rfl 38 _ rfl gx rfl 38 #[.int .i64 id, .string v, .int .i64 st, .int .i64 due, .int .i64 lf, .int .i64 ft] (0, 0) _ HX.out Try.underlying38 rfl (by kernel_rfl) ?_; refine wpList_store_row rfl 38 _ _ rfl gz #[.int .i64 id, .string v, .int .i64 st, .int .i64 due, .int .i64 lf, .int .i64 ft] rfl rfl 38 #[.int .i64 0, .string ⟨#[]⟩, .int .i64 0, .int .i64 0, .int .i64 0, .int .i64 0] HZ.out (by kernel_rfl) rfl (by simp [Value.oneCell']) ?_)
  try simp only [Exit.inBlock, Exit.then]
  refine bodyPost_ret (results_cell_row (P := Try.prog) rfl _ _ gz 38 #[.int .i64 id, .string v, .int .i64 st, .int .i64 due, .int .i64 lf, .int .i64 ft] (0, 0) _ rfl ?_ Try.underlying38 rfl (by kernel_rfl)) rfl ?_
  · exact setRow_heap _ _ _ _ _ _ HZ.out
  · exact ⟨⟨id, v, st, due, lf, ft⟩, rfl, HV.out, rfl, HSF.out.more (by omega), HGF.out⟩
end Go.Proofs.Ytggficacnmddiaa
