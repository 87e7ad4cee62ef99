/- Drawn orders: one order. Drawn orders: the list, bent. Drawn orders: the lists. Drawn orders for the law on orders of shoes (under way). An order of its own is bent: a box as a row of one. -/
import Derived.Test.YtapnllbbdfoaaaaGreatDoorMDrwS
import Derived.Test.YtapnllbbdfoaaaaGreatDoorMCore
import Derived.Deep.CutBlock
import Derived.Deep.DeepCutAuto
import Derived.Laws.ResultCell

namespace Go.Proofs.YtapnllbbdfoaaaaGreatDoor
open Go.RowKit

theorem grown_row {W : World} {g : Nat} {t : TypeId} {old cs : Array Value} (_h : Blk W g t old) : W.grownBy (W.setRow g cs) (some g) :=
  ⟨rfl, rfl, rfl, by simp, fun i _ hne => setRow_other W g i cs (fun e => hne (by rw [e]))⟩
def Drn (x : Order) : Prop := (x.customer = ⟨#[100, 111, 121, 108, 101]⟩ ∨ x.customer = ⟨#[109, 114, 115, 45, 98, 101, 101]⟩ ∨ x.customer = ⟨#[116, 105, 109]⟩) ∧ (0 ≤ x.stage ∧ x.stage ≤ 4) ∧ (0 ≤ x.due ∧ x.due ≤ 10000) ∧ (0 ≤ x.left ∧ x.left ≤ 100) ∧ (0 ≤ x.fittings ∧ x.fittings ≤ 5) ∧ (x.stage < 2 ∨ x.fittings = 0) ∧ (x.stage < 3 ∨ x.left = 0)
def OutOD (id : Int) (g q : Nat) (w : World) (e : Ending) (w' : World) : Prop := ∃ x : Order, e = .returned x.val ∧ x.customer.size ≤ 100 ∧ x.id = id ∧ Drn x ∧ Src w' g (q + 10) ∧ w.grownBy w' (some g)
def OutO (id : Int) (g q : Nat) (w : World) (e : Ending) (w' : World) : Prop := ∃ x : Order, e = .returned x.val ∧ x.customer.size ≤ 100 ∧ x.id = id ∧ Src w' g (q + 10) ∧ w.grownBy w' (some g)
set_option maxRecDepth 100000 in
set_option maxHeartbeats 4000000 in
theorem l25NewD_c (g q : Nat) (id : Int) (hq : q ≤ 800000000000) (w : World) (hS : Src w g q) : Calls Tryz.prog 34 #[.pointer (some ⟨g, 0, none⟩), .int .i64 id] w (OutOD id g q w) := by
  have HS := Lib.hid hS
  have hgw := hS.lt
  clear hS
  go_enter Tryz.func34, Tryz.ntmps34
  go_wp2_with fail
  obtain ⟨W0, hW0⟩ : ∃ z, z = w.alloc (.cells #[.int .i64 0, .string ⟨#[]⟩, .int .i64 0, .int .i64 0, .int .i64 0, .int .i64 0] 26) := ⟨_, rfl⟩
  obtain ⟨gz, hgz0⟩ : ∃ z, z = w.heap.size := ⟨_, rfl⟩
  have HZ : Hid (Blk W0 gz 26 #[.int .i64 0, .string ⟨#[]⟩, .int .i64 0, .int .i64 0, .int .i64 0, .int .i64 0]) := Lib.hid (by rw [hW0, hgz0]; exact Blk.new _ _ _)
  have hb : Below w.heap.size w W0 := by rw [hW0]; exact bl_alloc (Below.refl _ _) _
  have hzW0 := hb.size
  have hzz := HZ.out.lt
  replace HS := Lib.hid (HS.out.below hb)
  have HG := Lib.hid (grown_of_below hb (some g))
  have hsz : w.heap.size + 1 = W0.heap.size := by rw [hW0, World.size_alloc]
  rw [← hW0, hsz, ← hgz0]
  clear hW0 hb hsz
  have hgz : g < gz := by omega
  have hzw : w.heap.size ≤ gz := by omega
  clear hgz0
  have hA := arr_new W0 9 #[.string ⟨#[100, 111, 121, 108, 101]⟩, .string ⟨#[109, 114, 115, 45, 98, 101, 101]⟩, .string ⟨#[116, 105, 109]⟩]
  refine (text_c g q _ [⟨#[100, 111, 121, 108, 101]⟩, ⟨#[109, 114, 115, 45, 98, 101, 101]⟩, ⟨#[116, 105, 109]⟩] 3 3 (Lib.hid rfl) (by omega) (by omega) (by omega) _ (HS.out.below (bl_alloc (Below.refl _ _) _)) hA (fun ad e => by injection e with e; subst e; simp only; omega)).mono ?_
  clear hA HS
  rintro e W1 ⟨v, hv, rfl, hS, hg⟩
  have HV : Hid (v.size ≤ 100) := Lib.hid (by
    simp only [List.mem_cons, List.not_mem_nil, or_false] at hv
    rcases hv with rfl | rfl | rfl <;> decide)
  have HVV := Lib.hid (show v = ⟨#[100, 111, 121, 108, 101]⟩ ∨ v = ⟨#[109, 114, 115, 45, 98, 101, 101]⟩ ∨ v = ⟨#[116, 105, 109]⟩ by simpa using hv)
  clear hv
  have hzW1 : w.heap.size ≤ W1.heap.size := by have := hg.size; rw [World.size_alloc] at this; omega
  have HS1 := Lib.hid hS
  replace HG := Lib.hid (grown_trans (grown_alloc HG.out _) hg)
  replace HZ := Lib.hid ((HZ.out.alloc _).grown hg (by intro e; injection e; omega))
  clear hS hg
  go_wp2_with fail
  have hzl := HZ.out.lt
  obtain ⟨W2, hW2⟩ : ∃ z, z = W1.alloc (.cells #[.int .i64 id, .string v, .int .i64 0, .int .i64 0, .int .i64 0, .int .i64 0] 26) := ⟨_, rfl⟩
  obtain ⟨gx, hgx0⟩ : ∃ z, z = W1.heap.size := ⟨_, rfl⟩
  have HX : Hid (Blk W2 gx 26 #[.int .i64 id, .string v, .int .i64 0, .int .i64 0, .int .i64 0, .int .i64 0]) := Lib.hid (by rw [hW2, hgx0]; exact Blk.new _ _ _)
  have hb : Below W1.heap.size W1 W2 := by rw [hW2]; exact bl_alloc (Below.refl _ _) _
  have hzW2 := Nat.le_trans hzW1 hb.size
  have HS := Lib.hid (HS1.out.below hb)
  replace HG := Lib.hid (grown_below HG.out hb)
  replace HZ := Lib.hid (HZ.out.below hb)
  have hzx : gz ≠ gx := by omega
  have hgx : g < gx := by omega
  have hxw : w.heap.size ≤ gx := by omega
  rw [← hW2, ← hgx0]
  clear hW2 hgx0 hb HS1
  refine (pick_c g _ 5 (by omega) (by omega) _ HS.out).mono ?_
  clear HS
  rintro e W3 ⟨st, rfl, st0, st1, hS, hg⟩
  have hzW3 := Nat.le_trans hzW2 hg.size
  have HS := Lib.hid hS
  replace HG := Lib.hid (grown_trans HG.out hg)
  replace HZ := Lib.hid (HZ.out.grown hg (by intro e; injection e; omega))
  replace HX := Lib.hid (HX.out.grown hg (by intro e; injection e; omega))
  clear hS hg
  have f2 := HX.out.frozen 2
  have d2 : W3.cell? ⟨gx, 2, none⟩ = some (.int .i64 0) := HX.out.cell 2
  obtain ⟨W4, hW⟩ : ∃ z, z = W3.setCell ⟨gx, 2, none⟩ (.int .i64 st) := ⟨_, rfl⟩
  have HX2 := Lib.hid (HX.out.set_ 2 (.int .i64 st))
  have HZ2 := Lib.hid (HZ.out.far (p := ⟨gx, 2, none⟩) hzx (.int .i64 st))
  have HS2 := Lib.hid (HS.out.far (p := ⟨gx, 2, none⟩) hgx (.int .i64 st))
  have HG2 := Lib.hid (grown_setCell (p := ⟨gx, 2, none⟩) HG.out (.inr hxw) (.int .i64 st))
  have hzW4 : w.heap.size ≤ W4.heap.size := by rw [hW, World.size_setCell]; exact hzW3
  rw [← hW] at HX2 HZ2 HS2 HG2
  clear HX HZ HS HG
  have HX : Hid (Blk W4 gx 26 #[.int .i64 id, .string v, .int .i64 st, .int .i64 0, .int .i64 0, .int .i64 0]) := HX2
  have HZ := HZ2
  have HS := HS2
  have HG := HG2
  clear HX2 HZ2 HS2 HG2
  go_wp2_with fail
  rw [← hW]
  clear hW f2 d2
  refine (pick_c g _ 60 (by omega) (by omega) _ HS.out).mono ?_
  clear HS
  rintro e W5 ⟨due, rfl, due0, due1, hS, hg⟩
  have hzW5 := Nat.le_trans hzW4 hg.size
  have HS := Lib.hid hS
  replace HG := Lib.hid (grown_trans HG.out hg)
  replace HZ := Lib.hid (HZ.out.grown hg (by intro e; injection e; omega))
  replace HX := Lib.hid (HX.out.grown hg (by intro e; injection e; omega))
  clear hS hg
  have f3 := HX.out.frozen 3
  have d3 : W5.cell? ⟨gx, 3, none⟩ = some (.int .i64 0) := HX.out.cell 3
  obtain ⟨W6, hW⟩ : ∃ z, z = W5.setCell ⟨gx, 3, none⟩ (.int .i64 due) := ⟨_, rfl⟩
  have HX2 := Lib.hid (HX.out.set_ 3 (.int .i64 due))
  have HZ2 := Lib.hid (HZ.out.far (p := ⟨gx, 3, none⟩) hzx (.int .i64 due))
  have HS2 := Lib.hid (HS.out.far (p := ⟨gx, 3, none⟩) hgx (.int .i64 due))
  have HG2 := Lib.hid (grown_setCell (p := ⟨gx, 3, none⟩) HG.out (.inr hxw) (.int .i64 due))
  have hzW6 : w.heap.size ≤ W6.heap.size := by rw [hW, World.size_setCell]; exact hzW5
  rw [← hW] at HX2 HZ2 HS2 HG2
  clear HX HZ HS HG
  have HX : Hid (Blk W6 gx 26 #[.int .i64 id, .string v, .int .i64 st, .int .i64 due, .int .i64 0, .int .i64 0]) := HX2
  have HZ := HZ2
  have HS := HS2
  have HG := HG2
  clear HX2 HZ2 HS2 HG2
  have e2 : W6.cell? ⟨gx, 2, none⟩ = some (.int .i64 st) := HX.out.cell 2
  rw [hW] at e2
  by_cases h3 : st < 3
  case neg =>
    have h2 : ¬ st < 2 := by omega
    rw [hW] at HX HZ HS HG
    clear hzW6 hW W6
    have hgr := grown_row (cs := #[.int .i64 id, .string v, .int .i64 st, .int .i64 due, .int .i64 0, .int .i64 0]) HZ.out
    have HSF := Lib.hid (HS.out.kept hgr hgz)
    have HGF := Lib.hid (grown_over HG.out hgr (fun i e => by injection e with e; omega))
    go_wp2_with (refine wpList_load_row rfl 26 _ rfl gx rfl 26 #[.int .i64 id, .string v, .int .i64 st, .int .i64 due, .int .i64 0, .int .i64 0] (0, 0) _ HX.out Tryz.underlying26 rfl (by kernel_rfl) ?_; refine wpList_store_row rfl 26 _ _ rfl gz #[.int .i64 id, .string v, .int .i64 st, .int .i64 due, .int .i64 0, .int .i64 0] rfl rfl 26 #[.int .i64 0, .string ⟨#[]⟩, .int .i64 0, .int .i64 0, .int .i64 0, .int .i64 0] HZ.out (by kernel_rfl) rfl (by simp [Value.oneCell']) ?_)
    try simp only [Exit.inBlock, Exit.then]
    refine bodyPost_ret (results_cell_row (P := Tryz.prog) rfl _ _ gz 26 #[.int .i64 id, .string v, .int .i64 st, .int .i64 due, .int .i64 0, .int .i64 0] (0, 0) _ rfl ?_ Tryz.underlying26 rfl (by kernel_rfl)) rfl ?_
    · exact setRow_heap _ _ _ _ _ _ HZ.out
    · exact ⟨⟨id, v, st, due, 0, 0⟩, rfl, HV.out, rfl, ⟨HVV.out, by dsimp only; omega⟩, HSF.out.more (by omega), HGF.out⟩
  go_wp2_with fail
  rw [← hW]
  rw [← hW] at e2
  clear hW f3 d3
  refine (pick_c g _ 9 (by omega) (by omega) _ HS.out).mono ?_
  clear HS e2
  rintro e W7 ⟨lf, rfl, lf0, lf1, hS, hg⟩
  have hzW7 := Nat.le_trans hzW6 hg.size
  have HS := Lib.hid hS
  replace HG := Lib.hid (grown_trans HG.out hg)
  replace HZ := Lib.hid (HZ.out.grown hg (by intro e; injection e; omega))
  replace HX := Lib.hid (HX.out.grown hg (by intro e; injection e; omega))
  clear hS hg
  have f4 := HX.out.frozen 4
  have d4 : W7.cell? ⟨gx, 4, none⟩ = some (.int .i64 0) := HX.out.cell 4
  obtain ⟨W8, hW⟩ : ∃ z, z = W7.setCell ⟨gx, 4, none⟩ (.int .i64 lf) := ⟨_, rfl⟩
  have HX2 := Lib.hid (HX.out.set_ 4 (.int .i64 lf))
  have HZ2 := Lib.hid (HZ.out.far (p := ⟨gx, 4, none⟩) hzx (.int .i64 lf))
  have HS2 := Lib.hid (HS.out.far (p := ⟨gx, 4, none⟩) hgx (.int .i64 lf))
  have HG2 := Lib.hid (grown_setCell (p := ⟨gx, 4, none⟩) HG.out (.inr hxw) (.int .i64 lf))
  have hzW8 : w.heap.size ≤ W8.heap.size := by rw [hW, World.size_setCell]; exact hzW7
  rw [← hW] at HX2 HZ2 HS2 HG2
  clear HX HZ HS HG
  have HX : Hid (Blk W8 gx 26 #[.int .i64 id, .string v, .int .i64 st, .int .i64 due, .int .i64 lf, .int .i64 0]) := HX2
  have HZ := HZ2
  have HS := HS2
  have HG := HG2
  clear HX2 HZ2 HS2 HG2
  have e2 : W8.cell? ⟨gx, 2, none⟩ = some (.int .i64 st) := HX.out.cell 2
  rw [hW] at e2
  by_cases h2 : st < 2
  case neg =>
    rw [hW] at HX HZ HS HG
    clear hzW8 hW W8
    have hgr := grown_row (cs := #[.int .i64 id, .string v, .int .i64 st, .int .i64 due, .int .i64 lf, .int .i64 0]) HZ.out
    have HSF := Lib.hid (HS.out.kept hgr hgz)
    have HGF := Lib.hid (grown_over HG.out hgr (fun i e => by injection e with e; omega))
    go_wp2_with (refine wpList_load_row rfl 26 _ rfl gx rfl 26 #[.int .i64 id, .string v, .int .i64 st, .int .i64 due, .int .i64 lf, .int .i64 0] (0, 0) _ HX.out Tryz.underlying26 rfl (by kernel_rfl) ?_; refine wpList_store_row rfl 26 _ _ rfl gz #[.int .i64 id, .string v, .int .i64 st, .int .i64 due, .int .i64 lf, .int .i64 0] rfl rfl 26 #[.int .i64 0, .string ⟨#[]⟩, .int .i64 0, .int .i64 0, .int .i64 0, .int .i64 0] HZ.out (by kernel_rfl) rfl (by simp [Value.oneCell']) ?_)
    try simp only [Exit.inBlock, Exit.then]
    refine bodyPost_ret (results_cell_row (P := Tryz.prog) rfl _ _ gz 26 #[.int .i64 id, .string v, .int .i64 st, .int .i64 due, .int .i64 lf, .int .i64 0] (0, 0) _ rfl ?_ Tryz.underlying26 rfl (by kernel_rfl)) rfl ?_
    · exact setRow_heap _ _ _ _ _ _ HZ.out
    · exact ⟨⟨id, v, st, due, lf, 0⟩, rfl, HV.out, rfl, ⟨HVV.out, by dsimp only; omega⟩, HSF.out.more (by omega), HGF.out⟩
  go_wp2_with fail
  rw [← hW]
  rw [← hW] at e2
  clear hW f4 d4
  refine (pick_c g _ 3 (by omega) (by omega) _ HS.out).mono ?_
  clear HS e2
  rintro e W9 ⟨ft, rfl, ft0, ft1, hS, hg⟩
  have hzW9 := Nat.le_trans hzW8 hg.size
  have HS := Lib.hid hS
  replace HG := Lib.hid (grown_trans HG.out hg)
  replace HZ := Lib.hid (HZ.out.grown hg (by intro e; injection e; omega))
  replace HX := Lib.hid (HX.out.grown hg (by intro e; injection e; omega))
  clear hS hg
  have f5 := HX.out.frozen 5
  have d5 : W9.cell? ⟨gx, 5, none⟩ = some (.int .i64 0) := HX.out.cell 5
  obtain ⟨WA, hW⟩ : ∃ z, z = W9.setCell ⟨gx, 5, none⟩ (.int .i64 ft) := ⟨_, rfl⟩
  have HX2 := Lib.hid (HX.out.set_ 5 (.int .i64 ft))
  have HZ2 := Lib.hid (HZ.out.far (p := ⟨gx, 5, none⟩) hzx (.int .i64 ft))
  have HS2 := Lib.hid (HS.out.far (p := ⟨gx, 5, none⟩) hgx (.int .i64 ft))
  have HG2 := Lib.hid (grown_setCell (p := ⟨gx, 5, none⟩) HG.out (.inr hxw) (.int .i64 ft))
  have hzWA : w.heap.size ≤ WA.heap.size := by rw [hW, World.size_setCell]; exact hzW9
  rw [← hW] at HX2 HZ2 HS2 HG2
  clear HX HZ HS HG
  have HX : Hid (Blk WA gx 26 #[.int .i64 id, .string v, .int .i64 st, .int .i64 due, .int .i64 lf, .int .i64 ft]) := HX2
  have HZ := HZ2
  have HS := HS2
  have HG := HG2
  clear HX2 HZ2 HS2 HG2
  rw [hW] at HX HZ HS HG
  clear hzWA hW WA
  have hgr := grown_row (cs := #[.int .i64 id, .string v, .int .i64 st, .int .i64 due, .int .i64 lf, .int .i64 ft]) HZ.out
  have HSF := Lib.hid (HS.out.kept hgr hgz)
  have HGF := Lib.hid (grown_over HG.out hgr (fun i e => by injection e with e; omega))
  go_wp2_with (refine wpList_load_row rfl 26 _ rfl gx rfl 26 #[.int .i64 id, .string v, .int .i64 st, .int .i64 due, .int .i64 lf, .int .i64 ft] (0, 0) _ HX.out Tryz.underlying26 rfl (by kernel_rfl) ?_; refine wpList_store_row rfl 26 _ _ rfl gz #[.int .i64 id, .string v, .int .i64 st, .int .i64 due, .int .i64 lf, .int .i64 ft] rfl rfl 26 #[.int .i64 0, .string ⟨#[]⟩, .int .i64 0, .int .i64 0, .int .i64 0, .int .i64 0] HZ.out (by kernel_rfl) rfl (by simp [Value.oneCell']) ?_)
  try simp only [Exit.inBlock, Exit.then]
  refine bodyPost_ret (results_cell_row (P := Tryz.prog) rfl _ _ gz 26 #[.int .i64 id, .string v, .int .i64 st, .int .i64 due, .int .i64 lf, .int .i64 ft] (0, 0) _ rfl ?_ Tryz.underlying26 rfl (by kernel_rfl)) rfl ?_
  · exact setRow_heap _ _ _ _ _ _ HZ.out
  · exact ⟨⟨id, v, st, due, lf, ft⟩, rfl, HV.out, rfl, ⟨HVV.out, by dsimp only; omega⟩, HSF.out.more (by omega), HGF.out⟩
theorem l25New_c (g q : Nat) (id : Int) (hq : q ≤ 800000000000) (w : World) (hS : Src w g q) : Calls Tryz.prog 34 #[.pointer (some ⟨g, 0, none⟩), .int .i64 id] w (OutO id g q w) := by
  refine (l25NewD_c g q id hq w hS).mono ?_
  rintro e w' ⟨x, a, b, c, _, d⟩
  exact ⟨x, a, b, c, d⟩
end Go.Proofs.YtapnllbbdfoaaaaGreatDoor

namespace Go.Proofs.YtapnllbbdfoaaaaGreatDoor
open Go.RowKit

theorem list_set_same {α : Type} {xs : List α} {k : Nat} {x : α} (h : xs[k]? = some x) : xs.set k x = xs := by
  obtain ⟨hk, e⟩ := List.getElem?_eq_some_iff.1 h
  subst e
  exact List.set_getElem_self hk
def OutSpoil (g q gO base n c : Nat) (xs : List Order) (k : Nat) (w0 : World) (e : Ending) (w' : World) : Prop := ∃ x' : Order, e = .returned (.tuple #[]) ∧ x'.customer.size ≤ 100 ∧ w'.ownsRow base 26 6 (.slice (some ⟨gO, 0, none⟩) n c) n (flat Order.cells (xs.set k x')) ∧ Src w' g (q + 6) ∧ w0.grownBy w' (some g)
set_option maxRecDepth 100000 in
set_option maxHeartbeats 2000000 in
theorem l25Spoil_c (g q gO base n c k : Nat) (xs : List Order) (x : Order) (hq : q ≤ 700000000000) (w0 w : World) (hS : Src w g q) (hO : w.ownsRow base 26 6 (.slice (some ⟨gO, 0, none⟩) n c) n (flat Order.cells xs)) (hX : Hid (xs[k]? = some x)) (hxs : x.customer.size ≤ 100)
    (hgO : g < gO) (hwO : w0.heap.size ≤ gO) (hG : w0.grownBy w (some g)) : Calls Tryz.prog 36 #[.pointer (some ⟨g, 0, none⟩), .pointer (some ⟨gO, k * 6, none⟩)] w (OutSpoil g q gO base n c xs k w0) := by
  have HX := Lib.hid hX.out
  have hkl : k * 6 + 5 < (flat Order.cells xs).length := by
    rw [flat_length Order.cells_length]
    have := (List.getElem?_eq_some_iff.1 hX.out).1
    omega
  have HS0 := Lib.hid hS
  have HO0 := Lib.hid hO
  have HG0 := Lib.hid hG
  have hOl := own_lt hO gO rfl
  clear hX hS hO hG
  go_enter Tryz.func36, Tryz.ntmps36
  go_wp2_with fail
  refine (pick_c g q 6 (by omega) (by omega) _ HS0.out).mono ?_
  rintro e W1 ⟨r, rfl, r0, r1, hS, hg⟩
  have HS := Lib.hid hS
  have HO := Lib.hid (HO0.out.kept hg (.inr (fun e => by have e2 : gO = g := (by simpa [Value.ownBlock] using e); omega)))
  have HG := Lib.hid (grown_trans HG0.out hg)
  have hz := hg.size
  clear hS hg HS0 HO0 HG0
  go_wp2_with fail
  · have hA := arr_new W1 2 #[.int .i64 0, .int .i64 1, .int .i64 9999, .int .i64 10000, .int .i64 (-9223372036854775808)]
    refine (among_c g (q + 2) _ [0, 1, 9999, 10000, -9223372036854775808] 5 5 (Lib.hid rfl) (by omega) (by omega) (by omega) _ (HS.out.below (bl_alloc (Below.refl _ _) _)) hA (fun ad e => by injection e with e; subst e; simp only; omega)).mono ?_
    rintro e W5 ⟨v, hv, rfl, hS5, hg5⟩
    have HV := Lib.hid hv
    have hO5 := (HO.out.alloc (.cells #[.int .i64 0, .int .i64 1, .int .i64 9999, .int .i64 10000, .int .i64 (-9223372036854775808)] 2)).kept hg5 (.inr (fun e => by have e2 : gO = g := (by simpa [Value.ownBlock] using e); omega))
    have hlen := hO5.1
    obtain ⟨u', d1⟩ := own_cell hO5 (j := k * 6) (by omega)
    have fz := hO5.frozenAt (k * 6)
    have HS6 := Lib.hid (hS5.far (p := ⟨gO, k * 6, none⟩) hgO (.int .i64 v))
    have HO6 := Lib.hid (hO5.stored (k * 6) (.int .i64 v)).1
    have HG6 := Lib.hid (grown_setCell (p := ⟨gO, k * 6, none⟩) (grown_trans (grown_alloc HG.out (.cells #[.int .i64 0, .int .i64 1, .int .i64 9999, .int .i64 10000, .int .i64 (-9223372036854775808)] 2)) hg5) (.inr hwO) (.int .i64 v))
    clear hA hS5 hg5 hO5 hlen hv
    go_wp2_with fail
    go_returns
    refine ⟨{ x with id := v }, rfl, hxs, ?_, HS6.out.more (by omega), HG6.out⟩
    rw [← flat_set_at Order.cells 6 Order.cells_length 0 (by omega) (.int .i64 v) x { x with id := v } rfl xs k HX.out]
    exact HO6.out
  · have hA := arr_new W1 9 #[.string ⟨#[]⟩, .string ⟨#[68, 111, 121, 108, 101]⟩]
    refine (text_c g (q + 2) _ [⟨#[]⟩, ⟨#[68, 111, 121, 108, 101]⟩] 2 2 (Lib.hid rfl) (by omega) (by omega) (by omega) _ (HS.out.below (bl_alloc (Below.refl _ _) _)) hA (fun ad e => by injection e with e; subst e; simp only; omega)).mono ?_
    rintro e W5 ⟨v, hv, rfl, hS5, hg5⟩
    have HV := Lib.hid hv
    have hO5 := (HO.out.alloc (.cells #[.string ⟨#[]⟩, .string ⟨#[68, 111, 121, 108, 101]⟩] 9)).kept hg5 (.inr (fun e => by have e2 : gO = g := (by simpa [Value.ownBlock] using e); omega))
    have hlen := hO5.1
    obtain ⟨u', d1⟩ := own_cell hO5 (j := k * 6 + 1) (by omega)
    have fz := hO5.frozenAt (k * 6 + 1)
    have HS6 := Lib.hid (hS5.far (p := ⟨gO, k * 6 + 1, none⟩) hgO (.string v))
    have HO6 := Lib.hid (hO5.stored (k * 6 + 1) (.string v)).1
    have HG6 := Lib.hid (grown_setCell (p := ⟨gO, k * 6 + 1, none⟩) (grown_trans (grown_alloc HG.out (.cells #[.string ⟨#[]⟩, .string ⟨#[68, 111, 121, 108, 101]⟩] 9)) hg5) (.inr hwO) (.string v))
    clear hA hS5 hg5 hO5 hlen hv
    go_wp2_with fail
    go_returns
    refine ⟨{ x with customer := v }, rfl, by have hv := HV.out; simp only [List.mem_cons, List.not_mem_nil, or_false] at hv; rcases hv with rfl | rfl <;> (dsimp only; decide), ?_, HS6.out.more (by omega), HG6.out⟩
    rw [← flat_set_at Order.cells 6 Order.cells_length 1 (by omega) (.string v) x { x with customer := v } rfl xs k HX.out]
    exact HO6.out
  · have hA := arr_new W1 2 #[.int .i64 (-1), .int .i64 0, .int .i64 3, .int .i64 4, .int .i64 5]
    refine (among_c g (q + 2) _ [-1, 0, 3, 4, 5] 5 5 (Lib.hid rfl) (by omega) (by omega) (by omega) _ (HS.out.below (bl_alloc (Below.refl _ _) _)) hA (fun ad e => by injection e with e; subst e; simp only; omega)).mono ?_
    rintro e W5 ⟨v, hv, rfl, hS5, hg5⟩
    have HV := Lib.hid hv
    have hO5 := (HO.out.alloc (.cells #[.int .i64 (-1), .int .i64 0, .int .i64 3, .int .i64 4, .int .i64 5] 2)).kept hg5 (.inr (fun e => by have e2 : gO = g := (by simpa [Value.ownBlock] using e); omega))
    have hlen := hO5.1
    obtain ⟨u', d1⟩ := own_cell hO5 (j := k * 6 + 2) (by omega)
    have fz := hO5.frozenAt (k * 6 + 2)
    have HS6 := Lib.hid (hS5.far (p := ⟨gO, k * 6 + 2, none⟩) hgO (.int .i64 v))
    have HO6 := Lib.hid (hO5.stored (k * 6 + 2) (.int .i64 v)).1
    have HG6 := Lib.hid (grown_setCell (p := ⟨gO, k * 6 + 2, none⟩) (grown_trans (grown_alloc HG.out (.cells #[.int .i64 (-1), .int .i64 0, .int .i64 3, .int .i64 4, .int .i64 5] 2)) hg5) (.inr hwO) (.int .i64 v))
    clear hA hS5 hg5 hO5 hlen hv
    go_wp2_with fail
    go_returns
    refine ⟨{ x with stage := v }, rfl, hxs, ?_, HS6.out.more (by omega), HG6.out⟩
    rw [← flat_set_at Order.cells 6 Order.cells_length 2 (by omega) (.int .i64 v) x { x with stage := v } rfl xs k HX.out]
    exact HO6.out
  · have hA := arr_new W1 2 #[.int .i64 (-1), .int .i64 0, .int .i64 10000, .int .i64 10001]
    refine (among_c g (q + 2) _ [-1, 0, 10000, 10001] 4 4 (Lib.hid rfl) (by omega) (by omega) (by omega) _ (HS.out.below (bl_alloc (Below.refl _ _) _)) hA (fun ad e => by injection e with e; subst e; simp only; omega)).mono ?_
    rintro e W5 ⟨v, hv, rfl, hS5, hg5⟩
    have HV := Lib.hid hv
    have hO5 := (HO.out.alloc (.cells #[.int .i64 (-1), .int .i64 0, .int .i64 10000, .int .i64 10001] 2)).kept hg5 (.inr (fun e => by have e2 : gO = g := (by simpa [Value.ownBlock] using e); omega))
    have hlen := hO5.1
    obtain ⟨u', d1⟩ := own_cell hO5 (j := k * 6 + 3) (by omega)
    have fz := hO5.frozenAt (k * 6 + 3)
    have HS6 := Lib.hid (hS5.far (p := ⟨gO, k * 6 + 3, none⟩) hgO (.int .i64 v))
    have HO6 := Lib.hid (hO5.stored (k * 6 + 3) (.int .i64 v)).1
    have HG6 := Lib.hid (grown_setCell (p := ⟨gO, k * 6 + 3, none⟩) (grown_trans (grown_alloc HG.out (.cells #[.int .i64 (-1), .int .i64 0, .int .i64 10000, .int .i64 10001] 2)) hg5) (.inr hwO) (.int .i64 v))
    clear hA hS5 hg5 hO5 hlen hv
    go_wp2_with fail
    go_returns
    refine ⟨{ x with due := v }, rfl, hxs, ?_, HS6.out.more (by omega), HG6.out⟩
    rw [← flat_set_at Order.cells 6 Order.cells_length 3 (by omega) (.int .i64 v) x { x with due := v } rfl xs k HX.out]
    exact HO6.out
  · have hA := arr_new W1 2 #[.int .i64 (-1), .int .i64 0, .int .i64 100, .int .i64 101]
    refine (among_c g (q + 2) _ [-1, 0, 100, 101] 4 4 (Lib.hid rfl) (by omega) (by omega) (by omega) _ (HS.out.below (bl_alloc (Below.refl _ _) _)) hA (fun ad e => by injection e with e; subst e; simp only; omega)).mono ?_
    rintro e W5 ⟨v, hv, rfl, hS5, hg5⟩
    have HV := Lib.hid hv
    have hO5 := (HO.out.alloc (.cells #[.int .i64 (-1), .int .i64 0, .int .i64 100, .int .i64 101] 2)).kept hg5 (.inr (fun e => by have e2 : gO = g := (by simpa [Value.ownBlock] using e); omega))
    have hlen := hO5.1
    obtain ⟨u', d1⟩ := own_cell hO5 (j := k * 6 + 4) (by omega)
    have fz := hO5.frozenAt (k * 6 + 4)
    have HS6 := Lib.hid (hS5.far (p := ⟨gO, k * 6 + 4, none⟩) hgO (.int .i64 v))
    have HO6 := Lib.hid (hO5.stored (k * 6 + 4) (.int .i64 v)).1
    have HG6 := Lib.hid (grown_setCell (p := ⟨gO, k * 6 + 4, none⟩) (grown_trans (grown_alloc HG.out (.cells #[.int .i64 (-1), .int .i64 0, .int .i64 100, .int .i64 101] 2)) hg5) (.inr hwO) (.int .i64 v))
    clear hA hS5 hg5 hO5 hlen hv
    go_wp2_with fail
    go_returns
    refine ⟨{ x with left := v }, rfl, hxs, ?_, HS6.out.more (by omega), HG6.out⟩
    rw [← flat_set_at Order.cells 6 Order.cells_length 4 (by omega) (.int .i64 v) x { x with left := v } rfl xs k HX.out]
    exact HO6.out
  · have hA := arr_new W1 2 #[.int .i64 (-1), .int .i64 0, .int .i64 5, .int .i64 6]
    refine (among_c g (q + 2) _ [-1, 0, 5, 6] 4 4 (Lib.hid rfl) (by omega) (by omega) (by omega) _ (HS.out.below (bl_alloc (Below.refl _ _) _)) hA (fun ad e => by injection e with e; subst e; simp only; omega)).mono ?_
    rintro e W5 ⟨v, hv, rfl, hS5, hg5⟩
    have HV := Lib.hid hv
    have hO5 := (HO.out.alloc (.cells #[.int .i64 (-1), .int .i64 0, .int .i64 5, .int .i64 6] 2)).kept hg5 (.inr (fun e => by have e2 : gO = g := (by simpa [Value.ownBlock] using e); omega))
    have hlen := hO5.1
    obtain ⟨u', d1⟩ := own_cell hO5 (j := k * 6 + 5) (by omega)
    have fz := hO5.frozenAt (k * 6 + 5)
    have HS6 := Lib.hid (hS5.far (p := ⟨gO, k * 6 + 5, none⟩) hgO (.int .i64 v))
    have HO6 := Lib.hid (hO5.stored (k * 6 + 5) (.int .i64 v)).1
    have HG6 := Lib.hid (grown_setCell (p := ⟨gO, k * 6 + 5, none⟩) (grown_trans (grown_alloc HG.out (.cells #[.int .i64 (-1), .int .i64 0, .int .i64 5, .int .i64 6] 2)) hg5) (.inr hwO) (.int .i64 v))
    clear hA hS5 hg5 hO5 hlen hv
    go_wp2_with fail
    go_returns
    refine ⟨{ x with fittings := v }, rfl, hxs, ?_, HS6.out.more (by omega), HG6.out⟩
    rw [← flat_set_at Order.cells 6 Order.cells_length 5 (by omega) (.int .i64 v) x { x with fittings := v } rfl xs k HX.out]
    exact HO6.out
end Go.Proofs.YtapnllbbdfoaaaaGreatDoor

namespace Go.Proofs.YtapnllbbdfoaaaaGreatDoor
open Go.RowKit

theorem info_OrderD : (Tryz.prog.info? 26).map (fun i => (i.zero, i.size, i.bytes)) = some (some (.agg #[.int .i64 0, .string ByteArray.empty, .int .i64 0, .int .i64 0, .int .i64 0, .int .i64 0]), 6, 56) := by kernel_rfl
def OutDrawN (g q : Nat) (w : World) (e : Ending) (w' : World) : Prop := ∃ (A : Option Addr) (xs : List Order) (n c : Nat), e = .returned (.slice A n c) ∧ xs.length = n ∧ n ≤ 7 ∧ (∀ x ∈ xs, x.customer.size ≤ 100) ∧ w'.ownsRow w.heap.size 26 6 (.slice A n c) n (flat Order.cells xs) ∧ Src w' g (q + 100) ∧ w.grownBy w' (some g) ∧ A ≠ none
def OutDrawO (g q : Nat) (w : World) (e : Ending) (w' : World) : Prop := ∃ (A : Option Addr) (xs : List Order) (n c : Nat), e = .returned (.slice A n c) ∧ xs.length = n ∧ n ≤ 7 ∧ (∀ x ∈ xs, x.customer.size ≤ 100) ∧ w'.ownsRow w.heap.size 26 6 (.slice A n c) n (flat Order.cells xs) ∧ Src w' g (q + 100) ∧ w.grownBy w' (some g)
set_option maxRecDepth 100000 in
set_option maxHeartbeats 2000000 in
theorem l25DrawN_c (g q : Nat) (hq : q ≤ 600000000000) (w : World) (hS : Src w g q) : Calls Tryz.prog 61 #[.pointer (some ⟨g, 0, none⟩)] w (OutDrawN g q w) := by
  have HS := Lib.hid hS
  have hgw := hS.lt
  clear hS
  obtain ⟨i0, hi0, hz0, hz1, hz2⟩ := info_parts (P := Tryz.prog) (e := 26) (z := .agg #[.int .i64 0, .string ByteArray.empty, .int .i64 0, .int .i64 0, .int .i64 0, .int .i64 0]) (size := 6) (bytes := 56) info_OrderD
  go_enter Tryz.func61, Tryz.ntmps61
  go_wp2_with fail
  have hO0 := own_empty w w.heap.size 26 6 (Nat.le_refl _)
  refine (pick_c g q 3 (by omega) (by omega) _ (HS.out.below (bl_alloc (Below.refl _ _) _))).mono ?_
  rintro e W0 ⟨idz, rfl, idz0, idz1, hS0, hg0⟩
  have HO0 := Lib.hid (hO0.kept hg0 (.inr (fun e => by have := own_at hO0 g e; omega)))
  have HG0 := Lib.hid (grown_trans (grown_of_below (bl_alloc (Below.refl _ _) (.cells #[] 26)) (some g)) hg0)
  have HS0 := Lib.hid hS0
  have hz0' : w.heap.size ≤ W0.heap.size := by have := hg0.size; rw [World.size_alloc] at this; omega
  clear hO0 hS0 hg0 HS
  go_wp2_with fail
  refine (pick_c g (q + 2) 8 (by omega) (by omega) _ HS0.out).mono ?_
  rintro e W1 ⟨r, rfl, r0, r1, hS1, hg1⟩
  obtain ⟨kk, rfl⟩ := Int.eq_ofNat_of_zero_le r0
  have HS1 := Lib.hid hS1
  have HG1 := Lib.hid (grown_trans HG0.out hg1)
  have HO1 := Lib.hid (HO0.out.kept hg1 (.inr (fun e => by have := own_at HO0.out g e; omega)))
  have hs0 := Nat.le_trans hz0' hg1.size
  clear hg1 hS1 HS0 HG0 HO0
  go_wp2_with fail
  go_loopw [3, 4, 5] (fun v d i wr => ∃ (j kv : Nat) (id : Int) (xs : List Order) (A' : Option Addr) (c' : Nat), v = .slice A' j c' ∧ d = .int .i64 id ∧ i = .int .i64 kv ∧ j + kv ≤ 7 ∧ 0 ≤ id ∧ id ≤ 10 + 10 * (j : Int) ∧ w.heap.size ≤ wr.heap.size ∧ Hid (xs.length = j) ∧ Hid (∀ x ∈ xs, x.customer.size ≤ 100) ∧ wr.ownsRow w.heap.size 26 6 (.slice A' j c') j (flat Order.cells xs) ∧ Hid (Src wr g (q + 4 + 12 * j)) ∧ Hid (w.grownBy wr (some g)) ∧ Hid (A' ≠ none)) (fun _ _ i _ => (intOf i).toNat)
  case atStart => exact ⟨0, kk, 1 + idz, [], _, _, rfl, rfl, rfl, by omega, by omega, by omega, hs0, Lib.hid rfl, Lib.hid (by simp), HO1.out, HS1, HG1, Lib.hid (by simp)⟩
  case round =>
    clear HS1 HG1 HO1
    obtain ⟨j, kv, id, xs, A', c', rfl, rfl, rfl, hjk, id0, id1, hsz, hxl, hxs, hown, hS, hg, hne⟩ := hrel
    by_cases hk : 0 < kv
    · have hk0 : (0 : Int) < (kv : Int) := by omega
      go_wp2_with fail
      refine (l25New_c g (q + 4 + 12 * j) id (by omega) _ hS.out).mono ?_
      rintro e W ⟨x, rfl, hxn, hxi, hS2, hg2⟩
      have hown1 := hown.kept hg2 (.inr (fun e => by have := own_at hown g e; omega))
      have HG2 := Lib.hid (grown_trans hg.out hg2)
      have hgW := Nat.le_trans hsz hg2.size
      have HS2 := Lib.hid hS2
      have HXN := Lib.hid hxn
      clear hxn hS2 hg2 hown hxi
      unfold Order.val
      go_wp2_with (at_builtin; refine app_own W #[.int .i64 x.id, .string x.customer, .int .i64 x.stage, .int .i64 x.due, .int .i64 x.left, .int .i64 x.fittings] rfl _ _ 24 26 rfl i0 _ 6 56 Tryz.underlying24 hi0 hz0 hz1 hz2 rfl (by omega) w.heap.size (.slice A' j c') j _ rfl rfl hown1 rfl (by simp [Value.oneCell']) (by unfold maxLen; omega) (by omega) (by omega) ?_; intro A2 c2 w2 hown2 hg3)
      have hr : ∀ i, (Value.slice A' j c').ownBlock = some i → w.heap.size ≤ i := own_at hown1
      have HS3 := Lib.hid (HS2.out.over hg3 (fun i e => by have := hr i e; omega))
      have HG3 := Lib.hid (grown_over HG2.out hg3 (fun i e => by have := hr i e; omega))
      have e : flat Order.cells (xs ++ [x]) = flat Order.cells xs ++ #[Value.int .i64 x.id, .string x.customer, .int .i64 x.stage, .int .i64 x.due, .int .i64 x.left, .int .i64 x.fittings].toList := by simp [flat, Order.cells]
      rw [← e] at hown2
      have hs3 := Nat.le_trans hgW hg3.size
      clear hown1 hg3 HS2 HG2 e hr
      refine (pick_c g _ 3 (by omega) (by omega) _ HS3.out).mono ?_
      rintro e W4 ⟨p, rfl, p0, p1, hS4, hg4⟩
      have HS4 := Lib.hid hS4
      have HO4 := Lib.hid (hown2.kept hg4 (.inr (fun e => by have := own_at hown2 g e; omega)))
      have HG4 := Lib.hid (grown_trans HG3.out hg4)
      have hs4 := Nat.le_trans hs3 hg4.size
      clear hS4 hg4 hown2
      go_wp2_with fail
      refine ⟨⟨j + 1, kv - 1, id + (1 + p), xs ++ [x], A2, c2, rfl, rfl, vi (by omega), by omega, by omega, by omega, hs4, Lib.hid (by rw [List.length_append, hxl.out]; rfl), Lib.hid ?_, HO4.out, Lib.hid (HS4.out.more (by omega)), HG4, Lib.hid (by obtain ⟨z, hz⟩ := own_addr HO4.out (by omega); rw [hz]; simp)⟩, by simp [intOf]; omega⟩
      intro y hy
      rcases List.mem_append.1 hy with hy | hy
      · exact hxs.out y hy
      · have hyx : y = x := by simpa using hy
        subst hyx
        exact HXN.out
    · have hk0 : ¬ (0 : Int) < (kv : Int) := by omega
      go_wp2_with fail
      go_returns
      exact ⟨A', xs, j, c', rfl, hxl.out, by omega, hxs.out, hown, hS.out.more (by omega), hg.out, hne.out⟩
theorem l25Draw_c (g q : Nat) (hq : q ≤ 600000000000) (w : World) (hS : Src w g q) : Calls Tryz.prog 61 #[.pointer (some ⟨g, 0, none⟩)] w (OutDrawO g q w) := by
  refine (l25DrawN_c g q hq w hS).mono ?_
  rintro e w' ⟨A, xs, n, c, h1, h2, h3, h4, h5, h6, h7, _⟩
  exact ⟨A, xs, n, c, h1, h2, h3, h4, h5, h6, h7⟩

def OutBentN (g q : Nat) (w : World) (e : Ending) (w' : World) : Prop := ∃ (A : Option Addr) (xs : List Order) (n c : Nat), e = .returned (.slice A n c) ∧ xs.length = n ∧ n ≤ 31 ∧ (∀ x ∈ xs, x.customer.size ≤ 100) ∧ w'.ownsRow w.heap.size 26 6 (.slice A n c) n (flat Order.cells xs) ∧ Src w' g (q + 500) ∧ w.grownBy w' (some g) ∧ A ≠ none
def OutBentO (g q : Nat) (w : World) (e : Ending) (w' : World) : Prop := ∃ (A : Option Addr) (xs : List Order) (n c : Nat), e = .returned (.slice A n c) ∧ xs.length = n ∧ n ≤ 31 ∧ (∀ x ∈ xs, x.customer.size ≤ 100) ∧ w'.ownsRow w.heap.size 26 6 (.slice A n c) n (flat Order.cells xs) ∧ Src w' g (q + 500) ∧ w.grownBy w' (some g)
set_option maxRecDepth 100000 in
set_option maxHeartbeats 2000000 in
theorem l25BentN_c (g q : Nat) (hq : q ≤ 500000000000) (w : World) (hS : Src w g q) : Calls Tryz.prog 32 #[.pointer (some ⟨g, 0, none⟩)] w (OutBentN g q w) := by
  have HS := Lib.hid hS
  have hgw := hS.lt
  clear hS
  obtain ⟨i0, hi0, hz0, hz1, hz2⟩ := info_parts (P := Tryz.prog) (e := 26) (z := .agg #[.int .i64 0, .string ByteArray.empty, .int .i64 0, .int .i64 0, .int .i64 0, .int .i64 0]) (size := 6) (bytes := 56) info_OrderD
  go_enter Tryz.func32, Tryz.ntmps32
  go_wp2_with fail
  refine (l25DrawN_c g q (by omega) _ HS.out).mono ?_
  rintro e W1 ⟨A, xs, n, c, rfl, hxl, hn5, hxs, hown, hS1, hg1, hne⟩
  have HNE := Lib.hid hne
  clear hne
  have HS1 := Lib.hid hS1
  have HG1 := Lib.hid hg1
  have HXL := Lib.hid hxl
  have HXS := Lib.hid hxs
  have HOWN := Lib.hid hown
  have hgW := hg1.size
  clear hS1 hg1 hxl hxs hown HS
  go_wp2_with fail
  refine (one_c g (q + 100) 24 (by omega) (by omega) _ HS1.out).mono ?_
  rintro e W2 ⟨b, rfl, hS2, hg2⟩
  have HS2 := Lib.hid hS2
  have HG2 := Lib.hid (grown_trans HG1.out hg2)
  have HOWN2 := Lib.hid (HOWN.out.kept hg2 (.inr (fun e => by have := own_at HOWN.out g e; omega)))
  have hgW2 := Nat.le_trans hgW hg2.size
  clear hS2 hg2 HS1 HG1 HOWN
  cases b
  · obtain ⟨q2, hq2⟩ : ∃ q2, q2 = q + 102 := ⟨_, rfl⟩
    rw [← hq2] at HS2
    by_cases hn0 : n = 0
    case pos =>
      subst hn0
      go_wp2_with fail
      go_returns
      exact ⟨A, xs, 0, c, rfl, HXL.out, by omega, HXS.out, HOWN2.out, HS2.out.more (by omega), HG2.out, HNE.out⟩
    have hn1 : (0 : Int) < (n : Int) := by omega
    have hn2 : 0 < n := by omega
    go_wp2_with fail
    refine (one_c g q2 10 (by omega) (by omega) _ HS2.out).mono ?_
    rintro e W3 ⟨b3, rfl, hS3, hg3⟩
    have HS3 := Lib.hid hS3
    have HG3 := Lib.hid (grown_trans HG2.out hg3)
    have HOWN3 := Lib.hid (HOWN2.out.kept hg3 (.inr (fun e => by have := own_at HOWN2.out g e; omega)))
    have hgW3 := Nat.le_trans hgW2 hg3.size
    clear hS3 hg3
    cases b3
    case false =>
      go_wp2_with fail
      go_returns
      exact ⟨A, xs, n, c, rfl, HXL.out, by omega, HXS.out, HOWN3.out, HS3.out.more (by omega), HG3.out, HNE.out⟩
    go_wp2_with fail
    refine (pick_c g (q2 + 2) (n : Int) (by omega) (by omega) _ HS3.out).mono ?_
    rintro e W4 ⟨r3, rfl, r30, r31, hS3, hg3⟩
    obtain ⟨k, rfl⟩ := Int.eq_ofNat_of_zero_le r30
    have hkn : k < n := by omega
    have HS4 := Lib.hid hS3
    have HG4 := Lib.hid (grown_trans HG3.out hg3)
    have HOWN4 := Lib.hid (HOWN3.out.kept hg3 (.inr (fun e => by have := own_at HOWN3.out g e; omega)))
    have hgW4 := Nat.le_trans hgW3 hg3.size
    have hkn1 : (k : Int) < (n : Int) := by omega
    have hkn0 : (0 : Int) ≤ (k : Int) := by omega
    clear hS3 hg3 r31
    obtain ⟨gO, rfl⟩ := own_addr HOWN4.out (by omega)
    obtain ⟨x, hx⟩ := get_of_lt (xs := xs) (k := k) (by rw [HXL.out]; exact hkn)
    have HX := Lib.hid hx
    have hxs' := HXS.out x (List.mem_of_getElem? hx)
    clear hx
    go_wp2_with fail
    have hgO := own_at HOWN4.out gO rfl
    refine (l25Spoil_c g (q2 + 4) gO w.heap.size n c k xs x (by omega) w _ HS4.out HOWN4.out HX hxs' (by omega) hgO HG4.out).mono ?_
    rintro e W5 ⟨x', rfl, hx', hO5, hS5, hG5⟩
    go_wp2_with fail
    go_returns
    refine ⟨_, xs.set k x', n, c, rfl, by rw [List.length_set]; exact HXL.out, by omega, ?_, hO5, hS5.more (by omega), hG5, by simp⟩
    intro y hy
    rcases List.mem_or_eq_of_mem_set hy with hy | hy
    · exact HXS.out y hy
    · subst hy
      exact hx'
  · go_wp2_with fail
    have hO0 := own_empty W2 w.heap.size 26 6 (by omega)
    refine (pick_c g (q + 102) 2 (by omega) (by omega) _ (HS2.out.below (bl_alloc (Below.refl _ _) _))).mono ?_
    rintro e W3 ⟨r, rfl, r0, r1, hS3, hg3⟩
    obtain ⟨kk, rfl⟩ := Int.eq_ofNat_of_zero_le r0
    have HS3 := Lib.hid hS3
    have HO3 := Lib.hid (hO0.kept hg3 (.inr (fun e => by have := own_at hO0 g e; omega)))
    have HG3 := Lib.hid (grown_trans (grown_alloc HG2.out (.cells #[] 26)) hg3)
    have hs3 : w.heap.size ≤ W3.heap.size := by have := hg3.size; rw [World.size_alloc] at this; omega
    clear hS3 hO0 hg3 HS2 HG2 HOWN2 HXL HXS
    go_wp2_with fail
    go_loopw [3, 4] (fun v i wr => ∃ (j kv : Nat) (ys : List Order) (A' : Option Addr) (c' : Nat), v = .slice A' j c' ∧ i = .int .i64 kv ∧ j + kv ≤ 31 ∧ w.heap.size ≤ wr.heap.size ∧ Hid (ys.length = j) ∧ Hid (∀ x ∈ ys, x.customer.size ≤ 100) ∧ wr.ownsRow w.heap.size 26 6 (.slice A' j c') j (flat Order.cells ys) ∧ Hid (Src wr g (q + 104 + 10 * j)) ∧ Hid (w.grownBy wr (some g)) ∧ Hid (A' ≠ none)) (fun _ i _ => (intOf i).toNat)
    case atStart => exact ⟨0, 30 + kk, [], _, _, rfl, by simp, by omega, hs3, Lib.hid rfl, Lib.hid (by simp), HO3.out, HS3, HG3, Lib.hid (by simp)⟩
    case round =>
      clear HS3 HO3 HG3
      clear HNE
      obtain ⟨j, kv, xs, A, c, rfl, rfl, hjk, hsz, hxl, hxs, hown, hS, hg, HNE⟩ := hrel
      by_cases hk : 0 < kv
      · have hk0 : (0 : Int) < (kv : Int) := by omega
        go_wp2_with fail
        refine (l25New_c g (q + 104 + 10 * j) _ (by omega) _ hS.out).mono ?_
        rintro e W ⟨x, rfl, hxn, hxi, hS2, hg2⟩
        have hown1 := hown.kept hg2 (.inr (fun e => by have := own_at hown g e; omega))
        have HG2 := Lib.hid (grown_trans hg.out hg2)
        have hgW := Nat.le_trans hsz hg2.size
        have HS2 := Lib.hid hS2
        have HXN := Lib.hid hxn
        clear hxn hS2 hg2 hown hxi
        unfold Order.val
        go_wp2_with (at_builtin; refine app_own W #[.int .i64 x.id, .string x.customer, .int .i64 x.stage, .int .i64 x.due, .int .i64 x.left, .int .i64 x.fittings] rfl _ _ 24 26 rfl i0 _ 6 56 Tryz.underlying24 hi0 hz0 hz1 hz2 rfl (by omega) w.heap.size (.slice A j c) j _ rfl rfl hown1 rfl (by simp [Value.oneCell']) (by unfold maxLen; omega) (by omega) (by omega) ?_; intro A2 c2 w2 hown2 hg3)
        have hr : ∀ i, (Value.slice A j c).ownBlock = some i → w.heap.size ≤ i := own_at hown1
        have HS3 := Lib.hid (HS2.out.over hg3 (fun i e => by have := hr i e; omega))
        have HG3 := Lib.hid (grown_over HG2.out hg3 (fun i e => by have := hr i e; omega))
        have e : flat Order.cells (xs ++ [x]) = flat Order.cells xs ++ #[Value.int .i64 x.id, .string x.customer, .int .i64 x.stage, .int .i64 x.due, .int .i64 x.left, .int .i64 x.fittings].toList := by simp [flat, Order.cells]
        rw [← e] at hown2
        have hs3 := Nat.le_trans hgW hg3.size
        refine ⟨⟨j + 1, kv - 1, xs ++ [x], A2, c2, rfl, vi (by omega), by omega, hs3, Lib.hid (by rw [List.length_append, hxl.out]; rfl), Lib.hid ?_, hown2, Lib.hid (HS3.out.more (by omega)), HG3, Lib.hid (by obtain ⟨z, hz⟩ := own_addr hown2 (by omega); rw [hz]; simp)⟩, by simp [intOf]; omega⟩
        intro y hy
        rcases List.mem_append.1 hy with hy | hy
        · exact hxs.out y hy
        · have hyx : y = x := by simpa using hy
          subst hyx
          exact HXN.out
      · have hk0 : ¬ (0 : Int) < (kv : Int) := by omega
        obtain ⟨W2, rfl⟩ : ∃ z, z = wr := ⟨_, rfl⟩
        obtain ⟨n, rfl⟩ : ∃ z, z = j := ⟨_, rfl⟩
        have HXL := hxl
        have HXS := hxs
        have HOWN2 := Lib.hid hown
        have HG2 := hg
        have hgW2 := hsz
        have hn5 : n ≤ 31 := by omega
        obtain ⟨q2, hq2⟩ : ∃ q2, q2 = q + 104 + 10 * n := ⟨_, rfl⟩
        rw [← hq2] at hS
        have HS2 := hS
        clear hxl hxs hown hg hsz hS
        by_cases hn0 : n = 0
        case pos =>
          subst hn0
          go_wp2_with fail
          go_returns
          exact ⟨A, xs, 0, c, rfl, HXL.out, by omega, HXS.out, HOWN2.out, HS2.out.more (by omega), HG2.out, HNE.out⟩
        have hn1 : (0 : Int) < (n : Int) := by omega
        have hn2 : 0 < n := by omega
        go_wp2_with fail
        refine (one_c g q2 10 (by omega) (by omega) _ HS2.out).mono ?_
        rintro e W3 ⟨b3, rfl, hS3, hg3⟩
        have HS3 := Lib.hid hS3
        have HG3 := Lib.hid (grown_trans HG2.out hg3)
        have HOWN3 := Lib.hid (HOWN2.out.kept hg3 (.inr (fun e => by have := own_at HOWN2.out g e; omega)))
        have hgW3 := Nat.le_trans hgW2 hg3.size
        clear hS3 hg3
        cases b3
        case false =>
          go_wp2_with fail
          go_returns
          exact ⟨A, xs, n, c, rfl, HXL.out, by omega, HXS.out, HOWN3.out, HS3.out.more (by omega), HG3.out, HNE.out⟩
        go_wp2_with fail
        refine (pick_c g (q2 + 2) (n : Int) (by omega) (by omega) _ HS3.out).mono ?_
        rintro e W4 ⟨r3, rfl, r30, r31, hS3, hg3⟩
        obtain ⟨k, rfl⟩ := Int.eq_ofNat_of_zero_le r30
        have hkn : k < n := by omega
        have HS4 := Lib.hid hS3
        have HG4 := Lib.hid (grown_trans HG3.out hg3)
        have HOWN4 := Lib.hid (HOWN3.out.kept hg3 (.inr (fun e => by have := own_at HOWN3.out g e; omega)))
        have hgW4 := Nat.le_trans hgW3 hg3.size
        have hkn1 : (k : Int) < (n : Int) := by omega
        have hkn0 : (0 : Int) ≤ (k : Int) := by omega
        clear hS3 hg3 r31
        obtain ⟨gO, rfl⟩ := own_addr HOWN4.out (by omega)
        obtain ⟨x, hx⟩ := get_of_lt (xs := xs) (k := k) (by rw [HXL.out]; exact hkn)
        have HX := Lib.hid hx
        have hxs' := HXS.out x (List.mem_of_getElem? hx)
        clear hx
        go_wp2_with fail
        have hgO := own_at HOWN4.out gO rfl
        refine (l25Spoil_c g (q2 + 4) gO w.heap.size n c k xs x (by omega) w _ HS4.out HOWN4.out HX hxs' (by omega) hgO HG4.out).mono ?_
        rintro e W5 ⟨x', rfl, hx', hO5, hS5, hG5⟩
        go_wp2_with fail
        go_returns
        refine ⟨_, xs.set k x', n, c, rfl, by rw [List.length_set]; exact HXL.out, by omega, ?_, hO5, hS5.more (by omega), hG5, by simp⟩
        intro y hy
        rcases List.mem_or_eq_of_mem_set hy with hy | hy
        · exact HXS.out y hy
        · subst hy
          exact hx'
theorem l25Bent_c (g q : Nat) (hq : q ≤ 500000000000) (w : World) (hS : Src w g q) : Calls Tryz.prog 32 #[.pointer (some ⟨g, 0, none⟩)] w (OutBentO g q w) := by
  refine (l25BentN_c g q hq w hS).mono ?_
  rintro e w' ⟨A, xs, n, c, h1, h2, h3, h4, h5, h6, h7, _⟩
  exact ⟨A, xs, n, c, h1, h2, h3, h4, h5, h6, h7⟩
def OutDay (w : World) (e : Ending) (w' : World) : Prop := ∃ (A : Option Addr) (xs : List Order) (n c : Nat) (day : Int), e = .returned (.tuple #[.slice A n c, .int .i64 day]) ∧ xs.length = n ∧ n ≤ 31 ∧ (∀ x ∈ xs, x.customer.size ≤ 100) ∧ w'.ownsRow w.heap.size 26 6 (.slice A n c) n (flat Order.cells xs) ∧ Below w.heap.size w w'
def OutProm (w : World) (e : Ending) (w' : World) : Prop := ∃ (A : Option Addr) (xs : List Order) (n c : Nat) (day days : Int), e = .returned (.tuple #[.slice A n c, .int .i64 day, .int .i64 days]) ∧ xs.length = n ∧ n ≤ 31 ∧ (∀ x ∈ xs, x.customer.size ≤ 100) ∧ w'.ownsRow w.heap.size 26 6 (.slice A n c) n (flat Order.cells xs) ∧ Below w.heap.size w w'
end Go.Proofs.YtapnllbbdfoaaaaGreatDoor

namespace Go.Proofs.YtapnllbbdfoaaaaGreatDoor
open Go.RowKit

def OutAsk (g q : Nat) (w : World) (e : Ending) (w' : World) : Prop := ∃ (A : Option Addr) (xs : List Order) (n c : Nat) (id : Int), e = .returned (.tuple #[.slice A n c, .int .i64 id]) ∧ xs.length = n ∧ n ≤ 31 ∧ (∀ x ∈ xs, x.customer.size ≤ 100) ∧ w'.ownsRow w.heap.size 26 6 (.slice A n c) n (flat Order.cells xs) ∧ Src w' g (q + 510) ∧ w.grownBy w' (some g)
set_option maxRecDepth 100000 in
set_option maxHeartbeats 4000000 in
theorem l25Ask_c (g q : Nat) (hq : q ≤ 400000000000) (w : World) (hS : Src w g q) : Calls Tryz.prog 44 #[.pointer (some ⟨g, 0, none⟩)] w (OutAsk g q w) := by
  have HS := Lib.hid hS
  have hgw := hS.lt
  have HG := Lib.hid (World.grownBy.refl w (some g))
  have HW := Lib.hid (Nat.le_refl w.heap.size)
  clear hS
  go_enter Tryz.func44, Tryz.ntmps44
  go_wp2_with fail

  refine (l25Bent_c g _ (by omega) _ HS.out).mono ?_
  rintro e W1 ⟨A, xs, n, c, rfl, hxl, hn5, hxs, hown, hS, hg⟩
  replace HS := Lib.hid hS
  replace HG := Lib.hid (grown_trans HG.out hg)
  replace HW := Lib.hid (Nat.le_trans HW.out hg.size)
  clear hS hg
  have HXL := Lib.hid hxl
  have HXS := Lib.hid hxs
  have HO := Lib.hid hown
  clear hxl hxs hown
  by_cases hn0 : n = 0
  case pos =>
    subst hn0
    go_wp2_with fail
    refine (pick_c g _ 20 (by omega) (by omega) _ HS.out).mono ?_
    rintro e W2 ⟨r, rfl, r0, r1, hS, hg⟩
    replace HS := Lib.hid hS
    replace HG := Lib.hid (grown_trans HG.out hg)
    replace HO := Lib.hid (HO.out.kept hg (.inr (fun e => by have := own_at HO.out g e; omega)))
    replace HW := Lib.hid (Nat.le_trans HW.out hg.size)
    clear hS hg
    go_wp2_with fail
    go_returns
    exact ⟨A, xs, 0, c, _, rfl, HXL.out, hn5, HXS.out, HO.out, HS.out.more (by omega), HG.out⟩
  have hn1 : (0 : Int) < (n : Int) := by omega
  have hn2 : 0 < n := by omega
  go_wp2_with fail
  refine (one_c g _ 6 (by omega) (by omega) _ HS.out).mono ?_
  rintro e W2 ⟨b, rfl, hS, hg⟩
  replace HS := Lib.hid hS
  replace HG := Lib.hid (grown_trans HG.out hg)
  replace HO := Lib.hid (HO.out.kept hg (.inr (fun e => by have := own_at HO.out g e; omega)))
  replace HW := Lib.hid (Nat.le_trans HW.out hg.size)
  clear hS hg
  cases b
  case true =>
    go_wp2_with fail
    refine (pick_c g _ 20 (by omega) (by omega) _ HS.out).mono ?_
    rintro e W3 ⟨r, rfl, r0, r1, hS, hg⟩
    replace HS := Lib.hid hS
    replace HG := Lib.hid (grown_trans HG.out hg)
    replace HO := Lib.hid (HO.out.kept hg (.inr (fun e => by have := own_at HO.out g e; omega)))
    replace HW := Lib.hid (Nat.le_trans HW.out hg.size)
    clear hS hg
    go_wp2_with fail
    go_returns
    exact ⟨A, xs, n, c, _, rfl, HXL.out, hn5, HXS.out, HO.out, HS.out.more (by omega), HG.out⟩
  case false =>
  go_wp2_with fail
  refine wp_region_held_drew (S := fun _ => True) (by kernel_rfl) ?_ (fun _ => ?_)
  · trivial
  replace HS := Lib.hid (HS.out.below (Below.refl (W2).heap.size (W2)).drew)
  replace HG := Lib.hid (grown_below HG.out (Below.refl (W2).heap.size (W2)).drew)
  replace HO := Lib.hid (own_below HO.out (Below.refl (W2).heap.size (W2)).drew)
  replace HW := Lib.hid (Nat.le_trans HW.out ((Below.refl (W2).heap.size (W2)).drew).size)
  refine wpAnyH_take (i := 0) (oi := { dst := some 15, op := _, type := _, pos := _, after := _, guard := _ }) (v := ?_) rfl (by kernel_rfl) (by kernel_rfl) (by kernel_rfl) (fun _ _ _ h => h) (Or.inl ⟨by kernel_rfl, ?_⟩) (trivial) ?_
  rotate_left
  · intro w hSw
    try dsimp only at hSw
    go_simp
    try with_reducible rfl
  try simp only [Act.put, List.setIfInBounds_toArray, List.set_cons_zero, List.set_cons_succ]
  refine wpAnyH_take (i := 1) (oi := { dst := some 16, op := _, type := _, pos := _, after := _, guard := _ }) (v := ?_) rfl (by kernel_rfl) (by kernel_rfl) (by kernel_rfl) (fun _ _ _ h => h) (Or.inl ⟨by kernel_rfl, ?_⟩) (trivial) ?_
  rotate_left
  · intro w hSw
    try dsimp only at hSw
    go_simp
    try with_reducible rfl
  try simp only [Act.put, List.setIfInBounds_toArray, List.set_cons_zero, List.set_cons_succ]
  refine wpAnyH_take (i := 2) (oi := { dst := some 17, op := _, type := _, pos := _, after := _, guard := _ }) (v := ?_) rfl (by kernel_rfl) (by kernel_rfl) (by kernel_rfl) (fun _ _ _ h => h) (Or.inl ⟨by kernel_rfl, ?_⟩) (trivial) ?_
  rotate_left
  · intro w hSw
    try dsimp only at hSw
    go_simp
    try with_reducible rfl
  try simp only [Act.put, List.setIfInBounds_toArray, List.set_cons_zero, List.set_cons_succ]
  refine wpAnyH_take (i := 3) (oi := { dst := some 18, op := _, type := _, pos := _, after := _, guard := _ }) (v := ?_) rfl (by kernel_rfl) (by kernel_rfl) (by kernel_rfl) (fun _ _ _ h => h) (Or.inl ⟨by kernel_rfl, ?_⟩) (trivial) ?_
  rotate_left
  · intro w hSw
    try dsimp only at hSw
    go_simp
    try with_reducible rfl
  try simp only [Act.put, List.setIfInBounds_toArray, List.set_cons_zero, List.set_cons_succ]
  refine wpAnyH_take (i := 4) (oi := { dst := some 19, op := _, type := _, pos := _, after := _, guard := _ }) (v := ?_) rfl (by kernel_rfl) (by kernel_rfl) (by kernel_rfl) (fun _ _ _ h => h) (Or.inl ⟨by kernel_rfl, ?_⟩) (trivial) ?_
  rotate_left
  · intro w hSw
    try dsimp only at hSw
    go_simp
    try with_reducible rfl
  try simp only [Act.put, List.setIfInBounds_toArray, List.set_cons_zero, List.set_cons_succ]
  refine wpAnyH_ready (rs := [5]) (by kernel_rfl) (by simp) ?_
  refine (AllReadyH.cons (o := { dst := some 20, op := _, type := _, pos := _, after := _, guard := _ }) rfl (fun K hK => ?_) AllReadyH.nil)
  go_simp
  refine (pick_c g _ (n : Int) (by omega) (by omega) _ HS.out).mono ?_
  rintro e W3 ⟨r, rfl, r0, r1, hS, hg⟩
  replace HS := Lib.hid hS
  replace HG := Lib.hid (grown_trans HG.out hg)
  replace HO := Lib.hid (HO.out.kept hg (.inr (fun e => by have := own_at HO.out g e; omega)))
  replace HW := Lib.hid (Nat.le_trans HW.out hg.size)
  clear hS hg
  obtain ⟨k, rfl⟩ := Int.eq_ofNat_of_zero_le r0
  have hkn : k < n := by omega
  have hk0 : (0 : Int) ≤ (k : Int) := by omega
  have hk1 : (k : Int) < (n : Int) := by omega
  obtain ⟨x, hx⟩ := get_of_lt (xs := xs) (k := k) (by rw [HXL.out]; exact hkn)
  obtain ⟨ad, rfl, _, c0, _, _, _, _, _⟩ := Order.at_ (Arr.own HO.out) hx
  clear hx r1
  go_wp2_with fail

  refine hK.out _ _ (trivial) (fun _ => ?_)
  clear hK K
  try simp only [Act.put, List.setIfInBounds_toArray, List.set_cons_zero, List.set_cons_succ]
  refine wpAnyH_take (i := 6) (oi := { dst := some 21, op := _, type := _, pos := _, after := _, guard := _ }) (v := ?_) rfl (by kernel_rfl) (by kernel_rfl) (by kernel_rfl) (fun _ _ _ h => h) (Or.inl ⟨by kernel_rfl, ?_⟩) (trivial) ?_
  rotate_left
  · intro w hSw
    try dsimp only at hSw
    go_simp
    try with_reducible rfl
  try simp only [Act.put, List.setIfInBounds_toArray, List.set_cons_zero, List.set_cons_succ]
  refine wpAnyH_take (i := 7) (oi := { dst := some 22, op := _, type := _, pos := _, after := _, guard := _ }) (v := ?_) rfl (by kernel_rfl) (by kernel_rfl) (by kernel_rfl) (fun _ _ _ h => h) (Or.inl ⟨by kernel_rfl, ?_⟩) (trivial) ?_
  rotate_left
  · intro w hSw
    try dsimp only at hSw
    go_simp
    try with_reducible rfl
  try simp only [Act.put, List.setIfInBounds_toArray, List.set_cons_zero, List.set_cons_succ]
  refine wpAnyH_take (i := 9) (oi := { dst := some 2, op := _, type := _, pos := _, after := _, guard := _ }) (v := ?_) rfl (by kernel_rfl) (by kernel_rfl) (by kernel_rfl) (fun _ _ _ h => h) (Or.inl ⟨by kernel_rfl, ?_⟩) (trivial) ?_
  rotate_left
  · intro w hSw
    try dsimp only at hSw
    go_simp
    try with_reducible rfl
  try simp only [Act.put, List.setIfInBounds_toArray, List.set_cons_zero, List.set_cons_succ]
  refine wpAnyH_ready (rs := [8]) (by kernel_rfl) (by simp) ?_
  refine (AllReadyH.cons (o := { dst := some 23, op := _, type := _, pos := _, after := _, guard := _ }) rfl (fun K hK => ?_) AllReadyH.nil)
  go_simp
  refine hK.out _ _ (trivial) (fun _ => ?_)
  clear hK K
  try simp only [Act.put, List.setIfInBounds_toArray, List.set_cons_zero, List.set_cons_succ]
  refine wpAnyH_take (i := 10) (oi := { dst := some 3, op := _, type := _, pos := _, after := _, guard := _ }) (v := ?_) rfl (by kernel_rfl) (by kernel_rfl) (by kernel_rfl) (fun _ _ _ h => h) (Or.inl ⟨by kernel_rfl, ?_⟩) (trivial) ?_
  rotate_left
  · intro w hSw
    try dsimp only at hSw
    go_simp
    try with_reducible rfl
  try simp only [Act.put, List.setIfInBounds_toArray, List.set_cons_zero, List.set_cons_succ]
  refine wpAnyH_done (by kernel_rfl) ?_ _
  go_wp2_with fail
  go_returns
  exact ⟨_, xs, n, c, _, rfl, HXL.out, hn5, HXS.out, HO.out, HS.out.more (by omega), HG.out⟩
def OutMv (w : World) (e : Ending) (w' : World) : Prop := ∃ (A : Option Addr) (xs : List Order) (n c : Nat) (id : Int), e = .returned (.tuple #[.slice A n c, .int .i64 id]) ∧ xs.length = n ∧ n ≤ 31 ∧ (∀ x ∈ xs, x.customer.size ≤ 100) ∧ w'.ownsRow w.heap.size 26 6 (.slice A n c) n (flat Order.cells xs) ∧ Below w.heap.size w w'
def OutFw (w : World) (e : Ending) (w' : World) : Prop := ∃ (A : Option Addr) (xs : List Order) (n c : Nat) (id v : Int), e = .returned (.tuple #[.slice A n c, .int .i64 id, .int .i64 v]) ∧ xs.length = n ∧ n ≤ 31 ∧ (∀ x ∈ xs, x.customer.size ≤ 100) ∧ w'.ownsRow w.heap.size 26 6 (.slice A n c) n (flat Order.cells xs) ∧ Below w.heap.size w w'
set_option maxHeartbeats 2000000 in
theorem DrawMoveOrder_c (C : Option Addr) (nn cc : Nat) (cs : List UInt8) (hnn : Hid (cs.length = nn)) (hnb : nn ≤ 1048576) (w : World) (hA : Arr w C (cs.map bvS)) (hlt : ∀ ad, C = some ad → ad.block < w.heap.size) : Calls Tryz.prog 8 #[.slice C nn cc] w (OutMv w) := by
  have HL0 := Lib.hid hlt
  have HA0 := Lib.hid hA
  clear hlt hA
  go_enter Tryz.func8, Tryz.ntmps8
  go_wp2_with fail
  refine (l00From_c C nn cc cs hnn hnb w HA0.out HL0.out).mono ?_
  rintro e W0 ⟨rfl, hS0, hb0⟩
  have hl0 := hS0.lt
  have HS0 := Lib.hid hS0
  have HB0 := Lib.hid hb0
  clear hS0 hb0 HL0 HA0
  go_wp2_with fail
  refine (l25Ask_c w.heap.size 0 (by omega) _ HS0.out).mono ?_
  rintro e W1 ⟨A, xs, n, c, id, rfl, hxl, hn5, hxs, hown, hS1, hg1⟩
  have HXL := Lib.hid hxl
  have HXS := Lib.hid hxs
  have HO1 := Lib.hid (own_base hown (base' := w.heap.size + 1) (by omega))
  have HS1 := Lib.hid hS1
  have HB1 := Lib.hid (bl_grown HB0.out hg1 (fun k e => by injection e with e; omega))
  have hz1 := hg1.size
  clear hxl hxs hown hS1 hg1
  go_wp2_with fail
  go_returns
  exact ⟨A, xs, n, c, id, rfl, HXL.out, hn5, HXS.out, own_base HO1.out (by omega), HB1.out⟩
set_option maxHeartbeats 2000000 in
theorem DrawFitOrder_c (C : Option Addr) (nn cc : Nat) (cs : List UInt8) (hnn : Hid (cs.length = nn)) (hnb : nn ≤ 1048576) (w : World) (hA : Arr w C (cs.map bvS)) (hlt : ∀ ad, C = some ad → ad.block < w.heap.size) : Calls Tryz.prog 11 #[.slice C nn cc] w (OutFw w) := by
  have HL0 := Lib.hid hlt
  have HA0 := Lib.hid hA
  clear hlt hA
  go_enter Tryz.func11, Tryz.ntmps11
  go_wp2_with fail
  refine (l00From_c C nn cc cs hnn hnb w HA0.out HL0.out).mono ?_
  rintro e W0 ⟨rfl, hS0, hb0⟩
  have hl0 := hS0.lt
  have HS0 := Lib.hid hS0
  have HB0 := Lib.hid hb0
  clear hS0 hb0 HL0 HA0
  go_wp2_with fail
  refine (l25Ask_c w.heap.size 0 (by omega) _ HS0.out).mono ?_
  rintro e W1 ⟨A, xs, n, c, id, rfl, hxl, hn5, hxs, hown, hS1, hg1⟩
  have HXL := Lib.hid hxl
  have HXS := Lib.hid hxs
  have HO1 := Lib.hid (own_base hown (base' := w.heap.size + 1) (by omega))
  have HS1 := Lib.hid hS1
  have HB1 := Lib.hid (bl_grown HB0.out hg1 (fun k e => by injection e with e; omega))
  have hz1 := hg1.size
  clear hxl hxs hown hS1 hg1
  go_wp2_with fail
  refine (one_c w.heap.size 510 8 (by omega) (by omega) _ (HS1.out.more (by omega))).mono ?_
  rintro e W3 ⟨b, rfl, hS3, hg3⟩
  have HO3 := Lib.hid (HO1.out.kept hg3 (.inr (fun e => by have := own_at HO1.out w.heap.size e; omega)))
  have HS3 := Lib.hid hS3
  have HB3 := Lib.hid (bl_grown HB1.out hg3 (fun k e => by injection e with e; omega))
  have hz3 := Nat.le_trans hz1 hg3.size
  clear hS3 hg3
  cases b
  · go_wp2_with fail
    refine (pick_c w.heap.size 512 4 (by omega) (by omega) _ HS3.out).mono ?_
    rintro e W9 ⟨r9, rfl, r90, r91, hS9, hg9⟩
    go_wp2_with fail
    go_returns
    exact ⟨A, xs, n, c, id, _, rfl, HXL.out, hn5, HXS.out, own_base (HO3.out.kept hg9 (.inr (fun e => by have := own_at HO3.out w.heap.size e; omega))) (by omega), bl_grown HB3.out hg9 (fun k e => by injection e with e; omega)⟩
  · go_wp2_with fail
    have hA := arr_new W3 2 #[.int .i64 (-1), .int .i64 0, .int .i64 100, .int .i64 101]
    refine (among_c w.heap.size 512 _ [-1, 0, 100, 101] 4 4 (Lib.hid rfl) (by omega) (by omega) (by omega) _ (HS3.out.below (bl_alloc (Below.refl _ _) _)) hA (fun ad e => by injection e with e; subst e; simp only; omega)).mono ?_
    rintro e W4 ⟨v, hv, rfl, hS4, hg4⟩
    have HO4 := Lib.hid ((HO3.out.alloc (.cells #[.int .i64 (-1), .int .i64 0, .int .i64 100, .int .i64 101] 2)).kept hg4 (.inr (fun e => by have := own_at HO3.out w.heap.size e; omega)))
    have HB4 := Lib.hid (bl_grown (bl_alloc HB3.out _) hg4 (fun k e => by injection e with e; omega))
    clear hS4 hg4 hA hv
    go_wp2_with fail
    go_returns
    exact ⟨A, xs, n, c, id, _, rfl, HXL.out, hn5, HXS.out, own_base HO4.out (by omega), HB4.out⟩
set_option maxHeartbeats 2000000 in
theorem DrawWorkOn_c (C : Option Addr) (nn cc : Nat) (cs : List UInt8) (hnn : Hid (cs.length = nn)) (hnb : nn ≤ 1048576) (w : World) (hA : Arr w C (cs.map bvS)) (hlt : ∀ ad, C = some ad → ad.block < w.heap.size) : Calls Tryz.prog 14 #[.slice C nn cc] w (OutFw w) := by
  have HL0 := Lib.hid hlt
  have HA0 := Lib.hid hA
  clear hlt hA
  go_enter Tryz.func14, Tryz.ntmps14
  go_wp2_with fail
  refine (l00From_c C nn cc cs hnn hnb w HA0.out HL0.out).mono ?_
  rintro e W0 ⟨rfl, hS0, hb0⟩
  have hl0 := hS0.lt
  have HS0 := Lib.hid hS0
  have HB0 := Lib.hid hb0
  clear hS0 hb0 HL0 HA0
  go_wp2_with fail
  refine (l25Ask_c w.heap.size 0 (by omega) _ HS0.out).mono ?_
  rintro e W1 ⟨A, xs, n, c, id, rfl, hxl, hn5, hxs, hown, hS1, hg1⟩
  have HXL := Lib.hid hxl
  have HXS := Lib.hid hxs
  have HO1 := Lib.hid (own_base hown (base' := w.heap.size + 1) (by omega))
  have HS1 := Lib.hid hS1
  have HB1 := Lib.hid (bl_grown HB0.out hg1 (fun k e => by injection e with e; omega))
  have hz1 := hg1.size
  clear hxl hxs hown hS1 hg1
  go_wp2_with fail
  refine (one_c w.heap.size 510 8 (by omega) (by omega) _ (HS1.out.more (by omega))).mono ?_
  rintro e W3 ⟨b, rfl, hS3, hg3⟩
  have HO3 := Lib.hid (HO1.out.kept hg3 (.inr (fun e => by have := own_at HO1.out w.heap.size e; omega)))
  have HS3 := Lib.hid hS3
  have HB3 := Lib.hid (bl_grown HB1.out hg3 (fun k e => by injection e with e; omega))
  have hz3 := Nat.le_trans hz1 hg3.size
  clear hS3 hg3
  cases b
  · go_wp2_with fail
    refine (pick_c w.heap.size 512 4 (by omega) (by omega) _ HS3.out).mono ?_
    rintro e W9 ⟨r9, rfl, r90, r91, hS9, hg9⟩
    go_wp2_with fail
    go_returns
    exact ⟨A, xs, n, c, id, _, rfl, HXL.out, hn5, HXS.out, own_base (HO3.out.kept hg9 (.inr (fun e => by have := own_at HO3.out w.heap.size e; omega))) (by omega), bl_grown HB3.out hg9 (fun k e => by injection e with e; omega)⟩
  · go_wp2_with fail
    have hA := arr_new W3 2 #[.int .i64 (-1), .int .i64 0, .int .i64 1, .int .i64 100, .int .i64 101]
    refine (among_c w.heap.size 512 _ [-1, 0, 1, 100, 101] 5 5 (Lib.hid rfl) (by omega) (by omega) (by omega) _ (HS3.out.below (bl_alloc (Below.refl _ _) _)) hA (fun ad e => by injection e with e; subst e; simp only; omega)).mono ?_
    rintro e W4 ⟨v, hv, rfl, hS4, hg4⟩
    have HO4 := Lib.hid ((HO3.out.alloc (.cells #[.int .i64 (-1), .int .i64 0, .int .i64 1, .int .i64 100, .int .i64 101] 2)).kept hg4 (.inr (fun e => by have := own_at HO3.out w.heap.size e; omega)))
    have HB4 := Lib.hid (bl_grown (bl_alloc HB3.out _) hg4 (fun k e => by injection e with e; omega))
    clear hS4 hg4 hA hv
    go_wp2_with fail
    go_returns
    exact ⟨A, xs, n, c, id, _, rfl, HXL.out, hn5, HXS.out, own_base HO4.out (by omega), HB4.out⟩
end Go.Proofs.YtapnllbbdfoaaaaGreatDoor

namespace Go.Proofs.YtapnllbbdfoaaaaGreatDoor
open Go.RowKit

theorem own_box {w : World} {gx : Nat} {x : Order} (h : Blk w gx 26 x.cells.toArray) : w.ownsRow gx 26 6 (.slice (some ⟨gx, 0, none⟩) 1 1) 1 (flat Order.cells [x]) :=
  ⟨rfl, .inr ⟨gx, 1, x.cells.toArray, rfl, Nat.le_refl _, h, Nat.le_refl _, by unfold maxLen; omega, rfl, by simp [flat, Order.cells]⟩⟩
theorem box_own {w : World} {base gx : Nat} {x : Order} (h : w.ownsRow base 26 6 (.slice (some ⟨gx, 0, none⟩) 1 1) 1 (flat Order.cells [x])) : Blk w gx 26 x.cells.toArray := by
  rcases h.2 with ⟨hv, _⟩ | ⟨g, cap, cur, hv, _, hg, _, _, hcs, ht⟩
  · cases hv
  · simp only [Value.slice.injEq, Option.some.injEq, Addr.mk.injEq, and_true] at hv
    obtain ⟨rfl, _, rfl⟩ := hv
    have hc : cur.toList = x.cells := by
      rw [List.take_of_length_le (by simp [hcs])] at ht
      rw [ht]
      simp [flat]
    unfold Blk
    rw [hg, ← hc]
def OutSb (g q gx : Nat) (w0 : World) (e : Ending) (w' : World) : Prop := ∃ x' : Order, e = .returned (.tuple #[]) ∧ x'.customer.size ≤ 100 ∧ Blk w' gx 26 x'.cells.toArray ∧ Src w' g (q + 6) ∧ w0.grownBy w' (some g)
theorem l25SpoilBox_c (g q gx : Nat) (x : Order) (hq : q ≤ 700000000000) (w0 w : World) (hS : Src w g q) (hB : Blk w gx 26 x.cells.toArray) (hxs : x.customer.size ≤ 100) (hgO : g < gx) (hwO : w0.heap.size ≤ gx) (hG : w0.grownBy w (some g)) :
    Calls Tryz.prog 36 #[.pointer (some ⟨g, 0, none⟩), .pointer (some ⟨gx, 0, none⟩)] w (OutSb g q gx w0) := by
  have h := l25Spoil_c g q gx gx 1 1 0 [x] x hq w0 w hS (own_box hB) (Lib.hid rfl) hxs hgO hwO hG
  rw [Nat.zero_mul] at h
  refine h.mono ?_
  rintro e w' ⟨x', he, hx', ho, hS2, hG2⟩
  exact ⟨x', he, hx', box_own ho, hS2, hG2⟩
def OutDt (w : World) (e : Ending) (w' : World) : Prop := ∃ x : Order, e = .returned (.agg #[Value.int IntKind.i64 x.id, Value.string x.customer, Value.int IntKind.i64 x.stage, Value.int IntKind.i64 x.due, Value.int IntKind.i64 x.left, Value.int IntKind.i64 x.fittings]) ∧ x.customer.size ≤ 100 ∧ Below w.heap.size w w'
set_option maxRecDepth 100000 in
set_option maxHeartbeats 4000000 in
theorem DrawOrderText_c (C : Option Addr) (nn cc : Nat) (cs : List UInt8) (hnn : Hid (cs.length = nn)) (hnb : nn ≤ 1048576) (w : World) (hA : Arr w C (cs.map bvS)) (hlt : ∀ ad, C = some ad → ad.block < w.heap.size) : Calls Tryz.prog 17 #[.slice C nn cc] w (OutDt w) := by
  have HL0 := Lib.hid hlt
  have HA0 := Lib.hid hA
  clear hlt hA
  go_enter Tryz.func17, Tryz.ntmps17
  go_wp2_with fail
  obtain ⟨W0, hW0⟩ : ∃ z, z = w.alloc (Obj.cells #[Value.int IntKind.i64 0, Value.string ⟨#[]⟩, Value.int IntKind.i64 0, Value.int IntKind.i64 0, Value.int IntKind.i64 0, Value.int IntKind.i64 0] 26) := ⟨_, rfl⟩
  obtain ⟨gz, hgz⟩ : ∃ z, z = w.heap.size := ⟨_, rfl⟩
  have HZ0 : Hid (Blk W0 gz 26 #[Value.int IntKind.i64 0, Value.string ⟨#[]⟩, Value.int IntKind.i64 0, Value.int IntKind.i64 0, Value.int IntKind.i64 0, Value.int IntKind.i64 0]) := Lib.hid (by rw [hW0, hgz]; exact Blk.new _ _ _)
  have hb0 : Below w.heap.size w W0 := by rw [hW0]; exact bl_alloc (Below.refl _ _) _
  have hgz1 : gz < W0.heap.size := HZ0.out.lt
  have hgz0 : w.heap.size ≤ gz := by omega
  rw [← hW0, ← hgz]
  clear hW0 hgz
  refine (l00From_c C nn cc cs hnn hnb W0 (HA0.out.below hb0) (fun ad e => Nat.lt_of_lt_of_le (HL0.out ad e) hb0.size)).mono ?_
  rintro e W1 ⟨rfl, hS1, hb1⟩
  obtain ⟨g, hg⟩ : ∃ z, z = W0.heap.size := ⟨_, rfl⟩
  rw [← hg] at hS1 ⊢
  have HS := Lib.hid hS1
  have HG := Lib.hid (grown_of_below hb1 (some g))
  have HW := Lib.hid hb1.size
  have HB0 := Lib.hid hb0
  have hgw : w.heap.size ≤ g := by omega
  have hgg : gz < g := by omega
  have hg0 : W0.heap.size ≤ g := by omega
  clear hS1 hb1 HA0 HL0 hb0 hg
  go_wp2_with fail

  refine (l25New_c g _ 12 (by omega) _ HS.out).mono ?_
  rintro e W2 ⟨x, rfl, hxn, hxi, hS, hg⟩
  replace HS := Lib.hid hS
  replace HG := Lib.hid (grown_trans HG.out hg)
  replace HW := Lib.hid (Nat.le_trans HW.out hg.size)
  clear hS hg
  clear hxi
  unfold Order.val
  go_wp2_with fail
  obtain ⟨W3, hWW3⟩ : ∃ z, z = World.alloc W2 (Obj.cells #[Value.int IntKind.i64 x.id, Value.string x.customer, Value.int IntKind.i64 x.stage, Value.int IntKind.i64 x.due, Value.int IntKind.i64 x.left, Value.int IntKind.i64 x.fittings] 26) := ⟨_, rfl⟩
  obtain ⟨gx, hggx⟩ : ∃ z, z = (W2).heap.size := ⟨_, rfl⟩
  have HX : Hid (Blk W3 gx 26 #[Value.int IntKind.i64 x.id, Value.string x.customer, Value.int IntKind.i64 x.stage, Value.int IntKind.i64 x.due, Value.int IntKind.i64 x.left, Value.int IntKind.i64 x.fittings]) := Lib.hid (by rw [hWW3, hggx]; exact Blk.new _ _ _)
  have hb : Below (W2).heap.size W2 W3 := by rw [hWW3]; exact bl_alloc (Below.refl (W2).heap.size (W2)) _
  have hgx0 : W0.heap.size ≤ gx := by rw [hggx]; exact HW.out
  have hgx1 : g < gx := by have h : g < (W2).heap.size := HS.out.lt; omega
  replace HS := Lib.hid (HS.out.below hb)
  replace HG := Lib.hid (grown_below HG.out hb)
  replace HW := Lib.hid (Nat.le_trans HW.out (hb).size)
  have hn_W3 : gx + 1 = W3.heap.size := by rw [hWW3, hggx]; exact (World.size_alloc _ _).symm
  rw [← hWW3, ← hggx]
  clear hWW3 hggx hb
  clear hn_W3
  refine (one_c g _ 4 (by omega) (by omega) _ HS.out).mono ?_
  rintro e W4 ⟨b, rfl, hS, hg⟩
  replace HS := Lib.hid hS
  replace HG := Lib.hid (grown_trans HG.out hg)
  replace HX := Lib.hid (HX.out.grown hg (by intro e; injection e; omega))
  replace HW := Lib.hid (Nat.le_trans HW.out hg.size)
  clear hS hg
  go_upto_if 10 with fail
  go_cut [] (fun wx => ∃ y : Order, y.customer.size ≤ 100 ∧ Hid (Blk wx gx 26 #[Value.int IntKind.i64 y.id, Value.string y.customer, Value.int IntKind.i64 y.stage, Value.int IntKind.i64 y.due, Value.int IntKind.i64 y.left, Value.int IntKind.i64 y.fittings]) ∧ Hid (W0.grownBy wx (some g)))
  case first =>
    cases b
    · go_wp2_with fail
      go_meet
      exact ⟨x, hxn, HX, HG⟩
    · go_wp2_with fail
      refine (l25SpoilBox_c g _ gx x (by omega) W0 _ HS.out HX.out hxn (by omega) (by omega) HG.out).mono ?_
      rintro e W5 ⟨y, rfl, hy, hB, _, hG⟩
      go_wp2_with fail
      go_meet
      exact ⟨y, hy, Lib.hid hB, Lib.hid hG⟩
  case rest =>
  clear HX HG HS HW
  obtain ⟨y, hy, HX, HG⟩ := hcut
  rename World => V
  have HZ := Lib.hid (HZ0.out.grown HG.out (by intro e; injection e; omega))
  go_wp2_with (refine wpList_load_row rfl 26 _ rfl gx rfl 26 #[Value.int IntKind.i64 y.id, Value.string y.customer, Value.int IntKind.i64 y.stage, Value.int IntKind.i64 y.due, Value.int IntKind.i64 y.left, Value.int IntKind.i64 y.fittings] (0, 0) _ HX.out Tryz.underlying26 rfl (by kernel_rfl) ?_; refine wpList_store_row rfl 26 _ _ rfl gz #[Value.int IntKind.i64 y.id, Value.string y.customer, Value.int IntKind.i64 y.stage, Value.int IntKind.i64 y.due, Value.int IntKind.i64 y.left, Value.int IntKind.i64 y.fittings] rfl rfl 26 #[Value.int IntKind.i64 0, Value.string ⟨#[]⟩, Value.int IntKind.i64 0, Value.int IntKind.i64 0, Value.int IntKind.i64 0, Value.int IntKind.i64 0] HZ.out (by kernel_rfl) rfl (by simp [Value.oneCell']) ?_)
  try simp only [Exit.inBlock, Exit.then]
  refine bodyPost_ret (results_cell_row (P := Tryz.prog) rfl _ _ gz 26 #[Value.int IntKind.i64 y.id, Value.string y.customer, Value.int IntKind.i64 y.stage, Value.int IntKind.i64 y.due, Value.int IntKind.i64 y.left, Value.int IntKind.i64 y.fittings] (0, 0) _ rfl ?_ Tryz.underlying26 rfl (by kernel_rfl)) rfl ?_
  · exact setRow_heap _ _ _ _ _ _ HZ.out
  · exact ⟨y, rfl, hy, bl_grown (bl_grown HB0.out HG.out (fun k e => by injection e with e; omega)) (grown_row (cs := #[Value.int IntKind.i64 y.id, Value.string y.customer, Value.int IntKind.i64 y.stage, Value.int IntKind.i64 y.due, Value.int IntKind.i64 y.left, Value.int IntKind.i64 y.fittings]) HZ.out) (fun k e => by injection e with e; omega)⟩
def OutSw (w : World) (e : Ending) (w' : World) : Prop := ∃ v : Int, e = .returned (.int .i64 v) ∧ -1 ≤ v ∧ v ≤ 7 ∧ Below w.heap.size w w'
set_option maxHeartbeats 2000000 in
theorem DrawStageWord_c (C : Option Addr) (nn cc : Nat) (cs : List UInt8) (hnn : Hid (cs.length = nn)) (hnb : nn ≤ 1048576) (w : World) (hA : Arr w C (cs.map bvS)) (hlt : ∀ ad, C = some ad → ad.block < w.heap.size) : Calls Tryz.prog 23 #[.slice C nn cc] w (OutSw w) := by
  have HL0 := Lib.hid hlt
  have HA0 := Lib.hid hA
  clear hlt hA
  go_enter Tryz.func23, Tryz.ntmps23
  go_wp2_with fail
  refine (l00From_c C nn cc cs hnn hnb w HA0.out HL0.out).mono ?_
  rintro e W1 ⟨rfl, hS1, hb1⟩
  have HB1 := Lib.hid hb1
  go_wp2_with fail
  refine (pick_c w.heap.size 0 8 (by omega) (by omega) _ hS1).mono ?_
  rintro e W2 ⟨r, rfl, r0, r1, hS2, hg⟩
  have hB2 := bl_grown HB1.out hg (fun k e => by injection e with e; omega)
  clear hS1 hb1 hS2 hg
  go_wp2_with fail
  go_returns
  exact ⟨_, rfl, by omega, by omega, hB2⟩
end Go.Proofs.YtapnllbbdfoaaaaGreatDoor
