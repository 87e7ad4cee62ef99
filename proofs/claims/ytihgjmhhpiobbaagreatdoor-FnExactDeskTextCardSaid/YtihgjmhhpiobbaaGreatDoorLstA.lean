/- A valid last and valid lasts, both sides. -/
import Derived.Test.YtihgjmhhpiobbaaGreatDoorOutA
namespace Go.Proofs.YtihgjmhhpiobbaaGreatDoor
open Go.RowKit

def Last.foot (x : Last) : Foot := ⟨x.length, x.ball, x.instep, x.heel⟩
def lastB (x : Last) : Bool := nameB x.name && footB x.foot && inB x.pitch 0 1000
def lessB (a b : ByteArray) : Bool := Op.bytesLess a.toList b.toList
def lasGo : Option ByteArray → List Last → Bool
  | _, [] => true
  | none, x :: r => lastB x && lasGo (some x.name) r
  | some p, x :: r => lastB x && (lessB p x.name && lasGo (some x.name) r)
def lasB (xs : List Last) : Bool := lasGo none xs && decide (xs.length ≤ 30)
def prevL (xs : List Last) (k : Nat) : Option ByteArray := if k = 0 then none else xs[k - 1]?.map (·.name)
theorem prevL_succ {xs : List Last} {k : Nat} {x : Last} (hx : xs[k]? = some x) : prevL xs (k + 1) = some x.name := by unfold prevL; simp [hx]
theorem las_first {xs : List Last} {x : Last} (hx : xs[0]? = some x) : lasGo (prevL xs 0) (xs.drop 0) = (lastB x && lasGo (prevL xs 1) (xs.drop 1)) := by
  rw [prevL_succ hx, drop_at hx]; rfl
theorem las_next {xs : List Last} {j : Nat} {y x : Last} (hy : xs[j]? = some y) (hx : xs[j + 1]? = some x) : lasGo (prevL xs (j + 1)) (xs.drop (j + 1)) = (lastB x && (lessB y.name x.name && lasGo (prevL xs (j + 1 + 1)) (xs.drop (j + 1 + 1)))) := by
  rw [prevL_succ hy, prevL_succ hx, drop_at hx]; rfl
theorem las_bad {xs : List Last} {k : Nat} {x : Last} (hx : xs[k]? = some x) (hb : lastB x = false) : lasGo (prevL xs k) (xs.drop k) = false := by
  rw [drop_at hx]
  cases prevL xs k <;> simp [lasGo, hb]
theorem las_end {xs : List Last} {k : Nat} (h : xs.length ≤ k) : lasGo (prevL xs k) (xs.drop k) = true := by
  rw [List.drop_eq_nil_of_le h]; cases prevL xs k <;> rfl
theorem below_rowL {a w : World} {g : Nat} (h : Below a.heap.size a w) (hg : a.heap.size ≤ g) (cs : Array Value) : Below a.heap.size a (w.setRow g cs) :=
  bl_grown h (⟨rfl, rfl, rfl, by simp, fun i _ hne => setRow_other w g i cs (fun e => hne (by rw [e]))⟩ : w.grownBy (w.setRow g cs) (some g)) (fun k e => by injection e with e; omega)
set_option maxHeartbeats 2000000 in
theorem foot_c (x : Last) (w : World) : Calls Tryz.prog 89 #[.agg #[.string x.name, .int .i64 x.length, .int .i64 x.ball, .int .i64 x.instep, .int .i64 x.heel, .int .i64 x.pitch]] w (Ret (.agg #[.int .i64 x.length, .int .i64 x.ball, .int .i64 x.instep, .int .i64 x.heel]) w) := by
  obtain ⟨W, hW⟩ : ∃ W, W = (w.alloc (Obj.cells #[Value.string x.name, Value.int IntKind.i64 x.length, Value.int IntKind.i64 x.ball, Value.int IntKind.i64 x.instep, Value.int IntKind.i64 x.heel, Value.int IntKind.i64 x.pitch] 93)).alloc (Obj.cells #[Value.int IntKind.i64 0, Value.int IntKind.i64 0, Value.int IntKind.i64 0, Value.int IntKind.i64 0] 31) := ⟨_, rfl⟩
  obtain ⟨g, hg⟩ : ∃ g, g = w.heap.size := ⟨_, rfl⟩
  obtain ⟨gr, hgr⟩ : ∃ g, g = w.heap.size + 1 := ⟨_, rfl⟩
  have hv : Below w.heap.size w W := by rw [hW]; exact bl_alloc (bl_alloc (Below.refl _ _) _) _
  have hB : Blk W g 93 #[Value.string x.name, Value.int IntKind.i64 x.length, Value.int IntKind.i64 x.ball, Value.int IntKind.i64 x.instep, Value.int IntKind.i64 x.heel, Value.int IntKind.i64 x.pitch] := by rw [hW, hg]; exact (Blk.new _ _ _).alloc _
  have hR : Hid (Blk W gr 31 #[Value.int IntKind.i64 0, Value.int IntKind.i64 0, Value.int IntKind.i64 0, Value.int IntKind.i64 0]) := Lib.hid (by
    have h := Blk.new (w.alloc (Obj.cells #[Value.string x.name, Value.int IntKind.i64 x.length, Value.int IntKind.i64 x.ball, Value.int IntKind.i64 x.instep, Value.int IntKind.i64 x.heel, Value.int IntKind.i64 x.pitch] 93)) 31 #[Value.int IntKind.i64 0, Value.int IntKind.i64 0, Value.int IntKind.i64 0, Value.int IntKind.i64 0]
    rw [World.size_alloc] at h
    rw [hW, hgr]; exact h)
  have hge : w.heap.size ≤ gr := by omega
  have HW := Lib.hid hW
  have HG := Lib.hid hg
  have HGR := Lib.hid hgr
  clear hW hg hgr
  have k0 : W.cell? ⟨g, 0, none⟩ = some (.string x.name) := hB.cell 0
  have k1 : W.cell? ⟨g, 1, none⟩ = some (.int .i64 x.length) := hB.cell 1
  have k2 : W.cell? ⟨g, 2, none⟩ = some (.int .i64 x.ball) := hB.cell 2
  have k3 : W.cell? ⟨g, 3, none⟩ = some (.int .i64 x.instep) := hB.cell 3
  have k4 : W.cell? ⟨g, 4, none⟩ = some (.int .i64 x.heel) := hB.cell 4
  have k5 : W.cell? ⟨g, 5, none⟩ = some (.int .i64 x.pitch) := hB.cell 5
  clear hB
  go_enter Tryz.func89, Tryz.ntmps89
  go_upto_region 1 with fail
  rw [← HW.out, ← HGR.out, ← HG.out]
  clear HW HG HGR
  go_wp2_with (refine wpList_store_row rfl 31 _ _ rfl gr #[Value.int IntKind.i64 x.length, Value.int IntKind.i64 x.ball, Value.int IntKind.i64 x.instep, Value.int IntKind.i64 x.heel] rfl rfl 31 #[Value.int IntKind.i64 0, Value.int IntKind.i64 0, Value.int IntKind.i64 0, Value.int IntKind.i64 0] hR.out (by kernel_rfl) rfl (by simp [Value.oneCell']) ?_)
  try simp only [Exit.inBlock, Exit.then]
  refine bodyPost_ret (results_cell_row (P := Tryz.prog) rfl _ _ gr 31 #[Value.int IntKind.i64 x.length, Value.int IntKind.i64 x.ball, Value.int IntKind.i64 x.instep, Value.int IntKind.i64 x.heel] (0, 0) _ rfl ?_ Tryz.underlying31 rfl (by kernel_rfl)) rfl ?_
  · exact setRow_heap _ _ _ _ _ _ hR.out
  · exact Ret.mk rfl (below_rowL hv hge _)
set_option maxHeartbeats 2000000 in
theorem l04Foot_c (x : Last) (w : World) : Calls Tryz.prog 110 #[.agg #[.string x.name, .int .i64 x.length, .int .i64 x.ball, .int .i64 x.instep, .int .i64 x.heel, .int .i64 x.pitch]] w (Ret (.agg #[.int .i64 x.length, .int .i64 x.ball, .int .i64 x.instep, .int .i64 x.heel]) w) := by
  obtain ⟨W, hW⟩ : ∃ W, W = (w.alloc (Obj.cells #[Value.string x.name, Value.int IntKind.i64 x.length, Value.int IntKind.i64 x.ball, Value.int IntKind.i64 x.instep, Value.int IntKind.i64 x.heel, Value.int IntKind.i64 x.pitch] 93)).alloc (Obj.cells #[Value.int IntKind.i64 0, Value.int IntKind.i64 0, Value.int IntKind.i64 0, Value.int IntKind.i64 0] 31) := ⟨_, rfl⟩
  obtain ⟨g, hg⟩ : ∃ g, g = w.heap.size := ⟨_, rfl⟩
  obtain ⟨gr, hgr⟩ : ∃ g, g = w.heap.size + 1 := ⟨_, rfl⟩
  have hv : Below w.heap.size w W := by rw [hW]; exact bl_alloc (bl_alloc (Below.refl _ _) _) _
  have hB : Blk W g 93 #[Value.string x.name, Value.int IntKind.i64 x.length, Value.int IntKind.i64 x.ball, Value.int IntKind.i64 x.instep, Value.int IntKind.i64 x.heel, Value.int IntKind.i64 x.pitch] := by rw [hW, hg]; exact (Blk.new _ _ _).alloc _
  have hR : Hid (Blk W gr 31 #[Value.int IntKind.i64 0, Value.int IntKind.i64 0, Value.int IntKind.i64 0, Value.int IntKind.i64 0]) := Lib.hid (by
    have h := Blk.new (w.alloc (Obj.cells #[Value.string x.name, Value.int IntKind.i64 x.length, Value.int IntKind.i64 x.ball, Value.int IntKind.i64 x.instep, Value.int IntKind.i64 x.heel, Value.int IntKind.i64 x.pitch] 93)) 31 #[Value.int IntKind.i64 0, Value.int IntKind.i64 0, Value.int IntKind.i64 0, Value.int IntKind.i64 0]
    rw [World.size_alloc] at h
    rw [hW, hgr]; exact h)
  have hge : w.heap.size ≤ gr := by omega
  have HW := Lib.hid hW
  have HG := Lib.hid hg
  have HGR := Lib.hid hgr
  clear hW hg hgr
  have k0 : W.cell? ⟨g, 0, none⟩ = some (.string x.name) := hB.cell 0
  have k1 : W.cell? ⟨g, 1, none⟩ = some (.int .i64 x.length) := hB.cell 1
  have k2 : W.cell? ⟨g, 2, none⟩ = some (.int .i64 x.ball) := hB.cell 2
  have k3 : W.cell? ⟨g, 3, none⟩ = some (.int .i64 x.instep) := hB.cell 3
  have k4 : W.cell? ⟨g, 4, none⟩ = some (.int .i64 x.heel) := hB.cell 4
  have k5 : W.cell? ⟨g, 5, none⟩ = some (.int .i64 x.pitch) := hB.cell 5
  clear hB
  go_enter Tryz.func110, Tryz.ntmps110
  go_upto_region 1 with fail
  rw [← HW.out, ← HGR.out, ← HG.out]
  clear HW HG HGR
  go_wp2_with (refine wpList_store_row rfl 31 _ _ rfl gr #[Value.int IntKind.i64 x.length, Value.int IntKind.i64 x.ball, Value.int IntKind.i64 x.instep, Value.int IntKind.i64 x.heel] rfl rfl 31 #[Value.int IntKind.i64 0, Value.int IntKind.i64 0, Value.int IntKind.i64 0, Value.int IntKind.i64 0] hR.out (by kernel_rfl) rfl (by simp [Value.oneCell']) ?_)
  try simp only [Exit.inBlock, Exit.then]
  refine bodyPost_ret (results_cell_row (P := Tryz.prog) rfl _ _ gr 31 #[Value.int IntKind.i64 x.length, Value.int IntKind.i64 x.ball, Value.int IntKind.i64 x.instep, Value.int IntKind.i64 x.heel] (0, 0) _ rfl ?_ Tryz.underlying31 rfl (by kernel_rfl)) rfl ?_
  · exact setRow_heap _ _ _ _ _ _ hR.out
  · exact Ret.mk rfl (below_rowL hv hge _)
set_option maxHeartbeats 2000000 in
theorem validLast_c (x : Last) (hs : x.name.size ≤ 9223372036854775807) (w : World) : Calls Tryz.prog 57 #[.agg #[.string x.name, .int .i64 x.length, .int .i64 x.ball, .int .i64 x.instep, .int .i64 x.heel, .int .i64 x.pitch]] w (Ret (.bool (lastB x)) w) := by
  have hP : lastB x = (nameB x.name && footB x.foot && inB x.pitch 0 1000) := rfl
  have H1 := fun w => IsName_c x.name hs w
  have H2 := fun w => foot_c x w
  have H3 := fun w => ValidFoot_c x.foot w
  have H4 := fun w => within_c x.pitch 0 1000 w
  obtain ⟨b1, e1⟩ : ∃ z, z = nameB x.name := ⟨_, rfl⟩
  obtain ⟨b2, e2⟩ : ∃ z, z = footB x.foot := ⟨_, rfl⟩
  obtain ⟨b3, e3⟩ : ∃ z, z = inB x.pitch 0 1000 := ⟨_, rfl⟩
  rw [← e1] at H1 hP
  rw [← e2] at H3 hP
  rw [← e3] at H4 hP
  unfold Last.foot at H3
  replace H1 := Lib.hid H1
  replace H2 := Lib.hid H2
  replace H3 := Lib.hid H3
  replace H4 := Lib.hid H4
  have HP := Lib.hid hP
  clear hP e1 e2 e3 hs
  obtain ⟨W, hW⟩ : ∃ W, W = w.alloc (Obj.cells #[Value.string x.name, Value.int IntKind.i64 x.length, Value.int IntKind.i64 x.ball, Value.int IntKind.i64 x.instep, Value.int IntKind.i64 x.heel, Value.int IntKind.i64 x.pitch] 93) := ⟨_, rfl⟩
  obtain ⟨g, hg⟩ : ∃ g, g = w.heap.size := ⟨_, rfl⟩
  have hv : Below w.heap.size w W := by rw [hW]; exact bl_alloc (Below.refl _ _) _
  have hB : Hid (Blk W g 93 #[Value.string x.name, Value.int IntKind.i64 x.length, Value.int IntKind.i64 x.ball, Value.int IntKind.i64 x.instep, Value.int IntKind.i64 x.heel, Value.int IntKind.i64 x.pitch]) := Lib.hid (by rw [hW, hg]; exact Blk.new _ _ _)
  have HW := Lib.hid hW
  have HG := Lib.hid hg
  clear hW hg
  have k0 : W.cell? ⟨g, 0, none⟩ = some (.string x.name) := hB.out.cell 0
  have k1 : W.cell? ⟨g, 1, none⟩ = some (.int .i64 x.length) := hB.out.cell 1
  have k2 : W.cell? ⟨g, 2, none⟩ = some (.int .i64 x.ball) := hB.out.cell 2
  have k3 : W.cell? ⟨g, 3, none⟩ = some (.int .i64 x.instep) := hB.out.cell 3
  have k4 : W.cell? ⟨g, 4, none⟩ = some (.int .i64 x.heel) := hB.out.cell 4
  have k5 : W.cell? ⟨g, 5, none⟩ = some (.int .i64 x.pitch) := hB.out.cell 5
  go_enter Tryz.func57, Tryz.ntmps57
  go_upto_region 1 with fail
  rw [← HW.out, ← HG.out]
  clear HW HG
  cases b1
  · skip
    go_wp2_with fail
    refine (H1.out _).mono ?_
    rintro e w' ⟨rfl, hq⟩
    rw [hq]
    clear hq w'
    go_wp2_with fail
    go_returns
    exact Ret.mk (vb (by rw [HP.out]; rfl)) hv
  cases b2
  · skip
    go_wp2_with fail
    refine (H1.out _).mono ?_
    rintro e w' ⟨rfl, hq⟩
    rw [hq]
    clear hq w'
    go_wp2_with fail
    refine (H2.out _).mono ?_
    rintro e W2 ⟨rfl, hb⟩
    replace hv := bl_trans hv hb
    replace hB := Lib.hid (hB.out.below hb)
    clear hb
    replace k0 : W2.cell? ⟨g, 0, none⟩ = some (.string x.name) := hB.out.cell 0
    replace k1 : W2.cell? ⟨g, 1, none⟩ = some (.int .i64 x.length) := hB.out.cell 1
    replace k2 : W2.cell? ⟨g, 2, none⟩ = some (.int .i64 x.ball) := hB.out.cell 2
    replace k3 : W2.cell? ⟨g, 3, none⟩ = some (.int .i64 x.instep) := hB.out.cell 3
    replace k4 : W2.cell? ⟨g, 4, none⟩ = some (.int .i64 x.heel) := hB.out.cell 4
    replace k5 : W2.cell? ⟨g, 5, none⟩ = some (.int .i64 x.pitch) := hB.out.cell 5
    go_wp2_with fail
    refine (H3.out _).mono ?_
    rintro e W3 ⟨rfl, hb⟩
    replace hv := bl_trans hv hb
    replace hB := Lib.hid (hB.out.below hb)
    clear hb
    replace k0 : W3.cell? ⟨g, 0, none⟩ = some (.string x.name) := hB.out.cell 0
    replace k1 : W3.cell? ⟨g, 1, none⟩ = some (.int .i64 x.length) := hB.out.cell 1
    replace k2 : W3.cell? ⟨g, 2, none⟩ = some (.int .i64 x.ball) := hB.out.cell 2
    replace k3 : W3.cell? ⟨g, 3, none⟩ = some (.int .i64 x.instep) := hB.out.cell 3
    replace k4 : W3.cell? ⟨g, 4, none⟩ = some (.int .i64 x.heel) := hB.out.cell 4
    replace k5 : W3.cell? ⟨g, 5, none⟩ = some (.int .i64 x.pitch) := hB.out.cell 5
    go_wp2_with fail
    go_returns
    exact Ret.mk (vb (by rw [HP.out]; rfl)) hv
  · skip
    go_wp2_with fail
    refine (H1.out _).mono ?_
    rintro e w' ⟨rfl, hq⟩
    rw [hq]
    clear hq w'
    go_wp2_with fail
    refine (H2.out _).mono ?_
    rintro e W2 ⟨rfl, hb⟩
    replace hv := bl_trans hv hb
    replace hB := Lib.hid (hB.out.below hb)
    clear hb
    replace k0 : W2.cell? ⟨g, 0, none⟩ = some (.string x.name) := hB.out.cell 0
    replace k1 : W2.cell? ⟨g, 1, none⟩ = some (.int .i64 x.length) := hB.out.cell 1
    replace k2 : W2.cell? ⟨g, 2, none⟩ = some (.int .i64 x.ball) := hB.out.cell 2
    replace k3 : W2.cell? ⟨g, 3, none⟩ = some (.int .i64 x.instep) := hB.out.cell 3
    replace k4 : W2.cell? ⟨g, 4, none⟩ = some (.int .i64 x.heel) := hB.out.cell 4
    replace k5 : W2.cell? ⟨g, 5, none⟩ = some (.int .i64 x.pitch) := hB.out.cell 5
    go_wp2_with fail
    refine (H3.out _).mono ?_
    rintro e W3 ⟨rfl, hb⟩
    replace hv := bl_trans hv hb
    replace hB := Lib.hid (hB.out.below hb)
    clear hb
    replace k0 : W3.cell? ⟨g, 0, none⟩ = some (.string x.name) := hB.out.cell 0
    replace k1 : W3.cell? ⟨g, 1, none⟩ = some (.int .i64 x.length) := hB.out.cell 1
    replace k2 : W3.cell? ⟨g, 2, none⟩ = some (.int .i64 x.ball) := hB.out.cell 2
    replace k3 : W3.cell? ⟨g, 3, none⟩ = some (.int .i64 x.instep) := hB.out.cell 3
    replace k4 : W3.cell? ⟨g, 4, none⟩ = some (.int .i64 x.heel) := hB.out.cell 4
    replace k5 : W3.cell? ⟨g, 5, none⟩ = some (.int .i64 x.pitch) := hB.out.cell 5
    go_wp2_with fail
    refine (H4.out _).mono ?_
    rintro e w' ⟨rfl, hq⟩
    rw [hq]
    clear hq w'
    go_wp2_with fail
    go_returns
    exact Ret.mk (vb (by rw [HP.out]; rfl)) hv
set_option maxHeartbeats 2000000 in
theorem l04One_c (x : Last) (hs : x.name.size ≤ 9223372036854775807) (w : World) : Calls Tryz.prog 86 #[.agg #[.string x.name, .int .i64 x.length, .int .i64 x.ball, .int .i64 x.instep, .int .i64 x.heel, .int .i64 x.pitch]] w (Ret (.bool (lastB x)) w) := by
  have hP : lastB x = (nameB x.name && footB x.foot && inB x.pitch 0 1000) := rfl
  have H1 := fun w => SIsName_c x.name hs w
  have H2 := fun w => l04Foot_c x w
  have H3 := fun w => l02Foot_c x.foot w
  have H4 := fun w => l00In_c x.pitch 0 1000 w
  obtain ⟨b1, e1⟩ : ∃ z, z = nameB x.name := ⟨_, rfl⟩
  obtain ⟨b2, e2⟩ : ∃ z, z = footB x.foot := ⟨_, rfl⟩
  obtain ⟨b3, e3⟩ : ∃ z, z = inB x.pitch 0 1000 := ⟨_, rfl⟩
  rw [← e1] at H1 hP
  rw [← e2] at H3 hP
  rw [← e3] at H4 hP
  unfold Last.foot at H3
  replace H1 := Lib.hid H1
  replace H2 := Lib.hid H2
  replace H3 := Lib.hid H3
  replace H4 := Lib.hid H4
  have HP := Lib.hid hP
  clear hP e1 e2 e3 hs
  obtain ⟨W, hW⟩ : ∃ W, W = w.alloc (Obj.cells #[Value.string x.name, Value.int IntKind.i64 x.length, Value.int IntKind.i64 x.ball, Value.int IntKind.i64 x.instep, Value.int IntKind.i64 x.heel, Value.int IntKind.i64 x.pitch] 93) := ⟨_, rfl⟩
  obtain ⟨g, hg⟩ : ∃ g, g = w.heap.size := ⟨_, rfl⟩
  have hv : Below w.heap.size w W := by rw [hW]; exact bl_alloc (Below.refl _ _) _
  have hB : Hid (Blk W g 93 #[Value.string x.name, Value.int IntKind.i64 x.length, Value.int IntKind.i64 x.ball, Value.int IntKind.i64 x.instep, Value.int IntKind.i64 x.heel, Value.int IntKind.i64 x.pitch]) := Lib.hid (by rw [hW, hg]; exact Blk.new _ _ _)
  have HW := Lib.hid hW
  have HG := Lib.hid hg
  clear hW hg
  have k0 : W.cell? ⟨g, 0, none⟩ = some (.string x.name) := hB.out.cell 0
  have k1 : W.cell? ⟨g, 1, none⟩ = some (.int .i64 x.length) := hB.out.cell 1
  have k2 : W.cell? ⟨g, 2, none⟩ = some (.int .i64 x.ball) := hB.out.cell 2
  have k3 : W.cell? ⟨g, 3, none⟩ = some (.int .i64 x.instep) := hB.out.cell 3
  have k4 : W.cell? ⟨g, 4, none⟩ = some (.int .i64 x.heel) := hB.out.cell 4
  have k5 : W.cell? ⟨g, 5, none⟩ = some (.int .i64 x.pitch) := hB.out.cell 5
  go_enter Tryz.func86, Tryz.ntmps86
  go_upto_region 1 with fail
  rw [← HW.out, ← HG.out]
  clear HW HG
  cases b1
  · skip
    go_wp2_with fail
    refine (H1.out _).mono ?_
    rintro e w' ⟨rfl, hq⟩
    rw [hq]
    clear hq w'
    go_wp2_with fail
    go_returns
    exact Ret.mk (vb (by rw [HP.out]; rfl)) hv
  cases b2
  · skip
    go_wp2_with fail
    refine (H1.out _).mono ?_
    rintro e w' ⟨rfl, hq⟩
    rw [hq]
    clear hq w'
    go_wp2_with fail
    refine (H2.out _).mono ?_
    rintro e W2 ⟨rfl, hb⟩
    replace hv := bl_trans hv hb
    replace hB := Lib.hid (hB.out.below hb)
    clear hb
    replace k0 : W2.cell? ⟨g, 0, none⟩ = some (.string x.name) := hB.out.cell 0
    replace k1 : W2.cell? ⟨g, 1, none⟩ = some (.int .i64 x.length) := hB.out.cell 1
    replace k2 : W2.cell? ⟨g, 2, none⟩ = some (.int .i64 x.ball) := hB.out.cell 2
    replace k3 : W2.cell? ⟨g, 3, none⟩ = some (.int .i64 x.instep) := hB.out.cell 3
    replace k4 : W2.cell? ⟨g, 4, none⟩ = some (.int .i64 x.heel) := hB.out.cell 4
    replace k5 : W2.cell? ⟨g, 5, none⟩ = some (.int .i64 x.pitch) := hB.out.cell 5
    go_wp2_with fail
    refine (H3.out _).mono ?_
    rintro e W3 ⟨rfl, hb⟩
    replace hv := bl_trans hv hb
    replace hB := Lib.hid (hB.out.below hb)
    clear hb
    replace k0 : W3.cell? ⟨g, 0, none⟩ = some (.string x.name) := hB.out.cell 0
    replace k1 : W3.cell? ⟨g, 1, none⟩ = some (.int .i64 x.length) := hB.out.cell 1
    replace k2 : W3.cell? ⟨g, 2, none⟩ = some (.int .i64 x.ball) := hB.out.cell 2
    replace k3 : W3.cell? ⟨g, 3, none⟩ = some (.int .i64 x.instep) := hB.out.cell 3
    replace k4 : W3.cell? ⟨g, 4, none⟩ = some (.int .i64 x.heel) := hB.out.cell 4
    replace k5 : W3.cell? ⟨g, 5, none⟩ = some (.int .i64 x.pitch) := hB.out.cell 5
    go_wp2_with fail
    go_returns
    exact Ret.mk (vb (by rw [HP.out]; rfl)) hv
  · skip
    go_wp2_with fail
    refine (H1.out _).mono ?_
    rintro e w' ⟨rfl, hq⟩
    rw [hq]
    clear hq w'
    go_wp2_with fail
    refine (H2.out _).mono ?_
    rintro e W2 ⟨rfl, hb⟩
    replace hv := bl_trans hv hb
    replace hB := Lib.hid (hB.out.below hb)
    clear hb
    replace k0 : W2.cell? ⟨g, 0, none⟩ = some (.string x.name) := hB.out.cell 0
    replace k1 : W2.cell? ⟨g, 1, none⟩ = some (.int .i64 x.length) := hB.out.cell 1
    replace k2 : W2.cell? ⟨g, 2, none⟩ = some (.int .i64 x.ball) := hB.out.cell 2
    replace k3 : W2.cell? ⟨g, 3, none⟩ = some (.int .i64 x.instep) := hB.out.cell 3
    replace k4 : W2.cell? ⟨g, 4, none⟩ = some (.int .i64 x.heel) := hB.out.cell 4
    replace k5 : W2.cell? ⟨g, 5, none⟩ = some (.int .i64 x.pitch) := hB.out.cell 5
    go_wp2_with fail
    refine (H3.out _).mono ?_
    rintro e W3 ⟨rfl, hb⟩
    replace hv := bl_trans hv hb
    replace hB := Lib.hid (hB.out.below hb)
    clear hb
    replace k0 : W3.cell? ⟨g, 0, none⟩ = some (.string x.name) := hB.out.cell 0
    replace k1 : W3.cell? ⟨g, 1, none⟩ = some (.int .i64 x.length) := hB.out.cell 1
    replace k2 : W3.cell? ⟨g, 2, none⟩ = some (.int .i64 x.ball) := hB.out.cell 2
    replace k3 : W3.cell? ⟨g, 3, none⟩ = some (.int .i64 x.instep) := hB.out.cell 3
    replace k4 : W3.cell? ⟨g, 4, none⟩ = some (.int .i64 x.heel) := hB.out.cell 4
    replace k5 : W3.cell? ⟨g, 5, none⟩ = some (.int .i64 x.pitch) := hB.out.cell 5
    go_wp2_with fail
    refine (H4.out _).mono ?_
    rintro e w' ⟨rfl, hq⟩
    rw [hq]
    clear hq w'
    go_wp2_with fail
    go_returns
    exact Ret.mk (vb (by rw [HP.out]; rfl)) hv
end Go.Proofs.YtihgjmhhpiobbaaGreatDoor
