/- Drawn entries. builds. -/
import Derived.Test.YtnhkdcebldppmaaDoorSrc
import Derived.Test.YtnhkdcebldppmaaDoorDrwP
import Derived.Test.YtnhkdcebldppmaaDoorOwn
import Derived.Test.YtnhkdcebldppmaaDoorEntA
import Derived.Test.YtnhkdcebldppmaaDoorLogP
import Derived.Deep.AppendLies
import Derived.Deep.RegionHeld
import Derived.Deep.CutBlock
import Derived.Deep.DeepCutAuto
namespace Go.Proofs.YtnhkdcebldppmaaDoor
open Go.RowKit

theorem grown_rowJ {W : World} {g : Nat} {t : TypeId} {old cs : Array Value} (_h : Blk W g t old) : W.grownBy (W.setRow g cs) (some g) :=
  ⟨rfl, rfl, rfl, by simp, fun i _ hne => setRow_other W g i cs (fun e => hne (by rw [e]))⟩
def OutEn (g q : Nat) (w : World) (e : Ending) (w' : World) : Prop := ∃ x : Entry, e = .returned x.val ∧ x.what.size ≤ 100 ∧ Src w' g (q + 20) ∧ w.grownBy w' (some g)
set_option maxRecDepth 100000 in
set_option maxHeartbeats 4000000 in
theorem l27DrawEntry_c (g q : Nat) (day : Int) (hd0 : 0 ≤ day) (hd1 : day ≤ 100000) (hq : q ≤ 600000000000) (w : World) (hS : Src w g q) : Calls Tryd.prog 84 #[.pointer (some ⟨g, 0, none⟩), .int .i64 day] w (OutEn g q w) := by
  have HS := Lib.hid hS
  have hgw := hS.lt
  have HG := Lib.hid (World.grownBy.refl w (some g))
  have HW := Lib.hid (Nat.le_refl w.heap.size)
  clear hS
  go_enter Tryd.func84, Tryd.ntmps84
  go_wp2_with fail

  obtain ⟨W0, hWW0⟩ : ∃ z, z = World.alloc w (Obj.cells #[Value.int IntKind.i64 0, Value.string ⟨#[]⟩, Value.int IntKind.i64 0] 54) := ⟨_, rfl⟩
  obtain ⟨gz, hggz⟩ : ∃ z, z = (w).heap.size := ⟨_, rfl⟩
  have HZ : Hid (Blk W0 gz 54 #[Value.int IntKind.i64 0, Value.string ⟨#[]⟩, Value.int IntKind.i64 0]) := Lib.hid (by rw [hWW0, hggz]; exact Blk.new _ _ _)
  have hb : Below (w).heap.size w W0 := by rw [hWW0]; exact bl_alloc (Below.refl (w).heap.size (w)) _
  have hgz0 : w.heap.size ≤ gz := by rw [hggz]; exact HW.out
  have hgz1 : g < gz := by have h : g < (w).heap.size := HS.out.lt; omega
  replace HS := Lib.hid (HS.out.below hb)
  replace HG := Lib.hid (grown_below HG.out hb)
  replace HW := Lib.hid (Nat.le_trans HW.out (hb).size)
  have hn_W0 : gz + 1 = W0.heap.size := by rw [hWW0, hggz]; exact (World.size_alloc _ _).symm
  rw [← hWW0, ← hggz]
  clear hWW0 hggz hb
  clear hn_W0
  refine (pick_c g _ 4 (by omega) (by omega) _ HS.out).mono ?_
  rintro e W1 ⟨r, rfl, r0, r1, hS, hg⟩
  replace HS := Lib.hid hS
  replace HG := Lib.hid (grown_trans HG.out hg)
  replace HZ := Lib.hid (HZ.out.grown hg (by intro e; injection e; omega))
  replace HW := Lib.hid (Nat.le_trans HW.out hg.size)
  clear hS hg
  go_wp2_with fail
  obtain ⟨W2, hWW2⟩ : ∃ z, z = World.alloc W1 (Obj.cells #[Value.int IntKind.i64 (day + r), Value.string ⟨#[]⟩, Value.int IntKind.i64 0] 54) := ⟨_, rfl⟩
  obtain ⟨gx, hggx⟩ : ∃ z, z = (W1).heap.size := ⟨_, rfl⟩
  have HX : Hid (Blk W2 gx 54 #[Value.int IntKind.i64 (day + r), Value.string ⟨#[]⟩, Value.int IntKind.i64 0]) := Lib.hid (by rw [hWW2, hggx]; exact Blk.new _ _ _)
  have hb : Below (W1).heap.size W1 W2 := by rw [hWW2]; exact bl_alloc (Below.refl (W1).heap.size (W1)) _
  have hgx0 : w.heap.size ≤ gx := by rw [hggx]; exact HW.out
  have hgx1 : g < gx := by have h : g < (W1).heap.size := HS.out.lt; omega
  have hgx_HZ := Nat.ne_of_lt (hggx ▸ HZ.out.lt)
  replace HS := Lib.hid (HS.out.below hb)
  replace HG := Lib.hid (grown_below HG.out hb)
  replace HZ := Lib.hid (HZ.out.below hb)
  replace HW := Lib.hid (Nat.le_trans HW.out (hb).size)
  have hn_W2 : gx + 1 = W2.heap.size := by rw [hWW2, hggx]; exact (World.size_alloc _ _).symm
  rw [← hWW2, ← hggx]
  clear hWW2 hggx hb
  rw [hn_W2]
  clear hn_W2
  have hA := arr_new W2 9 #[.string ⟨#[115, 101, 101, 110]⟩, .string ⟨#[115, 111, 108, 101, 115]⟩, .string ⟨#[115, 116, 97, 114, 45, 51]⟩, .string ⟨#[110, 97, 105, 108, 115]⟩]
  have hgA := HS.out.lt
  replace HS := Lib.hid (HS.out.below (bl_alloc (Below.refl _ _) (.cells #[.string ⟨#[115, 101, 101, 110]⟩, .string ⟨#[115, 111, 108, 101, 115]⟩, .string ⟨#[115, 116, 97, 114, 45, 51]⟩, .string ⟨#[110, 97, 105, 108, 115]⟩] 9)))
  replace HG := Lib.hid (grown_alloc HG.out (.cells #[.string ⟨#[115, 101, 101, 110]⟩, .string ⟨#[115, 111, 108, 101, 115]⟩, .string ⟨#[115, 116, 97, 114, 45, 51]⟩, .string ⟨#[110, 97, 105, 108, 115]⟩] 9))
  replace HZ := Lib.hid (HZ.out.alloc (.cells #[.string ⟨#[115, 101, 101, 110]⟩, .string ⟨#[115, 111, 108, 101, 115]⟩, .string ⟨#[115, 116, 97, 114, 45, 51]⟩, .string ⟨#[110, 97, 105, 108, 115]⟩] 9))
  replace HX := Lib.hid (HX.out.alloc (.cells #[.string ⟨#[115, 101, 101, 110]⟩, .string ⟨#[115, 111, 108, 101, 115]⟩, .string ⟨#[115, 116, 97, 114, 45, 51]⟩, .string ⟨#[110, 97, 105, 108, 115]⟩] 9))
  replace HW := Lib.hid (show w.heap.size ≤ (World.alloc W2 (.cells #[.string ⟨#[115, 101, 101, 110]⟩, .string ⟨#[115, 111, 108, 101, 115]⟩, .string ⟨#[115, 116, 97, 114, 45, 51]⟩, .string ⟨#[110, 97, 105, 108, 115]⟩] 9)).heap.size by have := HW.out; rw [World.size_alloc]; omega)
  refine (text_c g _ _ [⟨#[115, 101, 101, 110]⟩, ⟨#[115, 111, 108, 101, 115]⟩, ⟨#[115, 116, 97, 114, 45, 51]⟩, ⟨#[110, 97, 105, 108, 115]⟩] 4 4 (Lib.hid rfl) (by omega) (by omega) (by omega) _ HS.out hA (fun ad e => by injection e with e; subst e; simp only; omega)).mono ?_
  rintro e W3 ⟨v, hv, rfl, hS, hg⟩
  replace HS := Lib.hid hS
  replace HG := Lib.hid (grown_trans HG.out hg)
  replace HZ := Lib.hid (HZ.out.grown hg (by intro e; injection e; omega))
  replace HX := Lib.hid (HX.out.grown hg (by intro e; injection e; omega))
  replace HW := Lib.hid (Nat.le_trans HW.out hg.size)
  clear hS hg
  have HV_v := Lib.hid hv
  clear hA hv hgA
  have hv : v.size ≤ 100 := by
    have hv := HV_v.out
    simp only [List.mem_cons, List.not_mem_nil, or_false] at hv
    rcases hv with rfl | rfl | rfl | rfl <;> decide
  clear HV_v
  have k1 : W3.cell? ⟨gx, 1, none⟩ = some (.string ⟨#[]⟩) := HX.out.cell 1
  have f1 := HX.out.frozen 1
  go_wp2_with fail
  clear k1 f1
  obtain ⟨W4, hW⟩ : ∃ z, z = World.setCell W3 ⟨gx, 1, none⟩ (Value.string v) := ⟨_, rfl⟩
  replace HX := Lib.hid (HX.out.set_ 1 (Value.string v))
  replace HS := Lib.hid (HS.out.far (p := ⟨gx, 1, none⟩) (by simp only; omega) (Value.string v))
  replace HG := Lib.hid (grown_setCell (p := ⟨gx, 1, none⟩) HG.out (.inr (by simp only; omega)) (Value.string v))
  replace HZ := Lib.hid (HZ.out.far (p := ⟨gx, 1, none⟩) (by simp only; omega) (Value.string v))
  replace HW := Lib.hid (show w.heap.size ≤ (World.setCell W3 ⟨gx, 1, none⟩ (Value.string v)).heap.size by rw [World.size_setCell]; exact HW.out)
  rw [← hW] at HS HG HW HZ HX ⊢
  clear hW
  replace HX : Hid (Blk W4 gx 54 #[Value.int IntKind.i64 (day + r), Value.string v, Value.int IntKind.i64 0]) := HX
  refine (pick_c g _ 900 (by omega) (by omega) _ HS.out).mono ?_
  rintro e W5 ⟨r2, rfl, r20, r21, hS, hg⟩
  replace HS := Lib.hid hS
  replace HG := Lib.hid (grown_trans HG.out hg)
  replace HZ := Lib.hid (HZ.out.grown hg (by intro e; injection e; omega))
  replace HX := Lib.hid (HX.out.grown hg (by intro e; injection e; omega))
  replace HW := Lib.hid (Nat.le_trans HW.out hg.size)
  clear hS hg
  have k2 : W5.cell? ⟨gx, 2, none⟩ = some (.int .i64 0) := HX.out.cell 2
  have f2 := HX.out.frozen 2
  go_wp2_with fail
  clear k2 f2
  obtain ⟨W6, hW⟩ : ∃ z, z = World.setCell W5 ⟨gx, 2, none⟩ (Value.int IntKind.i64 (r2 - 200)) := ⟨_, rfl⟩
  replace HX := Lib.hid (HX.out.set_ 2 (Value.int IntKind.i64 (r2 - 200)))
  replace HS := Lib.hid (HS.out.far (p := ⟨gx, 2, none⟩) (by simp only; omega) (Value.int IntKind.i64 (r2 - 200)))
  replace HG := Lib.hid (grown_setCell (p := ⟨gx, 2, none⟩) HG.out (.inr (by simp only; omega)) (Value.int IntKind.i64 (r2 - 200)))
  replace HZ := Lib.hid (HZ.out.far (p := ⟨gx, 2, none⟩) (by simp only; omega) (Value.int IntKind.i64 (r2 - 200)))
  replace HW := Lib.hid (show w.heap.size ≤ (World.setCell W5 ⟨gx, 2, none⟩ (Value.int IntKind.i64 (r2 - 200))).heap.size by rw [World.size_setCell]; exact HW.out)
  rw [← hW] at HS HG HW HZ HX ⊢
  clear hW
  replace HX : Hid (Blk W6 gx 54 #[Value.int IntKind.i64 (day + r), Value.string v, Value.int IntKind.i64 (r2 - 200)]) := HX
  refine (pick_c g _ 24 (by omega) (by omega) _ HS.out).mono ?_
  rintro e W7 ⟨r3, rfl, r30, r31, hS, hg⟩
  replace HS := Lib.hid hS
  replace HG := Lib.hid (grown_trans HG.out hg)
  replace HZ := Lib.hid (HZ.out.grown hg (by intro e; injection e; omega))
  replace HX := Lib.hid (HX.out.grown hg (by intro e; injection e; omega))
  replace HW := Lib.hid (Nat.le_trans HW.out hg.size)
  clear hS hg
  go_upto_block 0 with fail
  go_cut [] (fun wx => ∃ (a b : Int) (s : ByteArray), s.size ≤ 100 ∧ Hid (Blk wx gx 54 #[Value.int IntKind.i64 a, Value.string s, Value.int IntKind.i64 b]) ∧ Hid (Src wx g (q + 20)) ∧ Hid (w.grownBy wx (some g)) ∧ Hid (Blk wx gz 54 #[Value.int IntKind.i64 0, Value.string ⟨#[]⟩, Value.int IntKind.i64 0]) ∧ Hid (w.heap.size ≤ wx.heap.size))
  case first =>
    by_cases h0 : r3 = 0
    case pos =>
      subst h0
      go_wp2_with fail
      have hA := arr_new W7 2 #[.int .i64 (-1), .int .i64 0, .int .i64 100000, .int .i64 100001]
      have hgA := HS.out.lt
      replace HS := Lib.hid (HS.out.below (bl_alloc (Below.refl _ _) (.cells #[.int .i64 (-1), .int .i64 0, .int .i64 100000, .int .i64 100001] 2)))
      replace HG := Lib.hid (grown_alloc HG.out (.cells #[.int .i64 (-1), .int .i64 0, .int .i64 100000, .int .i64 100001] 2))
      replace HZ := Lib.hid (HZ.out.alloc (.cells #[.int .i64 (-1), .int .i64 0, .int .i64 100000, .int .i64 100001] 2))
      replace HX := Lib.hid (HX.out.alloc (.cells #[.int .i64 (-1), .int .i64 0, .int .i64 100000, .int .i64 100001] 2))
      replace HW := Lib.hid (show w.heap.size ≤ (World.alloc W7 (.cells #[.int .i64 (-1), .int .i64 0, .int .i64 100000, .int .i64 100001] 2)).heap.size by have := HW.out; rw [World.size_alloc]; omega)
      refine (among_c g _ _ [-1, 0, 100000, 100001] 4 4 (Lib.hid rfl) (by omega) (by omega) (by omega) _ HS.out hA (fun ad e => by injection e with e; subst e; simp only; omega)).mono ?_
      rintro e W8 ⟨u, hv, rfl, hS, hg⟩
      replace HS := Lib.hid hS
      replace HG := Lib.hid (grown_trans HG.out hg)
      replace HZ := Lib.hid (HZ.out.grown hg (by intro e; injection e; omega))
      replace HX := Lib.hid (HX.out.grown hg (by intro e; injection e; omega))
      replace HW := Lib.hid (Nat.le_trans HW.out hg.size)
      clear hS hg
      clear hA hv hgA
      have k0 : W8.cell? ⟨gx, 0, none⟩ = some (.int .i64 (day + r)) := HX.out.cell 0
      have f0 := HX.out.frozen 0
      go_wp2_with fail
      clear k0 f0
      obtain ⟨W9, hW⟩ : ∃ z, z = World.setCell W8 ⟨gx, 0, none⟩ (Value.int IntKind.i64 u) := ⟨_, rfl⟩
      replace HX := Lib.hid (HX.out.set_ 0 (Value.int IntKind.i64 u))
      replace HS := Lib.hid (HS.out.far (p := ⟨gx, 0, none⟩) (by simp only; omega) (Value.int IntKind.i64 u))
      replace HG := Lib.hid (grown_setCell (p := ⟨gx, 0, none⟩) HG.out (.inr (by simp only; omega)) (Value.int IntKind.i64 u))
      replace HZ := Lib.hid (HZ.out.far (p := ⟨gx, 0, none⟩) (by simp only; omega) (Value.int IntKind.i64 u))
      replace HW := Lib.hid (show w.heap.size ≤ (World.setCell W8 ⟨gx, 0, none⟩ (Value.int IntKind.i64 u)).heap.size by rw [World.size_setCell]; exact HW.out)
      rw [← hW] at HS HG HW HZ HX ⊢
      clear hW
      replace HX : Hid (Blk W9 gx 54 #[Value.int IntKind.i64 u, Value.string v, Value.int IntKind.i64 (r2 - 200)]) := HX
      go_meet
      exact ⟨u, (r2 - 200), v, hv, HX, Lib.hid (HS.out.more (by omega)), HG, HZ, HW⟩
    by_cases h1 : r3 = 1
    case pos =>
      subst h1
      go_wp2_with fail
      have hA := arr_new W7 9 #[.string ⟨#[]⟩, .string ⟨#[83, 101, 101, 110]⟩, .string ⟨#[97, 32, 98]⟩]
      have hgA := HS.out.lt
      replace HS := Lib.hid (HS.out.below (bl_alloc (Below.refl _ _) (.cells #[.string ⟨#[]⟩, .string ⟨#[83, 101, 101, 110]⟩, .string ⟨#[97, 32, 98]⟩] 9)))
      replace HG := Lib.hid (grown_alloc HG.out (.cells #[.string ⟨#[]⟩, .string ⟨#[83, 101, 101, 110]⟩, .string ⟨#[97, 32, 98]⟩] 9))
      replace HZ := Lib.hid (HZ.out.alloc (.cells #[.string ⟨#[]⟩, .string ⟨#[83, 101, 101, 110]⟩, .string ⟨#[97, 32, 98]⟩] 9))
      replace HX := Lib.hid (HX.out.alloc (.cells #[.string ⟨#[]⟩, .string ⟨#[83, 101, 101, 110]⟩, .string ⟨#[97, 32, 98]⟩] 9))
      replace HW := Lib.hid (show w.heap.size ≤ (World.alloc W7 (.cells #[.string ⟨#[]⟩, .string ⟨#[83, 101, 101, 110]⟩, .string ⟨#[97, 32, 98]⟩] 9)).heap.size by have := HW.out; rw [World.size_alloc]; omega)
      refine (text_c g _ _ [⟨#[]⟩, ⟨#[83, 101, 101, 110]⟩, ⟨#[97, 32, 98]⟩] 3 3 (Lib.hid rfl) (by omega) (by omega) (by omega) _ HS.out hA (fun ad e => by injection e with e; subst e; simp only; omega)).mono ?_
      rintro e W8 ⟨u, hv, rfl, hS, hg⟩
      replace HS := Lib.hid hS
      replace HG := Lib.hid (grown_trans HG.out hg)
      replace HZ := Lib.hid (HZ.out.grown hg (by intro e; injection e; omega))
      replace HX := Lib.hid (HX.out.grown hg (by intro e; injection e; omega))
      replace HW := Lib.hid (Nat.le_trans HW.out hg.size)
      clear hS hg
      have HV_u := Lib.hid hv
      clear hA hv hgA
      have hu : u.size ≤ 100 := by
        have hv := HV_u.out
        simp only [List.mem_cons, List.not_mem_nil, or_false] at hv
        rcases hv with rfl | rfl | rfl <;> decide
      clear HV_u
      have k1 : W8.cell? ⟨gx, 1, none⟩ = some (.string v) := HX.out.cell 1
      have f1 := HX.out.frozen 1
      go_wp2_with fail
      clear k1 f1
      obtain ⟨W9, hW⟩ : ∃ z, z = World.setCell W8 ⟨gx, 1, none⟩ (Value.string u) := ⟨_, rfl⟩
      replace HX := Lib.hid (HX.out.set_ 1 (Value.string u))
      replace HS := Lib.hid (HS.out.far (p := ⟨gx, 1, none⟩) (by simp only; omega) (Value.string u))
      replace HG := Lib.hid (grown_setCell (p := ⟨gx, 1, none⟩) HG.out (.inr (by simp only; omega)) (Value.string u))
      replace HZ := Lib.hid (HZ.out.far (p := ⟨gx, 1, none⟩) (by simp only; omega) (Value.string u))
      replace HW := Lib.hid (show w.heap.size ≤ (World.setCell W8 ⟨gx, 1, none⟩ (Value.string u)).heap.size by rw [World.size_setCell]; exact HW.out)
      rw [← hW] at HS HG HW HZ HX ⊢
      clear hW
      replace HX : Hid (Blk W9 gx 54 #[Value.int IntKind.i64 (day + r), Value.string u, Value.int IntKind.i64 (r2 - 200)]) := HX
      go_meet
      exact ⟨(day + r), (r2 - 200), u, hu, HX, Lib.hid (HS.out.more (by omega)), HG, HZ, HW⟩
    by_cases h2 : r3 = 2
    case pos =>
      subst h2
      go_wp2_with fail
      have hA := arr_new W7 2 #[.int .i64 (-1000001), .int .i64 (-1000000), .int .i64 1000000, .int .i64 1000001, .int .i64 (-9223372036854775808)]
      have hgA := HS.out.lt
      replace HS := Lib.hid (HS.out.below (bl_alloc (Below.refl _ _) (.cells #[.int .i64 (-1000001), .int .i64 (-1000000), .int .i64 1000000, .int .i64 1000001, .int .i64 (-9223372036854775808)] 2)))
      replace HG := Lib.hid (grown_alloc HG.out (.cells #[.int .i64 (-1000001), .int .i64 (-1000000), .int .i64 1000000, .int .i64 1000001, .int .i64 (-9223372036854775808)] 2))
      replace HZ := Lib.hid (HZ.out.alloc (.cells #[.int .i64 (-1000001), .int .i64 (-1000000), .int .i64 1000000, .int .i64 1000001, .int .i64 (-9223372036854775808)] 2))
      replace HX := Lib.hid (HX.out.alloc (.cells #[.int .i64 (-1000001), .int .i64 (-1000000), .int .i64 1000000, .int .i64 1000001, .int .i64 (-9223372036854775808)] 2))
      replace HW := Lib.hid (show w.heap.size ≤ (World.alloc W7 (.cells #[.int .i64 (-1000001), .int .i64 (-1000000), .int .i64 1000000, .int .i64 1000001, .int .i64 (-9223372036854775808)] 2)).heap.size by have := HW.out; rw [World.size_alloc]; omega)
      refine (among_c g _ _ [-1000001, -1000000, 1000000, 1000001, -9223372036854775808] 5 5 (Lib.hid rfl) (by omega) (by omega) (by omega) _ HS.out hA (fun ad e => by injection e with e; subst e; simp only; omega)).mono ?_
      rintro e W8 ⟨u, hv, rfl, hS, hg⟩
      replace HS := Lib.hid hS
      replace HG := Lib.hid (grown_trans HG.out hg)
      replace HZ := Lib.hid (HZ.out.grown hg (by intro e; injection e; omega))
      replace HX := Lib.hid (HX.out.grown hg (by intro e; injection e; omega))
      replace HW := Lib.hid (Nat.le_trans HW.out hg.size)
      clear hS hg
      clear hA hv hgA
      have k2 : W8.cell? ⟨gx, 2, none⟩ = some (.int .i64 (r2 - 200)) := HX.out.cell 2
      have f2 := HX.out.frozen 2
      go_wp2_with fail
      clear k2 f2
      obtain ⟨W9, hW⟩ : ∃ z, z = World.setCell W8 ⟨gx, 2, none⟩ (Value.int IntKind.i64 u) := ⟨_, rfl⟩
      replace HX := Lib.hid (HX.out.set_ 2 (Value.int IntKind.i64 u))
      replace HS := Lib.hid (HS.out.far (p := ⟨gx, 2, none⟩) (by simp only; omega) (Value.int IntKind.i64 u))
      replace HG := Lib.hid (grown_setCell (p := ⟨gx, 2, none⟩) HG.out (.inr (by simp only; omega)) (Value.int IntKind.i64 u))
      replace HZ := Lib.hid (HZ.out.far (p := ⟨gx, 2, none⟩) (by simp only; omega) (Value.int IntKind.i64 u))
      replace HW := Lib.hid (show w.heap.size ≤ (World.setCell W8 ⟨gx, 2, none⟩ (Value.int IntKind.i64 u)).heap.size by rw [World.size_setCell]; exact HW.out)
      rw [← hW] at HS HG HW HZ HX ⊢
      clear hW
      replace HX : Hid (Blk W9 gx 54 #[Value.int IntKind.i64 (day + r), Value.string v, Value.int IntKind.i64 u]) := HX
      go_meet
      exact ⟨(day + r), u, v, hv, HX, Lib.hid (HS.out.more (by omega)), HG, HZ, HW⟩
    go_wp2_with fail
    go_meet
    exact ⟨(day + r), (r2 - 200), v, hv, HX, Lib.hid (HS.out.more (by omega)), HG, HZ, HW⟩
  case rest =>
  clear HX HS HG HZ HW hv
  obtain ⟨a, b, s, hs, HX, HS, HG, HZ, HW⟩ := hcut
  have hgr := grown_rowJ (cs := #[Value.int IntKind.i64 a, Value.string s, Value.int IntKind.i64 b]) HZ.out
  go_wp2_with (refine wpList_load_row rfl 54 _ rfl gx rfl 54 #[Value.int IntKind.i64 a, Value.string s, Value.int IntKind.i64 b] (0, 0) _ HX.out Tryd.underlying54 rfl (by kernel_rfl) ?_; refine wpList_store_row rfl 54 _ _ rfl gz #[Value.int IntKind.i64 a, Value.string s, Value.int IntKind.i64 b] rfl rfl 54 #[Value.int IntKind.i64 0, Value.string ⟨#[]⟩, Value.int IntKind.i64 0] HZ.out (by kernel_rfl) rfl (by simp [Value.oneCell']) ?_)
  try simp only [Exit.inBlock, Exit.then]
  refine bodyPost_ret (results_cell_row (P := Tryd.prog) rfl _ _ gz 54 #[Value.int IntKind.i64 a, Value.string s, Value.int IntKind.i64 b] (0, 0) _ rfl ?_ Tryd.underlying54 rfl (by kernel_rfl)) rfl ?_
  · exact setRow_heap _ _ _ _ _ _ HZ.out
  · exact ⟨⟨a, s, b⟩, rfl, hs, HS.out.kept hgr hgz1, grown_over HG.out hgr (fun i e => by injection e with e; omega)⟩
end Go.Proofs.YtnhkdcebldppmaaDoor
