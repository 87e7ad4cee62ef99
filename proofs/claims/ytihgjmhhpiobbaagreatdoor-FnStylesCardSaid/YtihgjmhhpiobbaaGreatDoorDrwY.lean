/- Drawn styles and clauses. -/
import Derived.Test.YtihgjmhhpiobbaaGreatDoorSrc
import Derived.Test.YtihgjmhhpiobbaaGreatDoorDrwP
import Derived.Test.YtihgjmhhpiobbaaGreatDoorOwn
import Derived.Test.YtihgjmhhpiobbaaGreatDoorStyQ
import Derived.Deep.AppendLies
import Derived.Deep.RegionHeld
import Derived.Deep.CutBlock
import Derived.Deep.DeepCutAuto
namespace Go.Proofs.YtihgjmhhpiobbaaGreatDoor
open Go.RowKit

theorem grown_rowY {W : World} {g : Nat} {t : TypeId} {old cs : Array Value} (_h : Blk W g t old) : W.grownBy (W.setRow g cs) (some g) :=
  ⟨rfl, rfl, rfl, by simp, fun i _ hne => setRow_other W g i cs (fun e => hne (by rw [e]))⟩
def Style.small (x : Style) : Prop := x.upper.size ≤ 100 ∧ x.color.size ≤ 100 ∧ x.lining.size ≤ 100 ∧ x.sole.size ≤ 100
def OutSt (g q : Nat) (w : World) (e : Ending) (w' : World) : Prop := ∃ x : Style, e = .returned (.agg #[Value.string x.upper, Value.string x.color, Value.string x.lining, Value.string x.sole, Value.int IntKind.i64 x.thick, Value.int IntKind.i64 x.heel, Value.int IntKind.i64 x.eyelets, Value.int IntKind.i64 x.density, Value.bool x.double]) ∧ styB x = true ∧ x.small ∧ Src w' g (q + 40) ∧ w.grownBy w' (some g)
set_option maxRecDepth 100000 in
set_option maxHeartbeats 8000000 in
theorem l24Draw_c (g q : Nat) (hq : q ≤ 600000000000) (w : World) (hS : Src w g q) : Calls Tryz.prog 38 #[.pointer (some ⟨g, 0, none⟩)] w (OutSt g q w) := by
  have HS := Lib.hid hS
  have hgw := hS.lt
  have HG := Lib.hid (World.grownBy.refl w (some g))
  have HW := Lib.hid (Nat.le_refl w.heap.size)
  clear hS
  go_enter Tryz.func38, Tryz.ntmps38
  go_wp2_with fail

  obtain ⟨W0, hWW0⟩ : ∃ z, z = World.alloc w (Obj.cells #[Value.string ⟨#[]⟩, Value.string ⟨#[]⟩, Value.string ⟨#[]⟩, Value.string ⟨#[]⟩, Value.int IntKind.i64 0, Value.int IntKind.i64 0, Value.int IntKind.i64 0, Value.int IntKind.i64 0, Value.bool false] 33) := ⟨_, rfl⟩
  obtain ⟨gz, hggz⟩ : ∃ z, z = (w).heap.size := ⟨_, rfl⟩
  have HZ : Hid (Blk W0 gz 33 #[Value.string ⟨#[]⟩, Value.string ⟨#[]⟩, Value.string ⟨#[]⟩, Value.string ⟨#[]⟩, Value.int IntKind.i64 0, Value.int IntKind.i64 0, Value.int IntKind.i64 0, Value.int IntKind.i64 0, Value.bool false]) := Lib.hid (by rw [hWW0, hggz]; exact Blk.new _ _ _)
  have hb : Below (w).heap.size w W0 := by rw [hWW0]; exact bl_alloc (Below.refl (w).heap.size (w)) _
  have hgz0 : w.heap.size ≤ gz := by rw [hggz]; exact HW.out
  have hgz1 : g < gz := by have h : g < (w).heap.size := HS.out.lt; omega
  replace HS := Lib.hid (HS.out.below hb)
  replace HG := Lib.hid (grown_below HG.out hb)
  replace HW := Lib.hid (Nat.le_trans HW.out (hb).size)
  have hn_W0 : gz + 1 = W0.heap.size := by rw [hWW0, hggz]; exact (World.size_alloc _ _).symm
  rw [← hWW0, ← hggz]
  clear hWW0 hggz hb
  rw [hn_W0]
  clear hn_W0
  have hA := arr_new W0 9 #[.string ⟨#[99, 97, 108, 102]⟩, .string ⟨#[107, 105, 100]⟩, .string ⟨#[115, 117, 101, 100, 101, 45, 50]⟩]
  have hgA := HS.out.lt
  replace HS := Lib.hid (HS.out.below (bl_alloc (Below.refl _ _) (.cells #[.string ⟨#[99, 97, 108, 102]⟩, .string ⟨#[107, 105, 100]⟩, .string ⟨#[115, 117, 101, 100, 101, 45, 50]⟩] 9)))
  replace HG := Lib.hid (grown_alloc HG.out (.cells #[.string ⟨#[99, 97, 108, 102]⟩, .string ⟨#[107, 105, 100]⟩, .string ⟨#[115, 117, 101, 100, 101, 45, 50]⟩] 9))
  replace HZ := Lib.hid (HZ.out.alloc (.cells #[.string ⟨#[99, 97, 108, 102]⟩, .string ⟨#[107, 105, 100]⟩, .string ⟨#[115, 117, 101, 100, 101, 45, 50]⟩] 9))
  replace HW := Lib.hid (show w.heap.size ≤ (World.alloc W0 (.cells #[.string ⟨#[99, 97, 108, 102]⟩, .string ⟨#[107, 105, 100]⟩, .string ⟨#[115, 117, 101, 100, 101, 45, 50]⟩] 9)).heap.size by have := HW.out; rw [World.size_alloc]; omega)
  refine (text_c g _ _ [⟨#[99, 97, 108, 102]⟩, ⟨#[107, 105, 100]⟩, ⟨#[115, 117, 101, 100, 101, 45, 50]⟩] 3 3 (Lib.hid rfl) (by omega) (by omega) (by omega) _ HS.out hA (fun ad e => by injection e with e; subst e; simp only; omega)).mono ?_
  rintro e W1 ⟨u, hv, rfl, hS, hg⟩
  replace HS := Lib.hid hS
  replace HG := Lib.hid (grown_trans HG.out hg)
  replace HZ := Lib.hid (HZ.out.grown hg (by intro e; injection e; omega))
  replace HW := Lib.hid (Nat.le_trans HW.out hg.size)
  clear hS hg
  have HV_u := Lib.hid hv
  clear hA hv hgA
  have hu : nameB u = true ∧ u.size ≤ 100 := by
    have hv := HV_u.out
    simp only [List.mem_cons, List.not_mem_nil, or_false] at hv
    rcases hv with rfl | rfl | rfl <;> decide
  clear HV_u
  go_wp2_with fail
  obtain ⟨W2, hWW2⟩ : ∃ z, z = World.alloc W1 (Obj.cells #[Value.string u, Value.string ⟨#[]⟩, Value.string ⟨#[]⟩, Value.string ⟨#[]⟩, Value.int IntKind.i64 0, Value.int IntKind.i64 0, Value.int IntKind.i64 0, Value.int IntKind.i64 0, Value.bool false] 33) := ⟨_, rfl⟩
  obtain ⟨gx, hggx⟩ : ∃ z, z = (W1).heap.size := ⟨_, rfl⟩
  have HX : Hid (Blk W2 gx 33 #[Value.string u, Value.string ⟨#[]⟩, Value.string ⟨#[]⟩, Value.string ⟨#[]⟩, Value.int IntKind.i64 0, Value.int IntKind.i64 0, Value.int IntKind.i64 0, Value.int IntKind.i64 0, Value.bool false]) := Lib.hid (by rw [hWW2, hggx]; exact Blk.new _ _ _)
  have hb : Below (W1).heap.size W1 W2 := by rw [hWW2]; exact bl_alloc (Below.refl (W1).heap.size (W1)) _
  have hgx0 : w.heap.size ≤ gx := by rw [hggx]; exact HW.out
  have hgx1 : g < gx := by have h : g < (W1).heap.size := HS.out.lt; omega
  have hgx_HZ := Nat.ne_of_lt (hggx ▸ HZ.out.lt)
  replace HS := Lib.hid (HS.out.below hb)
  replace HG := Lib.hid (grown_below HG.out hb)
  replace HZ := Lib.hid (HZ.out.below hb)
  replace HW := Lib.hid (Nat.le_trans HW.out (hb).size)
  have hn_W2 : gx + 1 = W2.heap.size := by rw [hWW2, hggx]; exact (World.size_alloc _ _).symm
  rw [← hWW2, ← hggx]
  clear hWW2 hggx hb
  rw [hn_W2]
  clear hn_W2
  have hA := arr_new W2 9 #[.string ⟨#[98, 108, 97, 99, 107]⟩, .string ⟨#[98, 114, 111, 119, 110]⟩, .string ⟨#[116, 97, 110]⟩]
  have hgA := HS.out.lt
  replace HS := Lib.hid (HS.out.below (bl_alloc (Below.refl _ _) (.cells #[.string ⟨#[98, 108, 97, 99, 107]⟩, .string ⟨#[98, 114, 111, 119, 110]⟩, .string ⟨#[116, 97, 110]⟩] 9)))
  replace HG := Lib.hid (grown_alloc HG.out (.cells #[.string ⟨#[98, 108, 97, 99, 107]⟩, .string ⟨#[98, 114, 111, 119, 110]⟩, .string ⟨#[116, 97, 110]⟩] 9))
  replace HZ := Lib.hid (HZ.out.alloc (.cells #[.string ⟨#[98, 108, 97, 99, 107]⟩, .string ⟨#[98, 114, 111, 119, 110]⟩, .string ⟨#[116, 97, 110]⟩] 9))
  replace HX := Lib.hid (HX.out.alloc (.cells #[.string ⟨#[98, 108, 97, 99, 107]⟩, .string ⟨#[98, 114, 111, 119, 110]⟩, .string ⟨#[116, 97, 110]⟩] 9))
  replace HW := Lib.hid (show w.heap.size ≤ (World.alloc W2 (.cells #[.string ⟨#[98, 108, 97, 99, 107]⟩, .string ⟨#[98, 114, 111, 119, 110]⟩, .string ⟨#[116, 97, 110]⟩] 9)).heap.size by have := HW.out; rw [World.size_alloc]; omega)
  refine (text_c g _ _ [⟨#[98, 108, 97, 99, 107]⟩, ⟨#[98, 114, 111, 119, 110]⟩, ⟨#[116, 97, 110]⟩] 3 3 (Lib.hid rfl) (by omega) (by omega) (by omega) _ HS.out hA (fun ad e => by injection e with e; subst e; simp only; omega)).mono ?_
  rintro e W3 ⟨co, hv, rfl, hS, hg⟩
  replace HS := Lib.hid hS
  replace HG := Lib.hid (grown_trans HG.out hg)
  replace HZ := Lib.hid (HZ.out.grown hg (by intro e; injection e; omega))
  replace HX := Lib.hid (HX.out.grown hg (by intro e; injection e; omega))
  replace HW := Lib.hid (Nat.le_trans HW.out hg.size)
  clear hS hg
  have HV_co := Lib.hid hv
  clear hA hv hgA
  have hco : nameB co = true ∧ co.size ≤ 100 := by
    have hv := HV_co.out
    simp only [List.mem_cons, List.not_mem_nil, or_false] at hv
    rcases hv with rfl | rfl | rfl <;> decide
  clear HV_co
  have k1 : W3.cell? ⟨gx, 1, none⟩ = some (Value.string ⟨#[]⟩) := HX.out.cell 1
  have f1 := HX.out.frozen 1
  go_wp2_with fail
  clear k1 f1
  obtain ⟨W4, hW⟩ : ∃ z, z = World.setCell W3 ⟨gx, 1, none⟩ (Value.string co) := ⟨_, rfl⟩
  replace HX := Lib.hid (HX.out.set_ 1 (Value.string co))
  replace HS := Lib.hid (HS.out.far (p := ⟨gx, 1, none⟩) (by simp only; omega) (Value.string co))
  replace HG := Lib.hid (grown_setCell (p := ⟨gx, 1, none⟩) HG.out (.inr (by simp only; omega)) (Value.string co))
  replace HZ := Lib.hid (HZ.out.far (p := ⟨gx, 1, none⟩) (by simp only; omega) (Value.string co))
  replace HW := Lib.hid (show w.heap.size ≤ (World.setCell W3 ⟨gx, 1, none⟩ (Value.string co)).heap.size by rw [World.size_setCell]; exact HW.out)
  have hn_W4 : W3.heap.size = W4.heap.size := by rw [hW, World.size_setCell]
  rw [← hW] at HS HG HW HZ HX ⊢
  clear hW
  try rw [hn_W4]
  clear hn_W4
  replace HX : Hid (Blk W4 gx 33 #[Value.string u, Value.string co, Value.string ⟨#[]⟩, Value.string ⟨#[]⟩, Value.int IntKind.i64 0, Value.int IntKind.i64 0, Value.int IntKind.i64 0, Value.int IntKind.i64 0, Value.bool false]) := HX
  have hA := arr_new W4 9 #[.string ⟨#[114, 117, 98, 98, 101, 114]⟩, .string ⟨#[108, 101, 97, 116, 104, 101, 114]⟩, .string ⟨#[99, 111, 114, 107]⟩]
  have hgA := HS.out.lt
  replace HS := Lib.hid (HS.out.below (bl_alloc (Below.refl _ _) (.cells #[.string ⟨#[114, 117, 98, 98, 101, 114]⟩, .string ⟨#[108, 101, 97, 116, 104, 101, 114]⟩, .string ⟨#[99, 111, 114, 107]⟩] 9)))
  replace HG := Lib.hid (grown_alloc HG.out (.cells #[.string ⟨#[114, 117, 98, 98, 101, 114]⟩, .string ⟨#[108, 101, 97, 116, 104, 101, 114]⟩, .string ⟨#[99, 111, 114, 107]⟩] 9))
  replace HZ := Lib.hid (HZ.out.alloc (.cells #[.string ⟨#[114, 117, 98, 98, 101, 114]⟩, .string ⟨#[108, 101, 97, 116, 104, 101, 114]⟩, .string ⟨#[99, 111, 114, 107]⟩] 9))
  replace HX := Lib.hid (HX.out.alloc (.cells #[.string ⟨#[114, 117, 98, 98, 101, 114]⟩, .string ⟨#[108, 101, 97, 116, 104, 101, 114]⟩, .string ⟨#[99, 111, 114, 107]⟩] 9))
  replace HW := Lib.hid (show w.heap.size ≤ (World.alloc W4 (.cells #[.string ⟨#[114, 117, 98, 98, 101, 114]⟩, .string ⟨#[108, 101, 97, 116, 104, 101, 114]⟩, .string ⟨#[99, 111, 114, 107]⟩] 9)).heap.size by have := HW.out; rw [World.size_alloc]; omega)
  refine (text_c g _ _ [⟨#[114, 117, 98, 98, 101, 114]⟩, ⟨#[108, 101, 97, 116, 104, 101, 114]⟩, ⟨#[99, 111, 114, 107]⟩] 3 3 (Lib.hid rfl) (by omega) (by omega) (by omega) _ HS.out hA (fun ad e => by injection e with e; subst e; simp only; omega)).mono ?_
  rintro e W5 ⟨so, hv, rfl, hS, hg⟩
  replace HS := Lib.hid hS
  replace HG := Lib.hid (grown_trans HG.out hg)
  replace HZ := Lib.hid (HZ.out.grown hg (by intro e; injection e; omega))
  replace HX := Lib.hid (HX.out.grown hg (by intro e; injection e; omega))
  replace HW := Lib.hid (Nat.le_trans HW.out hg.size)
  clear hS hg
  have HV_so := Lib.hid hv
  clear hA hv hgA
  have hso : nameB so = true ∧ so.size ≤ 100 := by
    have hv := HV_so.out
    simp only [List.mem_cons, List.not_mem_nil, or_false] at hv
    rcases hv with rfl | rfl | rfl <;> decide
  clear HV_so
  have k3 : W5.cell? ⟨gx, 3, none⟩ = some (Value.string ⟨#[]⟩) := HX.out.cell 3
  have f3 := HX.out.frozen 3
  go_wp2_with fail
  clear k3 f3
  obtain ⟨W6, hW⟩ : ∃ z, z = World.setCell W5 ⟨gx, 3, none⟩ (Value.string so) := ⟨_, rfl⟩
  replace HX := Lib.hid (HX.out.set_ 3 (Value.string so))
  replace HS := Lib.hid (HS.out.far (p := ⟨gx, 3, none⟩) (by simp only; omega) (Value.string so))
  replace HG := Lib.hid (grown_setCell (p := ⟨gx, 3, none⟩) HG.out (.inr (by simp only; omega)) (Value.string so))
  replace HZ := Lib.hid (HZ.out.far (p := ⟨gx, 3, none⟩) (by simp only; omega) (Value.string so))
  replace HW := Lib.hid (show w.heap.size ≤ (World.setCell W5 ⟨gx, 3, none⟩ (Value.string so)).heap.size by rw [World.size_setCell]; exact HW.out)
  have hn_W6 : W5.heap.size = W6.heap.size := by rw [hW, World.size_setCell]
  rw [← hW] at HS HG HW HZ HX ⊢
  clear hW
  try rw [hn_W6]
  clear hn_W6
  replace HX : Hid (Blk W6 gx 33 #[Value.string u, Value.string co, Value.string ⟨#[]⟩, Value.string so, Value.int IntKind.i64 0, Value.int IntKind.i64 0, Value.int IntKind.i64 0, Value.int IntKind.i64 0, Value.bool false]) := HX
  refine (pick_c g _ 80 (by omega) (by omega) _ HS.out).mono ?_
  rintro e W7 ⟨r, rfl, r0, r1, hS, hg⟩
  replace HS := Lib.hid hS
  replace HG := Lib.hid (grown_trans HG.out hg)
  replace HZ := Lib.hid (HZ.out.grown hg (by intro e; injection e; omega))
  replace HX := Lib.hid (HX.out.grown hg (by intro e; injection e; omega))
  replace HW := Lib.hid (Nat.le_trans HW.out hg.size)
  clear hS hg
  have k4 : W7.cell? ⟨gx, 4, none⟩ = some (Value.int IntKind.i64 0) := HX.out.cell 4
  have f4 := HX.out.frozen 4
  go_wp2_with fail
  clear k4 f4
  obtain ⟨W8, hW⟩ : ∃ z, z = World.setCell W7 ⟨gx, 4, none⟩ (Value.int IntKind.i64 (10 + r)) := ⟨_, rfl⟩
  replace HX := Lib.hid (HX.out.set_ 4 (Value.int IntKind.i64 (10 + r)))
  replace HS := Lib.hid (HS.out.far (p := ⟨gx, 4, none⟩) (by simp only; omega) (Value.int IntKind.i64 (10 + r)))
  replace HG := Lib.hid (grown_setCell (p := ⟨gx, 4, none⟩) HG.out (.inr (by simp only; omega)) (Value.int IntKind.i64 (10 + r)))
  replace HZ := Lib.hid (HZ.out.far (p := ⟨gx, 4, none⟩) (by simp only; omega) (Value.int IntKind.i64 (10 + r)))
  replace HW := Lib.hid (show w.heap.size ≤ (World.setCell W7 ⟨gx, 4, none⟩ (Value.int IntKind.i64 (10 + r))).heap.size by rw [World.size_setCell]; exact HW.out)
  have hn_W8 : W7.heap.size = W8.heap.size := by rw [hW, World.size_setCell]
  rw [← hW] at HS HG HW HZ HX ⊢
  clear hW
  try rw [hn_W8]
  clear hn_W8
  replace HX : Hid (Blk W8 gx 33 #[Value.string u, Value.string co, Value.string ⟨#[]⟩, Value.string so, Value.int IntKind.i64 (10 + r), Value.int IntKind.i64 0, Value.int IntKind.i64 0, Value.int IntKind.i64 0, Value.bool false]) := HX
  refine (one_c g _ 2 (by omega) (by omega) _ HS.out).mono ?_
  rintro e W9 ⟨b1, rfl, hS, hg⟩
  replace HS := Lib.hid hS
  replace HG := Lib.hid (grown_trans HG.out hg)
  replace HZ := Lib.hid (HZ.out.grown hg (by intro e; injection e; omega))
  replace HX := Lib.hid (HX.out.grown hg (by intro e; injection e; omega))
  replace HW := Lib.hid (Nat.le_trans HW.out hg.size)
  clear hS hg
  go_upto_if 21 with fail
  go_cut [] (fun wx => ∃ li : ByteArray, (li = ⟨#[]⟩ ∨ nameB li = true ∧ li.size ≤ 100) ∧ Hid (Blk wx gx 33 #[Value.string u, Value.string co, Value.string li, Value.string so, Value.int IntKind.i64 (10 + r), Value.int IntKind.i64 0, Value.int IntKind.i64 0, Value.int IntKind.i64 0, Value.bool false]) ∧ Hid (Src wx g (q + 20)) ∧ Hid (w.grownBy wx (some g)) ∧ Hid (Blk wx gz 33 #[Value.string ⟨#[]⟩, Value.string ⟨#[]⟩, Value.string ⟨#[]⟩, Value.string ⟨#[]⟩, Value.int IntKind.i64 0, Value.int IntKind.i64 0, Value.int IntKind.i64 0, Value.int IntKind.i64 0, Value.bool false]) ∧ Hid (w.heap.size ≤ wx.heap.size))
  case first =>
   as_aux_lemma =>
    cases b1
    case false =>
      go_wp2_with fail
      go_meet
      exact ⟨_, .inl rfl, HX, Lib.hid (HS.out.more (by omega)), HG, HZ, HW⟩
    case true =>
      go_wp2_with fail
      have hA := arr_new W9 9 #[.string ⟨#[102, 101, 108, 116]⟩, .string ⟨#[112, 105, 103]⟩]
      have hgA := HS.out.lt
      replace HS := Lib.hid (HS.out.below (bl_alloc (Below.refl _ _) (.cells #[.string ⟨#[102, 101, 108, 116]⟩, .string ⟨#[112, 105, 103]⟩] 9)))
      replace HG := Lib.hid (grown_alloc HG.out (.cells #[.string ⟨#[102, 101, 108, 116]⟩, .string ⟨#[112, 105, 103]⟩] 9))
      replace HZ := Lib.hid (HZ.out.alloc (.cells #[.string ⟨#[102, 101, 108, 116]⟩, .string ⟨#[112, 105, 103]⟩] 9))
      replace HX := Lib.hid (HX.out.alloc (.cells #[.string ⟨#[102, 101, 108, 116]⟩, .string ⟨#[112, 105, 103]⟩] 9))
      replace HW := Lib.hid (show w.heap.size ≤ (World.alloc W9 (.cells #[.string ⟨#[102, 101, 108, 116]⟩, .string ⟨#[112, 105, 103]⟩] 9)).heap.size by have := HW.out; rw [World.size_alloc]; omega)
      refine (text_c g _ _ [⟨#[102, 101, 108, 116]⟩, ⟨#[112, 105, 103]⟩] 2 2 (Lib.hid rfl) (by omega) (by omega) (by omega) _ HS.out hA (fun ad e => by injection e with e; subst e; simp only; omega)).mono ?_
      rintro e V1 ⟨v, hv, rfl, hS, hg⟩
      replace HS := Lib.hid hS
      replace HG := Lib.hid (grown_trans HG.out hg)
      replace HZ := Lib.hid (HZ.out.grown hg (by intro e; injection e; omega))
      replace HX := Lib.hid (HX.out.grown hg (by intro e; injection e; omega))
      replace HW := Lib.hid (Nat.le_trans HW.out hg.size)
      clear hS hg
      have HV_v := Lib.hid hv
      clear hA hv hgA
      have hv : nameB v = true ∧ v.size ≤ 100 := by
        have hv := HV_v.out
        simp only [List.mem_cons, List.not_mem_nil, or_false] at hv
        rcases hv with rfl | rfl <;> decide
      clear HV_v
      have k2 : V1.cell? ⟨gx, 2, none⟩ = some (Value.string ⟨#[]⟩) := HX.out.cell 2
      have f2 := HX.out.frozen 2
      go_wp2_with fail
      clear k2 f2
      obtain ⟨V2, hW⟩ : ∃ z, z = World.setCell V1 ⟨gx, 2, none⟩ (Value.string v) := ⟨_, rfl⟩
      replace HX := Lib.hid (HX.out.set_ 2 (Value.string v))
      replace HS := Lib.hid (HS.out.far (p := ⟨gx, 2, none⟩) (by simp only; omega) (Value.string v))
      replace HG := Lib.hid (grown_setCell (p := ⟨gx, 2, none⟩) HG.out (.inr (by simp only; omega)) (Value.string v))
      replace HZ := Lib.hid (HZ.out.far (p := ⟨gx, 2, none⟩) (by simp only; omega) (Value.string v))
      replace HW := Lib.hid (show w.heap.size ≤ (World.setCell V1 ⟨gx, 2, none⟩ (Value.string v)).heap.size by rw [World.size_setCell]; exact HW.out)
      have hn_V2 : V1.heap.size = V2.heap.size := by rw [hW, World.size_setCell]
      rw [← hW] at HS HG HW HZ HX ⊢
      clear hW
      try rw [hn_V2]
      clear hn_V2
      replace HX : Hid (Blk V2 gx 33 #[Value.string u, Value.string co, Value.string v, Value.string so, Value.int IntKind.i64 (10 + r), Value.int IntKind.i64 0, Value.int IntKind.i64 0, Value.int IntKind.i64 0, Value.bool false]) := HX
      go_meet
      exact ⟨v, .inr hv, HX, Lib.hid (HS.out.more (by omega)), HG, HZ, HW⟩
  case rest =>
  as_aux_lemma =>
  clear HX HS HG HZ HW
  obtain ⟨li, hli, HX, HS, HG, HZ, HW⟩ := hcut
  rename World => X1
  go_wp2_with fail
  refine (one_c g _ 2 (by omega) (by omega) _ HS.out).mono ?_
  rintro e W10 ⟨b2, rfl, hS, hg⟩
  replace HS := Lib.hid hS
  replace HG := Lib.hid (grown_trans HG.out hg)
  replace HZ := Lib.hid (HZ.out.grown hg (by intro e; injection e; omega))
  replace HX := Lib.hid (HX.out.grown hg (by intro e; injection e; omega))
  replace HW := Lib.hid (Nat.le_trans HW.out hg.size)
  clear hS hg
  go_upto_if 27 with fail
  go_cut [] (fun wx => ∃ he : Int, 0 ≤ he ∧ he ≤ 300 ∧ Hid (Blk wx gx 33 #[Value.string u, Value.string co, Value.string li, Value.string so, Value.int IntKind.i64 (10 + r), Value.int IntKind.i64 he, Value.int IntKind.i64 0, Value.int IntKind.i64 0, Value.bool false]) ∧ Hid (Src wx g (q + 26)) ∧ Hid (w.grownBy wx (some g)) ∧ Hid (Blk wx gz 33 #[Value.string ⟨#[]⟩, Value.string ⟨#[]⟩, Value.string ⟨#[]⟩, Value.string ⟨#[]⟩, Value.int IntKind.i64 0, Value.int IntKind.i64 0, Value.int IntKind.i64 0, Value.int IntKind.i64 0, Value.bool false]) ∧ Hid (w.heap.size ≤ wx.heap.size))
  case first =>
   as_aux_lemma =>
    cases b2
    case false =>
      go_wp2_with fail
      go_meet
      exact ⟨_, by omega, by omega, HX, Lib.hid (HS.out.more (by omega)), HG, HZ, HW⟩
    case true =>
      go_wp2_with fail
      refine (pick_c g _ 300 (by omega) (by omega) _ HS.out).mono ?_
      rintro e V1 ⟨rr, rfl, rr0, rr1, hS, hg⟩
      replace HS := Lib.hid hS
      replace HG := Lib.hid (grown_trans HG.out hg)
      replace HZ := Lib.hid (HZ.out.grown hg (by intro e; injection e; omega))
      replace HX := Lib.hid (HX.out.grown hg (by intro e; injection e; omega))
      replace HW := Lib.hid (Nat.le_trans HW.out hg.size)
      clear hS hg
      have k5 : V1.cell? ⟨gx, 5, none⟩ = some (Value.int IntKind.i64 0) := HX.out.cell 5
      have f5 := HX.out.frozen 5
      go_wp2_with fail
      clear k5 f5
      obtain ⟨V2, hW⟩ : ∃ z, z = World.setCell V1 ⟨gx, 5, none⟩ (Value.int IntKind.i64 (1 + rr)) := ⟨_, rfl⟩
      replace HX := Lib.hid (HX.out.set_ 5 (Value.int IntKind.i64 (1 + rr)))
      replace HS := Lib.hid (HS.out.far (p := ⟨gx, 5, none⟩) (by simp only; omega) (Value.int IntKind.i64 (1 + rr)))
      replace HG := Lib.hid (grown_setCell (p := ⟨gx, 5, none⟩) HG.out (.inr (by simp only; omega)) (Value.int IntKind.i64 (1 + rr)))
      replace HZ := Lib.hid (HZ.out.far (p := ⟨gx, 5, none⟩) (by simp only; omega) (Value.int IntKind.i64 (1 + rr)))
      replace HW := Lib.hid (show w.heap.size ≤ (World.setCell V1 ⟨gx, 5, none⟩ (Value.int IntKind.i64 (1 + rr))).heap.size by rw [World.size_setCell]; exact HW.out)
      have hn_V2 : V1.heap.size = V2.heap.size := by rw [hW, World.size_setCell]
      rw [← hW] at HS HG HW HZ HX ⊢
      clear hW
      try rw [hn_V2]
      clear hn_V2
      replace HX : Hid (Blk V2 gx 33 #[Value.string u, Value.string co, Value.string li, Value.string so, Value.int IntKind.i64 (10 + r), Value.int IntKind.i64 (1 + rr), Value.int IntKind.i64 0, Value.int IntKind.i64 0, Value.bool false]) := HX
      go_meet
      exact ⟨_, by omega, by omega, HX, Lib.hid (HS.out.more (by omega)), HG, HZ, HW⟩
  case rest =>
  as_aux_lemma =>
  clear HX HS HG HZ HW
  obtain ⟨he, he0, he1, HX, HS, HG, HZ, HW⟩ := hcut
  rename World => X2
  go_wp2_with fail
  refine (one_c g _ 2 (by omega) (by omega) _ HS.out).mono ?_
  rintro e W11 ⟨b3, rfl, hS, hg⟩
  replace HS := Lib.hid hS
  replace HG := Lib.hid (grown_trans HG.out hg)
  replace HZ := Lib.hid (HZ.out.grown hg (by intro e; injection e; omega))
  replace HX := Lib.hid (HX.out.grown hg (by intro e; injection e; omega))
  replace HW := Lib.hid (Nat.le_trans HW.out hg.size)
  clear hS hg
  go_upto_if 33 with fail
  go_cut [] (fun wx => ∃ ey : Int, 0 ≤ ey ∧ ey ≤ 12 ∧ Hid (Blk wx gx 33 #[Value.string u, Value.string co, Value.string li, Value.string so, Value.int IntKind.i64 (10 + r), Value.int IntKind.i64 he, Value.int IntKind.i64 ey, Value.int IntKind.i64 0, Value.bool false]) ∧ Hid (Src wx g (q + 32)) ∧ Hid (w.grownBy wx (some g)) ∧ Hid (Blk wx gz 33 #[Value.string ⟨#[]⟩, Value.string ⟨#[]⟩, Value.string ⟨#[]⟩, Value.string ⟨#[]⟩, Value.int IntKind.i64 0, Value.int IntKind.i64 0, Value.int IntKind.i64 0, Value.int IntKind.i64 0, Value.bool false]) ∧ Hid (w.heap.size ≤ wx.heap.size))
  case first =>
   as_aux_lemma =>
    cases b3
    case false =>
      go_wp2_with fail
      go_meet
      exact ⟨_, by omega, by omega, HX, Lib.hid (HS.out.more (by omega)), HG, HZ, HW⟩
    case true =>
      go_wp2_with fail
      refine (pick_c g _ 12 (by omega) (by omega) _ HS.out).mono ?_
      rintro e V1 ⟨rr, rfl, rr0, rr1, hS, hg⟩
      replace HS := Lib.hid hS
      replace HG := Lib.hid (grown_trans HG.out hg)
      replace HZ := Lib.hid (HZ.out.grown hg (by intro e; injection e; omega))
      replace HX := Lib.hid (HX.out.grown hg (by intro e; injection e; omega))
      replace HW := Lib.hid (Nat.le_trans HW.out hg.size)
      clear hS hg
      have k6 : V1.cell? ⟨gx, 6, none⟩ = some (Value.int IntKind.i64 0) := HX.out.cell 6
      have f6 := HX.out.frozen 6
      go_wp2_with fail
      clear k6 f6
      obtain ⟨V2, hW⟩ : ∃ z, z = World.setCell V1 ⟨gx, 6, none⟩ (Value.int IntKind.i64 (1 + rr)) := ⟨_, rfl⟩
      replace HX := Lib.hid (HX.out.set_ 6 (Value.int IntKind.i64 (1 + rr)))
      replace HS := Lib.hid (HS.out.far (p := ⟨gx, 6, none⟩) (by simp only; omega) (Value.int IntKind.i64 (1 + rr)))
      replace HG := Lib.hid (grown_setCell (p := ⟨gx, 6, none⟩) HG.out (.inr (by simp only; omega)) (Value.int IntKind.i64 (1 + rr)))
      replace HZ := Lib.hid (HZ.out.far (p := ⟨gx, 6, none⟩) (by simp only; omega) (Value.int IntKind.i64 (1 + rr)))
      replace HW := Lib.hid (show w.heap.size ≤ (World.setCell V1 ⟨gx, 6, none⟩ (Value.int IntKind.i64 (1 + rr))).heap.size by rw [World.size_setCell]; exact HW.out)
      have hn_V2 : V1.heap.size = V2.heap.size := by rw [hW, World.size_setCell]
      rw [← hW] at HS HG HW HZ HX ⊢
      clear hW
      try rw [hn_V2]
      clear hn_V2
      replace HX : Hid (Blk V2 gx 33 #[Value.string u, Value.string co, Value.string li, Value.string so, Value.int IntKind.i64 (10 + r), Value.int IntKind.i64 he, Value.int IntKind.i64 (1 + rr), Value.int IntKind.i64 0, Value.bool false]) := HX
      go_meet
      exact ⟨_, by omega, by omega, HX, Lib.hid (HS.out.more (by omega)), HG, HZ, HW⟩
  case rest =>
  as_aux_lemma =>
  clear HX HS HG HZ HW
  obtain ⟨ey, ey0, ey1, HX, HS, HG, HZ, HW⟩ := hcut
  rename World => X3
  go_wp2_with fail
  refine (one_c g _ 2 (by omega) (by omega) _ HS.out).mono ?_
  rintro e W12 ⟨b4, rfl, hS, hg⟩
  replace HS := Lib.hid hS
  replace HG := Lib.hid (grown_trans HG.out hg)
  replace HZ := Lib.hid (HZ.out.grown hg (by intro e; injection e; omega))
  replace HX := Lib.hid (HX.out.grown hg (by intro e; injection e; omega))
  replace HW := Lib.hid (Nat.le_trans HW.out hg.size)
  clear hS hg
  go_upto_if 39 with fail
  go_cut [] (fun wx => ∃ (de : Int) (db : Bool), (de = 0 ∧ db = false ∨ 10 ≤ de ∧ de ≤ 80) ∧ Hid (Blk wx gx 33 #[Value.string u, Value.string co, Value.string li, Value.string so, Value.int IntKind.i64 (10 + r), Value.int IntKind.i64 he, Value.int IntKind.i64 ey, Value.int IntKind.i64 de, Value.bool db]) ∧ Hid (Src wx g (q + 38)) ∧ Hid (w.grownBy wx (some g)) ∧ Hid (Blk wx gz 33 #[Value.string ⟨#[]⟩, Value.string ⟨#[]⟩, Value.string ⟨#[]⟩, Value.string ⟨#[]⟩, Value.int IntKind.i64 0, Value.int IntKind.i64 0, Value.int IntKind.i64 0, Value.int IntKind.i64 0, Value.bool false]) ∧ Hid (w.heap.size ≤ wx.heap.size))
  case first =>
   as_aux_lemma =>
    cases b4
    case false =>
      go_wp2_with fail
      go_meet
      exact ⟨0, false, .inl ⟨rfl, rfl⟩, HX, Lib.hid (HS.out.more (by omega)), HG, HZ, HW⟩
    case true =>
      go_wp2_with fail
      refine (pick_c g _ 70 (by omega) (by omega) _ HS.out).mono ?_
      rintro e V1 ⟨rr, rfl, rr0, rr1, hS, hg⟩
      replace HS := Lib.hid hS
      replace HG := Lib.hid (grown_trans HG.out hg)
      replace HZ := Lib.hid (HZ.out.grown hg (by intro e; injection e; omega))
      replace HX := Lib.hid (HX.out.grown hg (by intro e; injection e; omega))
      replace HW := Lib.hid (Nat.le_trans HW.out hg.size)
      clear hS hg
      have k7 : V1.cell? ⟨gx, 7, none⟩ = some (Value.int IntKind.i64 0) := HX.out.cell 7
      have f7 := HX.out.frozen 7
      go_wp2_with fail
      clear k7 f7
      obtain ⟨V2, hW⟩ : ∃ z, z = World.setCell V1 ⟨gx, 7, none⟩ (Value.int IntKind.i64 (10 + rr)) := ⟨_, rfl⟩
      replace HX := Lib.hid (HX.out.set_ 7 (Value.int IntKind.i64 (10 + rr)))
      replace HS := Lib.hid (HS.out.far (p := ⟨gx, 7, none⟩) (by simp only; omega) (Value.int IntKind.i64 (10 + rr)))
      replace HG := Lib.hid (grown_setCell (p := ⟨gx, 7, none⟩) HG.out (.inr (by simp only; omega)) (Value.int IntKind.i64 (10 + rr)))
      replace HZ := Lib.hid (HZ.out.far (p := ⟨gx, 7, none⟩) (by simp only; omega) (Value.int IntKind.i64 (10 + rr)))
      replace HW := Lib.hid (show w.heap.size ≤ (World.setCell V1 ⟨gx, 7, none⟩ (Value.int IntKind.i64 (10 + rr))).heap.size by rw [World.size_setCell]; exact HW.out)
      have hn_V2 : V1.heap.size = V2.heap.size := by rw [hW, World.size_setCell]
      rw [← hW] at HS HG HW HZ HX ⊢
      clear hW
      try rw [hn_V2]
      clear hn_V2
      replace HX : Hid (Blk V2 gx 33 #[Value.string u, Value.string co, Value.string li, Value.string so, Value.int IntKind.i64 (10 + r), Value.int IntKind.i64 he, Value.int IntKind.i64 ey, Value.int IntKind.i64 (10 + rr), Value.bool false]) := HX
      refine (one_c g _ 2 (by omega) (by omega) _ HS.out).mono ?_
      rintro e V3 ⟨bb, rfl, hS, hg⟩
      replace HS := Lib.hid hS
      replace HG := Lib.hid (grown_trans HG.out hg)
      replace HZ := Lib.hid (HZ.out.grown hg (by intro e; injection e; omega))
      replace HX := Lib.hid (HX.out.grown hg (by intro e; injection e; omega))
      replace HW := Lib.hid (Nat.le_trans HW.out hg.size)
      clear hS hg
      have k8 : V3.cell? ⟨gx, 8, none⟩ = some (Value.bool false) := HX.out.cell 8
      have f8 := HX.out.frozen 8
      go_wp2_with fail
      clear k8 f8
      obtain ⟨V4, hW⟩ : ∃ z, z = World.setCell V3 ⟨gx, 8, none⟩ (Value.bool bb) := ⟨_, rfl⟩
      replace HX := Lib.hid (HX.out.set_ 8 (Value.bool bb))
      replace HS := Lib.hid (HS.out.far (p := ⟨gx, 8, none⟩) (by simp only; omega) (Value.bool bb))
      replace HG := Lib.hid (grown_setCell (p := ⟨gx, 8, none⟩) HG.out (.inr (by simp only; omega)) (Value.bool bb))
      replace HZ := Lib.hid (HZ.out.far (p := ⟨gx, 8, none⟩) (by simp only; omega) (Value.bool bb))
      replace HW := Lib.hid (show w.heap.size ≤ (World.setCell V3 ⟨gx, 8, none⟩ (Value.bool bb)).heap.size by rw [World.size_setCell]; exact HW.out)
      have hn_V4 : V3.heap.size = V4.heap.size := by rw [hW, World.size_setCell]
      rw [← hW] at HS HG HW HZ HX ⊢
      clear hW
      try rw [hn_V4]
      clear hn_V4
      replace HX : Hid (Blk V4 gx 33 #[Value.string u, Value.string co, Value.string li, Value.string so, Value.int IntKind.i64 (10 + r), Value.int IntKind.i64 he, Value.int IntKind.i64 ey, Value.int IntKind.i64 (10 + rr), Value.bool bb]) := HX
      go_meet
      exact ⟨_, _, .inr (by omega), HX, Lib.hid (HS.out.more (by omega)), HG, HZ, HW⟩
  case rest =>
  as_aux_lemma =>
  clear HX HS HG HZ HW
  obtain ⟨de, db, hde, HX, HS, HG, HZ, HW⟩ := hcut
  rename World => X4
  have hgr := grown_rowY (cs := #[Value.string u, Value.string co, Value.string li, Value.string so, Value.int IntKind.i64 (10 + r), Value.int IntKind.i64 he, Value.int IntKind.i64 ey, Value.int IntKind.i64 de, Value.bool db]) HZ.out
  have hst : styB ⟨u, co, li, so, 10 + r, he, ey, de, db⟩ = true := by
    rw [styB_parts]
    refine ⟨hu.1, hco.1, ?_, hso.1, ?_, ?_, ?_, ?_⟩
    · dsimp only
      rcases hli with rfl | hli
      · rfl
      · rw [hli.1, Bool.or_true]
    · dsimp only; exact inB_true (by omega) (by omega)
    · dsimp only; exact inB_true (by omega) (by omega)
    · dsimp only; exact inB_true (by omega) (by omega)
    · dsimp only
      rcases hde with ⟨rfl, rfl⟩ | hde
      · rfl
      · rw [inB_true (by omega) (by omega), Bool.or_true]
  have hsm : Style.small ⟨u, co, li, so, 10 + r, he, ey, de, db⟩ := by
    refine ⟨hu.2, hco.2, ?_, hso.2⟩
    dsimp only
    rcases hli with rfl | hli
    · decide
    · exact hli.2
  have HST := Lib.hid hst
  have HSM := Lib.hid hsm
  clear hst hsm hu hco hso hli hde
  go_wp2_with (refine wpList_load_row rfl 33 _ rfl gx rfl 33 #[Value.string u, Value.string co, Value.string li, Value.string so, Value.int IntKind.i64 (10 + r), Value.int IntKind.i64 he, Value.int IntKind.i64 ey, Value.int IntKind.i64 de, Value.bool db] (0, 0) _ HX.out Tryz.underlying33 rfl (by kernel_rfl) ?_; refine wpList_store_row rfl 33 _ _ rfl gz #[Value.string u, Value.string co, Value.string li, Value.string so, Value.int IntKind.i64 (10 + r), Value.int IntKind.i64 he, Value.int IntKind.i64 ey, Value.int IntKind.i64 de, Value.bool db] rfl rfl 33 #[Value.string ⟨#[]⟩, Value.string ⟨#[]⟩, Value.string ⟨#[]⟩, Value.string ⟨#[]⟩, Value.int IntKind.i64 0, Value.int IntKind.i64 0, Value.int IntKind.i64 0, Value.int IntKind.i64 0, Value.bool false] HZ.out (by kernel_rfl) rfl (by simp [Value.oneCell']) ?_)
  try simp only [Exit.inBlock, Exit.then]
  refine bodyPost_ret (results_cell_row (P := Tryz.prog) rfl _ _ gz 33 #[Value.string u, Value.string co, Value.string li, Value.string so, Value.int IntKind.i64 (10 + r), Value.int IntKind.i64 he, Value.int IntKind.i64 ey, Value.int IntKind.i64 de, Value.bool db] (0, 0) _ rfl ?_ Tryz.underlying33 rfl (by kernel_rfl)) rfl ?_
  · exact setRow_heap _ _ _ _ _ _ HZ.out
  · exact ⟨⟨u, co, li, so, 10 + r, he, ey, de, db⟩, rfl, HST.out, HSM.out, (HS.out.kept hgr hgz1).more (by omega), grown_over HG.out hgr (fun i e => by injection e with e; omega)⟩
end Go.Proofs.YtihgjmhhpiobbaaGreatDoor
