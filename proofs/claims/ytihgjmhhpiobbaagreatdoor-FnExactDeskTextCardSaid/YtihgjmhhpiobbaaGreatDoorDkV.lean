/- A valid state of the console, both sides. -/
import Derived.Test.YtihgjmhhpiobbaaGreatDoorLstB
import Derived.Test.YtihgjmhhpiobbaaGreatDoorLstC
import Derived.Test.YtihgjmhhpiobbaaGreatDoorLogW
import Derived.Test.YtihgjmhhpiobbaaGreatDoorStyV
import Derived.Test.YtihgjmhhpiobbaaGreatDoorStyC
namespace Go.Proofs.YtihgjmhhpiobbaaGreatDoor
open Go.RowKit

def deskB (f : Foot) (xs : List Last) (s : Style) (lg : ByteArray) : Bool := footB f && lasB xs && styB s && decide (cdL lg = 0)
set_option maxHeartbeats 1000000 in
theorem isLog_c (s : ByteArray) (hs : s.size ≤ 1048576) (w : World) (hT : Tabs w) : Calls Tryz.prog 31 #[.string s] w (Ret (.bool (decide (cdL s = 0))) w) := by
  have HC := logCode_c s hs w hT
  unfold OutLc at HC
  obtain ⟨K, hK⟩ : ∃ z, z = cdL s := ⟨_, rfl⟩
  rw [← hK] at HC ⊢
  replace HC := Lib.hid HC
  clear hK
  go_enter Tryz.func31, Tryz.ntmps31
  go_wp2_with fail
  refine HC.out.mono ?_
  rintro e W ⟨A, c, m, es, st, n, rfl, _, _, _, _, _, hb⟩
  go_wp2_with fail
  go_returns
  exact Ret.mk (vb (by rfl)) (bl_alloc hb _)
set_option maxRecDepth 100000 in
set_option maxHeartbeats 8000000 in
theorem ValidDesk_c (f : Foot) (s : Style) (lg : ByteArray) (A : Option Addr) (xs : List Last) (n c : Nat) (hn : Hid (xs.length = n)) (hm : (n : Int) ≤ 1048576) (hs : Hid (∀ x ∈ xs, x.name.size ≤ 9223372036854775807)) (hx : Hid s.fits) (hl : lg.size ≤ 1048576) (w : World) (hA : Arr w A (flat Last.cells xs)) (hT : Tabs w) : Calls Tryz.prog 9 #[Value.agg #[Value.int IntKind.i64 f.length, Value.int IntKind.i64 f.ball, Value.int IntKind.i64 f.instep, Value.int IntKind.i64 f.heel, Value.slice A n c, Value.string s.upper, Value.string s.color, Value.string s.lining, Value.string s.sole, Value.int IntKind.i64 s.thick, Value.int IntKind.i64 s.heel, Value.int IntKind.i64 s.eyelets, Value.int IntKind.i64 s.density, Value.bool s.double, Value.string lg]] w (Ret (.bool (deskB f xs s lg)) w) := by
  have HA := Lib.hid hA
  have HT := Lib.hid hT
  clear hA hT
  have H1 := fun w => ValidFoot_c f w
  have H2 := fun w h => ValidLasts_c A xs n c hn hm hs w h
  have H3 := fun w => ValidStyle_c s (Lib.hid (by have h := hx.out.1; omega)) w
  have H4 := fun w h => isLog_c lg hl w h
  have hP : deskB f xs s lg = (footB f && lasB xs && styB s && decide (cdL lg = 0)) := rfl
  obtain ⟨b1, e1⟩ : ∃ z, z = footB f := ⟨_, rfl⟩
  rw [← e1] at H1 hP
  obtain ⟨b2, e2⟩ : ∃ z, z = lasB xs := ⟨_, rfl⟩
  rw [← e2] at H2 hP
  obtain ⟨b3, e3⟩ : ∃ z, z = styB s := ⟨_, rfl⟩
  rw [← e3] at H3 hP
  obtain ⟨b4, e4⟩ : ∃ z, z = decide (cdL lg = 0) := ⟨_, rfl⟩
  rw [← e4] at H4 hP
  clear e4
  have HP := Lib.hid hP
  clear hP e1 e2 e3 hx hl
  replace H1 := Lib.hid H1
  replace H2 := Lib.hid H2
  replace H3 := Lib.hid H3
  replace H4 := Lib.hid H4
  obtain ⟨W, hW⟩ : ∃ W, W = w.alloc (Obj.cells #[Value.int IntKind.i64 f.length, Value.int IntKind.i64 f.ball, Value.int IntKind.i64 f.instep, Value.int IntKind.i64 f.heel, Value.slice A n c, Value.string s.upper, Value.string s.color, Value.string s.lining, Value.string s.sole, Value.int IntKind.i64 s.thick, Value.int IntKind.i64 s.heel, Value.int IntKind.i64 s.eyelets, Value.int IntKind.i64 s.density, Value.bool s.double, Value.string lg] 35) := ⟨_, rfl⟩
  obtain ⟨g, hg⟩ : ∃ g, g = w.heap.size := ⟨_, rfl⟩
  have hv : Below w.heap.size w W := by rw [hW]; exact bl_alloc (Below.refl _ _) _
  have hB : Hid (Blk W g 35 #[Value.int IntKind.i64 f.length, Value.int IntKind.i64 f.ball, Value.int IntKind.i64 f.instep, Value.int IntKind.i64 f.heel, Value.slice A n c, Value.string s.upper, Value.string s.color, Value.string s.lining, Value.string s.sole, Value.int IntKind.i64 s.thick, Value.int IntKind.i64 s.heel, Value.int IntKind.i64 s.eyelets, Value.int IntKind.i64 s.density, Value.bool s.double, Value.string lg]) := Lib.hid (by rw [hW, hg]; exact Blk.new _ _ _)
  have HW := Lib.hid hW
  have HG := Lib.hid hg
  clear hW hg
  have k0 : W.cell? ⟨g, 0, none⟩ = some (Value.int IntKind.i64 f.length) := hB.out.cell 0
  have k1 : W.cell? ⟨g, 1, none⟩ = some (Value.int IntKind.i64 f.ball) := hB.out.cell 1
  have k2 : W.cell? ⟨g, 2, none⟩ = some (Value.int IntKind.i64 f.instep) := hB.out.cell 2
  have k3 : W.cell? ⟨g, 3, none⟩ = some (Value.int IntKind.i64 f.heel) := hB.out.cell 3
  have k4 : W.cell? ⟨g, 4, none⟩ = some (Value.slice A n c) := hB.out.cell 4
  have k5 : W.cell? ⟨g, 5, none⟩ = some (Value.string s.upper) := hB.out.cell 5
  have k6 : W.cell? ⟨g, 6, none⟩ = some (Value.string s.color) := hB.out.cell 6
  have k7 : W.cell? ⟨g, 7, none⟩ = some (Value.string s.lining) := hB.out.cell 7
  have k8 : W.cell? ⟨g, 8, none⟩ = some (Value.string s.sole) := hB.out.cell 8
  have k9 : W.cell? ⟨g, 9, none⟩ = some (Value.int IntKind.i64 s.thick) := hB.out.cell 9
  have k10 : W.cell? ⟨g, 10, none⟩ = some (Value.int IntKind.i64 s.heel) := hB.out.cell 10
  have k11 : W.cell? ⟨g, 11, none⟩ = some (Value.int IntKind.i64 s.eyelets) := hB.out.cell 11
  have k12 : W.cell? ⟨g, 12, none⟩ = some (Value.int IntKind.i64 s.density) := hB.out.cell 12
  have k13 : W.cell? ⟨g, 13, none⟩ = some (Value.bool s.double) := hB.out.cell 13
  have k14 : W.cell? ⟨g, 14, none⟩ = some (Value.string lg) := hB.out.cell 14
  go_enter Tryz.func9, Tryz.ntmps9
  go_upto_region 1 with fail
  rw [← HW.out, ← HG.out]
  clear HW HG
  cases b1
  · skip
    go_wp2_with fail
    refine (H1.out _).mono ?_
    rintro e W1 ⟨rfl, hb⟩
    replace hv := bl_trans hv hb
    replace hB := Lib.hid (hB.out.below hb)
    clear hb
    replace k0 : W1.cell? ⟨g, 0, none⟩ = some (Value.int IntKind.i64 f.length) := hB.out.cell 0
    replace k1 : W1.cell? ⟨g, 1, none⟩ = some (Value.int IntKind.i64 f.ball) := hB.out.cell 1
    replace k2 : W1.cell? ⟨g, 2, none⟩ = some (Value.int IntKind.i64 f.instep) := hB.out.cell 2
    replace k3 : W1.cell? ⟨g, 3, none⟩ = some (Value.int IntKind.i64 f.heel) := hB.out.cell 3
    replace k4 : W1.cell? ⟨g, 4, none⟩ = some (Value.slice A n c) := hB.out.cell 4
    replace k5 : W1.cell? ⟨g, 5, none⟩ = some (Value.string s.upper) := hB.out.cell 5
    replace k6 : W1.cell? ⟨g, 6, none⟩ = some (Value.string s.color) := hB.out.cell 6
    replace k7 : W1.cell? ⟨g, 7, none⟩ = some (Value.string s.lining) := hB.out.cell 7
    replace k8 : W1.cell? ⟨g, 8, none⟩ = some (Value.string s.sole) := hB.out.cell 8
    replace k9 : W1.cell? ⟨g, 9, none⟩ = some (Value.int IntKind.i64 s.thick) := hB.out.cell 9
    replace k10 : W1.cell? ⟨g, 10, none⟩ = some (Value.int IntKind.i64 s.heel) := hB.out.cell 10
    replace k11 : W1.cell? ⟨g, 11, none⟩ = some (Value.int IntKind.i64 s.eyelets) := hB.out.cell 11
    replace k12 : W1.cell? ⟨g, 12, none⟩ = some (Value.int IntKind.i64 s.density) := hB.out.cell 12
    replace k13 : W1.cell? ⟨g, 13, none⟩ = some (Value.bool s.double) := hB.out.cell 13
    replace k14 : W1.cell? ⟨g, 14, none⟩ = some (Value.string lg) := hB.out.cell 14
    go_wp2_with fail
    go_returns
    exact Ret.mk (vb (by rw [HP.out]; rfl)) hv
  cases b2
  · skip
    go_wp2_with fail
    refine (H1.out _).mono ?_
    rintro e W1 ⟨rfl, hb⟩
    replace hv := bl_trans hv hb
    replace hB := Lib.hid (hB.out.below hb)
    clear hb
    replace k0 : W1.cell? ⟨g, 0, none⟩ = some (Value.int IntKind.i64 f.length) := hB.out.cell 0
    replace k1 : W1.cell? ⟨g, 1, none⟩ = some (Value.int IntKind.i64 f.ball) := hB.out.cell 1
    replace k2 : W1.cell? ⟨g, 2, none⟩ = some (Value.int IntKind.i64 f.instep) := hB.out.cell 2
    replace k3 : W1.cell? ⟨g, 3, none⟩ = some (Value.int IntKind.i64 f.heel) := hB.out.cell 3
    replace k4 : W1.cell? ⟨g, 4, none⟩ = some (Value.slice A n c) := hB.out.cell 4
    replace k5 : W1.cell? ⟨g, 5, none⟩ = some (Value.string s.upper) := hB.out.cell 5
    replace k6 : W1.cell? ⟨g, 6, none⟩ = some (Value.string s.color) := hB.out.cell 6
    replace k7 : W1.cell? ⟨g, 7, none⟩ = some (Value.string s.lining) := hB.out.cell 7
    replace k8 : W1.cell? ⟨g, 8, none⟩ = some (Value.string s.sole) := hB.out.cell 8
    replace k9 : W1.cell? ⟨g, 9, none⟩ = some (Value.int IntKind.i64 s.thick) := hB.out.cell 9
    replace k10 : W1.cell? ⟨g, 10, none⟩ = some (Value.int IntKind.i64 s.heel) := hB.out.cell 10
    replace k11 : W1.cell? ⟨g, 11, none⟩ = some (Value.int IntKind.i64 s.eyelets) := hB.out.cell 11
    replace k12 : W1.cell? ⟨g, 12, none⟩ = some (Value.int IntKind.i64 s.density) := hB.out.cell 12
    replace k13 : W1.cell? ⟨g, 13, none⟩ = some (Value.bool s.double) := hB.out.cell 13
    replace k14 : W1.cell? ⟨g, 14, none⟩ = some (Value.string lg) := hB.out.cell 14
    go_wp2_with fail
    refine (H2.out _ (HA.out.below hv)).mono ?_
    rintro e W2 ⟨rfl, hb⟩
    replace hv := bl_trans hv hb
    replace hB := Lib.hid (hB.out.below hb)
    clear hb
    replace k0 : W2.cell? ⟨g, 0, none⟩ = some (Value.int IntKind.i64 f.length) := hB.out.cell 0
    replace k1 : W2.cell? ⟨g, 1, none⟩ = some (Value.int IntKind.i64 f.ball) := hB.out.cell 1
    replace k2 : W2.cell? ⟨g, 2, none⟩ = some (Value.int IntKind.i64 f.instep) := hB.out.cell 2
    replace k3 : W2.cell? ⟨g, 3, none⟩ = some (Value.int IntKind.i64 f.heel) := hB.out.cell 3
    replace k4 : W2.cell? ⟨g, 4, none⟩ = some (Value.slice A n c) := hB.out.cell 4
    replace k5 : W2.cell? ⟨g, 5, none⟩ = some (Value.string s.upper) := hB.out.cell 5
    replace k6 : W2.cell? ⟨g, 6, none⟩ = some (Value.string s.color) := hB.out.cell 6
    replace k7 : W2.cell? ⟨g, 7, none⟩ = some (Value.string s.lining) := hB.out.cell 7
    replace k8 : W2.cell? ⟨g, 8, none⟩ = some (Value.string s.sole) := hB.out.cell 8
    replace k9 : W2.cell? ⟨g, 9, none⟩ = some (Value.int IntKind.i64 s.thick) := hB.out.cell 9
    replace k10 : W2.cell? ⟨g, 10, none⟩ = some (Value.int IntKind.i64 s.heel) := hB.out.cell 10
    replace k11 : W2.cell? ⟨g, 11, none⟩ = some (Value.int IntKind.i64 s.eyelets) := hB.out.cell 11
    replace k12 : W2.cell? ⟨g, 12, none⟩ = some (Value.int IntKind.i64 s.density) := hB.out.cell 12
    replace k13 : W2.cell? ⟨g, 13, none⟩ = some (Value.bool s.double) := hB.out.cell 13
    replace k14 : W2.cell? ⟨g, 14, none⟩ = some (Value.string lg) := hB.out.cell 14
    go_wp2_with fail
    go_returns
    exact Ret.mk (vb (by rw [HP.out]; rfl)) hv
  cases b3
  · skip
    go_wp2_with fail
    refine (H1.out _).mono ?_
    rintro e W1 ⟨rfl, hb⟩
    replace hv := bl_trans hv hb
    replace hB := Lib.hid (hB.out.below hb)
    clear hb
    replace k0 : W1.cell? ⟨g, 0, none⟩ = some (Value.int IntKind.i64 f.length) := hB.out.cell 0
    replace k1 : W1.cell? ⟨g, 1, none⟩ = some (Value.int IntKind.i64 f.ball) := hB.out.cell 1
    replace k2 : W1.cell? ⟨g, 2, none⟩ = some (Value.int IntKind.i64 f.instep) := hB.out.cell 2
    replace k3 : W1.cell? ⟨g, 3, none⟩ = some (Value.int IntKind.i64 f.heel) := hB.out.cell 3
    replace k4 : W1.cell? ⟨g, 4, none⟩ = some (Value.slice A n c) := hB.out.cell 4
    replace k5 : W1.cell? ⟨g, 5, none⟩ = some (Value.string s.upper) := hB.out.cell 5
    replace k6 : W1.cell? ⟨g, 6, none⟩ = some (Value.string s.color) := hB.out.cell 6
    replace k7 : W1.cell? ⟨g, 7, none⟩ = some (Value.string s.lining) := hB.out.cell 7
    replace k8 : W1.cell? ⟨g, 8, none⟩ = some (Value.string s.sole) := hB.out.cell 8
    replace k9 : W1.cell? ⟨g, 9, none⟩ = some (Value.int IntKind.i64 s.thick) := hB.out.cell 9
    replace k10 : W1.cell? ⟨g, 10, none⟩ = some (Value.int IntKind.i64 s.heel) := hB.out.cell 10
    replace k11 : W1.cell? ⟨g, 11, none⟩ = some (Value.int IntKind.i64 s.eyelets) := hB.out.cell 11
    replace k12 : W1.cell? ⟨g, 12, none⟩ = some (Value.int IntKind.i64 s.density) := hB.out.cell 12
    replace k13 : W1.cell? ⟨g, 13, none⟩ = some (Value.bool s.double) := hB.out.cell 13
    replace k14 : W1.cell? ⟨g, 14, none⟩ = some (Value.string lg) := hB.out.cell 14
    go_wp2_with fail
    refine (H2.out _ (HA.out.below hv)).mono ?_
    rintro e W2 ⟨rfl, hb⟩
    replace hv := bl_trans hv hb
    replace hB := Lib.hid (hB.out.below hb)
    clear hb
    replace k0 : W2.cell? ⟨g, 0, none⟩ = some (Value.int IntKind.i64 f.length) := hB.out.cell 0
    replace k1 : W2.cell? ⟨g, 1, none⟩ = some (Value.int IntKind.i64 f.ball) := hB.out.cell 1
    replace k2 : W2.cell? ⟨g, 2, none⟩ = some (Value.int IntKind.i64 f.instep) := hB.out.cell 2
    replace k3 : W2.cell? ⟨g, 3, none⟩ = some (Value.int IntKind.i64 f.heel) := hB.out.cell 3
    replace k4 : W2.cell? ⟨g, 4, none⟩ = some (Value.slice A n c) := hB.out.cell 4
    replace k5 : W2.cell? ⟨g, 5, none⟩ = some (Value.string s.upper) := hB.out.cell 5
    replace k6 : W2.cell? ⟨g, 6, none⟩ = some (Value.string s.color) := hB.out.cell 6
    replace k7 : W2.cell? ⟨g, 7, none⟩ = some (Value.string s.lining) := hB.out.cell 7
    replace k8 : W2.cell? ⟨g, 8, none⟩ = some (Value.string s.sole) := hB.out.cell 8
    replace k9 : W2.cell? ⟨g, 9, none⟩ = some (Value.int IntKind.i64 s.thick) := hB.out.cell 9
    replace k10 : W2.cell? ⟨g, 10, none⟩ = some (Value.int IntKind.i64 s.heel) := hB.out.cell 10
    replace k11 : W2.cell? ⟨g, 11, none⟩ = some (Value.int IntKind.i64 s.eyelets) := hB.out.cell 11
    replace k12 : W2.cell? ⟨g, 12, none⟩ = some (Value.int IntKind.i64 s.density) := hB.out.cell 12
    replace k13 : W2.cell? ⟨g, 13, none⟩ = some (Value.bool s.double) := hB.out.cell 13
    replace k14 : W2.cell? ⟨g, 14, none⟩ = some (Value.string lg) := hB.out.cell 14
    go_wp2_with fail
    refine (H3.out _).mono ?_
    rintro e W3 ⟨rfl, hb⟩
    replace hv := bl_trans hv hb
    replace hB := Lib.hid (hB.out.below hb)
    clear hb
    replace k0 : W3.cell? ⟨g, 0, none⟩ = some (Value.int IntKind.i64 f.length) := hB.out.cell 0
    replace k1 : W3.cell? ⟨g, 1, none⟩ = some (Value.int IntKind.i64 f.ball) := hB.out.cell 1
    replace k2 : W3.cell? ⟨g, 2, none⟩ = some (Value.int IntKind.i64 f.instep) := hB.out.cell 2
    replace k3 : W3.cell? ⟨g, 3, none⟩ = some (Value.int IntKind.i64 f.heel) := hB.out.cell 3
    replace k4 : W3.cell? ⟨g, 4, none⟩ = some (Value.slice A n c) := hB.out.cell 4
    replace k5 : W3.cell? ⟨g, 5, none⟩ = some (Value.string s.upper) := hB.out.cell 5
    replace k6 : W3.cell? ⟨g, 6, none⟩ = some (Value.string s.color) := hB.out.cell 6
    replace k7 : W3.cell? ⟨g, 7, none⟩ = some (Value.string s.lining) := hB.out.cell 7
    replace k8 : W3.cell? ⟨g, 8, none⟩ = some (Value.string s.sole) := hB.out.cell 8
    replace k9 : W3.cell? ⟨g, 9, none⟩ = some (Value.int IntKind.i64 s.thick) := hB.out.cell 9
    replace k10 : W3.cell? ⟨g, 10, none⟩ = some (Value.int IntKind.i64 s.heel) := hB.out.cell 10
    replace k11 : W3.cell? ⟨g, 11, none⟩ = some (Value.int IntKind.i64 s.eyelets) := hB.out.cell 11
    replace k12 : W3.cell? ⟨g, 12, none⟩ = some (Value.int IntKind.i64 s.density) := hB.out.cell 12
    replace k13 : W3.cell? ⟨g, 13, none⟩ = some (Value.bool s.double) := hB.out.cell 13
    replace k14 : W3.cell? ⟨g, 14, none⟩ = some (Value.string lg) := hB.out.cell 14
    go_wp2_with fail
    go_returns
    exact Ret.mk (vb (by rw [HP.out]; rfl)) hv
  cases b4
  · skip
    go_wp2_with fail
    refine (H1.out _).mono ?_
    rintro e W1 ⟨rfl, hb⟩
    replace hv := bl_trans hv hb
    replace hB := Lib.hid (hB.out.below hb)
    clear hb
    replace k0 : W1.cell? ⟨g, 0, none⟩ = some (Value.int IntKind.i64 f.length) := hB.out.cell 0
    replace k1 : W1.cell? ⟨g, 1, none⟩ = some (Value.int IntKind.i64 f.ball) := hB.out.cell 1
    replace k2 : W1.cell? ⟨g, 2, none⟩ = some (Value.int IntKind.i64 f.instep) := hB.out.cell 2
    replace k3 : W1.cell? ⟨g, 3, none⟩ = some (Value.int IntKind.i64 f.heel) := hB.out.cell 3
    replace k4 : W1.cell? ⟨g, 4, none⟩ = some (Value.slice A n c) := hB.out.cell 4
    replace k5 : W1.cell? ⟨g, 5, none⟩ = some (Value.string s.upper) := hB.out.cell 5
    replace k6 : W1.cell? ⟨g, 6, none⟩ = some (Value.string s.color) := hB.out.cell 6
    replace k7 : W1.cell? ⟨g, 7, none⟩ = some (Value.string s.lining) := hB.out.cell 7
    replace k8 : W1.cell? ⟨g, 8, none⟩ = some (Value.string s.sole) := hB.out.cell 8
    replace k9 : W1.cell? ⟨g, 9, none⟩ = some (Value.int IntKind.i64 s.thick) := hB.out.cell 9
    replace k10 : W1.cell? ⟨g, 10, none⟩ = some (Value.int IntKind.i64 s.heel) := hB.out.cell 10
    replace k11 : W1.cell? ⟨g, 11, none⟩ = some (Value.int IntKind.i64 s.eyelets) := hB.out.cell 11
    replace k12 : W1.cell? ⟨g, 12, none⟩ = some (Value.int IntKind.i64 s.density) := hB.out.cell 12
    replace k13 : W1.cell? ⟨g, 13, none⟩ = some (Value.bool s.double) := hB.out.cell 13
    replace k14 : W1.cell? ⟨g, 14, none⟩ = some (Value.string lg) := hB.out.cell 14
    go_wp2_with fail
    refine (H2.out _ (HA.out.below hv)).mono ?_
    rintro e W2 ⟨rfl, hb⟩
    replace hv := bl_trans hv hb
    replace hB := Lib.hid (hB.out.below hb)
    clear hb
    replace k0 : W2.cell? ⟨g, 0, none⟩ = some (Value.int IntKind.i64 f.length) := hB.out.cell 0
    replace k1 : W2.cell? ⟨g, 1, none⟩ = some (Value.int IntKind.i64 f.ball) := hB.out.cell 1
    replace k2 : W2.cell? ⟨g, 2, none⟩ = some (Value.int IntKind.i64 f.instep) := hB.out.cell 2
    replace k3 : W2.cell? ⟨g, 3, none⟩ = some (Value.int IntKind.i64 f.heel) := hB.out.cell 3
    replace k4 : W2.cell? ⟨g, 4, none⟩ = some (Value.slice A n c) := hB.out.cell 4
    replace k5 : W2.cell? ⟨g, 5, none⟩ = some (Value.string s.upper) := hB.out.cell 5
    replace k6 : W2.cell? ⟨g, 6, none⟩ = some (Value.string s.color) := hB.out.cell 6
    replace k7 : W2.cell? ⟨g, 7, none⟩ = some (Value.string s.lining) := hB.out.cell 7
    replace k8 : W2.cell? ⟨g, 8, none⟩ = some (Value.string s.sole) := hB.out.cell 8
    replace k9 : W2.cell? ⟨g, 9, none⟩ = some (Value.int IntKind.i64 s.thick) := hB.out.cell 9
    replace k10 : W2.cell? ⟨g, 10, none⟩ = some (Value.int IntKind.i64 s.heel) := hB.out.cell 10
    replace k11 : W2.cell? ⟨g, 11, none⟩ = some (Value.int IntKind.i64 s.eyelets) := hB.out.cell 11
    replace k12 : W2.cell? ⟨g, 12, none⟩ = some (Value.int IntKind.i64 s.density) := hB.out.cell 12
    replace k13 : W2.cell? ⟨g, 13, none⟩ = some (Value.bool s.double) := hB.out.cell 13
    replace k14 : W2.cell? ⟨g, 14, none⟩ = some (Value.string lg) := hB.out.cell 14
    go_wp2_with fail
    refine (H3.out _).mono ?_
    rintro e W3 ⟨rfl, hb⟩
    replace hv := bl_trans hv hb
    replace hB := Lib.hid (hB.out.below hb)
    clear hb
    replace k0 : W3.cell? ⟨g, 0, none⟩ = some (Value.int IntKind.i64 f.length) := hB.out.cell 0
    replace k1 : W3.cell? ⟨g, 1, none⟩ = some (Value.int IntKind.i64 f.ball) := hB.out.cell 1
    replace k2 : W3.cell? ⟨g, 2, none⟩ = some (Value.int IntKind.i64 f.instep) := hB.out.cell 2
    replace k3 : W3.cell? ⟨g, 3, none⟩ = some (Value.int IntKind.i64 f.heel) := hB.out.cell 3
    replace k4 : W3.cell? ⟨g, 4, none⟩ = some (Value.slice A n c) := hB.out.cell 4
    replace k5 : W3.cell? ⟨g, 5, none⟩ = some (Value.string s.upper) := hB.out.cell 5
    replace k6 : W3.cell? ⟨g, 6, none⟩ = some (Value.string s.color) := hB.out.cell 6
    replace k7 : W3.cell? ⟨g, 7, none⟩ = some (Value.string s.lining) := hB.out.cell 7
    replace k8 : W3.cell? ⟨g, 8, none⟩ = some (Value.string s.sole) := hB.out.cell 8
    replace k9 : W3.cell? ⟨g, 9, none⟩ = some (Value.int IntKind.i64 s.thick) := hB.out.cell 9
    replace k10 : W3.cell? ⟨g, 10, none⟩ = some (Value.int IntKind.i64 s.heel) := hB.out.cell 10
    replace k11 : W3.cell? ⟨g, 11, none⟩ = some (Value.int IntKind.i64 s.eyelets) := hB.out.cell 11
    replace k12 : W3.cell? ⟨g, 12, none⟩ = some (Value.int IntKind.i64 s.density) := hB.out.cell 12
    replace k13 : W3.cell? ⟨g, 13, none⟩ = some (Value.bool s.double) := hB.out.cell 13
    replace k14 : W3.cell? ⟨g, 14, none⟩ = some (Value.string lg) := hB.out.cell 14
    go_wp2_with fail
    refine (H4.out _ (HT.out.below hv)).mono ?_
    rintro e W4 ⟨rfl, hb⟩
    replace hv := bl_trans hv hb
    replace hB := Lib.hid (hB.out.below hb)
    clear hb
    replace k0 : W4.cell? ⟨g, 0, none⟩ = some (Value.int IntKind.i64 f.length) := hB.out.cell 0
    replace k1 : W4.cell? ⟨g, 1, none⟩ = some (Value.int IntKind.i64 f.ball) := hB.out.cell 1
    replace k2 : W4.cell? ⟨g, 2, none⟩ = some (Value.int IntKind.i64 f.instep) := hB.out.cell 2
    replace k3 : W4.cell? ⟨g, 3, none⟩ = some (Value.int IntKind.i64 f.heel) := hB.out.cell 3
    replace k4 : W4.cell? ⟨g, 4, none⟩ = some (Value.slice A n c) := hB.out.cell 4
    replace k5 : W4.cell? ⟨g, 5, none⟩ = some (Value.string s.upper) := hB.out.cell 5
    replace k6 : W4.cell? ⟨g, 6, none⟩ = some (Value.string s.color) := hB.out.cell 6
    replace k7 : W4.cell? ⟨g, 7, none⟩ = some (Value.string s.lining) := hB.out.cell 7
    replace k8 : W4.cell? ⟨g, 8, none⟩ = some (Value.string s.sole) := hB.out.cell 8
    replace k9 : W4.cell? ⟨g, 9, none⟩ = some (Value.int IntKind.i64 s.thick) := hB.out.cell 9
    replace k10 : W4.cell? ⟨g, 10, none⟩ = some (Value.int IntKind.i64 s.heel) := hB.out.cell 10
    replace k11 : W4.cell? ⟨g, 11, none⟩ = some (Value.int IntKind.i64 s.eyelets) := hB.out.cell 11
    replace k12 : W4.cell? ⟨g, 12, none⟩ = some (Value.int IntKind.i64 s.density) := hB.out.cell 12
    replace k13 : W4.cell? ⟨g, 13, none⟩ = some (Value.bool s.double) := hB.out.cell 13
    replace k14 : W4.cell? ⟨g, 14, none⟩ = some (Value.string lg) := hB.out.cell 14
    go_wp2_with fail
    go_returns
    exact Ret.mk (vb (by rw [HP.out]; rfl)) hv
  · skip
    go_wp2_with fail
    refine (H1.out _).mono ?_
    rintro e W1 ⟨rfl, hb⟩
    replace hv := bl_trans hv hb
    replace hB := Lib.hid (hB.out.below hb)
    clear hb
    replace k0 : W1.cell? ⟨g, 0, none⟩ = some (Value.int IntKind.i64 f.length) := hB.out.cell 0
    replace k1 : W1.cell? ⟨g, 1, none⟩ = some (Value.int IntKind.i64 f.ball) := hB.out.cell 1
    replace k2 : W1.cell? ⟨g, 2, none⟩ = some (Value.int IntKind.i64 f.instep) := hB.out.cell 2
    replace k3 : W1.cell? ⟨g, 3, none⟩ = some (Value.int IntKind.i64 f.heel) := hB.out.cell 3
    replace k4 : W1.cell? ⟨g, 4, none⟩ = some (Value.slice A n c) := hB.out.cell 4
    replace k5 : W1.cell? ⟨g, 5, none⟩ = some (Value.string s.upper) := hB.out.cell 5
    replace k6 : W1.cell? ⟨g, 6, none⟩ = some (Value.string s.color) := hB.out.cell 6
    replace k7 : W1.cell? ⟨g, 7, none⟩ = some (Value.string s.lining) := hB.out.cell 7
    replace k8 : W1.cell? ⟨g, 8, none⟩ = some (Value.string s.sole) := hB.out.cell 8
    replace k9 : W1.cell? ⟨g, 9, none⟩ = some (Value.int IntKind.i64 s.thick) := hB.out.cell 9
    replace k10 : W1.cell? ⟨g, 10, none⟩ = some (Value.int IntKind.i64 s.heel) := hB.out.cell 10
    replace k11 : W1.cell? ⟨g, 11, none⟩ = some (Value.int IntKind.i64 s.eyelets) := hB.out.cell 11
    replace k12 : W1.cell? ⟨g, 12, none⟩ = some (Value.int IntKind.i64 s.density) := hB.out.cell 12
    replace k13 : W1.cell? ⟨g, 13, none⟩ = some (Value.bool s.double) := hB.out.cell 13
    replace k14 : W1.cell? ⟨g, 14, none⟩ = some (Value.string lg) := hB.out.cell 14
    go_wp2_with fail
    refine (H2.out _ (HA.out.below hv)).mono ?_
    rintro e W2 ⟨rfl, hb⟩
    replace hv := bl_trans hv hb
    replace hB := Lib.hid (hB.out.below hb)
    clear hb
    replace k0 : W2.cell? ⟨g, 0, none⟩ = some (Value.int IntKind.i64 f.length) := hB.out.cell 0
    replace k1 : W2.cell? ⟨g, 1, none⟩ = some (Value.int IntKind.i64 f.ball) := hB.out.cell 1
    replace k2 : W2.cell? ⟨g, 2, none⟩ = some (Value.int IntKind.i64 f.instep) := hB.out.cell 2
    replace k3 : W2.cell? ⟨g, 3, none⟩ = some (Value.int IntKind.i64 f.heel) := hB.out.cell 3
    replace k4 : W2.cell? ⟨g, 4, none⟩ = some (Value.slice A n c) := hB.out.cell 4
    replace k5 : W2.cell? ⟨g, 5, none⟩ = some (Value.string s.upper) := hB.out.cell 5
    replace k6 : W2.cell? ⟨g, 6, none⟩ = some (Value.string s.color) := hB.out.cell 6
    replace k7 : W2.cell? ⟨g, 7, none⟩ = some (Value.string s.lining) := hB.out.cell 7
    replace k8 : W2.cell? ⟨g, 8, none⟩ = some (Value.string s.sole) := hB.out.cell 8
    replace k9 : W2.cell? ⟨g, 9, none⟩ = some (Value.int IntKind.i64 s.thick) := hB.out.cell 9
    replace k10 : W2.cell? ⟨g, 10, none⟩ = some (Value.int IntKind.i64 s.heel) := hB.out.cell 10
    replace k11 : W2.cell? ⟨g, 11, none⟩ = some (Value.int IntKind.i64 s.eyelets) := hB.out.cell 11
    replace k12 : W2.cell? ⟨g, 12, none⟩ = some (Value.int IntKind.i64 s.density) := hB.out.cell 12
    replace k13 : W2.cell? ⟨g, 13, none⟩ = some (Value.bool s.double) := hB.out.cell 13
    replace k14 : W2.cell? ⟨g, 14, none⟩ = some (Value.string lg) := hB.out.cell 14
    go_wp2_with fail
    refine (H3.out _).mono ?_
    rintro e W3 ⟨rfl, hb⟩
    replace hv := bl_trans hv hb
    replace hB := Lib.hid (hB.out.below hb)
    clear hb
    replace k0 : W3.cell? ⟨g, 0, none⟩ = some (Value.int IntKind.i64 f.length) := hB.out.cell 0
    replace k1 : W3.cell? ⟨g, 1, none⟩ = some (Value.int IntKind.i64 f.ball) := hB.out.cell 1
    replace k2 : W3.cell? ⟨g, 2, none⟩ = some (Value.int IntKind.i64 f.instep) := hB.out.cell 2
    replace k3 : W3.cell? ⟨g, 3, none⟩ = some (Value.int IntKind.i64 f.heel) := hB.out.cell 3
    replace k4 : W3.cell? ⟨g, 4, none⟩ = some (Value.slice A n c) := hB.out.cell 4
    replace k5 : W3.cell? ⟨g, 5, none⟩ = some (Value.string s.upper) := hB.out.cell 5
    replace k6 : W3.cell? ⟨g, 6, none⟩ = some (Value.string s.color) := hB.out.cell 6
    replace k7 : W3.cell? ⟨g, 7, none⟩ = some (Value.string s.lining) := hB.out.cell 7
    replace k8 : W3.cell? ⟨g, 8, none⟩ = some (Value.string s.sole) := hB.out.cell 8
    replace k9 : W3.cell? ⟨g, 9, none⟩ = some (Value.int IntKind.i64 s.thick) := hB.out.cell 9
    replace k10 : W3.cell? ⟨g, 10, none⟩ = some (Value.int IntKind.i64 s.heel) := hB.out.cell 10
    replace k11 : W3.cell? ⟨g, 11, none⟩ = some (Value.int IntKind.i64 s.eyelets) := hB.out.cell 11
    replace k12 : W3.cell? ⟨g, 12, none⟩ = some (Value.int IntKind.i64 s.density) := hB.out.cell 12
    replace k13 : W3.cell? ⟨g, 13, none⟩ = some (Value.bool s.double) := hB.out.cell 13
    replace k14 : W3.cell? ⟨g, 14, none⟩ = some (Value.string lg) := hB.out.cell 14
    go_wp2_with fail
    refine (H4.out _ (HT.out.below hv)).mono ?_
    rintro e W4 ⟨rfl, hb⟩
    replace hv := bl_trans hv hb
    replace hB := Lib.hid (hB.out.below hb)
    clear hb
    replace k0 : W4.cell? ⟨g, 0, none⟩ = some (Value.int IntKind.i64 f.length) := hB.out.cell 0
    replace k1 : W4.cell? ⟨g, 1, none⟩ = some (Value.int IntKind.i64 f.ball) := hB.out.cell 1
    replace k2 : W4.cell? ⟨g, 2, none⟩ = some (Value.int IntKind.i64 f.instep) := hB.out.cell 2
    replace k3 : W4.cell? ⟨g, 3, none⟩ = some (Value.int IntKind.i64 f.heel) := hB.out.cell 3
    replace k4 : W4.cell? ⟨g, 4, none⟩ = some (Value.slice A n c) := hB.out.cell 4
    replace k5 : W4.cell? ⟨g, 5, none⟩ = some (Value.string s.upper) := hB.out.cell 5
    replace k6 : W4.cell? ⟨g, 6, none⟩ = some (Value.string s.color) := hB.out.cell 6
    replace k7 : W4.cell? ⟨g, 7, none⟩ = some (Value.string s.lining) := hB.out.cell 7
    replace k8 : W4.cell? ⟨g, 8, none⟩ = some (Value.string s.sole) := hB.out.cell 8
    replace k9 : W4.cell? ⟨g, 9, none⟩ = some (Value.int IntKind.i64 s.thick) := hB.out.cell 9
    replace k10 : W4.cell? ⟨g, 10, none⟩ = some (Value.int IntKind.i64 s.heel) := hB.out.cell 10
    replace k11 : W4.cell? ⟨g, 11, none⟩ = some (Value.int IntKind.i64 s.eyelets) := hB.out.cell 11
    replace k12 : W4.cell? ⟨g, 12, none⟩ = some (Value.int IntKind.i64 s.density) := hB.out.cell 12
    replace k13 : W4.cell? ⟨g, 13, none⟩ = some (Value.bool s.double) := hB.out.cell 13
    replace k14 : W4.cell? ⟨g, 14, none⟩ = some (Value.string lg) := hB.out.cell 14
    go_wp2_with fail
    go_returns
    exact Ret.mk (vb (by rw [HP.out]; rfl)) hv
theorem sty_in {f : Foot} {s : Style} {lg : ByteArray} {A : Option Addr} {n c g : Nat} {w : World} (h : Blk w g 35 #[Value.int IntKind.i64 f.length, Value.int IntKind.i64 f.ball, Value.int IntKind.i64 f.instep, Value.int IntKind.i64 f.heel, Value.slice A n c, Value.string s.upper, Value.string s.color, Value.string s.lining, Value.string s.sole, Value.int IntKind.i64 s.thick, Value.int IntKind.i64 s.heel, Value.int IntKind.i64 s.eyelets, Value.int IntKind.i64 s.density, Value.bool s.double, Value.string lg]) : StyC w g 5 #[Value.string s.upper, Value.string s.color, Value.string s.lining, Value.string s.sole, Value.int IntKind.i64 s.thick, Value.int IntKind.i64 s.heel, Value.int IntKind.i64 s.eyelets, Value.int IntKind.i64 s.density, Value.bool s.double] := ⟨h.lt, fun i v e => by
  rw [h.cell (5 + i)]
  rcases i with _ | _ | _ | _ | _ | _ | _ | _ | _ | i
  all_goals first | exact e | (simp at e)⟩
set_option maxRecDepth 100000 in
set_option maxHeartbeats 8000000 in
theorem l28Ok_c (f : Foot) (s : Style) (lg : ByteArray) (A : Option Addr) (xs : List Last) (n c : Nat) (hn : Hid (xs.length = n)) (hm : (n : Int) ≤ 1048576) (hs : Hid (∀ x ∈ xs, x.name.size ≤ 9223372036854775807)) (hx : Hid s.fits) (hl : lg.size ≤ 1048576) (g : Nat) (w : World) (hB0 : Blk w g 35 #[Value.int IntKind.i64 f.length, Value.int IntKind.i64 f.ball, Value.int IntKind.i64 f.instep, Value.int IntKind.i64 f.heel, Value.slice A n c, Value.string s.upper, Value.string s.color, Value.string s.lining, Value.string s.sole, Value.int IntKind.i64 s.thick, Value.int IntKind.i64 s.heel, Value.int IntKind.i64 s.eyelets, Value.int IntKind.i64 s.density, Value.bool s.double, Value.string lg]) (hA : Arr w A (flat Last.cells xs)) : Calls Tryz.prog 25 #[.pointer (some ⟨g, 0, none⟩)] w (Ret (.bool (deskB f xs s lg)) w) := by
  have HA := Lib.hid hA
  have hB := Lib.hid hB0
  clear hA hB0
  have H1 := fun w => l02Foot_c f w
  have H2 := fun w h => l04Ok_c A xs n c hn hm hs w h
  have H3 := fun w h => l24Ok_o s hx g 5 w h
  have H4 := fun w => l27Code_c lg hl w
  unfold OutCd at H4
  have hP : deskB f xs s lg = (footB f && lasB xs && styB s && decide (cdL lg = 0)) := rfl
  obtain ⟨b1, e1⟩ : ∃ z, z = footB f := ⟨_, rfl⟩
  rw [← e1] at H1 hP
  obtain ⟨b2, e2⟩ : ∃ z, z = lasB xs := ⟨_, rfl⟩
  rw [← e2] at H2 hP
  obtain ⟨b3, e3⟩ : ∃ z, z = styB s := ⟨_, rfl⟩
  rw [← e3] at H3 hP
  obtain ⟨K, e4⟩ : ∃ z, z = cdL lg := ⟨_, rfl⟩
  rw [← e4] at H4 hP
  clear e4
  have HP := Lib.hid hP
  clear hP e1 e2 e3 hx hl
  replace H1 := Lib.hid H1
  replace H2 := Lib.hid H2
  replace H3 := Lib.hid H3
  replace H4 := Lib.hid H4
  have hv := Below.refl w.heap.size w
  have k0 : w.cell? ⟨g, 0, none⟩ = some (Value.int IntKind.i64 f.length) := hB.out.cell 0
  have k1 : w.cell? ⟨g, 1, none⟩ = some (Value.int IntKind.i64 f.ball) := hB.out.cell 1
  have k2 : w.cell? ⟨g, 2, none⟩ = some (Value.int IntKind.i64 f.instep) := hB.out.cell 2
  have k3 : w.cell? ⟨g, 3, none⟩ = some (Value.int IntKind.i64 f.heel) := hB.out.cell 3
  have k4 : w.cell? ⟨g, 4, none⟩ = some (Value.slice A n c) := hB.out.cell 4
  have k5 : w.cell? ⟨g, 5, none⟩ = some (Value.string s.upper) := hB.out.cell 5
  have k6 : w.cell? ⟨g, 6, none⟩ = some (Value.string s.color) := hB.out.cell 6
  have k7 : w.cell? ⟨g, 7, none⟩ = some (Value.string s.lining) := hB.out.cell 7
  have k8 : w.cell? ⟨g, 8, none⟩ = some (Value.string s.sole) := hB.out.cell 8
  have k9 : w.cell? ⟨g, 9, none⟩ = some (Value.int IntKind.i64 s.thick) := hB.out.cell 9
  have k10 : w.cell? ⟨g, 10, none⟩ = some (Value.int IntKind.i64 s.heel) := hB.out.cell 10
  have k11 : w.cell? ⟨g, 11, none⟩ = some (Value.int IntKind.i64 s.eyelets) := hB.out.cell 11
  have k12 : w.cell? ⟨g, 12, none⟩ = some (Value.int IntKind.i64 s.density) := hB.out.cell 12
  have k13 : w.cell? ⟨g, 13, none⟩ = some (Value.bool s.double) := hB.out.cell 13
  have k14 : w.cell? ⟨g, 14, none⟩ = some (Value.string lg) := hB.out.cell 14
  go_enter Tryz.func25, Tryz.ntmps25
  go_wp2_with fail
  refine (H4.out _).mono ?_
  rintro e W0 ⟨g4, rfl, _, _, hb⟩
  replace hv := bl_trans hv hb
  replace hB := Lib.hid (hB.out.below hb)
  clear hb H4
  replace k0 : W0.cell? ⟨g, 0, none⟩ = some (Value.int IntKind.i64 f.length) := hB.out.cell 0
  replace k1 : W0.cell? ⟨g, 1, none⟩ = some (Value.int IntKind.i64 f.ball) := hB.out.cell 1
  replace k2 : W0.cell? ⟨g, 2, none⟩ = some (Value.int IntKind.i64 f.instep) := hB.out.cell 2
  replace k3 : W0.cell? ⟨g, 3, none⟩ = some (Value.int IntKind.i64 f.heel) := hB.out.cell 3
  replace k4 : W0.cell? ⟨g, 4, none⟩ = some (Value.slice A n c) := hB.out.cell 4
  replace k5 : W0.cell? ⟨g, 5, none⟩ = some (Value.string s.upper) := hB.out.cell 5
  replace k6 : W0.cell? ⟨g, 6, none⟩ = some (Value.string s.color) := hB.out.cell 6
  replace k7 : W0.cell? ⟨g, 7, none⟩ = some (Value.string s.lining) := hB.out.cell 7
  replace k8 : W0.cell? ⟨g, 8, none⟩ = some (Value.string s.sole) := hB.out.cell 8
  replace k9 : W0.cell? ⟨g, 9, none⟩ = some (Value.int IntKind.i64 s.thick) := hB.out.cell 9
  replace k10 : W0.cell? ⟨g, 10, none⟩ = some (Value.int IntKind.i64 s.heel) := hB.out.cell 10
  replace k11 : W0.cell? ⟨g, 11, none⟩ = some (Value.int IntKind.i64 s.eyelets) := hB.out.cell 11
  replace k12 : W0.cell? ⟨g, 12, none⟩ = some (Value.int IntKind.i64 s.density) := hB.out.cell 12
  replace k13 : W0.cell? ⟨g, 13, none⟩ = some (Value.bool s.double) := hB.out.cell 13
  replace k14 : W0.cell? ⟨g, 14, none⟩ = some (Value.string lg) := hB.out.cell 14
  cases b1
  · skip
    go_wp2_with fail
    refine (H1.out _).mono ?_
    rintro e W1 ⟨rfl, hb⟩
    replace hv := bl_trans hv hb
    replace hB := Lib.hid (hB.out.below hb)
    clear hb
    replace k0 : W1.cell? ⟨g, 0, none⟩ = some (Value.int IntKind.i64 f.length) := hB.out.cell 0
    replace k1 : W1.cell? ⟨g, 1, none⟩ = some (Value.int IntKind.i64 f.ball) := hB.out.cell 1
    replace k2 : W1.cell? ⟨g, 2, none⟩ = some (Value.int IntKind.i64 f.instep) := hB.out.cell 2
    replace k3 : W1.cell? ⟨g, 3, none⟩ = some (Value.int IntKind.i64 f.heel) := hB.out.cell 3
    replace k4 : W1.cell? ⟨g, 4, none⟩ = some (Value.slice A n c) := hB.out.cell 4
    replace k5 : W1.cell? ⟨g, 5, none⟩ = some (Value.string s.upper) := hB.out.cell 5
    replace k6 : W1.cell? ⟨g, 6, none⟩ = some (Value.string s.color) := hB.out.cell 6
    replace k7 : W1.cell? ⟨g, 7, none⟩ = some (Value.string s.lining) := hB.out.cell 7
    replace k8 : W1.cell? ⟨g, 8, none⟩ = some (Value.string s.sole) := hB.out.cell 8
    replace k9 : W1.cell? ⟨g, 9, none⟩ = some (Value.int IntKind.i64 s.thick) := hB.out.cell 9
    replace k10 : W1.cell? ⟨g, 10, none⟩ = some (Value.int IntKind.i64 s.heel) := hB.out.cell 10
    replace k11 : W1.cell? ⟨g, 11, none⟩ = some (Value.int IntKind.i64 s.eyelets) := hB.out.cell 11
    replace k12 : W1.cell? ⟨g, 12, none⟩ = some (Value.int IntKind.i64 s.density) := hB.out.cell 12
    replace k13 : W1.cell? ⟨g, 13, none⟩ = some (Value.bool s.double) := hB.out.cell 13
    replace k14 : W1.cell? ⟨g, 14, none⟩ = some (Value.string lg) := hB.out.cell 14
    go_wp2_with fail
    go_returns
    exact Ret.mk (vb (by rw [HP.out]; rfl)) hv
  cases b2
  · skip
    go_wp2_with fail
    refine (H1.out _).mono ?_
    rintro e W1 ⟨rfl, hb⟩
    replace hv := bl_trans hv hb
    replace hB := Lib.hid (hB.out.below hb)
    clear hb
    replace k0 : W1.cell? ⟨g, 0, none⟩ = some (Value.int IntKind.i64 f.length) := hB.out.cell 0
    replace k1 : W1.cell? ⟨g, 1, none⟩ = some (Value.int IntKind.i64 f.ball) := hB.out.cell 1
    replace k2 : W1.cell? ⟨g, 2, none⟩ = some (Value.int IntKind.i64 f.instep) := hB.out.cell 2
    replace k3 : W1.cell? ⟨g, 3, none⟩ = some (Value.int IntKind.i64 f.heel) := hB.out.cell 3
    replace k4 : W1.cell? ⟨g, 4, none⟩ = some (Value.slice A n c) := hB.out.cell 4
    replace k5 : W1.cell? ⟨g, 5, none⟩ = some (Value.string s.upper) := hB.out.cell 5
    replace k6 : W1.cell? ⟨g, 6, none⟩ = some (Value.string s.color) := hB.out.cell 6
    replace k7 : W1.cell? ⟨g, 7, none⟩ = some (Value.string s.lining) := hB.out.cell 7
    replace k8 : W1.cell? ⟨g, 8, none⟩ = some (Value.string s.sole) := hB.out.cell 8
    replace k9 : W1.cell? ⟨g, 9, none⟩ = some (Value.int IntKind.i64 s.thick) := hB.out.cell 9
    replace k10 : W1.cell? ⟨g, 10, none⟩ = some (Value.int IntKind.i64 s.heel) := hB.out.cell 10
    replace k11 : W1.cell? ⟨g, 11, none⟩ = some (Value.int IntKind.i64 s.eyelets) := hB.out.cell 11
    replace k12 : W1.cell? ⟨g, 12, none⟩ = some (Value.int IntKind.i64 s.density) := hB.out.cell 12
    replace k13 : W1.cell? ⟨g, 13, none⟩ = some (Value.bool s.double) := hB.out.cell 13
    replace k14 : W1.cell? ⟨g, 14, none⟩ = some (Value.string lg) := hB.out.cell 14
    go_wp2_with fail
    refine (H2.out _ (HA.out.below hv)).mono ?_
    rintro e W2 ⟨rfl, hb⟩
    replace hv := bl_trans hv hb
    replace hB := Lib.hid (hB.out.below hb)
    clear hb
    replace k0 : W2.cell? ⟨g, 0, none⟩ = some (Value.int IntKind.i64 f.length) := hB.out.cell 0
    replace k1 : W2.cell? ⟨g, 1, none⟩ = some (Value.int IntKind.i64 f.ball) := hB.out.cell 1
    replace k2 : W2.cell? ⟨g, 2, none⟩ = some (Value.int IntKind.i64 f.instep) := hB.out.cell 2
    replace k3 : W2.cell? ⟨g, 3, none⟩ = some (Value.int IntKind.i64 f.heel) := hB.out.cell 3
    replace k4 : W2.cell? ⟨g, 4, none⟩ = some (Value.slice A n c) := hB.out.cell 4
    replace k5 : W2.cell? ⟨g, 5, none⟩ = some (Value.string s.upper) := hB.out.cell 5
    replace k6 : W2.cell? ⟨g, 6, none⟩ = some (Value.string s.color) := hB.out.cell 6
    replace k7 : W2.cell? ⟨g, 7, none⟩ = some (Value.string s.lining) := hB.out.cell 7
    replace k8 : W2.cell? ⟨g, 8, none⟩ = some (Value.string s.sole) := hB.out.cell 8
    replace k9 : W2.cell? ⟨g, 9, none⟩ = some (Value.int IntKind.i64 s.thick) := hB.out.cell 9
    replace k10 : W2.cell? ⟨g, 10, none⟩ = some (Value.int IntKind.i64 s.heel) := hB.out.cell 10
    replace k11 : W2.cell? ⟨g, 11, none⟩ = some (Value.int IntKind.i64 s.eyelets) := hB.out.cell 11
    replace k12 : W2.cell? ⟨g, 12, none⟩ = some (Value.int IntKind.i64 s.density) := hB.out.cell 12
    replace k13 : W2.cell? ⟨g, 13, none⟩ = some (Value.bool s.double) := hB.out.cell 13
    replace k14 : W2.cell? ⟨g, 14, none⟩ = some (Value.string lg) := hB.out.cell 14
    go_wp2_with fail
    go_returns
    exact Ret.mk (vb (by rw [HP.out]; rfl)) hv
  cases b3
  · skip
    go_wp2_with fail
    refine (H1.out _).mono ?_
    rintro e W1 ⟨rfl, hb⟩
    replace hv := bl_trans hv hb
    replace hB := Lib.hid (hB.out.below hb)
    clear hb
    replace k0 : W1.cell? ⟨g, 0, none⟩ = some (Value.int IntKind.i64 f.length) := hB.out.cell 0
    replace k1 : W1.cell? ⟨g, 1, none⟩ = some (Value.int IntKind.i64 f.ball) := hB.out.cell 1
    replace k2 : W1.cell? ⟨g, 2, none⟩ = some (Value.int IntKind.i64 f.instep) := hB.out.cell 2
    replace k3 : W1.cell? ⟨g, 3, none⟩ = some (Value.int IntKind.i64 f.heel) := hB.out.cell 3
    replace k4 : W1.cell? ⟨g, 4, none⟩ = some (Value.slice A n c) := hB.out.cell 4
    replace k5 : W1.cell? ⟨g, 5, none⟩ = some (Value.string s.upper) := hB.out.cell 5
    replace k6 : W1.cell? ⟨g, 6, none⟩ = some (Value.string s.color) := hB.out.cell 6
    replace k7 : W1.cell? ⟨g, 7, none⟩ = some (Value.string s.lining) := hB.out.cell 7
    replace k8 : W1.cell? ⟨g, 8, none⟩ = some (Value.string s.sole) := hB.out.cell 8
    replace k9 : W1.cell? ⟨g, 9, none⟩ = some (Value.int IntKind.i64 s.thick) := hB.out.cell 9
    replace k10 : W1.cell? ⟨g, 10, none⟩ = some (Value.int IntKind.i64 s.heel) := hB.out.cell 10
    replace k11 : W1.cell? ⟨g, 11, none⟩ = some (Value.int IntKind.i64 s.eyelets) := hB.out.cell 11
    replace k12 : W1.cell? ⟨g, 12, none⟩ = some (Value.int IntKind.i64 s.density) := hB.out.cell 12
    replace k13 : W1.cell? ⟨g, 13, none⟩ = some (Value.bool s.double) := hB.out.cell 13
    replace k14 : W1.cell? ⟨g, 14, none⟩ = some (Value.string lg) := hB.out.cell 14
    go_wp2_with fail
    refine (H2.out _ (HA.out.below hv)).mono ?_
    rintro e W2 ⟨rfl, hb⟩
    replace hv := bl_trans hv hb
    replace hB := Lib.hid (hB.out.below hb)
    clear hb
    replace k0 : W2.cell? ⟨g, 0, none⟩ = some (Value.int IntKind.i64 f.length) := hB.out.cell 0
    replace k1 : W2.cell? ⟨g, 1, none⟩ = some (Value.int IntKind.i64 f.ball) := hB.out.cell 1
    replace k2 : W2.cell? ⟨g, 2, none⟩ = some (Value.int IntKind.i64 f.instep) := hB.out.cell 2
    replace k3 : W2.cell? ⟨g, 3, none⟩ = some (Value.int IntKind.i64 f.heel) := hB.out.cell 3
    replace k4 : W2.cell? ⟨g, 4, none⟩ = some (Value.slice A n c) := hB.out.cell 4
    replace k5 : W2.cell? ⟨g, 5, none⟩ = some (Value.string s.upper) := hB.out.cell 5
    replace k6 : W2.cell? ⟨g, 6, none⟩ = some (Value.string s.color) := hB.out.cell 6
    replace k7 : W2.cell? ⟨g, 7, none⟩ = some (Value.string s.lining) := hB.out.cell 7
    replace k8 : W2.cell? ⟨g, 8, none⟩ = some (Value.string s.sole) := hB.out.cell 8
    replace k9 : W2.cell? ⟨g, 9, none⟩ = some (Value.int IntKind.i64 s.thick) := hB.out.cell 9
    replace k10 : W2.cell? ⟨g, 10, none⟩ = some (Value.int IntKind.i64 s.heel) := hB.out.cell 10
    replace k11 : W2.cell? ⟨g, 11, none⟩ = some (Value.int IntKind.i64 s.eyelets) := hB.out.cell 11
    replace k12 : W2.cell? ⟨g, 12, none⟩ = some (Value.int IntKind.i64 s.density) := hB.out.cell 12
    replace k13 : W2.cell? ⟨g, 13, none⟩ = some (Value.bool s.double) := hB.out.cell 13
    replace k14 : W2.cell? ⟨g, 14, none⟩ = some (Value.string lg) := hB.out.cell 14
    go_wp2_with fail
    refine (H3.out _ (sty_in hB.out)).mono ?_
    rintro e W3 ⟨rfl, hb⟩
    replace hv := bl_trans hv hb
    replace hB := Lib.hid (hB.out.below hb)
    clear hb
    replace k0 : W3.cell? ⟨g, 0, none⟩ = some (Value.int IntKind.i64 f.length) := hB.out.cell 0
    replace k1 : W3.cell? ⟨g, 1, none⟩ = some (Value.int IntKind.i64 f.ball) := hB.out.cell 1
    replace k2 : W3.cell? ⟨g, 2, none⟩ = some (Value.int IntKind.i64 f.instep) := hB.out.cell 2
    replace k3 : W3.cell? ⟨g, 3, none⟩ = some (Value.int IntKind.i64 f.heel) := hB.out.cell 3
    replace k4 : W3.cell? ⟨g, 4, none⟩ = some (Value.slice A n c) := hB.out.cell 4
    replace k5 : W3.cell? ⟨g, 5, none⟩ = some (Value.string s.upper) := hB.out.cell 5
    replace k6 : W3.cell? ⟨g, 6, none⟩ = some (Value.string s.color) := hB.out.cell 6
    replace k7 : W3.cell? ⟨g, 7, none⟩ = some (Value.string s.lining) := hB.out.cell 7
    replace k8 : W3.cell? ⟨g, 8, none⟩ = some (Value.string s.sole) := hB.out.cell 8
    replace k9 : W3.cell? ⟨g, 9, none⟩ = some (Value.int IntKind.i64 s.thick) := hB.out.cell 9
    replace k10 : W3.cell? ⟨g, 10, none⟩ = some (Value.int IntKind.i64 s.heel) := hB.out.cell 10
    replace k11 : W3.cell? ⟨g, 11, none⟩ = some (Value.int IntKind.i64 s.eyelets) := hB.out.cell 11
    replace k12 : W3.cell? ⟨g, 12, none⟩ = some (Value.int IntKind.i64 s.density) := hB.out.cell 12
    replace k13 : W3.cell? ⟨g, 13, none⟩ = some (Value.bool s.double) := hB.out.cell 13
    replace k14 : W3.cell? ⟨g, 14, none⟩ = some (Value.string lg) := hB.out.cell 14
    go_wp2_with fail
    go_returns
    exact Ret.mk (vb (by rw [HP.out]; rfl)) hv
  by_cases hk : K = 0
  · subst hk
    go_wp2_with fail
    refine (H1.out _).mono ?_
    rintro e W1 ⟨rfl, hb⟩
    replace hv := bl_trans hv hb
    replace hB := Lib.hid (hB.out.below hb)
    clear hb
    replace k0 : W1.cell? ⟨g, 0, none⟩ = some (Value.int IntKind.i64 f.length) := hB.out.cell 0
    replace k1 : W1.cell? ⟨g, 1, none⟩ = some (Value.int IntKind.i64 f.ball) := hB.out.cell 1
    replace k2 : W1.cell? ⟨g, 2, none⟩ = some (Value.int IntKind.i64 f.instep) := hB.out.cell 2
    replace k3 : W1.cell? ⟨g, 3, none⟩ = some (Value.int IntKind.i64 f.heel) := hB.out.cell 3
    replace k4 : W1.cell? ⟨g, 4, none⟩ = some (Value.slice A n c) := hB.out.cell 4
    replace k5 : W1.cell? ⟨g, 5, none⟩ = some (Value.string s.upper) := hB.out.cell 5
    replace k6 : W1.cell? ⟨g, 6, none⟩ = some (Value.string s.color) := hB.out.cell 6
    replace k7 : W1.cell? ⟨g, 7, none⟩ = some (Value.string s.lining) := hB.out.cell 7
    replace k8 : W1.cell? ⟨g, 8, none⟩ = some (Value.string s.sole) := hB.out.cell 8
    replace k9 : W1.cell? ⟨g, 9, none⟩ = some (Value.int IntKind.i64 s.thick) := hB.out.cell 9
    replace k10 : W1.cell? ⟨g, 10, none⟩ = some (Value.int IntKind.i64 s.heel) := hB.out.cell 10
    replace k11 : W1.cell? ⟨g, 11, none⟩ = some (Value.int IntKind.i64 s.eyelets) := hB.out.cell 11
    replace k12 : W1.cell? ⟨g, 12, none⟩ = some (Value.int IntKind.i64 s.density) := hB.out.cell 12
    replace k13 : W1.cell? ⟨g, 13, none⟩ = some (Value.bool s.double) := hB.out.cell 13
    replace k14 : W1.cell? ⟨g, 14, none⟩ = some (Value.string lg) := hB.out.cell 14
    go_wp2_with fail
    refine (H2.out _ (HA.out.below hv)).mono ?_
    rintro e W2 ⟨rfl, hb⟩
    replace hv := bl_trans hv hb
    replace hB := Lib.hid (hB.out.below hb)
    clear hb
    replace k0 : W2.cell? ⟨g, 0, none⟩ = some (Value.int IntKind.i64 f.length) := hB.out.cell 0
    replace k1 : W2.cell? ⟨g, 1, none⟩ = some (Value.int IntKind.i64 f.ball) := hB.out.cell 1
    replace k2 : W2.cell? ⟨g, 2, none⟩ = some (Value.int IntKind.i64 f.instep) := hB.out.cell 2
    replace k3 : W2.cell? ⟨g, 3, none⟩ = some (Value.int IntKind.i64 f.heel) := hB.out.cell 3
    replace k4 : W2.cell? ⟨g, 4, none⟩ = some (Value.slice A n c) := hB.out.cell 4
    replace k5 : W2.cell? ⟨g, 5, none⟩ = some (Value.string s.upper) := hB.out.cell 5
    replace k6 : W2.cell? ⟨g, 6, none⟩ = some (Value.string s.color) := hB.out.cell 6
    replace k7 : W2.cell? ⟨g, 7, none⟩ = some (Value.string s.lining) := hB.out.cell 7
    replace k8 : W2.cell? ⟨g, 8, none⟩ = some (Value.string s.sole) := hB.out.cell 8
    replace k9 : W2.cell? ⟨g, 9, none⟩ = some (Value.int IntKind.i64 s.thick) := hB.out.cell 9
    replace k10 : W2.cell? ⟨g, 10, none⟩ = some (Value.int IntKind.i64 s.heel) := hB.out.cell 10
    replace k11 : W2.cell? ⟨g, 11, none⟩ = some (Value.int IntKind.i64 s.eyelets) := hB.out.cell 11
    replace k12 : W2.cell? ⟨g, 12, none⟩ = some (Value.int IntKind.i64 s.density) := hB.out.cell 12
    replace k13 : W2.cell? ⟨g, 13, none⟩ = some (Value.bool s.double) := hB.out.cell 13
    replace k14 : W2.cell? ⟨g, 14, none⟩ = some (Value.string lg) := hB.out.cell 14
    go_wp2_with fail
    refine (H3.out _ (sty_in hB.out)).mono ?_
    rintro e W3 ⟨rfl, hb⟩
    replace hv := bl_trans hv hb
    replace hB := Lib.hid (hB.out.below hb)
    clear hb
    replace k0 : W3.cell? ⟨g, 0, none⟩ = some (Value.int IntKind.i64 f.length) := hB.out.cell 0
    replace k1 : W3.cell? ⟨g, 1, none⟩ = some (Value.int IntKind.i64 f.ball) := hB.out.cell 1
    replace k2 : W3.cell? ⟨g, 2, none⟩ = some (Value.int IntKind.i64 f.instep) := hB.out.cell 2
    replace k3 : W3.cell? ⟨g, 3, none⟩ = some (Value.int IntKind.i64 f.heel) := hB.out.cell 3
    replace k4 : W3.cell? ⟨g, 4, none⟩ = some (Value.slice A n c) := hB.out.cell 4
    replace k5 : W3.cell? ⟨g, 5, none⟩ = some (Value.string s.upper) := hB.out.cell 5
    replace k6 : W3.cell? ⟨g, 6, none⟩ = some (Value.string s.color) := hB.out.cell 6
    replace k7 : W3.cell? ⟨g, 7, none⟩ = some (Value.string s.lining) := hB.out.cell 7
    replace k8 : W3.cell? ⟨g, 8, none⟩ = some (Value.string s.sole) := hB.out.cell 8
    replace k9 : W3.cell? ⟨g, 9, none⟩ = some (Value.int IntKind.i64 s.thick) := hB.out.cell 9
    replace k10 : W3.cell? ⟨g, 10, none⟩ = some (Value.int IntKind.i64 s.heel) := hB.out.cell 10
    replace k11 : W3.cell? ⟨g, 11, none⟩ = some (Value.int IntKind.i64 s.eyelets) := hB.out.cell 11
    replace k12 : W3.cell? ⟨g, 12, none⟩ = some (Value.int IntKind.i64 s.density) := hB.out.cell 12
    replace k13 : W3.cell? ⟨g, 13, none⟩ = some (Value.bool s.double) := hB.out.cell 13
    replace k14 : W3.cell? ⟨g, 14, none⟩ = some (Value.string lg) := hB.out.cell 14
    go_wp2_with fail
    go_returns
    exact Ret.mk (vb (by rw [HP.out]; rfl)) hv
  · have hk2 : (K == 0) = false := by rw [beq_eq_false_iff_ne]; exact hk
    have hk3 : decide (K = 0) = false := decide_eq_false hk
    go_wp2_with fail
    refine (H1.out _).mono ?_
    rintro e W1 ⟨rfl, hb⟩
    replace hv := bl_trans hv hb
    replace hB := Lib.hid (hB.out.below hb)
    clear hb
    replace k0 : W1.cell? ⟨g, 0, none⟩ = some (Value.int IntKind.i64 f.length) := hB.out.cell 0
    replace k1 : W1.cell? ⟨g, 1, none⟩ = some (Value.int IntKind.i64 f.ball) := hB.out.cell 1
    replace k2 : W1.cell? ⟨g, 2, none⟩ = some (Value.int IntKind.i64 f.instep) := hB.out.cell 2
    replace k3 : W1.cell? ⟨g, 3, none⟩ = some (Value.int IntKind.i64 f.heel) := hB.out.cell 3
    replace k4 : W1.cell? ⟨g, 4, none⟩ = some (Value.slice A n c) := hB.out.cell 4
    replace k5 : W1.cell? ⟨g, 5, none⟩ = some (Value.string s.upper) := hB.out.cell 5
    replace k6 : W1.cell? ⟨g, 6, none⟩ = some (Value.string s.color) := hB.out.cell 6
    replace k7 : W1.cell? ⟨g, 7, none⟩ = some (Value.string s.lining) := hB.out.cell 7
    replace k8 : W1.cell? ⟨g, 8, none⟩ = some (Value.string s.sole) := hB.out.cell 8
    replace k9 : W1.cell? ⟨g, 9, none⟩ = some (Value.int IntKind.i64 s.thick) := hB.out.cell 9
    replace k10 : W1.cell? ⟨g, 10, none⟩ = some (Value.int IntKind.i64 s.heel) := hB.out.cell 10
    replace k11 : W1.cell? ⟨g, 11, none⟩ = some (Value.int IntKind.i64 s.eyelets) := hB.out.cell 11
    replace k12 : W1.cell? ⟨g, 12, none⟩ = some (Value.int IntKind.i64 s.density) := hB.out.cell 12
    replace k13 : W1.cell? ⟨g, 13, none⟩ = some (Value.bool s.double) := hB.out.cell 13
    replace k14 : W1.cell? ⟨g, 14, none⟩ = some (Value.string lg) := hB.out.cell 14
    go_wp2_with fail
    refine (H2.out _ (HA.out.below hv)).mono ?_
    rintro e W2 ⟨rfl, hb⟩
    replace hv := bl_trans hv hb
    replace hB := Lib.hid (hB.out.below hb)
    clear hb
    replace k0 : W2.cell? ⟨g, 0, none⟩ = some (Value.int IntKind.i64 f.length) := hB.out.cell 0
    replace k1 : W2.cell? ⟨g, 1, none⟩ = some (Value.int IntKind.i64 f.ball) := hB.out.cell 1
    replace k2 : W2.cell? ⟨g, 2, none⟩ = some (Value.int IntKind.i64 f.instep) := hB.out.cell 2
    replace k3 : W2.cell? ⟨g, 3, none⟩ = some (Value.int IntKind.i64 f.heel) := hB.out.cell 3
    replace k4 : W2.cell? ⟨g, 4, none⟩ = some (Value.slice A n c) := hB.out.cell 4
    replace k5 : W2.cell? ⟨g, 5, none⟩ = some (Value.string s.upper) := hB.out.cell 5
    replace k6 : W2.cell? ⟨g, 6, none⟩ = some (Value.string s.color) := hB.out.cell 6
    replace k7 : W2.cell? ⟨g, 7, none⟩ = some (Value.string s.lining) := hB.out.cell 7
    replace k8 : W2.cell? ⟨g, 8, none⟩ = some (Value.string s.sole) := hB.out.cell 8
    replace k9 : W2.cell? ⟨g, 9, none⟩ = some (Value.int IntKind.i64 s.thick) := hB.out.cell 9
    replace k10 : W2.cell? ⟨g, 10, none⟩ = some (Value.int IntKind.i64 s.heel) := hB.out.cell 10
    replace k11 : W2.cell? ⟨g, 11, none⟩ = some (Value.int IntKind.i64 s.eyelets) := hB.out.cell 11
    replace k12 : W2.cell? ⟨g, 12, none⟩ = some (Value.int IntKind.i64 s.density) := hB.out.cell 12
    replace k13 : W2.cell? ⟨g, 13, none⟩ = some (Value.bool s.double) := hB.out.cell 13
    replace k14 : W2.cell? ⟨g, 14, none⟩ = some (Value.string lg) := hB.out.cell 14
    go_wp2_with fail
    refine (H3.out _ (sty_in hB.out)).mono ?_
    rintro e W3 ⟨rfl, hb⟩
    replace hv := bl_trans hv hb
    replace hB := Lib.hid (hB.out.below hb)
    clear hb
    replace k0 : W3.cell? ⟨g, 0, none⟩ = some (Value.int IntKind.i64 f.length) := hB.out.cell 0
    replace k1 : W3.cell? ⟨g, 1, none⟩ = some (Value.int IntKind.i64 f.ball) := hB.out.cell 1
    replace k2 : W3.cell? ⟨g, 2, none⟩ = some (Value.int IntKind.i64 f.instep) := hB.out.cell 2
    replace k3 : W3.cell? ⟨g, 3, none⟩ = some (Value.int IntKind.i64 f.heel) := hB.out.cell 3
    replace k4 : W3.cell? ⟨g, 4, none⟩ = some (Value.slice A n c) := hB.out.cell 4
    replace k5 : W3.cell? ⟨g, 5, none⟩ = some (Value.string s.upper) := hB.out.cell 5
    replace k6 : W3.cell? ⟨g, 6, none⟩ = some (Value.string s.color) := hB.out.cell 6
    replace k7 : W3.cell? ⟨g, 7, none⟩ = some (Value.string s.lining) := hB.out.cell 7
    replace k8 : W3.cell? ⟨g, 8, none⟩ = some (Value.string s.sole) := hB.out.cell 8
    replace k9 : W3.cell? ⟨g, 9, none⟩ = some (Value.int IntKind.i64 s.thick) := hB.out.cell 9
    replace k10 : W3.cell? ⟨g, 10, none⟩ = some (Value.int IntKind.i64 s.heel) := hB.out.cell 10
    replace k11 : W3.cell? ⟨g, 11, none⟩ = some (Value.int IntKind.i64 s.eyelets) := hB.out.cell 11
    replace k12 : W3.cell? ⟨g, 12, none⟩ = some (Value.int IntKind.i64 s.density) := hB.out.cell 12
    replace k13 : W3.cell? ⟨g, 13, none⟩ = some (Value.bool s.double) := hB.out.cell 13
    replace k14 : W3.cell? ⟨g, 14, none⟩ = some (Value.string lg) := hB.out.cell 14
    go_wp2_with fail
    go_returns
    exact Ret.mk (vb (by rw [HP.out, hk3]; rfl)) hv
set_option maxHeartbeats 2000000 in
theorem SValidDesk_c (f : Foot) (s : Style) (lg : ByteArray) (A : Option Addr) (xs : List Last) (n c : Nat) (hn : Hid (xs.length = n)) (hm : (n : Int) ≤ 1048576) (hs : Hid (∀ x ∈ xs, x.name.size ≤ 9223372036854775807)) (hx : Hid s.fits) (hl : lg.size ≤ 1048576) (w : World) (hA : Arr w A (flat Last.cells xs)) : Calls Tryz.prog 7 #[Value.agg #[Value.int IntKind.i64 f.length, Value.int IntKind.i64 f.ball, Value.int IntKind.i64 f.instep, Value.int IntKind.i64 f.heel, Value.slice A n c, Value.string s.upper, Value.string s.color, Value.string s.lining, Value.string s.sole, Value.int IntKind.i64 s.thick, Value.int IntKind.i64 s.heel, Value.int IntKind.i64 s.eyelets, Value.int IntKind.i64 s.density, Value.bool s.double, Value.string lg]] w (Ret (.bool (deskB f xs s lg)) w) := by
  obtain ⟨W, hW⟩ : ∃ W, W = w.alloc (Obj.cells #[Value.int IntKind.i64 f.length, Value.int IntKind.i64 f.ball, Value.int IntKind.i64 f.instep, Value.int IntKind.i64 f.heel, Value.slice A n c, Value.string s.upper, Value.string s.color, Value.string s.lining, Value.string s.sole, Value.int IntKind.i64 s.thick, Value.int IntKind.i64 s.heel, Value.int IntKind.i64 s.eyelets, Value.int IntKind.i64 s.density, Value.bool s.double, Value.string lg] 35) := ⟨_, rfl⟩
  obtain ⟨g, hg⟩ : ∃ g, g = w.heap.size := ⟨_, rfl⟩
  have hv : Below w.heap.size w W := by rw [hW]; exact bl_alloc (Below.refl _ _) _
  have HC := Lib.hid (l28Ok_c f s lg A xs n c hn hm hs hx hl g W (by rw [hW, hg]; exact Blk.new _ _ _) (hA.below hv))
  have HW := Lib.hid hW
  have HG := Lib.hid hg
  clear hW hg hA
  go_enter Tryz.func7, Tryz.ntmps7
  go_wp2_with fail
  rw [← HW.out, ← HG.out]
  refine HC.out.mono ?_
  rintro e W1 ⟨rfl, hb⟩
  go_wp2_with fail
  go_returns
  exact Ret.mk rfl (bl_trans hv hb)
end Go.Proofs.YtihgjmhhpiobbaaGreatDoor
