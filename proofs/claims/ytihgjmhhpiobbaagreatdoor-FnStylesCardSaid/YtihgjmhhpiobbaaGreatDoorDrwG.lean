/- Drawn texts of styles: the words. -/
import Derived.Test.YtihgjmhhpiobbaaGreatDoorDrwZ
namespace Go.Proofs.YtihgjmhhpiobbaaGreatDoor
open Go.RowKit

set_option maxRecDepth 100000 in
set_option maxHeartbeats 8000000 in
theorem l24Words_c (g q : Nat) (hq : q ≤ 500000000000) (w : World) (hS : Src w g q) : Calls Tryz.prog 48 #[.pointer (some ⟨g, 0, none⟩)] w (OutSp g (q + 500) 9000 w) := by
  have HS := Lib.hid hS
  have hgw := hS.lt
  have HG := Lib.hid (World.grownBy.refl w (some g))
  have HW := Lib.hid (Nat.le_refl w.heap.size)
  clear hS
  go_enter Tryz.func48, Tryz.ntmps48
  go_wp2_with fail

  refine (one_c g _ 3 (by omega) (by omega) _ HS.out).mono ?_
  rintro e W1 ⟨b, rfl, hS, hg⟩
  replace HS := Lib.hid hS
  replace HG := Lib.hid (grown_trans HG.out hg)
  replace HW := Lib.hid (Nat.le_trans HW.out hg.size)
  clear hS hg
  cases b
  case true =>
    go_wp2_with fail
    refine (l24Draw_c g _ (by omega) _ HS.out).mono ?_
    rintro e W2 ⟨x, rfl, hx, _, hS, hg⟩
    replace HS := Lib.hid hS
    replace HG := Lib.hid (grown_trans HG.out hg)
    replace HW := Lib.hid (Nat.le_trans HW.out hg.size)
    clear hS hg
    have HX := Lib.hid hx
    clear hx
    go_wp2_with fail
    obtain ⟨W3, hWW3⟩ : ∃ z, z = World.alloc W2 (Obj.cells #[Value.string x.upper, Value.string x.color, Value.string x.lining, Value.string x.sole, Value.int IntKind.i64 x.thick, Value.int IntKind.i64 x.heel, Value.int IntKind.i64 x.eyelets, Value.int IntKind.i64 x.density, Value.bool x.double] 33) := ⟨_, rfl⟩
    obtain ⟨gx, hggx⟩ : ∃ z, z = (W2).heap.size := ⟨_, rfl⟩
    have HBX : Hid (Blk W3 gx 33 #[Value.string x.upper, Value.string x.color, Value.string x.lining, Value.string x.sole, Value.int IntKind.i64 x.thick, Value.int IntKind.i64 x.heel, Value.int IntKind.i64 x.eyelets, Value.int IntKind.i64 x.density, Value.bool x.double]) := Lib.hid (by rw [hWW3, hggx]; exact Blk.new _ _ _)
    have hb : Below (W2).heap.size W2 W3 := by rw [hWW3]; exact bl_alloc (Below.refl (W2).heap.size (W2)) _
    have hgx0 : w.heap.size ≤ gx := by rw [hggx]; exact HW.out
    have hgx1 : g < gx := by have h : g < (W2).heap.size := HS.out.lt; omega
    replace HS := Lib.hid (HS.out.below hb)
    replace HG := Lib.hid (grown_below HG.out hb)
    replace HW := Lib.hid (Nat.le_trans HW.out (hb).size)
    have hn_W3 : gx + 1 = W3.heap.size := by rw [hWW3, hggx]; exact (World.size_alloc _ _).symm
    rw [← hWW3, ← hggx]
    clear hWW3 hggx hb
    clear hn_W3
    refine (l24Text_c x HX gx _ HBX.out).mono ?_
    rintro e W4 ⟨s, rfl, hs, hb⟩
    replace HS := Lib.hid (HS.out.below hb)
    replace HG := Lib.hid (grown_below HG.out hb)
    replace HBX := Lib.hid (HBX.out.below hb)
    replace HW := Lib.hid (Nat.le_trans HW.out (hb).size)
    clear hb
    go_wp2_with fail
    refine (l01Spoil_c g _ s (by omega) (by omega) _ HS.out).mono ?_
    rintro e W5 ⟨s2, rfl, hs2, hS, hg⟩
    replace HS := Lib.hid hS
    replace HG := Lib.hid (grown_trans HG.out hg)
    replace HBX := Lib.hid (HBX.out.grown hg (by intro e; injection e; omega))
    replace HW := Lib.hid (Nat.le_trans HW.out hg.size)
    clear hS hg
    go_wp2_with fail
    go_returns
    exact ⟨s2, rfl, by omega, HS.out.more (by omega), HG.out⟩
  case false =>
  go_wp2_with fail
  refine (one_c g _ 4 (by omega) (by omega) _ HS.out).mono ?_
  rintro e W2 ⟨b2, rfl, hS, hg⟩
  replace HS := Lib.hid hS
  replace HG := Lib.hid (grown_trans HG.out hg)
  replace HW := Lib.hid (Nat.le_trans HW.out hg.size)
  clear hS hg
  go_upto_if 14 with fail
  go_cut [4] (fun s wx => ∃ o : ByteArray, s = .string o ∧ o.size ≤ 1000 ∧ Hid (Src wx g (q + 30)) ∧ Hid (w.grownBy wx (some g)) ∧ Hid (w.heap.size ≤ wx.heap.size))
  case first =>
    cases b2
    case false =>
      go_wp2_with fail
      go_meet
      exact ⟨_, rfl, by decide, Lib.hid (HS.out.more (by omega)), HG, HW⟩
    case true =>
      go_wp2_with fail
      refine (l24Clause_c g _ (by omega) _ HS.out).mono ?_
      rintro e W3 ⟨cl, rfl, hcl, hS, hg⟩
      replace HS := Lib.hid hS
      replace HG := Lib.hid (grown_trans HG.out hg)
      replace HW := Lib.hid (Nat.le_trans HW.out hg.size)
      clear hS hg
      go_wp2_with fail
      go_meet
      exact ⟨cl, rfl, hcl, Lib.hid (HS.out.more (by omega)), HG, HW⟩
  case rest =>
  clear HS HG HW
  obtain ⟨o, rfl, ho, HS, HG, HW⟩ := hcut
  rename World => X1
  go_wp2_with fail
  refine (pick_c g _ 5 (by omega) (by omega) _ HS.out).mono ?_
  rintro e W5 ⟨kk, rfl, kk0, kk1, hS, hg⟩
  replace HS := Lib.hid hS
  replace HG := Lib.hid (grown_trans HG.out hg)
  replace HW := Lib.hid (Nat.le_trans HW.out hg.size)
  clear hS hg
  obtain ⟨kn, rfl⟩ := Int.eq_ofNat_of_zero_le kk0
  have hkn : kn ≤ 4 := by omega
  clear kk0 kk1
  replace HS := Lib.hid (HS.out.more (show q + 30 + 2 ≤ q + 200 - 20 * kn by omega))
  go_wp2_with fail
  go_loopw [4, 5] (fun s i wx => ∃ (o : ByteArray) (kn : Nat), s = .string o ∧ i = .int .i64 kn ∧ kn ≤ 4 ∧ o.size + 1001 * kn ≤ 6000 ∧ Hid (Src wx g (q + 200 - 20 * kn)) ∧ Hid (w.grownBy wx (some g)) ∧ Hid (w.heap.size ≤ wx.heap.size)) (fun _ i _ => (intOf i).toNat)
  case atStart => exact ⟨o, kn, rfl, rfl, hkn, by omega, HS, HG, HW⟩
  case round =>
  clear HS HG HW hkn ho
  obtain ⟨o, kn, rfl, rfl, hkn, ho, HS, HG, HW⟩ := hrel
  rename World => X2
  by_cases hk0 : 0 < kn
  case pos =>
    have hk1 : (0 : Int) < (kn : Int) := by omega
    go_wp2_with fail
    refine (l24Clause_c g _ (by omega) _ HS.out).mono ?_
    rintro e W3 ⟨cl, rfl, hcl, hS, hg⟩
    replace HS := Lib.hid hS
    replace HG := Lib.hid (grown_trans HG.out hg)
    replace HW := Lib.hid (Nat.le_trans HW.out hg.size)
    clear hS hg
    have l1 : (⟨#[59]⟩ : ByteArray).size = 1 := rfl
    have a0 := fun (w : World) => run_string_add_sum (P := Tryz.prog) w ⟨#[59]⟩ cl (by omega)
    have a1 := fun (w : World) => run_string_add_sum (P := Tryz.prog) w o (⟨#[59]⟩ ++ cl) (by rw [app_size]; omega)
    go_wp2_with fail
    exact ⟨⟨o ++ (⟨#[59]⟩ ++ cl), kn - 1, rfl, by go_num, by omega, by simp only [app_size]; omega, Lib.hid (HS.out.more (by omega)), HG, HW⟩, by simp [intOf]; omega⟩
  case neg =>
  obtain rfl : kn = 0 := by omega
  have hk1 : ¬ (0 : Int) < ((0 : Nat) : Int) := by omega
  go_wp2_with fail
  refine (pick_c g _ 20 (by omega) (by omega) _ HS.out).mono ?_
  rintro e W6 ⟨r, rfl, r0, r1, hS, hg⟩
  replace HS := Lib.hid hS
  replace HG := Lib.hid (grown_trans HG.out hg)
  replace HW := Lib.hid (Nat.le_trans HW.out hg.size)
  clear hS hg
  go_upto_region 12 with fail
  by_cases h0 : r = 0
  case pos =>
    subst h0
    go_wp2_with fail
    go_loopw [4] (fun s wx => ∃ o : ByteArray, s = .string o ∧ o.size ≤ 7000 ∧ Hid (Src wx g (q + 300)) ∧ Hid (w.grownBy wx (some g)) ∧ Hid (w.heap.size ≤ wx.heap.size)) (fun s _ => match s with | .string o => 7000 - o.size | _ => 0)
    case atStart => exact ⟨o, rfl, by omega, Lib.hid (HS.out.more (by omega)), HG, HW⟩
    case round =>
    clear HS HG HW ho
    obtain ⟨o, rfl, ho, HS, HG, HW⟩ := hrel
    rename World => X3
    by_cases h3 : o.size < 300
    case pos =>
      have h4 : (o.size : Int) < 300 := by omega
      have l1 : (⟨#[32]⟩ : ByteArray).size = 1 := rfl
      have a0 := fun (w : World) => run_string_add_sum (P := Tryz.prog) w o ⟨#[32]⟩ (by omega)
      go_wp2_with fail
      exact ⟨⟨_, rfl, by rw [app_size]; omega, HS, HG, HW⟩, by simp only [app_size]; omega⟩
    case neg =>
    have h4 : ¬ (o.size : Int) < 300 := by omega
    go_wp2_with fail
    refine (one_c g _ 2 (by omega) (by omega) _ HS.out).mono ?_
    rintro e W7 ⟨b3, rfl, hS, hg⟩
    replace HS := Lib.hid hS
    replace HG := Lib.hid (grown_trans HG.out hg)
    replace HW := Lib.hid (Nat.le_trans HW.out hg.size)
    clear hS hg
    cases b3
    · go_wp2_with fail
      go_returns
      exact ⟨_, rfl, by omega, HS.out.more (by omega), HG.out⟩
    · have l1 : (⟨#[32]⟩ : ByteArray).size = 1 := rfl
      have a0 := fun (w : World) => run_string_add_sum (P := Tryz.prog) w o ⟨#[32]⟩ (by omega)
      go_wp2_with fail
      go_returns
      exact ⟨_, rfl, by rw [app_size]; omega, HS.out.more (by omega), HG.out⟩
  case neg =>
  by_cases h1 : r = 1
  case pos =>
    subst h1
    go_wp2_with fail
    refine (one_c g _ 2 (by omega) (by omega) _ HS.out).mono ?_
    rintro e W7 ⟨b3, rfl, hS, hg⟩
    replace HS := Lib.hid hS
    replace HG := Lib.hid (grown_trans HG.out hg)
    replace HW := Lib.hid (Nat.le_trans HW.out hg.size)
    clear hS hg
    cases b3
    · go_wp2_with fail
      go_returns
      exact ⟨_, rfl, by decide, HS.out.more (by omega), HG.out⟩
    · have a0 := fun (w : World) => run_string_add_sum (P := Tryz.prog) w (⟨#[117, 112, 112, 101, 114, 32, 97, 32, 98, 59, 115, 111, 108, 101, 32, 99, 32, 52, 48, 59, 59, 59, 59, 59, 59, 59, 59, 59, 59]⟩ : ByteArray) ⟨#[59]⟩ (by decide)
      go_wp2_with fail
      go_returns
      exact ⟨_, rfl, by decide, HS.out.more (by omega), HG.out⟩
  case neg =>
  go_wp2_with fail
  go_returns
  exact ⟨_, rfl, by omega, HS.out.more (by omega), HG.out⟩
set_option maxHeartbeats 2000000 in
theorem A2Words_c (C : Option Addr) (nn cc : Nat) (cs : List UInt8) (hnn : Hid (cs.length = nn)) (hnb : nn ≤ 1048576) (w : World) (hA : Arr w C (cs.map bvS)) (hlt : ∀ ad, C = some ad → ad.block < w.heap.size) : Calls Tryz.prog 19 #[.slice C nn cc] w (OutSz 9000 w) := by
  have HL0 := Lib.hid hlt
  have HA0 := Lib.hid hA
  clear hlt hA
  go_enter Tryz.func19, Tryz.ntmps19
  go_wp2_with fail
  refine (l00From_c C nn cc cs hnn hnb w HA0.out HL0.out).mono ?_
  rintro e W1 ⟨rfl, hS1, hb1⟩
  have HB1 := Lib.hid hb1
  go_wp2_with fail
  refine (l24Words_c w.heap.size 0 (by omega) _ hS1).mono ?_
  rintro e W2 ⟨s, rfl, h1, hS2, hg⟩
  have hB2 := bl_grown HB1.out hg (fun k e => by injection e with e; omega)
  clear hS1 hb1 hS2 hg
  go_wp2_with fail
  go_returns
  exact ⟨s, rfl, h1, hB2⟩
end Go.Proofs.YtihgjmhhpiobbaaGreatDoor
