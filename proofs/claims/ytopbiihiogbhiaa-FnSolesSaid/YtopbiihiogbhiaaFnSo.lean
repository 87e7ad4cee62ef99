/- The law on soles, walked. -/
import Derived.Test.YtopbiihiogbhiaaSolY
import Derived.Test.YtopbiihiogbhiaaSolG
import Derived.Test.YtopbiihiogbhiaaDrwE
import Derived.Test.YtopbiihiogbhiaaFnB
namespace Go.Proofs.Ytopbiihiogbhiaa
open Go.RowKit

theorem rSole_ok {f : Stuff → Int} {xs : List Stuff} {ps : List Int} (h : soleB xs ps = true) : rSole f xs ps = #[.int .i64 (sumR f xs ps), .int .i64 0] := by unfold rSole; rw [if_pos h]
theorem rSole_code {f : Stuff → Int} {xs : List Stuff} {ps : List Int} {a b : Int} (h : soleB xs ps = true) (e : rSole f xs ps = #[.int .i64 a, .int .i64 b]) : b = 0 := by
  rw [rSole_ok h] at e
  simp only [Array.mk.injEq, List.cons.injEq, Value.int.injEq, true_and, and_true] at e
  exact e.2.symm
theorem rSole_val {f : Stuff → Int} {xs : List Stuff} {ps : List Int} {a b T : Int} (e : rSole f xs ps = #[.int .i64 a, .int .i64 b]) (e2 : rSole f xs ps = #[.int .i64 T, .int .i64 0]) : a = T := by
  rw [e] at e2
  simp only [Array.mk.injEq, List.cons.injEq, Value.int.injEq, true_and, and_true] at e2
  exact e2.1
theorem frac_neq (u v : Int) (w : World) : (binOp .neq 37 (.agg #[.int .i64 u, .int .i64 v]) (.agg #[.int .i64 u, .int .i64 v])).run Try.prog w = .ok (.bool false) w := by
  rw [run_neq_struct, run_equalIn_struct w 9999 37 _ _ (by kernel_rfl) (by kernel_rfl)]
  rw [show (Try.prog.fieldsOf 37) = _ from by simp [Program.fieldsOf, Try.underlying37]; rfl]
  simp [go_sem]
set_option maxRecDepth 100000 in
set_option maxHeartbeats 8000000 in
theorem FnSoles_law (C : Option Addr) (nn cc : Nat) (cs : List UInt8) (hnn : Hid (cs.length = nn)) (w : World) (hA : Arr w C (cs.map bvS)) (hlt : ∀ ad, C = some ad → ad.block < w.heap.size) :
    Calls Try.prog 3 #[.slice C nn cc] w (Ret (.bool true) w) := by
  have hA0 := Lib.hid hA
  have hL0 := Lib.hid hlt
  have hfq := frac_neq
  clear hA hlt
  go_enter Try.func3, Try.ntmps3
  go_wp2_with fail
  refine (f6big_c C nn cc w).mono ?_
  rintro e W ⟨rfl, hv⟩
  by_cases hb4 : 4096 < nn
  · go_wp2_with fail
    go_returns
    exact Ret.mk rfl hv
  go_wp2_with fail
  refine (DrawWearLayers_c C nn cc cs hnn (by omega) _ (hA0.out.below hv) (fun ad e => Nat.lt_of_lt_of_le (hL0.out ad e) hv.size)).mono ?_
  rintro e W ⟨A, xs, n, c, B, ps, m, d, wo, rfl, hn', hn13, hs', hp', hm7, hox, hop, hb⟩
  have hn := Lib.hid hn'
  have hp := Lib.hid hp'
  have hs : Hid (∀ x ∈ xs, x.name.size ≤ 9223372036854775807) := Lib.hid (fun x hx => Nat.le_trans (hs' x hx) (by omega))
  have hz : (n : Int) ≤ 1048576 := by omega
  have hy : (m : Int) ≤ 1048576 := by omega
  have hnc : (n : Int) ≤ c := by
    obtain ⟨_, _, e0, hnc', _⟩ := own_form hox
    injection e0 with e1 e2 e3
    omega
  have HBN := Lib.hid (fun h : 0 < m => own_addr hop h)
  have hmn : m ≤ 7 := hm7
  clear hn' hs' hp' hn13 hm7
  obtain ⟨lx, ux, h_own, z0, z1⟩ := Own.named hox hb
  replace hox := h_own
  clear h_own
  obtain ⟨lp, up, h_own, z2, z3⟩ := Own.named hop hb
  replace hop := h_own
  clear h_own
  have z4 := Lib.hid hb.size
  replace hv := bl_trans hv hb
  clear hb
  obtain ⟨ra, rb, rc, hW⟩ := rWear_form xs ps wo
  obtain ⟨ta, tb, hT⟩ := rSole_form Stuff.thick xs ps
  obtain ⟨sa, sb, hS⟩ := rSole_form Stuff.stiff xs ps
  obtain ⟨pa, pb, hP⟩ := rSole_form Stuff.price xs ps
  have HW1 := Lib.hid (fun w h1 h2 => hW ▸ WearLayers_c A xs n c hn hz hs hnc B ps m d hp hy wo w h1 h2)
  have HW2 := Lib.hid (fun w h1 h2 => hW ▸ SWearLayers_c A xs n c hn hz hs B ps m d hp hy wo w h1 h2)
  have HT1 := Lib.hid (fun w h1 h2 => hT ▸ ThickOf_c A xs n c hn hz hs hnc B ps m d hp hy w h1 h2)
  have HT2 := Lib.hid (fun w h1 h2 => hT ▸ SThickOf_c A xs n c hn hz hs B ps m d hp hy w h1 h2)
  have HS1 := Lib.hid (fun w h1 h2 => hS ▸ StiffOf_c A xs n c hn hz hs hnc B ps m d hp hy w h1 h2)
  have HS2 := Lib.hid (fun w h1 h2 => hS ▸ SStiffOf_c A xs n c hn hz hs B ps m d hp hy w h1 h2)
  have HP1 := Lib.hid (fun w h1 h2 => hP ▸ PriceOfSole_c A xs n c hn hz hs hnc B ps m d hp hy w h1 h2)
  have HP2 := Lib.hid (fun w h1 h2 => hP ▸ SPriceOfSole_c A xs n c hn hz hs B ps m d hp hy w h1 h2)
  obtain ⟨tl, htl⟩ : ∃ z, z = turnL xs ps := ⟨_, rfl⟩
  obtain ⟨tc, htc⟩ : ∃ z, z = turnC xs ps := ⟨_, rfl⟩
  obtain ⟨r, hr⟩ : ∃ z, z = tl.length := ⟨_, rfl⟩
  have hr6 : r ≤ 6 := by rw [hr, htl]; exact turnL_len xs ps
  have HU1 := fun w h1 h2 => TurnSole_c A xs n c hn hz hs hnc B ps m d hp hy HBN.out w h1 h2
  have HU2 := fun w h1 h2 => STurnSole_c A xs n c hn hz hs B ps m d hp hy w h1 h2
  unfold OutTn at HU1 HU2
  rw [← htl, ← htc, ← hr] at HU1 HU2
  replace HU1 := Lib.hid HU1
  replace HU2 := Lib.hid HU2
  have HR := Lib.hid hr.symm
  have HTL := Lib.hid htl
  have HTC := Lib.hid htc
  have HWF := Lib.hid hW
  have HTF := Lib.hid hT
  have HSF := Lib.hid hS
  have HPF := Lib.hid hP
  obtain ⟨tx, htx⟩ : ∃ z, z = soleT xs ps := ⟨_, rfl⟩
  obtain ⟨vb1, hvb1⟩ : ∃ z, z = soleB xs ps := ⟨_, rfl⟩
  obtain ⟨vb2, hvb2⟩ : ∃ z, z = stuffsB xs := ⟨_, rfl⟩
  have HX1 := Lib.hid (fun w h1 h2 => htx ▸ SoleText_c A xs n c hn hz hs hnc B ps m d hp hy w h1 h2)
  have HX2 := Lib.hid (fun w h1 h2 => htx ▸ SSoleText_c A xs n c hn hz hs B ps m d hp hy w h1 h2)
  have HV1 := Lib.hid (fun w h1 h2 => hvb1 ▸ ValidSole_c A xs n c hn hz hs hnc B ps m d hp hy w h1 h2)
  have HV2 := Lib.hid (fun w h1 h2 => hvb1 ▸ SValidSole_c A xs n c hn hz hs B ps m d hp hy w h1 h2)
  have HV3 := Lib.hid (fun w h1 => hvb2 ▸ ValidStuffs_c A xs n c hn hz hs hnc w h1)
  have HV4 := Lib.hid (fun w h1 => hvb2 ▸ SValidStuffs_c A xs n c hn hz hs w h1)
  have hn1 : (!tx.toList == tx.toList) = false := by simp
  have hn2 : (vb1 != vb1) = false := by simp
  have hn3 : (vb2 != vb2) = false := by simp
  clear hW hT hS hP htl htc hr htx hvb1 hvb2
  obtain ⟨W0, hW0⟩ : ∃ W0, W0 = W.alloc (Obj.cells #[Value.slice B m d] 27) := ⟨_, rfl⟩
  obtain ⟨g1, hgx⟩ : ∃ gx, gx = W.heap.size := ⟨_, rfl⟩
  have hb : Below W.heap.size W W0 := by rw [hW0]; exact bl_alloc (Below.refl _ _) _
  have hB1 : Blk W0 g1 27 #[Value.slice B m d] := by rw [hW0, hgx]; exact Blk.new _ _ _
  have z5 := Lib.hid (Nat.le_of_eq hgx.symm)
  have z6 := Lib.hid hB1.lt
  go_wp2_with fail
  rw [← hW0, ← hgx]
  clear hW0 hgx 
  have z7 := Lib.hid hb.size
  replace hv := bl_trans hv hb
  replace hox := hox.below hb
  replace hop := hop.below hb
  clear hb
  have k1 : W0.cell? ⟨g1, 0, none⟩ = some (Value.slice B m d) := hB1.cell 0
  refine (HW1.out _ hox.arr hop.arr).mono ?_
  rintro e W ⟨rfl, hb⟩
  have z8 := Lib.hid hb.size
  replace hv := bl_trans hv hb
  replace hB1 := hB1.below hb
  replace hox := hox.below hb
  replace hop := hop.below hb
  clear hb
  have k1 : W.cell? ⟨g1, 0, none⟩ = some (Value.slice B m d) := hB1.cell 0
  go_wp2_with fail
  refine (HW2.out _ hox.arr hop.arr).mono ?_
  rintro e W ⟨rfl, hb⟩
  have z9 := Lib.hid hb.size
  replace hv := bl_trans hv hb
  replace hB1 := hB1.below hb
  replace hox := hox.below hb
  replace hop := hop.below hb
  clear hb
  have k1 : W.cell? ⟨g1, 0, none⟩ = some (Value.slice B m d) := hB1.cell 0
  go_wp2_with fail
  refine (HU1.out _ hox.arr hop.arr).mono ?_
  rintro e W ⟨Bt1, dt1, rfl, ho1, hb⟩
  obtain ⟨lo1, uo1, h_own, z10, z11⟩ := Own.named ho1 hb
  replace ho1 := h_own
  clear h_own
  have z12 := Lib.hid hb.size
  replace hv := bl_trans hv hb
  replace hB1 := hB1.below hb
  replace hox := hox.below hb
  replace hop := hop.below hb
  clear hb
  have k1 : W.cell? ⟨g1, 0, none⟩ = some (Value.slice B m d) := hB1.cell 0
  obtain ⟨W0, hW0⟩ : ∃ W0, W0 = W.alloc (Obj.cells #[Value.slice Bt1 r dt1] 27) := ⟨_, rfl⟩
  obtain ⟨gt1, hgx⟩ : ∃ gx, gx = W.heap.size := ⟨_, rfl⟩
  have hb : Below W.heap.size W W0 := by rw [hW0]; exact bl_alloc (Below.refl _ _) _
  have hT1 : Blk W0 gt1 27 #[Value.slice Bt1 r dt1] := by rw [hW0, hgx]; exact Blk.new _ _ _
  have a_k1 : ∀ O, (World.alloc W O).cell? ⟨g1, 0, none⟩ = some (Value.slice B m d) := fun O => (hB1.alloc O).cell 0
  have z13 := Lib.hid (Nat.le_of_eq hgx.symm)
  have z14 := Lib.hid hT1.lt
  go_wp2_with fail
  rw [← hW0, ← hgx]
  clear hW0 hgx a_k1
  have z15 := Lib.hid hb.size
  replace hv := bl_trans hv hb
  replace hB1 := hB1.below hb
  replace hox := hox.below hb
  replace hop := hop.below hb
  replace ho1 := ho1.below hb
  clear hb
  have k1 : W0.cell? ⟨g1, 0, none⟩ = some (Value.slice B m d) := hB1.cell 0
  have kt1 : W0.cell? ⟨gt1, 0, none⟩ = some (Value.slice Bt1 r dt1) := hT1.cell 0
  refine (HU2.out _ hox.arr hop.arr).mono ?_
  rintro e W ⟨Bt2, dt2, rfl, ho2, hb⟩
  obtain ⟨lo2, uo2, h_own, z16, z17⟩ := Own.named ho2 hb
  replace ho2 := h_own
  clear h_own
  have z18 := Lib.hid hb.size
  replace hv := bl_trans hv hb
  replace hB1 := hB1.below hb
  replace hT1 := hT1.below hb
  replace hox := hox.below hb
  replace hop := hop.below hb
  replace ho1 := ho1.below hb
  clear hb
  have k1 : W.cell? ⟨g1, 0, none⟩ = some (Value.slice B m d) := hB1.cell 0
  have kt1 : W.cell? ⟨gt1, 0, none⟩ = some (Value.slice Bt1 r dt1) := hT1.cell 0
  obtain ⟨W0, hW0⟩ : ∃ W0, W0 = W.alloc (Obj.cells #[Value.slice Bt2 r dt2] 27) := ⟨_, rfl⟩
  obtain ⟨gt2, hgx⟩ : ∃ gx, gx = W.heap.size := ⟨_, rfl⟩
  have hb : Below W.heap.size W W0 := by rw [hW0]; exact bl_alloc (Below.refl _ _) _
  have hT2 : Blk W0 gt2 27 #[Value.slice Bt2 r dt2] := by rw [hW0, hgx]; exact Blk.new _ _ _
  have a_k1 : ∀ O, (World.alloc W O).cell? ⟨g1, 0, none⟩ = some (Value.slice B m d) := fun O => (hB1.alloc O).cell 0
  have a_kt1 : ∀ O, (World.alloc W O).cell? ⟨gt1, 0, none⟩ = some (Value.slice Bt1 r dt1) := fun O => (hT1.alloc O).cell 0
  have z19 := Lib.hid (Nat.le_of_eq hgx.symm)
  have z20 := Lib.hid hT2.lt
  go_wp2_with fail
  rw [← hW0, ← hgx]
  clear hW0 hgx a_k1 a_kt1
  have z21 := Lib.hid hb.size
  replace hv := bl_trans hv hb
  replace hB1 := hB1.below hb
  replace hT1 := hT1.below hb
  replace hox := hox.below hb
  replace hop := hop.below hb
  replace ho1 := ho1.below hb
  replace ho2 := ho2.below hb
  clear hb
  have k1 : W0.cell? ⟨g1, 0, none⟩ = some (Value.slice B m d) := hB1.cell 0
  have kt1 : W0.cell? ⟨gt1, 0, none⟩ = some (Value.slice Bt1 r dt1) := hT1.cell 0
  have kt2 : W0.cell? ⟨gt2, 0, none⟩ = some (Value.slice Bt2 r dt2) := hT2.cell 0
  refine (HT1.out _ hox.arr hop.arr).mono ?_
  rintro e W ⟨rfl, hb⟩
  have z22 := Lib.hid hb.size
  replace hv := bl_trans hv hb
  replace hB1 := hB1.below hb
  replace hT1 := hT1.below hb
  replace hT2 := hT2.below hb
  replace hox := hox.below hb
  replace hop := hop.below hb
  replace ho1 := ho1.below hb
  replace ho2 := ho2.below hb
  clear hb
  have k1 : W.cell? ⟨g1, 0, none⟩ = some (Value.slice B m d) := hB1.cell 0
  have kt1 : W.cell? ⟨gt1, 0, none⟩ = some (Value.slice Bt1 r dt1) := hT1.cell 0
  have kt2 : W.cell? ⟨gt2, 0, none⟩ = some (Value.slice Bt2 r dt2) := hT2.cell 0
  go_wp2_with fail
  refine (HT2.out _ hox.arr hop.arr).mono ?_
  rintro e W ⟨rfl, hb⟩
  have z23 := Lib.hid hb.size
  replace hv := bl_trans hv hb
  replace hB1 := hB1.below hb
  replace hT1 := hT1.below hb
  replace hT2 := hT2.below hb
  replace hox := hox.below hb
  replace hop := hop.below hb
  replace ho1 := ho1.below hb
  replace ho2 := ho2.below hb
  clear hb
  have k1 : W.cell? ⟨g1, 0, none⟩ = some (Value.slice B m d) := hB1.cell 0
  have kt1 : W.cell? ⟨gt1, 0, none⟩ = some (Value.slice Bt1 r dt1) := hT1.cell 0
  have kt2 : W.cell? ⟨gt2, 0, none⟩ = some (Value.slice Bt2 r dt2) := hT2.cell 0
  go_wp2_with fail
  refine (HS1.out _ hox.arr hop.arr).mono ?_
  rintro e W ⟨rfl, hb⟩
  have z24 := Lib.hid hb.size
  replace hv := bl_trans hv hb
  replace hB1 := hB1.below hb
  replace hT1 := hT1.below hb
  replace hT2 := hT2.below hb
  replace hox := hox.below hb
  replace hop := hop.below hb
  replace ho1 := ho1.below hb
  replace ho2 := ho2.below hb
  clear hb
  have k1 : W.cell? ⟨g1, 0, none⟩ = some (Value.slice B m d) := hB1.cell 0
  have kt1 : W.cell? ⟨gt1, 0, none⟩ = some (Value.slice Bt1 r dt1) := hT1.cell 0
  have kt2 : W.cell? ⟨gt2, 0, none⟩ = some (Value.slice Bt2 r dt2) := hT2.cell 0
  go_wp2_with fail
  refine (HS2.out _ hox.arr hop.arr).mono ?_
  rintro e W ⟨rfl, hb⟩
  have z25 := Lib.hid hb.size
  replace hv := bl_trans hv hb
  replace hB1 := hB1.below hb
  replace hT1 := hT1.below hb
  replace hT2 := hT2.below hb
  replace hox := hox.below hb
  replace hop := hop.below hb
  replace ho1 := ho1.below hb
  replace ho2 := ho2.below hb
  clear hb
  have k1 : W.cell? ⟨g1, 0, none⟩ = some (Value.slice B m d) := hB1.cell 0
  have kt1 : W.cell? ⟨gt1, 0, none⟩ = some (Value.slice Bt1 r dt1) := hT1.cell 0
  have kt2 : W.cell? ⟨gt2, 0, none⟩ = some (Value.slice Bt2 r dt2) := hT2.cell 0
  go_wp2_with fail
  refine (HP1.out _ hox.arr hop.arr).mono ?_
  rintro e W ⟨rfl, hb⟩
  have z26 := Lib.hid hb.size
  replace hv := bl_trans hv hb
  replace hB1 := hB1.below hb
  replace hT1 := hT1.below hb
  replace hT2 := hT2.below hb
  replace hox := hox.below hb
  replace hop := hop.below hb
  replace ho1 := ho1.below hb
  replace ho2 := ho2.below hb
  clear hb
  have k1 : W.cell? ⟨g1, 0, none⟩ = some (Value.slice B m d) := hB1.cell 0
  have kt1 : W.cell? ⟨gt1, 0, none⟩ = some (Value.slice Bt1 r dt1) := hT1.cell 0
  have kt2 : W.cell? ⟨gt2, 0, none⟩ = some (Value.slice Bt2 r dt2) := hT2.cell 0
  go_wp2_with fail
  refine (HP2.out _ hox.arr hop.arr).mono ?_
  rintro e W ⟨rfl, hb⟩
  have z27 := Lib.hid hb.size
  replace hv := bl_trans hv hb
  replace hB1 := hB1.below hb
  replace hT1 := hT1.below hb
  replace hT2 := hT2.below hb
  replace hox := hox.below hb
  replace hop := hop.below hb
  replace ho1 := ho1.below hb
  replace ho2 := ho2.below hb
  clear hb
  have k1 : W.cell? ⟨g1, 0, none⟩ = some (Value.slice B m d) := hB1.cell 0
  have kt1 : W.cell? ⟨gt1, 0, none⟩ = some (Value.slice Bt1 r dt1) := hT1.cell 0
  have kt2 : W.cell? ⟨gt2, 0, none⟩ = some (Value.slice Bt2 r dt2) := hT2.cell 0
  go_wp2_with fail
  refine (DrawGramsOf_c C nn cc cs hnn (by omega) _ (hA0.out.below hv) (fun ad e => Nat.lt_of_lt_of_le (hL0.out ad e) hv.size)).mono ?_
  rintro e W ⟨A2, xs2, n2, c2, B2, ps2, m2, d2, ar, rfl, hn', hn13, hs', hp', hm7, hox2, hop2, hb⟩
  have hn2 := Lib.hid hn'
  have hp2 := Lib.hid hp'
  have hs2 : Hid (∀ x ∈ xs2, x.name.size ≤ 9223372036854775807) := Lib.hid (fun x hx => Nat.le_trans (hs' x hx) (by omega))
  have hz2 : (n2 : Int) ≤ 1048576 := by omega
  have hy2 : (m2 : Int) ≤ 1048576 := by omega
  have hnc2 : (n2 : Int) ≤ c2 := by
    obtain ⟨_, _, e0, hnc', _⟩ := own_form hox2
    injection e0 with e1 e2 e3
    omega
  have HBN2 := Lib.hid (fun h : 0 < m2 => own_addr hop2 h)
  have hmn2 : m2 ≤ 7 := hm7
  clear hn' hs' hp' hn13 hm7
  obtain ⟨lx2, ux2, h_own, z28, z29⟩ := Own.named hox2 hb
  replace hox2 := h_own
  clear h_own
  obtain ⟨lp2, up2, h_own, z30, z31⟩ := Own.named hop2 hb
  replace hop2 := h_own
  clear h_own
  have z32 := Lib.hid hb.size
  replace hv := bl_trans hv hb
  replace hB1 := hB1.below hb
  replace hT1 := hT1.below hb
  replace hT2 := hT2.below hb
  replace hox := hox.below hb
  replace hop := hop.below hb
  replace ho1 := ho1.below hb
  replace ho2 := ho2.below hb
  clear hb
  have k1 : W.cell? ⟨g1, 0, none⟩ = some (Value.slice B m d) := hB1.cell 0
  have kt1 : W.cell? ⟨gt1, 0, none⟩ = some (Value.slice Bt1 r dt1) := hT1.cell 0
  have kt2 : W.cell? ⟨gt2, 0, none⟩ = some (Value.slice Bt2 r dt2) := hT2.cell 0
  obtain ⟨gu, gw, gc, hG⟩ : ∃ u v c : Int, gramR xs2 ps2 ar = #[.agg #[.int .i64 u, .int .i64 v], .int .i64 c] := ⟨_, _, _, rfl⟩
  have HG1 := Lib.hid (fun w h1 h2 => hG ▸ GramsOf_c A2 xs2 n2 c2 hn2 hz2 hs2 hnc2 B2 ps2 m2 d2 hp2 hy2 ar w h1 h2)
  have HG2 := Lib.hid (fun w h1 h2 => hG ▸ SGramsOf_c A2 xs2 n2 c2 hn2 hz2 hs2 B2 ps2 m2 d2 hp2 hy2 ar w h1 h2)
  clear hG
  obtain ⟨W0, hW0⟩ : ∃ W0, W0 = W.alloc (Obj.cells #[Value.slice B2 m2 d2] 27) := ⟨_, rfl⟩
  obtain ⟨g4, hgx⟩ : ∃ gx, gx = W.heap.size := ⟨_, rfl⟩
  have hb : Below W.heap.size W W0 := by rw [hW0]; exact bl_alloc (Below.refl _ _) _
  have hB4 : Blk W0 g4 27 #[Value.slice B2 m2 d2] := by rw [hW0, hgx]; exact Blk.new _ _ _
  have a_k1 : ∀ O, (World.alloc W O).cell? ⟨g1, 0, none⟩ = some (Value.slice B m d) := fun O => (hB1.alloc O).cell 0
  have a_kt1 : ∀ O, (World.alloc W O).cell? ⟨gt1, 0, none⟩ = some (Value.slice Bt1 r dt1) := fun O => (hT1.alloc O).cell 0
  have a_kt2 : ∀ O, (World.alloc W O).cell? ⟨gt2, 0, none⟩ = some (Value.slice Bt2 r dt2) := fun O => (hT2.alloc O).cell 0
  have z33 := Lib.hid (Nat.le_of_eq hgx.symm)
  have z34 := Lib.hid hB4.lt
  go_wp2_with fail
  rw [← hW0, ← hgx]
  clear hW0 hgx a_k1 a_kt1 a_kt2
  have z35 := Lib.hid hb.size
  replace hv := bl_trans hv hb
  replace hB1 := hB1.below hb
  replace hT1 := hT1.below hb
  replace hT2 := hT2.below hb
  replace hox := hox.below hb
  replace hop := hop.below hb
  replace ho1 := ho1.below hb
  replace ho2 := ho2.below hb
  replace hox2 := hox2.below hb
  replace hop2 := hop2.below hb
  clear hb
  have k1 : W0.cell? ⟨g1, 0, none⟩ = some (Value.slice B m d) := hB1.cell 0
  have kt1 : W0.cell? ⟨gt1, 0, none⟩ = some (Value.slice Bt1 r dt1) := hT1.cell 0
  have kt2 : W0.cell? ⟨gt2, 0, none⟩ = some (Value.slice Bt2 r dt2) := hT2.cell 0
  have k4 : W0.cell? ⟨g4, 0, none⟩ = some (Value.slice B2 m2 d2) := hB4.cell 0
  refine (HG1.out _ hox2.arr hop2.arr).mono ?_
  rintro e W ⟨rfl, hb⟩
  have z36 := Lib.hid hb.size
  replace hv := bl_trans hv hb
  replace hB1 := hB1.below hb
  replace hT1 := hT1.below hb
  replace hT2 := hT2.below hb
  replace hB4 := hB4.below hb
  replace hox := hox.below hb
  replace hop := hop.below hb
  replace ho1 := ho1.below hb
  replace ho2 := ho2.below hb
  replace hox2 := hox2.below hb
  replace hop2 := hop2.below hb
  clear hb
  have k1 : W.cell? ⟨g1, 0, none⟩ = some (Value.slice B m d) := hB1.cell 0
  have kt1 : W.cell? ⟨gt1, 0, none⟩ = some (Value.slice Bt1 r dt1) := hT1.cell 0
  have kt2 : W.cell? ⟨gt2, 0, none⟩ = some (Value.slice Bt2 r dt2) := hT2.cell 0
  have k4 : W.cell? ⟨g4, 0, none⟩ = some (Value.slice B2 m2 d2) := hB4.cell 0
  obtain ⟨W0, hW0⟩ : ∃ W0, W0 = W.alloc (Obj.cells #[Value.int IntKind.i64 gu, Value.int IntKind.i64 gw] 37) := ⟨_, rfl⟩
  obtain ⟨f1, hgx⟩ : ∃ gx, gx = W.heap.size := ⟨_, rfl⟩
  have hb : Below W.heap.size W W0 := by rw [hW0]; exact bl_alloc (Below.refl _ _) _
  have hF1 : Blk W0 f1 37 #[Value.int IntKind.i64 gu, Value.int IntKind.i64 gw] := by rw [hW0, hgx]; exact Blk.new _ _ _
  have a_k1 : ∀ O, (World.alloc W O).cell? ⟨g1, 0, none⟩ = some (Value.slice B m d) := fun O => (hB1.alloc O).cell 0
  have a_kt1 : ∀ O, (World.alloc W O).cell? ⟨gt1, 0, none⟩ = some (Value.slice Bt1 r dt1) := fun O => (hT1.alloc O).cell 0
  have a_kt2 : ∀ O, (World.alloc W O).cell? ⟨gt2, 0, none⟩ = some (Value.slice Bt2 r dt2) := fun O => (hT2.alloc O).cell 0
  have a_k4 : ∀ O, (World.alloc W O).cell? ⟨g4, 0, none⟩ = some (Value.slice B2 m2 d2) := fun O => (hB4.alloc O).cell 0
  have z37 := Lib.hid (Nat.le_of_eq hgx.symm)
  have z38 := Lib.hid hF1.lt
  go_wp2_with fail
  rw [← hW0, ← hgx]
  clear hW0 hgx a_k1 a_kt1 a_kt2 a_k4
  have z39 := Lib.hid hb.size
  replace hv := bl_trans hv hb
  replace hB1 := hB1.below hb
  replace hT1 := hT1.below hb
  replace hT2 := hT2.below hb
  replace hB4 := hB4.below hb
  replace hox := hox.below hb
  replace hop := hop.below hb
  replace ho1 := ho1.below hb
  replace ho2 := ho2.below hb
  replace hox2 := hox2.below hb
  replace hop2 := hop2.below hb
  clear hb
  have k1 : W0.cell? ⟨g1, 0, none⟩ = some (Value.slice B m d) := hB1.cell 0
  have kt1 : W0.cell? ⟨gt1, 0, none⟩ = some (Value.slice Bt1 r dt1) := hT1.cell 0
  have kt2 : W0.cell? ⟨gt2, 0, none⟩ = some (Value.slice Bt2 r dt2) := hT2.cell 0
  have k4 : W0.cell? ⟨g4, 0, none⟩ = some (Value.slice B2 m2 d2) := hB4.cell 0
  have u0 : W0.cell? ⟨f1, 0, none⟩ = some (Value.int IntKind.i64 gu) := hF1.cell 0
  have u1 : W0.cell? ⟨f1, 1, none⟩ = some (Value.int IntKind.i64 gw) := hF1.cell 1
  refine (HG2.out _ hox2.arr hop2.arr).mono ?_
  rintro e W ⟨rfl, hb⟩
  have z40 := Lib.hid hb.size
  replace hv := bl_trans hv hb
  replace hB1 := hB1.below hb
  replace hT1 := hT1.below hb
  replace hT2 := hT2.below hb
  replace hB4 := hB4.below hb
  replace hF1 := hF1.below hb
  replace hox := hox.below hb
  replace hop := hop.below hb
  replace ho1 := ho1.below hb
  replace ho2 := ho2.below hb
  replace hox2 := hox2.below hb
  replace hop2 := hop2.below hb
  clear hb
  have k1 : W.cell? ⟨g1, 0, none⟩ = some (Value.slice B m d) := hB1.cell 0
  have kt1 : W.cell? ⟨gt1, 0, none⟩ = some (Value.slice Bt1 r dt1) := hT1.cell 0
  have kt2 : W.cell? ⟨gt2, 0, none⟩ = some (Value.slice Bt2 r dt2) := hT2.cell 0
  have k4 : W.cell? ⟨g4, 0, none⟩ = some (Value.slice B2 m2 d2) := hB4.cell 0
  have u0 : W.cell? ⟨f1, 0, none⟩ = some (Value.int IntKind.i64 gu) := hF1.cell 0
  have u1 : W.cell? ⟨f1, 1, none⟩ = some (Value.int IntKind.i64 gw) := hF1.cell 1
  obtain ⟨W0, hW0⟩ : ∃ W0, W0 = W.alloc (Obj.cells #[Value.int IntKind.i64 gu, Value.int IntKind.i64 gw] 37) := ⟨_, rfl⟩
  obtain ⟨f2, hgx⟩ : ∃ gx, gx = W.heap.size := ⟨_, rfl⟩
  have hb : Below W.heap.size W W0 := by rw [hW0]; exact bl_alloc (Below.refl _ _) _
  have hF2 : Blk W0 f2 37 #[Value.int IntKind.i64 gu, Value.int IntKind.i64 gw] := by rw [hW0, hgx]; exact Blk.new _ _ _
  have a_k1 : ∀ O, (World.alloc W O).cell? ⟨g1, 0, none⟩ = some (Value.slice B m d) := fun O => (hB1.alloc O).cell 0
  have a_kt1 : ∀ O, (World.alloc W O).cell? ⟨gt1, 0, none⟩ = some (Value.slice Bt1 r dt1) := fun O => (hT1.alloc O).cell 0
  have a_kt2 : ∀ O, (World.alloc W O).cell? ⟨gt2, 0, none⟩ = some (Value.slice Bt2 r dt2) := fun O => (hT2.alloc O).cell 0
  have a_k4 : ∀ O, (World.alloc W O).cell? ⟨g4, 0, none⟩ = some (Value.slice B2 m2 d2) := fun O => (hB4.alloc O).cell 0
  have a_u0 : ∀ O, (World.alloc W O).cell? ⟨f1, 0, none⟩ = some (Value.int IntKind.i64 gu) := fun O => (hF1.alloc O).cell 0
  have a_u1 : ∀ O, (World.alloc W O).cell? ⟨f1, 1, none⟩ = some (Value.int IntKind.i64 gw) := fun O => (hF1.alloc O).cell 1
  have z41 := Lib.hid (Nat.le_of_eq hgx.symm)
  have z42 := Lib.hid hF2.lt
  go_wp2_with fail
  rw [← hW0, ← hgx]
  clear hW0 hgx a_k1 a_kt1 a_kt2 a_k4 a_u0 a_u1
  have z43 := Lib.hid hb.size
  replace hv := bl_trans hv hb
  replace hB1 := hB1.below hb
  replace hT1 := hT1.below hb
  replace hT2 := hT2.below hb
  replace hB4 := hB4.below hb
  replace hF1 := hF1.below hb
  replace hox := hox.below hb
  replace hop := hop.below hb
  replace ho1 := ho1.below hb
  replace ho2 := ho2.below hb
  replace hox2 := hox2.below hb
  replace hop2 := hop2.below hb
  clear hb
  have k1 : W0.cell? ⟨g1, 0, none⟩ = some (Value.slice B m d) := hB1.cell 0
  have kt1 : W0.cell? ⟨gt1, 0, none⟩ = some (Value.slice Bt1 r dt1) := hT1.cell 0
  have kt2 : W0.cell? ⟨gt2, 0, none⟩ = some (Value.slice Bt2 r dt2) := hT2.cell 0
  have k4 : W0.cell? ⟨g4, 0, none⟩ = some (Value.slice B2 m2 d2) := hB4.cell 0
  have u0 : W0.cell? ⟨f1, 0, none⟩ = some (Value.int IntKind.i64 gu) := hF1.cell 0
  have u1 : W0.cell? ⟨f1, 1, none⟩ = some (Value.int IntKind.i64 gw) := hF1.cell 1
  have v0 : W0.cell? ⟨f2, 0, none⟩ = some (Value.int IntKind.i64 gu) := hF2.cell 0
  have v1 : W0.cell? ⟨f2, 1, none⟩ = some (Value.int IntKind.i64 gw) := hF2.cell 1
  clear hox2 hop2 hB4
  clear HG1 HG2 k4
  refine (DrawGrooveDepth_c C nn cc cs hnn (by omega) _ (hA0.out.below hv) (fun ad e => Nat.lt_of_lt_of_le (hL0.out ad e) hv.size)).mono ?_
  rintro e W ⟨A3, xs3, n3, c3, B3, ps3, m3, d3, sh, rfl, hn', hn13, hs', hp', hm7, hox3, hop3, hb⟩
  have hn3 := Lib.hid hn'
  have hp3 := Lib.hid hp'
  have hs3 : Hid (∀ x ∈ xs3, x.name.size ≤ 9223372036854775807) := Lib.hid (fun x hx => Nat.le_trans (hs' x hx) (by omega))
  have hz3 : (n3 : Int) ≤ 1048576 := by omega
  have hy3 : (m3 : Int) ≤ 1048576 := by omega
  have hnc3 : (n3 : Int) ≤ c3 := by
    obtain ⟨_, _, e0, hnc', _⟩ := own_form hox3
    injection e0 with e1 e2 e3
    omega
  have HBN3 := Lib.hid (fun h : 0 < m3 => own_addr hop3 h)
  have hmn3 : m3 ≤ 7 := hm7
  clear hn' hs' hp' hn13 hm7
  obtain ⟨lx3, ux3, h_own, z44, z45⟩ := Own.named hox3 hb
  replace hox3 := h_own
  clear h_own
  obtain ⟨lp3, up3, h_own, z46, z47⟩ := Own.named hop3 hb
  replace hop3 := h_own
  clear h_own
  have z48 := Lib.hid hb.size
  replace hv := bl_trans hv hb
  replace hB1 := hB1.below hb
  replace hT1 := hT1.below hb
  replace hT2 := hT2.below hb
  replace hF1 := hF1.below hb
  replace hF2 := hF2.below hb
  replace hox := hox.below hb
  replace hop := hop.below hb
  replace ho1 := ho1.below hb
  replace ho2 := ho2.below hb
  clear hb
  have k1 : W.cell? ⟨g1, 0, none⟩ = some (Value.slice B m d) := hB1.cell 0
  have kt1 : W.cell? ⟨gt1, 0, none⟩ = some (Value.slice Bt1 r dt1) := hT1.cell 0
  have kt2 : W.cell? ⟨gt2, 0, none⟩ = some (Value.slice Bt2 r dt2) := hT2.cell 0
  have u0 : W.cell? ⟨f1, 0, none⟩ = some (Value.int IntKind.i64 gu) := hF1.cell 0
  have u1 : W.cell? ⟨f1, 1, none⟩ = some (Value.int IntKind.i64 gw) := hF1.cell 1
  have v0 : W.cell? ⟨f2, 0, none⟩ = some (Value.int IntKind.i64 gu) := hF2.cell 0
  have v1 : W.cell? ⟨f2, 1, none⟩ = some (Value.int IntKind.i64 gw) := hF2.cell 1
  obtain ⟨ea, eb, hE⟩ := rGroove_form xs3 ps3 sh
  have HE1 := Lib.hid (fun w h1 h2 => hE ▸ GrooveDepth_c A3 xs3 n3 c3 hn3 hz3 hs3 hnc3 B3 ps3 m3 d3 hp3 hy3 sh w h1 h2)
  have HE2 := Lib.hid (fun w h1 h2 => hE ▸ SGrooveDepth_c A3 xs3 n3 c3 hn3 hz3 hs3 B3 ps3 m3 d3 hp3 hy3 sh w h1 h2)
  clear hE
  obtain ⟨W0, hW0⟩ : ∃ W0, W0 = W.alloc (Obj.cells #[Value.slice B3 m3 d3] 27) := ⟨_, rfl⟩
  obtain ⟨g5, hgx⟩ : ∃ gx, gx = W.heap.size := ⟨_, rfl⟩
  have hb : Below W.heap.size W W0 := by rw [hW0]; exact bl_alloc (Below.refl _ _) _
  have hB5 : Blk W0 g5 27 #[Value.slice B3 m3 d3] := by rw [hW0, hgx]; exact Blk.new _ _ _
  have a_k1 : ∀ O, (World.alloc W O).cell? ⟨g1, 0, none⟩ = some (Value.slice B m d) := fun O => (hB1.alloc O).cell 0
  have a_kt1 : ∀ O, (World.alloc W O).cell? ⟨gt1, 0, none⟩ = some (Value.slice Bt1 r dt1) := fun O => (hT1.alloc O).cell 0
  have a_kt2 : ∀ O, (World.alloc W O).cell? ⟨gt2, 0, none⟩ = some (Value.slice Bt2 r dt2) := fun O => (hT2.alloc O).cell 0
  have a_u0 : ∀ O, (World.alloc W O).cell? ⟨f1, 0, none⟩ = some (Value.int IntKind.i64 gu) := fun O => (hF1.alloc O).cell 0
  have a_u1 : ∀ O, (World.alloc W O).cell? ⟨f1, 1, none⟩ = some (Value.int IntKind.i64 gw) := fun O => (hF1.alloc O).cell 1
  have a_v0 : ∀ O, (World.alloc W O).cell? ⟨f2, 0, none⟩ = some (Value.int IntKind.i64 gu) := fun O => (hF2.alloc O).cell 0
  have a_v1 : ∀ O, (World.alloc W O).cell? ⟨f2, 1, none⟩ = some (Value.int IntKind.i64 gw) := fun O => (hF2.alloc O).cell 1
  have z49 := Lib.hid (Nat.le_of_eq hgx.symm)
  have z50 := Lib.hid hB5.lt
  go_wp2_with fail
  rw [← hW0, ← hgx]
  clear hW0 hgx a_k1 a_kt1 a_kt2 a_u0 a_u1 a_v0 a_v1
  have z51 := Lib.hid hb.size
  replace hv := bl_trans hv hb
  replace hB1 := hB1.below hb
  replace hT1 := hT1.below hb
  replace hT2 := hT2.below hb
  replace hF1 := hF1.below hb
  replace hF2 := hF2.below hb
  replace hox := hox.below hb
  replace hop := hop.below hb
  replace ho1 := ho1.below hb
  replace ho2 := ho2.below hb
  replace hox3 := hox3.below hb
  replace hop3 := hop3.below hb
  clear hb
  have k1 : W0.cell? ⟨g1, 0, none⟩ = some (Value.slice B m d) := hB1.cell 0
  have kt1 : W0.cell? ⟨gt1, 0, none⟩ = some (Value.slice Bt1 r dt1) := hT1.cell 0
  have kt2 : W0.cell? ⟨gt2, 0, none⟩ = some (Value.slice Bt2 r dt2) := hT2.cell 0
  have u0 : W0.cell? ⟨f1, 0, none⟩ = some (Value.int IntKind.i64 gu) := hF1.cell 0
  have u1 : W0.cell? ⟨f1, 1, none⟩ = some (Value.int IntKind.i64 gw) := hF1.cell 1
  have v0 : W0.cell? ⟨f2, 0, none⟩ = some (Value.int IntKind.i64 gu) := hF2.cell 0
  have v1 : W0.cell? ⟨f2, 1, none⟩ = some (Value.int IntKind.i64 gw) := hF2.cell 1
  have k5 : W0.cell? ⟨g5, 0, none⟩ = some (Value.slice B3 m3 d3) := hB5.cell 0
  refine (HE1.out _ hox3.arr hop3.arr).mono ?_
  rintro e W ⟨rfl, hb⟩
  have z52 := Lib.hid hb.size
  replace hv := bl_trans hv hb
  replace hB1 := hB1.below hb
  replace hT1 := hT1.below hb
  replace hT2 := hT2.below hb
  replace hF1 := hF1.below hb
  replace hF2 := hF2.below hb
  replace hB5 := hB5.below hb
  replace hox := hox.below hb
  replace hop := hop.below hb
  replace ho1 := ho1.below hb
  replace ho2 := ho2.below hb
  replace hox3 := hox3.below hb
  replace hop3 := hop3.below hb
  clear hb
  have k1 : W.cell? ⟨g1, 0, none⟩ = some (Value.slice B m d) := hB1.cell 0
  have kt1 : W.cell? ⟨gt1, 0, none⟩ = some (Value.slice Bt1 r dt1) := hT1.cell 0
  have kt2 : W.cell? ⟨gt2, 0, none⟩ = some (Value.slice Bt2 r dt2) := hT2.cell 0
  have u0 : W.cell? ⟨f1, 0, none⟩ = some (Value.int IntKind.i64 gu) := hF1.cell 0
  have u1 : W.cell? ⟨f1, 1, none⟩ = some (Value.int IntKind.i64 gw) := hF1.cell 1
  have v0 : W.cell? ⟨f2, 0, none⟩ = some (Value.int IntKind.i64 gu) := hF2.cell 0
  have v1 : W.cell? ⟨f2, 1, none⟩ = some (Value.int IntKind.i64 gw) := hF2.cell 1
  have k5 : W.cell? ⟨g5, 0, none⟩ = some (Value.slice B3 m3 d3) := hB5.cell 0
  go_wp2_with fail
  refine (HE2.out _ hox3.arr hop3.arr).mono ?_
  rintro e W ⟨rfl, hb⟩
  have z53 := Lib.hid hb.size
  replace hv := bl_trans hv hb
  replace hB1 := hB1.below hb
  replace hT1 := hT1.below hb
  replace hT2 := hT2.below hb
  replace hF1 := hF1.below hb
  replace hF2 := hF2.below hb
  replace hB5 := hB5.below hb
  replace hox := hox.below hb
  replace hop := hop.below hb
  replace ho1 := ho1.below hb
  replace ho2 := ho2.below hb
  replace hox3 := hox3.below hb
  replace hop3 := hop3.below hb
  clear hb
  have k1 : W.cell? ⟨g1, 0, none⟩ = some (Value.slice B m d) := hB1.cell 0
  have kt1 : W.cell? ⟨gt1, 0, none⟩ = some (Value.slice Bt1 r dt1) := hT1.cell 0
  have kt2 : W.cell? ⟨gt2, 0, none⟩ = some (Value.slice Bt2 r dt2) := hT2.cell 0
  have u0 : W.cell? ⟨f1, 0, none⟩ = some (Value.int IntKind.i64 gu) := hF1.cell 0
  have u1 : W.cell? ⟨f1, 1, none⟩ = some (Value.int IntKind.i64 gw) := hF1.cell 1
  have v0 : W.cell? ⟨f2, 0, none⟩ = some (Value.int IntKind.i64 gu) := hF2.cell 0
  have v1 : W.cell? ⟨f2, 1, none⟩ = some (Value.int IntKind.i64 gw) := hF2.cell 1
  have k5 : W.cell? ⟨g5, 0, none⟩ = some (Value.slice B3 m3 d3) := hB5.cell 0
  go_wp2_with fail
  clear hox3 hop3 hB5
  clear HE1 HE2 k5 HW1 HW2 HU1 HU2 HT2 HS2 HP2 HT1 HS1 HP1
  go_cut [263] (fun s wx => s = .bool false ∧ Below W.heap.size W wx)
  case first =>

    refine wp_region_held_drew (S := fun w' => Below W.heap.size W w' ∧ True) (by as_aux_lemma => kernel_rfl) ?_ (fun hHeld => ?_)
    · exact ⟨(Below.refl _ _).drew, trivial⟩
    refine wpAnyH_take (i := 0) (oi := { dst := some 163, op := _, type := _, pos := _, after := _, guard := _ }) (v := ?_) rfl (by as_aux_lemma => kernel_rfl) (by as_aux_lemma => kernel_rfl) (by as_aux_lemma => kernel_rfl) (fun _ _ _ h => h) (Or.inl ⟨by as_aux_lemma => kernel_rfl, ?_⟩) (by assumption) ?_
    rotate_left
    · intro w hSw
      try dsimp only at hSw
      go_simp
      try with_reducible rfl
    try simp only [Act.put, List.setIfInBounds_toArray, List.set_cons_zero, List.set_cons_succ]
    refine wpAnyH_take (i := 1) (oi := { dst := some 164, op := _, type := _, pos := _, after := _, guard := _ }) (v := ?_) rfl (by as_aux_lemma => kernel_rfl) (by as_aux_lemma => kernel_rfl) (by as_aux_lemma => kernel_rfl) (fun _ _ _ h => h) (Or.inl ⟨by as_aux_lemma => kernel_rfl, ?_⟩) (by assumption) ?_
    rotate_left
    · intro w hSw
      try dsimp only at hSw
      go_simp
      try with_reducible rfl
    try simp only [Act.put, List.setIfInBounds_toArray, List.set_cons_zero, List.set_cons_succ]
    refine wpAnyH_take (i := 2) (oi := { dst := some 165, op := _, type := _, pos := _, after := _, guard := _ }) (v := (Value.bool false)) rfl (by as_aux_lemma => kernel_rfl) (by as_aux_lemma => kernel_rfl) (by as_aux_lemma => kernel_rfl) (fun _ _ _ h => h) (Or.inl ⟨by as_aux_lemma => kernel_rfl, ?_⟩) (by assumption) ?_
    · intro w hSw
      try dsimp only at hSw
      go_simp
      try with_reducible rfl
      try simp
    try simp only [Act.put, List.setIfInBounds_toArray, List.set_cons_zero, List.set_cons_succ]
    refine wpAnyH_take (i := 3) (oi := { dst := some 166, op := _, type := _, pos := _, after := _, guard := _ }) (v := (Value.bool false)) rfl (by as_aux_lemma => kernel_rfl) (by as_aux_lemma => kernel_rfl) (by as_aux_lemma => kernel_rfl) (fun _ _ _ h => h) (Or.inl ⟨by as_aux_lemma => kernel_rfl, ?_⟩) (by assumption) ?_
    · intro w hSw
      try dsimp only at hSw
      go_simp
      try with_reducible rfl
      try simp
    try simp only [Act.put, List.setIfInBounds_toArray, List.set_cons_zero, List.set_cons_succ]
    refine wpAnyH_take (i := 4) (oi := { dst := some 167, op := _, type := _, pos := _, after := _, guard := _ }) (v := ?_) rfl (by as_aux_lemma => kernel_rfl) (by as_aux_lemma => kernel_rfl) (by as_aux_lemma => kernel_rfl) (fun _ _ _ h => h) (Or.inl ⟨by as_aux_lemma => kernel_rfl, ?_⟩) (by assumption) ?_
    rotate_left
    · intro w hSw
      try dsimp only at hSw
      go_simp
      try with_reducible rfl
    try simp only [Act.put, List.setIfInBounds_toArray, List.set_cons_zero, List.set_cons_succ]
    refine wpAnyH_take (i := 5) (oi := { dst := some 168, op := _, type := _, pos := _, after := _, guard := _ }) (v := ?_) rfl (by as_aux_lemma => kernel_rfl) (by as_aux_lemma => kernel_rfl) (by as_aux_lemma => kernel_rfl) (fun _ _ _ h => h) (Or.inl ⟨by as_aux_lemma => kernel_rfl, ?_⟩) (by assumption) ?_
    rotate_left
    · intro w hSw
      try dsimp only at hSw
      go_simp
      try with_reducible rfl
    try simp only [Act.put, List.setIfInBounds_toArray, List.set_cons_zero, List.set_cons_succ]
    refine wpAnyH_take (i := 6) (oi := { dst := some 169, op := _, type := _, pos := _, after := _, guard := _ }) (v := (Value.bool false)) rfl (by as_aux_lemma => kernel_rfl) (by as_aux_lemma => kernel_rfl) (by as_aux_lemma => kernel_rfl) (fun _ _ _ h => h) (Or.inl ⟨by as_aux_lemma => kernel_rfl, ?_⟩) (by assumption) ?_
    · intro w hSw
      try dsimp only at hSw
      go_simp
      try with_reducible rfl
      try simp
    try simp only [Act.put, List.setIfInBounds_toArray, List.set_cons_zero, List.set_cons_succ]
    refine wpAnyH_take (i := 7) (oi := { dst := some 170, op := _, type := _, pos := _, after := _, guard := _ }) (v := (Value.bool false)) rfl (by as_aux_lemma => kernel_rfl) (by as_aux_lemma => kernel_rfl) (by as_aux_lemma => kernel_rfl) (fun _ _ _ h => h) (Or.inl ⟨by as_aux_lemma => kernel_rfl, ?_⟩) (by assumption) ?_
    · intro w hSw
      try dsimp only at hSw
      go_simp
      try with_reducible rfl
      try simp
    try simp only [Act.put, List.setIfInBounds_toArray, List.set_cons_zero, List.set_cons_succ]
    refine wpAnyH_take (i := 8) (oi := { dst := some 171, op := _, type := _, pos := _, after := _, guard := _ }) (v := (Value.bool false)) rfl (by as_aux_lemma => kernel_rfl) (by as_aux_lemma => kernel_rfl) (by as_aux_lemma => kernel_rfl) (fun _ _ _ h => h) (Or.inl ⟨by as_aux_lemma => kernel_rfl, ?_⟩) (by assumption) ?_
    · intro w hSw
      try dsimp only at hSw
      go_simp
      try with_reducible rfl
      try simp
    try simp only [Act.put, List.setIfInBounds_toArray, List.set_cons_zero, List.set_cons_succ]
    refine wpAnyH_take (i := 9) (oi := { dst := some 172, op := _, type := _, pos := _, after := _, guard := _ }) (v := ?_) rfl (by as_aux_lemma => kernel_rfl) (by as_aux_lemma => kernel_rfl) (by as_aux_lemma => kernel_rfl) (fun _ _ _ h => h) (Or.inl ⟨by as_aux_lemma => kernel_rfl, ?_⟩) (by assumption) ?_
    rotate_left
    · intro w hSw
      try dsimp only at hSw
      go_simp
      try with_reducible rfl
    try simp only [Act.put, List.setIfInBounds_toArray, List.set_cons_zero, List.set_cons_succ]
    refine wpAnyH_take (i := 10) (oi := { dst := some 173, op := _, type := _, pos := _, after := _, guard := _ }) (v := ?_) rfl (by as_aux_lemma => kernel_rfl) (by as_aux_lemma => kernel_rfl) (by as_aux_lemma => kernel_rfl) (fun _ _ _ h => h) (Or.inl ⟨by as_aux_lemma => kernel_rfl, ?_⟩) (by assumption) ?_
    rotate_left
    · intro w hSw
      try dsimp only at hSw
      go_simp
      try with_reducible rfl
    try simp only [Act.put, List.setIfInBounds_toArray, List.set_cons_zero, List.set_cons_succ]
    refine wpAnyH_take (i := 11) (oi := { dst := some 174, op := _, type := _, pos := _, after := _, guard := _ }) (v := (Value.bool false)) rfl (by as_aux_lemma => kernel_rfl) (by as_aux_lemma => kernel_rfl) (by as_aux_lemma => kernel_rfl) (fun _ _ _ h => h) (Or.inl ⟨by as_aux_lemma => kernel_rfl, ?_⟩) (by assumption) ?_
    · intro w hSw
      try dsimp only at hSw
      go_simp
      try with_reducible rfl
      try simp
    try simp only [Act.put, List.setIfInBounds_toArray, List.set_cons_zero, List.set_cons_succ]
    refine wpAnyH_take (i := 12) (oi := { dst := some 175, op := _, type := _, pos := _, after := _, guard := _ }) (v := (Value.bool false)) rfl (by as_aux_lemma => kernel_rfl) (by as_aux_lemma => kernel_rfl) (by as_aux_lemma => kernel_rfl) (fun _ _ _ h => h) (Or.inl ⟨by as_aux_lemma => kernel_rfl, ?_⟩) (by assumption) ?_
    · intro w hSw
      try dsimp only at hSw
      go_simp
      try with_reducible rfl
      try simp
    try simp only [Act.put, List.setIfInBounds_toArray, List.set_cons_zero, List.set_cons_succ]
    refine wpAnyH_take (i := 13) (oi := { dst := some 176, op := _, type := _, pos := _, after := _, guard := _ }) (v := (Value.bool false)) rfl (by as_aux_lemma => kernel_rfl) (by as_aux_lemma => kernel_rfl) (by as_aux_lemma => kernel_rfl) (fun _ _ _ h => h) (Or.inl ⟨by as_aux_lemma => kernel_rfl, ?_⟩) (by assumption) ?_
    · intro w hSw
      try dsimp only at hSw
      go_simp
      try with_reducible rfl
      try simp
    try simp only [Act.put, List.setIfInBounds_toArray, List.set_cons_zero, List.set_cons_succ]
    refine wpAnyH_take (i := 14) (oi := { dst := some 177, op := _, type := _, pos := _, after := _, guard := _ }) (v := ?_) rfl (by as_aux_lemma => kernel_rfl) (by as_aux_lemma => kernel_rfl) (by as_aux_lemma => kernel_rfl) (fun _ _ _ h => h) (Or.inl ⟨by as_aux_lemma => kernel_rfl, ?_⟩) (by assumption) ?_
    rotate_left
    · intro w hSw
      try dsimp only at hSw
      go_simp
      try with_reducible rfl
    try simp only [Act.put, List.setIfInBounds_toArray, List.set_cons_zero, List.set_cons_succ]
    refine wpAnyH_take (i := 15) (oi := { dst := some 178, op := _, type := _, pos := _, after := _, guard := _ }) (v := ?_) rfl (by as_aux_lemma => kernel_rfl) (by as_aux_lemma => kernel_rfl) (by as_aux_lemma => kernel_rfl) (fun _ _ _ h => h) (Or.inl ⟨by as_aux_lemma => kernel_rfl, ?_⟩) (by assumption) ?_
    rotate_left
    · intro w hSw
      try dsimp only at hSw
      go_simp
      try with_reducible rfl
    try simp only [Act.put, List.setIfInBounds_toArray, List.set_cons_zero, List.set_cons_succ]
    refine wpAnyH_take (i := 16) (oi := { dst := some 179, op := _, type := _, pos := _, after := _, guard := _ }) (v := (Value.bool false)) rfl (by as_aux_lemma => kernel_rfl) (by as_aux_lemma => kernel_rfl) (by as_aux_lemma => kernel_rfl) (fun _ _ _ h => h) (Or.inl ⟨by as_aux_lemma => kernel_rfl, ?_⟩) (by assumption) ?_
    · intro w hSw
      try dsimp only at hSw
      go_simp
      try with_reducible rfl
      try simp
    try simp only [Act.put, List.setIfInBounds_toArray, List.set_cons_zero, List.set_cons_succ]
    refine wpAnyH_take (i := 17) (oi := { dst := some 180, op := _, type := _, pos := _, after := _, guard := _ }) (v := (Value.bool false)) rfl (by as_aux_lemma => kernel_rfl) (by as_aux_lemma => kernel_rfl) (by as_aux_lemma => kernel_rfl) (fun _ _ _ h => h) (Or.inl ⟨by as_aux_lemma => kernel_rfl, ?_⟩) (by assumption) ?_
    · intro w hSw
      try dsimp only at hSw
      go_simp
      try with_reducible rfl
      try simp
    try simp only [Act.put, List.setIfInBounds_toArray, List.set_cons_zero, List.set_cons_succ]
    refine wpAnyH_take (i := 18) (oi := { dst := some 181, op := _, type := _, pos := _, after := _, guard := _ }) (v := (Value.bool false)) rfl (by as_aux_lemma => kernel_rfl) (by as_aux_lemma => kernel_rfl) (by as_aux_lemma => kernel_rfl) (fun _ _ _ h => h) (Or.inl ⟨by as_aux_lemma => kernel_rfl, ?_⟩) (by assumption) ?_
    · intro w hSw
      try dsimp only at hSw
      go_simp
      try with_reducible rfl
      try simp
    try simp only [Act.put, List.setIfInBounds_toArray, List.set_cons_zero, List.set_cons_succ]
    refine wpAnyH_take (i := 19) (oi := { dst := some 182, op := _, type := _, pos := _, after := _, guard := _ }) (v := ?_) rfl (by as_aux_lemma => kernel_rfl) (by as_aux_lemma => kernel_rfl) (by as_aux_lemma => kernel_rfl) (fun _ _ _ h => h) (Or.inl ⟨by as_aux_lemma => kernel_rfl, ?_⟩) (by assumption) ?_
    rotate_left
    · intro w hSw
      try dsimp only at hSw
      go_simp
      try with_reducible rfl
    try simp only [Act.put, List.setIfInBounds_toArray, List.set_cons_zero, List.set_cons_succ]
    refine wpAnyH_take (i := 20) (oi := { dst := some 183, op := _, type := _, pos := _, after := _, guard := _ }) (v := ?_) rfl (by as_aux_lemma => kernel_rfl) (by as_aux_lemma => kernel_rfl) (by as_aux_lemma => kernel_rfl) (fun _ _ _ h => h) (Or.inl ⟨by as_aux_lemma => kernel_rfl, ?_⟩) (by assumption) ?_
    rotate_left
    · intro w hSw
      try dsimp only at hSw
      have x_kt1 := bl_cell hSw.1 kt1
      go_simp
      try with_reducible rfl
    try simp only [Act.put, List.setIfInBounds_toArray, List.set_cons_zero, List.set_cons_succ]
    refine wpAnyH_take (i := 21) (oi := { dst := some 184, op := _, type := _, pos := _, after := _, guard := _ }) (v := ?_) rfl (by as_aux_lemma => kernel_rfl) (by as_aux_lemma => kernel_rfl) (by as_aux_lemma => kernel_rfl) (fun _ _ _ h => h) (Or.inl ⟨by as_aux_lemma => kernel_rfl, ?_⟩) (by assumption) ?_
    rotate_left
    · intro w hSw
      try dsimp only at hSw
      go_simp
      try with_reducible rfl
    try simp only [Act.put, List.setIfInBounds_toArray, List.set_cons_zero, List.set_cons_succ]
    refine wpAnyH_take (i := 22) (oi := { dst := some 185, op := _, type := _, pos := _, after := _, guard := _ }) (v := ?_) rfl (by as_aux_lemma => kernel_rfl) (by as_aux_lemma => kernel_rfl) (by as_aux_lemma => kernel_rfl) (fun _ _ _ h => h) (Or.inl ⟨by as_aux_lemma => kernel_rfl, ?_⟩) (by assumption) ?_
    rotate_left
    · intro w hSw
      try dsimp only at hSw
      have x_kt2 := bl_cell hSw.1 kt2
      go_simp
      try with_reducible rfl
    try simp only [Act.put, List.setIfInBounds_toArray, List.set_cons_zero, List.set_cons_succ]
    refine wpAnyH_ready (rs := [23]) (by as_aux_lemma => kernel_rfl) (by simp) ?_
    refine AllReadyH.cons (o := { dst := some 186, op := _, type := _, pos := _, after := _, guard := _ }) rfl (fun K hK => ?_) AllReadyH.nil
    go_simp
    (try dsimp only at hHeld); go_split_ands
    refine (f6ints_same Bt1 Bt2 tl r dt1 dt2 HR (by omega) _ (ho1.arr.below (by assumption)) (ho2.arr.below (by assumption))).mono ?_
    rintro e W9 ⟨rfl, hb9⟩
    go_wp2_with fail
    refine hK.out _ _ ?_ (fun hHeld => ?_)
    · (try dsimp only); go_split_ands; exact ⟨bl_trans (by assumption) hb9, trivial⟩
    clear hK K
    try simp only [Act.put, List.setIfInBounds_toArray, List.set_cons_zero, List.set_cons_succ]
    refine wpAnyH_take (i := 24) (oi := { dst := some 187, op := _, type := _, pos := _, after := _, guard := _ }) (v := (Value.bool false)) rfl (by as_aux_lemma => kernel_rfl) (by as_aux_lemma => kernel_rfl) (by as_aux_lemma => kernel_rfl) (fun _ _ _ h => h) (Or.inl ⟨by as_aux_lemma => kernel_rfl, ?_⟩) (by assumption) ?_
    · intro w hSw
      try dsimp only at hSw
      go_simp
      try with_reducible rfl
      try simp
    try simp only [Act.put, List.setIfInBounds_toArray, List.set_cons_zero, List.set_cons_succ]
    refine wpAnyH_take (i := 25) (oi := { dst := some 188, op := _, type := _, pos := _, after := _, guard := _ }) (v := (Value.bool false)) rfl (by as_aux_lemma => kernel_rfl) (by as_aux_lemma => kernel_rfl) (by as_aux_lemma => kernel_rfl) (fun _ _ _ h => h) (Or.inl ⟨by as_aux_lemma => kernel_rfl, ?_⟩) (by assumption) ?_
    · intro w hSw
      try dsimp only at hSw
      go_simp
      try with_reducible rfl
      try simp
    try simp only [Act.put, List.setIfInBounds_toArray, List.set_cons_zero, List.set_cons_succ]
    refine wpAnyH_take (i := 26) (oi := { dst := some 189, op := _, type := _, pos := _, after := _, guard := _ }) (v := (Value.bool false)) rfl (by as_aux_lemma => kernel_rfl) (by as_aux_lemma => kernel_rfl) (by as_aux_lemma => kernel_rfl) (fun _ _ _ h => h) (Or.inl ⟨by as_aux_lemma => kernel_rfl, ?_⟩) (by assumption) ?_
    · intro w hSw
      try dsimp only at hSw
      go_simp
      try with_reducible rfl
      try simp
    try simp only [Act.put, List.setIfInBounds_toArray, List.set_cons_zero, List.set_cons_succ]
    refine wpAnyH_take (i := 27) (oi := { dst := some 190, op := _, type := _, pos := _, after := _, guard := _ }) (v := ?_) rfl (by as_aux_lemma => kernel_rfl) (by as_aux_lemma => kernel_rfl) (by as_aux_lemma => kernel_rfl) (fun _ _ _ h => h) (Or.inl ⟨by as_aux_lemma => kernel_rfl, ?_⟩) (by assumption) ?_
    rotate_left
    · intro w hSw
      try dsimp only at hSw
      go_simp
      try with_reducible rfl
    try simp only [Act.put, List.setIfInBounds_toArray, List.set_cons_zero, List.set_cons_succ]
    refine wpAnyH_take (i := 28) (oi := { dst := some 191, op := _, type := _, pos := _, after := _, guard := _ }) (v := ?_) rfl (by as_aux_lemma => kernel_rfl) (by as_aux_lemma => kernel_rfl) (by as_aux_lemma => kernel_rfl) (fun _ _ _ h => h) (Or.inl ⟨by as_aux_lemma => kernel_rfl, ?_⟩) (by assumption) ?_
    rotate_left
    · intro w hSw
      try dsimp only at hSw
      go_simp
      try with_reducible rfl
    try simp only [Act.put, List.setIfInBounds_toArray, List.set_cons_zero, List.set_cons_succ]
    refine wpAnyH_take (i := 29) (oi := { dst := some 192, op := _, type := _, pos := _, after := _, guard := _ }) (v := (Value.bool false)) rfl (by as_aux_lemma => kernel_rfl) (by as_aux_lemma => kernel_rfl) (by as_aux_lemma => kernel_rfl) (fun _ _ _ h => h) (Or.inl ⟨by as_aux_lemma => kernel_rfl, ?_⟩) (by assumption) ?_
    · intro w hSw
      try dsimp only at hSw
      go_simp
      try with_reducible rfl
      try simp
    try simp only [Act.put, List.setIfInBounds_toArray, List.set_cons_zero, List.set_cons_succ]
    refine wpAnyH_take (i := 30) (oi := { dst := some 193, op := _, type := _, pos := _, after := _, guard := _ }) (v := (Value.bool false)) rfl (by as_aux_lemma => kernel_rfl) (by as_aux_lemma => kernel_rfl) (by as_aux_lemma => kernel_rfl) (fun _ _ _ h => h) (Or.inl ⟨by as_aux_lemma => kernel_rfl, ?_⟩) (by assumption) ?_
    · intro w hSw
      try dsimp only at hSw
      go_simp
      try with_reducible rfl
      try simp
    try simp only [Act.put, List.setIfInBounds_toArray, List.set_cons_zero, List.set_cons_succ]
    refine wpAnyH_take (i := 31) (oi := { dst := some 194, op := _, type := _, pos := _, after := _, guard := _ }) (v := (Value.bool false)) rfl (by as_aux_lemma => kernel_rfl) (by as_aux_lemma => kernel_rfl) (by as_aux_lemma => kernel_rfl) (fun _ _ _ h => h) (Or.inl ⟨by as_aux_lemma => kernel_rfl, ?_⟩) (by assumption) ?_
    · intro w hSw
      try dsimp only at hSw
      go_simp
      try with_reducible rfl
      try simp
    try simp only [Act.put, List.setIfInBounds_toArray, List.set_cons_zero, List.set_cons_succ]
    refine wpAnyH_take (i := 32) (oi := { dst := some 195, op := _, type := _, pos := _, after := _, guard := _ }) (v := ?_) rfl (by as_aux_lemma => kernel_rfl) (by as_aux_lemma => kernel_rfl) (by as_aux_lemma => kernel_rfl) (fun _ _ _ h => h) (Or.inl ⟨by as_aux_lemma => kernel_rfl, ?_⟩) (by assumption) ?_
    rotate_left
    · intro w hSw
      try dsimp only at hSw
      go_simp
      try with_reducible rfl
    try simp only [Act.put, List.setIfInBounds_toArray, List.set_cons_zero, List.set_cons_succ]
    refine wpAnyH_take (i := 33) (oi := { dst := some 196, op := _, type := _, pos := _, after := _, guard := _ }) (v := ?_) rfl (by as_aux_lemma => kernel_rfl) (by as_aux_lemma => kernel_rfl) (by as_aux_lemma => kernel_rfl) (fun _ _ _ h => h) (Or.inl ⟨by as_aux_lemma => kernel_rfl, ?_⟩) (by assumption) ?_
    rotate_left
    · intro w hSw
      try dsimp only at hSw
      go_simp
      try with_reducible rfl
    try simp only [Act.put, List.setIfInBounds_toArray, List.set_cons_zero, List.set_cons_succ]
    refine wpAnyH_take (i := 34) (oi := { dst := some 197, op := _, type := _, pos := _, after := _, guard := _ }) (v := (Value.bool false)) rfl (by as_aux_lemma => kernel_rfl) (by as_aux_lemma => kernel_rfl) (by as_aux_lemma => kernel_rfl) (fun _ _ _ h => h) (Or.inl ⟨by as_aux_lemma => kernel_rfl, ?_⟩) (by assumption) ?_
    · intro w hSw
      try dsimp only at hSw
      go_simp
      try with_reducible rfl
      try simp
    try simp only [Act.put, List.setIfInBounds_toArray, List.set_cons_zero, List.set_cons_succ]
    refine wpAnyH_take (i := 35) (oi := { dst := some 198, op := _, type := _, pos := _, after := _, guard := _ }) (v := (Value.bool false)) rfl (by as_aux_lemma => kernel_rfl) (by as_aux_lemma => kernel_rfl) (by as_aux_lemma => kernel_rfl) (fun _ _ _ h => h) (Or.inl ⟨by as_aux_lemma => kernel_rfl, ?_⟩) (by assumption) ?_
    · intro w hSw
      try dsimp only at hSw
      go_simp
      try with_reducible rfl
      try simp
    try simp only [Act.put, List.setIfInBounds_toArray, List.set_cons_zero, List.set_cons_succ]
    refine wpAnyH_take (i := 36) (oi := { dst := some 199, op := _, type := _, pos := _, after := _, guard := _ }) (v := (Value.bool false)) rfl (by as_aux_lemma => kernel_rfl) (by as_aux_lemma => kernel_rfl) (by as_aux_lemma => kernel_rfl) (fun _ _ _ h => h) (Or.inl ⟨by as_aux_lemma => kernel_rfl, ?_⟩) (by assumption) ?_
    · intro w hSw
      try dsimp only at hSw
      go_simp
      try with_reducible rfl
      try simp
    try simp only [Act.put, List.setIfInBounds_toArray, List.set_cons_zero, List.set_cons_succ]
    refine wpAnyH_take (i := 37) (oi := { dst := some 200, op := _, type := _, pos := _, after := _, guard := _ }) (v := ?_) rfl (by as_aux_lemma => kernel_rfl) (by as_aux_lemma => kernel_rfl) (by as_aux_lemma => kernel_rfl) (fun _ _ _ h => h) (Or.inl ⟨by as_aux_lemma => kernel_rfl, ?_⟩) (by assumption) ?_
    rotate_left
    · intro w hSw
      try dsimp only at hSw
      go_simp
      try with_reducible rfl
    try simp only [Act.put, List.setIfInBounds_toArray, List.set_cons_zero, List.set_cons_succ]
    refine wpAnyH_take (i := 38) (oi := { dst := some 201, op := _, type := _, pos := _, after := _, guard := _ }) (v := ?_) rfl (by as_aux_lemma => kernel_rfl) (by as_aux_lemma => kernel_rfl) (by as_aux_lemma => kernel_rfl) (fun _ _ _ h => h) (Or.inl ⟨by as_aux_lemma => kernel_rfl, ?_⟩) (by assumption) ?_
    rotate_left
    · intro w hSw
      try dsimp only at hSw
      go_simp
      try with_reducible rfl
    try simp only [Act.put, List.setIfInBounds_toArray, List.set_cons_zero, List.set_cons_succ]
    refine wpAnyH_take (i := 39) (oi := { dst := some 202, op := _, type := _, pos := _, after := _, guard := _ }) (v := (Value.bool false)) rfl (by as_aux_lemma => kernel_rfl) (by as_aux_lemma => kernel_rfl) (by as_aux_lemma => kernel_rfl) (fun _ _ _ h => h) (Or.inl ⟨by as_aux_lemma => kernel_rfl, ?_⟩) (by assumption) ?_
    · intro w hSw
      try dsimp only at hSw
      go_simp
      try with_reducible rfl
      try simp
    try simp only [Act.put, List.setIfInBounds_toArray, List.set_cons_zero, List.set_cons_succ]
    refine wpAnyH_take (i := 40) (oi := { dst := some 203, op := _, type := _, pos := _, after := _, guard := _ }) (v := (Value.bool false)) rfl (by as_aux_lemma => kernel_rfl) (by as_aux_lemma => kernel_rfl) (by as_aux_lemma => kernel_rfl) (fun _ _ _ h => h) (Or.inl ⟨by as_aux_lemma => kernel_rfl, ?_⟩) (by assumption) ?_
    · intro w hSw
      try dsimp only at hSw
      go_simp
      try with_reducible rfl
      try simp
    try simp only [Act.put, List.setIfInBounds_toArray, List.set_cons_zero, List.set_cons_succ]
    refine wpAnyH_take (i := 41) (oi := { dst := some 204, op := _, type := _, pos := _, after := _, guard := _ }) (v := (Value.bool false)) rfl (by as_aux_lemma => kernel_rfl) (by as_aux_lemma => kernel_rfl) (by as_aux_lemma => kernel_rfl) (fun _ _ _ h => h) (Or.inl ⟨by as_aux_lemma => kernel_rfl, ?_⟩) (by assumption) ?_
    · intro w hSw
      try dsimp only at hSw
      go_simp
      try with_reducible rfl
      try simp
    try simp only [Act.put, List.setIfInBounds_toArray, List.set_cons_zero, List.set_cons_succ]
    refine wpAnyH_take (i := 42) (oi := { dst := some 205, op := _, type := _, pos := _, after := _, guard := _ }) (v := ?_) rfl (by as_aux_lemma => kernel_rfl) (by as_aux_lemma => kernel_rfl) (by as_aux_lemma => kernel_rfl) (fun _ _ _ h => h) (Or.inl ⟨by as_aux_lemma => kernel_rfl, ?_⟩) (by assumption) ?_
    rotate_left
    · intro w hSw
      try dsimp only at hSw
      go_simp
      try with_reducible rfl
    try simp only [Act.put, List.setIfInBounds_toArray, List.set_cons_zero, List.set_cons_succ]
    refine wpAnyH_take (i := 43) (oi := { dst := some 206, op := _, type := _, pos := _, after := _, guard := _ }) (v := ?_) rfl (by as_aux_lemma => kernel_rfl) (by as_aux_lemma => kernel_rfl) (by as_aux_lemma => kernel_rfl) (fun _ _ _ h => h) (Or.inl ⟨by as_aux_lemma => kernel_rfl, ?_⟩) (by assumption) ?_
    rotate_left
    · intro w hSw
      try dsimp only at hSw
      go_simp
      try with_reducible rfl
    try simp only [Act.put, List.setIfInBounds_toArray, List.set_cons_zero, List.set_cons_succ]
    refine wpAnyH_take (i := 44) (oi := { dst := some 207, op := _, type := _, pos := _, after := _, guard := _ }) (v := (Value.bool false)) rfl (by as_aux_lemma => kernel_rfl) (by as_aux_lemma => kernel_rfl) (by as_aux_lemma => kernel_rfl) (fun _ _ _ h => h) (Or.inl ⟨by as_aux_lemma => kernel_rfl, ?_⟩) (by assumption) ?_
    · intro w hSw
      try dsimp only at hSw
      go_simp
      try with_reducible rfl
      try simp
    try simp only [Act.put, List.setIfInBounds_toArray, List.set_cons_zero, List.set_cons_succ]
    refine wpAnyH_take (i := 45) (oi := { dst := some 208, op := _, type := _, pos := _, after := _, guard := _ }) (v := (Value.bool false)) rfl (by as_aux_lemma => kernel_rfl) (by as_aux_lemma => kernel_rfl) (by as_aux_lemma => kernel_rfl) (fun _ _ _ h => h) (Or.inl ⟨by as_aux_lemma => kernel_rfl, ?_⟩) (by assumption) ?_
    · intro w hSw
      try dsimp only at hSw
      go_simp
      try with_reducible rfl
      try simp
    try simp only [Act.put, List.setIfInBounds_toArray, List.set_cons_zero, List.set_cons_succ]
    refine wpAnyH_take (i := 46) (oi := { dst := some 209, op := _, type := _, pos := _, after := _, guard := _ }) (v := (Value.bool false)) rfl (by as_aux_lemma => kernel_rfl) (by as_aux_lemma => kernel_rfl) (by as_aux_lemma => kernel_rfl) (fun _ _ _ h => h) (Or.inl ⟨by as_aux_lemma => kernel_rfl, ?_⟩) (by assumption) ?_
    · intro w hSw
      try dsimp only at hSw
      go_simp
      try with_reducible rfl
      try simp
    try simp only [Act.put, List.setIfInBounds_toArray, List.set_cons_zero, List.set_cons_succ]
    refine wpAnyH_take (i := 47) (oi := { dst := some 210, op := _, type := _, pos := _, after := _, guard := _ }) (v := ?_) rfl (by as_aux_lemma => kernel_rfl) (by as_aux_lemma => kernel_rfl) (by as_aux_lemma => kernel_rfl) (fun _ _ _ h => h) (Or.inl ⟨by as_aux_lemma => kernel_rfl, ?_⟩) (by assumption) ?_
    rotate_left
    · intro w hSw
      try dsimp only at hSw
      go_simp
      try with_reducible rfl
    try simp only [Act.put, List.setIfInBounds_toArray, List.set_cons_zero, List.set_cons_succ]
    refine wpAnyH_take (i := 48) (oi := { dst := some 211, op := _, type := _, pos := _, after := _, guard := _ }) (v := ?_) rfl (by as_aux_lemma => kernel_rfl) (by as_aux_lemma => kernel_rfl) (by as_aux_lemma => kernel_rfl) (fun _ _ _ h => h) (Or.inl ⟨by as_aux_lemma => kernel_rfl, ?_⟩) (by assumption) ?_
    rotate_left
    · intro w hSw
      try dsimp only at hSw
      go_simp
      try with_reducible rfl
    try simp only [Act.put, List.setIfInBounds_toArray, List.set_cons_zero, List.set_cons_succ]
    refine wpAnyH_take (i := 49) (oi := { dst := some 212, op := _, type := _, pos := _, after := _, guard := _ }) (v := (Value.bool false)) rfl (by as_aux_lemma => kernel_rfl) (by as_aux_lemma => kernel_rfl) (by as_aux_lemma => kernel_rfl) (fun _ _ _ h => h) (Or.inl ⟨by as_aux_lemma => kernel_rfl, ?_⟩) (by assumption) ?_
    · intro w hSw
      try dsimp only at hSw
      go_simp
      try with_reducible rfl
      try simp
    try simp only [Act.put, List.setIfInBounds_toArray, List.set_cons_zero, List.set_cons_succ]
    refine wpAnyH_take (i := 50) (oi := { dst := some 213, op := _, type := _, pos := _, after := _, guard := _ }) (v := (Value.bool false)) rfl (by as_aux_lemma => kernel_rfl) (by as_aux_lemma => kernel_rfl) (by as_aux_lemma => kernel_rfl) (fun _ _ _ h => h) (Or.inl ⟨by as_aux_lemma => kernel_rfl, ?_⟩) (by assumption) ?_
    · intro w hSw
      try dsimp only at hSw
      go_simp
      try with_reducible rfl
      try simp
    try simp only [Act.put, List.setIfInBounds_toArray, List.set_cons_zero, List.set_cons_succ]
    refine wpAnyH_take (i := 51) (oi := { dst := some 214, op := _, type := _, pos := _, after := _, guard := _ }) (v := (Value.bool false)) rfl (by as_aux_lemma => kernel_rfl) (by as_aux_lemma => kernel_rfl) (by as_aux_lemma => kernel_rfl) (fun _ _ _ h => h) (Or.inl ⟨by as_aux_lemma => kernel_rfl, ?_⟩) (by assumption) ?_
    · intro w hSw
      try dsimp only at hSw
      go_simp
      try with_reducible rfl
      try simp
    try simp only [Act.put, List.setIfInBounds_toArray, List.set_cons_zero, List.set_cons_succ]
    refine wpAnyH_take (i := 52) (oi := { dst := some 215, op := _, type := _, pos := _, after := _, guard := _ }) (v := ?_) rfl (by as_aux_lemma => kernel_rfl) (by as_aux_lemma => kernel_rfl) (by as_aux_lemma => kernel_rfl) (fun _ _ _ h => h) (Or.inl ⟨by as_aux_lemma => kernel_rfl, ?_⟩) (by assumption) ?_
    rotate_left
    · intro w hSw
      try dsimp only at hSw
      go_simp
      try with_reducible rfl
    try simp only [Act.put, List.setIfInBounds_toArray, List.set_cons_zero, List.set_cons_succ]
    refine wpAnyH_take (i := 53) (oi := { dst := some 216, op := _, type := _, pos := _, after := _, guard := _ }) (v := ?_) rfl (by as_aux_lemma => kernel_rfl) (by as_aux_lemma => kernel_rfl) (by as_aux_lemma => kernel_rfl) (fun _ _ _ h => h) (Or.inl ⟨by as_aux_lemma => kernel_rfl, ?_⟩) (by assumption) ?_
    rotate_left
    · intro w hSw
      try dsimp only at hSw
      go_simp
      try with_reducible rfl
    try simp only [Act.put, List.setIfInBounds_toArray, List.set_cons_zero, List.set_cons_succ]
    refine wpAnyH_take (i := 54) (oi := { dst := some 217, op := _, type := _, pos := _, after := _, guard := _ }) (v := (Value.bool false)) rfl (by as_aux_lemma => kernel_rfl) (by as_aux_lemma => kernel_rfl) (by as_aux_lemma => kernel_rfl) (fun _ _ _ h => h) (Or.inl ⟨by as_aux_lemma => kernel_rfl, ?_⟩) (by assumption) ?_
    · intro w hSw
      try dsimp only at hSw
      go_simp
      try with_reducible rfl
      try simp
    try simp only [Act.put, List.setIfInBounds_toArray, List.set_cons_zero, List.set_cons_succ]
    refine wpAnyH_take (i := 55) (oi := { dst := some 218, op := _, type := _, pos := _, after := _, guard := _ }) (v := (Value.bool false)) rfl (by as_aux_lemma => kernel_rfl) (by as_aux_lemma => kernel_rfl) (by as_aux_lemma => kernel_rfl) (fun _ _ _ h => h) (Or.inl ⟨by as_aux_lemma => kernel_rfl, ?_⟩) (by assumption) ?_
    · intro w hSw
      try dsimp only at hSw
      go_simp
      try with_reducible rfl
      try simp
    try simp only [Act.put, List.setIfInBounds_toArray, List.set_cons_zero, List.set_cons_succ]
    refine wpAnyH_take (i := 56) (oi := { dst := some 219, op := _, type := _, pos := _, after := _, guard := _ }) (v := (Value.bool false)) rfl (by as_aux_lemma => kernel_rfl) (by as_aux_lemma => kernel_rfl) (by as_aux_lemma => kernel_rfl) (fun _ _ _ h => h) (Or.inl ⟨by as_aux_lemma => kernel_rfl, ?_⟩) (by assumption) ?_
    · intro w hSw
      try dsimp only at hSw
      go_simp
      try with_reducible rfl
      try simp
    try simp only [Act.put, List.setIfInBounds_toArray, List.set_cons_zero, List.set_cons_succ]
    refine wpAnyH_take (i := 57) (oi := { dst := some 220, op := _, type := _, pos := _, after := _, guard := _ }) (v := ?_) rfl (by as_aux_lemma => kernel_rfl) (by as_aux_lemma => kernel_rfl) (by as_aux_lemma => kernel_rfl) (fun _ _ _ h => h) (Or.inl ⟨by as_aux_lemma => kernel_rfl, ?_⟩) (by assumption) ?_
    rotate_left
    · intro w hSw
      try dsimp only at hSw
      go_simp
      try with_reducible rfl
    try simp only [Act.put, List.setIfInBounds_toArray, List.set_cons_zero, List.set_cons_succ]
    refine wpAnyH_take (i := 58) (oi := { dst := some 221, op := _, type := _, pos := _, after := _, guard := _ }) (v := ?_) rfl (by as_aux_lemma => kernel_rfl) (by as_aux_lemma => kernel_rfl) (by as_aux_lemma => kernel_rfl) (fun _ _ _ h => h) (Or.inl ⟨by as_aux_lemma => kernel_rfl, ?_⟩) (by assumption) ?_
    rotate_left
    · intro w hSw
      try dsimp only at hSw
      go_simp
      try with_reducible rfl
    try simp only [Act.put, List.setIfInBounds_toArray, List.set_cons_zero, List.set_cons_succ]
    refine wpAnyH_take (i := 59) (oi := { dst := some 222, op := _, type := _, pos := _, after := _, guard := _ }) (v := (Value.bool false)) rfl (by as_aux_lemma => kernel_rfl) (by as_aux_lemma => kernel_rfl) (by as_aux_lemma => kernel_rfl) (fun _ _ _ h => h) (Or.inl ⟨by as_aux_lemma => kernel_rfl, ?_⟩) (by assumption) ?_
    · intro w hSw
      try dsimp only at hSw
      go_simp
      try with_reducible rfl
      try simp
    try simp only [Act.put, List.setIfInBounds_toArray, List.set_cons_zero, List.set_cons_succ]
    refine wpAnyH_take (i := 60) (oi := { dst := some 223, op := _, type := _, pos := _, after := _, guard := _ }) (v := (Value.bool false)) rfl (by as_aux_lemma => kernel_rfl) (by as_aux_lemma => kernel_rfl) (by as_aux_lemma => kernel_rfl) (fun _ _ _ h => h) (Or.inl ⟨by as_aux_lemma => kernel_rfl, ?_⟩) (by assumption) ?_
    · intro w hSw
      try dsimp only at hSw
      go_simp
      try with_reducible rfl
      try simp
    try simp only [Act.put, List.setIfInBounds_toArray, List.set_cons_zero, List.set_cons_succ]
    refine wpAnyH_take (i := 61) (oi := { dst := some 224, op := _, type := _, pos := _, after := _, guard := _ }) (v := (Value.bool false)) rfl (by as_aux_lemma => kernel_rfl) (by as_aux_lemma => kernel_rfl) (by as_aux_lemma => kernel_rfl) (fun _ _ _ h => h) (Or.inl ⟨by as_aux_lemma => kernel_rfl, ?_⟩) (by assumption) ?_
    · intro w hSw
      try dsimp only at hSw
      go_simp
      try with_reducible rfl
      try simp
    try simp only [Act.put, List.setIfInBounds_toArray, List.set_cons_zero, List.set_cons_succ]
    refine wpAnyH_take (i := 62) (oi := { dst := some 225, op := _, type := _, pos := _, after := _, guard := _ }) (v := ?_) rfl (by as_aux_lemma => kernel_rfl) (by as_aux_lemma => kernel_rfl) (by as_aux_lemma => kernel_rfl) (fun _ _ _ h => h) (Or.inl ⟨by as_aux_lemma => kernel_rfl, ?_⟩) (by assumption) ?_
    rotate_left
    · intro w hSw
      try dsimp only at hSw
      have x_u0 := bl_cell hSw.1 u0
      have x_u1 := bl_cell hSw.1 u1
      go_simp
      try with_reducible rfl
    try simp only [Act.put, List.setIfInBounds_toArray, List.set_cons_zero, List.set_cons_succ]
    refine wpAnyH_take (i := 63) (oi := { dst := some 226, op := _, type := _, pos := _, after := _, guard := _ }) (v := ?_) rfl (by as_aux_lemma => kernel_rfl) (by as_aux_lemma => kernel_rfl) (by as_aux_lemma => kernel_rfl) (fun _ _ _ h => h) (Or.inl ⟨by as_aux_lemma => kernel_rfl, ?_⟩) (by assumption) ?_
    rotate_left
    · intro w hSw
      try dsimp only at hSw
      have x_v0 := bl_cell hSw.1 v0
      have x_v1 := bl_cell hSw.1 v1
      go_simp
      try with_reducible rfl
    try simp only [Act.put, List.setIfInBounds_toArray, List.set_cons_zero, List.set_cons_succ]
    refine wpAnyH_take (i := 64) (oi := { dst := some 227, op := _, type := _, pos := _, after := _, guard := _ }) (v := (Value.bool false)) rfl (by as_aux_lemma => kernel_rfl) (by as_aux_lemma => kernel_rfl) (by as_aux_lemma => kernel_rfl) (fun _ _ _ h => h) (Or.inl ⟨by as_aux_lemma => kernel_rfl, ?_⟩) (by assumption) ?_
    · intro w hSw
      try dsimp only at hSw
      first | exact hfq _ _ _ | (go_simp; try with_reducible rfl)
    try simp only [Act.put, List.setIfInBounds_toArray, List.set_cons_zero, List.set_cons_succ]
    refine wpAnyH_take (i := 65) (oi := { dst := some 228, op := _, type := _, pos := _, after := _, guard := _ }) (v := (Value.bool false)) rfl (by as_aux_lemma => kernel_rfl) (by as_aux_lemma => kernel_rfl) (by as_aux_lemma => kernel_rfl) (fun _ _ _ h => h) (Or.inl ⟨by as_aux_lemma => kernel_rfl, ?_⟩) (by assumption) ?_
    · intro w hSw
      try dsimp only at hSw
      go_simp
      try with_reducible rfl
      try simp
    try simp only [Act.put, List.setIfInBounds_toArray, List.set_cons_zero, List.set_cons_succ]
    refine wpAnyH_take (i := 66) (oi := { dst := some 229, op := _, type := _, pos := _, after := _, guard := _ }) (v := (Value.bool false)) rfl (by as_aux_lemma => kernel_rfl) (by as_aux_lemma => kernel_rfl) (by as_aux_lemma => kernel_rfl) (fun _ _ _ h => h) (Or.inl ⟨by as_aux_lemma => kernel_rfl, ?_⟩) (by assumption) ?_
    · intro w hSw
      try dsimp only at hSw
      go_simp
      try with_reducible rfl
      try simp
    try simp only [Act.put, List.setIfInBounds_toArray, List.set_cons_zero, List.set_cons_succ]
    refine wpAnyH_take (i := 67) (oi := { dst := some 230, op := _, type := _, pos := _, after := _, guard := _ }) (v := ?_) rfl (by as_aux_lemma => kernel_rfl) (by as_aux_lemma => kernel_rfl) (by as_aux_lemma => kernel_rfl) (fun _ _ _ h => h) (Or.inl ⟨by as_aux_lemma => kernel_rfl, ?_⟩) (by assumption) ?_
    rotate_left
    · intro w hSw
      try dsimp only at hSw
      go_simp
      try with_reducible rfl
    try simp only [Act.put, List.setIfInBounds_toArray, List.set_cons_zero, List.set_cons_succ]
    refine wpAnyH_take (i := 68) (oi := { dst := some 231, op := _, type := _, pos := _, after := _, guard := _ }) (v := ?_) rfl (by as_aux_lemma => kernel_rfl) (by as_aux_lemma => kernel_rfl) (by as_aux_lemma => kernel_rfl) (fun _ _ _ h => h) (Or.inl ⟨by as_aux_lemma => kernel_rfl, ?_⟩) (by assumption) ?_
    rotate_left
    · intro w hSw
      try dsimp only at hSw
      go_simp
      try with_reducible rfl
    try simp only [Act.put, List.setIfInBounds_toArray, List.set_cons_zero, List.set_cons_succ]
    refine wpAnyH_take (i := 69) (oi := { dst := some 232, op := _, type := _, pos := _, after := _, guard := _ }) (v := (Value.bool false)) rfl (by as_aux_lemma => kernel_rfl) (by as_aux_lemma => kernel_rfl) (by as_aux_lemma => kernel_rfl) (fun _ _ _ h => h) (Or.inl ⟨by as_aux_lemma => kernel_rfl, ?_⟩) (by assumption) ?_
    · intro w hSw
      try dsimp only at hSw
      go_simp
      try with_reducible rfl
      try simp
    try simp only [Act.put, List.setIfInBounds_toArray, List.set_cons_zero, List.set_cons_succ]
    refine wpAnyH_take (i := 70) (oi := { dst := some 233, op := _, type := _, pos := _, after := _, guard := _ }) (v := (Value.bool false)) rfl (by as_aux_lemma => kernel_rfl) (by as_aux_lemma => kernel_rfl) (by as_aux_lemma => kernel_rfl) (fun _ _ _ h => h) (Or.inl ⟨by as_aux_lemma => kernel_rfl, ?_⟩) (by assumption) ?_
    · intro w hSw
      try dsimp only at hSw
      go_simp
      try with_reducible rfl
      try simp
    try simp only [Act.put, List.setIfInBounds_toArray, List.set_cons_zero, List.set_cons_succ]
    refine wpAnyH_take (i := 71) (oi := { dst := some 234, op := _, type := _, pos := _, after := _, guard := _ }) (v := (Value.bool false)) rfl (by as_aux_lemma => kernel_rfl) (by as_aux_lemma => kernel_rfl) (by as_aux_lemma => kernel_rfl) (fun _ _ _ h => h) (Or.inl ⟨by as_aux_lemma => kernel_rfl, ?_⟩) (by assumption) ?_
    · intro w hSw
      try dsimp only at hSw
      go_simp
      try with_reducible rfl
      try simp
    try simp only [Act.put, List.setIfInBounds_toArray, List.set_cons_zero, List.set_cons_succ]
    refine wpAnyH_take (i := 72) (oi := { dst := some 235, op := _, type := _, pos := _, after := _, guard := _ }) (v := ?_) rfl (by as_aux_lemma => kernel_rfl) (by as_aux_lemma => kernel_rfl) (by as_aux_lemma => kernel_rfl) (fun _ _ _ h => h) (Or.inl ⟨by as_aux_lemma => kernel_rfl, ?_⟩) (by assumption) ?_
    rotate_left
    · intro w hSw
      try dsimp only at hSw
      go_simp
      try with_reducible rfl
    try simp only [Act.put, List.setIfInBounds_toArray, List.set_cons_zero, List.set_cons_succ]
    refine wpAnyH_take (i := 73) (oi := { dst := some 236, op := _, type := _, pos := _, after := _, guard := _ }) (v := ?_) rfl (by as_aux_lemma => kernel_rfl) (by as_aux_lemma => kernel_rfl) (by as_aux_lemma => kernel_rfl) (fun _ _ _ h => h) (Or.inl ⟨by as_aux_lemma => kernel_rfl, ?_⟩) (by assumption) ?_
    rotate_left
    · intro w hSw
      try dsimp only at hSw
      go_simp
      try with_reducible rfl
    try simp only [Act.put, List.setIfInBounds_toArray, List.set_cons_zero, List.set_cons_succ]
    refine wpAnyH_take (i := 74) (oi := { dst := some 237, op := _, type := _, pos := _, after := _, guard := _ }) (v := (Value.bool false)) rfl (by as_aux_lemma => kernel_rfl) (by as_aux_lemma => kernel_rfl) (by as_aux_lemma => kernel_rfl) (fun _ _ _ h => h) (Or.inl ⟨by as_aux_lemma => kernel_rfl, ?_⟩) (by assumption) ?_
    · intro w hSw
      try dsimp only at hSw
      go_simp
      try with_reducible rfl
      try simp
    try simp only [Act.put, List.setIfInBounds_toArray, List.set_cons_zero, List.set_cons_succ]
    refine wpAnyH_take (i := 75) (oi := { dst := some 238, op := _, type := _, pos := _, after := _, guard := _ }) (v := (Value.bool false)) rfl (by as_aux_lemma => kernel_rfl) (by as_aux_lemma => kernel_rfl) (by as_aux_lemma => kernel_rfl) (fun _ _ _ h => h) (Or.inl ⟨by as_aux_lemma => kernel_rfl, ?_⟩) (by assumption) ?_
    · intro w hSw
      try dsimp only at hSw
      go_simp
      try with_reducible rfl
      try simp
    try simp only [Act.put, List.setIfInBounds_toArray, List.set_cons_zero, List.set_cons_succ]
    refine wpAnyH_take (i := 76) (oi := { dst := some 239, op := _, type := _, pos := _, after := _, guard := _ }) (v := (Value.bool false)) rfl (by as_aux_lemma => kernel_rfl) (by as_aux_lemma => kernel_rfl) (by as_aux_lemma => kernel_rfl) (fun _ _ _ h => h) (Or.inl ⟨by as_aux_lemma => kernel_rfl, ?_⟩) (by assumption) ?_
    · intro w hSw
      try dsimp only at hSw
      go_simp
      try with_reducible rfl
      try simp
    try simp only [Act.put, List.setIfInBounds_toArray, List.set_cons_zero, List.set_cons_succ]
    refine wpAnyH_take (i := 77) (oi := { dst := some 240, op := _, type := _, pos := _, after := _, guard := _ }) (v := ?_) rfl (by as_aux_lemma => kernel_rfl) (by as_aux_lemma => kernel_rfl) (by as_aux_lemma => kernel_rfl) (fun _ _ _ h => h) (Or.inl ⟨by as_aux_lemma => kernel_rfl, ?_⟩) (by assumption) ?_
    rotate_left
    · intro w hSw
      try dsimp only at hSw
      go_simp
      try with_reducible rfl
    try simp only [Act.put, List.setIfInBounds_toArray, List.set_cons_zero, List.set_cons_succ]
    refine wpAnyH_take (i := 78) (oi := { dst := some 241, op := _, type := _, pos := _, after := _, guard := _ }) (v := ?_) rfl (by as_aux_lemma => kernel_rfl) (by as_aux_lemma => kernel_rfl) (by as_aux_lemma => kernel_rfl) (fun _ _ _ h => h) (Or.inl ⟨by as_aux_lemma => kernel_rfl, ?_⟩) (by assumption) ?_
    rotate_left
    · intro w hSw
      try dsimp only at hSw
      have x_k1 := bl_cell hSw.1 k1
      go_simp
      try with_reducible rfl
    try simp only [Act.put, List.setIfInBounds_toArray, List.set_cons_zero, List.set_cons_succ]
    refine wpAnyH_take (i := 80) (oi := { dst := some 243, op := _, type := _, pos := _, after := _, guard := _ }) (v := ?_) rfl (by as_aux_lemma => kernel_rfl) (by as_aux_lemma => kernel_rfl) (by as_aux_lemma => kernel_rfl) (fun _ _ _ h => h) (Or.inl ⟨by as_aux_lemma => kernel_rfl, ?_⟩) (by assumption) ?_
    rotate_left
    · intro w hSw
      try dsimp only at hSw
      go_simp
      try with_reducible rfl
    try simp only [Act.put, List.setIfInBounds_toArray, List.set_cons_zero, List.set_cons_succ]
    refine wpAnyH_take (i := 81) (oi := { dst := some 244, op := _, type := _, pos := _, after := _, guard := _ }) (v := ?_) rfl (by as_aux_lemma => kernel_rfl) (by as_aux_lemma => kernel_rfl) (by as_aux_lemma => kernel_rfl) (fun _ _ _ h => h) (Or.inl ⟨by as_aux_lemma => kernel_rfl, ?_⟩) (by assumption) ?_
    rotate_left
    · intro w hSw
      try dsimp only at hSw
      have x_k1 := bl_cell hSw.1 k1
      go_simp
      try with_reducible rfl
    try simp only [Act.put, List.setIfInBounds_toArray, List.set_cons_zero, List.set_cons_succ]
    refine wpAnyH_ready (rs := [79]) (by as_aux_lemma => kernel_rfl) (by simp) ?_
    refine AllReadyH.cons (o := { dst := some 242, op := _, type := _, pos := _, after := _, guard := _ }) rfl (fun K hK => ?_) AllReadyH.nil
    go_simp
    (try dsimp only at hHeld); go_split_ands
    refine (HX1.out _ (hox.arr.below (by assumption)) (hop.arr.below (by assumption))).mono ?_
    rintro e W9 ⟨rfl, hb9⟩
    go_wp2_with fail
    refine hK.out _ _ ?_ (fun hHeld => ?_)
    · (try dsimp only); go_split_ands; exact ⟨bl_trans (by assumption) hb9, trivial⟩
    clear hK K
    try simp only [Act.put, List.setIfInBounds_toArray, List.set_cons_zero, List.set_cons_succ]
    refine wpAnyH_ready (rs := [82]) (by as_aux_lemma => kernel_rfl) (by simp) ?_
    refine AllReadyH.cons (o := { dst := some 245, op := _, type := _, pos := _, after := _, guard := _ }) rfl (fun K hK => ?_) AllReadyH.nil
    go_simp
    (try dsimp only at hHeld); go_split_ands
    refine (HX2.out _ (hox.arr.below (by assumption)) (hop.arr.below (by assumption))).mono ?_
    rintro e W9 ⟨rfl, hb9⟩
    go_wp2_with fail
    refine hK.out _ _ ?_ (fun hHeld => ?_)
    · (try dsimp only); go_split_ands; exact ⟨bl_trans (by assumption) hb9, trivial⟩
    clear hK K
    try simp only [Act.put, List.setIfInBounds_toArray, List.set_cons_zero, List.set_cons_succ]
    refine wpAnyH_take (i := 83) (oi := { dst := some 246, op := _, type := _, pos := _, after := _, guard := _ }) (v := (Value.bool false)) rfl (by as_aux_lemma => kernel_rfl) (by as_aux_lemma => kernel_rfl) (by as_aux_lemma => kernel_rfl) (fun _ _ _ h => h) (Or.inl ⟨by as_aux_lemma => kernel_rfl, ?_⟩) (by assumption) ?_
    · intro w hSw
      try dsimp only at hSw
      go_simp
      try with_reducible rfl
      try simp
    try simp only [Act.put, List.setIfInBounds_toArray, List.set_cons_zero, List.set_cons_succ]
    refine wpAnyH_take (i := 84) (oi := { dst := some 247, op := _, type := _, pos := _, after := _, guard := _ }) (v := (Value.bool false)) rfl (by as_aux_lemma => kernel_rfl) (by as_aux_lemma => kernel_rfl) (by as_aux_lemma => kernel_rfl) (fun _ _ _ h => h) (Or.inl ⟨by as_aux_lemma => kernel_rfl, ?_⟩) (by assumption) ?_
    · intro w hSw
      try dsimp only at hSw
      go_simp
      try with_reducible rfl
      try simp
    try simp only [Act.put, List.setIfInBounds_toArray, List.set_cons_zero, List.set_cons_succ]
    refine wpAnyH_take (i := 85) (oi := { dst := some 248, op := _, type := _, pos := _, after := _, guard := _ }) (v := (Value.bool false)) rfl (by as_aux_lemma => kernel_rfl) (by as_aux_lemma => kernel_rfl) (by as_aux_lemma => kernel_rfl) (fun _ _ _ h => h) (Or.inl ⟨by as_aux_lemma => kernel_rfl, ?_⟩) (by assumption) ?_
    · intro w hSw
      try dsimp only at hSw
      go_simp
      try with_reducible rfl
      try simp
    try simp only [Act.put, List.setIfInBounds_toArray, List.set_cons_zero, List.set_cons_succ]
    refine wpAnyH_take (i := 86) (oi := { dst := some 249, op := _, type := _, pos := _, after := _, guard := _ }) (v := ?_) rfl (by as_aux_lemma => kernel_rfl) (by as_aux_lemma => kernel_rfl) (by as_aux_lemma => kernel_rfl) (fun _ _ _ h => h) (Or.inl ⟨by as_aux_lemma => kernel_rfl, ?_⟩) (by assumption) ?_
    rotate_left
    · intro w hSw
      try dsimp only at hSw
      go_simp
      try with_reducible rfl
    try simp only [Act.put, List.setIfInBounds_toArray, List.set_cons_zero, List.set_cons_succ]
    refine wpAnyH_take (i := 87) (oi := { dst := some 250, op := _, type := _, pos := _, after := _, guard := _ }) (v := ?_) rfl (by as_aux_lemma => kernel_rfl) (by as_aux_lemma => kernel_rfl) (by as_aux_lemma => kernel_rfl) (fun _ _ _ h => h) (Or.inl ⟨by as_aux_lemma => kernel_rfl, ?_⟩) (by assumption) ?_
    rotate_left
    · intro w hSw
      try dsimp only at hSw
      have x_k1 := bl_cell hSw.1 k1
      go_simp
      try with_reducible rfl
    try simp only [Act.put, List.setIfInBounds_toArray, List.set_cons_zero, List.set_cons_succ]
    refine wpAnyH_take (i := 89) (oi := { dst := some 252, op := _, type := _, pos := _, after := _, guard := _ }) (v := ?_) rfl (by as_aux_lemma => kernel_rfl) (by as_aux_lemma => kernel_rfl) (by as_aux_lemma => kernel_rfl) (fun _ _ _ h => h) (Or.inl ⟨by as_aux_lemma => kernel_rfl, ?_⟩) (by assumption) ?_
    rotate_left
    · intro w hSw
      try dsimp only at hSw
      go_simp
      try with_reducible rfl
    try simp only [Act.put, List.setIfInBounds_toArray, List.set_cons_zero, List.set_cons_succ]
    refine wpAnyH_take (i := 90) (oi := { dst := some 253, op := _, type := _, pos := _, after := _, guard := _ }) (v := ?_) rfl (by as_aux_lemma => kernel_rfl) (by as_aux_lemma => kernel_rfl) (by as_aux_lemma => kernel_rfl) (fun _ _ _ h => h) (Or.inl ⟨by as_aux_lemma => kernel_rfl, ?_⟩) (by assumption) ?_
    rotate_left
    · intro w hSw
      try dsimp only at hSw
      have x_k1 := bl_cell hSw.1 k1
      go_simp
      try with_reducible rfl
    try simp only [Act.put, List.setIfInBounds_toArray, List.set_cons_zero, List.set_cons_succ]
    refine wpAnyH_ready (rs := [88]) (by as_aux_lemma => kernel_rfl) (by simp) ?_
    refine AllReadyH.cons (o := { dst := some 251, op := _, type := _, pos := _, after := _, guard := _ }) rfl (fun K hK => ?_) AllReadyH.nil
    go_simp
    (try dsimp only at hHeld); go_split_ands
    refine (HV1.out _ (hox.arr.below (by assumption)) (hop.arr.below (by assumption))).mono ?_
    rintro e W9 ⟨rfl, hb9⟩
    go_wp2_with fail
    refine hK.out _ _ ?_ (fun hHeld => ?_)
    · (try dsimp only); go_split_ands; exact ⟨bl_trans (by assumption) hb9, trivial⟩
    clear hK K
    try simp only [Act.put, List.setIfInBounds_toArray, List.set_cons_zero, List.set_cons_succ]
    refine wpAnyH_ready (rs := [91]) (by as_aux_lemma => kernel_rfl) (by simp) ?_
    refine AllReadyH.cons (o := { dst := some 254, op := _, type := _, pos := _, after := _, guard := _ }) rfl (fun K hK => ?_) AllReadyH.nil
    go_simp
    (try dsimp only at hHeld); go_split_ands
    refine (HV2.out _ (hox.arr.below (by assumption)) (hop.arr.below (by assumption))).mono ?_
    rintro e W9 ⟨rfl, hb9⟩
    go_wp2_with fail
    refine hK.out _ _ ?_ (fun hHeld => ?_)
    · (try dsimp only); go_split_ands; exact ⟨bl_trans (by assumption) hb9, trivial⟩
    clear hK K
    try simp only [Act.put, List.setIfInBounds_toArray, List.set_cons_zero, List.set_cons_succ]
    refine wpAnyH_take (i := 92) (oi := { dst := some 255, op := _, type := _, pos := _, after := _, guard := _ }) (v := (Value.bool false)) rfl (by as_aux_lemma => kernel_rfl) (by as_aux_lemma => kernel_rfl) (by as_aux_lemma => kernel_rfl) (fun _ _ _ h => h) (Or.inl ⟨by as_aux_lemma => kernel_rfl, ?_⟩) (by assumption) ?_
    · intro w hSw
      try dsimp only at hSw
      go_simp
      try with_reducible rfl
      try simp
    try simp only [Act.put, List.setIfInBounds_toArray, List.set_cons_zero, List.set_cons_succ]
    refine wpAnyH_take (i := 93) (oi := { dst := some 256, op := _, type := _, pos := _, after := _, guard := _ }) (v := (Value.bool false)) rfl (by as_aux_lemma => kernel_rfl) (by as_aux_lemma => kernel_rfl) (by as_aux_lemma => kernel_rfl) (fun _ _ _ h => h) (Or.inl ⟨by as_aux_lemma => kernel_rfl, ?_⟩) (by assumption) ?_
    · intro w hSw
      try dsimp only at hSw
      go_simp
      try with_reducible rfl
      try simp
    try simp only [Act.put, List.setIfInBounds_toArray, List.set_cons_zero, List.set_cons_succ]
    refine wpAnyH_take (i := 94) (oi := { dst := some 257, op := _, type := _, pos := _, after := _, guard := _ }) (v := (Value.bool false)) rfl (by as_aux_lemma => kernel_rfl) (by as_aux_lemma => kernel_rfl) (by as_aux_lemma => kernel_rfl) (fun _ _ _ h => h) (Or.inl ⟨by as_aux_lemma => kernel_rfl, ?_⟩) (by assumption) ?_
    · intro w hSw
      try dsimp only at hSw
      go_simp
      try with_reducible rfl
      try simp
    try simp only [Act.put, List.setIfInBounds_toArray, List.set_cons_zero, List.set_cons_succ]
    refine wpAnyH_take (i := 95) (oi := { dst := some 258, op := _, type := _, pos := _, after := _, guard := _ }) (v := ?_) rfl (by as_aux_lemma => kernel_rfl) (by as_aux_lemma => kernel_rfl) (by as_aux_lemma => kernel_rfl) (fun _ _ _ h => h) (Or.inl ⟨by as_aux_lemma => kernel_rfl, ?_⟩) (by assumption) ?_
    rotate_left
    · intro w hSw
      try dsimp only at hSw
      go_simp
      try with_reducible rfl
    try simp only [Act.put, List.setIfInBounds_toArray, List.set_cons_zero, List.set_cons_succ]
    refine wpAnyH_take (i := 97) (oi := { dst := some 260, op := _, type := _, pos := _, after := _, guard := _ }) (v := ?_) rfl (by as_aux_lemma => kernel_rfl) (by as_aux_lemma => kernel_rfl) (by as_aux_lemma => kernel_rfl) (fun _ _ _ h => h) (Or.inl ⟨by as_aux_lemma => kernel_rfl, ?_⟩) (by assumption) ?_
    rotate_left
    · intro w hSw
      try dsimp only at hSw
      go_simp
      try with_reducible rfl
    try simp only [Act.put, List.setIfInBounds_toArray, List.set_cons_zero, List.set_cons_succ]
    refine wpAnyH_ready (rs := [96]) (by as_aux_lemma => kernel_rfl) (by simp) ?_
    refine AllReadyH.cons (o := { dst := some 259, op := _, type := _, pos := _, after := _, guard := _ }) rfl (fun K hK => ?_) AllReadyH.nil
    go_simp
    (try dsimp only at hHeld); go_split_ands
    refine (HV3.out _ (hox.arr.below (by assumption))).mono ?_
    rintro e W9 ⟨rfl, hb9⟩
    go_wp2_with fail
    refine hK.out _ _ ?_ (fun hHeld => ?_)
    · (try dsimp only); go_split_ands; exact ⟨bl_trans (by assumption) hb9, trivial⟩
    clear hK K
    try simp only [Act.put, List.setIfInBounds_toArray, List.set_cons_zero, List.set_cons_succ]
    refine wpAnyH_ready (rs := [98]) (by as_aux_lemma => kernel_rfl) (by simp) ?_
    refine AllReadyH.cons (o := { dst := some 261, op := _, type := _, pos := _, after := _, guard := _ }) rfl (fun K hK => ?_) AllReadyH.nil
    go_simp
    (try dsimp only at hHeld); go_split_ands
    refine (HV4.out _ (hox.arr.below (by assumption))).mono ?_
    rintro e W10 ⟨rfl, hb9⟩
    go_wp2_with fail
    refine hK.out _ _ ?_ (fun hHeld => ?_)
    · (try dsimp only); go_split_ands; exact ⟨bl_trans (by assumption) hb9, trivial⟩
    clear hK K
    try simp only [Act.put, List.setIfInBounds_toArray, List.set_cons_zero, List.set_cons_succ]
    refine wpAnyH_take (i := 99) (oi := { dst := some 262, op := _, type := _, pos := _, after := _, guard := _ }) (v := (Value.bool false)) rfl (by as_aux_lemma => kernel_rfl) (by as_aux_lemma => kernel_rfl) (by as_aux_lemma => kernel_rfl) (fun _ _ _ h => h) (Or.inl ⟨by as_aux_lemma => kernel_rfl, ?_⟩) (by assumption) ?_
    · intro w hSw
      try dsimp only at hSw
      go_simp
      try with_reducible rfl
      try simp
    try simp only [Act.put, List.setIfInBounds_toArray, List.set_cons_zero, List.set_cons_succ]
    refine wpAnyH_take (i := 100) (oi := { dst := some 263, op := _, type := _, pos := _, after := _, guard := _ }) (v := (Value.bool false)) rfl (by as_aux_lemma => kernel_rfl) (by as_aux_lemma => kernel_rfl) (by as_aux_lemma => kernel_rfl) (fun _ _ _ h => h) (Or.inl ⟨by as_aux_lemma => kernel_rfl, ?_⟩) (by assumption) ?_
    · intro w hSw
      try dsimp only at hSw
      go_simp
      try with_reducible rfl
      try simp
    try simp only [Act.put, List.setIfInBounds_toArray, List.set_cons_zero, List.set_cons_succ]
    refine wpAnyH_done (by as_aux_lemma => kernel_rfl) ?_ _
    try dsimp only at hHeld
    go_wp2_with fail
    go_meet
    exact ⟨rfl, hHeld.1⟩

  case rest =>
  obtain ⟨rfl, hb⟩ := hcut
  have z54 := Lib.hid hb.size
  replace hv := bl_trans hv hb
  replace hB1 := hB1.below hb
  replace hT1 := hT1.below hb
  replace hT2 := hT2.below hb
  replace hF1 := hF1.below hb
  replace hF2 := hF2.below hb
  replace hox := hox.below hb
  replace hop := hop.below hb
  replace ho1 := ho1.below hb
  replace ho2 := ho2.below hb
  clear hb
  have k1 : wc.cell? ⟨g1, 0, none⟩ = some (Value.slice B m d) := hB1.cell 0
  have kt1 : wc.cell? ⟨gt1, 0, none⟩ = some (Value.slice Bt1 r dt1) := hT1.cell 0
  have kt2 : wc.cell? ⟨gt2, 0, none⟩ = some (Value.slice Bt2 r dt2) := hT2.cell 0
  have u0 : wc.cell? ⟨f1, 0, none⟩ = some (Value.int IntKind.i64 gu) := hF1.cell 0
  have u1 : wc.cell? ⟨f1, 1, none⟩ = some (Value.int IntKind.i64 gw) := hF1.cell 1
  have v0 : wc.cell? ⟨f2, 0, none⟩ = some (Value.int IntKind.i64 gu) := hF2.cell 0
  have v1 : wc.cell? ⟨f2, 1, none⟩ = some (Value.int IntKind.i64 gw) := hF2.cell 1
  clear ho2 hF1 hF2 hT2
  clear HX1 HX2 HV1 HV2 HV3 HV4 u0 u1 v0 v1 kt2

  by_cases htc0 : tc = 0
  case pos =>

    obtain ⟨hso, htl⟩ := turn_facts (HTC.out.symm.trans htc0)
    have hb0 := rSole_code hso HTF.out
    have hb1 := rSole_code hso HSF.out
    have hb2 := rSole_code hso HPF.out
    have e4 : tl = ps.reverse := HTL.out.trans htl
    have e1 : rSole Stuff.thick xs tl = #[.int .i64 ta, .int .i64 0] := by rw [e4, rSole_rev, HTF.out, hb0]
    have e2 : rSole Stuff.stiff xs tl = #[.int .i64 sa, .int .i64 0] := by rw [e4, rSole_rev, HSF.out, hb1]
    have e3 : rSole Stuff.price xs tl = #[.int .i64 pa, .int .i64 0] := by rw [e4, rSole_rev, HPF.out, hb2]
    have hrz : (r : Int) ≤ 1048576 := by omega
    have HQ1 := Lib.hid (fun w h1 h2 => e1 ▸ ThickOf_c A xs n c hn hz hs hnc Bt1 tl r dt1 HR hrz w h1 h2)
    have HQ2 := Lib.hid (fun w h1 h2 => e2 ▸ StiffOf_c A xs n c hn hz hs hnc Bt1 tl r dt1 HR hrz w h1 h2)
    have HQ3 := Lib.hid (fun w h1 h2 => e3 ▸ PriceOfSole_c A xs n c hn hz hs hnc Bt1 tl r dt1 HR hrz w h1 h2)
    clear hso htl hb0 hb1 hb2 e1 e2 e3 e4
    subst htc0
    go_wp2_with fail
    refine (HQ1.out _ hox.arr ho1.arr).mono ?_
    rintro e W ⟨rfl, hb⟩
    have z55 := Lib.hid hb.size
    replace hv := bl_trans hv hb
    replace hB1 := hB1.below hb
    replace hT1 := hT1.below hb
    replace hox := hox.below hb
    replace hop := hop.below hb
    replace ho1 := ho1.below hb
    clear hb
    have k1 : W.cell? ⟨g1, 0, none⟩ = some (Value.slice B m d) := hB1.cell 0
    have kt1 : W.cell? ⟨gt1, 0, none⟩ = some (Value.slice Bt1 r dt1) := hT1.cell 0
    go_wp2_with fail
    refine (HQ2.out _ hox.arr ho1.arr).mono ?_
    rintro e W ⟨rfl, hb⟩
    have z56 := Lib.hid hb.size
    replace hv := bl_trans hv hb
    replace hB1 := hB1.below hb
    replace hT1 := hT1.below hb
    replace hox := hox.below hb
    replace hop := hop.below hb
    replace ho1 := ho1.below hb
    clear hb
    have k1 : W.cell? ⟨g1, 0, none⟩ = some (Value.slice B m d) := hB1.cell 0
    have kt1 : W.cell? ⟨gt1, 0, none⟩ = some (Value.slice Bt1 r dt1) := hT1.cell 0
    go_wp2_with fail
    refine (HQ3.out _ hox.arr ho1.arr).mono ?_
    rintro e W ⟨rfl, hb⟩
    have z57 := Lib.hid hb.size
    replace hv := bl_trans hv hb
    replace hB1 := hB1.below hb
    replace hT1 := hT1.below hb
    replace hox := hox.below hb
    replace hop := hop.below hb
    replace ho1 := ho1.below hb
    clear hb
    have k1 : W.cell? ⟨g1, 0, none⟩ = some (Value.slice B m d) := hB1.cell 0
    have kt1 : W.cell? ⟨gt1, 0, none⟩ = some (Value.slice Bt1 r dt1) := hT1.cell 0
    by_cases hrc : rc = 0
    case neg =>
      go_wp2_with fail
      go_returns
      exact Ret.mk rfl hv
    obtain ⟨T, kk, hso, hth, hT0, hT1, hw0, hw1, ha0, ha1, hm6, hkk, hiff, hr0, hr1, hsum⟩ := wear_facts HWF.out hrc
    have htT := rSole_val HTF.out hth
    have HSO := Lib.hid hso
    have HIF := Lib.hid hiff
    have HSU := Lib.hid hsum
    have hpm := hp.out
    have hrn : ¬ (m : Int) < ra := by omega
    have hkm : kk ≤ m := by omega
    have hra : ra ≤ 7 := by omega
    clear hso hth hiff hsum hpm ha1 hm6 hkk
    subst hrc
    go_wp2_with fail
    have HVV := Lib.hid hv
    have HW0 := Lib.hid (show rb = rb + thS xs ps 0 by rw [thS_zero]; omega)
    have hfr := Lib.hid (hB1.cell 0)
    go_loopw [49, 50] (fun s i wr => ∃ (j : Nat) (a : Int), j ≤ kk ∧ i = .int .i64 j ∧ s = .int .i64 a ∧ 0 ≤ a ∧ a ≤ 10000 + 10000 * (j : Int) ∧ Hid (a = rb + thS xs ps j) ∧ Below W.heap.size W wr) (fun _ i _ => kk - (intOf i).toNat)
    case atStart => exact ⟨0, rb, by omega, rfl, rfl, by omega, by omega, HW0, Below.refl _ _⟩
    case round =>
      clear HW0
      obtain ⟨j, a, hj, rfl, rfl, ha2, ha3, hR, hb⟩ := hrel
      have k9 : wr.cell? ⟨g1, 0, none⟩ = some (.slice B m d) := bl_cell hb hfr.out
      have hj0 : (0 : Int) ≤ (j : Int) := by omega
      by_cases hlt : j < kk
      · have hlt1 : (j : Int) + ra + 1 < (m : Int) := by have := (HIF.out j).2 hlt; have := hp.out; omega
        have hjm : (j : Int) < (m : Int) := by omega
        obtain ⟨y, hkj⟩ := get_of_lt (xs := ps) (k := j) (by rw [hp.out]; omega)
        obtain ⟨bd, hbd, hbb, d0⟩ := icell_at (hop.arr.below hb) hkj
        subst hbd
        obtain ⟨hk0, hk1⟩ := (sole_parts HSO.out).2.2.2 y (List.mem_of_getElem? hkj)
        obtain ⟨z, rfl⟩ := Int.eq_ofNat_of_zero_le hk0
        rw [hn.out] at hk1
        obtain ⟨x, hx⟩ := get_of_lt (xs := xs) (k := z) (by rw [hn.out]; omega)
        obtain ⟨ad, hbd, hab, c0, c1, c2, c3, c4⟩ := Stuff.at_ (hox.arr.below hb) hx
        subst hbd
        obtain ⟨t0, t1⟩ := (few_stuff (sole_parts HSO.out).1).1 x (List.mem_of_getElem? hx)
        have hth : thAt xs ps j = x.thick := by unfold thAt; rw [hkj]; simp only [Int.toNat_natCast]; rw [hx]
        have hR2 := Lib.hid (show a + x.thick = rb + thS xs ps (j + 1) by rw [thS_step xs ps (by rw [hp.out]; omega), hth, hR.out]; omega)
        clear hkj hx hth hR
        go_wp2_with fail
        exact ⟨⟨j + 1, a + x.thick, by omega, by go_num, rfl, by omega, by omega, hR2, hb⟩, by simp [intOf]; omega⟩
      · have hjk : j = kk := by omega
        have hlt1 : ¬ (j : Int) + ra + 1 < (m : Int) := by
          intro h
          have h1 := (HIF.out j).1 (by have := hp.out; omega)
          omega
        have hfin : (a == T - wo) = true := by
          have h1 := hR.out
          have h2 := HSU.out
          rw [hjk] at h1
          rw [beq_iff_eq]
          omega
        have hfw : IntKind.i64.wrap (T - wo) = T - wo := IntWalk.i64_in _ (by omega)
        clear hR hjk
        go_wp2_with fail
        go_returns
        exact Ret.mk (by first | rfl | (show Value.bool (a == T - wo) = Value.bool true; rw [hfin])) (bl_trans hv hb)

  by_cases hrc : rc = 0
  case neg =>
    go_wp2_with fail
    go_returns
    exact Ret.mk rfl hv
  obtain ⟨T, kk, hso, hth, hT0, hT1, hw0, hw1, ha0, ha1, hm6, hkk, hiff, hr0, hr1, hsum⟩ := wear_facts HWF.out hrc
  have htT := rSole_val HTF.out hth
  have HSO := Lib.hid hso
  have HIF := Lib.hid hiff
  have HSU := Lib.hid hsum
  have hpm := hp.out
  have hrn : ¬ (m : Int) < ra := by omega
  have hkm : kk ≤ m := by omega
  have hra : ra ≤ 7 := by omega
  clear hso hth hiff hsum hpm ha1 hm6 hkk
  subst hrc
  go_wp2_with fail
  have HVV := Lib.hid hv
  have HW0 := Lib.hid (show rb = rb + thS xs ps 0 by rw [thS_zero]; omega)
  have hfr := Lib.hid (hB1.cell 0)
  go_loopw [49, 50] (fun s i wr => ∃ (j : Nat) (a : Int), j ≤ kk ∧ i = .int .i64 j ∧ s = .int .i64 a ∧ 0 ≤ a ∧ a ≤ 10000 + 10000 * (j : Int) ∧ Hid (a = rb + thS xs ps j) ∧ Below wc.heap.size wc wr) (fun _ i _ => kk - (intOf i).toNat)
  case atStart => exact ⟨0, rb, by omega, rfl, rfl, by omega, by omega, HW0, Below.refl _ _⟩
  case round =>
    clear HW0
    obtain ⟨j, a, hj, rfl, rfl, ha2, ha3, hR, hb⟩ := hrel
    have k9 : wr.cell? ⟨g1, 0, none⟩ = some (.slice B m d) := bl_cell hb hfr.out
    have hj0 : (0 : Int) ≤ (j : Int) := by omega
    by_cases hlt : j < kk
    · have hlt1 : (j : Int) + ra + 1 < (m : Int) := by have := (HIF.out j).2 hlt; have := hp.out; omega
      have hjm : (j : Int) < (m : Int) := by omega
      obtain ⟨y, hkj⟩ := get_of_lt (xs := ps) (k := j) (by rw [hp.out]; omega)
      obtain ⟨bd, hbd, hbb, d0⟩ := icell_at (hop.arr.below hb) hkj
      subst hbd
      obtain ⟨hk0, hk1⟩ := (sole_parts HSO.out).2.2.2 y (List.mem_of_getElem? hkj)
      obtain ⟨z, rfl⟩ := Int.eq_ofNat_of_zero_le hk0
      rw [hn.out] at hk1
      obtain ⟨x, hx⟩ := get_of_lt (xs := xs) (k := z) (by rw [hn.out]; omega)
      obtain ⟨ad, hbd, hab, c0, c1, c2, c3, c4⟩ := Stuff.at_ (hox.arr.below hb) hx
      subst hbd
      obtain ⟨t0, t1⟩ := (few_stuff (sole_parts HSO.out).1).1 x (List.mem_of_getElem? hx)
      have hth : thAt xs ps j = x.thick := by unfold thAt; rw [hkj]; simp only [Int.toNat_natCast]; rw [hx]
      have hR2 := Lib.hid (show a + x.thick = rb + thS xs ps (j + 1) by rw [thS_step xs ps (by rw [hp.out]; omega), hth, hR.out]; omega)
      clear hkj hx hth hR
      go_wp2_with fail
      exact ⟨⟨j + 1, a + x.thick, by omega, by go_num, rfl, by omega, by omega, hR2, hb⟩, by simp [intOf]; omega⟩
    · have hjk : j = kk := by omega
      have hlt1 : ¬ (j : Int) + ra + 1 < (m : Int) := by
        intro h
        have h1 := (HIF.out j).1 (by have := hp.out; omega)
        omega
      have hfin : (a == T - wo) = true := by
        have h1 := hR.out
        have h2 := HSU.out
        rw [hjk] at h1
        rw [beq_iff_eq]
        omega
      have hfw : IntKind.i64.wrap (T - wo) = T - wo := IntWalk.i64_in _ (by omega)
      clear hR hjk
      go_wp2_with fail
      go_returns
      exact Ret.mk (by first | rfl | (show Value.bool (a == T - wo) = Value.bool true; rw [hfin])) (bl_trans hv hb)

end Go.Proofs.Ytopbiihiogbhiaa
