/- The law on the best soles, walked. -/
import Derived.Test.YtefkfkdpfecnoaaBstL
import Derived.Test.YtefkfkdpfecnoaaBstQ
import Derived.Test.YtefkfkdpfecnoaaSolG
import Derived.Test.YtefkfkdpfecnoaaDrwC
namespace Go.Proofs.Ytefkfkdpfecnoaa
open Go.RowKit

theorem gram100 {xs : List Stuff} {ps : List Int} (h : soleB xs ps = true) : gramR xs ps 100 = #[.agg #[.int .i64 (sumR Stuff.gram xs ps), .int .i64 1], .int .i64 0] := by
  have h2 : inB 100 1 1000 = true := by decide
  obtain ⟨h3, h4⟩ := gram_bd (m := ps.length) h rfl h2
  obtain ⟨s, hs⟩ : ∃ s : Nat, sumR Stuff.gram xs ps = (s : Int) := ⟨(sumR Stuff.gram xs ps).toNat, by omega⟩
  have e : gramS xs ps 100 = s * 100 := by omega
  have eg : Nat.gcd (s * 100) 100 = 100 := Nat.gcd_eq_right (Nat.dvd_mul_left _ _)
  have ho : okG xs ps 100 = true := by simp [okG, h, h2]
  have e1 : gramU xs ps 100 = (s : Int) := by
    unfold gramU
    rw [if_pos ho, e, eg, Nat.mul_div_cancel _ (by omega)]
  have e2 : gramW xs ps 100 = 1 := by
    unfold gramW
    rw [if_pos ho, e, eg]
    rfl
  have e3 : gramC xs ps 100 = 0 := by
    unfold gramC
    rw [if_pos h, if_pos h2]
  unfold gramR
  rw [e1, e2, e3, hs]
theorem rSole_ok {f : Stuff → Int} {xs : List Stuff} {ps : List Int} (h : soleB xs ps = true) : rSole f xs ps = #[.int .i64 (sumR f xs ps), .int .i64 0] := by unfold rSole; rw [if_pos h]
theorem best_facts (xs : List Stuff) (T S : Int) : bestC xs T S Stuff.gram = bestC xs T S Stuff.price ∧ (bestC xs T S Stuff.price = 0 → ∃ c d e f g h : Int,
    rSole Stuff.thick xs (bestL xs T S Stuff.price) = #[.int .i64 T, .int .i64 0] ∧ rSole Stuff.thick xs (bestL xs T S Stuff.gram) = #[.int .i64 T, .int .i64 0] ∧
    rSole Stuff.stiff xs (bestL xs T S Stuff.price) = #[.int .i64 c, .int .i64 0] ∧ rSole Stuff.stiff xs (bestL xs T S Stuff.gram) = #[.int .i64 d, .int .i64 0] ∧
    rSole Stuff.price xs (bestL xs T S Stuff.price) = #[.int .i64 e, .int .i64 0] ∧ rSole Stuff.price xs (bestL xs T S Stuff.gram) = #[.int .i64 f, .int .i64 0] ∧
    gramR xs (bestL xs T S Stuff.price) 100 = #[.agg #[.int .i64 g, .int .i64 1], .int .i64 0] ∧ gramR xs (bestL xs T S Stuff.gram) 100 = #[.agg #[.int .i64 h, .int .i64 1], .int .i64 0] ∧ c ≤ S ∧ d ≤ S ∧ e ≤ f ∧ h ≤ g) := by
  obtain ⟨h1, h2⟩ := best_two (xs := xs) (T := T) (S := S) (f := Stuff.price) (g := Stuff.gram) (fun h => (few_stuff h).2.2.2) (fun h => (few_stuff h).2.1)
  refine ⟨h1.symm, fun h => ?_⟩
  obtain ⟨a, b, c, d, e, f, g, i⟩ := h2 h
  exact ⟨_, _, _, _, _, _, by rw [rSole_ok a, c], by rw [rSole_ok b, d], rSole_ok a, rSole_ok b, rSole_ok a, rSole_ok b, gram100 a, gram100 b, e, f, g, i⟩
theorem f6big_c (C : Option Addr) (n c : Nat) (w : World) : Calls Try.prog 5 #[.slice C n c] w (Ret (.bool (decide (4096 < n))) w) := by
  go_enter Try.func5, Try.ntmps5
  go_wp2_with fail
  go_returns
  refine Ret.mk (vb ?_) (Below.refl _ _)
  simp; omega
theorem f6ints_same (A B : Option Addr) (xs : List Int) (n c d : Nat) (hn : Hid (xs.length = n)) (hz : (n : Int) ≤ 9223372036854775807) (w : World) (hA : Arr w A (flat icell xs)) (hB : Arr w B (flat icell xs)) :
    Calls Try.prog 11 #[.slice A n c, .slice B n d] w (Ret (.bool true) w) := by
  have h := f6ints_c A B xs xs n n c d hn hn hz w hA hB
  rwa [decide_eq_true rfl] at h
theorem own_addr_lt {w : World} {lo hi e s n c m : Nat} {A : Option Addr} {cs : List Value} (h : Own w lo hi e s m (.slice A n c) cs) : ∀ ad, A = some ad → ad.block < w.heap.size := by
  intro ad e
  subst e
  have h1 := h.2.2.2 ad.block (by simp [Value.ownBlock])
  have h2 := h.2.2.1
  omega
set_option maxRecDepth 100000 in
set_option maxHeartbeats 4000000 in
theorem FnBestSoles_law (C : Option Addr) (nn cc : Nat) (cs : List UInt8) (hnn : Hid (cs.length = nn)) (w : World) (hA : Arr w C (cs.map bvS)) (hlt : ∀ ad, C = some ad → ad.block < w.heap.size) :
    Calls Try.prog 3 #[.slice C nn cc] w (Ret (.bool true) w) := by
  have hA0 := Lib.hid hA
  have hL0 := Lib.hid hlt
  clear hA hlt
  go_enter Try.func3, Try.ntmps3
  go_wp2_with fail
  refine (f6big_c C nn cc w).mono ?_
  rintro e W ⟨rfl, hv⟩
  by_cases hb4 : 4096 < nn
  · go_wp2_with fail
    go_returns
    exact Ret.mk rfl hv
  go_wp2_with fail
  refine (DrawBestSole_c C nn cc cs hnn (by omega) W (hA0.out.below hv) (fun ad e => Nat.lt_of_lt_of_le (hL0.out ad e) hv.size)).mono ?_
  clear hA0 hL0
  rintro e W2 ⟨A, xs, n, c, T, S, rfl, hn', hn13, hs', hox, hb⟩
  have hnc : (n : Int) ≤ c := by
    obtain ⟨_, _, e0, hnc', _⟩ := own_form hox
    injection e0 with e1 e2 e3
    omega
  have hn := Lib.hid hn'
  have hs : Hid (∀ x ∈ xs, x.name.size ≤ 9223372036854775807) := Lib.hid (fun x hx => Nat.le_trans (hs' x hx) (by omega))
  have hz : (n : Int) ≤ 1048576 := by omega
  clear hn' hs'
  obtain ⟨hco, hall⟩ := best_facts xs T S
  obtain ⟨l, hl⟩ : ∃ l, l = bestL xs T S Stuff.price := ⟨_, rfl⟩
  obtain ⟨l2, hl2⟩ : ∃ l, l = bestL xs T S Stuff.gram := ⟨_, rfl⟩
  obtain ⟨co, hc⟩ : ∃ co, co = bestC xs T S Stuff.price := ⟨_, rfl⟩
  have hlen : l.length ≤ 6 := by rw [hl]; exact bestL_len _ _ _ _
  have hlen2 : l2.length ≤ 6 := by rw [hl2]; exact bestL_len _ _ _ _
  obtain ⟨r, hr⟩ : ∃ r, r = l.length := ⟨_, rfl⟩
  obtain ⟨r2, hr2⟩ : ∃ r, r = l2.length := ⟨_, rfl⟩
  have HX1 := fun (a : Option Addr) (w : World) (hl : ∀ ad, a = some ad → ad.block < w.heap.size) (h : Arr w a (flat Stuff.cells xs)) => BestSole_c a xs n c hn hz hs hnc T S w hl h
  have HW1 := fun (a : Option Addr) (w : World) (hl : ∀ ad, a = some ad → ad.block < w.heap.size) (h : Arr w a (flat Stuff.cells xs)) => SBestSole_c a xs n c hn hz hs T S w hl h
  have HX2 := fun (a : Option Addr) (w : World) (hl : ∀ ad, a = some ad → ad.block < w.heap.size) (h : Arr w a (flat Stuff.cells xs)) => LightestSole_c a xs n c hn hz hs hnc T S w hl h
  have HW2 := fun (a : Option Addr) (w : World) (hl : ∀ ad, a = some ad → ad.block < w.heap.size) (h : Arr w a (flat Stuff.cells xs)) => SLightestSole_c a xs n c hn hz hs T S w hl h
  rw [hco, ← hl2, ← hc] at HX2 HW2
  rw [← hl, ← hc] at HX1 HW1
  rw [← hl, ← hl2, ← hc] at hall
  unfold OutB at HX1 HW1 HX2 HW2
  rw [← hr] at HX1 HW1 hlen
  rw [← hr2] at HX2 HW2 hlen2
  have hr1 := Lib.hid hr.symm
  have hrr2 := Lib.hid hr2.symm
  have HALL := Lib.hid hall
  clear hl hl2 hc hco hr hr2 hall
  replace HX1 := Lib.hid HX1
  replace HW1 := Lib.hid HW1
  replace HX2 := Lib.hid HX2
  replace HW2 := Lib.hid HW2
  obtain ⟨lx, ux, h_own, z0, z1⟩ := Own.named hox hb
  replace hox := h_own
  clear h_own
  have z2 := Lib.hid hb.size
  replace hv := bl_trans hv hb
  clear hb
  go_wp2_with fail
  refine (HX1.out _ _ (own_addr_lt hox) hox.arr).mono ?_
  rintro e W ⟨A1, c1, rfl, ho1, hb⟩
  obtain ⟨lo1, up1, h_own, z3, z4⟩ := Own.named ho1 hb
  replace ho1 := h_own
  clear h_own
  have z5 := Lib.hid hb.size
  replace hv := bl_trans hv hb
  replace hox := hox.below hb
  clear hb
  obtain ⟨W0, hW0⟩ : ∃ W0, W0 = W.alloc (Obj.cells #[Value.slice A1 r c1] 29) := ⟨_, rfl⟩
  obtain ⟨g1, hgx⟩ : ∃ gx, gx = W.heap.size := ⟨_, rfl⟩
  have hb : Below W.heap.size W W0 := by rw [hW0]; exact bl_alloc (Below.refl _ _) _
  have hB1 : Blk W0 g1 29 #[Value.slice A1 r c1] := by rw [hW0, hgx]; exact Blk.new _ _ _
  have z6 := Lib.hid (Nat.le_of_eq hgx.symm)
  have z7 := Lib.hid hB1.lt
  go_wp2_with fail
  rw [← hW0, ← hgx]
  clear hW0 hgx 
  have z8 := Lib.hid hb.size
  replace hv := bl_trans hv hb
  replace hox := hox.below hb
  replace ho1 := ho1.below hb
  clear hb
  have k1 : W0.cell? ⟨g1, 0, none⟩ = some (Value.slice A1 r c1) := hB1.cell 0
  refine (HW1.out _ _ (own_addr_lt hox) hox.arr).mono ?_
  rintro e W ⟨A2, c2, rfl, ho2, hb⟩
  obtain ⟨lo2, up2, h_own, z9, z10⟩ := Own.named ho2 hb
  replace ho2 := h_own
  clear h_own
  have z11 := Lib.hid hb.size
  replace hv := bl_trans hv hb
  replace hB1 := hB1.below hb
  replace hox := hox.below hb
  replace ho1 := ho1.below hb
  clear hb
  have k1 : W.cell? ⟨g1, 0, none⟩ = some (Value.slice A1 r c1) := hB1.cell 0
  obtain ⟨W0, hW0⟩ : ∃ W0, W0 = W.alloc (Obj.cells #[Value.slice A2 r c2] 29) := ⟨_, rfl⟩
  obtain ⟨g2, hgx⟩ : ∃ gx, gx = W.heap.size := ⟨_, rfl⟩
  have hb : Below W.heap.size W W0 := by rw [hW0]; exact bl_alloc (Below.refl _ _) _
  have hB2 : Blk W0 g2 29 #[Value.slice A2 r c2] := by rw [hW0, hgx]; exact Blk.new _ _ _
  have a_k1 : ∀ O, (World.alloc W O).cell? ⟨g1, 0, none⟩ = some (Value.slice A1 r c1) := fun O => (hB1.alloc O).cell 0
  have z12 := Lib.hid (Nat.le_of_eq hgx.symm)
  have z13 := Lib.hid hB2.lt
  go_wp2_with fail
  rw [← hW0, ← hgx]
  clear hW0 hgx a_k1
  have z14 := Lib.hid hb.size
  replace hv := bl_trans hv hb
  replace hB1 := hB1.below hb
  replace hox := hox.below hb
  replace ho1 := ho1.below hb
  replace ho2 := ho2.below hb
  clear hb
  have k1 : W0.cell? ⟨g1, 0, none⟩ = some (Value.slice A1 r c1) := hB1.cell 0
  have k2 : W0.cell? ⟨g2, 0, none⟩ = some (Value.slice A2 r c2) := hB2.cell 0
  refine (HX2.out _ _ (own_addr_lt hox) hox.arr).mono ?_
  rintro e W ⟨A3, c3, rfl, ho3, hb⟩
  obtain ⟨lo3, up3, h_own, z15, z16⟩ := Own.named ho3 hb
  replace ho3 := h_own
  clear h_own
  have z17 := Lib.hid hb.size
  replace hv := bl_trans hv hb
  replace hB1 := hB1.below hb
  replace hB2 := hB2.below hb
  replace hox := hox.below hb
  replace ho1 := ho1.below hb
  replace ho2 := ho2.below hb
  clear hb
  have k1 : W.cell? ⟨g1, 0, none⟩ = some (Value.slice A1 r c1) := hB1.cell 0
  have k2 : W.cell? ⟨g2, 0, none⟩ = some (Value.slice A2 r c2) := hB2.cell 0
  obtain ⟨W0, hW0⟩ : ∃ W0, W0 = W.alloc (Obj.cells #[Value.slice A3 r2 c3] 29) := ⟨_, rfl⟩
  obtain ⟨g3, hgx⟩ : ∃ gx, gx = W.heap.size := ⟨_, rfl⟩
  have hb : Below W.heap.size W W0 := by rw [hW0]; exact bl_alloc (Below.refl _ _) _
  have hB3 : Blk W0 g3 29 #[Value.slice A3 r2 c3] := by rw [hW0, hgx]; exact Blk.new _ _ _
  have a_k1 : ∀ O, (World.alloc W O).cell? ⟨g1, 0, none⟩ = some (Value.slice A1 r c1) := fun O => (hB1.alloc O).cell 0
  have a_k2 : ∀ O, (World.alloc W O).cell? ⟨g2, 0, none⟩ = some (Value.slice A2 r c2) := fun O => (hB2.alloc O).cell 0
  have z18 := Lib.hid (Nat.le_of_eq hgx.symm)
  have z19 := Lib.hid hB3.lt
  go_wp2_with fail
  rw [← hW0, ← hgx]
  clear hW0 hgx a_k1 a_k2
  have z20 := Lib.hid hb.size
  replace hv := bl_trans hv hb
  replace hB1 := hB1.below hb
  replace hB2 := hB2.below hb
  replace hox := hox.below hb
  replace ho1 := ho1.below hb
  replace ho2 := ho2.below hb
  replace ho3 := ho3.below hb
  clear hb
  have k1 : W0.cell? ⟨g1, 0, none⟩ = some (Value.slice A1 r c1) := hB1.cell 0
  have k2 : W0.cell? ⟨g2, 0, none⟩ = some (Value.slice A2 r c2) := hB2.cell 0
  have k3 : W0.cell? ⟨g3, 0, none⟩ = some (Value.slice A3 r2 c3) := hB3.cell 0
  refine (HW2.out _ _ (own_addr_lt hox) hox.arr).mono ?_
  rintro e W ⟨A4, c4, rfl, ho4, hb⟩
  obtain ⟨lo4, up4, h_own, z21, z22⟩ := Own.named ho4 hb
  replace ho4 := h_own
  clear h_own
  have z23 := Lib.hid hb.size
  replace hv := bl_trans hv hb
  replace hB1 := hB1.below hb
  replace hB2 := hB2.below hb
  replace hB3 := hB3.below hb
  replace hox := hox.below hb
  replace ho1 := ho1.below hb
  replace ho2 := ho2.below hb
  replace ho3 := ho3.below hb
  clear hb
  have k1 : W.cell? ⟨g1, 0, none⟩ = some (Value.slice A1 r c1) := hB1.cell 0
  have k2 : W.cell? ⟨g2, 0, none⟩ = some (Value.slice A2 r c2) := hB2.cell 0
  have k3 : W.cell? ⟨g3, 0, none⟩ = some (Value.slice A3 r2 c3) := hB3.cell 0
  obtain ⟨W0, hW0⟩ : ∃ W0, W0 = W.alloc (Obj.cells #[Value.slice A4 r2 c4] 29) := ⟨_, rfl⟩
  obtain ⟨g4, hgx⟩ : ∃ gx, gx = W.heap.size := ⟨_, rfl⟩
  have hb : Below W.heap.size W W0 := by rw [hW0]; exact bl_alloc (Below.refl _ _) _
  have hB4 : Blk W0 g4 29 #[Value.slice A4 r2 c4] := by rw [hW0, hgx]; exact Blk.new _ _ _
  have a_k1 : ∀ O, (World.alloc W O).cell? ⟨g1, 0, none⟩ = some (Value.slice A1 r c1) := fun O => (hB1.alloc O).cell 0
  have a_k2 : ∀ O, (World.alloc W O).cell? ⟨g2, 0, none⟩ = some (Value.slice A2 r c2) := fun O => (hB2.alloc O).cell 0
  have a_k3 : ∀ O, (World.alloc W O).cell? ⟨g3, 0, none⟩ = some (Value.slice A3 r2 c3) := fun O => (hB3.alloc O).cell 0
  have z24 := Lib.hid (Nat.le_of_eq hgx.symm)
  have z25 := Lib.hid hB4.lt
  go_wp2_with fail
  rw [← hW0, ← hgx]
  clear hW0 hgx a_k1 a_k2 a_k3
  have z26 := Lib.hid hb.size
  replace hv := bl_trans hv hb
  replace hB1 := hB1.below hb
  replace hB2 := hB2.below hb
  replace hB3 := hB3.below hb
  replace hox := hox.below hb
  replace ho1 := ho1.below hb
  replace ho2 := ho2.below hb
  replace ho3 := ho3.below hb
  replace ho4 := ho4.below hb
  clear hb
  have k1 : W0.cell? ⟨g1, 0, none⟩ = some (Value.slice A1 r c1) := hB1.cell 0
  have k2 : W0.cell? ⟨g2, 0, none⟩ = some (Value.slice A2 r c2) := hB2.cell 0
  have k3 : W0.cell? ⟨g3, 0, none⟩ = some (Value.slice A3 r2 c3) := hB3.cell 0
  have k4 : W0.cell? ⟨g4, 0, none⟩ = some (Value.slice A4 r2 c4) := hB4.cell 0
  refine (f6ints_same A1 A2 l r c1 c2 hr1 (by omega) _ ho1.arr ho2.arr).mono ?_
  rintro e W ⟨rfl, hb⟩
  have z27 := Lib.hid hb.size
  replace hv := bl_trans hv hb
  replace hB1 := hB1.below hb
  replace hB2 := hB2.below hb
  replace hB3 := hB3.below hb
  replace hB4 := hB4.below hb
  replace hox := hox.below hb
  replace ho1 := ho1.below hb
  replace ho2 := ho2.below hb
  replace ho3 := ho3.below hb
  replace ho4 := ho4.below hb
  clear hb
  have k1 : W.cell? ⟨g1, 0, none⟩ = some (Value.slice A1 r c1) := hB1.cell 0
  have k2 : W.cell? ⟨g2, 0, none⟩ = some (Value.slice A2 r c2) := hB2.cell 0
  have k3 : W.cell? ⟨g3, 0, none⟩ = some (Value.slice A3 r2 c3) := hB3.cell 0
  have k4 : W.cell? ⟨g4, 0, none⟩ = some (Value.slice A4 r2 c4) := hB4.cell 0
  go_wp2_with fail
  refine (f6ints_same A3 A4 l2 r2 c3 c4 hrr2 (by omega) _ ho3.arr ho4.arr).mono ?_
  rintro e W ⟨rfl, hb⟩
  have z28 := Lib.hid hb.size
  replace hv := bl_trans hv hb
  replace hB1 := hB1.below hb
  replace hB2 := hB2.below hb
  replace hB3 := hB3.below hb
  replace hB4 := hB4.below hb
  replace hox := hox.below hb
  replace ho1 := ho1.below hb
  replace ho2 := ho2.below hb
  replace ho3 := ho3.below hb
  replace ho4 := ho4.below hb
  clear hb
  have k1 : W.cell? ⟨g1, 0, none⟩ = some (Value.slice A1 r c1) := hB1.cell 0
  have k2 : W.cell? ⟨g2, 0, none⟩ = some (Value.slice A2 r c2) := hB2.cell 0
  have k3 : W.cell? ⟨g3, 0, none⟩ = some (Value.slice A3 r2 c3) := hB3.cell 0
  have k4 : W.cell? ⟨g4, 0, none⟩ = some (Value.slice A4 r2 c4) := hB4.cell 0
  clear ho2 ho4

  by_cases hco0 : co = 0
  case neg =>
    go_wp2_with fail
    go_returns
    exact Ret.mk rfl hv
  obtain ⟨c', d', e', f', g', h', t1, t2, s1, s2, p1, p2, m1, m2, q1, q2, q3, q4⟩ := HALL.out hco0
  have hm1 : (r : Int) ≤ 1048576 := by omega
  have hm2 : (r2 : Int) ≤ 1048576 := by omega
  have HT1 := Lib.hid (fun w h1 h2 => t1 ▸ ThickOf_c A xs n c hn hz hs hnc A1 l r c1 hr1 hm1 w h1 h2)
  have HT2 := Lib.hid (fun w h1 h2 => t2 ▸ ThickOf_c A xs n c hn hz hs hnc A3 l2 r2 c3 hrr2 hm2 w h1 h2)
  have HS1 := Lib.hid (fun w h1 h2 => s1 ▸ StiffOf_c A xs n c hn hz hs hnc A1 l r c1 hr1 hm1 w h1 h2)
  have HS2 := Lib.hid (fun w h1 h2 => s2 ▸ StiffOf_c A xs n c hn hz hs hnc A3 l2 r2 c3 hrr2 hm2 w h1 h2)
  have HP1 := Lib.hid (fun w h1 h2 => p1 ▸ PriceOfSole_c A xs n c hn hz hs hnc A1 l r c1 hr1 hm1 w h1 h2)
  have HP2 := Lib.hid (fun w h1 h2 => p2 ▸ PriceOfSole_c A xs n c hn hz hs hnc A3 l2 r2 c3 hrr2 hm2 w h1 h2)
  have HM1 := Lib.hid (fun w h1 h2 => m1 ▸ GramsOf_c A xs n c hn hz hs hnc A1 l r c1 hr1 hm1 100 w h1 h2)
  have HM2 := Lib.hid (fun w h1 h2 => m2 ▸ GramsOf_c A xs n c hn hz hs hnc A3 l2 r2 c3 hrr2 hm2 100 w h1 h2)
  clear t1 t2 s1 s2 p1 p2 m1 m2 HALL
  subst hco0
  go_wp2_with fail
  refine (HT1.out _ hox.arr ho1.arr).mono ?_
  rintro e W ⟨rfl, hb⟩
  have z29 := Lib.hid hb.size
  replace hv := bl_trans hv hb
  replace hB1 := hB1.below hb
  replace hB2 := hB2.below hb
  replace hB3 := hB3.below hb
  replace hB4 := hB4.below hb
  replace hox := hox.below hb
  replace ho1 := ho1.below hb
  replace ho3 := ho3.below hb
  clear hb
  have k1 : W.cell? ⟨g1, 0, none⟩ = some (Value.slice A1 r c1) := hB1.cell 0
  have k2 : W.cell? ⟨g2, 0, none⟩ = some (Value.slice A2 r c2) := hB2.cell 0
  have k3 : W.cell? ⟨g3, 0, none⟩ = some (Value.slice A3 r2 c3) := hB3.cell 0
  have k4 : W.cell? ⟨g4, 0, none⟩ = some (Value.slice A4 r2 c4) := hB4.cell 0
  go_wp2_with fail
  refine (HT2.out _ hox.arr ho3.arr).mono ?_
  rintro e W ⟨rfl, hb⟩
  have z30 := Lib.hid hb.size
  replace hv := bl_trans hv hb
  replace hB1 := hB1.below hb
  replace hB2 := hB2.below hb
  replace hB3 := hB3.below hb
  replace hB4 := hB4.below hb
  replace hox := hox.below hb
  replace ho1 := ho1.below hb
  replace ho3 := ho3.below hb
  clear hb
  have k1 : W.cell? ⟨g1, 0, none⟩ = some (Value.slice A1 r c1) := hB1.cell 0
  have k2 : W.cell? ⟨g2, 0, none⟩ = some (Value.slice A2 r c2) := hB2.cell 0
  have k3 : W.cell? ⟨g3, 0, none⟩ = some (Value.slice A3 r2 c3) := hB3.cell 0
  have k4 : W.cell? ⟨g4, 0, none⟩ = some (Value.slice A4 r2 c4) := hB4.cell 0
  go_wp2_with fail
  refine (HS1.out _ hox.arr ho1.arr).mono ?_
  rintro e W ⟨rfl, hb⟩
  have z31 := Lib.hid hb.size
  replace hv := bl_trans hv hb
  replace hB1 := hB1.below hb
  replace hB2 := hB2.below hb
  replace hB3 := hB3.below hb
  replace hB4 := hB4.below hb
  replace hox := hox.below hb
  replace ho1 := ho1.below hb
  replace ho3 := ho3.below hb
  clear hb
  have k1 : W.cell? ⟨g1, 0, none⟩ = some (Value.slice A1 r c1) := hB1.cell 0
  have k2 : W.cell? ⟨g2, 0, none⟩ = some (Value.slice A2 r c2) := hB2.cell 0
  have k3 : W.cell? ⟨g3, 0, none⟩ = some (Value.slice A3 r2 c3) := hB3.cell 0
  have k4 : W.cell? ⟨g4, 0, none⟩ = some (Value.slice A4 r2 c4) := hB4.cell 0
  go_wp2_with fail
  refine (HS2.out _ hox.arr ho3.arr).mono ?_
  rintro e W ⟨rfl, hb⟩
  have z32 := Lib.hid hb.size
  replace hv := bl_trans hv hb
  replace hB1 := hB1.below hb
  replace hB2 := hB2.below hb
  replace hB3 := hB3.below hb
  replace hB4 := hB4.below hb
  replace hox := hox.below hb
  replace ho1 := ho1.below hb
  replace ho3 := ho3.below hb
  clear hb
  have k1 : W.cell? ⟨g1, 0, none⟩ = some (Value.slice A1 r c1) := hB1.cell 0
  have k2 : W.cell? ⟨g2, 0, none⟩ = some (Value.slice A2 r c2) := hB2.cell 0
  have k3 : W.cell? ⟨g3, 0, none⟩ = some (Value.slice A3 r2 c3) := hB3.cell 0
  have k4 : W.cell? ⟨g4, 0, none⟩ = some (Value.slice A4 r2 c4) := hB4.cell 0
  go_wp2_with fail
  refine (HP1.out _ hox.arr ho1.arr).mono ?_
  rintro e W ⟨rfl, hb⟩
  have z33 := Lib.hid hb.size
  replace hv := bl_trans hv hb
  replace hB1 := hB1.below hb
  replace hB2 := hB2.below hb
  replace hB3 := hB3.below hb
  replace hB4 := hB4.below hb
  replace hox := hox.below hb
  replace ho1 := ho1.below hb
  replace ho3 := ho3.below hb
  clear hb
  have k1 : W.cell? ⟨g1, 0, none⟩ = some (Value.slice A1 r c1) := hB1.cell 0
  have k2 : W.cell? ⟨g2, 0, none⟩ = some (Value.slice A2 r c2) := hB2.cell 0
  have k3 : W.cell? ⟨g3, 0, none⟩ = some (Value.slice A3 r2 c3) := hB3.cell 0
  have k4 : W.cell? ⟨g4, 0, none⟩ = some (Value.slice A4 r2 c4) := hB4.cell 0
  go_wp2_with fail
  refine (HP2.out _ hox.arr ho3.arr).mono ?_
  rintro e W ⟨rfl, hb⟩
  have z34 := Lib.hid hb.size
  replace hv := bl_trans hv hb
  replace hB1 := hB1.below hb
  replace hB2 := hB2.below hb
  replace hB3 := hB3.below hb
  replace hB4 := hB4.below hb
  replace hox := hox.below hb
  replace ho1 := ho1.below hb
  replace ho3 := ho3.below hb
  clear hb
  have k1 : W.cell? ⟨g1, 0, none⟩ = some (Value.slice A1 r c1) := hB1.cell 0
  have k2 : W.cell? ⟨g2, 0, none⟩ = some (Value.slice A2 r c2) := hB2.cell 0
  have k3 : W.cell? ⟨g3, 0, none⟩ = some (Value.slice A3 r2 c3) := hB3.cell 0
  have k4 : W.cell? ⟨g4, 0, none⟩ = some (Value.slice A4 r2 c4) := hB4.cell 0
  go_wp2_with fail
  refine (HM1.out _ hox.arr ho1.arr).mono ?_
  rintro e W ⟨rfl, hb⟩
  have z35 := Lib.hid hb.size
  replace hv := bl_trans hv hb
  replace hB1 := hB1.below hb
  replace hB2 := hB2.below hb
  replace hB3 := hB3.below hb
  replace hB4 := hB4.below hb
  replace hox := hox.below hb
  replace ho1 := ho1.below hb
  replace ho3 := ho3.below hb
  clear hb
  have k1 : W.cell? ⟨g1, 0, none⟩ = some (Value.slice A1 r c1) := hB1.cell 0
  have k2 : W.cell? ⟨g2, 0, none⟩ = some (Value.slice A2 r c2) := hB2.cell 0
  have k3 : W.cell? ⟨g3, 0, none⟩ = some (Value.slice A3 r2 c3) := hB3.cell 0
  have k4 : W.cell? ⟨g4, 0, none⟩ = some (Value.slice A4 r2 c4) := hB4.cell 0
  obtain ⟨W0, hW0⟩ : ∃ W0, W0 = W.alloc (Obj.cells #[Value.int IntKind.i64 g', Value.int IntKind.i64 1] 36) := ⟨_, rfl⟩
  obtain ⟨f1, hgx⟩ : ∃ gx, gx = W.heap.size := ⟨_, rfl⟩
  have hb : Below W.heap.size W W0 := by rw [hW0]; exact bl_alloc (Below.refl _ _) _
  have hF1 : Blk W0 f1 36 #[Value.int IntKind.i64 g', Value.int IntKind.i64 1] := by rw [hW0, hgx]; exact Blk.new _ _ _
  have a_k1 : ∀ O, (World.alloc W O).cell? ⟨g1, 0, none⟩ = some (Value.slice A1 r c1) := fun O => (hB1.alloc O).cell 0
  have a_k2 : ∀ O, (World.alloc W O).cell? ⟨g2, 0, none⟩ = some (Value.slice A2 r c2) := fun O => (hB2.alloc O).cell 0
  have a_k3 : ∀ O, (World.alloc W O).cell? ⟨g3, 0, none⟩ = some (Value.slice A3 r2 c3) := fun O => (hB3.alloc O).cell 0
  have a_k4 : ∀ O, (World.alloc W O).cell? ⟨g4, 0, none⟩ = some (Value.slice A4 r2 c4) := fun O => (hB4.alloc O).cell 0
  have z36 := Lib.hid (Nat.le_of_eq hgx.symm)
  have z37 := Lib.hid hF1.lt
  go_wp2_with fail
  rw [← hW0, ← hgx]
  clear hW0 hgx a_k1 a_k2 a_k3 a_k4
  have z38 := Lib.hid hb.size
  replace hv := bl_trans hv hb
  replace hB1 := hB1.below hb
  replace hB2 := hB2.below hb
  replace hB3 := hB3.below hb
  replace hB4 := hB4.below hb
  replace hox := hox.below hb
  replace ho1 := ho1.below hb
  replace ho3 := ho3.below hb
  clear hb
  have k1 : W0.cell? ⟨g1, 0, none⟩ = some (Value.slice A1 r c1) := hB1.cell 0
  have k2 : W0.cell? ⟨g2, 0, none⟩ = some (Value.slice A2 r c2) := hB2.cell 0
  have k3 : W0.cell? ⟨g3, 0, none⟩ = some (Value.slice A3 r2 c3) := hB3.cell 0
  have k4 : W0.cell? ⟨g4, 0, none⟩ = some (Value.slice A4 r2 c4) := hB4.cell 0
  have u0 : W0.cell? ⟨f1, 0, none⟩ = some (Value.int IntKind.i64 g') := hF1.cell 0
  have u1 : W0.cell? ⟨f1, 1, none⟩ = some (Value.int IntKind.i64 1) := hF1.cell 1
  refine (HM2.out _ hox.arr ho3.arr).mono ?_
  rintro e W ⟨rfl, hb⟩
  have z39 := Lib.hid hb.size
  replace hv := bl_trans hv hb
  replace hB1 := hB1.below hb
  replace hB2 := hB2.below hb
  replace hB3 := hB3.below hb
  replace hB4 := hB4.below hb
  replace hF1 := hF1.below hb
  replace hox := hox.below hb
  replace ho1 := ho1.below hb
  replace ho3 := ho3.below hb
  clear hb
  have k1 : W.cell? ⟨g1, 0, none⟩ = some (Value.slice A1 r c1) := hB1.cell 0
  have k2 : W.cell? ⟨g2, 0, none⟩ = some (Value.slice A2 r c2) := hB2.cell 0
  have k3 : W.cell? ⟨g3, 0, none⟩ = some (Value.slice A3 r2 c3) := hB3.cell 0
  have k4 : W.cell? ⟨g4, 0, none⟩ = some (Value.slice A4 r2 c4) := hB4.cell 0
  have u0 : W.cell? ⟨f1, 0, none⟩ = some (Value.int IntKind.i64 g') := hF1.cell 0
  have u1 : W.cell? ⟨f1, 1, none⟩ = some (Value.int IntKind.i64 1) := hF1.cell 1
  have hTT : (T != T) = false := by simp
  have hq1 : ¬ S < c' := by omega
  have hq2 : ¬ S < d' := by omega
  obtain ⟨W0, hW0⟩ : ∃ W0, W0 = W.alloc (Obj.cells #[Value.int IntKind.i64 h', Value.int IntKind.i64 1] 36) := ⟨_, rfl⟩
  obtain ⟨f2, hgx⟩ : ∃ gx, gx = W.heap.size := ⟨_, rfl⟩
  have hb : Below W.heap.size W W0 := by rw [hW0]; exact bl_alloc (Below.refl _ _) _
  have hF2 : Blk W0 f2 36 #[Value.int IntKind.i64 h', Value.int IntKind.i64 1] := by rw [hW0, hgx]; exact Blk.new _ _ _
  have a_k1 : ∀ O, (World.alloc W O).cell? ⟨g1, 0, none⟩ = some (Value.slice A1 r c1) := fun O => (hB1.alloc O).cell 0
  have a_k2 : ∀ O, (World.alloc W O).cell? ⟨g2, 0, none⟩ = some (Value.slice A2 r c2) := fun O => (hB2.alloc O).cell 0
  have a_k3 : ∀ O, (World.alloc W O).cell? ⟨g3, 0, none⟩ = some (Value.slice A3 r2 c3) := fun O => (hB3.alloc O).cell 0
  have a_k4 : ∀ O, (World.alloc W O).cell? ⟨g4, 0, none⟩ = some (Value.slice A4 r2 c4) := fun O => (hB4.alloc O).cell 0
  have a_u0 : ∀ O, (World.alloc W O).cell? ⟨f1, 0, none⟩ = some (Value.int IntKind.i64 g') := fun O => (hF1.alloc O).cell 0
  have a_u1 : ∀ O, (World.alloc W O).cell? ⟨f1, 1, none⟩ = some (Value.int IntKind.i64 1) := fun O => (hF1.alloc O).cell 1
  have z40 := Lib.hid (Nat.le_of_eq hgx.symm)
  have z41 := Lib.hid hF2.lt
  go_wp2_with fail
  rw [← hW0, ← hgx]
  clear hW0 hgx a_k1 a_k2 a_k3 a_k4 a_u0 a_u1
  have z42 := Lib.hid hb.size
  replace hv := bl_trans hv hb
  replace hB1 := hB1.below hb
  replace hB2 := hB2.below hb
  replace hB3 := hB3.below hb
  replace hB4 := hB4.below hb
  replace hF1 := hF1.below hb
  replace hox := hox.below hb
  replace ho1 := ho1.below hb
  replace ho3 := ho3.below hb
  clear hb
  have k1 : W0.cell? ⟨g1, 0, none⟩ = some (Value.slice A1 r c1) := hB1.cell 0
  have k2 : W0.cell? ⟨g2, 0, none⟩ = some (Value.slice A2 r c2) := hB2.cell 0
  have k3 : W0.cell? ⟨g3, 0, none⟩ = some (Value.slice A3 r2 c3) := hB3.cell 0
  have k4 : W0.cell? ⟨g4, 0, none⟩ = some (Value.slice A4 r2 c4) := hB4.cell 0
  have u0 : W0.cell? ⟨f1, 0, none⟩ = some (Value.int IntKind.i64 g') := hF1.cell 0
  have u1 : W0.cell? ⟨f1, 1, none⟩ = some (Value.int IntKind.i64 1) := hF1.cell 1
  have v0 : W0.cell? ⟨f2, 0, none⟩ = some (Value.int IntKind.i64 h') := hF2.cell 0
  have v1 : W0.cell? ⟨f2, 1, none⟩ = some (Value.int IntKind.i64 1) := hF2.cell 1
  go_returns
  exact Ret.mk rfl hv

end Go.Proofs.Ytefkfkdpfecnoaa
