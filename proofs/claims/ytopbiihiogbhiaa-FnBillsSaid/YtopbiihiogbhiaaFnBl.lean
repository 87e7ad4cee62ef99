/- The law on bills, walked. -/
import Derived.Test.YtopbiihiogbhiaaBilQ
import Derived.Test.YtopbiihiogbhiaaBillQ
import Derived.Test.YtopbiihiogbhiaaSameB
import Derived.Test.YtopbiihiogbhiaaPriA
import Derived.Test.YtopbiihiogbhiaaPriS
import Derived.Test.YtopbiihiogbhiaaDrwQB
import Derived.Test.YtopbiihiogbhiaaFnB
import Derived.Deep.DeepCutAuto
namespace Go.Proofs.Ytopbiihiogbhiaa
open Go.RowKit

theorem sum_take {l : List Int} {k : Nat} {x : Int} (h : l[k]? = some x) : (l.take (k + 1)).sum = (l.take k).sum + x := by
  rw [take_at h, List.sum_append]; simp
theorem sum_bdL : ∀ (l : List Int), (∀ x ∈ l, 0 ≤ x ∧ x ≤ 100000000000) → 0 ≤ l.sum ∧ l.sum ≤ 100000000000 * l.length := by
  intro l
  induction l with
  | nil => intro _; simp
  | cons a r ih =>
    intro h
    have h1 := ih (fun x hx => h x (by simp [hx]))
    have h2 := h a (by simp)
    simp only [List.sum_cons, List.length_cons]
    omega
set_option maxHeartbeats 800000 in
theorem f6sum_c (A : Option Addr) (l : List Int) (n c : Nat) (hn : Hid (l.length = n)) (hz : n ≤ 1000) (hb : Hid (∀ x ∈ l, 0 ≤ x ∧ x ≤ 100000000000)) (w : World) (hA : Arr w A (flat icell l)) :
    Calls Try.prog 48 #[.slice A n c] w (Ret (.int .i64 l.sum) w) := by
  go_enter Try.func48, Try.ntmps48
  go_wp2_with fail
  have hR := Lib.hid (show (0 : Int) = (l.take 0).sum from rfl)
  go_loopw [3, 4] (fun s i wr => ∃ (k : Nat) (a : Int), k ≤ n ∧ i = .int .i64 k ∧ s = .int .i64 a ∧ 0 ≤ a ∧ a ≤ 100000000000 * (k : Int) ∧ Hid (a = (l.take k).sum) ∧ Below w.heap.size w wr) (fun _ i _ => n - (intOf i).toNat)
  case atStart => exact ⟨0, 0, by omega, rfl, rfl, by omega, by omega, hR, Below.refl _ _⟩
  case round =>
    clear hR
    obtain ⟨k, a, hk, rfl, rfl, ha0, ha1, hR, hbel⟩ := hrel
    by_cases hlt : k < n
    · obtain ⟨x, hx⟩ := get_of_lt (xs := l) (k := k) (by rw [hn.out]; exact hlt)
      obtain ⟨ad, rfl, hab, c0⟩ := icell_at (hA.below hbel) hx
      obtain ⟨x0, x1⟩ := hb.out x (List.mem_of_getElem? hx)
      have hR2 := Lib.hid (show a + x = (l.take (k + 1)).sum by rw [sum_take hx, hR.out])
      clear hR hx
      go_wp2_with fail
      exact ⟨⟨k + 1, a + x, by omega, by go_num, rfl, by omega, by omega, hR2, hbel⟩, by simp [intOf]; omega⟩
    · have hR2 := Lib.hid (hR.out.trans (by rw [List.take_of_length_le (by rw [hn.out]; omega)] : _ = l.sum))
      clear hR
      go_wp2_with fail
      go_returns
      exact Ret.mk (vi hR2.out) hbel
theorem same_refl (l : List Item) (o t p : Int) : sameB l l o t p o t p = true := by
  unfold sameB
  rw [(listBeq_iff Item.beq_iff l l).2 rfl]
  simp
theorem lPay_small (xs : List Item) (o t p k : Int) : (lPay xs o t p k).length ≤ xs.length := by unfold lPay; split <;> simp
theorem lPay_names {xs : List Item} {o t p k : Int} (h : ∀ x ∈ xs, x.name.size ≤ 100) : ∀ x ∈ lPay xs o t p k, x.name.size ≤ 9223372036854775807 := by
  intro x hx
  unfold lPay at hx
  split at hx
  · have := h x hx; omega
  · cases hx
theorem rTot_facts {xs : List Item} {o t p T X c : Int} (h : rTot xs o t p = #[.int .i64 T, .int .i64 X, .int .i64 c]) (hc : c = 0) : billB xs o t p = true ∧ T = totOf (sumGo xs 0) o t ∧ 0 ≤ X ∧ X ≤ T ∧ T ≤ 2 * sumGo xs 0 ∧ 0 ≤ sumGo xs 0 ∧ sumGo xs 0 ≤ 20000000000 := by
  unfold rTot at h
  by_cases hb : billB xs o t p = true
  · rw [if_pos hb] at h
    simp only [Array.mk.injEq, List.cons.injEq, Value.int.injEq, true_and, and_true] at h
    obtain ⟨rfl, rfl, _⟩ := h
    obtain ⟨s0, s1, x0, x1, x2, _, _⟩ := tot_facts hb
    exact ⟨hb, rfl, x0, x1, x2, s0, s1⟩
  · rw [if_neg hb] at h
    simp only [Array.mk.injEq, List.cons.injEq, Value.int.injEq, true_and, and_true] at h
    omega
theorem rTot_ok {xs : List Item} {o t p T X c : Int} (h : rTot xs o t p = #[.int .i64 T, .int .i64 X, .int .i64 c]) (hb : billB xs o t p = true) : T = totOf (sumGo xs 0) o t := by
  unfold rTot at h
  rw [if_pos hb] at h
  simp only [Array.mk.injEq, List.cons.injEq, Value.int.injEq, true_and, and_true] at h
  exact h.1.symm
theorem rSum_ok {xs : List Item} {o t p S c : Int} (h : rSum xs o t p = #[.int .i64 S, .int .i64 c]) (hb : billB xs o t p = true) : S = sumGo xs 0 := by
  unfold rSum at h
  rw [if_pos hb] at h
  simp only [Array.mk.injEq, List.cons.injEq, Value.int.injEq, true_and, and_true] at h
  exact h.1.symm
theorem rTot_form (xs : List Item) (o t p : Int) : ∃ a b c : Int, rTot xs o t p = #[.int .i64 a, .int .i64 b, .int .i64 c] := by unfold rTot; split <;> exact ⟨_, _, _, rfl⟩
theorem rSum_form (xs : List Item) (o t p : Int) : ∃ a b : Int, rSum xs o t p = #[.int .i64 a, .int .i64 b] := by unfold rSum; split <;> exact ⟨_, _, rfl⟩
set_option maxRecDepth 100000 in
set_option maxHeartbeats 8000000 in
theorem FnBills_law (C : Option Addr) (nn cc : Nat) (cs : List UInt8) (hnn : Hid (cs.length = nn)) (w : World) (hA : Arr w C (cs.map bvS)) (hlt : ∀ ad, C = some ad → ad.block < w.heap.size) :
    Calls Try.prog 4 #[.slice C nn cc] w (Ret (.bool true) w) := by
  have hA0 := Lib.hid hA
  have hL0 := Lib.hid hlt
  clear hA hlt
  go_enter Try.func4, Try.ntmps4
  go_wp2_with fail
  refine (f6big_c C nn cc w).mono ?_
  rintro e W ⟨rfl, hv⟩
  by_cases hb4 : 4096 < nn
  · go_wp2_with fail
    go_returns
    exact Ret.mk rfl hv
  go_wp2_with fail
  refine (DrawPayBill_c C nn cc cs hnn (by omega) _ (hA0.out.below hv) (fun ad e => Nat.lt_of_lt_of_le (hL0.out ad e) hv.size)).mono ?_
  rintro e W ⟨ga, xs, n, c, o, t, p, k, rfl, hn', hn21, hs', hox, hb⟩
  have hn := Lib.hid hn'
  have hs : Hid (∀ x ∈ xs, x.name.size ≤ 9223372036854775807) := Lib.hid (fun x hx => Nat.le_trans (hs' x hx) (by omega))
  have HNM := Lib.hid hs'
  have hz : (n : Int) ≤ 1048576 := by omega
  have hq : n ≤ 21 := hn21
  clear hn' hs' hn21
  obtain ⟨lx, ux, h_own, z0, z1⟩ := Own.named hox hb
  replace hox := h_own
  clear h_own
  have z2 := Lib.hid hb.size
  replace hv := bl_trans hv hb
  clear hb
  obtain ⟨l, hl⟩ : ∃ z, z = lPay xs o t p k := ⟨_, rfl⟩
  obtain ⟨lo, hlo⟩ : ∃ z, z = vPay xs o t p k o := ⟨_, rfl⟩
  obtain ⟨lt, hlt⟩ : ∃ z, z = vPay xs o t p k t := ⟨_, rfl⟩
  obtain ⟨lp, hlp⟩ : ∃ z, z = vPay xs o t p k (p + k) := ⟨_, rfl⟩
  obtain ⟨pc, hpc⟩ : ∃ z, z = cPay xs o t p k := ⟨_, rfl⟩
  obtain ⟨r, hr⟩ : ∃ z, z = l.length := ⟨_, rfl⟩
  have hr21 : r ≤ 21 := by have := lPay_small xs o t p k; have := hn.out; rw [← hl] at *; omega
  have hls : Hid (∀ x ∈ l, x.name.size ≤ 9223372036854775807) := Lib.hid (by rw [hl]; exact lPay_names HNM.out)
  have HP1 := fun w h => PayBill_c ⟨ga, 0, none⟩ (some ⟨ga, 0, none⟩) xs n c o t p hn rfl k hz hs w h
  have HP2 := fun w h => SPayBill_c ⟨ga, 0, none⟩ (some ⟨ga, 0, none⟩) xs n c o t p hn rfl k hz hs w h
  unfold OutP at HP1 HP2
  rw [← hl, ← hlo, ← hlt, ← hlp, ← hpc, ← hr] at HP1 HP2
  replace HP1 := Lib.hid HP1
  replace HP2 := Lib.hid HP2
  have HPF := Lib.hid (fun h : pc = 0 => pay_facts (xs := xs) (o := o) (t := t) (p := p) (k := k) (hpc.symm.trans h))
  rw [← hl, ← hlo, ← hlt, ← hlp] at HPF
  have HRL := Lib.hid hr.symm
  have HSM := Lib.hid (same_refl l lo lt lp)
  clear hl hlo hlt hlp hpc hr
  obtain ⟨W0, hW0⟩ : ∃ W0, W0 = W.alloc (Obj.cells #[Value.slice (some ⟨ga, 0, none⟩) n c, Value.int IntKind.i64 o, Value.int IntKind.i64 t, Value.int IntKind.i64 p] 49) := ⟨_, rfl⟩
  obtain ⟨g1, hgx⟩ : ∃ gx, gx = W.heap.size := ⟨_, rfl⟩
  have hb : Below W.heap.size W W0 := by rw [hW0]; exact bl_alloc (Below.refl _ _) _
  have hB1 : Blk W0 g1 49 #[Value.slice (some ⟨ga, 0, none⟩) n c, Value.int IntKind.i64 o, Value.int IntKind.i64 t, Value.int IntKind.i64 p] := by rw [hW0, hgx]; exact Blk.new _ _ _
  have z3 := Lib.hid (Nat.le_of_eq hgx.symm)
  have z4 := Lib.hid hB1.lt
  go_wp2_with fail
  rw [← hW0, ← hgx]
  clear hW0 hgx 
  have z5 := Lib.hid hb.size
  replace hv := bl_trans hv hb
  replace hox := hox.below hb
  clear hb
  have k10 : W0.cell? ⟨g1, 0, none⟩ = some (Value.slice (some ⟨ga, 0, none⟩) n c) := hB1.cell 0
  have k11 : W0.cell? ⟨g1, 1, none⟩ = some (Value.int IntKind.i64 o) := hB1.cell 1
  have k12 : W0.cell? ⟨g1, 2, none⟩ = some (Value.int IntKind.i64 t) := hB1.cell 2
  have k13 : W0.cell? ⟨g1, 3, none⟩ = some (Value.int IntKind.i64 p) := hB1.cell 3
  refine (HP1.out _ hox.arr).mono ?_
  rintro e W ⟨Bx1, dx1, rfl, hp1, hb⟩
  obtain ⟨lp1, up1, h_own, z6, z7⟩ := Own.named hp1 hb
  replace hp1 := h_own
  clear h_own
  have z8 := Lib.hid hb.size
  replace hv := bl_trans hv hb
  replace hB1 := hB1.below hb
  replace hox := hox.below hb
  clear hb
  have k10 : W.cell? ⟨g1, 0, none⟩ = some (Value.slice (some ⟨ga, 0, none⟩) n c) := hB1.cell 0
  have k11 : W.cell? ⟨g1, 1, none⟩ = some (Value.int IntKind.i64 o) := hB1.cell 1
  have k12 : W.cell? ⟨g1, 2, none⟩ = some (Value.int IntKind.i64 t) := hB1.cell 2
  have k13 : W.cell? ⟨g1, 3, none⟩ = some (Value.int IntKind.i64 p) := hB1.cell 3
  obtain ⟨W0, hW0⟩ : ∃ W0, W0 = W.alloc (Obj.cells #[Value.slice Bx1 r dx1, Value.int IntKind.i64 lo, Value.int IntKind.i64 lt, Value.int IntKind.i64 lp] 49) := ⟨_, rfl⟩
  obtain ⟨gx1, hgx⟩ : ∃ gx, gx = W.heap.size := ⟨_, rfl⟩
  have hb : Below W.heap.size W W0 := by rw [hW0]; exact bl_alloc (Below.refl _ _) _
  have hX1 : Blk W0 gx1 49 #[Value.slice Bx1 r dx1, Value.int IntKind.i64 lo, Value.int IntKind.i64 lt, Value.int IntKind.i64 lp] := by rw [hW0, hgx]; exact Blk.new _ _ _
  have a_k10 : ∀ O, (World.alloc W O).cell? ⟨g1, 0, none⟩ = some (Value.slice (some ⟨ga, 0, none⟩) n c) := fun O => (hB1.alloc O).cell 0
  have a_k11 : ∀ O, (World.alloc W O).cell? ⟨g1, 1, none⟩ = some (Value.int IntKind.i64 o) := fun O => (hB1.alloc O).cell 1
  have a_k12 : ∀ O, (World.alloc W O).cell? ⟨g1, 2, none⟩ = some (Value.int IntKind.i64 t) := fun O => (hB1.alloc O).cell 2
  have a_k13 : ∀ O, (World.alloc W O).cell? ⟨g1, 3, none⟩ = some (Value.int IntKind.i64 p) := fun O => (hB1.alloc O).cell 3
  have z9 := Lib.hid (Nat.le_of_eq hgx.symm)
  have z10 := Lib.hid hX1.lt
  go_wp2_with fail
  rw [← hW0, ← hgx]
  clear hW0 hgx a_k10 a_k11 a_k12 a_k13
  have z11 := Lib.hid hb.size
  replace hv := bl_trans hv hb
  replace hB1 := hB1.below hb
  replace hox := hox.below hb
  replace hp1 := hp1.below hb
  clear hb
  have k10 : W0.cell? ⟨g1, 0, none⟩ = some (Value.slice (some ⟨ga, 0, none⟩) n c) := hB1.cell 0
  have k11 : W0.cell? ⟨g1, 1, none⟩ = some (Value.int IntKind.i64 o) := hB1.cell 1
  have k12 : W0.cell? ⟨g1, 2, none⟩ = some (Value.int IntKind.i64 t) := hB1.cell 2
  have k13 : W0.cell? ⟨g1, 3, none⟩ = some (Value.int IntKind.i64 p) := hB1.cell 3
  have x10 : W0.cell? ⟨gx1, 0, none⟩ = some (Value.slice Bx1 r dx1) := hX1.cell 0
  have x11 : W0.cell? ⟨gx1, 1, none⟩ = some (Value.int IntKind.i64 lo) := hX1.cell 1
  have x12 : W0.cell? ⟨gx1, 2, none⟩ = some (Value.int IntKind.i64 lt) := hX1.cell 2
  have x13 : W0.cell? ⟨gx1, 3, none⟩ = some (Value.int IntKind.i64 lp) := hX1.cell 3
  refine (HP2.out _ hox.arr).mono ?_
  rintro e W ⟨Bx2, dx2, rfl, hp2, hb⟩
  obtain ⟨lp2, up2, h_own, z12, z13⟩ := Own.named hp2 hb
  replace hp2 := h_own
  clear h_own
  have z14 := Lib.hid hb.size
  replace hv := bl_trans hv hb
  replace hB1 := hB1.below hb
  replace hX1 := hX1.below hb
  replace hox := hox.below hb
  replace hp1 := hp1.below hb
  clear hb
  have k10 : W.cell? ⟨g1, 0, none⟩ = some (Value.slice (some ⟨ga, 0, none⟩) n c) := hB1.cell 0
  have k11 : W.cell? ⟨g1, 1, none⟩ = some (Value.int IntKind.i64 o) := hB1.cell 1
  have k12 : W.cell? ⟨g1, 2, none⟩ = some (Value.int IntKind.i64 t) := hB1.cell 2
  have k13 : W.cell? ⟨g1, 3, none⟩ = some (Value.int IntKind.i64 p) := hB1.cell 3
  have x10 : W.cell? ⟨gx1, 0, none⟩ = some (Value.slice Bx1 r dx1) := hX1.cell 0
  have x11 : W.cell? ⟨gx1, 1, none⟩ = some (Value.int IntKind.i64 lo) := hX1.cell 1
  have x12 : W.cell? ⟨gx1, 2, none⟩ = some (Value.int IntKind.i64 lt) := hX1.cell 2
  have x13 : W.cell? ⟨gx1, 3, none⟩ = some (Value.int IntKind.i64 lp) := hX1.cell 3
  obtain ⟨W0, hW0⟩ : ∃ W0, W0 = W.alloc (Obj.cells #[Value.slice Bx2 r dx2, Value.int IntKind.i64 lo, Value.int IntKind.i64 lt, Value.int IntKind.i64 lp] 49) := ⟨_, rfl⟩
  obtain ⟨gx2, hgx⟩ : ∃ gx, gx = W.heap.size := ⟨_, rfl⟩
  have hb : Below W.heap.size W W0 := by rw [hW0]; exact bl_alloc (Below.refl _ _) _
  have hX2 : Blk W0 gx2 49 #[Value.slice Bx2 r dx2, Value.int IntKind.i64 lo, Value.int IntKind.i64 lt, Value.int IntKind.i64 lp] := by rw [hW0, hgx]; exact Blk.new _ _ _
  have a_k10 : ∀ O, (World.alloc W O).cell? ⟨g1, 0, none⟩ = some (Value.slice (some ⟨ga, 0, none⟩) n c) := fun O => (hB1.alloc O).cell 0
  have a_k11 : ∀ O, (World.alloc W O).cell? ⟨g1, 1, none⟩ = some (Value.int IntKind.i64 o) := fun O => (hB1.alloc O).cell 1
  have a_k12 : ∀ O, (World.alloc W O).cell? ⟨g1, 2, none⟩ = some (Value.int IntKind.i64 t) := fun O => (hB1.alloc O).cell 2
  have a_k13 : ∀ O, (World.alloc W O).cell? ⟨g1, 3, none⟩ = some (Value.int IntKind.i64 p) := fun O => (hB1.alloc O).cell 3
  have a_x10 : ∀ O, (World.alloc W O).cell? ⟨gx1, 0, none⟩ = some (Value.slice Bx1 r dx1) := fun O => (hX1.alloc O).cell 0
  have a_x11 : ∀ O, (World.alloc W O).cell? ⟨gx1, 1, none⟩ = some (Value.int IntKind.i64 lo) := fun O => (hX1.alloc O).cell 1
  have a_x12 : ∀ O, (World.alloc W O).cell? ⟨gx1, 2, none⟩ = some (Value.int IntKind.i64 lt) := fun O => (hX1.alloc O).cell 2
  have a_x13 : ∀ O, (World.alloc W O).cell? ⟨gx1, 3, none⟩ = some (Value.int IntKind.i64 lp) := fun O => (hX1.alloc O).cell 3
  have z15 := Lib.hid (Nat.le_of_eq hgx.symm)
  have z16 := Lib.hid hX2.lt
  go_wp2_with fail
  rw [← hW0, ← hgx]
  clear hW0 hgx a_k10 a_k11 a_k12 a_k13 a_x10 a_x11 a_x12 a_x13
  have z17 := Lib.hid hb.size
  replace hv := bl_trans hv hb
  replace hB1 := hB1.below hb
  replace hX1 := hX1.below hb
  replace hox := hox.below hb
  replace hp1 := hp1.below hb
  replace hp2 := hp2.below hb
  clear hb
  have k10 : W0.cell? ⟨g1, 0, none⟩ = some (Value.slice (some ⟨ga, 0, none⟩) n c) := hB1.cell 0
  have k11 : W0.cell? ⟨g1, 1, none⟩ = some (Value.int IntKind.i64 o) := hB1.cell 1
  have k12 : W0.cell? ⟨g1, 2, none⟩ = some (Value.int IntKind.i64 t) := hB1.cell 2
  have k13 : W0.cell? ⟨g1, 3, none⟩ = some (Value.int IntKind.i64 p) := hB1.cell 3
  have x10 : W0.cell? ⟨gx1, 0, none⟩ = some (Value.slice Bx1 r dx1) := hX1.cell 0
  have x11 : W0.cell? ⟨gx1, 1, none⟩ = some (Value.int IntKind.i64 lo) := hX1.cell 1
  have x12 : W0.cell? ⟨gx1, 2, none⟩ = some (Value.int IntKind.i64 lt) := hX1.cell 2
  have x13 : W0.cell? ⟨gx1, 3, none⟩ = some (Value.int IntKind.i64 lp) := hX1.cell 3
  have x20 : W0.cell? ⟨gx2, 0, none⟩ = some (Value.slice Bx2 r dx2) := hX2.cell 0
  have x21 : W0.cell? ⟨gx2, 1, none⟩ = some (Value.int IntKind.i64 lo) := hX2.cell 1
  have x22 : W0.cell? ⟨gx2, 2, none⟩ = some (Value.int IntKind.i64 lt) := hX2.cell 2
  have x23 : W0.cell? ⟨gx2, 3, none⟩ = some (Value.int IntKind.i64 lp) := hX2.cell 3
  refine (DrawPricePerItem_c C nn cc cs hnn (by omega) _ (hA0.out.below hv) (fun ad e => Nat.lt_of_lt_of_le (hL0.out ad e) hv.size)).mono ?_
  rintro e W ⟨ga2, xs2, n2, c2, o2, t2, p2, rfl, hn', hn21, hs', hox2, hb⟩
  have hn2 := Lib.hid hn'
  have hs2 : Hid (∀ x ∈ xs2, x.name.size ≤ 9223372036854775807) := Lib.hid (fun x hx => Nat.le_trans (hs' x hx) (by omega))
  have HNM2 := Lib.hid hs'
  have hz2 : (n2 : Int) ≤ 1048576 := by omega
  have hq2 : n2 ≤ 21 := hn21
  clear hn' hs' hn21
  obtain ⟨lx2, ux2, h_own, z18, z19⟩ := Own.named hox2 hb
  replace hox2 := h_own
  clear h_own
  have z20 := Lib.hid hb.size
  replace hv := bl_trans hv hb
  replace hB1 := hB1.below hb
  replace hX1 := hX1.below hb
  replace hX2 := hX2.below hb
  replace hox := hox.below hb
  replace hp1 := hp1.below hb
  replace hp2 := hp2.below hb
  clear hb
  have k10 : W.cell? ⟨g1, 0, none⟩ = some (Value.slice (some ⟨ga, 0, none⟩) n c) := hB1.cell 0
  have k11 : W.cell? ⟨g1, 1, none⟩ = some (Value.int IntKind.i64 o) := hB1.cell 1
  have k12 : W.cell? ⟨g1, 2, none⟩ = some (Value.int IntKind.i64 t) := hB1.cell 2
  have k13 : W.cell? ⟨g1, 3, none⟩ = some (Value.int IntKind.i64 p) := hB1.cell 3
  have x10 : W.cell? ⟨gx1, 0, none⟩ = some (Value.slice Bx1 r dx1) := hX1.cell 0
  have x11 : W.cell? ⟨gx1, 1, none⟩ = some (Value.int IntKind.i64 lo) := hX1.cell 1
  have x12 : W.cell? ⟨gx1, 2, none⟩ = some (Value.int IntKind.i64 lt) := hX1.cell 2
  have x13 : W.cell? ⟨gx1, 3, none⟩ = some (Value.int IntKind.i64 lp) := hX1.cell 3
  have x20 : W.cell? ⟨gx2, 0, none⟩ = some (Value.slice Bx2 r dx2) := hX2.cell 0
  have x21 : W.cell? ⟨gx2, 1, none⟩ = some (Value.int IntKind.i64 lo) := hX2.cell 1
  have x22 : W.cell? ⟨gx2, 2, none⟩ = some (Value.int IntKind.i64 lt) := hX2.cell 2
  have x23 : W.cell? ⟨gx2, 3, none⟩ = some (Value.int IntKind.i64 lp) := hX2.cell 3
  obtain ⟨P, hP⟩ : ∃ z, z = iPrice xs2 o2 t2 p2 := ⟨_, rfl⟩
  obtain ⟨Pc, hPc⟩ : ∃ z, z = cPrice xs2 o2 t2 p2 := ⟨_, rfl⟩
  obtain ⟨rp, hrp⟩ : ∃ z, z = P.length := ⟨_, rfl⟩
  have hrp20 : rp ≤ 20 := by rw [hrp, hP]; exact price_len _ _ _ _
  have HPM : Hid (∀ v ∈ P, 0 ≤ v ∧ v ≤ 100000000000) := Lib.hid (by rw [hP]; exact fun v hv => price_mem hv)
  obtain ⟨T, X, Tc, hT⟩ := rTot_form xs2 o2 t2 p2
  obtain ⟨Sm, Sc, hSm⟩ := rSum_form xs2 o2 t2 p2
  have HPP := Lib.hid (fun h : Pc = 0 => by have h1 := price_sum (xs := xs2) (o := o2) (t := t2) (p := p2) (hPc.symm.trans h); rw [← hP] at h1; exact And.intro h1.1 (h1.2.trans (rTot_ok hT h1.1).symm) : Pc = 0 → billB xs2 o2 t2 p2 = true ∧ P.sum = T)
  have HTT := Lib.hid (fun h : Tc = 0 => by have h1 := rTot_facts hT h; have h2 := rSum_ok hSm h1.1; exact (by omega) : Tc = 0 → 0 ≤ X ∧ X ≤ T ∧ T ≤ 2 * Sm ∧ 0 ≤ Sm ∧ Sm ≤ 20000000000)
  have HQ1 := fun w h => PricePerItem_c (some ⟨ga2, 0, none⟩) xs2 n2 c2 o2 t2 p2 hn2 hz2 hs2 w h
  have HQ2 := fun w h => SPricePerItem_c (some ⟨ga2, 0, none⟩) xs2 n2 c2 o2 t2 p2 hn2 hz2 hs2 w h
  unfold OutL at HQ1 HQ2
  rw [← hP, ← hPc, ← hrp] at HQ1 HQ2
  replace HQ1 := Lib.hid HQ1
  replace HQ2 := Lib.hid HQ2
  have HT1 := Lib.hid (fun w h => hT ▸ TotalOfBill_c (some ⟨ga2, 0, none⟩) xs2 n2 c2 o2 t2 p2 hn2 hz2 hs2 w h)
  have HT2 := Lib.hid (fun w h => hT ▸ STotalOfBill_c (some ⟨ga2, 0, none⟩) xs2 n2 c2 o2 t2 p2 hn2 hz2 hs2 w h)
  have HS1 := Lib.hid (fun w h => hSm ▸ SumOfBill_c (some ⟨ga2, 0, none⟩) xs2 n2 c2 o2 t2 p2 hn2 hz2 hs2 w h)
  have HS2 := Lib.hid (fun w h => hSm ▸ SSumOfBill_c (some ⟨ga2, 0, none⟩) xs2 n2 c2 o2 t2 p2 hn2 hz2 hs2 w h)
  obtain ⟨vb, hvb⟩ : ∃ z, z = billB xs2 o2 t2 p2 := ⟨_, rfl⟩
  have HV1 := Lib.hid (fun w h => hvb ▸ validBill_c (some ⟨ga2, 0, none⟩) xs2 n2 c2 o2 t2 p2 hn2 hz2 hs2 w h)
  have HV2 := Lib.hid (fun w h => hvb ▸ SValidBill_c (some ⟨ga2, 0, none⟩) xs2 n2 c2 o2 t2 p2 hn2 hz2 hs2 w h)
  have HRP := Lib.hid hrp.symm
  clear hP hPc hrp hT hSm hvb
  obtain ⟨W0, hW0⟩ : ∃ W0, W0 = W.alloc (Obj.cells #[Value.slice (some ⟨ga2, 0, none⟩) n2 c2, Value.int IntKind.i64 o2, Value.int IntKind.i64 t2, Value.int IntKind.i64 p2] 49) := ⟨_, rfl⟩
  obtain ⟨g2, hgx⟩ : ∃ gx, gx = W.heap.size := ⟨_, rfl⟩
  have hb : Below W.heap.size W W0 := by rw [hW0]; exact bl_alloc (Below.refl _ _) _
  have hB2 : Blk W0 g2 49 #[Value.slice (some ⟨ga2, 0, none⟩) n2 c2, Value.int IntKind.i64 o2, Value.int IntKind.i64 t2, Value.int IntKind.i64 p2] := by rw [hW0, hgx]; exact Blk.new _ _ _
  have a_k10 : ∀ O, (World.alloc W O).cell? ⟨g1, 0, none⟩ = some (Value.slice (some ⟨ga, 0, none⟩) n c) := fun O => (hB1.alloc O).cell 0
  have a_k11 : ∀ O, (World.alloc W O).cell? ⟨g1, 1, none⟩ = some (Value.int IntKind.i64 o) := fun O => (hB1.alloc O).cell 1
  have a_k12 : ∀ O, (World.alloc W O).cell? ⟨g1, 2, none⟩ = some (Value.int IntKind.i64 t) := fun O => (hB1.alloc O).cell 2
  have a_k13 : ∀ O, (World.alloc W O).cell? ⟨g1, 3, none⟩ = some (Value.int IntKind.i64 p) := fun O => (hB1.alloc O).cell 3
  have a_x10 : ∀ O, (World.alloc W O).cell? ⟨gx1, 0, none⟩ = some (Value.slice Bx1 r dx1) := fun O => (hX1.alloc O).cell 0
  have a_x11 : ∀ O, (World.alloc W O).cell? ⟨gx1, 1, none⟩ = some (Value.int IntKind.i64 lo) := fun O => (hX1.alloc O).cell 1
  have a_x12 : ∀ O, (World.alloc W O).cell? ⟨gx1, 2, none⟩ = some (Value.int IntKind.i64 lt) := fun O => (hX1.alloc O).cell 2
  have a_x13 : ∀ O, (World.alloc W O).cell? ⟨gx1, 3, none⟩ = some (Value.int IntKind.i64 lp) := fun O => (hX1.alloc O).cell 3
  have a_x20 : ∀ O, (World.alloc W O).cell? ⟨gx2, 0, none⟩ = some (Value.slice Bx2 r dx2) := fun O => (hX2.alloc O).cell 0
  have a_x21 : ∀ O, (World.alloc W O).cell? ⟨gx2, 1, none⟩ = some (Value.int IntKind.i64 lo) := fun O => (hX2.alloc O).cell 1
  have a_x22 : ∀ O, (World.alloc W O).cell? ⟨gx2, 2, none⟩ = some (Value.int IntKind.i64 lt) := fun O => (hX2.alloc O).cell 2
  have a_x23 : ∀ O, (World.alloc W O).cell? ⟨gx2, 3, none⟩ = some (Value.int IntKind.i64 lp) := fun O => (hX2.alloc O).cell 3
  have z21 := Lib.hid (Nat.le_of_eq hgx.symm)
  have z22 := Lib.hid hB2.lt
  go_wp2_with fail
  rw [← hW0, ← hgx]
  clear hW0 hgx a_k10 a_k11 a_k12 a_k13 a_x10 a_x11 a_x12 a_x13 a_x20 a_x21 a_x22 a_x23
  have z23 := Lib.hid hb.size
  replace hv := bl_trans hv hb
  replace hB1 := hB1.below hb
  replace hX1 := hX1.below hb
  replace hX2 := hX2.below hb
  replace hox := hox.below hb
  replace hp1 := hp1.below hb
  replace hp2 := hp2.below hb
  replace hox2 := hox2.below hb
  clear hb
  have k10 : W0.cell? ⟨g1, 0, none⟩ = some (Value.slice (some ⟨ga, 0, none⟩) n c) := hB1.cell 0
  have k11 : W0.cell? ⟨g1, 1, none⟩ = some (Value.int IntKind.i64 o) := hB1.cell 1
  have k12 : W0.cell? ⟨g1, 2, none⟩ = some (Value.int IntKind.i64 t) := hB1.cell 2
  have k13 : W0.cell? ⟨g1, 3, none⟩ = some (Value.int IntKind.i64 p) := hB1.cell 3
  have x10 : W0.cell? ⟨gx1, 0, none⟩ = some (Value.slice Bx1 r dx1) := hX1.cell 0
  have x11 : W0.cell? ⟨gx1, 1, none⟩ = some (Value.int IntKind.i64 lo) := hX1.cell 1
  have x12 : W0.cell? ⟨gx1, 2, none⟩ = some (Value.int IntKind.i64 lt) := hX1.cell 2
  have x13 : W0.cell? ⟨gx1, 3, none⟩ = some (Value.int IntKind.i64 lp) := hX1.cell 3
  have x20 : W0.cell? ⟨gx2, 0, none⟩ = some (Value.slice Bx2 r dx2) := hX2.cell 0
  have x21 : W0.cell? ⟨gx2, 1, none⟩ = some (Value.int IntKind.i64 lo) := hX2.cell 1
  have x22 : W0.cell? ⟨gx2, 2, none⟩ = some (Value.int IntKind.i64 lt) := hX2.cell 2
  have x23 : W0.cell? ⟨gx2, 3, none⟩ = some (Value.int IntKind.i64 lp) := hX2.cell 3
  have k20 : W0.cell? ⟨g2, 0, none⟩ = some (Value.slice (some ⟨ga2, 0, none⟩) n2 c2) := hB2.cell 0
  have k21 : W0.cell? ⟨g2, 1, none⟩ = some (Value.int IntKind.i64 o2) := hB2.cell 1
  have k22 : W0.cell? ⟨g2, 2, none⟩ = some (Value.int IntKind.i64 t2) := hB2.cell 2
  have k23 : W0.cell? ⟨g2, 3, none⟩ = some (Value.int IntKind.i64 p2) := hB2.cell 3
  refine (HQ1.out _ hox2.arr).mono ?_
  rintro e W ⟨B3, d3, rfl, ho3, hb⟩
  obtain ⟨lo3, uo3, h_own, z24, z25⟩ := Own.named ho3 hb
  replace ho3 := h_own
  clear h_own
  have z26 := Lib.hid hb.size
  replace hv := bl_trans hv hb
  replace hB1 := hB1.below hb
  replace hX1 := hX1.below hb
  replace hX2 := hX2.below hb
  replace hB2 := hB2.below hb
  replace hox := hox.below hb
  replace hp1 := hp1.below hb
  replace hp2 := hp2.below hb
  replace hox2 := hox2.below hb
  clear hb
  have k10 : W.cell? ⟨g1, 0, none⟩ = some (Value.slice (some ⟨ga, 0, none⟩) n c) := hB1.cell 0
  have k11 : W.cell? ⟨g1, 1, none⟩ = some (Value.int IntKind.i64 o) := hB1.cell 1
  have k12 : W.cell? ⟨g1, 2, none⟩ = some (Value.int IntKind.i64 t) := hB1.cell 2
  have k13 : W.cell? ⟨g1, 3, none⟩ = some (Value.int IntKind.i64 p) := hB1.cell 3
  have x10 : W.cell? ⟨gx1, 0, none⟩ = some (Value.slice Bx1 r dx1) := hX1.cell 0
  have x11 : W.cell? ⟨gx1, 1, none⟩ = some (Value.int IntKind.i64 lo) := hX1.cell 1
  have x12 : W.cell? ⟨gx1, 2, none⟩ = some (Value.int IntKind.i64 lt) := hX1.cell 2
  have x13 : W.cell? ⟨gx1, 3, none⟩ = some (Value.int IntKind.i64 lp) := hX1.cell 3
  have x20 : W.cell? ⟨gx2, 0, none⟩ = some (Value.slice Bx2 r dx2) := hX2.cell 0
  have x21 : W.cell? ⟨gx2, 1, none⟩ = some (Value.int IntKind.i64 lo) := hX2.cell 1
  have x22 : W.cell? ⟨gx2, 2, none⟩ = some (Value.int IntKind.i64 lt) := hX2.cell 2
  have x23 : W.cell? ⟨gx2, 3, none⟩ = some (Value.int IntKind.i64 lp) := hX2.cell 3
  have k20 : W.cell? ⟨g2, 0, none⟩ = some (Value.slice (some ⟨ga2, 0, none⟩) n2 c2) := hB2.cell 0
  have k21 : W.cell? ⟨g2, 1, none⟩ = some (Value.int IntKind.i64 o2) := hB2.cell 1
  have k22 : W.cell? ⟨g2, 2, none⟩ = some (Value.int IntKind.i64 t2) := hB2.cell 2
  have k23 : W.cell? ⟨g2, 3, none⟩ = some (Value.int IntKind.i64 p2) := hB2.cell 3
  go_wp2_with fail
  refine (HQ2.out _ hox2.arr).mono ?_
  rintro e W ⟨B4, d4, rfl, ho4, hb⟩
  obtain ⟨lo4, uo4, h_own, z27, z28⟩ := Own.named ho4 hb
  replace ho4 := h_own
  clear h_own
  have z29 := Lib.hid hb.size
  replace hv := bl_trans hv hb
  replace hB1 := hB1.below hb
  replace hX1 := hX1.below hb
  replace hX2 := hX2.below hb
  replace hB2 := hB2.below hb
  replace hox := hox.below hb
  replace hp1 := hp1.below hb
  replace hp2 := hp2.below hb
  replace hox2 := hox2.below hb
  replace ho3 := ho3.below hb
  clear hb
  have k10 : W.cell? ⟨g1, 0, none⟩ = some (Value.slice (some ⟨ga, 0, none⟩) n c) := hB1.cell 0
  have k11 : W.cell? ⟨g1, 1, none⟩ = some (Value.int IntKind.i64 o) := hB1.cell 1
  have k12 : W.cell? ⟨g1, 2, none⟩ = some (Value.int IntKind.i64 t) := hB1.cell 2
  have k13 : W.cell? ⟨g1, 3, none⟩ = some (Value.int IntKind.i64 p) := hB1.cell 3
  have x10 : W.cell? ⟨gx1, 0, none⟩ = some (Value.slice Bx1 r dx1) := hX1.cell 0
  have x11 : W.cell? ⟨gx1, 1, none⟩ = some (Value.int IntKind.i64 lo) := hX1.cell 1
  have x12 : W.cell? ⟨gx1, 2, none⟩ = some (Value.int IntKind.i64 lt) := hX1.cell 2
  have x13 : W.cell? ⟨gx1, 3, none⟩ = some (Value.int IntKind.i64 lp) := hX1.cell 3
  have x20 : W.cell? ⟨gx2, 0, none⟩ = some (Value.slice Bx2 r dx2) := hX2.cell 0
  have x21 : W.cell? ⟨gx2, 1, none⟩ = some (Value.int IntKind.i64 lo) := hX2.cell 1
  have x22 : W.cell? ⟨gx2, 2, none⟩ = some (Value.int IntKind.i64 lt) := hX2.cell 2
  have x23 : W.cell? ⟨gx2, 3, none⟩ = some (Value.int IntKind.i64 lp) := hX2.cell 3
  have k20 : W.cell? ⟨g2, 0, none⟩ = some (Value.slice (some ⟨ga2, 0, none⟩) n2 c2) := hB2.cell 0
  have k21 : W.cell? ⟨g2, 1, none⟩ = some (Value.int IntKind.i64 o2) := hB2.cell 1
  have k22 : W.cell? ⟨g2, 2, none⟩ = some (Value.int IntKind.i64 t2) := hB2.cell 2
  have k23 : W.cell? ⟨g2, 3, none⟩ = some (Value.int IntKind.i64 p2) := hB2.cell 3
  go_wp2_with fail
  refine (HT1.out _ hox2.arr).mono ?_
  rintro e W ⟨rfl, hb⟩
  have z30 := Lib.hid hb.size
  replace hv := bl_trans hv hb
  replace hB1 := hB1.below hb
  replace hX1 := hX1.below hb
  replace hX2 := hX2.below hb
  replace hB2 := hB2.below hb
  replace hox := hox.below hb
  replace hp1 := hp1.below hb
  replace hp2 := hp2.below hb
  replace hox2 := hox2.below hb
  replace ho3 := ho3.below hb
  replace ho4 := ho4.below hb
  clear hb
  have k10 : W.cell? ⟨g1, 0, none⟩ = some (Value.slice (some ⟨ga, 0, none⟩) n c) := hB1.cell 0
  have k11 : W.cell? ⟨g1, 1, none⟩ = some (Value.int IntKind.i64 o) := hB1.cell 1
  have k12 : W.cell? ⟨g1, 2, none⟩ = some (Value.int IntKind.i64 t) := hB1.cell 2
  have k13 : W.cell? ⟨g1, 3, none⟩ = some (Value.int IntKind.i64 p) := hB1.cell 3
  have x10 : W.cell? ⟨gx1, 0, none⟩ = some (Value.slice Bx1 r dx1) := hX1.cell 0
  have x11 : W.cell? ⟨gx1, 1, none⟩ = some (Value.int IntKind.i64 lo) := hX1.cell 1
  have x12 : W.cell? ⟨gx1, 2, none⟩ = some (Value.int IntKind.i64 lt) := hX1.cell 2
  have x13 : W.cell? ⟨gx1, 3, none⟩ = some (Value.int IntKind.i64 lp) := hX1.cell 3
  have x20 : W.cell? ⟨gx2, 0, none⟩ = some (Value.slice Bx2 r dx2) := hX2.cell 0
  have x21 : W.cell? ⟨gx2, 1, none⟩ = some (Value.int IntKind.i64 lo) := hX2.cell 1
  have x22 : W.cell? ⟨gx2, 2, none⟩ = some (Value.int IntKind.i64 lt) := hX2.cell 2
  have x23 : W.cell? ⟨gx2, 3, none⟩ = some (Value.int IntKind.i64 lp) := hX2.cell 3
  have k20 : W.cell? ⟨g2, 0, none⟩ = some (Value.slice (some ⟨ga2, 0, none⟩) n2 c2) := hB2.cell 0
  have k21 : W.cell? ⟨g2, 1, none⟩ = some (Value.int IntKind.i64 o2) := hB2.cell 1
  have k22 : W.cell? ⟨g2, 2, none⟩ = some (Value.int IntKind.i64 t2) := hB2.cell 2
  have k23 : W.cell? ⟨g2, 3, none⟩ = some (Value.int IntKind.i64 p2) := hB2.cell 3
  go_wp2_with fail
  refine (HT2.out _ hox2.arr).mono ?_
  rintro e W ⟨rfl, hb⟩
  have z31 := Lib.hid hb.size
  replace hv := bl_trans hv hb
  replace hB1 := hB1.below hb
  replace hX1 := hX1.below hb
  replace hX2 := hX2.below hb
  replace hB2 := hB2.below hb
  replace hox := hox.below hb
  replace hp1 := hp1.below hb
  replace hp2 := hp2.below hb
  replace hox2 := hox2.below hb
  replace ho3 := ho3.below hb
  replace ho4 := ho4.below hb
  clear hb
  have k10 : W.cell? ⟨g1, 0, none⟩ = some (Value.slice (some ⟨ga, 0, none⟩) n c) := hB1.cell 0
  have k11 : W.cell? ⟨g1, 1, none⟩ = some (Value.int IntKind.i64 o) := hB1.cell 1
  have k12 : W.cell? ⟨g1, 2, none⟩ = some (Value.int IntKind.i64 t) := hB1.cell 2
  have k13 : W.cell? ⟨g1, 3, none⟩ = some (Value.int IntKind.i64 p) := hB1.cell 3
  have x10 : W.cell? ⟨gx1, 0, none⟩ = some (Value.slice Bx1 r dx1) := hX1.cell 0
  have x11 : W.cell? ⟨gx1, 1, none⟩ = some (Value.int IntKind.i64 lo) := hX1.cell 1
  have x12 : W.cell? ⟨gx1, 2, none⟩ = some (Value.int IntKind.i64 lt) := hX1.cell 2
  have x13 : W.cell? ⟨gx1, 3, none⟩ = some (Value.int IntKind.i64 lp) := hX1.cell 3
  have x20 : W.cell? ⟨gx2, 0, none⟩ = some (Value.slice Bx2 r dx2) := hX2.cell 0
  have x21 : W.cell? ⟨gx2, 1, none⟩ = some (Value.int IntKind.i64 lo) := hX2.cell 1
  have x22 : W.cell? ⟨gx2, 2, none⟩ = some (Value.int IntKind.i64 lt) := hX2.cell 2
  have x23 : W.cell? ⟨gx2, 3, none⟩ = some (Value.int IntKind.i64 lp) := hX2.cell 3
  have k20 : W.cell? ⟨g2, 0, none⟩ = some (Value.slice (some ⟨ga2, 0, none⟩) n2 c2) := hB2.cell 0
  have k21 : W.cell? ⟨g2, 1, none⟩ = some (Value.int IntKind.i64 o2) := hB2.cell 1
  have k22 : W.cell? ⟨g2, 2, none⟩ = some (Value.int IntKind.i64 t2) := hB2.cell 2
  have k23 : W.cell? ⟨g2, 3, none⟩ = some (Value.int IntKind.i64 p2) := hB2.cell 3
  go_wp2_with fail
  refine (HS1.out _ hox2.arr).mono ?_
  rintro e W ⟨rfl, hb⟩
  have z32 := Lib.hid hb.size
  replace hv := bl_trans hv hb
  replace hB1 := hB1.below hb
  replace hX1 := hX1.below hb
  replace hX2 := hX2.below hb
  replace hB2 := hB2.below hb
  replace hox := hox.below hb
  replace hp1 := hp1.below hb
  replace hp2 := hp2.below hb
  replace hox2 := hox2.below hb
  replace ho3 := ho3.below hb
  replace ho4 := ho4.below hb
  clear hb
  have k10 : W.cell? ⟨g1, 0, none⟩ = some (Value.slice (some ⟨ga, 0, none⟩) n c) := hB1.cell 0
  have k11 : W.cell? ⟨g1, 1, none⟩ = some (Value.int IntKind.i64 o) := hB1.cell 1
  have k12 : W.cell? ⟨g1, 2, none⟩ = some (Value.int IntKind.i64 t) := hB1.cell 2
  have k13 : W.cell? ⟨g1, 3, none⟩ = some (Value.int IntKind.i64 p) := hB1.cell 3
  have x10 : W.cell? ⟨gx1, 0, none⟩ = some (Value.slice Bx1 r dx1) := hX1.cell 0
  have x11 : W.cell? ⟨gx1, 1, none⟩ = some (Value.int IntKind.i64 lo) := hX1.cell 1
  have x12 : W.cell? ⟨gx1, 2, none⟩ = some (Value.int IntKind.i64 lt) := hX1.cell 2
  have x13 : W.cell? ⟨gx1, 3, none⟩ = some (Value.int IntKind.i64 lp) := hX1.cell 3
  have x20 : W.cell? ⟨gx2, 0, none⟩ = some (Value.slice Bx2 r dx2) := hX2.cell 0
  have x21 : W.cell? ⟨gx2, 1, none⟩ = some (Value.int IntKind.i64 lo) := hX2.cell 1
  have x22 : W.cell? ⟨gx2, 2, none⟩ = some (Value.int IntKind.i64 lt) := hX2.cell 2
  have x23 : W.cell? ⟨gx2, 3, none⟩ = some (Value.int IntKind.i64 lp) := hX2.cell 3
  have k20 : W.cell? ⟨g2, 0, none⟩ = some (Value.slice (some ⟨ga2, 0, none⟩) n2 c2) := hB2.cell 0
  have k21 : W.cell? ⟨g2, 1, none⟩ = some (Value.int IntKind.i64 o2) := hB2.cell 1
  have k22 : W.cell? ⟨g2, 2, none⟩ = some (Value.int IntKind.i64 t2) := hB2.cell 2
  have k23 : W.cell? ⟨g2, 3, none⟩ = some (Value.int IntKind.i64 p2) := hB2.cell 3
  go_wp2_with fail
  refine (HS2.out _ hox2.arr).mono ?_
  rintro e W ⟨rfl, hb⟩
  have z33 := Lib.hid hb.size
  replace hv := bl_trans hv hb
  replace hB1 := hB1.below hb
  replace hX1 := hX1.below hb
  replace hX2 := hX2.below hb
  replace hB2 := hB2.below hb
  replace hox := hox.below hb
  replace hp1 := hp1.below hb
  replace hp2 := hp2.below hb
  replace hox2 := hox2.below hb
  replace ho3 := ho3.below hb
  replace ho4 := ho4.below hb
  clear hb
  have k10 : W.cell? ⟨g1, 0, none⟩ = some (Value.slice (some ⟨ga, 0, none⟩) n c) := hB1.cell 0
  have k11 : W.cell? ⟨g1, 1, none⟩ = some (Value.int IntKind.i64 o) := hB1.cell 1
  have k12 : W.cell? ⟨g1, 2, none⟩ = some (Value.int IntKind.i64 t) := hB1.cell 2
  have k13 : W.cell? ⟨g1, 3, none⟩ = some (Value.int IntKind.i64 p) := hB1.cell 3
  have x10 : W.cell? ⟨gx1, 0, none⟩ = some (Value.slice Bx1 r dx1) := hX1.cell 0
  have x11 : W.cell? ⟨gx1, 1, none⟩ = some (Value.int IntKind.i64 lo) := hX1.cell 1
  have x12 : W.cell? ⟨gx1, 2, none⟩ = some (Value.int IntKind.i64 lt) := hX1.cell 2
  have x13 : W.cell? ⟨gx1, 3, none⟩ = some (Value.int IntKind.i64 lp) := hX1.cell 3
  have x20 : W.cell? ⟨gx2, 0, none⟩ = some (Value.slice Bx2 r dx2) := hX2.cell 0
  have x21 : W.cell? ⟨gx2, 1, none⟩ = some (Value.int IntKind.i64 lo) := hX2.cell 1
  have x22 : W.cell? ⟨gx2, 2, none⟩ = some (Value.int IntKind.i64 lt) := hX2.cell 2
  have x23 : W.cell? ⟨gx2, 3, none⟩ = some (Value.int IntKind.i64 lp) := hX2.cell 3
  have k20 : W.cell? ⟨g2, 0, none⟩ = some (Value.slice (some ⟨ga2, 0, none⟩) n2 c2) := hB2.cell 0
  have k21 : W.cell? ⟨g2, 1, none⟩ = some (Value.int IntKind.i64 o2) := hB2.cell 1
  have k22 : W.cell? ⟨g2, 2, none⟩ = some (Value.int IntKind.i64 t2) := hB2.cell 2
  have k23 : W.cell? ⟨g2, 3, none⟩ = some (Value.int IntKind.i64 p2) := hB2.cell 3
  go_wp2_with fail
  refine (DrawInstalments_c C nn cc cs hnn (by omega) _ (hA0.out.below hv) (fun ad e => Nat.lt_of_lt_of_le (hL0.out ad e) hv.size)).mono ?_
  rintro e W ⟨ga3, xs3, n3, c3, o3, t3, p3, mny, rfl, hn', hn21, hs', hox3, hb⟩
  have hn3 := Lib.hid hn'
  have hs3 : Hid (∀ x ∈ xs3, x.name.size ≤ 9223372036854775807) := Lib.hid (fun x hx => Nat.le_trans (hs' x hx) (by omega))
  have HNM3 := Lib.hid hs'
  have hz3 : (n3 : Int) ≤ 1048576 := by omega
  have hq3 : n3 ≤ 21 := hn21
  clear hn' hs' hn21
  obtain ⟨lx3, ux3, h_own, z34, z35⟩ := Own.named hox3 hb
  replace hox3 := h_own
  clear h_own
  have z36 := Lib.hid hb.size
  replace hv := bl_trans hv hb
  replace hB1 := hB1.below hb
  replace hX1 := hX1.below hb
  replace hX2 := hX2.below hb
  replace hB2 := hB2.below hb
  replace hox := hox.below hb
  replace hp1 := hp1.below hb
  replace hp2 := hp2.below hb
  replace hox2 := hox2.below hb
  replace ho3 := ho3.below hb
  replace ho4 := ho4.below hb
  clear hb
  have k10 : W.cell? ⟨g1, 0, none⟩ = some (Value.slice (some ⟨ga, 0, none⟩) n c) := hB1.cell 0
  have k11 : W.cell? ⟨g1, 1, none⟩ = some (Value.int IntKind.i64 o) := hB1.cell 1
  have k12 : W.cell? ⟨g1, 2, none⟩ = some (Value.int IntKind.i64 t) := hB1.cell 2
  have k13 : W.cell? ⟨g1, 3, none⟩ = some (Value.int IntKind.i64 p) := hB1.cell 3
  have x10 : W.cell? ⟨gx1, 0, none⟩ = some (Value.slice Bx1 r dx1) := hX1.cell 0
  have x11 : W.cell? ⟨gx1, 1, none⟩ = some (Value.int IntKind.i64 lo) := hX1.cell 1
  have x12 : W.cell? ⟨gx1, 2, none⟩ = some (Value.int IntKind.i64 lt) := hX1.cell 2
  have x13 : W.cell? ⟨gx1, 3, none⟩ = some (Value.int IntKind.i64 lp) := hX1.cell 3
  have x20 : W.cell? ⟨gx2, 0, none⟩ = some (Value.slice Bx2 r dx2) := hX2.cell 0
  have x21 : W.cell? ⟨gx2, 1, none⟩ = some (Value.int IntKind.i64 lo) := hX2.cell 1
  have x22 : W.cell? ⟨gx2, 2, none⟩ = some (Value.int IntKind.i64 lt) := hX2.cell 2
  have x23 : W.cell? ⟨gx2, 3, none⟩ = some (Value.int IntKind.i64 lp) := hX2.cell 3
  have k20 : W.cell? ⟨g2, 0, none⟩ = some (Value.slice (some ⟨ga2, 0, none⟩) n2 c2) := hB2.cell 0
  have k21 : W.cell? ⟨g2, 1, none⟩ = some (Value.int IntKind.i64 o2) := hB2.cell 1
  have k22 : W.cell? ⟨g2, 2, none⟩ = some (Value.int IntKind.i64 t2) := hB2.cell 2
  have k23 : W.cell? ⟨g2, 3, none⟩ = some (Value.int IntKind.i64 p2) := hB2.cell 3
  obtain ⟨I, hI⟩ : ∃ z, z = iInst xs3 o3 t3 p3 mny := ⟨_, rfl⟩
  obtain ⟨Ic, hIc⟩ : ∃ z, z = cInst xs3 o3 t3 p3 mny := ⟨_, rfl⟩
  obtain ⟨ri, hri⟩ : ∃ z, z = I.length := ⟨_, rfl⟩
  have hri60 : ri ≤ 60 := by rw [hri, hI]; exact inst_lenI _ _ _ _ _
  have HIM : Hid (∀ v ∈ I, 0 ≤ v ∧ v ≤ 100000000000) := Lib.hid (by rw [hI]; exact fun v hv => inst_memI hv)
  have HIF := Lib.hid (fun h : Ic = 0 => inst_facts (xs := xs3) (o := o3) (t := t3) (p := p3) (k := mny) (hIc.symm.trans h))
  rw [← hI, ← hri] at HIF
  have HI1 := fun w h => Instalments_c (some ⟨ga3, 0, none⟩) xs3 n3 c3 o3 t3 p3 hn3 mny hz3 hs3 w h
  have HI2 := fun w h => SInstalments_c (some ⟨ga3, 0, none⟩) xs3 n3 c3 o3 t3 p3 hn3 mny hz3 hs3 w h
  unfold OutL at HI1 HI2
  rw [← hI, ← hIc, ← hri] at HI1 HI2
  replace HI1 := Lib.hid HI1
  replace HI2 := Lib.hid HI2
  have HL3 := Lib.hid (fun w h => LeftToPay_c (some ⟨ga3, 0, none⟩) xs3 n3 c3 o3 t3 p3 hn3 hz3 hs3 w h)
  have HRI := Lib.hid hri.symm
  clear hI hIc hri
  obtain ⟨W0, hW0⟩ : ∃ W0, W0 = W.alloc (Obj.cells #[Value.slice (some ⟨ga3, 0, none⟩) n3 c3, Value.int IntKind.i64 o3, Value.int IntKind.i64 t3, Value.int IntKind.i64 p3] 49) := ⟨_, rfl⟩
  obtain ⟨g3, hgx⟩ : ∃ gx, gx = W.heap.size := ⟨_, rfl⟩
  have hb : Below W.heap.size W W0 := by rw [hW0]; exact bl_alloc (Below.refl _ _) _
  have hB3 : Blk W0 g3 49 #[Value.slice (some ⟨ga3, 0, none⟩) n3 c3, Value.int IntKind.i64 o3, Value.int IntKind.i64 t3, Value.int IntKind.i64 p3] := by rw [hW0, hgx]; exact Blk.new _ _ _
  have a_k10 : ∀ O, (World.alloc W O).cell? ⟨g1, 0, none⟩ = some (Value.slice (some ⟨ga, 0, none⟩) n c) := fun O => (hB1.alloc O).cell 0
  have a_k11 : ∀ O, (World.alloc W O).cell? ⟨g1, 1, none⟩ = some (Value.int IntKind.i64 o) := fun O => (hB1.alloc O).cell 1
  have a_k12 : ∀ O, (World.alloc W O).cell? ⟨g1, 2, none⟩ = some (Value.int IntKind.i64 t) := fun O => (hB1.alloc O).cell 2
  have a_k13 : ∀ O, (World.alloc W O).cell? ⟨g1, 3, none⟩ = some (Value.int IntKind.i64 p) := fun O => (hB1.alloc O).cell 3
  have a_x10 : ∀ O, (World.alloc W O).cell? ⟨gx1, 0, none⟩ = some (Value.slice Bx1 r dx1) := fun O => (hX1.alloc O).cell 0
  have a_x11 : ∀ O, (World.alloc W O).cell? ⟨gx1, 1, none⟩ = some (Value.int IntKind.i64 lo) := fun O => (hX1.alloc O).cell 1
  have a_x12 : ∀ O, (World.alloc W O).cell? ⟨gx1, 2, none⟩ = some (Value.int IntKind.i64 lt) := fun O => (hX1.alloc O).cell 2
  have a_x13 : ∀ O, (World.alloc W O).cell? ⟨gx1, 3, none⟩ = some (Value.int IntKind.i64 lp) := fun O => (hX1.alloc O).cell 3
  have a_x20 : ∀ O, (World.alloc W O).cell? ⟨gx2, 0, none⟩ = some (Value.slice Bx2 r dx2) := fun O => (hX2.alloc O).cell 0
  have a_x21 : ∀ O, (World.alloc W O).cell? ⟨gx2, 1, none⟩ = some (Value.int IntKind.i64 lo) := fun O => (hX2.alloc O).cell 1
  have a_x22 : ∀ O, (World.alloc W O).cell? ⟨gx2, 2, none⟩ = some (Value.int IntKind.i64 lt) := fun O => (hX2.alloc O).cell 2
  have a_x23 : ∀ O, (World.alloc W O).cell? ⟨gx2, 3, none⟩ = some (Value.int IntKind.i64 lp) := fun O => (hX2.alloc O).cell 3
  have a_k20 : ∀ O, (World.alloc W O).cell? ⟨g2, 0, none⟩ = some (Value.slice (some ⟨ga2, 0, none⟩) n2 c2) := fun O => (hB2.alloc O).cell 0
  have a_k21 : ∀ O, (World.alloc W O).cell? ⟨g2, 1, none⟩ = some (Value.int IntKind.i64 o2) := fun O => (hB2.alloc O).cell 1
  have a_k22 : ∀ O, (World.alloc W O).cell? ⟨g2, 2, none⟩ = some (Value.int IntKind.i64 t2) := fun O => (hB2.alloc O).cell 2
  have a_k23 : ∀ O, (World.alloc W O).cell? ⟨g2, 3, none⟩ = some (Value.int IntKind.i64 p2) := fun O => (hB2.alloc O).cell 3
  have z37 := Lib.hid (Nat.le_of_eq hgx.symm)
  have z38 := Lib.hid hB3.lt
  go_wp2_with fail
  rw [← hW0, ← hgx]
  clear hW0 hgx a_k10 a_k11 a_k12 a_k13 a_x10 a_x11 a_x12 a_x13 a_x20 a_x21 a_x22 a_x23 a_k20 a_k21 a_k22 a_k23
  have z39 := Lib.hid hb.size
  replace hv := bl_trans hv hb
  replace hB1 := hB1.below hb
  replace hX1 := hX1.below hb
  replace hX2 := hX2.below hb
  replace hB2 := hB2.below hb
  replace hox := hox.below hb
  replace hp1 := hp1.below hb
  replace hp2 := hp2.below hb
  replace hox2 := hox2.below hb
  replace ho3 := ho3.below hb
  replace ho4 := ho4.below hb
  replace hox3 := hox3.below hb
  clear hb
  have k10 : W0.cell? ⟨g1, 0, none⟩ = some (Value.slice (some ⟨ga, 0, none⟩) n c) := hB1.cell 0
  have k11 : W0.cell? ⟨g1, 1, none⟩ = some (Value.int IntKind.i64 o) := hB1.cell 1
  have k12 : W0.cell? ⟨g1, 2, none⟩ = some (Value.int IntKind.i64 t) := hB1.cell 2
  have k13 : W0.cell? ⟨g1, 3, none⟩ = some (Value.int IntKind.i64 p) := hB1.cell 3
  have x10 : W0.cell? ⟨gx1, 0, none⟩ = some (Value.slice Bx1 r dx1) := hX1.cell 0
  have x11 : W0.cell? ⟨gx1, 1, none⟩ = some (Value.int IntKind.i64 lo) := hX1.cell 1
  have x12 : W0.cell? ⟨gx1, 2, none⟩ = some (Value.int IntKind.i64 lt) := hX1.cell 2
  have x13 : W0.cell? ⟨gx1, 3, none⟩ = some (Value.int IntKind.i64 lp) := hX1.cell 3
  have x20 : W0.cell? ⟨gx2, 0, none⟩ = some (Value.slice Bx2 r dx2) := hX2.cell 0
  have x21 : W0.cell? ⟨gx2, 1, none⟩ = some (Value.int IntKind.i64 lo) := hX2.cell 1
  have x22 : W0.cell? ⟨gx2, 2, none⟩ = some (Value.int IntKind.i64 lt) := hX2.cell 2
  have x23 : W0.cell? ⟨gx2, 3, none⟩ = some (Value.int IntKind.i64 lp) := hX2.cell 3
  have k20 : W0.cell? ⟨g2, 0, none⟩ = some (Value.slice (some ⟨ga2, 0, none⟩) n2 c2) := hB2.cell 0
  have k21 : W0.cell? ⟨g2, 1, none⟩ = some (Value.int IntKind.i64 o2) := hB2.cell 1
  have k22 : W0.cell? ⟨g2, 2, none⟩ = some (Value.int IntKind.i64 t2) := hB2.cell 2
  have k23 : W0.cell? ⟨g2, 3, none⟩ = some (Value.int IntKind.i64 p2) := hB2.cell 3
  have k30 : W0.cell? ⟨g3, 0, none⟩ = some (Value.slice (some ⟨ga3, 0, none⟩) n3 c3) := hB3.cell 0
  have k31 : W0.cell? ⟨g3, 1, none⟩ = some (Value.int IntKind.i64 o3) := hB3.cell 1
  have k32 : W0.cell? ⟨g3, 2, none⟩ = some (Value.int IntKind.i64 t3) := hB3.cell 2
  have k33 : W0.cell? ⟨g3, 3, none⟩ = some (Value.int IntKind.i64 p3) := hB3.cell 3
  refine (HI1.out _ hox3.arr).mono ?_
  rintro e W ⟨B5, d5, rfl, ho5, hb⟩
  obtain ⟨lo5, uo5, h_own, z40, z41⟩ := Own.named ho5 hb
  replace ho5 := h_own
  clear h_own
  have z42 := Lib.hid hb.size
  replace hv := bl_trans hv hb
  replace hB1 := hB1.below hb
  replace hX1 := hX1.below hb
  replace hX2 := hX2.below hb
  replace hB2 := hB2.below hb
  replace hB3 := hB3.below hb
  replace hox := hox.below hb
  replace hp1 := hp1.below hb
  replace hp2 := hp2.below hb
  replace hox2 := hox2.below hb
  replace ho3 := ho3.below hb
  replace ho4 := ho4.below hb
  replace hox3 := hox3.below hb
  clear hb
  have k10 : W.cell? ⟨g1, 0, none⟩ = some (Value.slice (some ⟨ga, 0, none⟩) n c) := hB1.cell 0
  have k11 : W.cell? ⟨g1, 1, none⟩ = some (Value.int IntKind.i64 o) := hB1.cell 1
  have k12 : W.cell? ⟨g1, 2, none⟩ = some (Value.int IntKind.i64 t) := hB1.cell 2
  have k13 : W.cell? ⟨g1, 3, none⟩ = some (Value.int IntKind.i64 p) := hB1.cell 3
  have x10 : W.cell? ⟨gx1, 0, none⟩ = some (Value.slice Bx1 r dx1) := hX1.cell 0
  have x11 : W.cell? ⟨gx1, 1, none⟩ = some (Value.int IntKind.i64 lo) := hX1.cell 1
  have x12 : W.cell? ⟨gx1, 2, none⟩ = some (Value.int IntKind.i64 lt) := hX1.cell 2
  have x13 : W.cell? ⟨gx1, 3, none⟩ = some (Value.int IntKind.i64 lp) := hX1.cell 3
  have x20 : W.cell? ⟨gx2, 0, none⟩ = some (Value.slice Bx2 r dx2) := hX2.cell 0
  have x21 : W.cell? ⟨gx2, 1, none⟩ = some (Value.int IntKind.i64 lo) := hX2.cell 1
  have x22 : W.cell? ⟨gx2, 2, none⟩ = some (Value.int IntKind.i64 lt) := hX2.cell 2
  have x23 : W.cell? ⟨gx2, 3, none⟩ = some (Value.int IntKind.i64 lp) := hX2.cell 3
  have k20 : W.cell? ⟨g2, 0, none⟩ = some (Value.slice (some ⟨ga2, 0, none⟩) n2 c2) := hB2.cell 0
  have k21 : W.cell? ⟨g2, 1, none⟩ = some (Value.int IntKind.i64 o2) := hB2.cell 1
  have k22 : W.cell? ⟨g2, 2, none⟩ = some (Value.int IntKind.i64 t2) := hB2.cell 2
  have k23 : W.cell? ⟨g2, 3, none⟩ = some (Value.int IntKind.i64 p2) := hB2.cell 3
  have k30 : W.cell? ⟨g3, 0, none⟩ = some (Value.slice (some ⟨ga3, 0, none⟩) n3 c3) := hB3.cell 0
  have k31 : W.cell? ⟨g3, 1, none⟩ = some (Value.int IntKind.i64 o3) := hB3.cell 1
  have k32 : W.cell? ⟨g3, 2, none⟩ = some (Value.int IntKind.i64 t3) := hB3.cell 2
  have k33 : W.cell? ⟨g3, 3, none⟩ = some (Value.int IntKind.i64 p3) := hB3.cell 3
  go_wp2_with fail
  refine (HI2.out _ hox3.arr).mono ?_
  rintro e W ⟨B6, d6, rfl, ho6, hb⟩
  obtain ⟨lo6, uo6, h_own, z43, z44⟩ := Own.named ho6 hb
  replace ho6 := h_own
  clear h_own
  have z45 := Lib.hid hb.size
  replace hv := bl_trans hv hb
  replace hB1 := hB1.below hb
  replace hX1 := hX1.below hb
  replace hX2 := hX2.below hb
  replace hB2 := hB2.below hb
  replace hB3 := hB3.below hb
  replace hox := hox.below hb
  replace hp1 := hp1.below hb
  replace hp2 := hp2.below hb
  replace hox2 := hox2.below hb
  replace ho3 := ho3.below hb
  replace ho4 := ho4.below hb
  replace hox3 := hox3.below hb
  replace ho5 := ho5.below hb
  clear hb
  have k10 : W.cell? ⟨g1, 0, none⟩ = some (Value.slice (some ⟨ga, 0, none⟩) n c) := hB1.cell 0
  have k11 : W.cell? ⟨g1, 1, none⟩ = some (Value.int IntKind.i64 o) := hB1.cell 1
  have k12 : W.cell? ⟨g1, 2, none⟩ = some (Value.int IntKind.i64 t) := hB1.cell 2
  have k13 : W.cell? ⟨g1, 3, none⟩ = some (Value.int IntKind.i64 p) := hB1.cell 3
  have x10 : W.cell? ⟨gx1, 0, none⟩ = some (Value.slice Bx1 r dx1) := hX1.cell 0
  have x11 : W.cell? ⟨gx1, 1, none⟩ = some (Value.int IntKind.i64 lo) := hX1.cell 1
  have x12 : W.cell? ⟨gx1, 2, none⟩ = some (Value.int IntKind.i64 lt) := hX1.cell 2
  have x13 : W.cell? ⟨gx1, 3, none⟩ = some (Value.int IntKind.i64 lp) := hX1.cell 3
  have x20 : W.cell? ⟨gx2, 0, none⟩ = some (Value.slice Bx2 r dx2) := hX2.cell 0
  have x21 : W.cell? ⟨gx2, 1, none⟩ = some (Value.int IntKind.i64 lo) := hX2.cell 1
  have x22 : W.cell? ⟨gx2, 2, none⟩ = some (Value.int IntKind.i64 lt) := hX2.cell 2
  have x23 : W.cell? ⟨gx2, 3, none⟩ = some (Value.int IntKind.i64 lp) := hX2.cell 3
  have k20 : W.cell? ⟨g2, 0, none⟩ = some (Value.slice (some ⟨ga2, 0, none⟩) n2 c2) := hB2.cell 0
  have k21 : W.cell? ⟨g2, 1, none⟩ = some (Value.int IntKind.i64 o2) := hB2.cell 1
  have k22 : W.cell? ⟨g2, 2, none⟩ = some (Value.int IntKind.i64 t2) := hB2.cell 2
  have k23 : W.cell? ⟨g2, 3, none⟩ = some (Value.int IntKind.i64 p2) := hB2.cell 3
  have k30 : W.cell? ⟨g3, 0, none⟩ = some (Value.slice (some ⟨ga3, 0, none⟩) n3 c3) := hB3.cell 0
  have k31 : W.cell? ⟨g3, 1, none⟩ = some (Value.int IntKind.i64 o3) := hB3.cell 1
  have k32 : W.cell? ⟨g3, 2, none⟩ = some (Value.int IntKind.i64 t3) := hB3.cell 2
  have k33 : W.cell? ⟨g3, 3, none⟩ = some (Value.int IntKind.i64 p3) := hB3.cell 3
  go_wp2_with fail
  refine (DrawSameBill_c C nn cc cs hnn (by omega) _ (hA0.out.below hv) (fun ad e => Nat.lt_of_lt_of_le (hL0.out ad e) hv.size)).mono ?_
  rintro e W ⟨A7, B7, us, vs, n7, c7, m7, d7, o7, t7, p7, o8, t8, p8, rfl, hn4', hm4', hn41, hu, hvv, hb⟩
  have hn4 := Lib.hid hn4'
  have hm4 := Lib.hid hm4'
  have hz4 : (n7 : Int) ≤ 1048576 := by omega
  obtain ⟨sb, hsb⟩ : ∃ z, z = sameB us vs o7 t7 p7 o8 t8 p8 := ⟨_, rfl⟩
  have HM1 := Lib.hid (fun w h1 h2 => hsb ▸ SameBill_c A7 B7 us vs n7 m7 c7 d7 o7 t7 p7 o8 t8 p8 hn4 hm4 hz4 w h1 h2)
  have HM2 := Lib.hid (fun w h1 h2 => hsb ▸ SSameBill_c A7 B7 us vs n7 m7 c7 d7 o7 t7 p7 o8 t8 p8 hn4 hm4 hz4 w h1 h2)
  clear hn4' hm4' hn41 hsb
  obtain ⟨lu, uu, h_own, z46, z47⟩ := Own.named hu hb
  replace hu := h_own
  clear h_own
  obtain ⟨lv, uv, h_own, z48, z49⟩ := Own.named hvv hb
  replace hvv := h_own
  clear h_own
  have z50 := Lib.hid hb.size
  replace hv := bl_trans hv hb
  replace hB1 := hB1.below hb
  replace hX1 := hX1.below hb
  replace hX2 := hX2.below hb
  replace hB2 := hB2.below hb
  replace hB3 := hB3.below hb
  replace hox := hox.below hb
  replace hp1 := hp1.below hb
  replace hp2 := hp2.below hb
  replace hox2 := hox2.below hb
  replace ho3 := ho3.below hb
  replace ho4 := ho4.below hb
  replace hox3 := hox3.below hb
  replace ho5 := ho5.below hb
  replace ho6 := ho6.below hb
  clear hb
  have k10 : W.cell? ⟨g1, 0, none⟩ = some (Value.slice (some ⟨ga, 0, none⟩) n c) := hB1.cell 0
  have k11 : W.cell? ⟨g1, 1, none⟩ = some (Value.int IntKind.i64 o) := hB1.cell 1
  have k12 : W.cell? ⟨g1, 2, none⟩ = some (Value.int IntKind.i64 t) := hB1.cell 2
  have k13 : W.cell? ⟨g1, 3, none⟩ = some (Value.int IntKind.i64 p) := hB1.cell 3
  have x10 : W.cell? ⟨gx1, 0, none⟩ = some (Value.slice Bx1 r dx1) := hX1.cell 0
  have x11 : W.cell? ⟨gx1, 1, none⟩ = some (Value.int IntKind.i64 lo) := hX1.cell 1
  have x12 : W.cell? ⟨gx1, 2, none⟩ = some (Value.int IntKind.i64 lt) := hX1.cell 2
  have x13 : W.cell? ⟨gx1, 3, none⟩ = some (Value.int IntKind.i64 lp) := hX1.cell 3
  have x20 : W.cell? ⟨gx2, 0, none⟩ = some (Value.slice Bx2 r dx2) := hX2.cell 0
  have x21 : W.cell? ⟨gx2, 1, none⟩ = some (Value.int IntKind.i64 lo) := hX2.cell 1
  have x22 : W.cell? ⟨gx2, 2, none⟩ = some (Value.int IntKind.i64 lt) := hX2.cell 2
  have x23 : W.cell? ⟨gx2, 3, none⟩ = some (Value.int IntKind.i64 lp) := hX2.cell 3
  have k20 : W.cell? ⟨g2, 0, none⟩ = some (Value.slice (some ⟨ga2, 0, none⟩) n2 c2) := hB2.cell 0
  have k21 : W.cell? ⟨g2, 1, none⟩ = some (Value.int IntKind.i64 o2) := hB2.cell 1
  have k22 : W.cell? ⟨g2, 2, none⟩ = some (Value.int IntKind.i64 t2) := hB2.cell 2
  have k23 : W.cell? ⟨g2, 3, none⟩ = some (Value.int IntKind.i64 p2) := hB2.cell 3
  have k30 : W.cell? ⟨g3, 0, none⟩ = some (Value.slice (some ⟨ga3, 0, none⟩) n3 c3) := hB3.cell 0
  have k31 : W.cell? ⟨g3, 1, none⟩ = some (Value.int IntKind.i64 o3) := hB3.cell 1
  have k32 : W.cell? ⟨g3, 2, none⟩ = some (Value.int IntKind.i64 t3) := hB3.cell 2
  have k33 : W.cell? ⟨g3, 3, none⟩ = some (Value.int IntKind.i64 p3) := hB3.cell 3
  obtain ⟨W0, hW0⟩ : ∃ z, z = (W.alloc (Obj.cells #[Value.slice A7 n7 c7, Value.int IntKind.i64 o7, Value.int IntKind.i64 t7, Value.int IntKind.i64 p7] 49)).alloc (Obj.cells #[Value.slice B7 m7 d7, Value.int IntKind.i64 o8, Value.int IntKind.i64 t8, Value.int IntKind.i64 p8] 49) := ⟨_, rfl⟩
  obtain ⟨gD, hgD⟩ : ∃ z, z = W.heap.size := ⟨_, rfl⟩
  obtain ⟨gE, hgE⟩ : ∃ z, z = W.heap.size + 1 := ⟨_, rfl⟩
  have hb : Below W.heap.size W W0 := by rw [hW0]; exact bl_alloc (bl_alloc (Below.refl _ _) _) _
  have hD : Blk W0 gD 49 #[Value.slice A7 n7 c7, Value.int IntKind.i64 o7, Value.int IntKind.i64 t7, Value.int IntKind.i64 p7] := by rw [hW0, hgD]; exact (Blk.new _ _ _).alloc _
  have hE : Blk W0 gE 49 #[Value.slice B7 m7 d7, Value.int IntKind.i64 o8, Value.int IntKind.i64 t8, Value.int IntKind.i64 p8] := by
    have h := Blk.new (W.alloc (Obj.cells #[Value.slice A7 n7 c7, Value.int IntKind.i64 o7, Value.int IntKind.i64 t7, Value.int IntKind.i64 p7] 49)) 49 #[Value.slice B7 m7 d7, Value.int IntKind.i64 o8, Value.int IntKind.i64 t8, Value.int IntKind.i64 p8]
    rw [World.size_alloc] at h
    rw [hW0, hgE]; exact h
  have hzr : (r : Int) ≤ 1048576 := by omega
  have HSB := Lib.hid (fun w h1 h2 => HSM.out ▸ SSameBill_c Bx1 Bx2 l l r r dx1 dx2 lo lt lp lo lt lp HRL HRL hzr w h1 h2)
  go_wp2_with fail
  rw [← hW0, ← hgE, ← hgD]
  clear hW0 hgE hgD
  have z51 := Lib.hid hb.size
  replace hv := bl_trans hv hb
  replace hB1 := hB1.below hb
  replace hX1 := hX1.below hb
  replace hX2 := hX2.below hb
  replace hB2 := hB2.below hb
  replace hB3 := hB3.below hb
  replace hox := hox.below hb
  replace hp1 := hp1.below hb
  replace hp2 := hp2.below hb
  replace hox2 := hox2.below hb
  replace ho3 := ho3.below hb
  replace ho4 := ho4.below hb
  replace hox3 := hox3.below hb
  replace ho5 := ho5.below hb
  replace ho6 := ho6.below hb
  replace hu := hu.below hb
  replace hvv := hvv.below hb
  clear hb
  have k10 : W0.cell? ⟨g1, 0, none⟩ = some (Value.slice (some ⟨ga, 0, none⟩) n c) := hB1.cell 0
  have k11 : W0.cell? ⟨g1, 1, none⟩ = some (Value.int IntKind.i64 o) := hB1.cell 1
  have k12 : W0.cell? ⟨g1, 2, none⟩ = some (Value.int IntKind.i64 t) := hB1.cell 2
  have k13 : W0.cell? ⟨g1, 3, none⟩ = some (Value.int IntKind.i64 p) := hB1.cell 3
  have x10 : W0.cell? ⟨gx1, 0, none⟩ = some (Value.slice Bx1 r dx1) := hX1.cell 0
  have x11 : W0.cell? ⟨gx1, 1, none⟩ = some (Value.int IntKind.i64 lo) := hX1.cell 1
  have x12 : W0.cell? ⟨gx1, 2, none⟩ = some (Value.int IntKind.i64 lt) := hX1.cell 2
  have x13 : W0.cell? ⟨gx1, 3, none⟩ = some (Value.int IntKind.i64 lp) := hX1.cell 3
  have x20 : W0.cell? ⟨gx2, 0, none⟩ = some (Value.slice Bx2 r dx2) := hX2.cell 0
  have x21 : W0.cell? ⟨gx2, 1, none⟩ = some (Value.int IntKind.i64 lo) := hX2.cell 1
  have x22 : W0.cell? ⟨gx2, 2, none⟩ = some (Value.int IntKind.i64 lt) := hX2.cell 2
  have x23 : W0.cell? ⟨gx2, 3, none⟩ = some (Value.int IntKind.i64 lp) := hX2.cell 3
  have k20 : W0.cell? ⟨g2, 0, none⟩ = some (Value.slice (some ⟨ga2, 0, none⟩) n2 c2) := hB2.cell 0
  have k21 : W0.cell? ⟨g2, 1, none⟩ = some (Value.int IntKind.i64 o2) := hB2.cell 1
  have k22 : W0.cell? ⟨g2, 2, none⟩ = some (Value.int IntKind.i64 t2) := hB2.cell 2
  have k23 : W0.cell? ⟨g2, 3, none⟩ = some (Value.int IntKind.i64 p2) := hB2.cell 3
  have k30 : W0.cell? ⟨g3, 0, none⟩ = some (Value.slice (some ⟨ga3, 0, none⟩) n3 c3) := hB3.cell 0
  have k31 : W0.cell? ⟨g3, 1, none⟩ = some (Value.int IntKind.i64 o3) := hB3.cell 1
  have k32 : W0.cell? ⟨g3, 2, none⟩ = some (Value.int IntKind.i64 t3) := hB3.cell 2
  have k33 : W0.cell? ⟨g3, 3, none⟩ = some (Value.int IntKind.i64 p3) := hB3.cell 3
  have k10 : W0.cell? ⟨g1, 0, none⟩ = some (Value.slice (some ⟨ga, 0, none⟩) n c) := hB1.cell 0
  have k11 : W0.cell? ⟨g1, 1, none⟩ = some (Value.int IntKind.i64 o) := hB1.cell 1
  have k12 : W0.cell? ⟨g1, 2, none⟩ = some (Value.int IntKind.i64 t) := hB1.cell 2
  have k13 : W0.cell? ⟨g1, 3, none⟩ = some (Value.int IntKind.i64 p) := hB1.cell 3
  have x10 : W0.cell? ⟨gx1, 0, none⟩ = some (Value.slice Bx1 r dx1) := hX1.cell 0
  have x11 : W0.cell? ⟨gx1, 1, none⟩ = some (Value.int IntKind.i64 lo) := hX1.cell 1
  have x12 : W0.cell? ⟨gx1, 2, none⟩ = some (Value.int IntKind.i64 lt) := hX1.cell 2
  have x13 : W0.cell? ⟨gx1, 3, none⟩ = some (Value.int IntKind.i64 lp) := hX1.cell 3
  have x20 : W0.cell? ⟨gx2, 0, none⟩ = some (Value.slice Bx2 r dx2) := hX2.cell 0
  have x21 : W0.cell? ⟨gx2, 1, none⟩ = some (Value.int IntKind.i64 lo) := hX2.cell 1
  have x22 : W0.cell? ⟨gx2, 2, none⟩ = some (Value.int IntKind.i64 lt) := hX2.cell 2
  have x23 : W0.cell? ⟨gx2, 3, none⟩ = some (Value.int IntKind.i64 lp) := hX2.cell 3
  have k20 : W0.cell? ⟨g2, 0, none⟩ = some (Value.slice (some ⟨ga2, 0, none⟩) n2 c2) := hB2.cell 0
  have k21 : W0.cell? ⟨g2, 1, none⟩ = some (Value.int IntKind.i64 o2) := hB2.cell 1
  have k22 : W0.cell? ⟨g2, 2, none⟩ = some (Value.int IntKind.i64 t2) := hB2.cell 2
  have k23 : W0.cell? ⟨g2, 3, none⟩ = some (Value.int IntKind.i64 p2) := hB2.cell 3
  have k30 : W0.cell? ⟨g3, 0, none⟩ = some (Value.slice (some ⟨ga3, 0, none⟩) n3 c3) := hB3.cell 0
  have k31 : W0.cell? ⟨g3, 1, none⟩ = some (Value.int IntKind.i64 o3) := hB3.cell 1
  have k32 : W0.cell? ⟨g3, 2, none⟩ = some (Value.int IntKind.i64 t3) := hB3.cell 2
  have k33 : W0.cell? ⟨g3, 3, none⟩ = some (Value.int IntKind.i64 p3) := hB3.cell 3
  have kD0 : W0.cell? ⟨gD, 0, none⟩ = some (Value.slice A7 n7 c7) := hD.cell 0
  have kD1 : W0.cell? ⟨gD, 1, none⟩ = some (Value.int IntKind.i64 o7) := hD.cell 1
  have kD2 : W0.cell? ⟨gD, 2, none⟩ = some (Value.int IntKind.i64 t7) := hD.cell 2
  have kD3 : W0.cell? ⟨gD, 3, none⟩ = some (Value.int IntKind.i64 p7) := hD.cell 3
  have kE0 : W0.cell? ⟨gE, 0, none⟩ = some (Value.slice B7 m7 d7) := hE.cell 0
  have kE1 : W0.cell? ⟨gE, 1, none⟩ = some (Value.int IntKind.i64 o8) := hE.cell 1
  have kE2 : W0.cell? ⟨gE, 2, none⟩ = some (Value.int IntKind.i64 t8) := hE.cell 2
  have kE3 : W0.cell? ⟨gE, 3, none⟩ = some (Value.int IntKind.i64 p8) := hE.cell 3
  have hn2 : (sb != sb) = false := by simp
  have hn3 : (vb != vb) = false := by simp
  go_cut [186] (fun s wx => s = .bool false ∧ Below W0.heap.size W0 wx)
  case first =>
   as_aux_lemma =>

    refine wp_region_held_drew (S := fun w' => Below W0.heap.size W0 w' ∧ True) (by as_aux_lemma => kernel_rfl) ?_ (fun hHeld => ?_)
    · exact ⟨(Below.refl _ _).drew, trivial⟩
    refine wpAnyH_take (i := 0) (oi := { dst := some 115, op := _, type := _, pos := _, after := _, guard := _ }) (v := ?_) rfl (by as_aux_lemma => kernel_rfl) (by as_aux_lemma => kernel_rfl) (by as_aux_lemma => kernel_rfl) (fun _ _ _ h => h) (Or.inl ⟨by as_aux_lemma => kernel_rfl, ?_⟩) (by assumption) ?_
    rotate_left
    · intro w hSw
      try dsimp only at hSw
      go_simp
      try with_reducible rfl
    try simp only [Act.put, List.setIfInBounds_toArray, List.set_cons_zero, List.set_cons_succ]
    refine wpAnyH_take (i := 1) (oi := { dst := some 116, op := _, type := _, pos := _, after := _, guard := _ }) (v := ?_) rfl (by as_aux_lemma => kernel_rfl) (by as_aux_lemma => kernel_rfl) (by as_aux_lemma => kernel_rfl) (fun _ _ _ h => h) (Or.inl ⟨by as_aux_lemma => kernel_rfl, ?_⟩) (by assumption) ?_
    rotate_left
    · intro w hSw
      try dsimp only at hSw
      go_simp
      try with_reducible rfl
    try simp only [Act.put, List.setIfInBounds_toArray, List.set_cons_zero, List.set_cons_succ]
    refine wpAnyH_take (i := 2) (oi := { dst := some 117, op := _, type := _, pos := _, after := _, guard := _ }) (v := (Value.bool false)) rfl (by as_aux_lemma => kernel_rfl) (by as_aux_lemma => kernel_rfl) (by as_aux_lemma => kernel_rfl) (fun _ _ _ h => h) (Or.inl ⟨by as_aux_lemma => kernel_rfl, ?_⟩) (by assumption) ?_
    · intro w hSw
      try dsimp only at hSw
      go_simp
      try with_reducible rfl
      try simp
    try simp only [Act.put, List.setIfInBounds_toArray, List.set_cons_zero, List.set_cons_succ]
    refine wpAnyH_take (i := 3) (oi := { dst := some 118, op := _, type := _, pos := _, after := _, guard := _ }) (v := (Value.bool false)) rfl (by as_aux_lemma => kernel_rfl) (by as_aux_lemma => kernel_rfl) (by as_aux_lemma => kernel_rfl) (fun _ _ _ h => h) (Or.inl ⟨by as_aux_lemma => kernel_rfl, ?_⟩) (by assumption) ?_
    · intro w hSw
      try dsimp only at hSw
      go_simp
      try with_reducible rfl
      try simp
    try simp only [Act.put, List.setIfInBounds_toArray, List.set_cons_zero, List.set_cons_succ]
    refine wpAnyH_take (i := 4) (oi := { dst := some 119, op := _, type := _, pos := _, after := _, guard := _ }) (v := ?_) rfl (by as_aux_lemma => kernel_rfl) (by as_aux_lemma => kernel_rfl) (by as_aux_lemma => kernel_rfl) (fun _ _ _ h => h) (Or.inl ⟨by as_aux_lemma => kernel_rfl, ?_⟩) (by assumption) ?_
    rotate_left
    · intro w hSw
      try dsimp only at hSw
      have x_x10 := bl_cell hSw.1 x10
      have x_x11 := bl_cell hSw.1 x11
      have x_x12 := bl_cell hSw.1 x12
      have x_x13 := bl_cell hSw.1 x13
      go_simp
      try with_reducible rfl
    try simp only [Act.put, List.setIfInBounds_toArray, List.set_cons_zero, List.set_cons_succ]
    refine wpAnyH_take (i := 5) (oi := { dst := some 120, op := _, type := _, pos := _, after := _, guard := _ }) (v := ?_) rfl (by as_aux_lemma => kernel_rfl) (by as_aux_lemma => kernel_rfl) (by as_aux_lemma => kernel_rfl) (fun _ _ _ h => h) (Or.inl ⟨by as_aux_lemma => kernel_rfl, ?_⟩) (by assumption) ?_
    rotate_left
    · intro w hSw
      try dsimp only at hSw
      have x_x20 := bl_cell hSw.1 x20
      have x_x21 := bl_cell hSw.1 x21
      have x_x22 := bl_cell hSw.1 x22
      have x_x23 := bl_cell hSw.1 x23
      go_simp
      try with_reducible rfl
    try simp only [Act.put, List.setIfInBounds_toArray, List.set_cons_zero, List.set_cons_succ]
    refine wpAnyH_ready (rs := [6]) (by as_aux_lemma => kernel_rfl) (by simp) ?_
    refine AllReadyH.cons (o := { dst := some 121, op := _, type := _, pos := _, after := _, guard := _ }) rfl (fun K hK => ?_) AllReadyH.nil
    go_simp
    (try dsimp only at hHeld); go_split_ands
    refine (HSB.out _ (hp1.arr.below (by assumption)) (hp2.arr.below (by assumption))).mono ?_
    rintro e W9 ⟨rfl, hb9⟩
    go_wp2_with fail
    refine hK.out _ _ ?_ (fun hHeld => ?_)
    · (try dsimp only); go_split_ands; exact ⟨bl_trans (by assumption) hb9, trivial⟩
    clear hK K
    try simp only [Act.put, List.setIfInBounds_toArray, List.set_cons_zero, List.set_cons_succ]
    refine wpAnyH_take (i := 7) (oi := { dst := some 122, op := _, type := _, pos := _, after := _, guard := _ }) (v := (Value.bool false)) rfl (by as_aux_lemma => kernel_rfl) (by as_aux_lemma => kernel_rfl) (by as_aux_lemma => kernel_rfl) (fun _ _ _ h => h) (Or.inl ⟨by as_aux_lemma => kernel_rfl, ?_⟩) (by assumption) ?_
    · intro w hSw
      try dsimp only at hSw
      go_simp
      try with_reducible rfl
      try simp
    try simp only [Act.put, List.setIfInBounds_toArray, List.set_cons_zero, List.set_cons_succ]
    refine wpAnyH_take (i := 8) (oi := { dst := some 123, op := _, type := _, pos := _, after := _, guard := _ }) (v := (Value.bool false)) rfl (by as_aux_lemma => kernel_rfl) (by as_aux_lemma => kernel_rfl) (by as_aux_lemma => kernel_rfl) (fun _ _ _ h => h) (Or.inl ⟨by as_aux_lemma => kernel_rfl, ?_⟩) (by assumption) ?_
    · intro w hSw
      try dsimp only at hSw
      go_simp
      try with_reducible rfl
      try simp
    try simp only [Act.put, List.setIfInBounds_toArray, List.set_cons_zero, List.set_cons_succ]
    refine wpAnyH_take (i := 9) (oi := { dst := some 124, op := _, type := _, pos := _, after := _, guard := _ }) (v := (Value.bool false)) rfl (by as_aux_lemma => kernel_rfl) (by as_aux_lemma => kernel_rfl) (by as_aux_lemma => kernel_rfl) (fun _ _ _ h => h) (Or.inl ⟨by as_aux_lemma => kernel_rfl, ?_⟩) (by assumption) ?_
    · intro w hSw
      try dsimp only at hSw
      go_simp
      try with_reducible rfl
      try simp
    try simp only [Act.put, List.setIfInBounds_toArray, List.set_cons_zero, List.set_cons_succ]
    refine wpAnyH_take (i := 10) (oi := { dst := some 125, op := _, type := _, pos := _, after := _, guard := _ }) (v := ?_) rfl (by as_aux_lemma => kernel_rfl) (by as_aux_lemma => kernel_rfl) (by as_aux_lemma => kernel_rfl) (fun _ _ _ h => h) (Or.inl ⟨by as_aux_lemma => kernel_rfl, ?_⟩) (by assumption) ?_
    rotate_left
    · intro w hSw
      try dsimp only at hSw
      go_simp
      try with_reducible rfl
    try simp only [Act.put, List.setIfInBounds_toArray, List.set_cons_zero, List.set_cons_succ]
    refine wpAnyH_take (i := 11) (oi := { dst := some 126, op := _, type := _, pos := _, after := _, guard := _ }) (v := ?_) rfl (by as_aux_lemma => kernel_rfl) (by as_aux_lemma => kernel_rfl) (by as_aux_lemma => kernel_rfl) (fun _ _ _ h => h) (Or.inl ⟨by as_aux_lemma => kernel_rfl, ?_⟩) (by assumption) ?_
    rotate_left
    · intro w hSw
      try dsimp only at hSw
      go_simp
      try with_reducible rfl
    try simp only [Act.put, List.setIfInBounds_toArray, List.set_cons_zero, List.set_cons_succ]
    refine wpAnyH_take (i := 12) (oi := { dst := some 127, op := _, type := _, pos := _, after := _, guard := _ }) (v := (Value.bool false)) rfl (by as_aux_lemma => kernel_rfl) (by as_aux_lemma => kernel_rfl) (by as_aux_lemma => kernel_rfl) (fun _ _ _ h => h) (Or.inl ⟨by as_aux_lemma => kernel_rfl, ?_⟩) (by assumption) ?_
    · intro w hSw
      try dsimp only at hSw
      go_simp
      try with_reducible rfl
      try simp
    try simp only [Act.put, List.setIfInBounds_toArray, List.set_cons_zero, List.set_cons_succ]
    refine wpAnyH_take (i := 13) (oi := { dst := some 128, op := _, type := _, pos := _, after := _, guard := _ }) (v := (Value.bool false)) rfl (by as_aux_lemma => kernel_rfl) (by as_aux_lemma => kernel_rfl) (by as_aux_lemma => kernel_rfl) (fun _ _ _ h => h) (Or.inl ⟨by as_aux_lemma => kernel_rfl, ?_⟩) (by assumption) ?_
    · intro w hSw
      try dsimp only at hSw
      go_simp
      try with_reducible rfl
      try simp
    try simp only [Act.put, List.setIfInBounds_toArray, List.set_cons_zero, List.set_cons_succ]
    refine wpAnyH_take (i := 14) (oi := { dst := some 129, op := _, type := _, pos := _, after := _, guard := _ }) (v := (Value.bool false)) rfl (by as_aux_lemma => kernel_rfl) (by as_aux_lemma => kernel_rfl) (by as_aux_lemma => kernel_rfl) (fun _ _ _ h => h) (Or.inl ⟨by as_aux_lemma => kernel_rfl, ?_⟩) (by assumption) ?_
    · intro w hSw
      try dsimp only at hSw
      go_simp
      try with_reducible rfl
      try simp
    try simp only [Act.put, List.setIfInBounds_toArray, List.set_cons_zero, List.set_cons_succ]
    refine wpAnyH_take (i := 15) (oi := { dst := some 130, op := _, type := _, pos := _, after := _, guard := _ }) (v := ?_) rfl (by as_aux_lemma => kernel_rfl) (by as_aux_lemma => kernel_rfl) (by as_aux_lemma => kernel_rfl) (fun _ _ _ h => h) (Or.inl ⟨by as_aux_lemma => kernel_rfl, ?_⟩) (by assumption) ?_
    rotate_left
    · intro w hSw
      try dsimp only at hSw
      go_simp
      try with_reducible rfl
    try simp only [Act.put, List.setIfInBounds_toArray, List.set_cons_zero, List.set_cons_succ]
    refine wpAnyH_take (i := 16) (oi := { dst := some 131, op := _, type := _, pos := _, after := _, guard := _ }) (v := ?_) rfl (by as_aux_lemma => kernel_rfl) (by as_aux_lemma => kernel_rfl) (by as_aux_lemma => kernel_rfl) (fun _ _ _ h => h) (Or.inl ⟨by as_aux_lemma => kernel_rfl, ?_⟩) (by assumption) ?_
    rotate_left
    · intro w hSw
      try dsimp only at hSw
      go_simp
      try with_reducible rfl
    try simp only [Act.put, List.setIfInBounds_toArray, List.set_cons_zero, List.set_cons_succ]
    refine wpAnyH_ready (rs := [17]) (by as_aux_lemma => kernel_rfl) (by simp) ?_
    refine AllReadyH.cons (o := { dst := some 132, op := _, type := _, pos := _, after := _, guard := _ }) rfl (fun K hK => ?_) AllReadyH.nil
    go_simp
    (try dsimp only at hHeld); go_split_ands
    refine (f6ints_same B3 B4 P rp d3 d4 HRP (by omega) _ (ho3.arr.below (by assumption)) (ho4.arr.below (by assumption))).mono ?_
    rintro e W9 ⟨rfl, hb9⟩
    go_wp2_with fail
    refine hK.out _ _ ?_ (fun hHeld => ?_)
    · (try dsimp only); go_split_ands; exact ⟨bl_trans (by assumption) hb9, trivial⟩
    clear hK K
    try simp only [Act.put, List.setIfInBounds_toArray, List.set_cons_zero, List.set_cons_succ]
    refine wpAnyH_take (i := 18) (oi := { dst := some 133, op := _, type := _, pos := _, after := _, guard := _ }) (v := (Value.bool false)) rfl (by as_aux_lemma => kernel_rfl) (by as_aux_lemma => kernel_rfl) (by as_aux_lemma => kernel_rfl) (fun _ _ _ h => h) (Or.inl ⟨by as_aux_lemma => kernel_rfl, ?_⟩) (by assumption) ?_
    · intro w hSw
      try dsimp only at hSw
      go_simp
      try with_reducible rfl
      try simp
    try simp only [Act.put, List.setIfInBounds_toArray, List.set_cons_zero, List.set_cons_succ]
    refine wpAnyH_take (i := 19) (oi := { dst := some 134, op := _, type := _, pos := _, after := _, guard := _ }) (v := (Value.bool false)) rfl (by as_aux_lemma => kernel_rfl) (by as_aux_lemma => kernel_rfl) (by as_aux_lemma => kernel_rfl) (fun _ _ _ h => h) (Or.inl ⟨by as_aux_lemma => kernel_rfl, ?_⟩) (by assumption) ?_
    · intro w hSw
      try dsimp only at hSw
      go_simp
      try with_reducible rfl
      try simp
    try simp only [Act.put, List.setIfInBounds_toArray, List.set_cons_zero, List.set_cons_succ]
    refine wpAnyH_take (i := 20) (oi := { dst := some 135, op := _, type := _, pos := _, after := _, guard := _ }) (v := (Value.bool false)) rfl (by as_aux_lemma => kernel_rfl) (by as_aux_lemma => kernel_rfl) (by as_aux_lemma => kernel_rfl) (fun _ _ _ h => h) (Or.inl ⟨by as_aux_lemma => kernel_rfl, ?_⟩) (by assumption) ?_
    · intro w hSw
      try dsimp only at hSw
      go_simp
      try with_reducible rfl
      try simp
    try simp only [Act.put, List.setIfInBounds_toArray, List.set_cons_zero, List.set_cons_succ]
    refine wpAnyH_take (i := 21) (oi := { dst := some 136, op := _, type := _, pos := _, after := _, guard := _ }) (v := ?_) rfl (by as_aux_lemma => kernel_rfl) (by as_aux_lemma => kernel_rfl) (by as_aux_lemma => kernel_rfl) (fun _ _ _ h => h) (Or.inl ⟨by as_aux_lemma => kernel_rfl, ?_⟩) (by assumption) ?_
    rotate_left
    · intro w hSw
      try dsimp only at hSw
      go_simp
      try with_reducible rfl
    try simp only [Act.put, List.setIfInBounds_toArray, List.set_cons_zero, List.set_cons_succ]
    refine wpAnyH_take (i := 22) (oi := { dst := some 137, op := _, type := _, pos := _, after := _, guard := _ }) (v := ?_) rfl (by as_aux_lemma => kernel_rfl) (by as_aux_lemma => kernel_rfl) (by as_aux_lemma => kernel_rfl) (fun _ _ _ h => h) (Or.inl ⟨by as_aux_lemma => kernel_rfl, ?_⟩) (by assumption) ?_
    rotate_left
    · intro w hSw
      try dsimp only at hSw
      go_simp
      try with_reducible rfl
    try simp only [Act.put, List.setIfInBounds_toArray, List.set_cons_zero, List.set_cons_succ]
    refine wpAnyH_take (i := 23) (oi := { dst := some 138, op := _, type := _, pos := _, after := _, guard := _ }) (v := (Value.bool false)) rfl (by as_aux_lemma => kernel_rfl) (by as_aux_lemma => kernel_rfl) (by as_aux_lemma => kernel_rfl) (fun _ _ _ h => h) (Or.inl ⟨by as_aux_lemma => kernel_rfl, ?_⟩) (by assumption) ?_
    · intro w hSw
      try dsimp only at hSw
      go_simp
      try with_reducible rfl
      try simp
    try simp only [Act.put, List.setIfInBounds_toArray, List.set_cons_zero, List.set_cons_succ]
    refine wpAnyH_take (i := 24) (oi := { dst := some 139, op := _, type := _, pos := _, after := _, guard := _ }) (v := (Value.bool false)) rfl (by as_aux_lemma => kernel_rfl) (by as_aux_lemma => kernel_rfl) (by as_aux_lemma => kernel_rfl) (fun _ _ _ h => h) (Or.inl ⟨by as_aux_lemma => kernel_rfl, ?_⟩) (by assumption) ?_
    · intro w hSw
      try dsimp only at hSw
      go_simp
      try with_reducible rfl
      try simp
    try simp only [Act.put, List.setIfInBounds_toArray, List.set_cons_zero, List.set_cons_succ]
    refine wpAnyH_take (i := 25) (oi := { dst := some 140, op := _, type := _, pos := _, after := _, guard := _ }) (v := (Value.bool false)) rfl (by as_aux_lemma => kernel_rfl) (by as_aux_lemma => kernel_rfl) (by as_aux_lemma => kernel_rfl) (fun _ _ _ h => h) (Or.inl ⟨by as_aux_lemma => kernel_rfl, ?_⟩) (by assumption) ?_
    · intro w hSw
      try dsimp only at hSw
      go_simp
      try with_reducible rfl
      try simp
    try simp only [Act.put, List.setIfInBounds_toArray, List.set_cons_zero, List.set_cons_succ]
    refine wpAnyH_take (i := 26) (oi := { dst := some 141, op := _, type := _, pos := _, after := _, guard := _ }) (v := ?_) rfl (by as_aux_lemma => kernel_rfl) (by as_aux_lemma => kernel_rfl) (by as_aux_lemma => kernel_rfl) (fun _ _ _ h => h) (Or.inl ⟨by as_aux_lemma => kernel_rfl, ?_⟩) (by assumption) ?_
    rotate_left
    · intro w hSw
      try dsimp only at hSw
      go_simp
      try with_reducible rfl
    try simp only [Act.put, List.setIfInBounds_toArray, List.set_cons_zero, List.set_cons_succ]
    refine wpAnyH_take (i := 27) (oi := { dst := some 142, op := _, type := _, pos := _, after := _, guard := _ }) (v := ?_) rfl (by as_aux_lemma => kernel_rfl) (by as_aux_lemma => kernel_rfl) (by as_aux_lemma => kernel_rfl) (fun _ _ _ h => h) (Or.inl ⟨by as_aux_lemma => kernel_rfl, ?_⟩) (by assumption) ?_
    rotate_left
    · intro w hSw
      try dsimp only at hSw
      go_simp
      try with_reducible rfl
    try simp only [Act.put, List.setIfInBounds_toArray, List.set_cons_zero, List.set_cons_succ]
    refine wpAnyH_take (i := 28) (oi := { dst := some 143, op := _, type := _, pos := _, after := _, guard := _ }) (v := (Value.bool false)) rfl (by as_aux_lemma => kernel_rfl) (by as_aux_lemma => kernel_rfl) (by as_aux_lemma => kernel_rfl) (fun _ _ _ h => h) (Or.inl ⟨by as_aux_lemma => kernel_rfl, ?_⟩) (by assumption) ?_
    · intro w hSw
      try dsimp only at hSw
      go_simp
      try with_reducible rfl
      try simp
    try simp only [Act.put, List.setIfInBounds_toArray, List.set_cons_zero, List.set_cons_succ]
    refine wpAnyH_take (i := 29) (oi := { dst := some 144, op := _, type := _, pos := _, after := _, guard := _ }) (v := (Value.bool false)) rfl (by as_aux_lemma => kernel_rfl) (by as_aux_lemma => kernel_rfl) (by as_aux_lemma => kernel_rfl) (fun _ _ _ h => h) (Or.inl ⟨by as_aux_lemma => kernel_rfl, ?_⟩) (by assumption) ?_
    · intro w hSw
      try dsimp only at hSw
      go_simp
      try with_reducible rfl
      try simp
    try simp only [Act.put, List.setIfInBounds_toArray, List.set_cons_zero, List.set_cons_succ]
    refine wpAnyH_take (i := 30) (oi := { dst := some 145, op := _, type := _, pos := _, after := _, guard := _ }) (v := (Value.bool false)) rfl (by as_aux_lemma => kernel_rfl) (by as_aux_lemma => kernel_rfl) (by as_aux_lemma => kernel_rfl) (fun _ _ _ h => h) (Or.inl ⟨by as_aux_lemma => kernel_rfl, ?_⟩) (by assumption) ?_
    · intro w hSw
      try dsimp only at hSw
      go_simp
      try with_reducible rfl
      try simp
    try simp only [Act.put, List.setIfInBounds_toArray, List.set_cons_zero, List.set_cons_succ]
    refine wpAnyH_take (i := 31) (oi := { dst := some 146, op := _, type := _, pos := _, after := _, guard := _ }) (v := ?_) rfl (by as_aux_lemma => kernel_rfl) (by as_aux_lemma => kernel_rfl) (by as_aux_lemma => kernel_rfl) (fun _ _ _ h => h) (Or.inl ⟨by as_aux_lemma => kernel_rfl, ?_⟩) (by assumption) ?_
    rotate_left
    · intro w hSw
      try dsimp only at hSw
      go_simp
      try with_reducible rfl
    try simp only [Act.put, List.setIfInBounds_toArray, List.set_cons_zero, List.set_cons_succ]
    refine wpAnyH_take (i := 32) (oi := { dst := some 147, op := _, type := _, pos := _, after := _, guard := _ }) (v := ?_) rfl (by as_aux_lemma => kernel_rfl) (by as_aux_lemma => kernel_rfl) (by as_aux_lemma => kernel_rfl) (fun _ _ _ h => h) (Or.inl ⟨by as_aux_lemma => kernel_rfl, ?_⟩) (by assumption) ?_
    rotate_left
    · intro w hSw
      try dsimp only at hSw
      go_simp
      try with_reducible rfl
    try simp only [Act.put, List.setIfInBounds_toArray, List.set_cons_zero, List.set_cons_succ]
    refine wpAnyH_take (i := 33) (oi := { dst := some 148, op := _, type := _, pos := _, after := _, guard := _ }) (v := (Value.bool false)) rfl (by as_aux_lemma => kernel_rfl) (by as_aux_lemma => kernel_rfl) (by as_aux_lemma => kernel_rfl) (fun _ _ _ h => h) (Or.inl ⟨by as_aux_lemma => kernel_rfl, ?_⟩) (by assumption) ?_
    · intro w hSw
      try dsimp only at hSw
      go_simp
      try with_reducible rfl
      try simp
    try simp only [Act.put, List.setIfInBounds_toArray, List.set_cons_zero, List.set_cons_succ]
    refine wpAnyH_take (i := 34) (oi := { dst := some 149, op := _, type := _, pos := _, after := _, guard := _ }) (v := (Value.bool false)) rfl (by as_aux_lemma => kernel_rfl) (by as_aux_lemma => kernel_rfl) (by as_aux_lemma => kernel_rfl) (fun _ _ _ h => h) (Or.inl ⟨by as_aux_lemma => kernel_rfl, ?_⟩) (by assumption) ?_
    · intro w hSw
      try dsimp only at hSw
      go_simp
      try with_reducible rfl
      try simp
    try simp only [Act.put, List.setIfInBounds_toArray, List.set_cons_zero, List.set_cons_succ]
    refine wpAnyH_take (i := 35) (oi := { dst := some 150, op := _, type := _, pos := _, after := _, guard := _ }) (v := (Value.bool false)) rfl (by as_aux_lemma => kernel_rfl) (by as_aux_lemma => kernel_rfl) (by as_aux_lemma => kernel_rfl) (fun _ _ _ h => h) (Or.inl ⟨by as_aux_lemma => kernel_rfl, ?_⟩) (by assumption) ?_
    · intro w hSw
      try dsimp only at hSw
      go_simp
      try with_reducible rfl
      try simp
    try simp only [Act.put, List.setIfInBounds_toArray, List.set_cons_zero, List.set_cons_succ]
    refine wpAnyH_take (i := 36) (oi := { dst := some 151, op := _, type := _, pos := _, after := _, guard := _ }) (v := ?_) rfl (by as_aux_lemma => kernel_rfl) (by as_aux_lemma => kernel_rfl) (by as_aux_lemma => kernel_rfl) (fun _ _ _ h => h) (Or.inl ⟨by as_aux_lemma => kernel_rfl, ?_⟩) (by assumption) ?_
    rotate_left
    · intro w hSw
      try dsimp only at hSw
      go_simp
      try with_reducible rfl
    try simp only [Act.put, List.setIfInBounds_toArray, List.set_cons_zero, List.set_cons_succ]
    refine wpAnyH_take (i := 37) (oi := { dst := some 152, op := _, type := _, pos := _, after := _, guard := _ }) (v := ?_) rfl (by as_aux_lemma => kernel_rfl) (by as_aux_lemma => kernel_rfl) (by as_aux_lemma => kernel_rfl) (fun _ _ _ h => h) (Or.inl ⟨by as_aux_lemma => kernel_rfl, ?_⟩) (by assumption) ?_
    rotate_left
    · intro w hSw
      try dsimp only at hSw
      go_simp
      try with_reducible rfl
    try simp only [Act.put, List.setIfInBounds_toArray, List.set_cons_zero, List.set_cons_succ]
    refine wpAnyH_take (i := 38) (oi := { dst := some 153, op := _, type := _, pos := _, after := _, guard := _ }) (v := (Value.bool false)) rfl (by as_aux_lemma => kernel_rfl) (by as_aux_lemma => kernel_rfl) (by as_aux_lemma => kernel_rfl) (fun _ _ _ h => h) (Or.inl ⟨by as_aux_lemma => kernel_rfl, ?_⟩) (by assumption) ?_
    · intro w hSw
      try dsimp only at hSw
      go_simp
      try with_reducible rfl
      try simp
    try simp only [Act.put, List.setIfInBounds_toArray, List.set_cons_zero, List.set_cons_succ]
    refine wpAnyH_take (i := 39) (oi := { dst := some 154, op := _, type := _, pos := _, after := _, guard := _ }) (v := (Value.bool false)) rfl (by as_aux_lemma => kernel_rfl) (by as_aux_lemma => kernel_rfl) (by as_aux_lemma => kernel_rfl) (fun _ _ _ h => h) (Or.inl ⟨by as_aux_lemma => kernel_rfl, ?_⟩) (by assumption) ?_
    · intro w hSw
      try dsimp only at hSw
      go_simp
      try with_reducible rfl
      try simp
    try simp only [Act.put, List.setIfInBounds_toArray, List.set_cons_zero, List.set_cons_succ]
    refine wpAnyH_take (i := 40) (oi := { dst := some 155, op := _, type := _, pos := _, after := _, guard := _ }) (v := (Value.bool false)) rfl (by as_aux_lemma => kernel_rfl) (by as_aux_lemma => kernel_rfl) (by as_aux_lemma => kernel_rfl) (fun _ _ _ h => h) (Or.inl ⟨by as_aux_lemma => kernel_rfl, ?_⟩) (by assumption) ?_
    · intro w hSw
      try dsimp only at hSw
      go_simp
      try with_reducible rfl
      try simp
    try simp only [Act.put, List.setIfInBounds_toArray, List.set_cons_zero, List.set_cons_succ]
    refine wpAnyH_take (i := 41) (oi := { dst := some 156, op := _, type := _, pos := _, after := _, guard := _ }) (v := ?_) rfl (by as_aux_lemma => kernel_rfl) (by as_aux_lemma => kernel_rfl) (by as_aux_lemma => kernel_rfl) (fun _ _ _ h => h) (Or.inl ⟨by as_aux_lemma => kernel_rfl, ?_⟩) (by assumption) ?_
    rotate_left
    · intro w hSw
      try dsimp only at hSw
      go_simp
      try with_reducible rfl
    try simp only [Act.put, List.setIfInBounds_toArray, List.set_cons_zero, List.set_cons_succ]
    refine wpAnyH_take (i := 42) (oi := { dst := some 157, op := _, type := _, pos := _, after := _, guard := _ }) (v := ?_) rfl (by as_aux_lemma => kernel_rfl) (by as_aux_lemma => kernel_rfl) (by as_aux_lemma => kernel_rfl) (fun _ _ _ h => h) (Or.inl ⟨by as_aux_lemma => kernel_rfl, ?_⟩) (by assumption) ?_
    rotate_left
    · intro w hSw
      try dsimp only at hSw
      go_simp
      try with_reducible rfl
    try simp only [Act.put, List.setIfInBounds_toArray, List.set_cons_zero, List.set_cons_succ]
    refine wpAnyH_take (i := 43) (oi := { dst := some 158, op := _, type := _, pos := _, after := _, guard := _ }) (v := (Value.bool false)) rfl (by as_aux_lemma => kernel_rfl) (by as_aux_lemma => kernel_rfl) (by as_aux_lemma => kernel_rfl) (fun _ _ _ h => h) (Or.inl ⟨by as_aux_lemma => kernel_rfl, ?_⟩) (by assumption) ?_
    · intro w hSw
      try dsimp only at hSw
      go_simp
      try with_reducible rfl
      try simp
    try simp only [Act.put, List.setIfInBounds_toArray, List.set_cons_zero, List.set_cons_succ]
    refine wpAnyH_take (i := 44) (oi := { dst := some 159, op := _, type := _, pos := _, after := _, guard := _ }) (v := (Value.bool false)) rfl (by as_aux_lemma => kernel_rfl) (by as_aux_lemma => kernel_rfl) (by as_aux_lemma => kernel_rfl) (fun _ _ _ h => h) (Or.inl ⟨by as_aux_lemma => kernel_rfl, ?_⟩) (by assumption) ?_
    · intro w hSw
      try dsimp only at hSw
      go_simp
      try with_reducible rfl
      try simp
    try simp only [Act.put, List.setIfInBounds_toArray, List.set_cons_zero, List.set_cons_succ]
    refine wpAnyH_take (i := 45) (oi := { dst := some 160, op := _, type := _, pos := _, after := _, guard := _ }) (v := (Value.bool false)) rfl (by as_aux_lemma => kernel_rfl) (by as_aux_lemma => kernel_rfl) (by as_aux_lemma => kernel_rfl) (fun _ _ _ h => h) (Or.inl ⟨by as_aux_lemma => kernel_rfl, ?_⟩) (by assumption) ?_
    · intro w hSw
      try dsimp only at hSw
      go_simp
      try with_reducible rfl
      try simp
    try simp only [Act.put, List.setIfInBounds_toArray, List.set_cons_zero, List.set_cons_succ]
    refine wpAnyH_take (i := 46) (oi := { dst := some 161, op := _, type := _, pos := _, after := _, guard := _ }) (v := ?_) rfl (by as_aux_lemma => kernel_rfl) (by as_aux_lemma => kernel_rfl) (by as_aux_lemma => kernel_rfl) (fun _ _ _ h => h) (Or.inl ⟨by as_aux_lemma => kernel_rfl, ?_⟩) (by assumption) ?_
    rotate_left
    · intro w hSw
      try dsimp only at hSw
      go_simp
      try with_reducible rfl
    try simp only [Act.put, List.setIfInBounds_toArray, List.set_cons_zero, List.set_cons_succ]
    refine wpAnyH_take (i := 47) (oi := { dst := some 162, op := _, type := _, pos := _, after := _, guard := _ }) (v := ?_) rfl (by as_aux_lemma => kernel_rfl) (by as_aux_lemma => kernel_rfl) (by as_aux_lemma => kernel_rfl) (fun _ _ _ h => h) (Or.inl ⟨by as_aux_lemma => kernel_rfl, ?_⟩) (by assumption) ?_
    rotate_left
    · intro w hSw
      try dsimp only at hSw
      go_simp
      try with_reducible rfl
    try simp only [Act.put, List.setIfInBounds_toArray, List.set_cons_zero, List.set_cons_succ]
    refine wpAnyH_take (i := 48) (oi := { dst := some 163, op := _, type := _, pos := _, after := _, guard := _ }) (v := (Value.bool false)) rfl (by as_aux_lemma => kernel_rfl) (by as_aux_lemma => kernel_rfl) (by as_aux_lemma => kernel_rfl) (fun _ _ _ h => h) (Or.inl ⟨by as_aux_lemma => kernel_rfl, ?_⟩) (by assumption) ?_
    · intro w hSw
      try dsimp only at hSw
      go_simp
      try with_reducible rfl
      try simp
    try simp only [Act.put, List.setIfInBounds_toArray, List.set_cons_zero, List.set_cons_succ]
    refine wpAnyH_take (i := 49) (oi := { dst := some 164, op := _, type := _, pos := _, after := _, guard := _ }) (v := (Value.bool false)) rfl (by as_aux_lemma => kernel_rfl) (by as_aux_lemma => kernel_rfl) (by as_aux_lemma => kernel_rfl) (fun _ _ _ h => h) (Or.inl ⟨by as_aux_lemma => kernel_rfl, ?_⟩) (by assumption) ?_
    · intro w hSw
      try dsimp only at hSw
      go_simp
      try with_reducible rfl
      try simp
    try simp only [Act.put, List.setIfInBounds_toArray, List.set_cons_zero, List.set_cons_succ]
    refine wpAnyH_take (i := 50) (oi := { dst := some 165, op := _, type := _, pos := _, after := _, guard := _ }) (v := (Value.bool false)) rfl (by as_aux_lemma => kernel_rfl) (by as_aux_lemma => kernel_rfl) (by as_aux_lemma => kernel_rfl) (fun _ _ _ h => h) (Or.inl ⟨by as_aux_lemma => kernel_rfl, ?_⟩) (by assumption) ?_
    · intro w hSw
      try dsimp only at hSw
      go_simp
      try with_reducible rfl
      try simp
    try simp only [Act.put, List.setIfInBounds_toArray, List.set_cons_zero, List.set_cons_succ]
    refine wpAnyH_take (i := 51) (oi := { dst := some 166, op := _, type := _, pos := _, after := _, guard := _ }) (v := ?_) rfl (by as_aux_lemma => kernel_rfl) (by as_aux_lemma => kernel_rfl) (by as_aux_lemma => kernel_rfl) (fun _ _ _ h => h) (Or.inl ⟨by as_aux_lemma => kernel_rfl, ?_⟩) (by assumption) ?_
    rotate_left
    · intro w hSw
      try dsimp only at hSw
      go_simp
      try with_reducible rfl
    try simp only [Act.put, List.setIfInBounds_toArray, List.set_cons_zero, List.set_cons_succ]
    refine wpAnyH_take (i := 52) (oi := { dst := some 167, op := _, type := _, pos := _, after := _, guard := _ }) (v := ?_) rfl (by as_aux_lemma => kernel_rfl) (by as_aux_lemma => kernel_rfl) (by as_aux_lemma => kernel_rfl) (fun _ _ _ h => h) (Or.inl ⟨by as_aux_lemma => kernel_rfl, ?_⟩) (by assumption) ?_
    rotate_left
    · intro w hSw
      try dsimp only at hSw
      go_simp
      try with_reducible rfl
    try simp only [Act.put, List.setIfInBounds_toArray, List.set_cons_zero, List.set_cons_succ]
    refine wpAnyH_ready (rs := [53]) (by as_aux_lemma => kernel_rfl) (by simp) ?_
    refine AllReadyH.cons (o := { dst := some 168, op := _, type := _, pos := _, after := _, guard := _ }) rfl (fun K hK => ?_) AllReadyH.nil
    go_simp
    (try dsimp only at hHeld); go_split_ands
    refine (f6ints_same B5 B6 I ri d5 d6 HRI (by omega) _ (ho5.arr.below (by assumption)) (ho6.arr.below (by assumption))).mono ?_
    rintro e W9 ⟨rfl, hb9⟩
    go_wp2_with fail
    refine hK.out _ _ ?_ (fun hHeld => ?_)
    · (try dsimp only); go_split_ands; exact ⟨bl_trans (by assumption) hb9, trivial⟩
    clear hK K
    try simp only [Act.put, List.setIfInBounds_toArray, List.set_cons_zero, List.set_cons_succ]
    refine wpAnyH_take (i := 54) (oi := { dst := some 169, op := _, type := _, pos := _, after := _, guard := _ }) (v := (Value.bool false)) rfl (by as_aux_lemma => kernel_rfl) (by as_aux_lemma => kernel_rfl) (by as_aux_lemma => kernel_rfl) (fun _ _ _ h => h) (Or.inl ⟨by as_aux_lemma => kernel_rfl, ?_⟩) (by assumption) ?_
    · intro w hSw
      try dsimp only at hSw
      go_simp
      try with_reducible rfl
      try simp
    try simp only [Act.put, List.setIfInBounds_toArray, List.set_cons_zero, List.set_cons_succ]
    refine wpAnyH_take (i := 55) (oi := { dst := some 170, op := _, type := _, pos := _, after := _, guard := _ }) (v := (Value.bool false)) rfl (by as_aux_lemma => kernel_rfl) (by as_aux_lemma => kernel_rfl) (by as_aux_lemma => kernel_rfl) (fun _ _ _ h => h) (Or.inl ⟨by as_aux_lemma => kernel_rfl, ?_⟩) (by assumption) ?_
    · intro w hSw
      try dsimp only at hSw
      go_simp
      try with_reducible rfl
      try simp
    try simp only [Act.put, List.setIfInBounds_toArray, List.set_cons_zero, List.set_cons_succ]
    refine wpAnyH_take (i := 56) (oi := { dst := some 171, op := _, type := _, pos := _, after := _, guard := _ }) (v := (Value.bool false)) rfl (by as_aux_lemma => kernel_rfl) (by as_aux_lemma => kernel_rfl) (by as_aux_lemma => kernel_rfl) (fun _ _ _ h => h) (Or.inl ⟨by as_aux_lemma => kernel_rfl, ?_⟩) (by assumption) ?_
    · intro w hSw
      try dsimp only at hSw
      go_simp
      try with_reducible rfl
      try simp
    try simp only [Act.put, List.setIfInBounds_toArray, List.set_cons_zero, List.set_cons_succ]
    refine wpAnyH_take (i := 57) (oi := { dst := some 172, op := _, type := _, pos := _, after := _, guard := _ }) (v := ?_) rfl (by as_aux_lemma => kernel_rfl) (by as_aux_lemma => kernel_rfl) (by as_aux_lemma => kernel_rfl) (fun _ _ _ h => h) (Or.inl ⟨by as_aux_lemma => kernel_rfl, ?_⟩) (by assumption) ?_
    rotate_left
    · intro w hSw
      try dsimp only at hSw
      have x_kD0 := bl_cell hSw.1 kD0
      have x_kD1 := bl_cell hSw.1 kD1
      have x_kD2 := bl_cell hSw.1 kD2
      have x_kD3 := bl_cell hSw.1 kD3
      go_simp
      try with_reducible rfl
    try simp only [Act.put, List.setIfInBounds_toArray, List.set_cons_zero, List.set_cons_succ]
    refine wpAnyH_take (i := 58) (oi := { dst := some 173, op := _, type := _, pos := _, after := _, guard := _ }) (v := ?_) rfl (by as_aux_lemma => kernel_rfl) (by as_aux_lemma => kernel_rfl) (by as_aux_lemma => kernel_rfl) (fun _ _ _ h => h) (Or.inl ⟨by as_aux_lemma => kernel_rfl, ?_⟩) (by assumption) ?_
    rotate_left
    · intro w hSw
      try dsimp only at hSw
      have x_kE0 := bl_cell hSw.1 kE0
      have x_kE1 := bl_cell hSw.1 kE1
      have x_kE2 := bl_cell hSw.1 kE2
      have x_kE3 := bl_cell hSw.1 kE3
      go_simp
      try with_reducible rfl
    try simp only [Act.put, List.setIfInBounds_toArray, List.set_cons_zero, List.set_cons_succ]
    refine wpAnyH_take (i := 60) (oi := { dst := some 175, op := _, type := _, pos := _, after := _, guard := _ }) (v := ?_) rfl (by as_aux_lemma => kernel_rfl) (by as_aux_lemma => kernel_rfl) (by as_aux_lemma => kernel_rfl) (fun _ _ _ h => h) (Or.inl ⟨by as_aux_lemma => kernel_rfl, ?_⟩) (by assumption) ?_
    rotate_left
    · intro w hSw
      try dsimp only at hSw
      have x_kD0 := bl_cell hSw.1 kD0
      have x_kD1 := bl_cell hSw.1 kD1
      have x_kD2 := bl_cell hSw.1 kD2
      have x_kD3 := bl_cell hSw.1 kD3
      go_simp
      try with_reducible rfl
    try simp only [Act.put, List.setIfInBounds_toArray, List.set_cons_zero, List.set_cons_succ]
    refine wpAnyH_take (i := 61) (oi := { dst := some 176, op := _, type := _, pos := _, after := _, guard := _ }) (v := ?_) rfl (by as_aux_lemma => kernel_rfl) (by as_aux_lemma => kernel_rfl) (by as_aux_lemma => kernel_rfl) (fun _ _ _ h => h) (Or.inl ⟨by as_aux_lemma => kernel_rfl, ?_⟩) (by assumption) ?_
    rotate_left
    · intro w hSw
      try dsimp only at hSw
      have x_kE0 := bl_cell hSw.1 kE0
      have x_kE1 := bl_cell hSw.1 kE1
      have x_kE2 := bl_cell hSw.1 kE2
      have x_kE3 := bl_cell hSw.1 kE3
      go_simp
      try with_reducible rfl
    try simp only [Act.put, List.setIfInBounds_toArray, List.set_cons_zero, List.set_cons_succ]
    refine wpAnyH_ready (rs := [59]) (by as_aux_lemma => kernel_rfl) (by simp) ?_
    refine AllReadyH.cons (o := { dst := some 174, op := _, type := _, pos := _, after := _, guard := _ }) rfl (fun K hK => ?_) AllReadyH.nil
    go_simp
    (try dsimp only at hHeld); go_split_ands
    refine (HM1.out _ (hu.arr.below (by assumption)) (hvv.arr.below (by assumption))).mono ?_
    rintro e W9 ⟨rfl, hb9⟩
    go_wp2_with fail
    refine hK.out _ _ ?_ (fun hHeld => ?_)
    · (try dsimp only); go_split_ands; exact ⟨bl_trans (by assumption) hb9, trivial⟩
    clear hK K
    try simp only [Act.put, List.setIfInBounds_toArray, List.set_cons_zero, List.set_cons_succ]
    refine wpAnyH_ready (rs := [62]) (by as_aux_lemma => kernel_rfl) (by simp) ?_
    refine AllReadyH.cons (o := { dst := some 177, op := _, type := _, pos := _, after := _, guard := _ }) rfl (fun K hK => ?_) AllReadyH.nil
    go_simp
    (try dsimp only at hHeld); go_split_ands
    refine (HM2.out _ (hu.arr.below (by assumption)) (hvv.arr.below (by assumption))).mono ?_
    rintro e W9 ⟨rfl, hb9⟩
    go_wp2_with fail
    refine hK.out _ _ ?_ (fun hHeld => ?_)
    · (try dsimp only); go_split_ands; exact ⟨bl_trans (by assumption) hb9, trivial⟩
    clear hK K
    try simp only [Act.put, List.setIfInBounds_toArray, List.set_cons_zero, List.set_cons_succ]
    refine wpAnyH_take (i := 63) (oi := { dst := some 178, op := _, type := _, pos := _, after := _, guard := _ }) (v := (Value.bool false)) rfl (by as_aux_lemma => kernel_rfl) (by as_aux_lemma => kernel_rfl) (by as_aux_lemma => kernel_rfl) (fun _ _ _ h => h) (Or.inl ⟨by as_aux_lemma => kernel_rfl, ?_⟩) (by assumption) ?_
    · intro w hSw
      try dsimp only at hSw
      go_simp
      try with_reducible rfl
      try simp
    try simp only [Act.put, List.setIfInBounds_toArray, List.set_cons_zero, List.set_cons_succ]
    refine wpAnyH_take (i := 64) (oi := { dst := some 179, op := _, type := _, pos := _, after := _, guard := _ }) (v := (Value.bool false)) rfl (by as_aux_lemma => kernel_rfl) (by as_aux_lemma => kernel_rfl) (by as_aux_lemma => kernel_rfl) (fun _ _ _ h => h) (Or.inl ⟨by as_aux_lemma => kernel_rfl, ?_⟩) (by assumption) ?_
    · intro w hSw
      try dsimp only at hSw
      go_simp
      try with_reducible rfl
      try simp
    try simp only [Act.put, List.setIfInBounds_toArray, List.set_cons_zero, List.set_cons_succ]
    refine wpAnyH_take (i := 65) (oi := { dst := some 180, op := _, type := _, pos := _, after := _, guard := _ }) (v := (Value.bool false)) rfl (by as_aux_lemma => kernel_rfl) (by as_aux_lemma => kernel_rfl) (by as_aux_lemma => kernel_rfl) (fun _ _ _ h => h) (Or.inl ⟨by as_aux_lemma => kernel_rfl, ?_⟩) (by assumption) ?_
    · intro w hSw
      try dsimp only at hSw
      go_simp
      try with_reducible rfl
      try simp
    try simp only [Act.put, List.setIfInBounds_toArray, List.set_cons_zero, List.set_cons_succ]
    refine wpAnyH_take (i := 66) (oi := { dst := some 181, op := _, type := _, pos := _, after := _, guard := _ }) (v := ?_) rfl (by as_aux_lemma => kernel_rfl) (by as_aux_lemma => kernel_rfl) (by as_aux_lemma => kernel_rfl) (fun _ _ _ h => h) (Or.inl ⟨by as_aux_lemma => kernel_rfl, ?_⟩) (by assumption) ?_
    rotate_left
    · intro w hSw
      try dsimp only at hSw
      have x_k20 := bl_cell hSw.1 k20
      have x_k21 := bl_cell hSw.1 k21
      have x_k22 := bl_cell hSw.1 k22
      have x_k23 := bl_cell hSw.1 k23
      go_simp
      try with_reducible rfl
    try simp only [Act.put, List.setIfInBounds_toArray, List.set_cons_zero, List.set_cons_succ]
    refine wpAnyH_take (i := 68) (oi := { dst := some 183, op := _, type := _, pos := _, after := _, guard := _ }) (v := ?_) rfl (by as_aux_lemma => kernel_rfl) (by as_aux_lemma => kernel_rfl) (by as_aux_lemma => kernel_rfl) (fun _ _ _ h => h) (Or.inl ⟨by as_aux_lemma => kernel_rfl, ?_⟩) (by assumption) ?_
    rotate_left
    · intro w hSw
      try dsimp only at hSw
      have x_k20 := bl_cell hSw.1 k20
      have x_k21 := bl_cell hSw.1 k21
      have x_k22 := bl_cell hSw.1 k22
      have x_k23 := bl_cell hSw.1 k23
      go_simp
      try with_reducible rfl
    try simp only [Act.put, List.setIfInBounds_toArray, List.set_cons_zero, List.set_cons_succ]
    refine wpAnyH_ready (rs := [67]) (by as_aux_lemma => kernel_rfl) (by simp) ?_
    refine AllReadyH.cons (o := { dst := some 182, op := _, type := _, pos := _, after := _, guard := _ }) rfl (fun K hK => ?_) AllReadyH.nil
    go_simp
    (try dsimp only at hHeld); go_split_ands
    refine (HV1.out _ (hox2.arr.below (by assumption))).mono ?_
    rintro e W9 ⟨rfl, hb9⟩
    go_wp2_with fail
    refine hK.out _ _ ?_ (fun hHeld => ?_)
    · (try dsimp only); go_split_ands; exact ⟨bl_trans (by assumption) hb9, trivial⟩
    clear hK K
    try simp only [Act.put, List.setIfInBounds_toArray, List.set_cons_zero, List.set_cons_succ]
    refine wpAnyH_ready (rs := [69]) (by as_aux_lemma => kernel_rfl) (by simp) ?_
    refine AllReadyH.cons (o := { dst := some 184, op := _, type := _, pos := _, after := _, guard := _ }) rfl (fun K hK => ?_) AllReadyH.nil
    go_simp
    (try dsimp only at hHeld); go_split_ands
    refine (HV2.out _ (hox2.arr.below (by assumption))).mono ?_
    rintro e W9 ⟨rfl, hb9⟩
    go_wp2_with fail
    refine hK.out _ _ ?_ (fun hHeld => ?_)
    · (try dsimp only); go_split_ands; exact ⟨bl_trans (by assumption) hb9, trivial⟩
    clear hK K
    try simp only [Act.put, List.setIfInBounds_toArray, List.set_cons_zero, List.set_cons_succ]
    refine wpAnyH_take (i := 70) (oi := { dst := some 185, op := _, type := _, pos := _, after := _, guard := _ }) (v := (Value.bool false)) rfl (by as_aux_lemma => kernel_rfl) (by as_aux_lemma => kernel_rfl) (by as_aux_lemma => kernel_rfl) (fun _ _ _ h => h) (Or.inl ⟨by as_aux_lemma => kernel_rfl, ?_⟩) (by assumption) ?_
    · intro w hSw
      try dsimp only at hSw
      go_simp
      try with_reducible rfl
      try simp
    try simp only [Act.put, List.setIfInBounds_toArray, List.set_cons_zero, List.set_cons_succ]
    refine wpAnyH_take (i := 71) (oi := { dst := some 186, op := _, type := _, pos := _, after := _, guard := _ }) (v := (Value.bool false)) rfl (by as_aux_lemma => kernel_rfl) (by as_aux_lemma => kernel_rfl) (by as_aux_lemma => kernel_rfl) (fun _ _ _ h => h) (Or.inl ⟨by as_aux_lemma => kernel_rfl, ?_⟩) (by assumption) ?_
    · intro w hSw
      try dsimp only at hSw
      go_simp
      try with_reducible rfl
      try simp
    try simp only [Act.put, List.setIfInBounds_toArray, List.set_cons_zero, List.set_cons_succ]
    refine wpAnyH_done (by as_aux_lemma => kernel_rfl) ?_ _
    try dsimp only at hHeld
    go_wp2_with fail
    go_meet
    exact ⟨rfl, hHeld.1⟩

  case rest =>
  as_aux_lemma =>
  obtain ⟨rfl, hb⟩ := hcut
  rename World => wA
  have z52 := Lib.hid hb.size
  replace hv := bl_trans hv hb
  replace hB1 := hB1.below hb
  replace hX1 := hX1.below hb
  replace hX2 := hX2.below hb
  replace hB2 := hB2.below hb
  replace hB3 := hB3.below hb
  replace hD := hD.below hb
  replace hE := hE.below hb
  replace hox := hox.below hb
  replace hp1 := hp1.below hb
  replace hp2 := hp2.below hb
  replace hox2 := hox2.below hb
  replace ho3 := ho3.below hb
  replace ho4 := ho4.below hb
  replace hox3 := hox3.below hb
  replace ho5 := ho5.below hb
  replace ho6 := ho6.below hb
  replace hu := hu.below hb
  replace hvv := hvv.below hb
  clear hb
  have k10 : wA.cell? ⟨g1, 0, none⟩ = some (Value.slice (some ⟨ga, 0, none⟩) n c) := hB1.cell 0
  have k11 : wA.cell? ⟨g1, 1, none⟩ = some (Value.int IntKind.i64 o) := hB1.cell 1
  have k12 : wA.cell? ⟨g1, 2, none⟩ = some (Value.int IntKind.i64 t) := hB1.cell 2
  have k13 : wA.cell? ⟨g1, 3, none⟩ = some (Value.int IntKind.i64 p) := hB1.cell 3
  have x10 : wA.cell? ⟨gx1, 0, none⟩ = some (Value.slice Bx1 r dx1) := hX1.cell 0
  have x11 : wA.cell? ⟨gx1, 1, none⟩ = some (Value.int IntKind.i64 lo) := hX1.cell 1
  have x12 : wA.cell? ⟨gx1, 2, none⟩ = some (Value.int IntKind.i64 lt) := hX1.cell 2
  have x13 : wA.cell? ⟨gx1, 3, none⟩ = some (Value.int IntKind.i64 lp) := hX1.cell 3
  have x20 : wA.cell? ⟨gx2, 0, none⟩ = some (Value.slice Bx2 r dx2) := hX2.cell 0
  have x21 : wA.cell? ⟨gx2, 1, none⟩ = some (Value.int IntKind.i64 lo) := hX2.cell 1
  have x22 : wA.cell? ⟨gx2, 2, none⟩ = some (Value.int IntKind.i64 lt) := hX2.cell 2
  have x23 : wA.cell? ⟨gx2, 3, none⟩ = some (Value.int IntKind.i64 lp) := hX2.cell 3
  have k20 : wA.cell? ⟨g2, 0, none⟩ = some (Value.slice (some ⟨ga2, 0, none⟩) n2 c2) := hB2.cell 0
  have k21 : wA.cell? ⟨g2, 1, none⟩ = some (Value.int IntKind.i64 o2) := hB2.cell 1
  have k22 : wA.cell? ⟨g2, 2, none⟩ = some (Value.int IntKind.i64 t2) := hB2.cell 2
  have k23 : wA.cell? ⟨g2, 3, none⟩ = some (Value.int IntKind.i64 p2) := hB2.cell 3
  have k30 : wA.cell? ⟨g3, 0, none⟩ = some (Value.slice (some ⟨ga3, 0, none⟩) n3 c3) := hB3.cell 0
  have k31 : wA.cell? ⟨g3, 1, none⟩ = some (Value.int IntKind.i64 o3) := hB3.cell 1
  have k32 : wA.cell? ⟨g3, 2, none⟩ = some (Value.int IntKind.i64 t3) := hB3.cell 2
  have k33 : wA.cell? ⟨g3, 3, none⟩ = some (Value.int IntKind.i64 p3) := hB3.cell 3
  have kD0 : wA.cell? ⟨gD, 0, none⟩ = some (Value.slice A7 n7 c7) := hD.cell 0
  have kD1 : wA.cell? ⟨gD, 1, none⟩ = some (Value.int IntKind.i64 o7) := hD.cell 1
  have kD2 : wA.cell? ⟨gD, 2, none⟩ = some (Value.int IntKind.i64 t7) := hD.cell 2
  have kD3 : wA.cell? ⟨gD, 3, none⟩ = some (Value.int IntKind.i64 p7) := hD.cell 3
  have kE0 : wA.cell? ⟨gE, 0, none⟩ = some (Value.slice B7 m7 d7) := hE.cell 0
  have kE1 : wA.cell? ⟨gE, 1, none⟩ = some (Value.int IntKind.i64 o8) := hE.cell 1
  have kE2 : wA.cell? ⟨gE, 2, none⟩ = some (Value.int IntKind.i64 t8) := hE.cell 2
  have kE3 : wA.cell? ⟨gE, 3, none⟩ = some (Value.int IntKind.i64 p8) := hE.cell 3
  clear hp2 hX2 hu hvv hD hE ho3 ho5
  clear HM1 HM2 HV1 HV2 HSB HT1 HT2 HS1 HS2 HQ1 HQ2 HI1 HI2 HP1 HP2 x20 x21 x22 x23 kD0 kD1 kD2 kD3 kE0 kE1 kE2 kE3
  go_upto_region 19 with fail
  go_cut [194] (fun s wx => s = .bool false ∧ Below wA.heap.size wA wx)
  case first =>
   as_aux_lemma =>
    by_cases hPc : Pc = 0
    · have hsum := (HPP.out hPc).2
      have hne : (P.sum != T) = false := by rw [hsum]; simp
      have HNE := Lib.hid hne
      clear hsum hne
      subst hPc
      go_wp2_with fail
      refine (f6sum_c B4 P rp d4 HRP (by omega) HPM _ ho4.arr).mono ?_
      rintro e W9 ⟨rfl, hb9⟩
      have hne := HNE.out
      go_wp2_with fail
      go_meet
      exact ⟨rfl, hb9⟩
    · go_wp2_with fail
      go_meet
      exact ⟨rfl, Below.refl _ _⟩
  case rest =>
  as_aux_lemma =>
  obtain ⟨rfl, hb⟩ := hcut
  rename World => wB
  have z53 := Lib.hid hb.size
  replace hv := bl_trans hv hb
  replace hB1 := hB1.below hb
  replace hX1 := hX1.below hb
  replace hB2 := hB2.below hb
  replace hB3 := hB3.below hb
  replace hox := hox.below hb
  replace hp1 := hp1.below hb
  replace hox2 := hox2.below hb
  replace ho4 := ho4.below hb
  replace hox3 := hox3.below hb
  replace ho6 := ho6.below hb
  clear hb
  have k10 : wB.cell? ⟨g1, 0, none⟩ = some (Value.slice (some ⟨ga, 0, none⟩) n c) := hB1.cell 0
  have k11 : wB.cell? ⟨g1, 1, none⟩ = some (Value.int IntKind.i64 o) := hB1.cell 1
  have k12 : wB.cell? ⟨g1, 2, none⟩ = some (Value.int IntKind.i64 t) := hB1.cell 2
  have k13 : wB.cell? ⟨g1, 3, none⟩ = some (Value.int IntKind.i64 p) := hB1.cell 3
  have x10 : wB.cell? ⟨gx1, 0, none⟩ = some (Value.slice Bx1 r dx1) := hX1.cell 0
  have x11 : wB.cell? ⟨gx1, 1, none⟩ = some (Value.int IntKind.i64 lo) := hX1.cell 1
  have x12 : wB.cell? ⟨gx1, 2, none⟩ = some (Value.int IntKind.i64 lt) := hX1.cell 2
  have x13 : wB.cell? ⟨gx1, 3, none⟩ = some (Value.int IntKind.i64 lp) := hX1.cell 3
  have k20 : wB.cell? ⟨g2, 0, none⟩ = some (Value.slice (some ⟨ga2, 0, none⟩) n2 c2) := hB2.cell 0
  have k21 : wB.cell? ⟨g2, 1, none⟩ = some (Value.int IntKind.i64 o2) := hB2.cell 1
  have k22 : wB.cell? ⟨g2, 2, none⟩ = some (Value.int IntKind.i64 t2) := hB2.cell 2
  have k23 : wB.cell? ⟨g2, 3, none⟩ = some (Value.int IntKind.i64 p2) := hB2.cell 3
  have k30 : wB.cell? ⟨g3, 0, none⟩ = some (Value.slice (some ⟨ga3, 0, none⟩) n3 c3) := hB3.cell 0
  have k31 : wB.cell? ⟨g3, 1, none⟩ = some (Value.int IntKind.i64 o3) := hB3.cell 1
  have k32 : wB.cell? ⟨g3, 2, none⟩ = some (Value.int IntKind.i64 t3) := hB3.cell 2
  have k33 : wB.cell? ⟨g3, 3, none⟩ = some (Value.int IntKind.i64 p3) := hB3.cell 3
  go_wp2_with fail
  go_loopw [32] (fun i wr => ∃ j : Nat, j ≤ rp ∧ i = .int .i64 j ∧ Below wB.heap.size wB wr) (fun i _ => rp - (intOf i).toNat)
  case atStart => exact ⟨0, by omega, rfl, Below.refl _ _⟩
  case round =>
  obtain ⟨j, hj, rfl, hb⟩ := hrel
  have hj0 : (0 : Int) ≤ (j : Int) := by omega
  by_cases hlt : j < rp
  case pos =>
   as_aux_lemma =>
    obtain ⟨x, hx⟩ := get_of_lt (xs := P) (k := j) (by rw [HRP.out]; exact hlt)
    obtain ⟨ad, had, _, c0⟩ := icell_at (ho4.arr.below hb) hx
    subst had
    have hx0 := (HPM.out x (List.mem_of_getElem? hx)).1
    have hx1 : ¬ x < 0 := by omega
    have hj1 : (j : Int) < (rp : Int) := by omega
    clear hx
    go_wp2_with fail
    exact ⟨⟨j + 1, by omega, by go_num, hb⟩, by simp [intOf]; omega⟩
  rename World => wD
  as_aux_lemma =>
  have z54 := Lib.hid hb.size
  replace hv := bl_trans hv hb
  replace hB1 := hB1.below hb
  replace hX1 := hX1.below hb
  replace hB2 := hB2.below hb
  replace hB3 := hB3.below hb
  replace hox := hox.below hb
  replace hp1 := hp1.below hb
  replace hox2 := hox2.below hb
  replace ho4 := ho4.below hb
  replace hox3 := hox3.below hb
  replace ho6 := ho6.below hb
  clear hb
  have k10 : wD.cell? ⟨g1, 0, none⟩ = some (Value.slice (some ⟨ga, 0, none⟩) n c) := hB1.cell 0
  have k11 : wD.cell? ⟨g1, 1, none⟩ = some (Value.int IntKind.i64 o) := hB1.cell 1
  have k12 : wD.cell? ⟨g1, 2, none⟩ = some (Value.int IntKind.i64 t) := hB1.cell 2
  have k13 : wD.cell? ⟨g1, 3, none⟩ = some (Value.int IntKind.i64 p) := hB1.cell 3
  have x10 : wD.cell? ⟨gx1, 0, none⟩ = some (Value.slice Bx1 r dx1) := hX1.cell 0
  have x11 : wD.cell? ⟨gx1, 1, none⟩ = some (Value.int IntKind.i64 lo) := hX1.cell 1
  have x12 : wD.cell? ⟨gx1, 2, none⟩ = some (Value.int IntKind.i64 lt) := hX1.cell 2
  have x13 : wD.cell? ⟨gx1, 3, none⟩ = some (Value.int IntKind.i64 lp) := hX1.cell 3
  have k20 : wD.cell? ⟨g2, 0, none⟩ = some (Value.slice (some ⟨ga2, 0, none⟩) n2 c2) := hB2.cell 0
  have k21 : wD.cell? ⟨g2, 1, none⟩ = some (Value.int IntKind.i64 o2) := hB2.cell 1
  have k22 : wD.cell? ⟨g2, 2, none⟩ = some (Value.int IntKind.i64 t2) := hB2.cell 2
  have k23 : wD.cell? ⟨g2, 3, none⟩ = some (Value.int IntKind.i64 p2) := hB2.cell 3
  have k30 : wD.cell? ⟨g3, 0, none⟩ = some (Value.slice (some ⟨ga3, 0, none⟩) n3 c3) := hB3.cell 0
  have k31 : wD.cell? ⟨g3, 1, none⟩ = some (Value.int IntKind.i64 o3) := hB3.cell 1
  have k32 : wD.cell? ⟨g3, 2, none⟩ = some (Value.int IntKind.i64 t3) := hB3.cell 2
  have k33 : wD.cell? ⟨g3, 3, none⟩ = some (Value.int IntKind.i64 p3) := hB3.cell 3
  go_upto_region 26 with fail
  go_cut [222] (fun s wx => s = .bool false ∧ Below wD.heap.size wD wx)
  case first =>
   as_aux_lemma =>
    by_cases hTc : Tc = 0
    · obtain ⟨q0, q1, q2, q3, q4⟩ := HTT.out hTc
      have r0 : ¬ X < 0 := by omega
      have r1 : ¬ T < X := by omega
      have r2 : ¬ 2 * Sm < T := by omega
      subst hTc
      go_wp2_with fail
      go_meet
      exact ⟨rfl, Below.refl _ _⟩
    · go_wp2_with fail
      go_meet
      exact ⟨rfl, Below.refl _ _⟩
  case rest =>
  as_aux_lemma =>
  obtain ⟨rfl, hb⟩ := hcut
  rename World => wE
  have z55 := Lib.hid hb.size
  replace hv := bl_trans hv hb
  replace hB1 := hB1.below hb
  replace hX1 := hX1.below hb
  replace hB2 := hB2.below hb
  replace hB3 := hB3.below hb
  replace hox := hox.below hb
  replace hp1 := hp1.below hb
  replace hox2 := hox2.below hb
  replace ho4 := ho4.below hb
  replace hox3 := hox3.below hb
  replace ho6 := ho6.below hb
  clear hb
  have k10 : wE.cell? ⟨g1, 0, none⟩ = some (Value.slice (some ⟨ga, 0, none⟩) n c) := hB1.cell 0
  have k11 : wE.cell? ⟨g1, 1, none⟩ = some (Value.int IntKind.i64 o) := hB1.cell 1
  have k12 : wE.cell? ⟨g1, 2, none⟩ = some (Value.int IntKind.i64 t) := hB1.cell 2
  have k13 : wE.cell? ⟨g1, 3, none⟩ = some (Value.int IntKind.i64 p) := hB1.cell 3
  have x10 : wE.cell? ⟨gx1, 0, none⟩ = some (Value.slice Bx1 r dx1) := hX1.cell 0
  have x11 : wE.cell? ⟨gx1, 1, none⟩ = some (Value.int IntKind.i64 lo) := hX1.cell 1
  have x12 : wE.cell? ⟨gx1, 2, none⟩ = some (Value.int IntKind.i64 lt) := hX1.cell 2
  have x13 : wE.cell? ⟨gx1, 3, none⟩ = some (Value.int IntKind.i64 lp) := hX1.cell 3
  have k20 : wE.cell? ⟨g2, 0, none⟩ = some (Value.slice (some ⟨ga2, 0, none⟩) n2 c2) := hB2.cell 0
  have k21 : wE.cell? ⟨g2, 1, none⟩ = some (Value.int IntKind.i64 o2) := hB2.cell 1
  have k22 : wE.cell? ⟨g2, 2, none⟩ = some (Value.int IntKind.i64 t2) := hB2.cell 2
  have k23 : wE.cell? ⟨g2, 3, none⟩ = some (Value.int IntKind.i64 p2) := hB2.cell 3
  have k30 : wE.cell? ⟨g3, 0, none⟩ = some (Value.slice (some ⟨ga3, 0, none⟩) n3 c3) := hB3.cell 0
  have k31 : wE.cell? ⟨g3, 1, none⟩ = some (Value.int IntKind.i64 o3) := hB3.cell 1
  have k32 : wE.cell? ⟨g3, 2, none⟩ = some (Value.int IntKind.i64 t3) := hB3.cell 2
  have k33 : wE.cell? ⟨g3, 3, none⟩ = some (Value.int IntKind.i64 p3) := hB3.cell 3
  by_cases hIc : Ic = 0
  case neg =>
   as_aux_lemma =>

    by_cases hpc : pc = 0
    case neg =>
      go_wp2_with fail
      go_returns
      exact Ret.mk rfl hv
    obtain ⟨L, q0, q1, q2, q3, e1, e2⟩ := HPF.out hpc
    have HE1 := Lib.hid (fun w h => e1 ▸ LeftToPay_c (some ⟨ga, 0, none⟩) xs n c o t p hn hz hs w h)
    have HE2 := Lib.hid (fun w h => e2 ▸ LeftToPay_c Bx1 l r dx1 lo lt lp HRL hzr hls w h)
    have hwr : IntKind.i64.wrap (L + k - L) = k := (IntWalk.i64_in _ (by omega)).trans (by omega)
    clear e1 e2
    subst hpc
    go_wp2_with fail
    refine (HE1.out _ hox.arr).mono ?_
    rintro e W ⟨rfl, hb⟩
    have z56 := Lib.hid hb.size
    replace hv := bl_trans hv hb
    replace hB1 := hB1.below hb
    replace hX1 := hX1.below hb
    replace hB2 := hB2.below hb
    replace hB3 := hB3.below hb
    replace hox := hox.below hb
    replace hp1 := hp1.below hb
    replace hox2 := hox2.below hb
    replace ho4 := ho4.below hb
    replace hox3 := hox3.below hb
    replace ho6 := ho6.below hb
    clear hb
    have k10 : W.cell? ⟨g1, 0, none⟩ = some (Value.slice (some ⟨ga, 0, none⟩) n c) := hB1.cell 0
    have k11 : W.cell? ⟨g1, 1, none⟩ = some (Value.int IntKind.i64 o) := hB1.cell 1
    have k12 : W.cell? ⟨g1, 2, none⟩ = some (Value.int IntKind.i64 t) := hB1.cell 2
    have k13 : W.cell? ⟨g1, 3, none⟩ = some (Value.int IntKind.i64 p) := hB1.cell 3
    have x10 : W.cell? ⟨gx1, 0, none⟩ = some (Value.slice Bx1 r dx1) := hX1.cell 0
    have x11 : W.cell? ⟨gx1, 1, none⟩ = some (Value.int IntKind.i64 lo) := hX1.cell 1
    have x12 : W.cell? ⟨gx1, 2, none⟩ = some (Value.int IntKind.i64 lt) := hX1.cell 2
    have x13 : W.cell? ⟨gx1, 3, none⟩ = some (Value.int IntKind.i64 lp) := hX1.cell 3
    have k20 : W.cell? ⟨g2, 0, none⟩ = some (Value.slice (some ⟨ga2, 0, none⟩) n2 c2) := hB2.cell 0
    have k21 : W.cell? ⟨g2, 1, none⟩ = some (Value.int IntKind.i64 o2) := hB2.cell 1
    have k22 : W.cell? ⟨g2, 2, none⟩ = some (Value.int IntKind.i64 t2) := hB2.cell 2
    have k23 : W.cell? ⟨g2, 3, none⟩ = some (Value.int IntKind.i64 p2) := hB2.cell 3
    have k30 : W.cell? ⟨g3, 0, none⟩ = some (Value.slice (some ⟨ga3, 0, none⟩) n3 c3) := hB3.cell 0
    have k31 : W.cell? ⟨g3, 1, none⟩ = some (Value.int IntKind.i64 o3) := hB3.cell 1
    have k32 : W.cell? ⟨g3, 2, none⟩ = some (Value.int IntKind.i64 t3) := hB3.cell 2
    have k33 : W.cell? ⟨g3, 3, none⟩ = some (Value.int IntKind.i64 p3) := hB3.cell 3
    go_wp2_with fail
    refine (HE2.out _ hp1.arr).mono ?_
    rintro e W ⟨rfl, hb⟩
    have z57 := Lib.hid hb.size
    replace hv := bl_trans hv hb
    replace hB1 := hB1.below hb
    replace hX1 := hX1.below hb
    replace hB2 := hB2.below hb
    replace hB3 := hB3.below hb
    replace hox := hox.below hb
    replace hp1 := hp1.below hb
    replace hox2 := hox2.below hb
    replace ho4 := ho4.below hb
    replace hox3 := hox3.below hb
    replace ho6 := ho6.below hb
    clear hb
    have k10 : W.cell? ⟨g1, 0, none⟩ = some (Value.slice (some ⟨ga, 0, none⟩) n c) := hB1.cell 0
    have k11 : W.cell? ⟨g1, 1, none⟩ = some (Value.int IntKind.i64 o) := hB1.cell 1
    have k12 : W.cell? ⟨g1, 2, none⟩ = some (Value.int IntKind.i64 t) := hB1.cell 2
    have k13 : W.cell? ⟨g1, 3, none⟩ = some (Value.int IntKind.i64 p) := hB1.cell 3
    have x10 : W.cell? ⟨gx1, 0, none⟩ = some (Value.slice Bx1 r dx1) := hX1.cell 0
    have x11 : W.cell? ⟨gx1, 1, none⟩ = some (Value.int IntKind.i64 lo) := hX1.cell 1
    have x12 : W.cell? ⟨gx1, 2, none⟩ = some (Value.int IntKind.i64 lt) := hX1.cell 2
    have x13 : W.cell? ⟨gx1, 3, none⟩ = some (Value.int IntKind.i64 lp) := hX1.cell 3
    have k20 : W.cell? ⟨g2, 0, none⟩ = some (Value.slice (some ⟨ga2, 0, none⟩) n2 c2) := hB2.cell 0
    have k21 : W.cell? ⟨g2, 1, none⟩ = some (Value.int IntKind.i64 o2) := hB2.cell 1
    have k22 : W.cell? ⟨g2, 2, none⟩ = some (Value.int IntKind.i64 t2) := hB2.cell 2
    have k23 : W.cell? ⟨g2, 3, none⟩ = some (Value.int IntKind.i64 p2) := hB2.cell 3
    have k30 : W.cell? ⟨g3, 0, none⟩ = some (Value.slice (some ⟨ga3, 0, none⟩) n3 c3) := hB3.cell 0
    have k31 : W.cell? ⟨g3, 1, none⟩ = some (Value.int IntKind.i64 o3) := hB3.cell 1
    have k32 : W.cell? ⟨g3, 2, none⟩ = some (Value.int IntKind.i64 t3) := hB3.cell 2
    have k33 : W.cell? ⟨g3, 3, none⟩ = some (Value.int IntKind.i64 p3) := hB3.cell 3
    have hwr2 : IntKind.i64.wrap k = k := IntWalk.i64_in _ (by omega)
    have hlk : L + k - L = k := by omega
    go_wp2_with fail
    go_returns
    exact Ret.mk (by first | rfl | simp) hv

  as_aux_lemma =>
  obtain ⟨Lf, f0, hL, hsumI, hlenI, hfirst, hf0, hf1, hall⟩ := HIF.out hIc
  have HLL := Lib.hid (fun w h => hL ▸ HL3.out w h)
  have hne1 : (I.sum != Lf) = false := by rw [hsumI]; simp
  have hne2 : ((ri : Int) != mny) = false := by rw [hlenI]; simp
  have HN1 := Lib.hid hne1
  have HN2 := Lib.hid hne2
  have HFI := Lib.hid hfirst
  have HAL := Lib.hid hall
  clear hL hsumI hlenI hfirst hall hne1 hne2
  subst hIc
  go_wp2_with fail
  refine (HLL.out _ hox3.arr).mono ?_
  rintro e W ⟨rfl, hb⟩
  have z56 := Lib.hid hb.size
  replace hv := bl_trans hv hb
  replace hB1 := hB1.below hb
  replace hX1 := hX1.below hb
  replace hB2 := hB2.below hb
  replace hB3 := hB3.below hb
  replace hox := hox.below hb
  replace hp1 := hp1.below hb
  replace hox2 := hox2.below hb
  replace ho4 := ho4.below hb
  replace hox3 := hox3.below hb
  replace ho6 := ho6.below hb
  clear hb
  have k10 : W.cell? ⟨g1, 0, none⟩ = some (Value.slice (some ⟨ga, 0, none⟩) n c) := hB1.cell 0
  have k11 : W.cell? ⟨g1, 1, none⟩ = some (Value.int IntKind.i64 o) := hB1.cell 1
  have k12 : W.cell? ⟨g1, 2, none⟩ = some (Value.int IntKind.i64 t) := hB1.cell 2
  have k13 : W.cell? ⟨g1, 3, none⟩ = some (Value.int IntKind.i64 p) := hB1.cell 3
  have x10 : W.cell? ⟨gx1, 0, none⟩ = some (Value.slice Bx1 r dx1) := hX1.cell 0
  have x11 : W.cell? ⟨gx1, 1, none⟩ = some (Value.int IntKind.i64 lo) := hX1.cell 1
  have x12 : W.cell? ⟨gx1, 2, none⟩ = some (Value.int IntKind.i64 lt) := hX1.cell 2
  have x13 : W.cell? ⟨gx1, 3, none⟩ = some (Value.int IntKind.i64 lp) := hX1.cell 3
  have k20 : W.cell? ⟨g2, 0, none⟩ = some (Value.slice (some ⟨ga2, 0, none⟩) n2 c2) := hB2.cell 0
  have k21 : W.cell? ⟨g2, 1, none⟩ = some (Value.int IntKind.i64 o2) := hB2.cell 1
  have k22 : W.cell? ⟨g2, 2, none⟩ = some (Value.int IntKind.i64 t2) := hB2.cell 2
  have k23 : W.cell? ⟨g2, 3, none⟩ = some (Value.int IntKind.i64 p2) := hB2.cell 3
  have k30 : W.cell? ⟨g3, 0, none⟩ = some (Value.slice (some ⟨ga3, 0, none⟩) n3 c3) := hB3.cell 0
  have k31 : W.cell? ⟨g3, 1, none⟩ = some (Value.int IntKind.i64 o3) := hB3.cell 1
  have k32 : W.cell? ⟨g3, 2, none⟩ = some (Value.int IntKind.i64 t3) := hB3.cell 2
  have k33 : W.cell? ⟨g3, 3, none⟩ = some (Value.int IntKind.i64 p3) := hB3.cell 3
  go_wp2_with fail
  refine (f6sum_c B6 I ri d6 HRI (by omega) HIM _ ho6.arr).mono ?_
  rintro e W ⟨rfl, hb⟩
  have hne1 := HN1.out
  have hne2 := HN2.out
  have z57 := Lib.hid hb.size
  replace hv := bl_trans hv hb
  replace hB1 := hB1.below hb
  replace hX1 := hX1.below hb
  replace hB2 := hB2.below hb
  replace hB3 := hB3.below hb
  replace hox := hox.below hb
  replace hp1 := hp1.below hb
  replace hox2 := hox2.below hb
  replace ho4 := ho4.below hb
  replace hox3 := hox3.below hb
  replace ho6 := ho6.below hb
  clear hb
  have k10 : W.cell? ⟨g1, 0, none⟩ = some (Value.slice (some ⟨ga, 0, none⟩) n c) := hB1.cell 0
  have k11 : W.cell? ⟨g1, 1, none⟩ = some (Value.int IntKind.i64 o) := hB1.cell 1
  have k12 : W.cell? ⟨g1, 2, none⟩ = some (Value.int IntKind.i64 t) := hB1.cell 2
  have k13 : W.cell? ⟨g1, 3, none⟩ = some (Value.int IntKind.i64 p) := hB1.cell 3
  have x10 : W.cell? ⟨gx1, 0, none⟩ = some (Value.slice Bx1 r dx1) := hX1.cell 0
  have x11 : W.cell? ⟨gx1, 1, none⟩ = some (Value.int IntKind.i64 lo) := hX1.cell 1
  have x12 : W.cell? ⟨gx1, 2, none⟩ = some (Value.int IntKind.i64 lt) := hX1.cell 2
  have x13 : W.cell? ⟨gx1, 3, none⟩ = some (Value.int IntKind.i64 lp) := hX1.cell 3
  have k20 : W.cell? ⟨g2, 0, none⟩ = some (Value.slice (some ⟨ga2, 0, none⟩) n2 c2) := hB2.cell 0
  have k21 : W.cell? ⟨g2, 1, none⟩ = some (Value.int IntKind.i64 o2) := hB2.cell 1
  have k22 : W.cell? ⟨g2, 2, none⟩ = some (Value.int IntKind.i64 t2) := hB2.cell 2
  have k23 : W.cell? ⟨g2, 3, none⟩ = some (Value.int IntKind.i64 p2) := hB2.cell 3
  have k30 : W.cell? ⟨g3, 0, none⟩ = some (Value.slice (some ⟨ga3, 0, none⟩) n3 c3) := hB3.cell 0
  have k31 : W.cell? ⟨g3, 1, none⟩ = some (Value.int IntKind.i64 o3) := hB3.cell 1
  have k32 : W.cell? ⟨g3, 2, none⟩ = some (Value.int IntKind.i64 t3) := hB3.cell 2
  have k33 : W.cell? ⟨g3, 3, none⟩ = some (Value.int IntKind.i64 p3) := hB3.cell 3
  go_wp2_with fail
  clear hne1 hne2
  go_loopw [35] (fun i wr => ∃ j : Nat, j ≤ ri ∧ i = .int .i64 j ∧ Below W.heap.size W wr) (fun i _ => ri - (intOf i).toNat)
  case atStart => exact ⟨0, by omega, rfl, Below.refl _ _⟩
  case round =>
  obtain ⟨j, hj, rfl, hb⟩ := hrel
  have hj0 : (0 : Int) ≤ (j : Int) := by omega
  by_cases hlt : j < ri
  case pos =>
   as_aux_lemma =>
    obtain ⟨x, hx⟩ := get_of_lt (xs := I) (k := j) (by rw [HRI.out]; exact hlt)
    obtain ⟨ad, had, _, c0⟩ := icell_at (ho6.arr.below hb) hx
    subst had
    obtain ⟨ad', had', _, c1⟩ := icell_at (ho6.arr.below hb) HFI.out
    injection had' with had'
    subst had'
    replace c1 : wr.cell? ad = some (Value.int IntKind.i64 f0) := c1
    obtain ⟨hx0, hx1⟩ := HAL.out x (List.mem_of_getElem? hx)
    have hx2 : ¬ f0 < x := by omega
    have hx3 : ¬ x < f0 - 1 := by omega
    have hj1 : (j : Int) < (ri : Int) := by omega
    have hr1 : (0 : Int) < (ri : Int) := by omega
    have hr2 : 0 < ri := by omega
    have hwf : IntKind.i64.wrap (f0 - 1) = f0 - 1 := IntWalk.i64_in _ (by omega)
    clear hx
    go_wp2_with fail

    refine wp_region_held_drew (S := fun w' => Below wr.heap.size wr w' ∧ True) (by as_aux_lemma => kernel_rfl) ?_ (fun hHeld => ?_)
    · exact ⟨(Below.refl _ _).drew, trivial⟩
    refine wpAnyH_take (i := 0) (oi := { dst := some 250, op := _, type := _, pos := _, after := _, guard := _ }) (v := ?_) rfl (by as_aux_lemma => kernel_rfl) (by as_aux_lemma => kernel_rfl) (by as_aux_lemma => kernel_rfl) (fun _ _ _ h => h) (Or.inl ⟨by as_aux_lemma => kernel_rfl, ?_⟩) (by assumption) ?_
    rotate_left
    · intro w hSw
      try dsimp only at hSw
      go_simp
      try with_reducible rfl
    try simp only [Act.put, List.setIfInBounds_toArray, List.set_cons_zero, List.set_cons_succ]
    refine wpAnyH_take (i := 1) (oi := { dst := some 251, op := _, type := _, pos := _, after := _, guard := _ }) (v := ?_) rfl (by as_aux_lemma => kernel_rfl) (by as_aux_lemma => kernel_rfl) (by as_aux_lemma => kernel_rfl) (fun _ _ _ h => h) (Or.inl ⟨by as_aux_lemma => kernel_rfl, ?_⟩) (by assumption) ?_
    rotate_left
    · intro w hSw
      try dsimp only at hSw
      go_simp
      try with_reducible rfl
    try simp only [Act.put, List.setIfInBounds_toArray, List.set_cons_zero, List.set_cons_succ]
    refine wpAnyH_take (i := 2) (oi := { dst := some 252, op := _, type := _, pos := _, after := _, guard := _ }) (v := ?_) rfl (by as_aux_lemma => kernel_rfl) (by as_aux_lemma => kernel_rfl) (by as_aux_lemma => kernel_rfl) (fun _ _ _ h => h) (Or.inl ⟨by as_aux_lemma => kernel_rfl, ?_⟩) (by assumption) ?_
    rotate_left
    · intro w hSw
      try dsimp only at hSw
      go_simp
      try with_reducible rfl
    try simp only [Act.put, List.setIfInBounds_toArray, List.set_cons_zero, List.set_cons_succ]
    refine wpAnyH_take (i := 3) (oi := { dst := some 253, op := _, type := _, pos := _, after := _, guard := _ }) (v := ?_) rfl (by as_aux_lemma => kernel_rfl) (by as_aux_lemma => kernel_rfl) (by as_aux_lemma => kernel_rfl) (fun _ _ _ h => h) (Or.inl ⟨by as_aux_lemma => kernel_rfl, ?_⟩) (by assumption) ?_
    rotate_left
    · intro w hSw
      try dsimp only at hSw
      have x_c0 := bl_cell hSw.1 c0
      go_simp
      try with_reducible rfl
    try simp only [Act.put, List.setIfInBounds_toArray, List.set_cons_zero, List.set_cons_succ]
    refine wpAnyH_take (i := 4) (oi := { dst := some 254, op := _, type := _, pos := _, after := _, guard := _ }) (v := ?_) rfl (by as_aux_lemma => kernel_rfl) (by as_aux_lemma => kernel_rfl) (by as_aux_lemma => kernel_rfl) (fun _ _ _ h => h) (Or.inl ⟨by as_aux_lemma => kernel_rfl, ?_⟩) (by assumption) ?_
    rotate_left
    · intro w hSw
      try dsimp only at hSw
      go_simp
      try with_reducible rfl
    try simp only [Act.put, List.setIfInBounds_toArray, List.set_cons_zero, List.set_cons_succ]
    refine wpAnyH_take (i := 5) (oi := { dst := some 255, op := _, type := _, pos := _, after := _, guard := _ }) (v := ?_) rfl (by as_aux_lemma => kernel_rfl) (by as_aux_lemma => kernel_rfl) (by as_aux_lemma => kernel_rfl) (fun _ _ _ h => h) (Or.inl ⟨by as_aux_lemma => kernel_rfl, ?_⟩) (by assumption) ?_
    rotate_left
    · intro w hSw
      try dsimp only at hSw
      go_simp
      try with_reducible rfl
    try simp only [Act.put, List.setIfInBounds_toArray, List.set_cons_zero, List.set_cons_succ]
    refine wpAnyH_take (i := 6) (oi := { dst := some 256, op := _, type := _, pos := _, after := _, guard := _ }) (v := ?_) rfl (by as_aux_lemma => kernel_rfl) (by as_aux_lemma => kernel_rfl) (by as_aux_lemma => kernel_rfl) (fun _ _ _ h => h) (Or.inl ⟨by as_aux_lemma => kernel_rfl, ?_⟩) (by assumption) ?_
    rotate_left
    · intro w hSw
      try dsimp only at hSw
      have x_c1 := bl_cell hSw.1 c1
      go_simp
      try with_reducible rfl
    try simp only [Act.put, List.setIfInBounds_toArray, List.set_cons_zero, List.set_cons_succ]
    refine wpAnyH_take (i := 7) (oi := { dst := some 257, op := _, type := _, pos := _, after := _, guard := _ }) (v := (Value.bool false)) rfl (by as_aux_lemma => kernel_rfl) (by as_aux_lemma => kernel_rfl) (by as_aux_lemma => kernel_rfl) (fun _ _ _ h => h) (Or.inl ⟨by as_aux_lemma => kernel_rfl, ?_⟩) (by assumption) ?_
    · intro w hSw
      try dsimp only at hSw
      go_simp
      try with_reducible rfl
      try (rw [hwf])
      try (simp only [decide_eq_true_eq, decide_eq_false_iff_not]; omega)
      try omega
    try simp only [Act.put, List.setIfInBounds_toArray, List.set_cons_zero, List.set_cons_succ]
    refine wpAnyH_take (i := 8) (oi := { dst := some 258, op := _, type := _, pos := _, after := _, guard := _ }) (v := (Value.bool false)) rfl (by as_aux_lemma => kernel_rfl) (by as_aux_lemma => kernel_rfl) (by as_aux_lemma => kernel_rfl) (fun _ _ _ h => h) (Or.inl ⟨by as_aux_lemma => kernel_rfl, ?_⟩) (by assumption) ?_
    · intro w hSw
      try dsimp only at hSw
      go_simp
      try with_reducible rfl
      try (rw [hwf])
      try (simp only [decide_eq_true_eq, decide_eq_false_iff_not]; omega)
      try omega
    try simp only [Act.put, List.setIfInBounds_toArray, List.set_cons_zero, List.set_cons_succ]
    refine wpAnyH_take (i := 9) (oi := { dst := some 259, op := _, type := _, pos := _, after := _, guard := _ }) (v := ?_) rfl (by as_aux_lemma => kernel_rfl) (by as_aux_lemma => kernel_rfl) (by as_aux_lemma => kernel_rfl) (fun _ _ _ h => h) (Or.inl ⟨by as_aux_lemma => kernel_rfl, ?_⟩) (by assumption) ?_
    rotate_left
    · intro w hSw
      try dsimp only at hSw
      go_simp
      try with_reducible rfl
    try simp only [Act.put, List.setIfInBounds_toArray, List.set_cons_zero, List.set_cons_succ]
    refine wpAnyH_take (i := 10) (oi := { dst := some 260, op := _, type := _, pos := _, after := _, guard := _ }) (v := ?_) rfl (by as_aux_lemma => kernel_rfl) (by as_aux_lemma => kernel_rfl) (by as_aux_lemma => kernel_rfl) (fun _ _ _ h => h) (Or.inl ⟨by as_aux_lemma => kernel_rfl, ?_⟩) (by assumption) ?_
    rotate_left
    · intro w hSw
      try dsimp only at hSw
      go_simp
      try with_reducible rfl
    try simp only [Act.put, List.setIfInBounds_toArray, List.set_cons_zero, List.set_cons_succ]
    refine wpAnyH_take (i := 11) (oi := { dst := some 261, op := _, type := _, pos := _, after := _, guard := _ }) (v := ?_) rfl (by as_aux_lemma => kernel_rfl) (by as_aux_lemma => kernel_rfl) (by as_aux_lemma => kernel_rfl) (fun _ _ _ h => h) (Or.inl ⟨by as_aux_lemma => kernel_rfl, ?_⟩) (by assumption) ?_
    rotate_left
    · intro w hSw
      try dsimp only at hSw
      go_simp
      try with_reducible rfl
    try simp only [Act.put, List.setIfInBounds_toArray, List.set_cons_zero, List.set_cons_succ]
    refine wpAnyH_take (i := 12) (oi := { dst := some 262, op := _, type := _, pos := _, after := _, guard := _ }) (v := ?_) rfl (by as_aux_lemma => kernel_rfl) (by as_aux_lemma => kernel_rfl) (by as_aux_lemma => kernel_rfl) (fun _ _ _ h => h) (Or.inl ⟨by as_aux_lemma => kernel_rfl, ?_⟩) (by assumption) ?_
    rotate_left
    · intro w hSw
      try dsimp only at hSw
      have x_c0 := bl_cell hSw.1 c0
      go_simp
      try with_reducible rfl
    try simp only [Act.put, List.setIfInBounds_toArray, List.set_cons_zero, List.set_cons_succ]
    refine wpAnyH_take (i := 13) (oi := { dst := some 263, op := _, type := _, pos := _, after := _, guard := _ }) (v := ?_) rfl (by as_aux_lemma => kernel_rfl) (by as_aux_lemma => kernel_rfl) (by as_aux_lemma => kernel_rfl) (fun _ _ _ h => h) (Or.inl ⟨by as_aux_lemma => kernel_rfl, ?_⟩) (by assumption) ?_
    rotate_left
    · intro w hSw
      try dsimp only at hSw
      go_simp
      try with_reducible rfl
    try simp only [Act.put, List.setIfInBounds_toArray, List.set_cons_zero, List.set_cons_succ]
    refine wpAnyH_take (i := 14) (oi := { dst := some 264, op := _, type := _, pos := _, after := _, guard := _ }) (v := ?_) rfl (by as_aux_lemma => kernel_rfl) (by as_aux_lemma => kernel_rfl) (by as_aux_lemma => kernel_rfl) (fun _ _ _ h => h) (Or.inl ⟨by as_aux_lemma => kernel_rfl, ?_⟩) (by assumption) ?_
    rotate_left
    · intro w hSw
      try dsimp only at hSw
      go_simp
      try with_reducible rfl
    try simp only [Act.put, List.setIfInBounds_toArray, List.set_cons_zero, List.set_cons_succ]
    refine wpAnyH_take (i := 15) (oi := { dst := some 265, op := _, type := _, pos := _, after := _, guard := _ }) (v := ?_) rfl (by as_aux_lemma => kernel_rfl) (by as_aux_lemma => kernel_rfl) (by as_aux_lemma => kernel_rfl) (fun _ _ _ h => h) (Or.inl ⟨by as_aux_lemma => kernel_rfl, ?_⟩) (by assumption) ?_
    rotate_left
    · intro w hSw
      try dsimp only at hSw
      have x_c1 := bl_cell hSw.1 c1
      go_simp
      try with_reducible rfl
    try simp only [Act.put, List.setIfInBounds_toArray, List.set_cons_zero, List.set_cons_succ]
    refine wpAnyH_take (i := 16) (oi := { dst := some 266, op := _, type := _, pos := _, after := _, guard := _ }) (v := ?_) rfl (by as_aux_lemma => kernel_rfl) (by as_aux_lemma => kernel_rfl) (by as_aux_lemma => kernel_rfl) (fun _ _ _ h => h) (Or.inl ⟨by as_aux_lemma => kernel_rfl, ?_⟩) (by assumption) ?_
    rotate_left
    · intro w hSw
      try dsimp only at hSw
      go_simp
      try with_reducible rfl
    try simp only [Act.put, List.setIfInBounds_toArray, List.set_cons_zero, List.set_cons_succ]
    refine wpAnyH_take (i := 17) (oi := { dst := some 267, op := _, type := _, pos := _, after := _, guard := _ }) (v := (Value.bool false)) rfl (by as_aux_lemma => kernel_rfl) (by as_aux_lemma => kernel_rfl) (by as_aux_lemma => kernel_rfl) (fun _ _ _ h => h) (Or.inl ⟨by as_aux_lemma => kernel_rfl, ?_⟩) (by assumption) ?_
    · intro w hSw
      try dsimp only at hSw
      go_simp
      try with_reducible rfl
      try (rw [hwf])
      try (simp only [decide_eq_true_eq, decide_eq_false_iff_not]; omega)
      try omega
    try simp only [Act.put, List.setIfInBounds_toArray, List.set_cons_zero, List.set_cons_succ]
    refine wpAnyH_take (i := 18) (oi := { dst := some 268, op := _, type := _, pos := _, after := _, guard := _ }) (v := (Value.bool false)) rfl (by as_aux_lemma => kernel_rfl) (by as_aux_lemma => kernel_rfl) (by as_aux_lemma => kernel_rfl) (fun _ _ _ h => h) (Or.inl ⟨by as_aux_lemma => kernel_rfl, ?_⟩) (by assumption) ?_
    · intro w hSw
      try dsimp only at hSw
      go_simp
      try with_reducible rfl
      try (rw [hwf])
      try (simp only [decide_eq_true_eq, decide_eq_false_iff_not]; omega)
      try omega
    try simp only [Act.put, List.setIfInBounds_toArray, List.set_cons_zero, List.set_cons_succ]
    refine wpAnyH_done (by as_aux_lemma => kernel_rfl) ?_ _
    try dsimp only at hHeld
    go_wp2_with fail
    exact ⟨⟨j + 1, by omega, by go_num, bl_trans hb hHeld.1⟩, by simp [intOf]; omega⟩

  rename World => wF
  as_aux_lemma =>
  have z58 := Lib.hid hb.size
  replace hv := bl_trans hv hb
  replace hB1 := hB1.below hb
  replace hX1 := hX1.below hb
  replace hB2 := hB2.below hb
  replace hB3 := hB3.below hb
  replace hox := hox.below hb
  replace hp1 := hp1.below hb
  replace hox2 := hox2.below hb
  replace ho4 := ho4.below hb
  replace hox3 := hox3.below hb
  replace ho6 := ho6.below hb
  clear hb
  have k10 : wF.cell? ⟨g1, 0, none⟩ = some (Value.slice (some ⟨ga, 0, none⟩) n c) := hB1.cell 0
  have k11 : wF.cell? ⟨g1, 1, none⟩ = some (Value.int IntKind.i64 o) := hB1.cell 1
  have k12 : wF.cell? ⟨g1, 2, none⟩ = some (Value.int IntKind.i64 t) := hB1.cell 2
  have k13 : wF.cell? ⟨g1, 3, none⟩ = some (Value.int IntKind.i64 p) := hB1.cell 3
  have x10 : wF.cell? ⟨gx1, 0, none⟩ = some (Value.slice Bx1 r dx1) := hX1.cell 0
  have x11 : wF.cell? ⟨gx1, 1, none⟩ = some (Value.int IntKind.i64 lo) := hX1.cell 1
  have x12 : wF.cell? ⟨gx1, 2, none⟩ = some (Value.int IntKind.i64 lt) := hX1.cell 2
  have x13 : wF.cell? ⟨gx1, 3, none⟩ = some (Value.int IntKind.i64 lp) := hX1.cell 3
  have k20 : wF.cell? ⟨g2, 0, none⟩ = some (Value.slice (some ⟨ga2, 0, none⟩) n2 c2) := hB2.cell 0
  have k21 : wF.cell? ⟨g2, 1, none⟩ = some (Value.int IntKind.i64 o2) := hB2.cell 1
  have k22 : wF.cell? ⟨g2, 2, none⟩ = some (Value.int IntKind.i64 t2) := hB2.cell 2
  have k23 : wF.cell? ⟨g2, 3, none⟩ = some (Value.int IntKind.i64 p2) := hB2.cell 3
  have k30 : wF.cell? ⟨g3, 0, none⟩ = some (Value.slice (some ⟨ga3, 0, none⟩) n3 c3) := hB3.cell 0
  have k31 : wF.cell? ⟨g3, 1, none⟩ = some (Value.int IntKind.i64 o3) := hB3.cell 1
  have k32 : wF.cell? ⟨g3, 2, none⟩ = some (Value.int IntKind.i64 t3) := hB3.cell 2
  have k33 : wF.cell? ⟨g3, 3, none⟩ = some (Value.int IntKind.i64 p3) := hB3.cell 3
  by_cases hpc : pc = 0
  case neg =>
    go_wp2_with fail
    go_returns
    exact Ret.mk rfl hv
  obtain ⟨L, q0, q1, q2, q3, e1, e2⟩ := HPF.out hpc
  have HE1 := Lib.hid (fun w h => e1 ▸ LeftToPay_c (some ⟨ga, 0, none⟩) xs n c o t p hn hz hs w h)
  have HE2 := Lib.hid (fun w h => e2 ▸ LeftToPay_c Bx1 l r dx1 lo lt lp HRL hzr hls w h)
  have hwr : IntKind.i64.wrap (L + k - L) = k := (IntWalk.i64_in _ (by omega)).trans (by omega)
  clear e1 e2
  subst hpc
  go_wp2_with fail
  refine (HE1.out _ hox.arr).mono ?_
  rintro e W ⟨rfl, hb⟩
  have z59 := Lib.hid hb.size
  replace hv := bl_trans hv hb
  replace hB1 := hB1.below hb
  replace hX1 := hX1.below hb
  replace hB2 := hB2.below hb
  replace hB3 := hB3.below hb
  replace hox := hox.below hb
  replace hp1 := hp1.below hb
  replace hox2 := hox2.below hb
  replace ho4 := ho4.below hb
  replace hox3 := hox3.below hb
  replace ho6 := ho6.below hb
  clear hb
  have k10 : W.cell? ⟨g1, 0, none⟩ = some (Value.slice (some ⟨ga, 0, none⟩) n c) := hB1.cell 0
  have k11 : W.cell? ⟨g1, 1, none⟩ = some (Value.int IntKind.i64 o) := hB1.cell 1
  have k12 : W.cell? ⟨g1, 2, none⟩ = some (Value.int IntKind.i64 t) := hB1.cell 2
  have k13 : W.cell? ⟨g1, 3, none⟩ = some (Value.int IntKind.i64 p) := hB1.cell 3
  have x10 : W.cell? ⟨gx1, 0, none⟩ = some (Value.slice Bx1 r dx1) := hX1.cell 0
  have x11 : W.cell? ⟨gx1, 1, none⟩ = some (Value.int IntKind.i64 lo) := hX1.cell 1
  have x12 : W.cell? ⟨gx1, 2, none⟩ = some (Value.int IntKind.i64 lt) := hX1.cell 2
  have x13 : W.cell? ⟨gx1, 3, none⟩ = some (Value.int IntKind.i64 lp) := hX1.cell 3
  have k20 : W.cell? ⟨g2, 0, none⟩ = some (Value.slice (some ⟨ga2, 0, none⟩) n2 c2) := hB2.cell 0
  have k21 : W.cell? ⟨g2, 1, none⟩ = some (Value.int IntKind.i64 o2) := hB2.cell 1
  have k22 : W.cell? ⟨g2, 2, none⟩ = some (Value.int IntKind.i64 t2) := hB2.cell 2
  have k23 : W.cell? ⟨g2, 3, none⟩ = some (Value.int IntKind.i64 p2) := hB2.cell 3
  have k30 : W.cell? ⟨g3, 0, none⟩ = some (Value.slice (some ⟨ga3, 0, none⟩) n3 c3) := hB3.cell 0
  have k31 : W.cell? ⟨g3, 1, none⟩ = some (Value.int IntKind.i64 o3) := hB3.cell 1
  have k32 : W.cell? ⟨g3, 2, none⟩ = some (Value.int IntKind.i64 t3) := hB3.cell 2
  have k33 : W.cell? ⟨g3, 3, none⟩ = some (Value.int IntKind.i64 p3) := hB3.cell 3
  go_wp2_with fail
  refine (HE2.out _ hp1.arr).mono ?_
  rintro e W ⟨rfl, hb⟩
  have z60 := Lib.hid hb.size
  replace hv := bl_trans hv hb
  replace hB1 := hB1.below hb
  replace hX1 := hX1.below hb
  replace hB2 := hB2.below hb
  replace hB3 := hB3.below hb
  replace hox := hox.below hb
  replace hp1 := hp1.below hb
  replace hox2 := hox2.below hb
  replace ho4 := ho4.below hb
  replace hox3 := hox3.below hb
  replace ho6 := ho6.below hb
  clear hb
  have k10 : W.cell? ⟨g1, 0, none⟩ = some (Value.slice (some ⟨ga, 0, none⟩) n c) := hB1.cell 0
  have k11 : W.cell? ⟨g1, 1, none⟩ = some (Value.int IntKind.i64 o) := hB1.cell 1
  have k12 : W.cell? ⟨g1, 2, none⟩ = some (Value.int IntKind.i64 t) := hB1.cell 2
  have k13 : W.cell? ⟨g1, 3, none⟩ = some (Value.int IntKind.i64 p) := hB1.cell 3
  have x10 : W.cell? ⟨gx1, 0, none⟩ = some (Value.slice Bx1 r dx1) := hX1.cell 0
  have x11 : W.cell? ⟨gx1, 1, none⟩ = some (Value.int IntKind.i64 lo) := hX1.cell 1
  have x12 : W.cell? ⟨gx1, 2, none⟩ = some (Value.int IntKind.i64 lt) := hX1.cell 2
  have x13 : W.cell? ⟨gx1, 3, none⟩ = some (Value.int IntKind.i64 lp) := hX1.cell 3
  have k20 : W.cell? ⟨g2, 0, none⟩ = some (Value.slice (some ⟨ga2, 0, none⟩) n2 c2) := hB2.cell 0
  have k21 : W.cell? ⟨g2, 1, none⟩ = some (Value.int IntKind.i64 o2) := hB2.cell 1
  have k22 : W.cell? ⟨g2, 2, none⟩ = some (Value.int IntKind.i64 t2) := hB2.cell 2
  have k23 : W.cell? ⟨g2, 3, none⟩ = some (Value.int IntKind.i64 p2) := hB2.cell 3
  have k30 : W.cell? ⟨g3, 0, none⟩ = some (Value.slice (some ⟨ga3, 0, none⟩) n3 c3) := hB3.cell 0
  have k31 : W.cell? ⟨g3, 1, none⟩ = some (Value.int IntKind.i64 o3) := hB3.cell 1
  have k32 : W.cell? ⟨g3, 2, none⟩ = some (Value.int IntKind.i64 t3) := hB3.cell 2
  have k33 : W.cell? ⟨g3, 3, none⟩ = some (Value.int IntKind.i64 p3) := hB3.cell 3
  have hwr2 : IntKind.i64.wrap k = k := IntWalk.i64_in _ (by omega)
  have hlk : L + k - L = k := by omega
  go_wp2_with fail
  go_returns
  exact Ret.mk (by first | rfl | simp) hv

end Go.Proofs.Ytopbiihiogbhiaa
