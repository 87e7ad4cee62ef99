/- The law on deposits, walked. NOT BUILT YET. -/
import Derived.Test.YtnhkdcebldppmaaDoorDepQ
import Derived.Test.YtnhkdcebldppmaaDoorDrwV
import Derived.Test.YtnhkdcebldppmaaDoorLinB
import Derived.Test.YtnhkdcebldppmaaDoorLinC
import Derived.Test.YtnhkdcebldppmaaDoorFnB
import Derived.Test.YtnhkdcebldppmaaDoorNeq
import Derived.Deep.DeepCutAuto
namespace Go.Proofs.YtnhkdcebldppmaaDoor
open Go.RowKit

theorem itemOnes (xs : List Item) : ∀ u ∈ flat Item.cells xs, u.oneCell' = true := by
  intro u hu
  simp only [flat, List.mem_flatMap] at hu
  obtain ⟨x, _, hx⟩ := hu
  simp only [Item.cells, List.mem_cons, List.not_mem_nil, or_false] at hx
  rcases hx with rfl | rfl | rfl <;> rfl
/-- append, and where the new row lies -/
theorem wp_append_atW {P : Program} {o : Oper} {a : Act} {K : Act → World → Prop} {Q : Exit → Act → World → Prop} (w : World) (s x : Operand) (t : TypeId)
    (ho : o.op = .call { callee := .builtin .append, args := #[s, x], argTypes := #[t, t] })
    (base : Nat) (e : TypeId) (i : TypeInfo) (z : Value) (size bytes : Nat) (ht : P.underlying t = some (.slice e)) (hi : P.info? e = some i) (hz : i.zero = some z)
    (hsize : i.size = size) (hby : i.bytes = bytes) (hzs : z.cells.size = size) (hsz : 0 < size)
    (v : Value) (n : Nat) (xs : List Value) (hs : a.eval s = v) (hown : w.ownsRow base e size v n xs)
    (ad : Addr) (m c : Nat) (news : List Value) (hx : a.eval x = .slice (some ad) m c) (hl : news.length = m * size) (hnews : ∀ j u, news[j]? = some u → w.cell? (ad.add j) = some u) (h1 : ∀ u ∈ news, u.oneCell' = true)
    (h63 : n + m ≤ maxLen) (hbytes : (n + m) * bytes ≤ 140737488355328) (hbase : base ≤ w.heap.size)
    (h : ∀ v' w', w'.ownsRow base e size v' (n + m) (xs ++ news) → w.grownBy w' v.ownBlock → (v'.ownBlock = v.ownBlock ∨ v'.ownBlock = some w.heap.size) → K (a.put o.dst v') w') : o.wp P a w K Q := by
  obtain ⟨v', w', hr, h2, h3, _, h5⟩ := run_append_own_at (P := P) w base t o.type e i z size bytes ht hi hz hsize hby hzs hsz v n xs hown ad m c news hl hnews h1 h63 hbytes hbase
  unfold Oper.wp execOp
  simp only [ho, resolve, invoke, builtin, Sem.run_bind, Sem.run_pure, Result.andThen_ok, List.map_toArray, List.map_cons, List.map_nil, hs, hx, hr]
  exact h v' w' h2 h3 h5
theorem linesB_lenD (xs : List Item) (o t p : Int) : (linesB xs o t p).length ≤ 21 := by
  unfold linesB
  split
  case isTrue h =>
    have h1 := (few_of_all (by simp only [billB, Bool.and_eq_true, decide_eq_true_eq] at h; exact h.1.1.1.1) (by simp only [billB, Bool.and_eq_true] at h; exact h.1.2)).1
    simp
    omega
  case isFalse => simp
theorem rDepo_form (xs : List Item) (o t p per st : Int) : ∃ a b : Int, rDepo xs o t p per st = #[.int .i64 a, .int .i64 b] := by
  unfold rDepo
  repeat' split
  all_goals exact ⟨_, _, rfl⟩
theorem rOff_form (xs : List Item) (o t p k : Int) : ∃ a b : Int, rOff xs o t p k = #[.int .i64 a, .int .i64 b] := by
  unfold rOff
  repeat' split
  all_goals exact ⟨_, _, rfl⟩
theorem rRefund_form (xs : List Item) (o t p m g : Int) : ∃ a b : Int, rRefund xs o t p m g = #[.int .i64 a, .int .i64 b] := by
  unfold rRefund
  repeat' split
  all_goals exact ⟨_, _, rfl⟩
set_option maxRecDepth 100000 in
set_option maxHeartbeats 8000000 in
theorem FnDeposits_law (C : Option Addr) (nn cc : Nat) (cs : List UInt8) (hnn : Hid (cs.length = nn)) (w : World) (hA : Arr w C (cs.map bvS)) (hlt : ∀ ad, C = some ad → ad.block < w.heap.size) (hT : Pow10 w) :
    Calls Tryd.prog 3 #[.slice C nn cc] w (Ret (.bool true) w) := by
  have hA0 := Lib.hid hA
  have hL0 := Lib.hid hlt
  have hT0 := Lib.hid hT
  clear hA hlt hT
  go_enter Tryd.func3, Tryd.ntmps3
  go_wp2_with fail
  refine (f6big_c C nn cc w).mono ?_
  rintro e W ⟨rfl, hv⟩
  by_cases hb4 : 4096 < nn
  · go_wp2_with fail
    go_returns
    exact Ret.mk rfl hv
  go_wp2_with fail
  refine (DrawDepositFor_c C nn cc cs hnn (by omega) _ (hA0.out.below hv) (fun ad e => Nat.lt_of_lt_of_le (hL0.out ad e) hv.size)).mono ?_
  rintro e W ⟨ga1, xs1, n1, c1, o1, t1, p1, per, stp, rfl, hn', hn21, hs', hox1, hb⟩
  have hn1 := Lib.hid hn'
  have hs1 : Hid (∀ x ∈ xs1, x.name.size ≤ 9223372036854775807) := Lib.hid (fun x hx => Nat.le_trans (hs' x hx) (by omega))
  have hz1 : (n1 : Int) ≤ 1048576 := by omega
  have hq1 : n1 ≤ 21 := hn21
  clear hn' hs' hn21
  obtain ⟨lx1, ux1, h_own, z0, z1⟩ := Own.named hox1 hb
  replace hox1 := h_own
  clear h_own
  have z2 := Lib.hid hb.size
  replace hv := bl_trans hv hb
  clear hb
  obtain ⟨R1, E1, hR⟩ := rDepo_form xs1 o1 t1 p1 per stp
  have HD1 := Lib.hid (fun w h => hR ▸ DepositFor_c (some ⟨ga1, 0, none⟩) xs1 n1 c1 o1 t1 p1 hn1 per stp hz1 hs1 w h)
  have HD2 := Lib.hid (fun w h => hR ▸ SDepositFor_c (some ⟨ga1, 0, none⟩) xs1 n1 c1 o1 t1 p1 hn1 per stp hz1 hs1 w h)
  have HF1 := Lib.hid (fun h : E1 = 0 => rDepo_facts hR h)
  clear hR
  obtain ⟨W0, hW0⟩ : ∃ W0, W0 = W.alloc (Obj.cells #[Value.slice (some ⟨ga1, 0, none⟩) n1 c1, Value.int IntKind.i64 o1, Value.int IntKind.i64 t1, Value.int IntKind.i64 p1] 26) := ⟨_, rfl⟩
  obtain ⟨g1, hgx⟩ : ∃ gx, gx = W.heap.size := ⟨_, rfl⟩
  have hb : Below W.heap.size W W0 := by rw [hW0]; exact bl_alloc (Below.refl _ _) _
  have hB1 : Blk W0 g1 26 #[Value.slice (some ⟨ga1, 0, none⟩) n1 c1, Value.int IntKind.i64 o1, Value.int IntKind.i64 t1, Value.int IntKind.i64 p1] := by rw [hW0, hgx]; exact Blk.new _ _ _
  have z3 := Lib.hid (Nat.le_of_eq hgx.symm)
  have z4 := Lib.hid hB1.lt
  go_wp2_with fail
  rw [← hW0, ← hgx]
  clear hW0 hgx 
  have z5 := Lib.hid hb.size
  replace hv := bl_trans hv hb
  replace hox1 := hox1.below hb
  clear hb
  have k10 : W0.cell? ⟨g1, 0, none⟩ = some (Value.slice (some ⟨ga1, 0, none⟩) n1 c1) := hB1.cell 0
  have k11 : W0.cell? ⟨g1, 1, none⟩ = some (Value.int IntKind.i64 o1) := hB1.cell 1
  have k12 : W0.cell? ⟨g1, 2, none⟩ = some (Value.int IntKind.i64 t1) := hB1.cell 2
  have k13 : W0.cell? ⟨g1, 3, none⟩ = some (Value.int IntKind.i64 p1) := hB1.cell 3
  refine (HD1.out _ hox1.arr).mono ?_
  rintro e W ⟨rfl, hb⟩
  have z6 := Lib.hid hb.size
  replace hv := bl_trans hv hb
  replace hB1 := hB1.below hb
  replace hox1 := hox1.below hb
  clear hb
  have k10 : W.cell? ⟨g1, 0, none⟩ = some (Value.slice (some ⟨ga1, 0, none⟩) n1 c1) := hB1.cell 0
  have k11 : W.cell? ⟨g1, 1, none⟩ = some (Value.int IntKind.i64 o1) := hB1.cell 1
  have k12 : W.cell? ⟨g1, 2, none⟩ = some (Value.int IntKind.i64 t1) := hB1.cell 2
  have k13 : W.cell? ⟨g1, 3, none⟩ = some (Value.int IntKind.i64 p1) := hB1.cell 3
  go_wp2_with fail
  refine (HD2.out _ hox1.arr).mono ?_
  rintro e W ⟨rfl, hb⟩
  have z7 := Lib.hid hb.size
  replace hv := bl_trans hv hb
  replace hB1 := hB1.below hb
  replace hox1 := hox1.below hb
  clear hb
  have k10 : W.cell? ⟨g1, 0, none⟩ = some (Value.slice (some ⟨ga1, 0, none⟩) n1 c1) := hB1.cell 0
  have k11 : W.cell? ⟨g1, 1, none⟩ = some (Value.int IntKind.i64 o1) := hB1.cell 1
  have k12 : W.cell? ⟨g1, 2, none⟩ = some (Value.int IntKind.i64 t1) := hB1.cell 2
  have k13 : W.cell? ⟨g1, 3, none⟩ = some (Value.int IntKind.i64 p1) := hB1.cell 3
  go_wp2_with fail
  clear HD1 HD2
  refine (DrawOffFor_c C nn cc cs hnn (by omega) _ (hA0.out.below hv) (fun ad e => Nat.lt_of_lt_of_le (hL0.out ad e) hv.size)).mono ?_
  rintro e W ⟨ga2, xs2, n2, c2, o2, t2, p2, cen, rfl, hn', hn21, hs', hox2, hb⟩
  have hn2 := Lib.hid hn'
  have hs2 : Hid (∀ x ∈ xs2, x.name.size ≤ 9223372036854775807) := Lib.hid (fun x hx => Nat.le_trans (hs' x hx) (by omega))
  have hz2 : (n2 : Int) ≤ 1048576 := by omega
  have hq2 : n2 ≤ 21 := hn21
  clear hn' hs' hn21
  obtain ⟨lx2, ux2, h_own, z8, z9⟩ := Own.named hox2 hb
  replace hox2 := h_own
  clear h_own
  have z10 := Lib.hid hb.size
  replace hv := bl_trans hv hb
  replace hB1 := hB1.below hb
  replace hox1 := hox1.below hb
  clear hb
  have k10 : W.cell? ⟨g1, 0, none⟩ = some (Value.slice (some ⟨ga1, 0, none⟩) n1 c1) := hB1.cell 0
  have k11 : W.cell? ⟨g1, 1, none⟩ = some (Value.int IntKind.i64 o1) := hB1.cell 1
  have k12 : W.cell? ⟨g1, 2, none⟩ = some (Value.int IntKind.i64 t1) := hB1.cell 2
  have k13 : W.cell? ⟨g1, 3, none⟩ = some (Value.int IntKind.i64 p1) := hB1.cell 3
  obtain ⟨R2, E2, hR⟩ := rOff_form xs2 o2 t2 p2 cen
  have HD1 := Lib.hid (fun w h => hR ▸ OffFor_c (some ⟨ga2, 0, none⟩) xs2 n2 c2 o2 t2 p2 hn2 cen hz2 hs2 w h)
  have HD2 := Lib.hid (fun w h => hR ▸ SOffFor_c (some ⟨ga2, 0, none⟩) xs2 n2 c2 o2 t2 p2 hn2 cen hz2 hs2 w h)
  have HF2 := Lib.hid (fun h : E2 = 0 => rOff_facts hR h)
  clear hR
  obtain ⟨W0, hW0⟩ : ∃ W0, W0 = W.alloc (Obj.cells #[Value.slice (some ⟨ga2, 0, none⟩) n2 c2, Value.int IntKind.i64 o2, Value.int IntKind.i64 t2, Value.int IntKind.i64 p2] 26) := ⟨_, rfl⟩
  obtain ⟨g2, hgx⟩ : ∃ gx, gx = W.heap.size := ⟨_, rfl⟩
  have hb : Below W.heap.size W W0 := by rw [hW0]; exact bl_alloc (Below.refl _ _) _
  have hB2 : Blk W0 g2 26 #[Value.slice (some ⟨ga2, 0, none⟩) n2 c2, Value.int IntKind.i64 o2, Value.int IntKind.i64 t2, Value.int IntKind.i64 p2] := by rw [hW0, hgx]; exact Blk.new _ _ _
  have a_k10 : ∀ O, (World.alloc W O).cell? ⟨g1, 0, none⟩ = some (Value.slice (some ⟨ga1, 0, none⟩) n1 c1) := fun O => (hB1.alloc O).cell 0
  have a_k11 : ∀ O, (World.alloc W O).cell? ⟨g1, 1, none⟩ = some (Value.int IntKind.i64 o1) := fun O => (hB1.alloc O).cell 1
  have a_k12 : ∀ O, (World.alloc W O).cell? ⟨g1, 2, none⟩ = some (Value.int IntKind.i64 t1) := fun O => (hB1.alloc O).cell 2
  have a_k13 : ∀ O, (World.alloc W O).cell? ⟨g1, 3, none⟩ = some (Value.int IntKind.i64 p1) := fun O => (hB1.alloc O).cell 3
  have z11 := Lib.hid (Nat.le_of_eq hgx.symm)
  have z12 := Lib.hid hB2.lt
  go_wp2_with fail
  rw [← hW0, ← hgx]
  clear hW0 hgx a_k10 a_k11 a_k12 a_k13
  have z13 := Lib.hid hb.size
  replace hv := bl_trans hv hb
  replace hB1 := hB1.below hb
  replace hox1 := hox1.below hb
  replace hox2 := hox2.below hb
  clear hb
  have k10 : W0.cell? ⟨g1, 0, none⟩ = some (Value.slice (some ⟨ga1, 0, none⟩) n1 c1) := hB1.cell 0
  have k11 : W0.cell? ⟨g1, 1, none⟩ = some (Value.int IntKind.i64 o1) := hB1.cell 1
  have k12 : W0.cell? ⟨g1, 2, none⟩ = some (Value.int IntKind.i64 t1) := hB1.cell 2
  have k13 : W0.cell? ⟨g1, 3, none⟩ = some (Value.int IntKind.i64 p1) := hB1.cell 3
  have k20 : W0.cell? ⟨g2, 0, none⟩ = some (Value.slice (some ⟨ga2, 0, none⟩) n2 c2) := hB2.cell 0
  have k21 : W0.cell? ⟨g2, 1, none⟩ = some (Value.int IntKind.i64 o2) := hB2.cell 1
  have k22 : W0.cell? ⟨g2, 2, none⟩ = some (Value.int IntKind.i64 t2) := hB2.cell 2
  have k23 : W0.cell? ⟨g2, 3, none⟩ = some (Value.int IntKind.i64 p2) := hB2.cell 3
  refine (HD1.out _ hox2.arr).mono ?_
  rintro e W ⟨rfl, hb⟩
  have z14 := Lib.hid hb.size
  replace hv := bl_trans hv hb
  replace hB1 := hB1.below hb
  replace hB2 := hB2.below hb
  replace hox1 := hox1.below hb
  replace hox2 := hox2.below hb
  clear hb
  have k10 : W.cell? ⟨g1, 0, none⟩ = some (Value.slice (some ⟨ga1, 0, none⟩) n1 c1) := hB1.cell 0
  have k11 : W.cell? ⟨g1, 1, none⟩ = some (Value.int IntKind.i64 o1) := hB1.cell 1
  have k12 : W.cell? ⟨g1, 2, none⟩ = some (Value.int IntKind.i64 t1) := hB1.cell 2
  have k13 : W.cell? ⟨g1, 3, none⟩ = some (Value.int IntKind.i64 p1) := hB1.cell 3
  have k20 : W.cell? ⟨g2, 0, none⟩ = some (Value.slice (some ⟨ga2, 0, none⟩) n2 c2) := hB2.cell 0
  have k21 : W.cell? ⟨g2, 1, none⟩ = some (Value.int IntKind.i64 o2) := hB2.cell 1
  have k22 : W.cell? ⟨g2, 2, none⟩ = some (Value.int IntKind.i64 t2) := hB2.cell 2
  have k23 : W.cell? ⟨g2, 3, none⟩ = some (Value.int IntKind.i64 p2) := hB2.cell 3
  go_wp2_with fail
  refine (HD2.out _ hox2.arr).mono ?_
  rintro e W ⟨rfl, hb⟩
  have z15 := Lib.hid hb.size
  replace hv := bl_trans hv hb
  replace hB1 := hB1.below hb
  replace hB2 := hB2.below hb
  replace hox1 := hox1.below hb
  replace hox2 := hox2.below hb
  clear hb
  have k10 : W.cell? ⟨g1, 0, none⟩ = some (Value.slice (some ⟨ga1, 0, none⟩) n1 c1) := hB1.cell 0
  have k11 : W.cell? ⟨g1, 1, none⟩ = some (Value.int IntKind.i64 o1) := hB1.cell 1
  have k12 : W.cell? ⟨g1, 2, none⟩ = some (Value.int IntKind.i64 t1) := hB1.cell 2
  have k13 : W.cell? ⟨g1, 3, none⟩ = some (Value.int IntKind.i64 p1) := hB1.cell 3
  have k20 : W.cell? ⟨g2, 0, none⟩ = some (Value.slice (some ⟨ga2, 0, none⟩) n2 c2) := hB2.cell 0
  have k21 : W.cell? ⟨g2, 1, none⟩ = some (Value.int IntKind.i64 o2) := hB2.cell 1
  have k22 : W.cell? ⟨g2, 2, none⟩ = some (Value.int IntKind.i64 t2) := hB2.cell 2
  have k23 : W.cell? ⟨g2, 3, none⟩ = some (Value.int IntKind.i64 p2) := hB2.cell 3
  go_wp2_with fail
  clear HD1 HD2
  refine (DrawRefundFor_c C nn cc cs hnn (by omega) _ (hA0.out.below hv) (fun ad e => Nat.lt_of_lt_of_le (hL0.out ad e) hv.size)).mono ?_
  rintro e W ⟨ga3, xs3, n3, c3, o3, t3, p3, mo, gu, rfl, hn', hn21, hs', hox3, hb⟩
  have hn3 := Lib.hid hn'
  have hs3 : Hid (∀ x ∈ xs3, x.name.size ≤ 9223372036854775807) := Lib.hid (fun x hx => Nat.le_trans (hs' x hx) (by omega))
  have hz3 : (n3 : Int) ≤ 1048576 := by omega
  have hq3 : n3 ≤ 21 := hn21
  clear hn' hs' hn21
  obtain ⟨lx3, ux3, h_own, z16, z17⟩ := Own.named hox3 hb
  replace hox3 := h_own
  clear h_own
  have z18 := Lib.hid hb.size
  replace hv := bl_trans hv hb
  replace hB1 := hB1.below hb
  replace hB2 := hB2.below hb
  replace hox1 := hox1.below hb
  replace hox2 := hox2.below hb
  clear hb
  have k10 : W.cell? ⟨g1, 0, none⟩ = some (Value.slice (some ⟨ga1, 0, none⟩) n1 c1) := hB1.cell 0
  have k11 : W.cell? ⟨g1, 1, none⟩ = some (Value.int IntKind.i64 o1) := hB1.cell 1
  have k12 : W.cell? ⟨g1, 2, none⟩ = some (Value.int IntKind.i64 t1) := hB1.cell 2
  have k13 : W.cell? ⟨g1, 3, none⟩ = some (Value.int IntKind.i64 p1) := hB1.cell 3
  have k20 : W.cell? ⟨g2, 0, none⟩ = some (Value.slice (some ⟨ga2, 0, none⟩) n2 c2) := hB2.cell 0
  have k21 : W.cell? ⟨g2, 1, none⟩ = some (Value.int IntKind.i64 o2) := hB2.cell 1
  have k22 : W.cell? ⟨g2, 2, none⟩ = some (Value.int IntKind.i64 t2) := hB2.cell 2
  have k23 : W.cell? ⟨g2, 3, none⟩ = some (Value.int IntKind.i64 p2) := hB2.cell 3
  obtain ⟨R3, E3, hR⟩ := rRefund_form xs3 o3 t3 p3 mo gu
  have HD1 := Lib.hid (fun w h => hR ▸ RefundFor_c (some ⟨ga3, 0, none⟩) xs3 n3 c3 o3 t3 p3 hn3 mo gu hz3 hs3 w h)
  have HD2 := Lib.hid (fun w h => hR ▸ SRefundFor_c (some ⟨ga3, 0, none⟩) xs3 n3 c3 o3 t3 p3 hn3 mo gu hz3 hs3 w h)
  have HF3 := Lib.hid (fun h : E3 = 0 => rRefund_facts hR h)
  clear hR
  obtain ⟨W0, hW0⟩ : ∃ W0, W0 = W.alloc (Obj.cells #[Value.slice (some ⟨ga3, 0, none⟩) n3 c3, Value.int IntKind.i64 o3, Value.int IntKind.i64 t3, Value.int IntKind.i64 p3] 26) := ⟨_, rfl⟩
  obtain ⟨g3, hgx⟩ : ∃ gx, gx = W.heap.size := ⟨_, rfl⟩
  have hb : Below W.heap.size W W0 := by rw [hW0]; exact bl_alloc (Below.refl _ _) _
  have hB3 : Blk W0 g3 26 #[Value.slice (some ⟨ga3, 0, none⟩) n3 c3, Value.int IntKind.i64 o3, Value.int IntKind.i64 t3, Value.int IntKind.i64 p3] := by rw [hW0, hgx]; exact Blk.new _ _ _
  have a_k10 : ∀ O, (World.alloc W O).cell? ⟨g1, 0, none⟩ = some (Value.slice (some ⟨ga1, 0, none⟩) n1 c1) := fun O => (hB1.alloc O).cell 0
  have a_k11 : ∀ O, (World.alloc W O).cell? ⟨g1, 1, none⟩ = some (Value.int IntKind.i64 o1) := fun O => (hB1.alloc O).cell 1
  have a_k12 : ∀ O, (World.alloc W O).cell? ⟨g1, 2, none⟩ = some (Value.int IntKind.i64 t1) := fun O => (hB1.alloc O).cell 2
  have a_k13 : ∀ O, (World.alloc W O).cell? ⟨g1, 3, none⟩ = some (Value.int IntKind.i64 p1) := fun O => (hB1.alloc O).cell 3
  have a_k20 : ∀ O, (World.alloc W O).cell? ⟨g2, 0, none⟩ = some (Value.slice (some ⟨ga2, 0, none⟩) n2 c2) := fun O => (hB2.alloc O).cell 0
  have a_k21 : ∀ O, (World.alloc W O).cell? ⟨g2, 1, none⟩ = some (Value.int IntKind.i64 o2) := fun O => (hB2.alloc O).cell 1
  have a_k22 : ∀ O, (World.alloc W O).cell? ⟨g2, 2, none⟩ = some (Value.int IntKind.i64 t2) := fun O => (hB2.alloc O).cell 2
  have a_k23 : ∀ O, (World.alloc W O).cell? ⟨g2, 3, none⟩ = some (Value.int IntKind.i64 p2) := fun O => (hB2.alloc O).cell 3
  have z19 := Lib.hid (Nat.le_of_eq hgx.symm)
  have z20 := Lib.hid hB3.lt
  go_wp2_with fail
  rw [← hW0, ← hgx]
  clear hW0 hgx a_k10 a_k11 a_k12 a_k13 a_k20 a_k21 a_k22 a_k23
  have z21 := Lib.hid hb.size
  replace hv := bl_trans hv hb
  replace hB1 := hB1.below hb
  replace hB2 := hB2.below hb
  replace hox1 := hox1.below hb
  replace hox2 := hox2.below hb
  replace hox3 := hox3.below hb
  clear hb
  have k10 : W0.cell? ⟨g1, 0, none⟩ = some (Value.slice (some ⟨ga1, 0, none⟩) n1 c1) := hB1.cell 0
  have k11 : W0.cell? ⟨g1, 1, none⟩ = some (Value.int IntKind.i64 o1) := hB1.cell 1
  have k12 : W0.cell? ⟨g1, 2, none⟩ = some (Value.int IntKind.i64 t1) := hB1.cell 2
  have k13 : W0.cell? ⟨g1, 3, none⟩ = some (Value.int IntKind.i64 p1) := hB1.cell 3
  have k20 : W0.cell? ⟨g2, 0, none⟩ = some (Value.slice (some ⟨ga2, 0, none⟩) n2 c2) := hB2.cell 0
  have k21 : W0.cell? ⟨g2, 1, none⟩ = some (Value.int IntKind.i64 o2) := hB2.cell 1
  have k22 : W0.cell? ⟨g2, 2, none⟩ = some (Value.int IntKind.i64 t2) := hB2.cell 2
  have k23 : W0.cell? ⟨g2, 3, none⟩ = some (Value.int IntKind.i64 p2) := hB2.cell 3
  have k30 : W0.cell? ⟨g3, 0, none⟩ = some (Value.slice (some ⟨ga3, 0, none⟩) n3 c3) := hB3.cell 0
  have k31 : W0.cell? ⟨g3, 1, none⟩ = some (Value.int IntKind.i64 o3) := hB3.cell 1
  have k32 : W0.cell? ⟨g3, 2, none⟩ = some (Value.int IntKind.i64 t3) := hB3.cell 2
  have k33 : W0.cell? ⟨g3, 3, none⟩ = some (Value.int IntKind.i64 p3) := hB3.cell 3
  refine (HD1.out _ hox3.arr).mono ?_
  rintro e W ⟨rfl, hb⟩
  have z22 := Lib.hid hb.size
  replace hv := bl_trans hv hb
  replace hB1 := hB1.below hb
  replace hB2 := hB2.below hb
  replace hB3 := hB3.below hb
  replace hox1 := hox1.below hb
  replace hox2 := hox2.below hb
  replace hox3 := hox3.below hb
  clear hb
  have k10 : W.cell? ⟨g1, 0, none⟩ = some (Value.slice (some ⟨ga1, 0, none⟩) n1 c1) := hB1.cell 0
  have k11 : W.cell? ⟨g1, 1, none⟩ = some (Value.int IntKind.i64 o1) := hB1.cell 1
  have k12 : W.cell? ⟨g1, 2, none⟩ = some (Value.int IntKind.i64 t1) := hB1.cell 2
  have k13 : W.cell? ⟨g1, 3, none⟩ = some (Value.int IntKind.i64 p1) := hB1.cell 3
  have k20 : W.cell? ⟨g2, 0, none⟩ = some (Value.slice (some ⟨ga2, 0, none⟩) n2 c2) := hB2.cell 0
  have k21 : W.cell? ⟨g2, 1, none⟩ = some (Value.int IntKind.i64 o2) := hB2.cell 1
  have k22 : W.cell? ⟨g2, 2, none⟩ = some (Value.int IntKind.i64 t2) := hB2.cell 2
  have k23 : W.cell? ⟨g2, 3, none⟩ = some (Value.int IntKind.i64 p2) := hB2.cell 3
  have k30 : W.cell? ⟨g3, 0, none⟩ = some (Value.slice (some ⟨ga3, 0, none⟩) n3 c3) := hB3.cell 0
  have k31 : W.cell? ⟨g3, 1, none⟩ = some (Value.int IntKind.i64 o3) := hB3.cell 1
  have k32 : W.cell? ⟨g3, 2, none⟩ = some (Value.int IntKind.i64 t3) := hB3.cell 2
  have k33 : W.cell? ⟨g3, 3, none⟩ = some (Value.int IntKind.i64 p3) := hB3.cell 3
  go_wp2_with fail
  refine (HD2.out _ hox3.arr).mono ?_
  rintro e W ⟨rfl, hb⟩
  have z23 := Lib.hid hb.size
  replace hv := bl_trans hv hb
  replace hB1 := hB1.below hb
  replace hB2 := hB2.below hb
  replace hB3 := hB3.below hb
  replace hox1 := hox1.below hb
  replace hox2 := hox2.below hb
  replace hox3 := hox3.below hb
  clear hb
  have k10 : W.cell? ⟨g1, 0, none⟩ = some (Value.slice (some ⟨ga1, 0, none⟩) n1 c1) := hB1.cell 0
  have k11 : W.cell? ⟨g1, 1, none⟩ = some (Value.int IntKind.i64 o1) := hB1.cell 1
  have k12 : W.cell? ⟨g1, 2, none⟩ = some (Value.int IntKind.i64 t1) := hB1.cell 2
  have k13 : W.cell? ⟨g1, 3, none⟩ = some (Value.int IntKind.i64 p1) := hB1.cell 3
  have k20 : W.cell? ⟨g2, 0, none⟩ = some (Value.slice (some ⟨ga2, 0, none⟩) n2 c2) := hB2.cell 0
  have k21 : W.cell? ⟨g2, 1, none⟩ = some (Value.int IntKind.i64 o2) := hB2.cell 1
  have k22 : W.cell? ⟨g2, 2, none⟩ = some (Value.int IntKind.i64 t2) := hB2.cell 2
  have k23 : W.cell? ⟨g2, 3, none⟩ = some (Value.int IntKind.i64 p2) := hB2.cell 3
  have k30 : W.cell? ⟨g3, 0, none⟩ = some (Value.slice (some ⟨ga3, 0, none⟩) n3 c3) := hB3.cell 0
  have k31 : W.cell? ⟨g3, 1, none⟩ = some (Value.int IntKind.i64 o3) := hB3.cell 1
  have k32 : W.cell? ⟨g3, 2, none⟩ = some (Value.int IntKind.i64 t3) := hB3.cell 2
  have k33 : W.cell? ⟨g3, 3, none⟩ = some (Value.int IntKind.i64 p3) := hB3.cell 3
  go_wp2_with fail
  clear HD1 HD2
  refine (DrawBillLines_c C nn cc cs hnn (by omega) _ (hA0.out.below hv) (fun ad e => Nat.lt_of_lt_of_le (hL0.out ad e) hv.size)).mono ?_
  rintro e W ⟨ga4, xs4, n4, c4, o4, t4, p4, rfl, hn', hn21, hs', hox4, hb⟩
  have hn4 := Lib.hid hn'
  have hs4 : Hid (∀ x ∈ xs4, x.name.size ≤ 9223372036854775807) := Lib.hid (fun x hx => Nat.le_trans (hs' x hx) (by omega))
  have hz4 : (n4 : Int) ≤ 1048576 := by omega
  have hq4 : n4 ≤ 21 := hn21
  clear hn' hs' hn21
  obtain ⟨lx4, ux4, h_own, z24, z25⟩ := Own.named hox4 hb
  replace hox4 := h_own
  clear h_own
  have z26 := Lib.hid hb.size
  replace hv := bl_trans hv hb
  replace hB1 := hB1.below hb
  replace hB2 := hB2.below hb
  replace hB3 := hB3.below hb
  replace hox1 := hox1.below hb
  replace hox2 := hox2.below hb
  replace hox3 := hox3.below hb
  clear hb
  have k10 : W.cell? ⟨g1, 0, none⟩ = some (Value.slice (some ⟨ga1, 0, none⟩) n1 c1) := hB1.cell 0
  have k11 : W.cell? ⟨g1, 1, none⟩ = some (Value.int IntKind.i64 o1) := hB1.cell 1
  have k12 : W.cell? ⟨g1, 2, none⟩ = some (Value.int IntKind.i64 t1) := hB1.cell 2
  have k13 : W.cell? ⟨g1, 3, none⟩ = some (Value.int IntKind.i64 p1) := hB1.cell 3
  have k20 : W.cell? ⟨g2, 0, none⟩ = some (Value.slice (some ⟨ga2, 0, none⟩) n2 c2) := hB2.cell 0
  have k21 : W.cell? ⟨g2, 1, none⟩ = some (Value.int IntKind.i64 o2) := hB2.cell 1
  have k22 : W.cell? ⟨g2, 2, none⟩ = some (Value.int IntKind.i64 t2) := hB2.cell 2
  have k23 : W.cell? ⟨g2, 3, none⟩ = some (Value.int IntKind.i64 p2) := hB2.cell 3
  have k30 : W.cell? ⟨g3, 0, none⟩ = some (Value.slice (some ⟨ga3, 0, none⟩) n3 c3) := hB3.cell 0
  have k31 : W.cell? ⟨g3, 1, none⟩ = some (Value.int IntKind.i64 o3) := hB3.cell 1
  have k32 : W.cell? ⟨g3, 2, none⟩ = some (Value.int IntKind.i64 t3) := hB3.cell 2
  have k33 : W.cell? ⟨g3, 3, none⟩ = some (Value.int IntKind.i64 p3) := hB3.cell 3
  obtain ⟨l, hl⟩ : ∃ z, z = linesB xs4 o4 t4 p4 := ⟨_, rfl⟩
  obtain ⟨lc, hlc⟩ : ∃ z, z = cLines xs4 o4 t4 p4 := ⟨_, rfl⟩
  obtain ⟨r, hr⟩ : ∃ z, z = l.length := ⟨_, rfl⟩
  have hr21 : r ≤ 21 := by rw [hr, hl]; exact linesB_lenD _ _ _ _
  have HL1 := fun w h ht => BillLines_c (some ⟨ga4, 0, none⟩) xs4 n4 c4 o4 t4 p4 hn4 hz4 hs4 w h ht
  have HL2 := fun w h => SBillLines_c (some ⟨ga4, 0, none⟩) xs4 n4 c4 o4 t4 p4 hn4 hz4 hs4 w h
  unfold OutL at HL1 HL2
  rw [← hl, ← hlc, ← hr] at HL1 HL2
  replace HL1 := Lib.hid HL1
  replace HL2 := Lib.hid HL2
  have HRL := Lib.hid hr.symm
  clear hl hlc hr
  obtain ⟨W0, hW0⟩ : ∃ W0, W0 = W.alloc (Obj.cells #[Value.slice (some ⟨ga4, 0, none⟩) n4 c4, Value.int IntKind.i64 o4, Value.int IntKind.i64 t4, Value.int IntKind.i64 p4] 26) := ⟨_, rfl⟩
  obtain ⟨g4, hgx⟩ : ∃ gx, gx = W.heap.size := ⟨_, rfl⟩
  have hb : Below W.heap.size W W0 := by rw [hW0]; exact bl_alloc (Below.refl _ _) _
  have hB4 : Blk W0 g4 26 #[Value.slice (some ⟨ga4, 0, none⟩) n4 c4, Value.int IntKind.i64 o4, Value.int IntKind.i64 t4, Value.int IntKind.i64 p4] := by rw [hW0, hgx]; exact Blk.new _ _ _
  have a_k10 : ∀ O, (World.alloc W O).cell? ⟨g1, 0, none⟩ = some (Value.slice (some ⟨ga1, 0, none⟩) n1 c1) := fun O => (hB1.alloc O).cell 0
  have a_k11 : ∀ O, (World.alloc W O).cell? ⟨g1, 1, none⟩ = some (Value.int IntKind.i64 o1) := fun O => (hB1.alloc O).cell 1
  have a_k12 : ∀ O, (World.alloc W O).cell? ⟨g1, 2, none⟩ = some (Value.int IntKind.i64 t1) := fun O => (hB1.alloc O).cell 2
  have a_k13 : ∀ O, (World.alloc W O).cell? ⟨g1, 3, none⟩ = some (Value.int IntKind.i64 p1) := fun O => (hB1.alloc O).cell 3
  have a_k20 : ∀ O, (World.alloc W O).cell? ⟨g2, 0, none⟩ = some (Value.slice (some ⟨ga2, 0, none⟩) n2 c2) := fun O => (hB2.alloc O).cell 0
  have a_k21 : ∀ O, (World.alloc W O).cell? ⟨g2, 1, none⟩ = some (Value.int IntKind.i64 o2) := fun O => (hB2.alloc O).cell 1
  have a_k22 : ∀ O, (World.alloc W O).cell? ⟨g2, 2, none⟩ = some (Value.int IntKind.i64 t2) := fun O => (hB2.alloc O).cell 2
  have a_k23 : ∀ O, (World.alloc W O).cell? ⟨g2, 3, none⟩ = some (Value.int IntKind.i64 p2) := fun O => (hB2.alloc O).cell 3
  have a_k30 : ∀ O, (World.alloc W O).cell? ⟨g3, 0, none⟩ = some (Value.slice (some ⟨ga3, 0, none⟩) n3 c3) := fun O => (hB3.alloc O).cell 0
  have a_k31 : ∀ O, (World.alloc W O).cell? ⟨g3, 1, none⟩ = some (Value.int IntKind.i64 o3) := fun O => (hB3.alloc O).cell 1
  have a_k32 : ∀ O, (World.alloc W O).cell? ⟨g3, 2, none⟩ = some (Value.int IntKind.i64 t3) := fun O => (hB3.alloc O).cell 2
  have a_k33 : ∀ O, (World.alloc W O).cell? ⟨g3, 3, none⟩ = some (Value.int IntKind.i64 p3) := fun O => (hB3.alloc O).cell 3
  have z27 := Lib.hid (Nat.le_of_eq hgx.symm)
  have z28 := Lib.hid hB4.lt
  go_wp2_with fail
  rw [← hW0, ← hgx]
  clear hW0 hgx a_k10 a_k11 a_k12 a_k13 a_k20 a_k21 a_k22 a_k23 a_k30 a_k31 a_k32 a_k33
  have z29 := Lib.hid hb.size
  replace hv := bl_trans hv hb
  replace hB1 := hB1.below hb
  replace hB2 := hB2.below hb
  replace hB3 := hB3.below hb
  replace hox1 := hox1.below hb
  replace hox2 := hox2.below hb
  replace hox3 := hox3.below hb
  replace hox4 := hox4.below hb
  clear hb
  have k10 : W0.cell? ⟨g1, 0, none⟩ = some (Value.slice (some ⟨ga1, 0, none⟩) n1 c1) := hB1.cell 0
  have k11 : W0.cell? ⟨g1, 1, none⟩ = some (Value.int IntKind.i64 o1) := hB1.cell 1
  have k12 : W0.cell? ⟨g1, 2, none⟩ = some (Value.int IntKind.i64 t1) := hB1.cell 2
  have k13 : W0.cell? ⟨g1, 3, none⟩ = some (Value.int IntKind.i64 p1) := hB1.cell 3
  have k20 : W0.cell? ⟨g2, 0, none⟩ = some (Value.slice (some ⟨ga2, 0, none⟩) n2 c2) := hB2.cell 0
  have k21 : W0.cell? ⟨g2, 1, none⟩ = some (Value.int IntKind.i64 o2) := hB2.cell 1
  have k22 : W0.cell? ⟨g2, 2, none⟩ = some (Value.int IntKind.i64 t2) := hB2.cell 2
  have k23 : W0.cell? ⟨g2, 3, none⟩ = some (Value.int IntKind.i64 p2) := hB2.cell 3
  have k30 : W0.cell? ⟨g3, 0, none⟩ = some (Value.slice (some ⟨ga3, 0, none⟩) n3 c3) := hB3.cell 0
  have k31 : W0.cell? ⟨g3, 1, none⟩ = some (Value.int IntKind.i64 o3) := hB3.cell 1
  have k32 : W0.cell? ⟨g3, 2, none⟩ = some (Value.int IntKind.i64 t3) := hB3.cell 2
  have k33 : W0.cell? ⟨g3, 3, none⟩ = some (Value.int IntKind.i64 p3) := hB3.cell 3
  have k40 : W0.cell? ⟨g4, 0, none⟩ = some (Value.slice (some ⟨ga4, 0, none⟩) n4 c4) := hB4.cell 0
  have k41 : W0.cell? ⟨g4, 1, none⟩ = some (Value.int IntKind.i64 o4) := hB4.cell 1
  have k42 : W0.cell? ⟨g4, 2, none⟩ = some (Value.int IntKind.i64 t4) := hB4.cell 2
  have k43 : W0.cell? ⟨g4, 3, none⟩ = some (Value.int IntKind.i64 p4) := hB4.cell 3
  refine (HL1.out _ hox4.arr (hT0.out.below hv)).mono ?_
  rintro e W ⟨B5, d5, rfl, ho5, hb⟩
  obtain ⟨lo5, uo5, h_own, z30, z31⟩ := Own.named ho5 hb
  replace ho5 := h_own
  clear h_own
  have z32 := Lib.hid hb.size
  replace hv := bl_trans hv hb
  replace hB1 := hB1.below hb
  replace hB2 := hB2.below hb
  replace hB3 := hB3.below hb
  replace hB4 := hB4.below hb
  replace hox1 := hox1.below hb
  replace hox2 := hox2.below hb
  replace hox3 := hox3.below hb
  replace hox4 := hox4.below hb
  clear hb
  have k10 : W.cell? ⟨g1, 0, none⟩ = some (Value.slice (some ⟨ga1, 0, none⟩) n1 c1) := hB1.cell 0
  have k11 : W.cell? ⟨g1, 1, none⟩ = some (Value.int IntKind.i64 o1) := hB1.cell 1
  have k12 : W.cell? ⟨g1, 2, none⟩ = some (Value.int IntKind.i64 t1) := hB1.cell 2
  have k13 : W.cell? ⟨g1, 3, none⟩ = some (Value.int IntKind.i64 p1) := hB1.cell 3
  have k20 : W.cell? ⟨g2, 0, none⟩ = some (Value.slice (some ⟨ga2, 0, none⟩) n2 c2) := hB2.cell 0
  have k21 : W.cell? ⟨g2, 1, none⟩ = some (Value.int IntKind.i64 o2) := hB2.cell 1
  have k22 : W.cell? ⟨g2, 2, none⟩ = some (Value.int IntKind.i64 t2) := hB2.cell 2
  have k23 : W.cell? ⟨g2, 3, none⟩ = some (Value.int IntKind.i64 p2) := hB2.cell 3
  have k30 : W.cell? ⟨g3, 0, none⟩ = some (Value.slice (some ⟨ga3, 0, none⟩) n3 c3) := hB3.cell 0
  have k31 : W.cell? ⟨g3, 1, none⟩ = some (Value.int IntKind.i64 o3) := hB3.cell 1
  have k32 : W.cell? ⟨g3, 2, none⟩ = some (Value.int IntKind.i64 t3) := hB3.cell 2
  have k33 : W.cell? ⟨g3, 3, none⟩ = some (Value.int IntKind.i64 p3) := hB3.cell 3
  have k40 : W.cell? ⟨g4, 0, none⟩ = some (Value.slice (some ⟨ga4, 0, none⟩) n4 c4) := hB4.cell 0
  have k41 : W.cell? ⟨g4, 1, none⟩ = some (Value.int IntKind.i64 o4) := hB4.cell 1
  have k42 : W.cell? ⟨g4, 2, none⟩ = some (Value.int IntKind.i64 t4) := hB4.cell 2
  have k43 : W.cell? ⟨g4, 3, none⟩ = some (Value.int IntKind.i64 p4) := hB4.cell 3
  go_wp2_with fail
  refine (HL2.out _ hox4.arr).mono ?_
  rintro e W ⟨B6, d6, rfl, ho6, hb⟩
  obtain ⟨lo6, uo6, h_own, z33, z34⟩ := Own.named ho6 hb
  replace ho6 := h_own
  clear h_own
  have z35 := Lib.hid hb.size
  replace hv := bl_trans hv hb
  replace hB1 := hB1.below hb
  replace hB2 := hB2.below hb
  replace hB3 := hB3.below hb
  replace hB4 := hB4.below hb
  replace hox1 := hox1.below hb
  replace hox2 := hox2.below hb
  replace hox3 := hox3.below hb
  replace hox4 := hox4.below hb
  replace ho5 := ho5.below hb
  clear hb
  have k10 : W.cell? ⟨g1, 0, none⟩ = some (Value.slice (some ⟨ga1, 0, none⟩) n1 c1) := hB1.cell 0
  have k11 : W.cell? ⟨g1, 1, none⟩ = some (Value.int IntKind.i64 o1) := hB1.cell 1
  have k12 : W.cell? ⟨g1, 2, none⟩ = some (Value.int IntKind.i64 t1) := hB1.cell 2
  have k13 : W.cell? ⟨g1, 3, none⟩ = some (Value.int IntKind.i64 p1) := hB1.cell 3
  have k20 : W.cell? ⟨g2, 0, none⟩ = some (Value.slice (some ⟨ga2, 0, none⟩) n2 c2) := hB2.cell 0
  have k21 : W.cell? ⟨g2, 1, none⟩ = some (Value.int IntKind.i64 o2) := hB2.cell 1
  have k22 : W.cell? ⟨g2, 2, none⟩ = some (Value.int IntKind.i64 t2) := hB2.cell 2
  have k23 : W.cell? ⟨g2, 3, none⟩ = some (Value.int IntKind.i64 p2) := hB2.cell 3
  have k30 : W.cell? ⟨g3, 0, none⟩ = some (Value.slice (some ⟨ga3, 0, none⟩) n3 c3) := hB3.cell 0
  have k31 : W.cell? ⟨g3, 1, none⟩ = some (Value.int IntKind.i64 o3) := hB3.cell 1
  have k32 : W.cell? ⟨g3, 2, none⟩ = some (Value.int IntKind.i64 t3) := hB3.cell 2
  have k33 : W.cell? ⟨g3, 3, none⟩ = some (Value.int IntKind.i64 p3) := hB3.cell 3
  have k40 : W.cell? ⟨g4, 0, none⟩ = some (Value.slice (some ⟨ga4, 0, none⟩) n4 c4) := hB4.cell 0
  have k41 : W.cell? ⟨g4, 1, none⟩ = some (Value.int IntKind.i64 o4) := hB4.cell 1
  have k42 : W.cell? ⟨g4, 2, none⟩ = some (Value.int IntKind.i64 t4) := hB4.cell 2
  have k43 : W.cell? ⟨g4, 3, none⟩ = some (Value.int IntKind.i64 p4) := hB4.cell 3
  go_wp2_with fail
  refine (DrawMoneyText_c C nn cc cs hnn (by omega) _ (hA0.out.below hv) (fun ad e => Nat.lt_of_lt_of_le (hL0.out ad e) hv.size)).mono ?_
  rintro e W ⟨mny, rfl, hb⟩
  have z36 := Lib.hid hb.size
  replace hv := bl_trans hv hb
  replace hB1 := hB1.below hb
  replace hB2 := hB2.below hb
  replace hB3 := hB3.below hb
  replace hB4 := hB4.below hb
  replace hox1 := hox1.below hb
  replace hox2 := hox2.below hb
  replace hox3 := hox3.below hb
  replace hox4 := hox4.below hb
  replace ho5 := ho5.below hb
  replace ho6 := ho6.below hb
  clear hb
  have k10 : W.cell? ⟨g1, 0, none⟩ = some (Value.slice (some ⟨ga1, 0, none⟩) n1 c1) := hB1.cell 0
  have k11 : W.cell? ⟨g1, 1, none⟩ = some (Value.int IntKind.i64 o1) := hB1.cell 1
  have k12 : W.cell? ⟨g1, 2, none⟩ = some (Value.int IntKind.i64 t1) := hB1.cell 2
  have k13 : W.cell? ⟨g1, 3, none⟩ = some (Value.int IntKind.i64 p1) := hB1.cell 3
  have k20 : W.cell? ⟨g2, 0, none⟩ = some (Value.slice (some ⟨ga2, 0, none⟩) n2 c2) := hB2.cell 0
  have k21 : W.cell? ⟨g2, 1, none⟩ = some (Value.int IntKind.i64 o2) := hB2.cell 1
  have k22 : W.cell? ⟨g2, 2, none⟩ = some (Value.int IntKind.i64 t2) := hB2.cell 2
  have k23 : W.cell? ⟨g2, 3, none⟩ = some (Value.int IntKind.i64 p2) := hB2.cell 3
  have k30 : W.cell? ⟨g3, 0, none⟩ = some (Value.slice (some ⟨ga3, 0, none⟩) n3 c3) := hB3.cell 0
  have k31 : W.cell? ⟨g3, 1, none⟩ = some (Value.int IntKind.i64 o3) := hB3.cell 1
  have k32 : W.cell? ⟨g3, 2, none⟩ = some (Value.int IntKind.i64 t3) := hB3.cell 2
  have k33 : W.cell? ⟨g3, 3, none⟩ = some (Value.int IntKind.i64 p3) := hB3.cell 3
  have k40 : W.cell? ⟨g4, 0, none⟩ = some (Value.slice (some ⟨ga4, 0, none⟩) n4 c4) := hB4.cell 0
  have k41 : W.cell? ⟨g4, 1, none⟩ = some (Value.int IntKind.i64 o4) := hB4.cell 1
  have k42 : W.cell? ⟨g4, 2, none⟩ = some (Value.int IntKind.i64 t4) := hB4.cell 2
  have k43 : W.cell? ⟨g4, 3, none⟩ = some (Value.int IntKind.i64 p4) := hB4.cell 3
  obtain ⟨mb, hmb⟩ : ∃ z, z = moneyB mny := ⟨_, rfl⟩
  have HM1 := Lib.hid (fun w h => hmb ▸ MoneyText_c mny w h)
  have HM2 := Lib.hid (fun w => hmb ▸ SMoneyText_c mny w)
  clear hmb HL1 HL2
  clear hox4 hB4
  clear k40 k41 k42 k43
  rename World => wA0
  go_upto_region 16 with fail
  go_cut [159] (fun s wx => s = .bool false ∧ Below wA0.heap.size wA0 wx)
  case first =>
   as_aux_lemma =>
    have e1 : (E1 != E1) = false := by simp
    have e2 : (R1 != R1) = false := by simp
    have e3 : (E2 != E2) = false := by simp
    have e4 : (R2 != R2) = false := by simp
    have e5 : (E3 != E3) = false := by simp
    have e6 : (R3 != R3) = false := by simp
    have e7 : (lc != lc) = false := by simp
    have e8 : ((r : Int) != (r : Int)) = false := by simp
    go_wp2_with fail
    refine (HM1.out _ (hT0.out.below hv)).mono ?_
    rintro e V1 ⟨rfl, hb1⟩
    go_wp2_with fail
    refine (HM2.out _).mono ?_
    rintro e V2 ⟨rfl, hb2⟩
    have e9 : (!mb.toList == mb.toList) = false := by simp
    go_wp2_with fail
    go_meet
    exact ⟨rfl, bl_trans hb1 hb2⟩
  case rest =>
  as_aux_lemma =>
  obtain ⟨rfl, hb⟩ := hcut
  rename World => wA
  have z37 := Lib.hid hb.size
  replace hv := bl_trans hv hb
  replace hB1 := hB1.below hb
  replace hB2 := hB2.below hb
  replace hB3 := hB3.below hb
  replace hox1 := hox1.below hb
  replace hox2 := hox2.below hb
  replace hox3 := hox3.below hb
  replace ho5 := ho5.below hb
  replace ho6 := ho6.below hb
  clear hb
  have k10 : wA.cell? ⟨g1, 0, none⟩ = some (Value.slice (some ⟨ga1, 0, none⟩) n1 c1) := hB1.cell 0
  have k11 : wA.cell? ⟨g1, 1, none⟩ = some (Value.int IntKind.i64 o1) := hB1.cell 1
  have k12 : wA.cell? ⟨g1, 2, none⟩ = some (Value.int IntKind.i64 t1) := hB1.cell 2
  have k13 : wA.cell? ⟨g1, 3, none⟩ = some (Value.int IntKind.i64 p1) := hB1.cell 3
  have k20 : wA.cell? ⟨g2, 0, none⟩ = some (Value.slice (some ⟨ga2, 0, none⟩) n2 c2) := hB2.cell 0
  have k21 : wA.cell? ⟨g2, 1, none⟩ = some (Value.int IntKind.i64 o2) := hB2.cell 1
  have k22 : wA.cell? ⟨g2, 2, none⟩ = some (Value.int IntKind.i64 t2) := hB2.cell 2
  have k23 : wA.cell? ⟨g2, 3, none⟩ = some (Value.int IntKind.i64 p2) := hB2.cell 3
  have k30 : wA.cell? ⟨g3, 0, none⟩ = some (Value.slice (some ⟨ga3, 0, none⟩) n3 c3) := hB3.cell 0
  have k31 : wA.cell? ⟨g3, 1, none⟩ = some (Value.int IntKind.i64 o3) := hB3.cell 1
  have k32 : wA.cell? ⟨g3, 2, none⟩ = some (Value.int IntKind.i64 t3) := hB3.cell 2
  have k33 : wA.cell? ⟨g3, 3, none⟩ = some (Value.int IntKind.i64 p3) := hB3.cell 3
  clear HM1 HM2
  go_wp2_with fail
  go_loopw [29] (fun i wr => ∃ j : Nat, j ≤ r ∧ i = .int .i64 j ∧ Below wA.heap.size wA wr) (fun i _ => r - (intOf i).toNat)
  case atStart => exact ⟨0, by omega, rfl, Below.refl _ _⟩
  case round =>
  obtain ⟨j, hj, rfl, hb⟩ := hrel
  have hj0 : (0 : Int) ≤ (j : Int) := by omega
  by_cases hlt : j < r
  case pos =>
   as_aux_lemma =>
    obtain ⟨x, hx⟩ := get_of_lt (xs := l) (k := j) (by rw [HRL.out]; exact hlt)
    obtain ⟨ad, had, _, c0⟩ := scell_at (ho5.arr.below hb) hx
    obtain ⟨bd, hbd, _, d0⟩ := scell_at (ho6.arr.below hb) hx
    subst had
    subst hbd
    have hj1 : (j : Int) < (r : Int) := by omega
    have hne : (!x.toList == x.toList) = false := by simp
    clear hx
    go_wp2_with fail
    go_quiet (fail)
    go_wp2_with fail
    exact ⟨⟨j + 1, by omega, by go_num, below_drewN hb _⟩, by simp [intOf]; omega⟩
  rename World => wB
  as_aux_lemma =>
  have z38 := Lib.hid hb.size
  replace hv := bl_trans hv hb
  replace hB1 := hB1.below hb
  replace hB2 := hB2.below hb
  replace hB3 := hB3.below hb
  replace hox1 := hox1.below hb
  replace hox2 := hox2.below hb
  replace hox3 := hox3.below hb
  replace ho5 := ho5.below hb
  replace ho6 := ho6.below hb
  clear hb
  have k10 : wB.cell? ⟨g1, 0, none⟩ = some (Value.slice (some ⟨ga1, 0, none⟩) n1 c1) := hB1.cell 0
  have k11 : wB.cell? ⟨g1, 1, none⟩ = some (Value.int IntKind.i64 o1) := hB1.cell 1
  have k12 : wB.cell? ⟨g1, 2, none⟩ = some (Value.int IntKind.i64 t1) := hB1.cell 2
  have k13 : wB.cell? ⟨g1, 3, none⟩ = some (Value.int IntKind.i64 p1) := hB1.cell 3
  have k20 : wB.cell? ⟨g2, 0, none⟩ = some (Value.slice (some ⟨ga2, 0, none⟩) n2 c2) := hB2.cell 0
  have k21 : wB.cell? ⟨g2, 1, none⟩ = some (Value.int IntKind.i64 o2) := hB2.cell 1
  have k22 : wB.cell? ⟨g2, 2, none⟩ = some (Value.int IntKind.i64 t2) := hB2.cell 2
  have k23 : wB.cell? ⟨g2, 3, none⟩ = some (Value.int IntKind.i64 p2) := hB2.cell 3
  have k30 : wB.cell? ⟨g3, 0, none⟩ = some (Value.slice (some ⟨ga3, 0, none⟩) n3 c3) := hB3.cell 0
  have k31 : wB.cell? ⟨g3, 1, none⟩ = some (Value.int IntKind.i64 o3) := hB3.cell 1
  have k32 : wB.cell? ⟨g3, 2, none⟩ = some (Value.int IntKind.i64 t3) := hB3.cell 2
  have k33 : wB.cell? ⟨g3, 3, none⟩ = some (Value.int IntKind.i64 p3) := hB3.cell 3
  clear ho5 ho6
  go_upto_region 23 with fail
  go_cut [205] (fun s wx => s = .bool false ∧ Below wB.heap.size wB wx)
  case first =>
   as_aux_lemma =>
    clear HF1 HF2 HRL hox1 hox2 hB1 hB2 hnn hA0 hL0 hT0 hv
    by_cases hc3 : E3 = 0
    case neg =>
      have hcc : (E3 == 0) = false := by rw [beq_eq_false_iff_ne]; exact hc3
      go_wp2_with fail
      go_meet
      exact ⟨rfl, Below.refl _ _⟩
    obtain ⟨q0, q1, q2, q3⟩ := HF3.out hc3
    subst hc3
    have r0 : ¬ R3 < 0 := by omega
    have r1 : ¬ p3 < R3 := by omega
    by_cases hm0 : mo = 0
    · have e := q2 hm0
      subst hm0
      subst e
      have r2 : (R3 != R3) = false := by simp
      by_cases hg0 : gu ≤ 0
      · have e := q3 hg0
        subst e
        go_wp2_with fail
        go_meet
        exact ⟨rfl, Below.refl _ _⟩
      · go_wp2_with fail
        go_meet
        exact ⟨rfl, Below.refl _ _⟩
    · have r2 : (mo == 0) = false := by rw [beq_eq_false_iff_ne]; exact hm0
      by_cases hg0 : gu ≤ mo
      · have e := q3 hg0
        subst e
        go_wp2_with fail
        go_meet
        exact ⟨rfl, Below.refl _ _⟩
      · go_wp2_with fail
        go_meet
        exact ⟨rfl, Below.refl _ _⟩
  case rest =>
  as_aux_lemma =>
  obtain ⟨rfl, hb⟩ := hcut
  rename World => wC
  have z39 := Lib.hid hb.size
  replace hv := bl_trans hv hb
  replace hB1 := hB1.below hb
  replace hB2 := hB2.below hb
  replace hB3 := hB3.below hb
  replace hox1 := hox1.below hb
  replace hox2 := hox2.below hb
  replace hox3 := hox3.below hb
  clear hb
  have k10 : wC.cell? ⟨g1, 0, none⟩ = some (Value.slice (some ⟨ga1, 0, none⟩) n1 c1) := hB1.cell 0
  have k11 : wC.cell? ⟨g1, 1, none⟩ = some (Value.int IntKind.i64 o1) := hB1.cell 1
  have k12 : wC.cell? ⟨g1, 2, none⟩ = some (Value.int IntKind.i64 t1) := hB1.cell 2
  have k13 : wC.cell? ⟨g1, 3, none⟩ = some (Value.int IntKind.i64 p1) := hB1.cell 3
  have k20 : wC.cell? ⟨g2, 0, none⟩ = some (Value.slice (some ⟨ga2, 0, none⟩) n2 c2) := hB2.cell 0
  have k21 : wC.cell? ⟨g2, 1, none⟩ = some (Value.int IntKind.i64 o2) := hB2.cell 1
  have k22 : wC.cell? ⟨g2, 2, none⟩ = some (Value.int IntKind.i64 t2) := hB2.cell 2
  have k23 : wC.cell? ⟨g2, 3, none⟩ = some (Value.int IntKind.i64 p2) := hB2.cell 3
  have k30 : wC.cell? ⟨g3, 0, none⟩ = some (Value.slice (some ⟨ga3, 0, none⟩) n3 c3) := hB3.cell 0
  have k31 : wC.cell? ⟨g3, 1, none⟩ = some (Value.int IntKind.i64 o3) := hB3.cell 1
  have k32 : wC.cell? ⟨g3, 2, none⟩ = some (Value.int IntKind.i64 t3) := hB3.cell 2
  have k33 : wC.cell? ⟨g3, 3, none⟩ = some (Value.int IntKind.i64 p3) := hB3.cell 3
  clear hox3 hB3
  clear k30 k31 k32 k33 HF3
  by_cases hE2 : E2 = 0
  case neg =>
   as_aux_lemma =>
    have hcc2 : (E2 == 0) = false := by rw [beq_eq_false_iff_ne]; exact hE2
    by_cases hE1 : E1 = 0
    case neg =>
      have hcc : (E1 != 0) = true := by rw [bne_iff_ne]; exact hE1
      go_wp2_with fail
      go_returns
      exact Ret.mk rfl hv
    obtain ⟨T, X, hT, tt0, tt1, u0, u1, st0, st1, v0, v1, v2, v3⟩ := HF1.out hE1
    have HT1 := fun w h => TotalOfBill_c (some ⟨ga1, 0, none⟩) xs1 n1 c1 o1 t1 p1 hn1 hz1 hs1 w h
    rw [hT] at HT1
    replace HT1 := Lib.hid HT1
    obtain ⟨TP, hTP⟩ : ∃ z, z = T * per := ⟨_, rfl⟩
    have hTP0 : 0 ≤ TP := by rw [hTP]; exact Int.mul_nonneg tt0 u0
    have hTP1 : TP ≤ T * 100 := by rw [hTP]; exact Int.mul_le_mul_of_nonneg_left u1 tt0
    have hmul : IntKind.i64.wrap (T * per) = TP := by rw [← hTP]; exact IntWalk.i64_in _ (by omega)
    have hmul2 : IntKind.i64.wrap (100 * R1) = 100 * R1 := IntWalk.i64_in _ (by omega)
    rw [← hTP] at v2
    clear hT hTP
    subst hE1
    go_wp2_with fail
    refine (HT1.out _ hox1.arr).mono ?_
    rintro e W ⟨rfl, hb⟩
    have z40 := Lib.hid hb.size
    replace hv := bl_trans hv hb
    replace hB1 := hB1.below hb
    replace hB2 := hB2.below hb
    replace hox1 := hox1.below hb
    replace hox2 := hox2.below hb
    clear hb
    have k10 : W.cell? ⟨g1, 0, none⟩ = some (Value.slice (some ⟨ga1, 0, none⟩) n1 c1) := hB1.cell 0
    have k11 : W.cell? ⟨g1, 1, none⟩ = some (Value.int IntKind.i64 o1) := hB1.cell 1
    have k12 : W.cell? ⟨g1, 2, none⟩ = some (Value.int IntKind.i64 t1) := hB1.cell 2
    have k13 : W.cell? ⟨g1, 3, none⟩ = some (Value.int IntKind.i64 p1) := hB1.cell 3
    have k20 : W.cell? ⟨g2, 0, none⟩ = some (Value.slice (some ⟨ga2, 0, none⟩) n2 c2) := hB2.cell 0
    have k21 : W.cell? ⟨g2, 1, none⟩ = some (Value.int IntKind.i64 o2) := hB2.cell 1
    have k22 : W.cell? ⟨g2, 2, none⟩ = some (Value.int IntKind.i64 t2) := hB2.cell 2
    have k23 : W.cell? ⟨g2, 3, none⟩ = some (Value.int IntKind.i64 p2) := hB2.cell 3
    by_cases heq : R1 = T
    case pos =>
      subst heq
      have hq1 : (R1 == R1) = true := by simp
      go_wp2_with fail
      go_returns
      exact Ret.mk (by first | rfl | simp) hv
    have hq1 : (R1 == T) = false := by rw [beq_eq_false_iff_ne]; exact heq
    have hm0 : R1 % stp = 0 := v3.resolve_left heq
    have hm1 : R1.tmod stp = 0 := by rw [Int.tmod_eq_emod_of_nonneg v0]; exact hm0
    have hst : stp ≠ 0 := by omega
    have hst2 : (stp == 0) = false := by rw [beq_eq_false_iff_ne]; exact hst
    go_wp2_with fail
    go_returns
    exact Ret.mk (by first | rfl | simp) hv
  as_aux_lemma =>
  obtain ⟨T2, X2, hT2, w0, w1, w2, hTT⟩ := HF2.out hE2
  have HT2 := fun B d w h => TotalOfBill_c B xs2 n2 d R2 t2 0 hn2 hz2 hs2 w h
  rw [hT2] at HT2
  replace HT2 := Lib.hid HT2
  have HTT := Lib.hid hTT
  subst hE2
  clear hT2 hTT
  obtain ⟨i0, hi0, iz0, iz1, iz2⟩ := info_parts (P := Tryd.prog) (e := 77) (z := .agg #[.string ByteArray.empty, .int .i64 0, .int .i64 0]) (size := 3) (bytes := 32) info_ItemL
  have hlen2 : (flat Item.cells xs2).length = n2 * 3 := by rw [flat_length Item.cells_length, hn2.out]
  go_upto_region 26 with fail
  go_cut [30] (fun s wx => ∃ (B : Option Addr) (d gx : Nat), s = .pointer (some ⟨gx, 0, none⟩) ∧ wC.heap.size ≤ gx ∧ Hid (wx.ownsRow wC.heap.size 77 3 (.slice B n2 d) n2 (flat Item.cells xs2)) ∧ Hid (∀ k, (Value.slice B n2 d).ownBlock = some k → k ≠ gx) ∧ Hid (Blk wx gx 26 #[Value.slice B n2 d, Value.int IntKind.i64 R2, Value.int IntKind.i64 t2, Value.int IntKind.i64 0]) ∧ Below wC.heap.size wC wx)
  case first =>
   as_aux_lemma =>

    refine wp_region_held_drew (S := fun w' => Below wC.heap.size wC w' ∧ True) (by as_aux_lemma => kernel_rfl) ?_ (fun hHeld => ?_)
    · exact ⟨(Below.refl _ _).drew, trivial⟩
    obtain ⟨Wd, hWd⟩ : ∃ z, z = wC.drew := ⟨_, rfl⟩
    rw [← hWd] at hHeld ⊢
    have hbel := hHeld.1
    clear hWd
    refine wpAnyH_take (i := 1) (oi := { dst := some 209, op := _, type := _, pos := _, after := _, guard := _ }) (v := ?_) rfl (by as_aux_lemma => kernel_rfl) (by as_aux_lemma => kernel_rfl) (by as_aux_lemma => kernel_rfl) (fun _ _ _ h => h) (Or.inl ⟨by as_aux_lemma => kernel_rfl, ?_⟩) (by assumption) ?_
    rotate_left
    · intro w hSw
      try dsimp only at hSw
      go_simp
      try with_reducible rfl
    try simp only [Act.put, List.setIfInBounds_toArray, List.set_cons_zero, List.set_cons_succ]
    refine wpAnyH_take (i := 2) (oi := { dst := some 210, op := _, type := _, pos := _, after := _, guard := _ }) (v := ?_) rfl (by as_aux_lemma => kernel_rfl) (by as_aux_lemma => kernel_rfl) (by as_aux_lemma => kernel_rfl) (fun _ _ _ h => h) (Or.inl ⟨by as_aux_lemma => kernel_rfl, ?_⟩) (by assumption) ?_
    rotate_left
    · intro w hSw
      try dsimp only at hSw
      have x_k20 := bl_cell hSw.1 k20
      have x_k21 := bl_cell hSw.1 k21
      have x_k22 := bl_cell hSw.1 k22
      have x_k23 := bl_cell hSw.1 k23
      go_simp
      try with_reducible rfl
    try simp only [Act.put, List.setIfInBounds_toArray, List.set_cons_zero, List.set_cons_succ]
    refine wpAnyH_take (i := 4) (oi := { dst := some 212, op := _, type := _, pos := _, after := _, guard := _ }) (v := ?_) rfl (by as_aux_lemma => kernel_rfl) (by as_aux_lemma => kernel_rfl) (by as_aux_lemma => kernel_rfl) (fun _ _ _ h => h) (Or.inl ⟨by as_aux_lemma => kernel_rfl, ?_⟩) (by assumption) ?_
    rotate_left
    · intro w hSw
      try dsimp only at hSw
      go_simp
      try with_reducible rfl
    try simp only [Act.put, List.setIfInBounds_toArray, List.set_cons_zero, List.set_cons_succ]
    refine wpAnyH_take (i := 5) (oi := { dst := some 213, op := _, type := _, pos := _, after := _, guard := _ }) (v := ?_) rfl (by as_aux_lemma => kernel_rfl) (by as_aux_lemma => kernel_rfl) (by as_aux_lemma => kernel_rfl) (fun _ _ _ h => h) (Or.inl ⟨by as_aux_lemma => kernel_rfl, ?_⟩) (by assumption) ?_
    rotate_left
    · intro w hSw
      try dsimp only at hSw
      go_simp
      try with_reducible rfl
    try simp only [Act.put, List.setIfInBounds_toArray, List.set_cons_zero, List.set_cons_succ]
    refine wpAnyH_take (i := 6) (oi := { dst := some 214, op := _, type := _, pos := _, after := _, guard := _ }) (v := ?_) rfl (by as_aux_lemma => kernel_rfl) (by as_aux_lemma => kernel_rfl) (by as_aux_lemma => kernel_rfl) (fun _ _ _ h => h) (Or.inl ⟨by as_aux_lemma => kernel_rfl, ?_⟩) (by assumption) ?_
    rotate_left
    · intro w hSw
      try dsimp only at hSw
      have x_k20 := bl_cell hSw.1 k20
      have x_k21 := bl_cell hSw.1 k21
      have x_k22 := bl_cell hSw.1 k22
      have x_k23 := bl_cell hSw.1 k23
      go_simp
      try with_reducible rfl
    try simp only [Act.put, List.setIfInBounds_toArray, List.set_cons_zero, List.set_cons_succ]
    refine wpAnyH_ready (rs := [0, 8]) (by as_aux_lemma => kernel_rfl) (by simp) ?_
    refine (AllReadyH.cons (o := { dst := some 208, op := _, type := _, pos := _, after := _, guard := _ }) rfl (fun K hK => ?_) (AllReadyH.cons (o := { dst := some 30, op := _, type := _, pos := _, after := _, guard := _ }) rfl (fun K hK => ?_) AllReadyH.nil))
    · skip
      go_simp
      obtain ⟨W1, hW2⟩ : ∃ z, z = World.alloc Wd (Obj.cells #[] 77) := ⟨_, rfl⟩
      obtain ⟨gp, hgp⟩ : ∃ z, z = Wd.heap.size := ⟨_, rfl⟩
      have HE : Hid (W1.ownsRow wC.heap.size 77 3 (.slice (some ⟨gp, 0, none⟩) 0 0) 0 []) := Lib.hid (by rw [hW2, hgp]; exact own_empty Wd _ _ _ hbel.size)
      have hb : Below Wd.heap.size Wd W1 := by rw [hW2]; exact bl_alloc (Below.refl _ _) _
      replace hbel := bl_trans hbel hb
      rw [← hW2, ← hgp]
      clear hW2 hgp hb
      refine hK.out _ _ ⟨hbel, trivial⟩ (fun hHeld => ?_)
      clear hK K
      try simp only [Act.put, List.setIfInBounds_toArray, List.set_cons_zero, List.set_cons_succ]
      refine wpAnyH_ready (rs := [3, 8]) (by as_aux_lemma => kernel_rfl) (by simp) ?_
      refine (AllReadyH.cons (o := { dst := some 211, op := _, type := _, pos := _, after := _, guard := _ }) rfl (fun K hK => ?_) (AllReadyH.cons (o := { dst := some 30, op := _, type := _, pos := _, after := _, guard := _ }) rfl (fun K hK => ?_) AllReadyH.nil))
      · skip
        rw [if_pos (by rfl)]
        refine wp_append_atW W1 _ _ 24 rfl wC.heap.size 77 i0 _ 3 32 Tryd.underlying24 hi0 iz0 iz1 iz2 rfl (by omega) (.slice (some ⟨gp, 0, none⟩) 0 0) 0 [] rfl HE.out ⟨ga2, 0, none⟩ n2 c2 (flat Item.cells xs2) rfl hlen2 ?_ (itemOnes xs2) (by unfold maxLen; omega) (by omega) hbel.size ?_
        · intro j u hu
          obtain ⟨ad', e', _, hc⟩ := (hox2.arr.below hbel) (by have := (List.getElem?_eq_some_iff.1 hu).1; omega)
          injection e' with e'
          subst e'
          exact hc j u hu
        intro v' W2 hown hg hat
        obtain ⟨B, d, rfl, _, _⟩ := own_form hown
        simp only [Nat.zero_add, List.nil_append] at hown hat ⊢
        have HO := Lib.hid hown
        replace hbel := bl_grown hbel hg (own_at HE.out)
        clear hown hg hat HE
        refine hK.out _ _ ⟨hbel, trivial⟩ (fun hHeld => ?_)
        clear hK K
        try simp only [Act.put, List.setIfInBounds_toArray, List.set_cons_zero, List.set_cons_succ]
        refine wpAnyH_take (i := 7) (oi := { dst := some 215, op := _, type := _, pos := _, after := _, guard := _ }) (v := ?_) rfl (by as_aux_lemma => kernel_rfl) (by as_aux_lemma => kernel_rfl) (by as_aux_lemma => kernel_rfl) (fun _ _ _ h => h) (Or.inl ⟨by as_aux_lemma => kernel_rfl, ?_⟩) (by assumption) ?_
        rotate_left
        · intro w hSw
          try dsimp only at hSw
          go_simp
          try with_reducible rfl
        try simp only [Act.put, List.setIfInBounds_toArray, List.set_cons_zero, List.set_cons_succ]
        refine wpAnyH_ready (rs := [8]) (by as_aux_lemma => kernel_rfl) (by simp) ?_
        refine (AllReadyH.cons (o := { dst := some 30, op := _, type := _, pos := _, after := _, guard := _ }) rfl (fun K hK => ?_) AllReadyH.nil)
        go_simp
        obtain ⟨W3, hW2⟩ : ∃ z, z = World.alloc W2 (Obj.cells #[Value.slice none 0 0, Value.int IntKind.i64 0, Value.int IntKind.i64 0, Value.int IntKind.i64 0] 26) := ⟨_, rfl⟩
        obtain ⟨gx, hgx⟩ : ∃ z, z = W2.heap.size := ⟨_, rfl⟩
        have HX : Hid (Blk W3 gx 26 #[Value.slice none 0 0, Value.int IntKind.i64 0, Value.int IntKind.i64 0, Value.int IntKind.i64 0]) := Lib.hid (by rw [hW2, hgx]; exact Blk.new _ _ _)
        have hb : Below W2.heap.size W2 W3 := by rw [hW2]; exact bl_alloc (Below.refl _ _) _
        have hgx0 : wC.heap.size ≤ gx := by rw [hgx]; exact hbel.size
        have hfar : ∀ k, (Value.slice B n2 d).ownBlock = some k → k ≠ gx := fun k e => by have := own_lt HO.out k e; omega
        replace hbel := bl_trans hbel hb
        replace HO := Lib.hid (own_below HO.out hb)
        rw [← hW2, ← hgx]
        clear hW2 hgx hb
        refine hK.out _ _ ⟨hbel, trivial⟩ (fun hHeld => ?_)
        clear hK K
        try simp only [Act.put, List.setIfInBounds_toArray, List.set_cons_zero, List.set_cons_succ]
        refine wpAnyH_ready (rs := [9]) (by as_aux_lemma => kernel_rfl) (by simp) ?_
        refine AllReadyH.cons (o := { dst := none, op := _, type := _, pos := _, after := _, guard := _ }) rfl (fun K hK => ?_) AllReadyH.nil
        have z0 : W3.cell? ⟨gx, 0, none⟩ = some (Value.slice none 0 0) := HX.out.cell 0
        have f0 := HX.out.frozen 0
        have z1 : W3.cell? ⟨gx, 1, none⟩ = some (Value.int IntKind.i64 0) := HX.out.cell 1
        have f1 := HX.out.frozen 1
        have z2 : W3.cell? ⟨gx, 2, none⟩ = some (Value.int IntKind.i64 0) := HX.out.cell 2
        have f2 := HX.out.frozen 2
        have z3 : W3.cell? ⟨gx, 3, none⟩ = some (Value.int IntKind.i64 0) := HX.out.cell 3
        have f3 := HX.out.frozen 3
        go_simp
        clear z0 z1 z2 z3 f0 f1 f2 f3
        obtain ⟨W10, hW⟩ : ∃ z, z = (World.setCell (World.setCell (World.setCell (World.setCell W3 ⟨gx, 0, none⟩ (Value.slice B n2 d)) ⟨gx, 1, none⟩ (Value.int IntKind.i64 R2)) ⟨gx, 2, none⟩ (Value.int IntKind.i64 t2)) ⟨gx, 3, none⟩ (Value.int IntKind.i64 0)) := ⟨_, rfl⟩
        replace HX := Lib.hid (((((HX.out).set_ 0 (Value.slice B n2 d)).set_ 1 (Value.int IntKind.i64 R2)).set_ 2 (Value.int IntKind.i64 t2)).set_ 3 (Value.int IntKind.i64 0))
        replace HO := Lib.hid (own_far (own_far (own_far (own_far (HO.out) (p := ⟨gx, 0, none⟩) hfar (Value.slice B n2 d)) (p := ⟨gx, 1, none⟩) hfar (Value.int IntKind.i64 R2)) (p := ⟨gx, 2, none⟩) hfar (Value.int IntKind.i64 t2)) (p := ⟨gx, 3, none⟩) hfar (Value.int IntKind.i64 0))
        replace hbel := bl_set (bl_set (bl_set (bl_set (hbel) (p := ⟨gx, 0, none⟩) hgx0 (Value.slice B n2 d)) (p := ⟨gx, 1, none⟩) hgx0 (Value.int IntKind.i64 R2)) (p := ⟨gx, 2, none⟩) hgx0 (Value.int IntKind.i64 t2)) (p := ⟨gx, 3, none⟩) hgx0 (Value.int IntKind.i64 0)
        rw [← hW] at HX HO hbel ⊢
        replace HX : Hid (Blk W10 gx 26 #[Value.slice B n2 d, Value.int IntKind.i64 R2, Value.int IntKind.i64 t2, Value.int IntKind.i64 0]) := HX
        clear hW
        refine hK.out _ _ ⟨hbel, trivial⟩ (fun hHeld => ?_)
        clear hK K
        try simp only [Act.put]
        refine wpAnyH_done (by as_aux_lemma => kernel_rfl) ?_ _
        try dsimp only at hHeld
        go_wp2_with fail
        go_meet
        exact ⟨B, d, gx, rfl, hgx0, HO, Lib.hid hfar, HX, hbel⟩
      · skip
        go_simp
        obtain ⟨W2, hW2⟩ : ∃ z, z = World.alloc W1 (Obj.cells #[Value.slice none 0 0, Value.int IntKind.i64 0, Value.int IntKind.i64 0, Value.int IntKind.i64 0] 26) := ⟨_, rfl⟩
        obtain ⟨gx, hgx⟩ : ∃ z, z = W1.heap.size := ⟨_, rfl⟩
        have HX : Hid (Blk W2 gx 26 #[Value.slice none 0 0, Value.int IntKind.i64 0, Value.int IntKind.i64 0, Value.int IntKind.i64 0]) := Lib.hid (by rw [hW2, hgx]; exact Blk.new _ _ _)
        have hb : Below W1.heap.size W1 W2 := by rw [hW2]; exact bl_alloc (Below.refl _ _) _
        have hgx0 : wC.heap.size ≤ gx := by rw [hgx]; exact hbel.size
        have hgpx : gp ≠ gx := by have := own_lt HE.out gp rfl; omega
        replace hbel := bl_trans hbel hb
        replace HE := Lib.hid (own_below HE.out hb)
        rw [← hW2, ← hgx]
        clear hW2 hgx hb
        refine hK.out _ _ ⟨hbel, trivial⟩ (fun hHeld => ?_)
        clear hK K
        try simp only [Act.put, List.setIfInBounds_toArray, List.set_cons_zero, List.set_cons_succ]
        refine wpAnyH_ready (rs := [3]) (by as_aux_lemma => kernel_rfl) (by simp) ?_
        refine (AllReadyH.cons (o := { dst := some 211, op := _, type := _, pos := _, after := _, guard := _ }) rfl (fun K hK => ?_) AllReadyH.nil)
        rw [if_pos (by rfl)]
        refine wp_append_atW W2 _ _ 24 rfl wC.heap.size 77 i0 _ 3 32 Tryd.underlying24 hi0 iz0 iz1 iz2 rfl (by omega) (.slice (some ⟨gp, 0, none⟩) 0 0) 0 [] rfl HE.out ⟨ga2, 0, none⟩ n2 c2 (flat Item.cells xs2) rfl hlen2 ?_ (itemOnes xs2) (by unfold maxLen; omega) (by omega) hbel.size ?_
        · intro j u hu
          obtain ⟨ad', e', _, hc⟩ := (hox2.arr.below hbel) (by have := (List.getElem?_eq_some_iff.1 hu).1; omega)
          injection e' with e'
          subst e'
          exact hc j u hu
        intro v' W3 hown hg hat
        obtain ⟨B, d, rfl, _, _⟩ := own_form hown
        simp only [Nat.zero_add, List.nil_append] at hown hat ⊢
        have HO := Lib.hid hown
        have hxl := HX.out.lt
        have hfar : ∀ k, (Value.slice B n2 d).ownBlock = some k → k ≠ gx := fun k e => by
          rcases hat with h1 | h1
          · rw [h1] at e
            have e2 : gp = k := by simpa [Value.ownBlock] using e
            omega
          · rw [h1] at e; injection e with e; omega
        replace HX := Lib.hid (HX.out.grown hg (fun e => hgpx (by simpa [Value.ownBlock] using e.symm)))
        clear hxl
        replace hbel := bl_grown hbel hg (own_at HE.out)
        clear hown hg hat HE
        refine hK.out _ _ ⟨hbel, trivial⟩ (fun hHeld => ?_)
        clear hK K
        try simp only [Act.put, List.setIfInBounds_toArray, List.set_cons_zero, List.set_cons_succ]
        refine wpAnyH_take (i := 7) (oi := { dst := some 215, op := _, type := _, pos := _, after := _, guard := _ }) (v := ?_) rfl (by as_aux_lemma => kernel_rfl) (by as_aux_lemma => kernel_rfl) (by as_aux_lemma => kernel_rfl) (fun _ _ _ h => h) (Or.inl ⟨by as_aux_lemma => kernel_rfl, ?_⟩) (by assumption) ?_
        rotate_left
        · intro w hSw
          try dsimp only at hSw
          go_simp
          try with_reducible rfl
        try simp only [Act.put, List.setIfInBounds_toArray, List.set_cons_zero, List.set_cons_succ]
        refine wpAnyH_ready (rs := [9]) (by as_aux_lemma => kernel_rfl) (by simp) ?_
        refine AllReadyH.cons (o := { dst := none, op := _, type := _, pos := _, after := _, guard := _ }) rfl (fun K hK => ?_) AllReadyH.nil
        have z0 : W3.cell? ⟨gx, 0, none⟩ = some (Value.slice none 0 0) := HX.out.cell 0
        have f0 := HX.out.frozen 0
        have z1 : W3.cell? ⟨gx, 1, none⟩ = some (Value.int IntKind.i64 0) := HX.out.cell 1
        have f1 := HX.out.frozen 1
        have z2 : W3.cell? ⟨gx, 2, none⟩ = some (Value.int IntKind.i64 0) := HX.out.cell 2
        have f2 := HX.out.frozen 2
        have z3 : W3.cell? ⟨gx, 3, none⟩ = some (Value.int IntKind.i64 0) := HX.out.cell 3
        have f3 := HX.out.frozen 3
        go_simp
        clear z0 z1 z2 z3 f0 f1 f2 f3
        obtain ⟨W10, hW⟩ : ∃ z, z = (World.setCell (World.setCell (World.setCell (World.setCell W3 ⟨gx, 0, none⟩ (Value.slice B n2 d)) ⟨gx, 1, none⟩ (Value.int IntKind.i64 R2)) ⟨gx, 2, none⟩ (Value.int IntKind.i64 t2)) ⟨gx, 3, none⟩ (Value.int IntKind.i64 0)) := ⟨_, rfl⟩
        replace HX := Lib.hid (((((HX.out).set_ 0 (Value.slice B n2 d)).set_ 1 (Value.int IntKind.i64 R2)).set_ 2 (Value.int IntKind.i64 t2)).set_ 3 (Value.int IntKind.i64 0))
        replace HO := Lib.hid (own_far (own_far (own_far (own_far (HO.out) (p := ⟨gx, 0, none⟩) hfar (Value.slice B n2 d)) (p := ⟨gx, 1, none⟩) hfar (Value.int IntKind.i64 R2)) (p := ⟨gx, 2, none⟩) hfar (Value.int IntKind.i64 t2)) (p := ⟨gx, 3, none⟩) hfar (Value.int IntKind.i64 0))
        replace hbel := bl_set (bl_set (bl_set (bl_set (hbel) (p := ⟨gx, 0, none⟩) hgx0 (Value.slice B n2 d)) (p := ⟨gx, 1, none⟩) hgx0 (Value.int IntKind.i64 R2)) (p := ⟨gx, 2, none⟩) hgx0 (Value.int IntKind.i64 t2)) (p := ⟨gx, 3, none⟩) hgx0 (Value.int IntKind.i64 0)
        rw [← hW] at HX HO hbel ⊢
        replace HX : Hid (Blk W10 gx 26 #[Value.slice B n2 d, Value.int IntKind.i64 R2, Value.int IntKind.i64 t2, Value.int IntKind.i64 0]) := HX
        clear hW
        refine hK.out _ _ ⟨hbel, trivial⟩ (fun hHeld => ?_)
        clear hK K
        try simp only [Act.put]
        refine wpAnyH_done (by as_aux_lemma => kernel_rfl) ?_ _
        try dsimp only at hHeld
        go_wp2_with fail
        go_meet
        exact ⟨B, d, gx, rfl, hgx0, HO, Lib.hid hfar, HX, hbel⟩
    · skip
      go_simp
      obtain ⟨W1, hW2⟩ : ∃ z, z = World.alloc Wd (Obj.cells #[Value.slice none 0 0, Value.int IntKind.i64 0, Value.int IntKind.i64 0, Value.int IntKind.i64 0] 26) := ⟨_, rfl⟩
      obtain ⟨gx, hgx⟩ : ∃ z, z = Wd.heap.size := ⟨_, rfl⟩
      have HX : Hid (Blk W1 gx 26 #[Value.slice none 0 0, Value.int IntKind.i64 0, Value.int IntKind.i64 0, Value.int IntKind.i64 0]) := Lib.hid (by rw [hW2, hgx]; exact Blk.new _ _ _)
      have hb : Below Wd.heap.size Wd W1 := by rw [hW2]; exact bl_alloc (Below.refl _ _) _
      have hgx0 : wC.heap.size ≤ gx := by rw [hgx]; exact hbel.size
      replace hbel := bl_trans hbel hb
      rw [← hW2, ← hgx]
      clear hW2 hgx hb
      refine hK.out _ _ ⟨hbel, trivial⟩ (fun hHeld => ?_)
      clear hK K
      try simp only [Act.put, List.setIfInBounds_toArray, List.set_cons_zero, List.set_cons_succ]
      refine wpAnyH_ready (rs := [0]) (by as_aux_lemma => kernel_rfl) (by simp) ?_
      refine (AllReadyH.cons (o := { dst := some 208, op := _, type := _, pos := _, after := _, guard := _ }) rfl (fun K hK => ?_) AllReadyH.nil)
      go_simp
      obtain ⟨W2, hW2⟩ : ∃ z, z = World.alloc W1 (Obj.cells #[] 77) := ⟨_, rfl⟩
      obtain ⟨gp, hgp⟩ : ∃ z, z = W1.heap.size := ⟨_, rfl⟩
      have HE : Hid (W2.ownsRow wC.heap.size 77 3 (.slice (some ⟨gp, 0, none⟩) 0 0) 0 []) := Lib.hid (by rw [hW2, hgp]; exact own_empty W1 _ _ _ hbel.size)
      have hb : Below W1.heap.size W1 W2 := by rw [hW2]; exact bl_alloc (Below.refl _ _) _
      have hgpx : gp ≠ gx := by have := HX.out.lt; omega
      replace hbel := bl_trans hbel hb
      replace HX := Lib.hid (HX.out.below hb)
      rw [← hW2, ← hgp]
      clear hW2 hgp hb
      refine hK.out _ _ ⟨hbel, trivial⟩ (fun hHeld => ?_)
      clear hK K
      try simp only [Act.put, List.setIfInBounds_toArray, List.set_cons_zero, List.set_cons_succ]
      refine wpAnyH_ready (rs := [3]) (by as_aux_lemma => kernel_rfl) (by simp) ?_
      refine (AllReadyH.cons (o := { dst := some 211, op := _, type := _, pos := _, after := _, guard := _ }) rfl (fun K hK => ?_) AllReadyH.nil)
      rw [if_pos (by rfl)]
      refine wp_append_atW W2 _ _ 24 rfl wC.heap.size 77 i0 _ 3 32 Tryd.underlying24 hi0 iz0 iz1 iz2 rfl (by omega) (.slice (some ⟨gp, 0, none⟩) 0 0) 0 [] rfl HE.out ⟨ga2, 0, none⟩ n2 c2 (flat Item.cells xs2) rfl hlen2 ?_ (itemOnes xs2) (by unfold maxLen; omega) (by omega) hbel.size ?_
      · intro j u hu
        obtain ⟨ad', e', _, hc⟩ := (hox2.arr.below hbel) (by have := (List.getElem?_eq_some_iff.1 hu).1; omega)
        injection e' with e'
        subst e'
        exact hc j u hu
      intro v' W3 hown hg hat
      obtain ⟨B, d, rfl, _, _⟩ := own_form hown
      simp only [Nat.zero_add, List.nil_append] at hown hat ⊢
      have HO := Lib.hid hown
      have hxl := HX.out.lt
      have hfar : ∀ k, (Value.slice B n2 d).ownBlock = some k → k ≠ gx := fun k e => by
        rcases hat with h1 | h1
        · rw [h1] at e
          have e2 : gp = k := by simpa [Value.ownBlock] using e
          omega
        · rw [h1] at e; injection e with e; omega
      replace HX := Lib.hid (HX.out.grown hg (fun e => hgpx (by simpa [Value.ownBlock] using e.symm)))
      clear hxl
      replace hbel := bl_grown hbel hg (own_at HE.out)
      clear hown hg hat HE
      refine hK.out _ _ ⟨hbel, trivial⟩ (fun hHeld => ?_)
      clear hK K
      try simp only [Act.put, List.setIfInBounds_toArray, List.set_cons_zero, List.set_cons_succ]
      refine wpAnyH_take (i := 7) (oi := { dst := some 215, op := _, type := _, pos := _, after := _, guard := _ }) (v := ?_) rfl (by as_aux_lemma => kernel_rfl) (by as_aux_lemma => kernel_rfl) (by as_aux_lemma => kernel_rfl) (fun _ _ _ h => h) (Or.inl ⟨by as_aux_lemma => kernel_rfl, ?_⟩) (by assumption) ?_
      rotate_left
      · intro w hSw
        try dsimp only at hSw
        go_simp
        try with_reducible rfl
      try simp only [Act.put, List.setIfInBounds_toArray, List.set_cons_zero, List.set_cons_succ]
      refine wpAnyH_ready (rs := [9]) (by as_aux_lemma => kernel_rfl) (by simp) ?_
      refine AllReadyH.cons (o := { dst := none, op := _, type := _, pos := _, after := _, guard := _ }) rfl (fun K hK => ?_) AllReadyH.nil
      have z0 : W3.cell? ⟨gx, 0, none⟩ = some (Value.slice none 0 0) := HX.out.cell 0
      have f0 := HX.out.frozen 0
      have z1 : W3.cell? ⟨gx, 1, none⟩ = some (Value.int IntKind.i64 0) := HX.out.cell 1
      have f1 := HX.out.frozen 1
      have z2 : W3.cell? ⟨gx, 2, none⟩ = some (Value.int IntKind.i64 0) := HX.out.cell 2
      have f2 := HX.out.frozen 2
      have z3 : W3.cell? ⟨gx, 3, none⟩ = some (Value.int IntKind.i64 0) := HX.out.cell 3
      have f3 := HX.out.frozen 3
      go_simp
      clear z0 z1 z2 z3 f0 f1 f2 f3
      obtain ⟨W10, hW⟩ : ∃ z, z = (World.setCell (World.setCell (World.setCell (World.setCell W3 ⟨gx, 0, none⟩ (Value.slice B n2 d)) ⟨gx, 1, none⟩ (Value.int IntKind.i64 R2)) ⟨gx, 2, none⟩ (Value.int IntKind.i64 t2)) ⟨gx, 3, none⟩ (Value.int IntKind.i64 0)) := ⟨_, rfl⟩
      replace HX := Lib.hid (((((HX.out).set_ 0 (Value.slice B n2 d)).set_ 1 (Value.int IntKind.i64 R2)).set_ 2 (Value.int IntKind.i64 t2)).set_ 3 (Value.int IntKind.i64 0))
      replace HO := Lib.hid (own_far (own_far (own_far (own_far (HO.out) (p := ⟨gx, 0, none⟩) hfar (Value.slice B n2 d)) (p := ⟨gx, 1, none⟩) hfar (Value.int IntKind.i64 R2)) (p := ⟨gx, 2, none⟩) hfar (Value.int IntKind.i64 t2)) (p := ⟨gx, 3, none⟩) hfar (Value.int IntKind.i64 0))
      replace hbel := bl_set (bl_set (bl_set (bl_set (hbel) (p := ⟨gx, 0, none⟩) hgx0 (Value.slice B n2 d)) (p := ⟨gx, 1, none⟩) hgx0 (Value.int IntKind.i64 R2)) (p := ⟨gx, 2, none⟩) hgx0 (Value.int IntKind.i64 t2)) (p := ⟨gx, 3, none⟩) hgx0 (Value.int IntKind.i64 0)
      rw [← hW] at HX HO hbel ⊢
      replace HX : Hid (Blk W10 gx 26 #[Value.slice B n2 d, Value.int IntKind.i64 R2, Value.int IntKind.i64 t2, Value.int IntKind.i64 0]) := HX
      clear hW
      refine hK.out _ _ ⟨hbel, trivial⟩ (fun hHeld => ?_)
      clear hK K
      try simp only [Act.put]
      refine wpAnyH_done (by as_aux_lemma => kernel_rfl) ?_ _
      try dsimp only at hHeld
      go_wp2_with fail
      go_meet
      exact ⟨B, d, gx, rfl, hgx0, HO, Lib.hid hfar, HX, hbel⟩

  case rest =>
  as_aux_lemma =>
  obtain ⟨B, d, gx, rfl, hgx0, HO, hfar, HX, hbel⟩ := hcut
  rename World => wD
  have y0 : wD.cell? ⟨gx, 0, none⟩ = some (.slice B n2 d) := HX.out.cell 0
  have y1 : wD.cell? ⟨gx, 1, none⟩ = some (.int .i64 R2) := HX.out.cell 1
  have y2 : wD.cell? ⟨gx, 2, none⟩ = some (.int .i64 t2) := HX.out.cell 2
  have y3 : wD.cell? ⟨gx, 3, none⟩ = some (.int .i64 0) := HX.out.cell 3
  go_wp2_with fail
  clear y0 y1 y2 y3
  refine (HT2.out B d _ (Arr.own HO.out)).mono ?_
  rintro e W1 ⟨rfl, hb⟩
  replace hbel := bl_trans hbel hb
  replace HO := Lib.hid (own_below HO.out hb)
  replace HX := Lib.hid (HX.out.below hb)
  clear hb
  have r1 : ¬ cen < T2 := by omega
  by_cases hoff : 0 < R2
  case neg =>
   as_aux_lemma =>
    have hb := hbel
    have z40 := Lib.hid hb.size
    replace hv := bl_trans hv hb
    replace hB1 := hB1.below hb
    replace hB2 := hB2.below hb
    replace hox1 := hox1.below hb
    replace hox2 := hox2.below hb
    clear hb
    have k10 : W1.cell? ⟨g1, 0, none⟩ = some (Value.slice (some ⟨ga1, 0, none⟩) n1 c1) := hB1.cell 0
    have k11 : W1.cell? ⟨g1, 1, none⟩ = some (Value.int IntKind.i64 o1) := hB1.cell 1
    have k12 : W1.cell? ⟨g1, 2, none⟩ = some (Value.int IntKind.i64 t1) := hB1.cell 2
    have k13 : W1.cell? ⟨g1, 3, none⟩ = some (Value.int IntKind.i64 p1) := hB1.cell 3
    have k20 : W1.cell? ⟨g2, 0, none⟩ = some (Value.slice (some ⟨ga2, 0, none⟩) n2 c2) := hB2.cell 0
    have k21 : W1.cell? ⟨g2, 1, none⟩ = some (Value.int IntKind.i64 o2) := hB2.cell 1
    have k22 : W1.cell? ⟨g2, 2, none⟩ = some (Value.int IntKind.i64 t2) := hB2.cell 2
    have k23 : W1.cell? ⟨g2, 3, none⟩ = some (Value.int IntKind.i64 p2) := hB2.cell 3
    by_cases hE1 : E1 = 0
    case neg =>
      have hcc : (E1 != 0) = true := by rw [bne_iff_ne]; exact hE1
      go_wp2_with fail
      go_returns
      exact Ret.mk rfl hv
    obtain ⟨T, X, hT, tt0, tt1, u0, u1, st0, st1, v0, v1, v2, v3⟩ := HF1.out hE1
    have HT1 := fun w h => TotalOfBill_c (some ⟨ga1, 0, none⟩) xs1 n1 c1 o1 t1 p1 hn1 hz1 hs1 w h
    rw [hT] at HT1
    replace HT1 := Lib.hid HT1
    obtain ⟨TP, hTP⟩ : ∃ z, z = T * per := ⟨_, rfl⟩
    have hTP0 : 0 ≤ TP := by rw [hTP]; exact Int.mul_nonneg tt0 u0
    have hTP1 : TP ≤ T * 100 := by rw [hTP]; exact Int.mul_le_mul_of_nonneg_left u1 tt0
    have hmul : IntKind.i64.wrap (T * per) = TP := by rw [← hTP]; exact IntWalk.i64_in _ (by omega)
    have hmul2 : IntKind.i64.wrap (100 * R1) = 100 * R1 := IntWalk.i64_in _ (by omega)
    rw [← hTP] at v2
    clear hT hTP
    subst hE1
    go_wp2_with fail
    refine (HT1.out _ hox1.arr).mono ?_
    rintro e W ⟨rfl, hb⟩
    have z41 := Lib.hid hb.size
    replace hv := bl_trans hv hb
    replace hB1 := hB1.below hb
    replace hB2 := hB2.below hb
    replace hox1 := hox1.below hb
    replace hox2 := hox2.below hb
    clear hb
    have k10 : W.cell? ⟨g1, 0, none⟩ = some (Value.slice (some ⟨ga1, 0, none⟩) n1 c1) := hB1.cell 0
    have k11 : W.cell? ⟨g1, 1, none⟩ = some (Value.int IntKind.i64 o1) := hB1.cell 1
    have k12 : W.cell? ⟨g1, 2, none⟩ = some (Value.int IntKind.i64 t1) := hB1.cell 2
    have k13 : W.cell? ⟨g1, 3, none⟩ = some (Value.int IntKind.i64 p1) := hB1.cell 3
    have k20 : W.cell? ⟨g2, 0, none⟩ = some (Value.slice (some ⟨ga2, 0, none⟩) n2 c2) := hB2.cell 0
    have k21 : W.cell? ⟨g2, 1, none⟩ = some (Value.int IntKind.i64 o2) := hB2.cell 1
    have k22 : W.cell? ⟨g2, 2, none⟩ = some (Value.int IntKind.i64 t2) := hB2.cell 2
    have k23 : W.cell? ⟨g2, 3, none⟩ = some (Value.int IntKind.i64 p2) := hB2.cell 3
    by_cases heq : R1 = T
    case pos =>
      subst heq
      have hq1 : (R1 == R1) = true := by simp
      go_wp2_with fail
      go_returns
      exact Ret.mk (by first | rfl | simp) hv
    have hq1 : (R1 == T) = false := by rw [beq_eq_false_iff_ne]; exact heq
    have hm0 : R1 % stp = 0 := v3.resolve_left heq
    have hm1 : R1.tmod stp = 0 := by rw [Int.tmod_eq_emod_of_nonneg v0]; exact hm0
    have hst : stp ≠ 0 := by omega
    have hst2 : (stp == 0) = false := by rw [beq_eq_false_iff_ne]; exact hst
    go_wp2_with fail
    go_returns
    exact Ret.mk (by first | rfl | simp) hv
  as_aux_lemma =>
  obtain ⟨T3, X3, hT3, hk3⟩ := HTT.out hoff
  have HT3 := fun w h => TotalOfBill_c B xs2 n2 d (R2 - 1) t2 0 hn2 hz2 hs2 w h
  rw [hT3] at HT3
  replace HT3 := Lib.hid HT3
  clear hT3
  have hwr : IntKind.i64.wrap (R2 - 1) = R2 - 1 := IntWalk.i64_in _ (by omega)
  have y0 : W1.cell? ⟨gx, 0, none⟩ = some (.slice B n2 d) := HX.out.cell 0
  have y1 : W1.cell? ⟨gx, 1, none⟩ = some (.int .i64 R2) := HX.out.cell 1
  have y2 : W1.cell? ⟨gx, 2, none⟩ = some (.int .i64 t2) := HX.out.cell 2
  have y3 : W1.cell? ⟨gx, 3, none⟩ = some (.int .i64 0) := HX.out.cell 3
  have f1 := HX.out.frozen 1
  go_upto_region 32 with fail
  clear y0 y1 y2 y3 f1
  obtain ⟨W2, hW⟩ : ∃ z, z = World.setCell W1 ⟨gx, 1, none⟩ (.int .i64 (R2 - 1)) := ⟨_, rfl⟩
  replace HX := Lib.hid (HX.out.set_ 1 (.int .i64 (R2 - 1)))
  replace HO := Lib.hid (own_far HO.out (p := ⟨gx, 1, none⟩) hfar.out (.int .i64 (R2 - 1)))
  replace hbel := bl_set hbel (p := ⟨gx, 1, none⟩) hgx0 (.int .i64 (R2 - 1))
  rw [← hW] at HX HO hbel ⊢
  clear hW
  have y0 : W2.cell? ⟨gx, 0, none⟩ = some (.slice B n2 d) := HX.out.cell 0
  have y1 : W2.cell? ⟨gx, 1, none⟩ = some (.int .i64 (R2 - 1)) := HX.out.cell 1
  have y2 : W2.cell? ⟨gx, 2, none⟩ = some (.int .i64 t2) := HX.out.cell 2
  have y3 : W2.cell? ⟨gx, 3, none⟩ = some (.int .i64 0) := HX.out.cell 3
  go_wp2_with fail
  clear y0 y1 y2 y3 HX
  refine (HT3.out _ (Arr.own HO.out)).mono ?_
  rintro e W3 ⟨rfl, hb⟩
  replace hbel := bl_trans hbel hb
  clear hb HO
  have r2 : ¬ T3 ≤ cen := by omega
  have hb := hbel
  have z40 := Lib.hid hb.size
  replace hv := bl_trans hv hb
  replace hB1 := hB1.below hb
  replace hB2 := hB2.below hb
  replace hox1 := hox1.below hb
  replace hox2 := hox2.below hb
  clear hb
  have k10 : W3.cell? ⟨g1, 0, none⟩ = some (Value.slice (some ⟨ga1, 0, none⟩) n1 c1) := hB1.cell 0
  have k11 : W3.cell? ⟨g1, 1, none⟩ = some (Value.int IntKind.i64 o1) := hB1.cell 1
  have k12 : W3.cell? ⟨g1, 2, none⟩ = some (Value.int IntKind.i64 t1) := hB1.cell 2
  have k13 : W3.cell? ⟨g1, 3, none⟩ = some (Value.int IntKind.i64 p1) := hB1.cell 3
  have k20 : W3.cell? ⟨g2, 0, none⟩ = some (Value.slice (some ⟨ga2, 0, none⟩) n2 c2) := hB2.cell 0
  have k21 : W3.cell? ⟨g2, 1, none⟩ = some (Value.int IntKind.i64 o2) := hB2.cell 1
  have k22 : W3.cell? ⟨g2, 2, none⟩ = some (Value.int IntKind.i64 t2) := hB2.cell 2
  have k23 : W3.cell? ⟨g2, 3, none⟩ = some (Value.int IntKind.i64 p2) := hB2.cell 3
  by_cases hE1 : E1 = 0
  case neg =>
    have hcc : (E1 != 0) = true := by rw [bne_iff_ne]; exact hE1
    go_wp2_with fail
    go_returns
    exact Ret.mk rfl hv
  obtain ⟨T, X, hT, tt0, tt1, u0, u1, st0, st1, v0, v1, v2, v3⟩ := HF1.out hE1
  have HT1 := fun w h => TotalOfBill_c (some ⟨ga1, 0, none⟩) xs1 n1 c1 o1 t1 p1 hn1 hz1 hs1 w h
  rw [hT] at HT1
  replace HT1 := Lib.hid HT1
  obtain ⟨TP, hTP⟩ : ∃ z, z = T * per := ⟨_, rfl⟩
  have hTP0 : 0 ≤ TP := by rw [hTP]; exact Int.mul_nonneg tt0 u0
  have hTP1 : TP ≤ T * 100 := by rw [hTP]; exact Int.mul_le_mul_of_nonneg_left u1 tt0
  have hmul : IntKind.i64.wrap (T * per) = TP := by rw [← hTP]; exact IntWalk.i64_in _ (by omega)
  have hmul2 : IntKind.i64.wrap (100 * R1) = 100 * R1 := IntWalk.i64_in _ (by omega)
  rw [← hTP] at v2
  clear hT hTP
  subst hE1
  go_wp2_with fail
  refine (HT1.out _ hox1.arr).mono ?_
  rintro e W ⟨rfl, hb⟩
  have z41 := Lib.hid hb.size
  replace hv := bl_trans hv hb
  replace hB1 := hB1.below hb
  replace hB2 := hB2.below hb
  replace hox1 := hox1.below hb
  replace hox2 := hox2.below hb
  clear hb
  have k10 : W.cell? ⟨g1, 0, none⟩ = some (Value.slice (some ⟨ga1, 0, none⟩) n1 c1) := hB1.cell 0
  have k11 : W.cell? ⟨g1, 1, none⟩ = some (Value.int IntKind.i64 o1) := hB1.cell 1
  have k12 : W.cell? ⟨g1, 2, none⟩ = some (Value.int IntKind.i64 t1) := hB1.cell 2
  have k13 : W.cell? ⟨g1, 3, none⟩ = some (Value.int IntKind.i64 p1) := hB1.cell 3
  have k20 : W.cell? ⟨g2, 0, none⟩ = some (Value.slice (some ⟨ga2, 0, none⟩) n2 c2) := hB2.cell 0
  have k21 : W.cell? ⟨g2, 1, none⟩ = some (Value.int IntKind.i64 o2) := hB2.cell 1
  have k22 : W.cell? ⟨g2, 2, none⟩ = some (Value.int IntKind.i64 t2) := hB2.cell 2
  have k23 : W.cell? ⟨g2, 3, none⟩ = some (Value.int IntKind.i64 p2) := hB2.cell 3
  by_cases heq : R1 = T
  case pos =>
    subst heq
    have hq1 : (R1 == R1) = true := by simp
    go_wp2_with fail
    go_returns
    exact Ret.mk (by first | rfl | simp) hv
  have hq1 : (R1 == T) = false := by rw [beq_eq_false_iff_ne]; exact heq
  have hm0 : R1 % stp = 0 := v3.resolve_left heq
  have hm1 : R1.tmod stp = 0 := by rw [Int.tmod_eq_emod_of_nonneg v0]; exact hm0
  have hst : stp ≠ 0 := by omega
  have hst2 : (stp == 0) = false := by rw [beq_eq_false_iff_ne]; exact hst
  go_wp2_with fail
  go_returns
  exact Ret.mk (by first | rfl | simp) hv

end Go.Proofs.YtnhkdcebldppmaaDoor
