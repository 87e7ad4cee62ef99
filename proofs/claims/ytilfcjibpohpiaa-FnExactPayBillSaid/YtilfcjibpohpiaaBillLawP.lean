/- The law on PayBill, walked. -/
import Derived.Test.YtilfcjibpohpiaaBillQ
import Derived.Test.YtilfcjibpohpiaaBillM
namespace Go.Proofs.Ytilfcjibpohpiaa
open Go.RowKit


theorem eqBill_same (A B : Option Addr) (xs : List Item) (n c d : Nat) (o t p : Int) (hn : Hid (xs.length = n)) (hz : (n : Int) ≤ 1048576) (w : World) (hA : Arr w A (flat Item.cells xs)) (hB : Arr w B (flat Item.cells xs)) :
    Calls Try.prog 37 #[.agg #[.slice A n c, .int .i64 o, .int .i64 t, .int .i64 p], .agg #[.slice B n d, .int .i64 o, .int .i64 t, .int .i64 p]] w (Ret (.bool true) w) := by
  have h := eqBill_c A B xs xs n n c d o t p o t p hn hn hz w hA hB
  rw [(listBeq_iff Item.beq_iff xs xs).2 rfl, decide_eq_true (rfl : o = o), decide_eq_true (rfl : t = t), decide_eq_true (rfl : p = p)] at h
  exact h
set_option maxHeartbeats 800000 in
theorem markBillC_c (A : Option Addr) (n c base : Nat) (o t p : Int) (cs : List Value) (q : Int) (h0 : 0 ≤ q) (h1 : q + n * 3 ≤ 100000000) (hz : (n : Int) ≤ 10000000) (w : World) (hO : w.ownsRow base 139 3 (.slice A n c) n cs) :
    Calls Try.prog 38 #[.agg #[.slice A n c, .int .i64 o, .int .i64 t, .int .i64 p], .int .i64 q] w (MarkS base 139 3 A n c (flat (fun i : Nat => Item.mkc (q + i * 3)) (List.range n)) (q + n * 3) w) := by
  go_enter Try.func38, Try.ntmps38
  go_wp2_with fail
  refine (markItemS_c A n c base cs q h0 h1 hz _ (own_below hO (bl_alloc (Below.refl _ _) _))).mono ?_
  rintro e W ⟨rfl, hown, hg⟩
  go_wp2_with fail
  go_returns
  exact ⟨rfl, hown, grown_trans (grown_alloc (World.grownBy.refl _ _) _) hg⟩
set_option maxHeartbeats 800000 in
theorem heldBill_c (A : Option Addr) (n c : Nat) (o t p : Int) (q : Int) (h0 : 0 ≤ q) (h1 : q + n * 3 ≤ 100000000) (hz : (n : Int) ≤ 10000000) (w : World) (hA : Arr w A (flat (fun i : Nat => Item.mkc (q + i * 3)) (List.range n))) :
    Calls Try.prog 39 #[.agg #[.slice A n c, .int .i64 o, .int .i64 t, .int .i64 p], .int .i64 q] w (Ret (.int .i64 (q + n * 3)) w) := by
  go_enter Try.func39, Try.ntmps39
  go_wp2_with fail
  refine (heldItemS_c A n c q h0 h1 hz _ (hA.alloc _)).mono ?_
  rintro e W ⟨rfl, hb⟩
  have hv := bl_trans (bl_alloc (Below.refl w.heap.size w) _) hb
  go_wp2_with fail
  go_returns
  exact Ret.mk rfl hv
theorem lPay_len (xs : List Item) (o t p k : Int) : (lPay xs o t p k).length ≤ xs.length := by unfold lPay; split <;> simp
set_option maxRecDepth 100000 in
set_option maxHeartbeats 1600000 in
theorem FnExactPayBill_law (A : Option Addr) (xs : List Item) (n c : Nat) (o t p : Int) (hn : Hid (xs.length = n)) (k : Int) (hmax : n ≤ 9223372036854775807) (hs : Hid (∀ x ∈ xs, x.name.size ≤ 9223372036854775807)) (w : World) (hA : Arr w A (flat Item.cells xs)) :
    Calls Try.prog 6 #[.agg #[.slice A n c, .int .i64 o, .int .i64 t, .int .i64 p], .int .i64 k] w (Ret (.bool true) w) := by
  have hself : listBeq Item.beq xs xs = true := (listBeq_iff Item.beq_iff xs xs).2 rfl
  have hle := szS_le Item.sizes xs 1048576 (by omega)
  go_enter Try.func6, Try.ntmps6
  go_wp2_with fail
  obtain ⟨w0, hw0⟩ : ∃ w0, w0 = w.alloc (Obj.cells #[Value.slice A n c, Value.int IntKind.i64 o, Value.int IntKind.i64 t, Value.int IntKind.i64 p] 61) := ⟨_, rfl⟩
  obtain ⟨g, hg⟩ : ∃ g, g = w.heap.size := ⟨_, rfl⟩
  have hb0 : Below w.heap.size w w0 := by rw [hw0]; exact bl_alloc (Below.refl _ _) _
  have hB0 : Blk w0 g 61 #[Value.slice A n c, Value.int IntKind.i64 o, Value.int IntKind.i64 t, Value.int IntKind.i64 p] := by rw [hw0, hg]; exact Blk.new _ _ _
  rw [← hw0, ← hg]
  clear hw0
  have HG := Lib.hid hg
  clear hg
  refine (szBill_c A xs n c o t p hn 1048576 hmax hs (by omega) (by omega) _ (hA.below hb0)).mono ?_
  rintro e W ⟨rfl, hb⟩
  have hv := bl_trans hb0 hb
  replace hB0 := hB0.below hb
  have k0 : W.cell? ⟨g, 0, none⟩ = some (.slice A n c) := hB0.cell 0
  have k1 : W.cell? ⟨g, 1, none⟩ = some (.int .i64 o) := hB0.cell 1
  have k2 : W.cell? ⟨g, 2, none⟩ = some (.int .i64 t) := hB0.cell 2
  have k3 : W.cell? ⟨g, 3, none⟩ = some (.int .i64 p) := hB0.cell 3
  obtain ⟨q, hq'⟩ : ∃ q, q = szS Item.sizes xs 1048576 := ⟨_, rfl⟩
  rw [← hq'] at hle ⊢
  by_cases hq : q < 0
  · clear hq'
    go_wp2_with fail
    go_returns
    exact Ret.mk rfl hv
  have hz : (n : Int) ≤ 1048576 := by rw [← hn.out]; exact szS_len (by rw [← hq']; omega) (by omega)
  clear hq'
  obtain ⟨l, hl⟩ : ∃ l, l = lPay xs o t p k := ⟨_, rfl⟩
  obtain ⟨co, hco⟩ : ∃ co, co = cPay xs o t p k := ⟨_, rfl⟩
  obtain ⟨ro, hro⟩ : ∃ ro, ro = vPay xs o t p k o := ⟨_, rfl⟩
  obtain ⟨rt, hrt⟩ : ∃ rt, rt = vPay xs o t p k t := ⟨_, rfl⟩
  obtain ⟨rp, hrp⟩ : ∃ rp, rp = vPay xs o t p k (p + k) := ⟨_, rfl⟩
  have hlen : (l.length : Int) ≤ 1048576 := by rw [hl]; have := lPay_len xs o t p k; have := hn.out; omega
  obtain ⟨r, hr⟩ : ∃ r, r = l.length := ⟨_, rfl⟩
  have HW := fun (a : Addr) (w : World) (h : Arr w (some a) (flat Item.cells xs)) => SPayBill_c a (some a) xs n n o t p hn rfl k hz hs w h
  have HG' := fun (a : Addr) (w : World) (h : Arr w (some a) (flat Item.cells xs)) => PayBill_c a (some a) xs n n o t p hn rfl k hz hs w h
  rw [← hl, ← hco, ← hro, ← hrt, ← hrp, ← hr] at HW HG'
  rw [← hr] at hlen
  have hr1 := Lib.hid hr.symm
  clear hl hco hro hrt hrp hr
  replace HW := Lib.hid HW
  replace HG' := Lib.hid HG'
  have z0 := Lib.hid hB0.lt
  have z1 := Lib.hid hv.size
  have HG1 := HG.out
  have z2 := Lib.hid (Nat.le_of_eq HG1.symm)
  clear HG1
  go_wp2_with fail
  refine (toBill_c A xs n c o t p hn hz _ (hA.below hv)).mono ?_
  rintro e W ⟨g1, rfl, hown1, hb⟩
  have z3 := Lib.hid hb.size
  replace hv := bl_trans hv hb
  replace hB0 := hB0.below hb
  clear hb
  have k0 : W.cell? ⟨g, 0, none⟩ = some (.slice A n c) := hB0.cell 0
  have k1 : W.cell? ⟨g, 1, none⟩ = some (.int .i64 o) := hB0.cell 1
  have k2 : W.cell? ⟨g, 2, none⟩ = some (.int .i64 t) := hB0.cell 2
  have k3 : W.cell? ⟨g, 3, none⟩ = some (.int .i64 p) := hB0.cell 3
  go_wp2_with fail
  refine (HW.out _ _ (Arr.own hown1)).mono ?_
  rintro e W ⟨Aw, cw, rfl, how, hb⟩
  clear hown1
  obtain ⟨lw, uw, h_own, z4, z5⟩ := Own.named how hb
  replace how := h_own
  clear h_own
  have z6 := Lib.hid hb.size
  replace hv := bl_trans hv hb
  replace hB0 := hB0.below hb
  clear hb
  have k0 : W.cell? ⟨g, 0, none⟩ = some (.slice A n c) := hB0.cell 0
  have k1 : W.cell? ⟨g, 1, none⟩ = some (.int .i64 o) := hB0.cell 1
  have k2 : W.cell? ⟨g, 2, none⟩ = some (.int .i64 t) := hB0.cell 2
  have k3 : W.cell? ⟨g, 3, none⟩ = some (.int .i64 p) := hB0.cell 3
  obtain ⟨W0, hW0⟩ : ∃ W0, W0 = W.alloc (Obj.cells #[Value.slice Aw r cw, Value.int IntKind.i64 ro, Value.int IntKind.i64 rt, Value.int IntKind.i64 rp] 65) := ⟨_, rfl⟩
  obtain ⟨gw, hgx⟩ : ∃ gx, gx = W.heap.size := ⟨_, rfl⟩
  have hb : Below W.heap.size W W0 := by rw [hW0]; exact bl_alloc (Below.refl _ _) _
  have hBw : Blk W0 gw 65 #[Value.slice Aw r cw, Value.int IntKind.i64 ro, Value.int IntKind.i64 rt, Value.int IntKind.i64 rp] := by rw [hW0, hgx]; exact Blk.new _ _ _
  have a_k0 := bl_cell hb k0
  have a_k1 := bl_cell hb k1
  have a_k2 := bl_cell hb k2
  have a_k3 := bl_cell hb k3
  rw [hW0] at a_k0 a_k1 a_k2 a_k3
  have z7 := Lib.hid (Nat.le_of_eq hgx.symm)
  have z8 := Lib.hid hBw.lt
  go_wp2_with fail
  rw [← hW0, ← hgx]
  clear hW0 hgx a_k0 a_k1 a_k2 a_k3
  have z9 := Lib.hid hb.size
  replace hv := bl_trans hv hb
  replace hB0 := hB0.below hb
  replace how := how.below hb
  clear hb
  have k0 : W0.cell? ⟨g, 0, none⟩ = some (.slice A n c) := hB0.cell 0
  have k1 : W0.cell? ⟨g, 1, none⟩ = some (.int .i64 o) := hB0.cell 1
  have k2 : W0.cell? ⟨g, 2, none⟩ = some (.int .i64 t) := hB0.cell 2
  have k3 : W0.cell? ⟨g, 3, none⟩ = some (.int .i64 p) := hB0.cell 3
  have w0' : W0.cell? ⟨gw, 0, none⟩ = some (Value.slice Aw r cw) := hBw.cell 0
  have w1' : W0.cell? ⟨gw, 1, none⟩ = some (Value.int IntKind.i64 ro) := hBw.cell 1
  have w2' : W0.cell? ⟨gw, 2, none⟩ = some (Value.int IntKind.i64 rt) := hBw.cell 2
  have w3' : W0.cell? ⟨gw, 3, none⟩ = some (Value.int IntKind.i64 rp) := hBw.cell 3
  refine (toBill_c A xs n c o t p hn hz _ (hA.below hv)).mono ?_
  rintro e W ⟨g2, rfl, hox, hb⟩
  obtain ⟨lx, ux, h_own, z10, z11⟩ := Own.named hox hb
  replace hox := h_own
  clear h_own
  have z12 := Lib.hid hb.size
  replace hv := bl_trans hv hb
  replace hB0 := hB0.below hb
  replace hBw := hBw.below hb
  replace how := how.below hb
  clear hb
  have k0 : W.cell? ⟨g, 0, none⟩ = some (.slice A n c) := hB0.cell 0
  have k1 : W.cell? ⟨g, 1, none⟩ = some (.int .i64 o) := hB0.cell 1
  have k2 : W.cell? ⟨g, 2, none⟩ = some (.int .i64 t) := hB0.cell 2
  have k3 : W.cell? ⟨g, 3, none⟩ = some (.int .i64 p) := hB0.cell 3
  have w0' : W.cell? ⟨gw, 0, none⟩ = some (Value.slice Aw r cw) := hBw.cell 0
  have w1' : W.cell? ⟨gw, 1, none⟩ = some (Value.int IntKind.i64 ro) := hBw.cell 1
  have w2' : W.cell? ⟨gw, 2, none⟩ = some (Value.int IntKind.i64 rt) := hBw.cell 2
  have w3' : W.cell? ⟨gw, 3, none⟩ = some (Value.int IntKind.i64 rp) := hBw.cell 3
  obtain ⟨W0, hW0⟩ : ∃ W0, W0 = W.alloc (Obj.cells #[Value.slice (some ⟨g2, 0, none⟩) n n, Value.int IntKind.i64 o, Value.int IntKind.i64 t, Value.int IntKind.i64 p] 65) := ⟨_, rfl⟩
  obtain ⟨gx, hgx⟩ : ∃ gx, gx = W.heap.size := ⟨_, rfl⟩
  have hb : Below W.heap.size W W0 := by rw [hW0]; exact bl_alloc (Below.refl _ _) _
  have hX : Blk W0 gx 65 #[Value.slice (some ⟨g2, 0, none⟩) n n, Value.int IntKind.i64 o, Value.int IntKind.i64 t, Value.int IntKind.i64 p] := by rw [hW0, hgx]; exact Blk.new _ _ _
  have a_k0 := bl_cell hb k0
  have a_k1 := bl_cell hb k1
  have a_k2 := bl_cell hb k2
  have a_k3 := bl_cell hb k3
  have a_w0' := bl_cell hb w0'
  have a_w1' := bl_cell hb w1'
  have a_w2' := bl_cell hb w2'
  have a_w3' := bl_cell hb w3'
  rw [hW0] at a_k0 a_k1 a_k2 a_k3 a_w0' a_w1' a_w2' a_w3'
  have z13 := Lib.hid (Nat.le_of_eq hgx.symm)
  have z14 := Lib.hid hX.lt
  go_wp2_with fail
  rw [← hW0, ← hgx]
  clear hW0 hgx a_k0 a_k1 a_k2 a_k3 a_w0' a_w1' a_w2' a_w3'
  have z15 := Lib.hid hb.size
  replace hv := bl_trans hv hb
  replace hB0 := hB0.below hb
  replace hBw := hBw.below hb
  replace how := how.below hb
  replace hox := hox.below hb
  clear hb
  have k0 : W0.cell? ⟨g, 0, none⟩ = some (.slice A n c) := hB0.cell 0
  have k1 : W0.cell? ⟨g, 1, none⟩ = some (.int .i64 o) := hB0.cell 1
  have k2 : W0.cell? ⟨g, 2, none⟩ = some (.int .i64 t) := hB0.cell 2
  have k3 : W0.cell? ⟨g, 3, none⟩ = some (.int .i64 p) := hB0.cell 3
  have w0' : W0.cell? ⟨gw, 0, none⟩ = some (Value.slice Aw r cw) := hBw.cell 0
  have w1' : W0.cell? ⟨gw, 1, none⟩ = some (Value.int IntKind.i64 ro) := hBw.cell 1
  have w2' : W0.cell? ⟨gw, 2, none⟩ = some (Value.int IntKind.i64 rt) := hBw.cell 2
  have w3' : W0.cell? ⟨gw, 3, none⟩ = some (Value.int IntKind.i64 rp) := hBw.cell 3
  have x0 : W0.cell? ⟨gx, 0, none⟩ = some (Value.slice (some ⟨g2, 0, none⟩) n n) := hX.cell 0
  have x1 : W0.cell? ⟨gx, 1, none⟩ = some (Value.int IntKind.i64 o) := hX.cell 1
  have x2 : W0.cell? ⟨gx, 2, none⟩ = some (Value.int IntKind.i64 t) := hX.cell 2
  have x3 : W0.cell? ⟨gx, 3, none⟩ = some (Value.int IntKind.i64 p) := hX.cell 3
  refine (HG'.out _ _ hox.arr).mono ?_
  rintro e W ⟨Ag, cg, rfl, hog, hb⟩
  obtain ⟨lg, ug, h_own, z16, z17⟩ := Own.named hog hb
  replace hog := h_own
  clear h_own
  have z18 := Lib.hid hb.size
  replace hv := bl_trans hv hb
  replace hB0 := hB0.below hb
  replace hBw := hBw.below hb
  replace hX := hX.below hb
  replace how := how.below hb
  replace hox := hox.below hb
  clear hb
  have k0 : W.cell? ⟨g, 0, none⟩ = some (.slice A n c) := hB0.cell 0
  have k1 : W.cell? ⟨g, 1, none⟩ = some (.int .i64 o) := hB0.cell 1
  have k2 : W.cell? ⟨g, 2, none⟩ = some (.int .i64 t) := hB0.cell 2
  have k3 : W.cell? ⟨g, 3, none⟩ = some (.int .i64 p) := hB0.cell 3
  have w0' : W.cell? ⟨gw, 0, none⟩ = some (Value.slice Aw r cw) := hBw.cell 0
  have w1' : W.cell? ⟨gw, 1, none⟩ = some (Value.int IntKind.i64 ro) := hBw.cell 1
  have w2' : W.cell? ⟨gw, 2, none⟩ = some (Value.int IntKind.i64 rt) := hBw.cell 2
  have w3' : W.cell? ⟨gw, 3, none⟩ = some (Value.int IntKind.i64 rp) := hBw.cell 3
  have x0 : W.cell? ⟨gx, 0, none⟩ = some (Value.slice (some ⟨g2, 0, none⟩) n n) := hX.cell 0
  have x1 : W.cell? ⟨gx, 1, none⟩ = some (Value.int IntKind.i64 o) := hX.cell 1
  have x2 : W.cell? ⟨gx, 2, none⟩ = some (Value.int IntKind.i64 t) := hX.cell 2
  have x3 : W.cell? ⟨gx, 3, none⟩ = some (Value.int IntKind.i64 p) := hX.cell 3
  obtain ⟨W0, hW0⟩ : ∃ W0, W0 = W.alloc (Obj.cells #[Value.slice Ag r cg, Value.int IntKind.i64 ro, Value.int IntKind.i64 rt, Value.int IntKind.i64 rp] 65) := ⟨_, rfl⟩
  obtain ⟨gg, hgx⟩ : ∃ gx, gx = W.heap.size := ⟨_, rfl⟩
  have hb : Below W.heap.size W W0 := by rw [hW0]; exact bl_alloc (Below.refl _ _) _
  have hBg : Blk W0 gg 65 #[Value.slice Ag r cg, Value.int IntKind.i64 ro, Value.int IntKind.i64 rt, Value.int IntKind.i64 rp] := by rw [hW0, hgx]; exact Blk.new _ _ _
  have a_k0 := bl_cell hb k0
  have a_k1 := bl_cell hb k1
  have a_k2 := bl_cell hb k2
  have a_k3 := bl_cell hb k3
  have a_w0' := bl_cell hb w0'
  have a_w1' := bl_cell hb w1'
  have a_w2' := bl_cell hb w2'
  have a_w3' := bl_cell hb w3'
  have a_x0 := bl_cell hb x0
  have a_x1 := bl_cell hb x1
  have a_x2 := bl_cell hb x2
  have a_x3 := bl_cell hb x3
  rw [hW0] at a_k0 a_k1 a_k2 a_k3 a_w0' a_w1' a_w2' a_w3' a_x0 a_x1 a_x2 a_x3
  have z19 := Lib.hid (Nat.le_of_eq hgx.symm)
  have z20 := Lib.hid hBg.lt
  go_wp2_with fail
  rw [← hW0, ← hgx]
  clear hW0 hgx a_k0 a_k1 a_k2 a_k3 a_w0' a_w1' a_w2' a_w3' a_x0 a_x1 a_x2 a_x3
  have z21 := Lib.hid hb.size
  replace hv := bl_trans hv hb
  replace hB0 := hB0.below hb
  replace hBw := hBw.below hb
  replace hX := hX.below hb
  replace how := how.below hb
  replace hox := hox.below hb
  replace hog := hog.below hb
  clear hb
  have k0 : W0.cell? ⟨g, 0, none⟩ = some (.slice A n c) := hB0.cell 0
  have k1 : W0.cell? ⟨g, 1, none⟩ = some (.int .i64 o) := hB0.cell 1
  have k2 : W0.cell? ⟨g, 2, none⟩ = some (.int .i64 t) := hB0.cell 2
  have k3 : W0.cell? ⟨g, 3, none⟩ = some (.int .i64 p) := hB0.cell 3
  have w0' : W0.cell? ⟨gw, 0, none⟩ = some (Value.slice Aw r cw) := hBw.cell 0
  have w1' : W0.cell? ⟨gw, 1, none⟩ = some (Value.int IntKind.i64 ro) := hBw.cell 1
  have w2' : W0.cell? ⟨gw, 2, none⟩ = some (Value.int IntKind.i64 rt) := hBw.cell 2
  have w3' : W0.cell? ⟨gw, 3, none⟩ = some (Value.int IntKind.i64 rp) := hBw.cell 3
  have x0 : W0.cell? ⟨gx, 0, none⟩ = some (Value.slice (some ⟨g2, 0, none⟩) n n) := hX.cell 0
  have x1 : W0.cell? ⟨gx, 1, none⟩ = some (Value.int IntKind.i64 o) := hX.cell 1
  have x2 : W0.cell? ⟨gx, 2, none⟩ = some (Value.int IntKind.i64 t) := hX.cell 2
  have x3 : W0.cell? ⟨gx, 3, none⟩ = some (Value.int IntKind.i64 p) := hX.cell 3
  have v0 : W0.cell? ⟨gg, 0, none⟩ = some (Value.slice Ag r cg) := hBg.cell 0
  have v1 : W0.cell? ⟨gg, 1, none⟩ = some (Value.int IntKind.i64 ro) := hBg.cell 1
  have v2 : W0.cell? ⟨gg, 2, none⟩ = some (Value.int IntKind.i64 rt) := hBg.cell 2
  have v3 : W0.cell? ⟨gg, 3, none⟩ = some (Value.int IntKind.i64 rp) := hBg.cell 3
  refine (eqBill_same Ag Aw l r cg cw ro rt rp hr1 (by omega) _ hog.arr how.arr).mono ?_
  rintro e W ⟨rfl, hb⟩
  have z22 := Lib.hid hb.size
  replace hv := bl_trans hv hb
  replace hB0 := hB0.below hb
  replace hBw := hBw.below hb
  replace hX := hX.below hb
  replace hBg := hBg.below hb
  replace how := how.below hb
  replace hox := hox.below hb
  replace hog := hog.below hb
  clear hb
  have k0 : W.cell? ⟨g, 0, none⟩ = some (.slice A n c) := hB0.cell 0
  have k1 : W.cell? ⟨g, 1, none⟩ = some (.int .i64 o) := hB0.cell 1
  have k2 : W.cell? ⟨g, 2, none⟩ = some (.int .i64 t) := hB0.cell 2
  have k3 : W.cell? ⟨g, 3, none⟩ = some (.int .i64 p) := hB0.cell 3
  have w0' : W.cell? ⟨gw, 0, none⟩ = some (Value.slice Aw r cw) := hBw.cell 0
  have w1' : W.cell? ⟨gw, 1, none⟩ = some (Value.int IntKind.i64 ro) := hBw.cell 1
  have w2' : W.cell? ⟨gw, 2, none⟩ = some (Value.int IntKind.i64 rt) := hBw.cell 2
  have w3' : W.cell? ⟨gw, 3, none⟩ = some (Value.int IntKind.i64 rp) := hBw.cell 3
  have x0 : W.cell? ⟨gx, 0, none⟩ = some (Value.slice (some ⟨g2, 0, none⟩) n n) := hX.cell 0
  have x1 : W.cell? ⟨gx, 1, none⟩ = some (Value.int IntKind.i64 o) := hX.cell 1
  have x2 : W.cell? ⟨gx, 2, none⟩ = some (Value.int IntKind.i64 t) := hX.cell 2
  have x3 : W.cell? ⟨gx, 3, none⟩ = some (Value.int IntKind.i64 p) := hX.cell 3
  have v0 : W.cell? ⟨gg, 0, none⟩ = some (Value.slice Ag r cg) := hBg.cell 0
  have v1 : W.cell? ⟨gg, 1, none⟩ = some (Value.int IntKind.i64 ro) := hBg.cell 1
  have v2 : W.cell? ⟨gg, 2, none⟩ = some (Value.int IntKind.i64 rt) := hBg.cell 2
  have v3 : W.cell? ⟨gg, 3, none⟩ = some (Value.int IntKind.i64 rp) := hBg.cell 3
  go_wp2_with fail
  have HS := Lib.hid (show (fun w' : World => (Below w.heap.size w w') ∧ (Blk w' g 61 #[.slice A n c, .int .i64 o, .int .i64 t, .int .i64 p]) ∧ (Blk w' gw 65 #[Value.slice Aw r cw, Value.int IntKind.i64 ro, Value.int IntKind.i64 rt, Value.int IntKind.i64 rp]) ∧ (Blk w' gx 65 #[Value.slice (some ⟨g2, 0, none⟩) n n, Value.int IntKind.i64 o, Value.int IntKind.i64 t, Value.int IntKind.i64 p]) ∧ (Blk w' gg 65 #[Value.slice Ag r cg, Value.int IntKind.i64 ro, Value.int IntKind.i64 rt, Value.int IntKind.i64 rp]) ∧ (Own w' lw uw 139 3 r (.slice Aw r cw) (flat Item.cells l)) ∧ (Own w' lx ux 139 3 n (.slice (some ⟨g2, 0, none⟩) n n) (flat Item.cells xs)) ∧ (Own w' lg ug 139 3 r (.slice Ag r cg) (flat Item.cells l)) ∧ (World.cell? w' ⟨g, 0, none⟩ = some (.slice A n c)) ∧ (World.cell? w' ⟨g, 1, none⟩ = some (.int .i64 o)) ∧ (World.cell? w' ⟨g, 2, none⟩ = some (.int .i64 t)) ∧ (World.cell? w' ⟨g, 3, none⟩ = some (.int .i64 p)) ∧ (World.cell? w' ⟨gw, 0, none⟩ = some (Value.slice Aw r cw)) ∧ (World.cell? w' ⟨gw, 1, none⟩ = some (Value.int IntKind.i64 ro)) ∧ (World.cell? w' ⟨gw, 2, none⟩ = some (Value.int IntKind.i64 rt)) ∧ (World.cell? w' ⟨gw, 3, none⟩ = some (Value.int IntKind.i64 rp)) ∧ (World.cell? w' ⟨gx, 0, none⟩ = some (Value.slice (some ⟨g2, 0, none⟩) n n)) ∧ (World.cell? w' ⟨gx, 1, none⟩ = some (Value.int IntKind.i64 o)) ∧ (World.cell? w' ⟨gx, 2, none⟩ = some (Value.int IntKind.i64 t)) ∧ (World.cell? w' ⟨gx, 3, none⟩ = some (Value.int IntKind.i64 p)) ∧ (World.cell? w' ⟨gg, 0, none⟩ = some (Value.slice Ag r cg)) ∧ (World.cell? w' ⟨gg, 1, none⟩ = some (Value.int IntKind.i64 ro)) ∧ (World.cell? w' ⟨gg, 2, none⟩ = some (Value.int IntKind.i64 rt)) ∧ (World.cell? w' ⟨gg, 3, none⟩ = some (Value.int IntKind.i64 rp))) W.drew from ⟨hv.drew, hB0.below (Below.refl _ _).drew, hBw.below (Below.refl _ _).drew, hX.below (Below.refl _ _).drew, hBg.below (Below.refl _ _).drew, how.drew, hox.drew, hog.drew, k0, k1, k2, k3, w0', w1', w2', w3', x0, x1, x2, x3, v0, v1, v2, v3⟩)
  clear v3 v2 v1 v0 x3 x2 x1 x0 w3' w2' w1' w0' k3 k2 k1 k0 hog hox how hBg hX hBw hB0 hv
  go_region_held3 (fun w' => (Below w.heap.size w w') ∧ (Blk w' g 61 #[.slice A n c, .int .i64 o, .int .i64 t, .int .i64 p]) ∧ (Blk w' gw 65 #[Value.slice Aw r cw, Value.int IntKind.i64 ro, Value.int IntKind.i64 rt, Value.int IntKind.i64 rp]) ∧ (Blk w' gx 65 #[Value.slice (some ⟨g2, 0, none⟩) n n, Value.int IntKind.i64 o, Value.int IntKind.i64 t, Value.int IntKind.i64 p]) ∧ (Blk w' gg 65 #[Value.slice Ag r cg, Value.int IntKind.i64 ro, Value.int IntKind.i64 rt, Value.int IntKind.i64 rp]) ∧ (Own w' lw uw 139 3 r (.slice Aw r cw) (flat Item.cells l)) ∧ (Own w' lx ux 139 3 n (.slice (some ⟨g2, 0, none⟩) n n) (flat Item.cells xs)) ∧ (Own w' lg ug 139 3 r (.slice Ag r cg) (flat Item.cells l)) ∧ (World.cell? w' ⟨g, 0, none⟩ = some (.slice A n c)) ∧ (World.cell? w' ⟨g, 1, none⟩ = some (.int .i64 o)) ∧ (World.cell? w' ⟨g, 2, none⟩ = some (.int .i64 t)) ∧ (World.cell? w' ⟨g, 3, none⟩ = some (.int .i64 p)) ∧ (World.cell? w' ⟨gw, 0, none⟩ = some (Value.slice Aw r cw)) ∧ (World.cell? w' ⟨gw, 1, none⟩ = some (Value.int IntKind.i64 ro)) ∧ (World.cell? w' ⟨gw, 2, none⟩ = some (Value.int IntKind.i64 rt)) ∧ (World.cell? w' ⟨gw, 3, none⟩ = some (Value.int IntKind.i64 rp)) ∧ (World.cell? w' ⟨gx, 0, none⟩ = some (Value.slice (some ⟨g2, 0, none⟩) n n)) ∧ (World.cell? w' ⟨gx, 1, none⟩ = some (Value.int IntKind.i64 o)) ∧ (World.cell? w' ⟨gx, 2, none⟩ = some (Value.int IntKind.i64 t)) ∧ (World.cell? w' ⟨gx, 3, none⟩ = some (Value.int IntKind.i64 p)) ∧ (World.cell? w' ⟨gg, 0, none⟩ = some (Value.slice Ag r cg)) ∧ (World.cell? w' ⟨gg, 1, none⟩ = some (Value.int IntKind.i64 ro)) ∧ (World.cell? w' ⟨gg, 2, none⟩ = some (Value.int IntKind.i64 rt)) ∧ (World.cell? w' ⟨gg, 3, none⟩ = some (Value.int IntKind.i64 rp)))
    (first | exact HS.out | (go_split_ands; exact ⟨bl_trans (by assumption) hb, Blk.below (by assumption) hb, Blk.below (by assumption) hb, Blk.below (by assumption) hb, Blk.below (by assumption) hb, Own.below (by assumption) hb, Own.below (by assumption) hb, Own.below (by assumption) hb, bl_cell hb (by assumption), bl_cell hb (by assumption), bl_cell hb (by assumption), bl_cell hb (by assumption), bl_cell hb (by assumption), bl_cell hb (by assumption), bl_cell hb (by assumption), bl_cell hb (by assumption), bl_cell hb (by assumption), bl_cell hb (by assumption), bl_cell hb (by assumption), bl_cell hb (by assumption), bl_cell hb (by assumption), bl_cell hb (by assumption), bl_cell hb (by assumption), bl_cell hb (by assumption)⟩))
    (first | (go_at_call 35; go_split_ands; refine (toBill_c A xs n c o t p hn hz _ (hA.below (by assumption))).mono ?_; rintro e W ⟨g3, rfl, hown3, hb⟩) | (go_at_call 37; go_split_ands; refine (eqBill_c _ _ xs xs n n n n o t p o t p hn hn hz _ (Own.arr (lo := lx) (hi := ux) (e := 139) (size := 3) (by assumption)) (Arr.own hown3)).mono ?_; rintro e W ⟨rfl, hb⟩))
  go_split_ands
  have hv := (by assumption : Below w.heap.size w _)
  have hB0 := (by assumption : Blk _ g 61 #[.slice A n c, .int .i64 o, .int .i64 t, .int .i64 p])
  have hBw := (by assumption : Blk _ gw 65 #[Value.slice Aw r cw, Value.int IntKind.i64 ro, Value.int IntKind.i64 rt, Value.int IntKind.i64 rp])
  have hX := (by assumption : Blk _ gx 65 #[Value.slice (some ⟨g2, 0, none⟩) n n, Value.int IntKind.i64 o, Value.int IntKind.i64 t, Value.int IntKind.i64 p])
  have hBg := (by assumption : Blk _ gg 65 #[Value.slice Ag r cg, Value.int IntKind.i64 ro, Value.int IntKind.i64 rt, Value.int IntKind.i64 rp])
  have how := (by assumption : Own _ lw uw 139 3 r (.slice Aw r cw) (flat Item.cells l))
  have hox := (by assumption : Own _ lx ux 139 3 n (.slice (some ⟨g2, 0, none⟩) n n) (flat Item.cells xs))
  have hog := (by assumption : Own _ lg ug 139 3 r (.slice Ag r cg) (flat Item.cells l))
  have k0 := (by assumption : World.cell? _ ⟨g, 0, none⟩ = some (.slice A n c))
  have k1 := (by assumption : World.cell? _ ⟨g, 1, none⟩ = some (.int .i64 o))
  have k2 := (by assumption : World.cell? _ ⟨g, 2, none⟩ = some (.int .i64 t))
  have k3 := (by assumption : World.cell? _ ⟨g, 3, none⟩ = some (.int .i64 p))
  have w0' := (by assumption : World.cell? _ ⟨gw, 0, none⟩ = some (Value.slice Aw r cw))
  have w1' := (by assumption : World.cell? _ ⟨gw, 1, none⟩ = some (Value.int IntKind.i64 ro))
  have w2' := (by assumption : World.cell? _ ⟨gw, 2, none⟩ = some (Value.int IntKind.i64 rt))
  have w3' := (by assumption : World.cell? _ ⟨gw, 3, none⟩ = some (Value.int IntKind.i64 rp))
  have x0 := (by assumption : World.cell? _ ⟨gx, 0, none⟩ = some (Value.slice (some ⟨g2, 0, none⟩) n n))
  have x1 := (by assumption : World.cell? _ ⟨gx, 1, none⟩ = some (Value.int IntKind.i64 o))
  have x2 := (by assumption : World.cell? _ ⟨gx, 2, none⟩ = some (Value.int IntKind.i64 t))
  have x3 := (by assumption : World.cell? _ ⟨gx, 3, none⟩ = some (Value.int IntKind.i64 p))
  have v0 := (by assumption : World.cell? _ ⟨gg, 0, none⟩ = some (Value.slice Ag r cg))
  have v1 := (by assumption : World.cell? _ ⟨gg, 1, none⟩ = some (Value.int IntKind.i64 ro))
  have v2 := (by assumption : World.cell? _ ⟨gg, 2, none⟩ = some (Value.int IntKind.i64 rt))
  have v3 := (by assumption : World.cell? _ ⟨gg, 3, none⟩ = some (Value.int IntKind.i64 rp))
  go_wp2_with fail
  refine (markBill_c (some ⟨g2, 0, none⟩) n n lx o t p _ 1 (by omega) (by omega) (by omega) _ hox.1).mono ?_
  rintro e W ⟨rfl, cs', hown, hg⟩
  have y0 := z0.out
  have y1 := z1.out
  have y2 := z2.out
  have y3 := z3.out
  have y4 := z4.out
  have y5 := z5.out
  have y6 := z6.out
  have y7 := z7.out
  have y8 := z8.out
  have y9 := z9.out
  have y10 := z10.out
  have y11 := z11.out
  have y12 := z12.out
  have y13 := z13.out
  have y14 := z14.out
  have y15 := z15.out
  have y16 := z16.out
  have y17 := z17.out
  have y18 := z18.out
  have y19 := z19.out
  have y20 := z20.out
  have y21 := z21.out
  have y22 := z22.out
  have hr := hox.row
  have l_how := how.2.1
  have l_hox := hox.2.1
  have l_hog := hog.2.1
  replace hv := bl_grown hv hg (fun k e => by have h1 := hr k e; omega)
  replace hB0 := hB0.grown hg (fun e => by have h1 := hr _ e.symm; omega)
  replace hBw := hBw.grown hg (fun e => by have h1 := hr _ e.symm; omega)
  replace hX := hX.grown hg (fun e => by have h1 := hr _ e.symm; omega)
  replace hBg := hBg.grown hg (fun e => by have h1 := hr _ e.symm; omega)
  replace how := how.grown hg (fun k e => by have h1 := hr k e; omega)
  replace hog := hog.grown hg (fun k e => by have h1 := hr k e; omega)
  replace hox := hox.marked hg hown
  clear hg hown hr l_how l_hox l_hog
  clear y0 y1 y2 y3 y4 y5 y6 y7 y8 y9 y10 y11 y12 y13 y14 y15 y16 y17 y18 y19 y20 y21 y22
  have k0 : W.cell? ⟨g, 0, none⟩ = some (.slice A n c) := hB0.cell 0
  have k1 : W.cell? ⟨g, 1, none⟩ = some (.int .i64 o) := hB0.cell 1
  have k2 : W.cell? ⟨g, 2, none⟩ = some (.int .i64 t) := hB0.cell 2
  have k3 : W.cell? ⟨g, 3, none⟩ = some (.int .i64 p) := hB0.cell 3
  have w0' : W.cell? ⟨gw, 0, none⟩ = some (Value.slice Aw r cw) := hBw.cell 0
  have w1' : W.cell? ⟨gw, 1, none⟩ = some (Value.int IntKind.i64 ro) := hBw.cell 1
  have w2' : W.cell? ⟨gw, 2, none⟩ = some (Value.int IntKind.i64 rt) := hBw.cell 2
  have w3' : W.cell? ⟨gw, 3, none⟩ = some (Value.int IntKind.i64 rp) := hBw.cell 3
  have x0 : W.cell? ⟨gx, 0, none⟩ = some (Value.slice (some ⟨g2, 0, none⟩) n n) := hX.cell 0
  have x1 : W.cell? ⟨gx, 1, none⟩ = some (Value.int IntKind.i64 o) := hX.cell 1
  have x2 : W.cell? ⟨gx, 2, none⟩ = some (Value.int IntKind.i64 t) := hX.cell 2
  have x3 : W.cell? ⟨gx, 3, none⟩ = some (Value.int IntKind.i64 p) := hX.cell 3
  have v0 : W.cell? ⟨gg, 0, none⟩ = some (Value.slice Ag r cg) := hBg.cell 0
  have v1 : W.cell? ⟨gg, 1, none⟩ = some (Value.int IntKind.i64 ro) := hBg.cell 1
  have v2 : W.cell? ⟨gg, 2, none⟩ = some (Value.int IntKind.i64 rt) := hBg.cell 2
  have v3 : W.cell? ⟨gg, 3, none⟩ = some (Value.int IntKind.i64 rp) := hBg.cell 3
  go_wp2_with fail
  refine (eqBill_same Ag Aw l r cg cw ro rt rp hr1 (by omega) _ hog.arr how.arr).mono ?_
  rintro e W ⟨rfl, hb⟩
  have z23 := Lib.hid hb.size
  replace hv := bl_trans hv hb
  replace hB0 := hB0.below hb
  replace hBw := hBw.below hb
  replace hX := hX.below hb
  replace hBg := hBg.below hb
  replace how := how.below hb
  replace hox := hox.below hb
  replace hog := hog.below hb
  clear hb
  have k0 : W.cell? ⟨g, 0, none⟩ = some (.slice A n c) := hB0.cell 0
  have k1 : W.cell? ⟨g, 1, none⟩ = some (.int .i64 o) := hB0.cell 1
  have k2 : W.cell? ⟨g, 2, none⟩ = some (.int .i64 t) := hB0.cell 2
  have k3 : W.cell? ⟨g, 3, none⟩ = some (.int .i64 p) := hB0.cell 3
  have w0' : W.cell? ⟨gw, 0, none⟩ = some (Value.slice Aw r cw) := hBw.cell 0
  have w1' : W.cell? ⟨gw, 1, none⟩ = some (Value.int IntKind.i64 ro) := hBw.cell 1
  have w2' : W.cell? ⟨gw, 2, none⟩ = some (Value.int IntKind.i64 rt) := hBw.cell 2
  have w3' : W.cell? ⟨gw, 3, none⟩ = some (Value.int IntKind.i64 rp) := hBw.cell 3
  have x0 : W.cell? ⟨gx, 0, none⟩ = some (Value.slice (some ⟨g2, 0, none⟩) n n) := hX.cell 0
  have x1 : W.cell? ⟨gx, 1, none⟩ = some (Value.int IntKind.i64 o) := hX.cell 1
  have x2 : W.cell? ⟨gx, 2, none⟩ = some (Value.int IntKind.i64 t) := hX.cell 2
  have x3 : W.cell? ⟨gx, 3, none⟩ = some (Value.int IntKind.i64 p) := hX.cell 3
  have v0 : W.cell? ⟨gg, 0, none⟩ = some (Value.slice Ag r cg) := hBg.cell 0
  have v1 : W.cell? ⟨gg, 1, none⟩ = some (Value.int IntKind.i64 ro) := hBg.cell 1
  have v2 : W.cell? ⟨gg, 2, none⟩ = some (Value.int IntKind.i64 rt) := hBg.cell 2
  have v3 : W.cell? ⟨gg, 3, none⟩ = some (Value.int IntKind.i64 rp) := hBg.cell 3
  go_wp2_with fail
  clear x0 x1 x2 x3
  clear hX
  refine (markBillC_c Ag r cg lg ro rt rp _ 1 (by omega) (by omega) (by omega) _ hog.1).mono ?_
  rintro e W ⟨rfl, hown, hg⟩
  have y0 := z0.out
  have y1 := z1.out
  have y2 := z2.out
  have y3 := z3.out
  have y4 := z4.out
  have y5 := z5.out
  have y6 := z6.out
  have y7 := z7.out
  have y8 := z8.out
  have y9 := z9.out
  have y10 := z10.out
  have y11 := z11.out
  have y12 := z12.out
  have y13 := z13.out
  have y14 := z14.out
  have y15 := z15.out
  have y16 := z16.out
  have y17 := z17.out
  have y18 := z18.out
  have y19 := z19.out
  have y20 := z20.out
  have y21 := z21.out
  have y22 := z22.out
  have y23 := z23.out
  have hr := hog.row
  have l_how := how.2.1
  have l_hox := hox.2.1
  have l_hog := hog.2.1
  replace hv := bl_grown hv hg (fun k e => by have h1 := hr k e; omega)
  replace hB0 := hB0.grown hg (fun e => by have h1 := hr _ e.symm; omega)
  replace hBw := hBw.grown hg (fun e => by have h1 := hr _ e.symm; omega)
  replace hBg := hBg.grown hg (fun e => by have h1 := hr _ e.symm; omega)
  replace how := how.grown hg (fun k e => by have h1 := hr k e; omega)
  replace hox := hox.grown hg (fun k e => by have h1 := hr k e; omega)
  replace hog := hog.marked hg hown
  clear hg hown hr l_how l_hox l_hog
  clear y0 y1 y2 y3 y4 y5 y6 y7 y8 y9 y10 y11 y12 y13 y14 y15 y16 y17 y18 y19 y20 y21 y22 y23
  have k0 : W.cell? ⟨g, 0, none⟩ = some (.slice A n c) := hB0.cell 0
  have k1 : W.cell? ⟨g, 1, none⟩ = some (.int .i64 o) := hB0.cell 1
  have k2 : W.cell? ⟨g, 2, none⟩ = some (.int .i64 t) := hB0.cell 2
  have k3 : W.cell? ⟨g, 3, none⟩ = some (.int .i64 p) := hB0.cell 3
  have w0' : W.cell? ⟨gw, 0, none⟩ = some (Value.slice Aw r cw) := hBw.cell 0
  have w1' : W.cell? ⟨gw, 1, none⟩ = some (Value.int IntKind.i64 ro) := hBw.cell 1
  have w2' : W.cell? ⟨gw, 2, none⟩ = some (Value.int IntKind.i64 rt) := hBw.cell 2
  have w3' : W.cell? ⟨gw, 3, none⟩ = some (Value.int IntKind.i64 rp) := hBw.cell 3
  have v0 : W.cell? ⟨gg, 0, none⟩ = some (Value.slice Ag r cg) := hBg.cell 0
  have v1 : W.cell? ⟨gg, 1, none⟩ = some (Value.int IntKind.i64 ro) := hBg.cell 1
  have v2 : W.cell? ⟨gg, 2, none⟩ = some (Value.int IntKind.i64 rt) := hBg.cell 2
  have v3 : W.cell? ⟨gg, 3, none⟩ = some (Value.int IntKind.i64 rp) := hBg.cell 3
  go_wp2_with fail
  refine (heldBill_c Ag r cg ro rt rp 1 (by omega) (by omega) (by omega) _ hog.arr).mono ?_
  rintro e W ⟨rfl, hb⟩
  have z24 := Lib.hid hb.size
  replace hv := bl_trans hv hb
  replace hB0 := hB0.below hb
  replace hBw := hBw.below hb
  replace hBg := hBg.below hb
  replace how := how.below hb
  replace hox := hox.below hb
  replace hog := hog.below hb
  clear hb
  have k0 : W.cell? ⟨g, 0, none⟩ = some (.slice A n c) := hB0.cell 0
  have k1 : W.cell? ⟨g, 1, none⟩ = some (.int .i64 o) := hB0.cell 1
  have k2 : W.cell? ⟨g, 2, none⟩ = some (.int .i64 t) := hB0.cell 2
  have k3 : W.cell? ⟨g, 3, none⟩ = some (.int .i64 p) := hB0.cell 3
  have w0' : W.cell? ⟨gw, 0, none⟩ = some (Value.slice Aw r cw) := hBw.cell 0
  have w1' : W.cell? ⟨gw, 1, none⟩ = some (Value.int IntKind.i64 ro) := hBw.cell 1
  have w2' : W.cell? ⟨gw, 2, none⟩ = some (Value.int IntKind.i64 rt) := hBw.cell 2
  have w3' : W.cell? ⟨gw, 3, none⟩ = some (Value.int IntKind.i64 rp) := hBw.cell 3
  have v0 : W.cell? ⟨gg, 0, none⟩ = some (Value.slice Ag r cg) := hBg.cell 0
  have v1 : W.cell? ⟨gg, 1, none⟩ = some (Value.int IntKind.i64 ro) := hBg.cell 1
  have v2 : W.cell? ⟨gg, 2, none⟩ = some (Value.int IntKind.i64 rt) := hBg.cell 2
  have v3 : W.cell? ⟨gg, 3, none⟩ = some (Value.int IntKind.i64 rp) := hBg.cell 3
  go_wp2_with fail
  refine (toBill_c A xs n c o t p hn hz _ (hA.below hv)).mono ?_
  rintro e W ⟨g4, rfl, hoy, hb⟩
  obtain ⟨ly, uy, h_own, z25, z26⟩ := Own.named hoy hb
  replace hoy := h_own
  clear h_own
  have z27 := Lib.hid hb.size
  replace hv := bl_trans hv hb
  replace hB0 := hB0.below hb
  replace hBw := hBw.below hb
  replace hBg := hBg.below hb
  replace how := how.below hb
  replace hox := hox.below hb
  replace hog := hog.below hb
  clear hb
  have k0 : W.cell? ⟨g, 0, none⟩ = some (.slice A n c) := hB0.cell 0
  have k1 : W.cell? ⟨g, 1, none⟩ = some (.int .i64 o) := hB0.cell 1
  have k2 : W.cell? ⟨g, 2, none⟩ = some (.int .i64 t) := hB0.cell 2
  have k3 : W.cell? ⟨g, 3, none⟩ = some (.int .i64 p) := hB0.cell 3
  have w0' : W.cell? ⟨gw, 0, none⟩ = some (Value.slice Aw r cw) := hBw.cell 0
  have w1' : W.cell? ⟨gw, 1, none⟩ = some (Value.int IntKind.i64 ro) := hBw.cell 1
  have w2' : W.cell? ⟨gw, 2, none⟩ = some (Value.int IntKind.i64 rt) := hBw.cell 2
  have w3' : W.cell? ⟨gw, 3, none⟩ = some (Value.int IntKind.i64 rp) := hBw.cell 3
  have v0 : W.cell? ⟨gg, 0, none⟩ = some (Value.slice Ag r cg) := hBg.cell 0
  have v1 : W.cell? ⟨gg, 1, none⟩ = some (Value.int IntKind.i64 ro) := hBg.cell 1
  have v2 : W.cell? ⟨gg, 2, none⟩ = some (Value.int IntKind.i64 rt) := hBg.cell 2
  have v3 : W.cell? ⟨gg, 3, none⟩ = some (Value.int IntKind.i64 rp) := hBg.cell 3
  go_wp2_with fail
  refine (HG'.out _ _ hoy.arr).mono ?_
  rintro e W ⟨Ah, ch, rfl, hoh, hb⟩
  obtain ⟨lh, uh, h_own, z28, z29⟩ := Own.named hoh hb
  replace hoh := h_own
  clear h_own
  have z30 := Lib.hid hb.size
  replace hv := bl_trans hv hb
  replace hB0 := hB0.below hb
  replace hBw := hBw.below hb
  replace hBg := hBg.below hb
  replace how := how.below hb
  replace hox := hox.below hb
  replace hog := hog.below hb
  replace hoy := hoy.below hb
  clear hb
  have k0 : W.cell? ⟨g, 0, none⟩ = some (.slice A n c) := hB0.cell 0
  have k1 : W.cell? ⟨g, 1, none⟩ = some (.int .i64 o) := hB0.cell 1
  have k2 : W.cell? ⟨g, 2, none⟩ = some (.int .i64 t) := hB0.cell 2
  have k3 : W.cell? ⟨g, 3, none⟩ = some (.int .i64 p) := hB0.cell 3
  have w0' : W.cell? ⟨gw, 0, none⟩ = some (Value.slice Aw r cw) := hBw.cell 0
  have w1' : W.cell? ⟨gw, 1, none⟩ = some (Value.int IntKind.i64 ro) := hBw.cell 1
  have w2' : W.cell? ⟨gw, 2, none⟩ = some (Value.int IntKind.i64 rt) := hBw.cell 2
  have w3' : W.cell? ⟨gw, 3, none⟩ = some (Value.int IntKind.i64 rp) := hBw.cell 3
  have v0 : W.cell? ⟨gg, 0, none⟩ = some (Value.slice Ag r cg) := hBg.cell 0
  have v1 : W.cell? ⟨gg, 1, none⟩ = some (Value.int IntKind.i64 ro) := hBg.cell 1
  have v2 : W.cell? ⟨gg, 2, none⟩ = some (Value.int IntKind.i64 rt) := hBg.cell 2
  have v3 : W.cell? ⟨gg, 3, none⟩ = some (Value.int IntKind.i64 rp) := hBg.cell 3
  obtain ⟨W0, hW0⟩ : ∃ W0, W0 = W.alloc (Obj.cells #[Value.slice Ah r ch, Value.int IntKind.i64 ro, Value.int IntKind.i64 rt, Value.int IntKind.i64 rp] 65) := ⟨_, rfl⟩
  obtain ⟨gh, hgx⟩ : ∃ gx, gx = W.heap.size := ⟨_, rfl⟩
  have hb : Below W.heap.size W W0 := by rw [hW0]; exact bl_alloc (Below.refl _ _) _
  have hBh : Blk W0 gh 65 #[Value.slice Ah r ch, Value.int IntKind.i64 ro, Value.int IntKind.i64 rt, Value.int IntKind.i64 rp] := by rw [hW0, hgx]; exact Blk.new _ _ _
  have a_k0 := bl_cell hb k0
  have a_k1 := bl_cell hb k1
  have a_k2 := bl_cell hb k2
  have a_k3 := bl_cell hb k3
  have a_w0' := bl_cell hb w0'
  have a_w1' := bl_cell hb w1'
  have a_w2' := bl_cell hb w2'
  have a_w3' := bl_cell hb w3'
  have a_v0 := bl_cell hb v0
  have a_v1 := bl_cell hb v1
  have a_v2 := bl_cell hb v2
  have a_v3 := bl_cell hb v3
  rw [hW0] at a_k0 a_k1 a_k2 a_k3 a_w0' a_w1' a_w2' a_w3' a_v0 a_v1 a_v2 a_v3
  have z31 := Lib.hid (Nat.le_of_eq hgx.symm)
  have z32 := Lib.hid hBh.lt
  go_wp2_with fail
  rw [← hW0, ← hgx]
  clear hW0 hgx a_k0 a_k1 a_k2 a_k3 a_w0' a_w1' a_w2' a_w3' a_v0 a_v1 a_v2 a_v3
  have z33 := Lib.hid hb.size
  replace hv := bl_trans hv hb
  replace hB0 := hB0.below hb
  replace hBw := hBw.below hb
  replace hBg := hBg.below hb
  replace how := how.below hb
  replace hox := hox.below hb
  replace hog := hog.below hb
  replace hoy := hoy.below hb
  replace hoh := hoh.below hb
  clear hb
  have k0 : W0.cell? ⟨g, 0, none⟩ = some (.slice A n c) := hB0.cell 0
  have k1 : W0.cell? ⟨g, 1, none⟩ = some (.int .i64 o) := hB0.cell 1
  have k2 : W0.cell? ⟨g, 2, none⟩ = some (.int .i64 t) := hB0.cell 2
  have k3 : W0.cell? ⟨g, 3, none⟩ = some (.int .i64 p) := hB0.cell 3
  have w0' : W0.cell? ⟨gw, 0, none⟩ = some (Value.slice Aw r cw) := hBw.cell 0
  have w1' : W0.cell? ⟨gw, 1, none⟩ = some (Value.int IntKind.i64 ro) := hBw.cell 1
  have w2' : W0.cell? ⟨gw, 2, none⟩ = some (Value.int IntKind.i64 rt) := hBw.cell 2
  have w3' : W0.cell? ⟨gw, 3, none⟩ = some (Value.int IntKind.i64 rp) := hBw.cell 3
  have v0 : W0.cell? ⟨gg, 0, none⟩ = some (Value.slice Ag r cg) := hBg.cell 0
  have v1 : W0.cell? ⟨gg, 1, none⟩ = some (Value.int IntKind.i64 ro) := hBg.cell 1
  have v2 : W0.cell? ⟨gg, 2, none⟩ = some (Value.int IntKind.i64 rt) := hBg.cell 2
  have v3 : W0.cell? ⟨gg, 3, none⟩ = some (Value.int IntKind.i64 rp) := hBg.cell 3
  have h0 : W0.cell? ⟨gh, 0, none⟩ = some (Value.slice Ah r ch) := hBh.cell 0
  have h1 : W0.cell? ⟨gh, 1, none⟩ = some (Value.int IntKind.i64 ro) := hBh.cell 1
  have h2 : W0.cell? ⟨gh, 2, none⟩ = some (Value.int IntKind.i64 rt) := hBh.cell 2
  have h3 : W0.cell? ⟨gh, 3, none⟩ = some (Value.int IntKind.i64 rp) := hBh.cell 3
  refine (eqBill_same Ah Aw l r ch cw ro rt rp hr1 (by omega) _ hoh.arr how.arr).mono ?_
  rintro e W ⟨rfl, hb⟩
  have z34 := Lib.hid hb.size
  replace hv := bl_trans hv hb
  replace hB0 := hB0.below hb
  replace hBw := hBw.below hb
  replace hBg := hBg.below hb
  replace hBh := hBh.below hb
  replace how := how.below hb
  replace hox := hox.below hb
  replace hog := hog.below hb
  replace hoy := hoy.below hb
  replace hoh := hoh.below hb
  clear hb
  have k0 : W.cell? ⟨g, 0, none⟩ = some (.slice A n c) := hB0.cell 0
  have k1 : W.cell? ⟨g, 1, none⟩ = some (.int .i64 o) := hB0.cell 1
  have k2 : W.cell? ⟨g, 2, none⟩ = some (.int .i64 t) := hB0.cell 2
  have k3 : W.cell? ⟨g, 3, none⟩ = some (.int .i64 p) := hB0.cell 3
  have w0' : W.cell? ⟨gw, 0, none⟩ = some (Value.slice Aw r cw) := hBw.cell 0
  have w1' : W.cell? ⟨gw, 1, none⟩ = some (Value.int IntKind.i64 ro) := hBw.cell 1
  have w2' : W.cell? ⟨gw, 2, none⟩ = some (Value.int IntKind.i64 rt) := hBw.cell 2
  have w3' : W.cell? ⟨gw, 3, none⟩ = some (Value.int IntKind.i64 rp) := hBw.cell 3
  have v0 : W.cell? ⟨gg, 0, none⟩ = some (Value.slice Ag r cg) := hBg.cell 0
  have v1 : W.cell? ⟨gg, 1, none⟩ = some (Value.int IntKind.i64 ro) := hBg.cell 1
  have v2 : W.cell? ⟨gg, 2, none⟩ = some (Value.int IntKind.i64 rt) := hBg.cell 2
  have v3 : W.cell? ⟨gg, 3, none⟩ = some (Value.int IntKind.i64 rp) := hBg.cell 3
  have h0 : W.cell? ⟨gh, 0, none⟩ = some (Value.slice Ah r ch) := hBh.cell 0
  have h1 : W.cell? ⟨gh, 1, none⟩ = some (Value.int IntKind.i64 ro) := hBh.cell 1
  have h2 : W.cell? ⟨gh, 2, none⟩ = some (Value.int IntKind.i64 rt) := hBh.cell 2
  have h3 : W.cell? ⟨gh, 3, none⟩ = some (Value.int IntKind.i64 rp) := hBh.cell 3
  go_wp2_with fail
  refine (heldBill_c Ag r cg ro rt rp 1 (by omega) (by omega) (by omega) _ hog.arr).mono ?_
  rintro e W ⟨rfl, hb⟩
  have z35 := Lib.hid hb.size
  replace hv := bl_trans hv hb
  replace hB0 := hB0.below hb
  replace hBw := hBw.below hb
  replace hBg := hBg.below hb
  replace hBh := hBh.below hb
  replace how := how.below hb
  replace hox := hox.below hb
  replace hog := hog.below hb
  replace hoy := hoy.below hb
  replace hoh := hoh.below hb
  clear hb
  have k0 : W.cell? ⟨g, 0, none⟩ = some (.slice A n c) := hB0.cell 0
  have k1 : W.cell? ⟨g, 1, none⟩ = some (.int .i64 o) := hB0.cell 1
  have k2 : W.cell? ⟨g, 2, none⟩ = some (.int .i64 t) := hB0.cell 2
  have k3 : W.cell? ⟨g, 3, none⟩ = some (.int .i64 p) := hB0.cell 3
  have w0' : W.cell? ⟨gw, 0, none⟩ = some (Value.slice Aw r cw) := hBw.cell 0
  have w1' : W.cell? ⟨gw, 1, none⟩ = some (Value.int IntKind.i64 ro) := hBw.cell 1
  have w2' : W.cell? ⟨gw, 2, none⟩ = some (Value.int IntKind.i64 rt) := hBw.cell 2
  have w3' : W.cell? ⟨gw, 3, none⟩ = some (Value.int IntKind.i64 rp) := hBw.cell 3
  have v0 : W.cell? ⟨gg, 0, none⟩ = some (Value.slice Ag r cg) := hBg.cell 0
  have v1 : W.cell? ⟨gg, 1, none⟩ = some (Value.int IntKind.i64 ro) := hBg.cell 1
  have v2 : W.cell? ⟨gg, 2, none⟩ = some (Value.int IntKind.i64 rt) := hBg.cell 2
  have v3 : W.cell? ⟨gg, 3, none⟩ = some (Value.int IntKind.i64 rp) := hBg.cell 3
  have h0 : W.cell? ⟨gh, 0, none⟩ = some (Value.slice Ah r ch) := hBh.cell 0
  have h1 : W.cell? ⟨gh, 1, none⟩ = some (Value.int IntKind.i64 ro) := hBh.cell 1
  have h2 : W.cell? ⟨gh, 2, none⟩ = some (Value.int IntKind.i64 rt) := hBh.cell 2
  have h3 : W.cell? ⟨gh, 3, none⟩ = some (Value.int IntKind.i64 rp) := hBh.cell 3
  go_wp2_with fail
  go_returns
  exact Ret.mk rfl hv

end Go.Proofs.Ytilfcjibpohpiaa
