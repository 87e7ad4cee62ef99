/- SameBill: the program's and the reference's. -/
import Derived.Test.YtopbiihiogbhiaaNeq
import Derived.Test.YtopbiihiogbhiaaBillX
namespace Go.Proofs.Ytopbiihiogbhiaa
open Go.RowKit

theorem Blk.drewN {w : World} {g : Nat} {t : TypeId} {cs : Array Value} (h : Blk w g t cs) (n : Nat) : Blk (w.drewN n) g t cs := h.below (below_drewN (Below.refl _ _) n)
def sameB (xs ys : List Item) (o t p o' t' p' : Int) : Bool := listBeq Item.beq xs ys && decide (o = o') && decide (t = t') && decide (p = p')
set_option maxRecDepth 100000 in
set_option maxHeartbeats 1600000 in
theorem SameBill_c (A B : Option Addr) (xs ys : List Item) (n m c d : Nat) (o t p o' t' p' : Int) (hn : Hid (xs.length = n)) (hm : Hid (ys.length = m)) (hz : (n : Int) ≤ 1048576) (w : World) (hA : Arr w A (flat Item.cells xs)) (hB : Arr w B (flat Item.cells ys)) :
    Calls Try.prog 45 #[.agg #[.slice A n c, .int .i64 o, .int .i64 t, .int .i64 p], .agg #[.slice B m d, .int .i64 o', .int .i64 t', .int .i64 p']] w (Ret (.bool (sameB xs ys o t p o' t' p')) w) := by
  go_enter Try.func45, Try.ntmps45
  go_wp2_with fail
  obtain ⟨w2, hw2⟩ : ∃ w2, w2 = (w.alloc (Obj.cells #[Value.slice A n c, Value.int IntKind.i64 o, Value.int IntKind.i64 t, Value.int IntKind.i64 p] 49)).alloc (Obj.cells #[Value.slice B m d, Value.int IntKind.i64 o', Value.int IntKind.i64 t', Value.int IntKind.i64 p'] 49) := ⟨_, rfl⟩
  have hb0 : Below w.heap.size w w2 := by rw [hw2]; exact bl_alloc (bl_alloc (Below.refl _ _) _) _
  have hB0 : Blk w2 w.heap.size 49 #[Value.slice A n c, Value.int IntKind.i64 o, Value.int IntKind.i64 t, Value.int IntKind.i64 p] := by rw [hw2]; exact (Blk.new _ _ _).alloc _
  have hB1 : Blk w2 (w.heap.size + 1) 49 #[Value.slice B m d, Value.int IntKind.i64 o', Value.int IntKind.i64 t', Value.int IntKind.i64 p'] := by
    rw [hw2]; have h := Blk.new (w.alloc (Obj.cells #[Value.slice A n c, Value.int IntKind.i64 o, Value.int IntKind.i64 t, Value.int IntKind.i64 p] 49)) 49 #[Value.slice B m d, Value.int IntKind.i64 o', Value.int IntKind.i64 t', Value.int IntKind.i64 p']; simpa using h
  rw [← hw2]
  clear hw2
  refine (equalSlItem_c A B xs ys n m c d hn hm hz _ (hA.below hb0) (hB.below hb0)).mono ?_
  rintro e w1 ⟨rfl, hb1⟩
  have a0 : w1.cell? ⟨w.heap.size, 0, none⟩ = some (.slice A n c) := (hB0.below hb1).cell 0
  have a1 : w1.cell? ⟨w.heap.size, 1, none⟩ = some (.int .i64 o) := (hB0.below hb1).cell 1
  have a2 : w1.cell? ⟨w.heap.size, 2, none⟩ = some (.int .i64 t) := (hB0.below hb1).cell 2
  have a3 : w1.cell? ⟨w.heap.size, 3, none⟩ = some (.int .i64 p) := (hB0.below hb1).cell 3
  have b0 : w1.cell? ⟨w.heap.size + 1, 0, none⟩ = some (.slice B m d) := (hB1.below hb1).cell 0
  have b1 : w1.cell? ⟨w.heap.size + 1, 1, none⟩ = some (.int .i64 o') := (hB1.below hb1).cell 1
  have b2 : w1.cell? ⟨w.heap.size + 1, 2, none⟩ = some (.int .i64 t') := (hB1.below hb1).cell 2
  have b3 : w1.cell? ⟨w.heap.size + 1, 3, none⟩ = some (.int .i64 p') := (hB1.below hb1).cell 3
  have hw : Below w.heap.size w w1 := bl_trans hb0 hb1
  cases hq : listBeq Item.beq xs ys
  · have HQ := Lib.hid hq
    clear hq
    go_wp2_with fail
    go_returns
    exact Ret.mk (vb (by unfold sameB; rw [HQ.out]; rfl)) hw
  · have HQ := Lib.hid hq
    clear hq
    go_wp2_with fail
    all_goals (go_returns; exact Ret.mk (vb (by unfold sameB; rw [HQ.out]; simp_all <;> rfl)) hw)
set_option maxRecDepth 100000 in
set_option maxHeartbeats 1600000 in
theorem SSameBill_c (A B : Option Addr) (xs ys : List Item) (n m c d : Nat) (o t p o' t' p' : Int) (hn : Hid (xs.length = n)) (hm : Hid (ys.length = m)) (hz : (n : Int) ≤ 1048576) (w : World) (hA : Arr w A (flat Item.cells xs)) (hB : Arr w B (flat Item.cells ys)) :
    Calls Try.prog 44 #[.agg #[.slice A n c, .int .i64 o, .int .i64 t, .int .i64 p], .agg #[.slice B m d, .int .i64 o', .int .i64 t', .int .i64 p']] w (Ret (.bool (sameB xs ys o t p o' t' p')) w) := by
  by_cases hnm : n = m
  case neg =>
    have HQ := Lib.hid (listBeq_len Item.beq xs ys (by rw [hn.out, hm.out]; exact hnm))
    have hne : ((n : Int) != (m : Int)) = true := by rw [bne_iff_ne]; omega
    go_enter Try.func44, Try.ntmps44
    go_wp2_with fail
    go_returns
    exact Ret.mk (vb (by unfold sameB; rw [HQ.out]; rfl)) (bl_alloc (bl_alloc (Below.refl _ _) _) _)
  subst hnm
  by_cases heq : o = o' ∧ t = t' ∧ p = p'
  case neg =>
    have HE := Lib.hid (show sameB xs ys o t p o' t' p' = false by unfold sameB; cases listBeq Item.beq xs ys <;> simp <;> omega)
    have hne : ((n : Int) != (n : Int)) = false := by simp
    go_enter Try.func44, Try.ntmps44
    go_wp2_with fail
    all_goals try (exfalso; omega)
    all_goals (go_returns; exact Ret.mk (vb HE.out.symm) (bl_alloc (bl_alloc (Below.refl _ _) _) _))
  obtain ⟨rfl, rfl, rfl⟩ := heq
  have HS := Lib.hid (show sameB xs ys o t p o t p = listBeq Item.beq xs ys by unfold sameB; simp)
  have hne : ((n : Int) != (n : Int)) = false := by simp
  have f1 : (o != o) = false := by simp
  have f2 : (t != t) = false := by simp
  have f3 : (p != p) = false := by simp
  go_enter Try.func44, Try.ntmps44
  go_wp2_with fail
  obtain ⟨w2, hw2⟩ : ∃ w2, w2 = (w.alloc (Obj.cells #[Value.slice A n c, Value.int IntKind.i64 o, Value.int IntKind.i64 t, Value.int IntKind.i64 p] 49)).alloc (Obj.cells #[Value.slice B n d, Value.int IntKind.i64 o, Value.int IntKind.i64 t, Value.int IntKind.i64 p] 49) := ⟨_, rfl⟩
  obtain ⟨g, hg⟩ : ∃ g, g = w.heap.size := ⟨_, rfl⟩
  obtain ⟨g1, hg1⟩ : ∃ g1, g1 = w.heap.size + 1 := ⟨_, rfl⟩
  have hb0 : Below w.heap.size w w2 := by rw [hw2]; exact bl_alloc (bl_alloc (Below.refl _ _) _) _
  have hB0 : Blk w2 g 49 #[Value.slice A n c, Value.int IntKind.i64 o, Value.int IntKind.i64 t, Value.int IntKind.i64 p] := by rw [hw2, hg]; exact (Blk.new _ _ _).alloc _
  have hB1 : Blk w2 g1 49 #[Value.slice B n d, Value.int IntKind.i64 o, Value.int IntKind.i64 t, Value.int IntKind.i64 p] := by
    rw [hw2, hg1]; have h := Blk.new (w.alloc (Obj.cells #[Value.slice A n c, Value.int IntKind.i64 o, Value.int IntKind.i64 t, Value.int IntKind.i64 p] 49)) 49 #[Value.slice B n d, Value.int IntKind.i64 o, Value.int IntKind.i64 t, Value.int IntKind.i64 p]; simpa using h
  rw [← hw2, ← hg1, ← hg]
  clear hw2 hg hg1
  have hR := Lib.hid (show listBeq Item.beq xs ys = listBeq Item.beq (xs.drop 0) (ys.drop 0) from rfl)
  go_loopw [5] (fun i wr => ∃ k : Nat, k ≤ n ∧ i = .int .i64 k ∧ Hid (listBeq Item.beq xs ys = listBeq Item.beq (xs.drop k) (ys.drop k)) ∧ Below w.heap.size w wr ∧ Blk wr g 49 #[Value.slice A n c, Value.int IntKind.i64 o, Value.int IntKind.i64 t, Value.int IntKind.i64 p] ∧ Blk wr g1 49 #[Value.slice B n d, Value.int IntKind.i64 o, Value.int IntKind.i64 t, Value.int IntKind.i64 p]) (fun i _ => n - (intOf i).toNat)
  case atStart => exact ⟨0, by omega, rfl, hR, hb0, hB0, hB1⟩
  case round =>
    clear hR hb0 hB0 hB1
    obtain ⟨k, hk, rfl, hR, hbel, hB0, hB1⟩ := hrel
    have a0 : wr.cell? ⟨g, 0, none⟩ = some (.slice A n c) := hB0.cell 0
    have b0 : wr.cell? ⟨g1, 0, none⟩ = some (.slice B n d) := hB1.cell 0
    by_cases hlt : k < n
    · obtain ⟨x, hx⟩ := get_of_lt (xs := xs) (k := k) (by rw [hn.out]; exact hlt)
      obtain ⟨y, hy⟩ := get_of_lt (xs := ys) (k := k) (by rw [hm.out]; exact hlt)
      obtain ⟨ad, rfl, hab, c0, c1, c2⟩ := Item.at_ (hA.below hbel) hx
      obtain ⟨bd, rfl, hbb, d0, d1, d2⟩ := Item.at_ (hB.below hbel) hy
      have hR2 := Lib.hid (hR.out.trans (by rw [drop_at hx, drop_at hy]; rfl : _ = (x.beq y && listBeq Item.beq (xs.drop (k + 1)) (ys.drop (k + 1)))))
      clear hR hx hy
      have hq := Item.run_neq x y
      cases hxy : x.beq y
      · have HQ := Lib.hid hxy
        rw [hxy] at hq
        clear hxy
        go_wp2_with fail
        go_quiet (fail)
        go_wp2_with fail
        go_returns
        refine Ret.mk (vb ?_) (below_drewN hbel _)
        rw [HS.out, hR2.out, HQ.out]; rfl
      · have HQ := Lib.hid hxy
        rw [hxy] at hq
        clear hxy
        go_wp2_with fail
        go_quiet (fail)
        go_wp2_with fail
        go_roundw
        case rel => exact ⟨k + 1, by omega, by go_num, Lib.hid (hR2.out.trans (by rw [HQ.out]; rfl)), below_drewN hbel _, Blk.drewN hB0 _, Blk.drewN hB1 _⟩
        case measure => simp [intOf]; omega
    · have hR2 := Lib.hid (hR.out.trans (by rw [List.drop_eq_nil_of_le (by rw [hn.out]; omega), List.drop_eq_nil_of_le (by rw [hm.out]; omega)]; rfl : _ = true))
      clear hR
      go_wp2_with fail
      go_returns
      refine Ret.mk (vb ?_) hbel
      rw [HS.out, hR2.out]
end Go.Proofs.Ytopbiihiogbhiaa
