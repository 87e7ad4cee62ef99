/- The least percentage that makes a bill cheap enough: the program's and the reference's. -/
import Derived.Test.YtnhkdcebldppmaaDoorBillZ
namespace Go.Proofs.YtnhkdcebldppmaaDoor
open Go.RowKit

def offGo (S t cents : Int) : Nat → Int → Int
  | 0, off => off
  | f + 1, off => if totOf S off t ≤ cents then off else offGo S t cents f (off + 1)
def rOff (xs : List Item) (o t p k : Int) : Array Value :=
  if billB xs o t p = true then (if inB k 0 100000000000 = true then #[.int .i64 (offGo (sumGo xs 0) t k 100 0), .int .i64 0] else #[.int .i64 0, .int .i64 2]) else #[.int .i64 0, .int .i64 1]
theorem tot_all {S t : Int} : totOf S 100 t = 0 := by
  have h : netOf S 100 = 0 := by unfold netOf rnd; omega
  unfold totOf taxOf
  rw [h]
  unfold rnd
  omega
set_option maxRecDepth 100000 in
set_option maxHeartbeats 1600000 in
theorem OffFor_c (A : Option Addr) (xs : List Item) (n c : Nat) (o t p : Int) (hn : Hid (xs.length = n)) (k : Int) (hm : (n : Int) ≤ 1048576) (hs : Hid (∀ x ∈ xs, x.name.size ≤ 9223372036854775807)) (w : World) (hA : Arr w A (flat Item.cells xs)) : Calls Tryd.prog 11 #[.agg #[.slice A n c, .int .i64 o, .int .i64 t, .int .i64 p], .int .i64 k] w (RetT (rOff xs o t p k) w) := by
  go_enter Tryd.func11, Tryd.ntmps11
  go_wp2_with fail
  obtain ⟨w0, hw0⟩ : ∃ w0, w0 = w.alloc (Obj.cells #[Value.slice A n c, Value.int IntKind.i64 o, Value.int IntKind.i64 t, Value.int IntKind.i64 p] 26) := ⟨_, rfl⟩
  obtain ⟨g, hg⟩ : ∃ g, g = w.heap.size := ⟨_, rfl⟩
  have hv : Below w.heap.size w w0 := by rw [hw0]; exact bl_alloc (Below.refl _ _) _
  have hB : Blk w0 g 26 #[Value.slice A n c, Value.int IntKind.i64 o, Value.int IntKind.i64 t, Value.int IntKind.i64 p] := by rw [hw0, hg]; exact Blk.new _ _ _
  rw [← hw0, ← hg]
  clear hw0
  have HG := Lib.hid hg
  clear hg
  have k0 : w0.cell? ⟨g, 0, none⟩ = some (.slice A n c) := hB.cell 0
  have k1 : w0.cell? ⟨g, 1, none⟩ = some (.int .i64 o) := hB.cell 1
  have k2 : w0.cell? ⟨g, 2, none⟩ = some (.int .i64 t) := hB.cell 2
  have k3 : w0.cell? ⟨g, 3, none⟩ = some (.int .i64 p) := hB.cell 3
  refine (billCode_c A xs n c o t p hn k 0 100000000000 hm hs _ (hA.below hv)).mono ?_
  rintro e W ⟨rfl, hb⟩
  replace hv := bl_trans hv hb
  replace hB := hB.below hb
  have k0 : W.cell? ⟨g, 0, none⟩ = some (.slice A n c) := hB.cell 0
  have k1 : W.cell? ⟨g, 1, none⟩ = some (.int .i64 o) := hB.cell 1
  have k2 : W.cell? ⟨g, 2, none⟩ = some (.int .i64 t) := hB.cell 2
  have k3 : W.cell? ⟨g, 3, none⟩ = some (.int .i64 p) := hB.cell 3
  rcases bill_cases xs o t p with HB | ⟨HB, hx, ho0, ho1, ht0, ht1, hp0, hp1, hs0, hs1, hT0, hT1⟩
  · rw [show bCode xs o t p k 0 100000000000 = 1 from by rw [bCode, HB.out]; rfl]
    go_wp2_with fail
    go_returns
    exact RetT.mk (by rw [rOff, HB.out]; rfl) hv
  · cases h1 : inB k 0 100000000000
    · rw [show bCode xs o t p k 0 100000000000 = 2 from by rw [bCode, HB.out, h1]; rfl]
      have H1 := Lib.hid h1
      clear h1
      go_wp2_with fail
      go_returns
      exact RetT.mk (by rw [rOff, HB.out, H1.out]; rfl) hv
    · rw [show bCode xs o t p k 0 100000000000 = 0 from by rw [bCode, HB.out, h1]; rfl]
      have H1 := Lib.hid h1
      obtain ⟨hk0, hk1⟩ := inB_iff.1 h1
      clear h1
      go_wp2_with fail
      have hR := Lib.hid (show offGo (sumGo xs 0) t k 100 0 = offGo (sumGo xs 0) t k (100 - 0) ((0 : Nat) : Int) from rfl)
      go_loopw [7] (fun i wr => ∃ j : Nat, j ≤ 100 ∧ i = .int .i64 j ∧ Hid (offGo (sumGo xs 0) t k 100 0 = offGo (sumGo xs 0) t k (100 - j) j) ∧ Below w.heap.size w wr ∧ Blk wr g 26 #[Value.slice A n c, Value.int IntKind.i64 o, Value.int IntKind.i64 t, Value.int IntKind.i64 p]) (fun i _ => 100 - (intOf i).toNat)
      case atStart => exact ⟨0, by omega, rfl, hR, hv, hB⟩
      case round =>
        clear hR hv hB
        obtain ⟨j, hj, rfl, hR, hv, hB⟩ := hrel
        have k0 : wr.cell? ⟨g, 0, none⟩ = some (.slice A n c) := hB.cell 0
        have k1 : wr.cell? ⟨g, 1, none⟩ = some (.int .i64 o) := hB.cell 1
        have k2 : wr.cell? ⟨g, 2, none⟩ = some (.int .i64 t) := hB.cell 2
        have k3 : wr.cell? ⟨g, 3, none⟩ = some (.int .i64 p) := hB.cell 3
        by_cases hlt : j < 100
        · have hR2 := Lib.hid (hR.out.trans (by rw [show 100 - j = (100 - (j + 1)) + 1 from by omega]; rfl : _ = if totOf (sumGo xs 0) j t ≤ k then (j : Int) else offGo (sumGo xs 0) t k (100 - (j + 1)) (j + 1)))
          clear hR
          go_wp2_with fail
          refine (total_c A xs n c o t p j _ hn hx (Lib.hid rfl) (by omega) (by omega) ht0 ht1 _ (hA.below hv)).mono ?_
          rintro e W ⟨rfl, hb⟩
          by_cases hle : totOf (sumGo xs 0) j t ≤ k
          · have hR3 := Lib.hid (hR2.out.trans (if_pos hle))
            clear hR2
            go_wp2_with fail
            go_returns
            exact RetT.mk (by rw [rOff, HB.out, H1.out, if_pos rfl, if_pos rfl, hR3.out]; rfl) (bl_trans hv hb)
          · have hR3 := Lib.hid (hR2.out.trans (if_neg hle))
            clear hR2
            go_wp2_with fail
            exact ⟨⟨j + 1, by omega, by go_num, hR3, bl_trans hv hb, hB.below hb⟩, by simp [intOf]; omega⟩
        · have hj1 : j = 100 := by omega
          subst hj1
          have hR2 := Lib.hid (hR.out.trans (rfl : _ = ((100 : Nat) : Int)))
          clear hR
          go_wp2_with fail
          go_returns
          exact RetT.mk (by rw [rOff, HB.out, H1.out, if_pos rfl, if_pos rfl, hR2.out]; rfl) hv

set_option maxRecDepth 100000 in
set_option maxHeartbeats 1600000 in
theorem SOffFor_c (A : Option Addr) (xs : List Item) (n c : Nat) (o t p : Int) (hn : Hid (xs.length = n)) (k : Int) (hm : (n : Int) ≤ 1048576) (hs : Hid (∀ x ∈ xs, x.name.size ≤ 9223372036854775807)) (w : World) (hA : Arr w A (flat Item.cells xs)) : Calls Tryd.prog 12 #[.agg #[.slice A n c, .int .i64 o, .int .i64 t, .int .i64 p], .int .i64 k] w (RetT (rOff xs o t p k) w) := by
  go_enter Tryd.func12, Tryd.ntmps12
  go_wp2_with fail
  obtain ⟨w0, hw0⟩ : ∃ w0, w0 = w.alloc (Obj.cells #[Value.slice A n c, Value.int IntKind.i64 o, Value.int IntKind.i64 t, Value.int IntKind.i64 p] 26) := ⟨_, rfl⟩
  obtain ⟨g, hg⟩ : ∃ g, g = w.heap.size := ⟨_, rfl⟩
  have hv : Below w.heap.size w w0 := by rw [hw0]; exact bl_alloc (Below.refl _ _) _
  have hB : Blk w0 g 26 #[Value.slice A n c, Value.int IntKind.i64 o, Value.int IntKind.i64 t, Value.int IntKind.i64 p] := by rw [hw0, hg]; exact Blk.new _ _ _
  rw [← hw0, ← hg]
  clear hw0
  have HG := Lib.hid hg
  clear hg
  have k0 : w0.cell? ⟨g, 0, none⟩ = some (.slice A n c) := hB.cell 0
  have k1 : w0.cell? ⟨g, 1, none⟩ = some (.int .i64 o) := hB.cell 1
  have k2 : w0.cell? ⟨g, 2, none⟩ = some (.int .i64 t) := hB.cell 2
  have k3 : w0.cell? ⟨g, 3, none⟩ = some (.int .i64 p) := hB.cell 3
  refine (l26Ok_c g A xs n c o t p hn hm hs _ hB (hA.below hv)).mono ?_
  rintro e W ⟨rfl, hb⟩
  replace hv := bl_trans hv hb
  replace hB := hB.below hb
  have k0 : W.cell? ⟨g, 0, none⟩ = some (.slice A n c) := hB.cell 0
  have k1 : W.cell? ⟨g, 1, none⟩ = some (.int .i64 o) := hB.cell 1
  have k2 : W.cell? ⟨g, 2, none⟩ = some (.int .i64 t) := hB.cell 2
  have k3 : W.cell? ⟨g, 3, none⟩ = some (.int .i64 p) := hB.cell 3
  rcases bill_cases xs o t p with HB | ⟨HB, hx, ho0, ho1, ht0, ht1, hp0, hp1, hs0, hs1, hT0, hT1⟩
  · rw [HB.out]
    go_wp2_with fail
    go_returns
    exact RetT.mk (by rw [rOff, HB.out]; rfl) hv
  · rw [HB.out]
    cases h1 : inB k 0 100000000000
    · go_wp2_with (first | (go_at_call 47; refine (l00In_c _ _ _ _).mono ?_; rintro e w' ⟨rfl, rfl⟩) | (go_at_call 46; refine (l26Percent_c _ _).mono ?_; rintro e w' ⟨rfl, rfl⟩) | (go_at_call 51; refine (l26Money_c _ _).mono ?_; rintro e w' ⟨rfl, rfl⟩) | (go_at_call 52; refine (l00Max_c _ _ _).mono ?_; rintro e w' ⟨rfl, rfl⟩) | (go_at_call 49; refine (l00Min_c _ _ _).mono ?_; rintro e w' ⟨rfl, rfl⟩))
      go_returns
      exact RetT.mk (by rw [rOff, HB.out, h1]; rfl) hv
    · have H1 := Lib.hid h1
      obtain ⟨hk0, hk1⟩ := inB_iff.1 h1
      go_wp2_with (first | (go_at_call 47; refine (l00In_c _ _ _ _).mono ?_; rintro e w' ⟨rfl, rfl⟩) | (go_at_call 46; refine (l26Percent_c _ _).mono ?_; rintro e w' ⟨rfl, rfl⟩) | (go_at_call 51; refine (l26Money_c _ _).mono ?_; rintro e w' ⟨rfl, rfl⟩) | (go_at_call 52; refine (l00Max_c _ _ _).mono ?_; rintro e w' ⟨rfl, rfl⟩) | (go_at_call 49; refine (l00Min_c _ _ _).mono ?_; rintro e w' ⟨rfl, rfl⟩))
      clear h1
      have hR := Lib.hid (show offGo (sumGo xs 0) t k 100 0 = offGo (sumGo xs 0) t k (100 - 0) ((0 : Nat) : Int) from rfl)
      go_loopw [6] (fun i wr => ∃ j : Nat, j ≤ 100 ∧ i = .int .i64 j ∧ Hid (offGo (sumGo xs 0) t k 100 0 = offGo (sumGo xs 0) t k (100 - j) j) ∧ Below w.heap.size w wr ∧ Blk wr g 26 #[Value.slice A n c, Value.int IntKind.i64 o, Value.int IntKind.i64 t, Value.int IntKind.i64 p]) (fun i _ => 101 - (intOf i).toNat)
      case atStart => exact ⟨0, by omega, rfl, hR, hv, hB⟩
      case round =>
        clear hR hv hB
        obtain ⟨j, hj, rfl, hR, hv, hB⟩ := hrel
        have k0 : wr.cell? ⟨g, 0, none⟩ = some (.slice A n c) := hB.cell 0
        have k1 : wr.cell? ⟨g, 1, none⟩ = some (.int .i64 o) := hB.cell 1
        have k2 : wr.cell? ⟨g, 2, none⟩ = some (.int .i64 t) := hB.cell 2
        have k3 : wr.cell? ⟨g, 3, none⟩ = some (.int .i64 p) := hB.cell 3
        go_wp2_with fail
        obtain ⟨W1, hW1⟩ : ∃ W1, W1 = wr.alloc (Obj.cells #[Value.slice A n c, Value.int IntKind.i64 j, Value.int IntKind.i64 t, Value.int IntKind.i64 p] 26) := ⟨_, rfl⟩
        have hb1 : Below wr.heap.size wr W1 := by rw [hW1]; exact bl_alloc (Below.refl _ _) _
        have hB1 : Blk W1 wr.heap.size 26 #[Value.slice A n c, Value.int IntKind.i64 j, Value.int IntKind.i64 t, Value.int IntKind.i64 p] := by rw [hW1]; exact Blk.new _ _ _
        rw [← hW1]
        clear hW1
        refine (l26Total_c wr.heap.size A xs n c j t p hn _ hx (Lib.hid rfl) (by omega) (by omega) ht0 ht1 _ hB1 (hA.below (bl_trans hv hb1))).mono ?_
        rintro e W ⟨rfl, hb⟩
        by_cases hle : totOf (sumGo xs 0) j t ≤ k
        · have hR3 : offGo (sumGo xs 0) t k (100 - j) j = j := by
            by_cases hj1 : j = 100
            · subst hj1; rfl
            · rw [show 100 - j = (100 - (j + 1)) + 1 from by omega, offGo, if_pos hle]
          have HR := Lib.hid (hR.out.trans hR3)
          clear hR3
          go_wp2_with fail
          go_returns
          exact RetT.mk (by rw [rOff, HB.out, H1.out, if_pos rfl, if_pos rfl, HR.out]; rfl) (bl_trans hv (bl_trans hb1 hb))
        · have hj1 : j ≠ 100 := by
            intro e
            subst e
            rw [show ((100 : Nat) : Int) = 100 from rfl, tot_all] at hle
            omega
          have HR := Lib.hid (hR.out.trans (show offGo (sumGo xs 0) t k (100 - j) j = offGo (sumGo xs 0) t k (100 - (j + 1)) (j + 1) by rw [show 100 - j = (100 - (j + 1)) + 1 from by omega, offGo, if_neg hle]))
          go_wp2_with fail
          exact ⟨⟨j + 1, by omega, by go_num, HR, bl_trans hv (bl_trans hb1 hb), (hB.below hb1).below hb⟩, by simp [intOf]; omega⟩
end Go.Proofs.YtnhkdcebldppmaaDoor
