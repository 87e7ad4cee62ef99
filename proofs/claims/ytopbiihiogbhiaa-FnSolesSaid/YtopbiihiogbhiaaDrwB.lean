/- Drawn materials, bent: the list that is seldom not valid. NOT DONE. -/
import Derived.Test.YtopbiihiogbhiaaDrwP
import Derived.Test.YtopbiihiogbhiaaOwn
namespace Go.Proofs.Ytopbiihiogbhiaa
open Go.RowKit

def OutBent (g q : Nat) (w : World) (e : Ending) (w' : World) : Prop := ∃ (A : Option Addr) (xs : List Stuff) (n c : Nat), e = .returned (.slice A n c) ∧ xs.length = n ∧ n ≤ 13 ∧ (∀ x ∈ xs, x.name.size ≤ 100) ∧ w'.ownsRow (w.heap.size + 1) 46 5 (.slice A n c) n (flat Stuff.cells xs) ∧ Src w' g (q + 200) ∧ w.grownBy w' (some g)
set_option maxRecDepth 100000 in
set_option maxHeartbeats 2000000 in
theorem l17Bent_c (g q : Nat) (hq : q ≤ 600000000000) (w : World) (hS : Src w g q) : Calls Try.prog 93 #[.pointer (some ⟨g, 0, none⟩)] w (OutBent g q w) := by
  have hcv := run_byte1 (P := Try.prog) 22 9 5 Try.underlying22 Try.underlying5 Try.underlying9
  have HS := Lib.hid hS
  have hgw := hS.lt
  clear hS
  obtain ⟨i0, hi0, hz0, hz1, hz2⟩ := info_parts (P := Try.prog) (e := 46) (z := .agg #[.string ByteArray.empty, .int .i64 0, .int .i64 0, .int .i64 0, .int .i64 0]) (size := 5) (bytes := 48) info_Stuff
  go_enter Try.func93, Try.ntmps93
  go_wp2_with fail
  refine (l17Draw_c g q (by omega) _ HS.out).mono ?_
  rintro e W1 ⟨A, xs, n, c, rfl, hxl, hn5, hxs, hown, hgW, hS1, hg1⟩
  have HS1 := Lib.hid hS1
  have HG1 := Lib.hid hg1
  have HXL := Lib.hid hxl
  have HXS := Lib.hid hxs
  have HOWN := Lib.hid hown
  clear hS1 hg1 hxl hxs hown
  go_wp2_with fail
  refine (one_c g (q + 42) 24 (by omega) (by omega) _ HS1.out).mono ?_
  rintro e W2 ⟨b, rfl, hS2, hg2⟩
  have HS2 := Lib.hid hS2
  have HG2 := Lib.hid (grown_trans HG1.out hg2)
  have HOWN2 := Lib.hid (HOWN.out.kept hg2 (.inr (fun e => by have := own_at HOWN.out g e; omega)))
  have hgW2 := Nat.le_trans hgW hg2.size
  clear hS2 hg2
  cases b
  · obtain ⟨q2, hq2⟩ : ∃ q2, q2 = q + 44 := ⟨_, rfl⟩
    rw [← hq2] at HS2
    replace HXS := Lib.hid (fun y hy => (HXS.out y hy).2)
    by_cases hn0 : n = 0
    · subst hn0
      go_wp2_with fail
      go_returns
      exact ⟨A, xs, 0, c, rfl, HXL.out, by omega, HXS.out, HOWN2.out, HS2.out.more (by omega), HG2.out⟩
    · have hn1 : ¬ (n : Int) = 0 := by omega
      go_wp2_with fail
      refine (pick_c g q2 (n : Int) (by omega) (by omega) _ HS2.out).mono ?_
      rintro e W3 ⟨r3, rfl, r30, r31, hS3, hg3⟩
      obtain ⟨k, rfl⟩ := Int.eq_ofNat_of_zero_le r30
      have hkn : k < n := by omega
      have HS3 := Lib.hid hS3
      have HG3 := Lib.hid (grown_trans HG2.out hg3)
      have HOWN3 := Lib.hid (HOWN2.out.kept hg3 (.inr (fun e => by have := own_at HOWN2.out g e; omega)))
      have hgW3 := Nat.le_trans hgW2 hg3.size
      have hkn1 : (k : Int) < (n : Int) := by omega
      have hkn0 : (0 : Int) ≤ (k : Int) := by omega
      clear hS3 hg3 r31
      obtain ⟨gO, rfl⟩ := own_addr HOWN3.out (by omega)
      obtain ⟨x, hx⟩ := get_of_lt (xs := xs) (k := k) (by rw [HXL.out]; exact hkn)
      have HX := Lib.hid hx
      clear hx
      go_wp2_with fail
      refine (pick_c g (q2 + 2) 24 (by omega) (by omega) _ HS3.out).mono ?_
      rintro e W4 ⟨r4, rfl, r40, r41, hS4, hg4⟩
      have HS4 := Lib.hid hS4
      have HG4 := Lib.hid (grown_trans HG3.out hg4)
      have HOWN4 := Lib.hid (HOWN3.out.kept hg4 (.inr (fun e => by have := own_at HOWN3.out g e; omega)))
      have hgW4 := Nat.le_trans hgW3 hg4.size
      clear hS4 hg4
      go_wp2_with fail
      · have hA := arr_new W4 9 #[.string ⟨#[]⟩, .string ⟨#[67, 111, 114, 107]⟩, .string ⟨#[99, 111, 114, 107]⟩]
        refine (text_c g (q2 + 4) _ [⟨#[]⟩, ⟨#[67, 111, 114, 107]⟩, ⟨#[99, 111, 114, 107]⟩] 3 3 (Lib.hid rfl) (by omega) (by omega) (by omega) _ (HS4.out.below (bl_alloc (Below.refl _ _) _)) hA (fun ad e => by injection e with e; subst e; simp only; omega)).mono ?_
        rintro e W5 ⟨v, hv, rfl, hS5, hg5⟩
        have HV := Lib.hid hv
        have hO5 := (HOWN4.out.alloc (.cells #[.string ⟨#[]⟩, .string ⟨#[67, 111, 114, 107]⟩, .string ⟨#[99, 111, 114, 107]⟩] 9)).kept hg5 (.inr (fun e => by have := own_at HOWN4.out g e; omega))
        have hgO := own_at HOWN4.out gO (by simp [Value.ownBlock])
        have hlen := hO5.1
        obtain ⟨u', d1⟩ := own_cell hO5 (j := k * 5) (by omega)
        have fz := hO5.frozenAt (k * 5)
        have HS6 := Lib.hid (hS5.far (p := ⟨gO, k * 5, none⟩) (by simp only; omega) (.string v))
        have HO6 := Lib.hid (hO5.stored (k * 5) (.string v)).1
        have HG6 := Lib.hid (grown_setCell (p := ⟨gO, k * 5, none⟩) (grown_trans (grown_alloc HG4.out (.cells #[.string ⟨#[]⟩, .string ⟨#[67, 111, 114, 107]⟩, .string ⟨#[99, 111, 114, 107]⟩] 9)) hg5) (.inr (by simp only; omega)) (.string v))
        clear hA hS5 hg5 hO5 hlen hv
        go_wp2_with fail
        go_returns
        refine ⟨_, xs.set k { x with name := v }, n, c, rfl, by rw [List.length_set]; exact HXL.out, by omega, ?_, ?_, HS6.out.more (by omega), HG6.out⟩
        · intro y hy
          rcases List.mem_or_eq_of_mem_set hy with hy | hy
          · exact HXS.out y hy
          · subst hy
            have hv := HV.out
            simp only [List.mem_cons, List.not_mem_nil, or_false] at hv
            rcases hv with rfl | rfl | rfl <;> (dsimp only; decide)
        · rw [← flat_set_at Stuff.cells 5 Stuff.cells_length 0 (by omega) (.string v) x { x with name := v } rfl xs k HX.out]
          exact HO6.out
      · have hA := arr_new W4 2 #[.int .i64 0, .int .i64 1, .int .i64 200, .int .i64 201, .int .i64 (-9223372036854775808)]
        refine (among_c g (q2 + 4) _ [0, 1, 200, 201, -9223372036854775808] 5 5 (Lib.hid rfl) (by omega) (by omega) (by omega) _ (HS4.out.below (bl_alloc (Below.refl _ _) _)) hA (fun ad e => by injection e with e; subst e; simp only; omega)).mono ?_
        rintro e W5 ⟨v, hv, rfl, hS5, hg5⟩
        have HV := Lib.hid hv
        have hO5 := (HOWN4.out.alloc (.cells #[.int .i64 0, .int .i64 1, .int .i64 200, .int .i64 201, .int .i64 (-9223372036854775808)] 2)).kept hg5 (.inr (fun e => by have := own_at HOWN4.out g e; omega))
        have hgO := own_at HOWN4.out gO (by simp [Value.ownBlock])
        have hlen := hO5.1
        obtain ⟨u', d1⟩ := own_cell hO5 (j := k * 5 + 1) (by omega)
        have fz := hO5.frozenAt (k * 5 + 1)
        have HS6 := Lib.hid (hS5.far (p := ⟨gO, k * 5 + 1, none⟩) (by simp only; omega) (.int .i64 v))
        have HO6 := Lib.hid (hO5.stored (k * 5 + 1) (.int .i64 v)).1
        have HG6 := Lib.hid (grown_setCell (p := ⟨gO, k * 5 + 1, none⟩) (grown_trans (grown_alloc HG4.out (.cells #[.int .i64 0, .int .i64 1, .int .i64 200, .int .i64 201, .int .i64 (-9223372036854775808)] 2)) hg5) (.inr (by simp only; omega)) (.int .i64 v))
        clear hA hS5 hg5 hO5 hlen hv
        go_wp2_with fail
        go_returns
        refine ⟨_, xs.set k { x with thick := v }, n, c, rfl, by rw [List.length_set]; exact HXL.out, by omega, ?_, ?_, HS6.out.more (by omega), HG6.out⟩
        · intro y hy
          rcases List.mem_or_eq_of_mem_set hy with hy | hy
          · exact HXS.out y hy
          · subst hy
            exact HXS.out x (List.mem_of_getElem? HX.out)
        · rw [← flat_set_at Stuff.cells 5 Stuff.cells_length 1 (by omega) (.int .i64 v) x { x with thick := v } rfl xs k HX.out]
          exact HO6.out
      · have hA := arr_new W4 2 #[.int .i64 0, .int .i64 1, .int .i64 1000, .int .i64 1001]
        refine (among_c g (q2 + 4) _ [0, 1, 1000, 1001] 4 4 (Lib.hid rfl) (by omega) (by omega) (by omega) _ (HS4.out.below (bl_alloc (Below.refl _ _) _)) hA (fun ad e => by injection e with e; subst e; simp only; omega)).mono ?_
        rintro e W5 ⟨v, hv, rfl, hS5, hg5⟩
        have HV := Lib.hid hv
        have hO5 := (HOWN4.out.alloc (.cells #[.int .i64 0, .int .i64 1, .int .i64 1000, .int .i64 1001] 2)).kept hg5 (.inr (fun e => by have := own_at HOWN4.out g e; omega))
        have hgO := own_at HOWN4.out gO (by simp [Value.ownBlock])
        have hlen := hO5.1
        obtain ⟨u', d1⟩ := own_cell hO5 (j := k * 5 + 2) (by omega)
        have fz := hO5.frozenAt (k * 5 + 2)
        have HS6 := Lib.hid (hS5.far (p := ⟨gO, k * 5 + 2, none⟩) (by simp only; omega) (.int .i64 v))
        have HO6 := Lib.hid (hO5.stored (k * 5 + 2) (.int .i64 v)).1
        have HG6 := Lib.hid (grown_setCell (p := ⟨gO, k * 5 + 2, none⟩) (grown_trans (grown_alloc HG4.out (.cells #[.int .i64 0, .int .i64 1, .int .i64 1000, .int .i64 1001] 2)) hg5) (.inr (by simp only; omega)) (.int .i64 v))
        clear hA hS5 hg5 hO5 hlen hv
        go_wp2_with fail
        go_returns
        refine ⟨_, xs.set k { x with gram := v }, n, c, rfl, by rw [List.length_set]; exact HXL.out, by omega, ?_, ?_, HS6.out.more (by omega), HG6.out⟩
        · intro y hy
          rcases List.mem_or_eq_of_mem_set hy with hy | hy
          · exact HXS.out y hy
          · subst hy
            exact HXS.out x (List.mem_of_getElem? HX.out)
        · rw [← flat_set_at Stuff.cells 5 Stuff.cells_length 2 (by omega) (.int .i64 v) x { x with gram := v } rfl xs k HX.out]
          exact HO6.out
      · have hA := arr_new W4 2 #[.int .i64 (-1), .int .i64 0, .int .i64 1000, .int .i64 1001]
        refine (among_c g (q2 + 4) _ [-1, 0, 1000, 1001] 4 4 (Lib.hid rfl) (by omega) (by omega) (by omega) _ (HS4.out.below (bl_alloc (Below.refl _ _) _)) hA (fun ad e => by injection e with e; subst e; simp only; omega)).mono ?_
        rintro e W5 ⟨v, hv, rfl, hS5, hg5⟩
        have HV := Lib.hid hv
        have hO5 := (HOWN4.out.alloc (.cells #[.int .i64 (-1), .int .i64 0, .int .i64 1000, .int .i64 1001] 2)).kept hg5 (.inr (fun e => by have := own_at HOWN4.out g e; omega))
        have hgO := own_at HOWN4.out gO (by simp [Value.ownBlock])
        have hlen := hO5.1
        obtain ⟨u', d1⟩ := own_cell hO5 (j := k * 5 + 3) (by omega)
        have fz := hO5.frozenAt (k * 5 + 3)
        have HS6 := Lib.hid (hS5.far (p := ⟨gO, k * 5 + 3, none⟩) (by simp only; omega) (.int .i64 v))
        have HO6 := Lib.hid (hO5.stored (k * 5 + 3) (.int .i64 v)).1
        have HG6 := Lib.hid (grown_setCell (p := ⟨gO, k * 5 + 3, none⟩) (grown_trans (grown_alloc HG4.out (.cells #[.int .i64 (-1), .int .i64 0, .int .i64 1000, .int .i64 1001] 2)) hg5) (.inr (by simp only; omega)) (.int .i64 v))
        clear hA hS5 hg5 hO5 hlen hv
        go_wp2_with fail
        go_returns
        refine ⟨_, xs.set k { x with stiff := v }, n, c, rfl, by rw [List.length_set]; exact HXL.out, by omega, ?_, ?_, HS6.out.more (by omega), HG6.out⟩
        · intro y hy
          rcases List.mem_or_eq_of_mem_set hy with hy | hy
          · exact HXS.out y hy
          · subst hy
            exact HXS.out x (List.mem_of_getElem? HX.out)
        · rw [← flat_set_at Stuff.cells 5 Stuff.cells_length 3 (by omega) (.int .i64 v) x { x with stiff := v } rfl xs k HX.out]
          exact HO6.out
      · have hA := arr_new W4 2 #[.int .i64 (-1), .int .i64 0, .int .i64 10000, .int .i64 10001]
        refine (among_c g (q2 + 4) _ [-1, 0, 10000, 10001] 4 4 (Lib.hid rfl) (by omega) (by omega) (by omega) _ (HS4.out.below (bl_alloc (Below.refl _ _) _)) hA (fun ad e => by injection e with e; subst e; simp only; omega)).mono ?_
        rintro e W5 ⟨v, hv, rfl, hS5, hg5⟩
        have HV := Lib.hid hv
        have hO5 := (HOWN4.out.alloc (.cells #[.int .i64 (-1), .int .i64 0, .int .i64 10000, .int .i64 10001] 2)).kept hg5 (.inr (fun e => by have := own_at HOWN4.out g e; omega))
        have hgO := own_at HOWN4.out gO (by simp [Value.ownBlock])
        have hlen := hO5.1
        obtain ⟨u', d1⟩ := own_cell hO5 (j := k * 5 + 4) (by omega)
        have fz := hO5.frozenAt (k * 5 + 4)
        have HS6 := Lib.hid (hS5.far (p := ⟨gO, k * 5 + 4, none⟩) (by simp only; omega) (.int .i64 v))
        have HO6 := Lib.hid (hO5.stored (k * 5 + 4) (.int .i64 v)).1
        have HG6 := Lib.hid (grown_setCell (p := ⟨gO, k * 5 + 4, none⟩) (grown_trans (grown_alloc HG4.out (.cells #[.int .i64 (-1), .int .i64 0, .int .i64 10000, .int .i64 10001] 2)) hg5) (.inr (by simp only; omega)) (.int .i64 v))
        clear hA hS5 hg5 hO5 hlen hv
        go_wp2_with fail
        go_returns
        refine ⟨_, xs.set k { x with price := v }, n, c, rfl, by rw [List.length_set]; exact HXL.out, by omega, ?_, ?_, HS6.out.more (by omega), HG6.out⟩
        · intro y hy
          rcases List.mem_or_eq_of_mem_set hy with hy | hy
          · exact HXS.out y hy
          · subst hy
            exact HXS.out x (List.mem_of_getElem? HX.out)
        · rw [← flat_set_at Stuff.cells 5 Stuff.cells_length 4 (by omega) (.int .i64 v) x { x with price := v } rfl xs k HX.out]
          exact HO6.out
      · go_returns
        exact ⟨_, xs, n, c, rfl, HXL.out, by omega, fun y hy => HXS.out y hy, HOWN4.out, HS4.out.more (by omega), HG4.out⟩
  · go_wp2_with fail
    have hO0 := own_empty W2 (w.heap.size + 1) 46 5 (by omega)
    refine (pick_c g (q + 44) 2 (by omega) (by omega) _ (HS2.out.below (bl_alloc (Below.refl _ _) _))).mono ?_
    rintro e W3 ⟨r, rfl, r0, r1, hS3, hg3⟩
    obtain ⟨kk, rfl⟩ := Int.eq_ofNat_of_zero_le r0
    have HS3 := Lib.hid hS3
    have HO3 := Lib.hid (hO0.kept hg3 (.inr (fun e => by have := own_at hO0 g e; omega)))
    have HG3 := Lib.hid (grown_trans (grown_alloc HG2.out (.cells #[] 46)) hg3)
    have hs3 : w.heap.size + 1 ≤ W3.heap.size := by have := hg3.size; rw [World.size_alloc] at this; omega
    clear hS3 hO0 hg3
    go_wp2_with fail
    go_loopw [3, 4] (fun v i wr => ∃ (j kv : Nat) (ys : List Stuff) (A' : Option Addr) (c' : Nat), v = .slice A' j c' ∧ i = .int .i64 kv ∧ j + kv ≤ 13 ∧ w.heap.size + 1 ≤ wr.heap.size ∧ Hid (ys.length = j) ∧ Hid (∀ x ∈ ys, x.name.size ≤ 100) ∧ wr.ownsRow (w.heap.size + 1) 46 5 (.slice A' j c') j (flat Stuff.cells ys) ∧ Hid (Src wr g (q + 46 + 8 * j)) ∧ Hid (w.grownBy wr (some g))) (fun _ i _ => (intOf i).toNat)
    case atStart => exact ⟨0, 12 + kk, [], _, _, rfl, by simp, by omega, hs3, Lib.hid rfl, Lib.hid (by simp), HO3.out, HS3, HG3⟩
    case round =>
      clear HS3 HO3 HG3
      obtain ⟨j, kv, ys, A', c', rfl, rfl, hjk, hsz, hyl, hys, hown, hS, hg⟩ := hrel
      by_cases hk : 0 < kv
      · have hk0 : (0 : Int) < (kv : Int) := by omega
        go_wp2_with fail
        refine (l17New_c g (q + 46 + 8 * j) _ (by omega) _ (hS.out.below (bl_alloc (Below.refl _ _) _))).mono ?_
        rintro e W ⟨x, rfl, hxn, hxd, hS4, hg4⟩
        have hgo := hg.out.size
        have hown1 := (hown.alloc (.cells #[.int .u8 (97 + (j : Int))] 5)).kept hg4 (.inr (fun e => by have := own_at hown g e; omega))
        have HG4 := Lib.hid (grown_trans (grown_alloc hg.out _) hg4)
        have hsW : w.heap.size + 1 ≤ W.heap.size := by have := hg4.size; rw [World.size_alloc] at this; omega
        have HXN := Lib.hid hxn
        have HS4 := Lib.hid hS4
        have HOW := Lib.hid hown1
        have hX := (Blk.new W 46 #[.string x.name, .int .i64 x.thick, .int .i64 x.gram, .int .i64 x.stiff, .int .i64 x.price])
        have hX2 := hX.set_ 1 (.int .i64 (100 + (j : Int)))
        have c0 := hX2.cell 0
        have c1 := hX2.cell 1
        have c2 := hX2.cell 2
        have c3 := hX2.cell 3
        have c4 := hX2.cell 4
        have d1 := hX.cell 1
        have f1 := hX.frozen 1
        clear hxn hxd hS4 hg4 hown1 hX hX2
        have HOV : (W.alloc (.cells #[.string x.name, .int .i64 (100 + (j : Int)), .int .i64 x.gram, .int .i64 x.stiff, .int .i64 x.price] 46)).ownsRow (w.heap.size + 1) 46 5 (.slice A' j c') j (flat Stuff.cells ys) := HOW.out.alloc _
        have hsV : w.heap.size + 1 ≤ (W.alloc (.cells #[.string x.name, .int .i64 (100 + (j : Int)), .int .i64 x.gram, .int .i64 x.stiff, .int .i64 x.price] 46)).heap.size := by rw [World.size_alloc]; omega
        unfold Stuff.val
        go_wp2_with (at_builtin; refine app_ownX (W.alloc (.cells #[.string x.name, .int .i64 (100 + (j : Int)), .int .i64 x.gram, .int .i64 x.stiff, .int .i64 x.price] 46)) #[.string x.name, .int .i64 (100 + (j : Int)), .int .i64 x.gram, .int .i64 x.stiff, .int .i64 x.price] rfl _ _ 24 46 rfl i0 _ 5 48 Try.underlying24 hi0 hz0 hz1 hz2 rfl (by omega) (w.heap.size + 1) (.slice A' j c') j _ rfl (W.heap.size + 1) (by rw [World.size_alloc]) rfl HOV rfl (by simp [Value.oneCell']) (by unfold maxLen; omega) (by omega) hsV ?_; intro A2 c2 w2 hown2 hg3)
        have hr : ∀ i, (Value.slice A' j c').ownBlock = some i → w.heap.size + 1 ≤ i := own_at HOV
        refine ⟨⟨j + 1, kv - 1, ys ++ [{ x with thick := 100 + (j : Int) }], A2, c2, rfl, vi (by omega), by omega, Nat.le_trans hsV hg3.size, Lib.hid (by rw [List.length_append, hyl.out]; rfl), Lib.hid ?_, ?_, Lib.hid ?_, Lib.hid ?_⟩, by simp [intOf]; omega⟩
        · intro y hy
          rcases List.mem_append.1 hy with hy | hy
          · exact hys.out y hy
          · have hyx : y = { x with thick := 100 + (j : Int) } := by simpa using hy
            subst hyx
            have e := HXN.out
            dsimp only
            rw [e, ByteArray.size_append]
            show 1 + 1 ≤ 100
            decide
        · have e : flat Stuff.cells (ys ++ [{ x with thick := 100 + (j : Int) }]) = flat Stuff.cells ys ++ #[Value.string x.name, .int .i64 (100 + (j : Int)), .int .i64 x.gram, .int .i64 x.stiff, .int .i64 x.price].toList := by simp [flat, Stuff.cells]
          rw [e]
          exact hown2
        · exact ((HS4.out.below (bl_alloc (Below.refl _ _) _)).over hg3 (fun i e => by have := hr i e; omega)).more (by omega)
        · exact grown_over (grown_alloc HG4.out _) hg3 (fun i e => by have := hr i e; omega)
      · have hk0 : ¬ (0 : Int) < (kv : Int) := by omega
        clear HG2 HOWN2 HS2 hgW2 HXL HXS HOWN HG1 HS1 hgW
        obtain ⟨W2, rfl⟩ : ∃ z, z = wr := ⟨_, rfl⟩
        obtain ⟨n, rfl⟩ : ∃ z, z = j := ⟨_, rfl⟩
        obtain ⟨xs, rfl⟩ : ∃ z, z = ys := ⟨_, rfl⟩
        obtain ⟨A, rfl⟩ : ∃ z, z = A' := ⟨_, rfl⟩
        obtain ⟨c, rfl⟩ : ∃ z, z = c' := ⟨_, rfl⟩
        have HXL := hyl
        have HXS := hys
        have HOWN2 := Lib.hid hown
        have HG2 := hg
        have hgW2 := hsz
        have hn5 : n ≤ 13 := by omega
        obtain ⟨q2, hq2⟩ : ∃ q2, q2 = q + 46 + 8 * n := ⟨_, rfl⟩
        rw [← hq2] at hS
        have HS2 := hS
        clear hyl hys hown hg hsz hS
        by_cases hn0 : n = 0
        · subst hn0
          go_wp2_with fail
          go_returns
          exact ⟨A, xs, 0, c, rfl, HXL.out, by omega, HXS.out, HOWN2.out, HS2.out.more (by omega), HG2.out⟩
        · have hn1 : ¬ (n : Int) = 0 := by omega
          go_wp2_with fail
          refine (pick_c g q2 (n : Int) (by omega) (by omega) _ HS2.out).mono ?_
          rintro e W3 ⟨r3, rfl, r30, r31, hS3, hg3⟩
          obtain ⟨k, rfl⟩ := Int.eq_ofNat_of_zero_le r30
          have hkn : k < n := by omega
          have HS3 := Lib.hid hS3
          have HG3 := Lib.hid (grown_trans HG2.out hg3)
          have HOWN3 := Lib.hid (HOWN2.out.kept hg3 (.inr (fun e => by have := own_at HOWN2.out g e; omega)))
          have hgW3 := Nat.le_trans hgW2 hg3.size
          have hkn1 : (k : Int) < (n : Int) := by omega
          have hkn0 : (0 : Int) ≤ (k : Int) := by omega
          clear hS3 hg3 r31
          obtain ⟨gO, rfl⟩ := own_addr HOWN3.out (by omega)
          obtain ⟨x, hx⟩ := get_of_lt (xs := xs) (k := k) (by rw [HXL.out]; exact hkn)
          have HX := Lib.hid hx
          clear hx
          go_wp2_with fail
          refine (pick_c g (q2 + 2) 24 (by omega) (by omega) _ HS3.out).mono ?_
          rintro e W4 ⟨r4, rfl, r40, r41, hS4, hg4⟩
          have HS4 := Lib.hid hS4
          have HG4 := Lib.hid (grown_trans HG3.out hg4)
          have HOWN4 := Lib.hid (HOWN3.out.kept hg4 (.inr (fun e => by have := own_at HOWN3.out g e; omega)))
          have hgW4 := Nat.le_trans hgW3 hg4.size
          clear hS4 hg4
          go_wp2_with fail
          · have hA := arr_new W4 9 #[.string ⟨#[]⟩, .string ⟨#[67, 111, 114, 107]⟩, .string ⟨#[99, 111, 114, 107]⟩]
            refine (text_c g (q2 + 4) _ [⟨#[]⟩, ⟨#[67, 111, 114, 107]⟩, ⟨#[99, 111, 114, 107]⟩] 3 3 (Lib.hid rfl) (by omega) (by omega) (by omega) _ (HS4.out.below (bl_alloc (Below.refl _ _) _)) hA (fun ad e => by injection e with e; subst e; simp only; omega)).mono ?_
            rintro e W5 ⟨v, hv, rfl, hS5, hg5⟩
            have HV := Lib.hid hv
            have hO5 := (HOWN4.out.alloc (.cells #[.string ⟨#[]⟩, .string ⟨#[67, 111, 114, 107]⟩, .string ⟨#[99, 111, 114, 107]⟩] 9)).kept hg5 (.inr (fun e => by have := own_at HOWN4.out g e; omega))
            have hgO := own_at HOWN4.out gO (by simp [Value.ownBlock])
            have hlen := hO5.1
            obtain ⟨u', d1⟩ := own_cell hO5 (j := k * 5) (by omega)
            have fz := hO5.frozenAt (k * 5)
            have HS6 := Lib.hid (hS5.far (p := ⟨gO, k * 5, none⟩) (by simp only; omega) (.string v))
            have HO6 := Lib.hid (hO5.stored (k * 5) (.string v)).1
            have HG6 := Lib.hid (grown_setCell (p := ⟨gO, k * 5, none⟩) (grown_trans (grown_alloc HG4.out (.cells #[.string ⟨#[]⟩, .string ⟨#[67, 111, 114, 107]⟩, .string ⟨#[99, 111, 114, 107]⟩] 9)) hg5) (.inr (by simp only; omega)) (.string v))
            clear hA hS5 hg5 hO5 hlen hv
            go_wp2_with fail
            go_returns
            refine ⟨_, xs.set k { x with name := v }, n, c, rfl, by rw [List.length_set]; exact HXL.out, by omega, ?_, ?_, HS6.out.more (by omega), HG6.out⟩
            · intro y hy
              rcases List.mem_or_eq_of_mem_set hy with hy | hy
              · exact HXS.out y hy
              · subst hy
                have hv := HV.out
                simp only [List.mem_cons, List.not_mem_nil, or_false] at hv
                rcases hv with rfl | rfl | rfl <;> (dsimp only; decide)
            · rw [← flat_set_at Stuff.cells 5 Stuff.cells_length 0 (by omega) (.string v) x { x with name := v } rfl xs k HX.out]
              exact HO6.out
          · have hA := arr_new W4 2 #[.int .i64 0, .int .i64 1, .int .i64 200, .int .i64 201, .int .i64 (-9223372036854775808)]
            refine (among_c g (q2 + 4) _ [0, 1, 200, 201, -9223372036854775808] 5 5 (Lib.hid rfl) (by omega) (by omega) (by omega) _ (HS4.out.below (bl_alloc (Below.refl _ _) _)) hA (fun ad e => by injection e with e; subst e; simp only; omega)).mono ?_
            rintro e W5 ⟨v, hv, rfl, hS5, hg5⟩
            have HV := Lib.hid hv
            have hO5 := (HOWN4.out.alloc (.cells #[.int .i64 0, .int .i64 1, .int .i64 200, .int .i64 201, .int .i64 (-9223372036854775808)] 2)).kept hg5 (.inr (fun e => by have := own_at HOWN4.out g e; omega))
            have hgO := own_at HOWN4.out gO (by simp [Value.ownBlock])
            have hlen := hO5.1
            obtain ⟨u', d1⟩ := own_cell hO5 (j := k * 5 + 1) (by omega)
            have fz := hO5.frozenAt (k * 5 + 1)
            have HS6 := Lib.hid (hS5.far (p := ⟨gO, k * 5 + 1, none⟩) (by simp only; omega) (.int .i64 v))
            have HO6 := Lib.hid (hO5.stored (k * 5 + 1) (.int .i64 v)).1
            have HG6 := Lib.hid (grown_setCell (p := ⟨gO, k * 5 + 1, none⟩) (grown_trans (grown_alloc HG4.out (.cells #[.int .i64 0, .int .i64 1, .int .i64 200, .int .i64 201, .int .i64 (-9223372036854775808)] 2)) hg5) (.inr (by simp only; omega)) (.int .i64 v))
            clear hA hS5 hg5 hO5 hlen hv
            go_wp2_with fail
            go_returns
            refine ⟨_, xs.set k { x with thick := v }, n, c, rfl, by rw [List.length_set]; exact HXL.out, by omega, ?_, ?_, HS6.out.more (by omega), HG6.out⟩
            · intro y hy
              rcases List.mem_or_eq_of_mem_set hy with hy | hy
              · exact HXS.out y hy
              · subst hy
                exact HXS.out x (List.mem_of_getElem? HX.out)
            · rw [← flat_set_at Stuff.cells 5 Stuff.cells_length 1 (by omega) (.int .i64 v) x { x with thick := v } rfl xs k HX.out]
              exact HO6.out
          · have hA := arr_new W4 2 #[.int .i64 0, .int .i64 1, .int .i64 1000, .int .i64 1001]
            refine (among_c g (q2 + 4) _ [0, 1, 1000, 1001] 4 4 (Lib.hid rfl) (by omega) (by omega) (by omega) _ (HS4.out.below (bl_alloc (Below.refl _ _) _)) hA (fun ad e => by injection e with e; subst e; simp only; omega)).mono ?_
            rintro e W5 ⟨v, hv, rfl, hS5, hg5⟩
            have HV := Lib.hid hv
            have hO5 := (HOWN4.out.alloc (.cells #[.int .i64 0, .int .i64 1, .int .i64 1000, .int .i64 1001] 2)).kept hg5 (.inr (fun e => by have := own_at HOWN4.out g e; omega))
            have hgO := own_at HOWN4.out gO (by simp [Value.ownBlock])
            have hlen := hO5.1
            obtain ⟨u', d1⟩ := own_cell hO5 (j := k * 5 + 2) (by omega)
            have fz := hO5.frozenAt (k * 5 + 2)
            have HS6 := Lib.hid (hS5.far (p := ⟨gO, k * 5 + 2, none⟩) (by simp only; omega) (.int .i64 v))
            have HO6 := Lib.hid (hO5.stored (k * 5 + 2) (.int .i64 v)).1
            have HG6 := Lib.hid (grown_setCell (p := ⟨gO, k * 5 + 2, none⟩) (grown_trans (grown_alloc HG4.out (.cells #[.int .i64 0, .int .i64 1, .int .i64 1000, .int .i64 1001] 2)) hg5) (.inr (by simp only; omega)) (.int .i64 v))
            clear hA hS5 hg5 hO5 hlen hv
            go_wp2_with fail
            go_returns
            refine ⟨_, xs.set k { x with gram := v }, n, c, rfl, by rw [List.length_set]; exact HXL.out, by omega, ?_, ?_, HS6.out.more (by omega), HG6.out⟩
            · intro y hy
              rcases List.mem_or_eq_of_mem_set hy with hy | hy
              · exact HXS.out y hy
              · subst hy
                exact HXS.out x (List.mem_of_getElem? HX.out)
            · rw [← flat_set_at Stuff.cells 5 Stuff.cells_length 2 (by omega) (.int .i64 v) x { x with gram := v } rfl xs k HX.out]
              exact HO6.out
          · have hA := arr_new W4 2 #[.int .i64 (-1), .int .i64 0, .int .i64 1000, .int .i64 1001]
            refine (among_c g (q2 + 4) _ [-1, 0, 1000, 1001] 4 4 (Lib.hid rfl) (by omega) (by omega) (by omega) _ (HS4.out.below (bl_alloc (Below.refl _ _) _)) hA (fun ad e => by injection e with e; subst e; simp only; omega)).mono ?_
            rintro e W5 ⟨v, hv, rfl, hS5, hg5⟩
            have HV := Lib.hid hv
            have hO5 := (HOWN4.out.alloc (.cells #[.int .i64 (-1), .int .i64 0, .int .i64 1000, .int .i64 1001] 2)).kept hg5 (.inr (fun e => by have := own_at HOWN4.out g e; omega))
            have hgO := own_at HOWN4.out gO (by simp [Value.ownBlock])
            have hlen := hO5.1
            obtain ⟨u', d1⟩ := own_cell hO5 (j := k * 5 + 3) (by omega)
            have fz := hO5.frozenAt (k * 5 + 3)
            have HS6 := Lib.hid (hS5.far (p := ⟨gO, k * 5 + 3, none⟩) (by simp only; omega) (.int .i64 v))
            have HO6 := Lib.hid (hO5.stored (k * 5 + 3) (.int .i64 v)).1
            have HG6 := Lib.hid (grown_setCell (p := ⟨gO, k * 5 + 3, none⟩) (grown_trans (grown_alloc HG4.out (.cells #[.int .i64 (-1), .int .i64 0, .int .i64 1000, .int .i64 1001] 2)) hg5) (.inr (by simp only; omega)) (.int .i64 v))
            clear hA hS5 hg5 hO5 hlen hv
            go_wp2_with fail
            go_returns
            refine ⟨_, xs.set k { x with stiff := v }, n, c, rfl, by rw [List.length_set]; exact HXL.out, by omega, ?_, ?_, HS6.out.more (by omega), HG6.out⟩
            · intro y hy
              rcases List.mem_or_eq_of_mem_set hy with hy | hy
              · exact HXS.out y hy
              · subst hy
                exact HXS.out x (List.mem_of_getElem? HX.out)
            · rw [← flat_set_at Stuff.cells 5 Stuff.cells_length 3 (by omega) (.int .i64 v) x { x with stiff := v } rfl xs k HX.out]
              exact HO6.out
          · have hA := arr_new W4 2 #[.int .i64 (-1), .int .i64 0, .int .i64 10000, .int .i64 10001]
            refine (among_c g (q2 + 4) _ [-1, 0, 10000, 10001] 4 4 (Lib.hid rfl) (by omega) (by omega) (by omega) _ (HS4.out.below (bl_alloc (Below.refl _ _) _)) hA (fun ad e => by injection e with e; subst e; simp only; omega)).mono ?_
            rintro e W5 ⟨v, hv, rfl, hS5, hg5⟩
            have HV := Lib.hid hv
            have hO5 := (HOWN4.out.alloc (.cells #[.int .i64 (-1), .int .i64 0, .int .i64 10000, .int .i64 10001] 2)).kept hg5 (.inr (fun e => by have := own_at HOWN4.out g e; omega))
            have hgO := own_at HOWN4.out gO (by simp [Value.ownBlock])
            have hlen := hO5.1
            obtain ⟨u', d1⟩ := own_cell hO5 (j := k * 5 + 4) (by omega)
            have fz := hO5.frozenAt (k * 5 + 4)
            have HS6 := Lib.hid (hS5.far (p := ⟨gO, k * 5 + 4, none⟩) (by simp only; omega) (.int .i64 v))
            have HO6 := Lib.hid (hO5.stored (k * 5 + 4) (.int .i64 v)).1
            have HG6 := Lib.hid (grown_setCell (p := ⟨gO, k * 5 + 4, none⟩) (grown_trans (grown_alloc HG4.out (.cells #[.int .i64 (-1), .int .i64 0, .int .i64 10000, .int .i64 10001] 2)) hg5) (.inr (by simp only; omega)) (.int .i64 v))
            clear hA hS5 hg5 hO5 hlen hv
            go_wp2_with fail
            go_returns
            refine ⟨_, xs.set k { x with price := v }, n, c, rfl, by rw [List.length_set]; exact HXL.out, by omega, ?_, ?_, HS6.out.more (by omega), HG6.out⟩
            · intro y hy
              rcases List.mem_or_eq_of_mem_set hy with hy | hy
              · exact HXS.out y hy
              · subst hy
                exact HXS.out x (List.mem_of_getElem? HX.out)
            · rw [← flat_set_at Stuff.cells 5 Stuff.cells_length 4 (by omega) (.int .i64 v) x { x with price := v } rfl xs k HX.out]
              exact HO6.out
          · go_returns
            exact ⟨_, xs, n, c, rfl, HXL.out, by omega, fun y hy => HXS.out y hy, HOWN4.out, HS4.out.more (by omega), HG4.out⟩
end Go.Proofs.Ytopbiihiogbhiaa
