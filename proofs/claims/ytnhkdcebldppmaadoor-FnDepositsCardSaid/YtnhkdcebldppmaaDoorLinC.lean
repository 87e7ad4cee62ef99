/- The reference's BillLines. -/
import Derived.Test.YtnhkdcebldppmaaDoorLinA
import Derived.Test.YtnhkdcebldppmaaDoorBillX
namespace Go.Proofs.YtnhkdcebldppmaaDoor
open Go.RowKit

theorem l26CentsI_c (n : Int) (h0 : 0 ≤ n) (h1 : n ≤ 100000000000) (w : World) : Calls Tryd.prog 57 #[.int .i64 n] w (Ret (.string (moneyB n)) w) := by
  obtain ⟨c, rfl⟩ := Int.eq_ofNat_of_zero_le h0
  rw [show moneyB ((c : Nat) : Int) = mB c by unfold moneyB; rw [if_pos (inB_iff.2 ⟨h0, h1⟩), Int.toNat_natCast]]
  exact l26Cents_c c h1 w
set_option maxRecDepth 100000 in
set_option maxHeartbeats 4000000 in
theorem SBillLines_c (A : Option Addr) (xs : List Item) (n c : Nat) (o t p : Int) (hn : Hid (xs.length = n)) (hm : (n : Int) ≤ 1048576) (hs : Hid (∀ x ∈ xs, x.name.size ≤ 9223372036854775807)) (w : World) (hA : Arr w A (flat Item.cells xs)) : Calls Tryd.prog 18 #[.agg #[.slice A n c, .int .i64 o, .int .i64 t, .int .i64 p]] w (OutL 9 1 (linesB xs o t p).length (flat scell (linesB xs o t p)) (cLines xs o t p) w) := by
  obtain ⟨i0, hi0, hz0, hz1, hz2⟩ := info_parts (P := Tryd.prog) (e := 9) (z := .string ByteArray.empty) (size := 1) (bytes := 16) info_str'
  go_enter Tryd.func18, Tryd.ntmps18
  go_wp2_with fail
  obtain ⟨w0, hw0⟩ : ∃ w0, w0 = w.alloc (Obj.cells #[Value.slice A n c, Value.int IntKind.i64 o, Value.int IntKind.i64 t, Value.int IntKind.i64 p] 26) := ⟨_, rfl⟩
  obtain ⟨g, hg⟩ : ∃ g, g = w.heap.size := ⟨_, rfl⟩
  have hv : Below w.heap.size w w0 := by rw [hw0]; exact bl_alloc (Below.refl _ _) _
  have hB : Blk w0 g 26 #[Value.slice A n c, Value.int IntKind.i64 o, Value.int IntKind.i64 t, Value.int IntKind.i64 p] := by rw [hw0, hg]; exact Blk.new _ _ _
  rw [← hw0, ← hg]
  clear hw0
  have HG := Lib.hid hg
  clear hg
  have k0 : w0.cell? ⟨g, 0, none⟩ = some (.slice A n c) := hB.cell 0
  have k1 : w0.cell? ⟨g, 1, none⟩ = some (.int .i64 o) := hB.cell 1
  have k2 : w0.cell? ⟨g, 2, none⟩ = some (.int .i64 t) := hB.cell 2
  have k3 : w0.cell? ⟨g, 3, none⟩ = some (.int .i64 p) := hB.cell 3
  refine (l26Ok_c g A xs n c o t p hn hm hs _ hB (hA.below hv)).mono ?_
  rintro e W ⟨rfl, hb⟩
  replace hv := bl_trans hv hb
  replace hB := hB.below hb
  have k0 : W.cell? ⟨g, 0, none⟩ = some (.slice A n c) := hB.cell 0
  have k1 : W.cell? ⟨g, 1, none⟩ = some (.int .i64 o) := hB.cell 1
  have k2 : W.cell? ⟨g, 2, none⟩ = some (.int .i64 t) := hB.cell 2
  have k3 : W.cell? ⟨g, 3, none⟩ = some (.int .i64 p) := hB.cell 3
  rcases bill_cases xs o t p with HB | ⟨HB, hx, ho0, ho1, ht0, ht1, hp0, hp1, hs0, hs1, hT0, hT1⟩
  · rw [HB.out]
    have HC := Lib.hid (show cLines xs o t p = 1 from by rw [cLines, HB.out]; rfl)
    have HI := Lib.hid (show linesB xs o t p = [] from by rw [linesB, HB.out]; rfl)
    go_wp2_with fail
    go_returns
    rw [HI.out, HC.out]
    exact OutL.nil hv
  · rw [HB.out]
    have HI := Lib.hid (show linesB xs o t p = xs.map lineB ++ [lastB (totOf (sumGo xs 0) o t) (taxOf (sumGo xs 0) o t) (totOf (sumGo xs 0) o t - p)] from by rw [linesB, HB.out]; rfl)
    have HC := Lib.hid (show cLines xs o t p = 0 from by rw [cLines, HB.out]; rfl)
    obtain ⟨W1, hW1⟩ : ∃ W1, W1 = W.alloc (Obj.cells #[] 9) := ⟨_, rfl⟩
    obtain ⟨g1, hg1⟩ : ∃ g1, g1 = W.heap.size := ⟨_, rfl⟩
    have hb1 : Below W.heap.size W W1 := by rw [hW1]; exact bl_alloc (Below.refl _ _) _
    have hown : W1.ownsRow (g + 1) 9 1 (.slice (some ⟨g1, 0, none⟩) 0 0) 0 [] := by rw [hW1, hg1]; exact own_empty W _ _ _ hB.lt
    have a0 := bl_cell hb1 k0
    have a1 := bl_cell hb1 k1
    have a2 := bl_cell hb1 k2
    have a3 := bl_cell hb1 k3
    rw [hW1] at a0 a1 a2 a3
    go_wp2_with fail
    rw [← hW1, ← hg1]
    clear hW1 hg1 a0 a1 a2 a3
    replace hv := bl_trans hv hb1
    replace hB := hB.below hb1
    clear hb1 k0 k1 k2 k3
    go_loopw [4, 5] (fun v i wr => ∃ (j : Nat) (A' : Option Addr) (c' : Nat), j ≤ n ∧ i = .int .i64 j ∧ v = .slice A' j c' ∧ wr.ownsRow (g + 1) 9 1 (.slice A' j c') j (flat scell ((xs.map lineB).take j)) ∧ Blk wr g 26 #[Value.slice A n c, Value.int IntKind.i64 o, Value.int IntKind.i64 t, Value.int IntKind.i64 p] ∧ Below w.heap.size w wr) (fun _ i _ => n - (intOf i).toNat)
    case atStart => exact ⟨0, _, _, by omega, rfl, rfl, by simpa [flat] using hown, hB, hv⟩
    case round =>
      clear hown hv hB
      obtain ⟨j, A', c', hj, rfl, rfl, hown, hB, hv⟩ := hrel
      by_cases hlt : j < n
      · obtain ⟨x, hx⟩ := get_of_lt (xs := xs) (k := j) (by rw [hn.out]; exact hlt)
        obtain ⟨ad, rfl, hab, c0, c1, c2⟩ := Item.at_ (hA.below hv) hx
        have HS := Lib.hid (lines_step hx)
        obtain ⟨m0, m1, q0, q1⟩ := few_item ‹Hid (fewOk xs)›.out hx
        have sn := bill_names HB.out hx
        have HXJ := Lib.hid hx
        clear hx
        have hj0 : (0 : Int) ≤ (j : Int) := by omega
        have hj1 : (j : Int) < (n : Int) := by omega
        have k0 : wr.cell? ⟨g, 0, none⟩ = some (.slice (some ad) n c) := hB.cell 0
        have k1 : wr.cell? ⟨g, 1, none⟩ = some (.int .i64 o) := hB.cell 1
        have k2 : wr.cell? ⟨g, 2, none⟩ = some (.int .i64 t) := hB.cell 2
        have k3 : wr.cell? ⟨g, 3, none⟩ = some (.int .i64 p) := hB.cell 3
        go_wp2_with fail
        clear c0 c1 c2 k0 k1 k2 k3
        obtain ⟨pr0, pr1⟩ := prod_bd ⟨m0, m1, q0, q1⟩
        have hmul : IntKind.i64.wrap (x.many * x.cents) = x.many * x.cents := IntWalk.i64_in _ (by omega)
        have sd1 := decI_size x.many
        have sm1 := moneyB_size x.cents
        have sm2 := moneyB_size (x.many * x.cents)
        have zl0 : (⟨#[32, 120, 32]⟩ : ByteArray).size = 3 := rfl
        have zl1 : (⟨#[32, 61, 32]⟩ : ByteArray).size = 3 := rfl
        have zl2 : (⟨#[32]⟩ : ByteArray).size = 1 := rfl
        have hadd1 := fun (w : World) => run_string_add_sum (P := Tryd.prog) w (x.name) ⟨#[32]⟩ (by simp only [zl2]; omega)
        have hadd2 := fun (w : World) => run_string_add_sum (P := Tryd.prog) w (x.name ++ ⟨#[32]⟩) (decI x.many) (by simp only [ByteArray.size_append', zl2]; omega)
        have hadd3 := fun (w : World) => run_string_add_sum (P := Tryd.prog) w (x.name ++ ⟨#[32]⟩ ++ (decI x.many)) ⟨#[32, 120, 32]⟩ (by simp only [ByteArray.size_append', zl0, zl2]; omega)
        have hadd4 := fun (w : World) => run_string_add_sum (P := Tryd.prog) w (x.name ++ ⟨#[32]⟩ ++ (decI x.many) ++ ⟨#[32, 120, 32]⟩) (moneyB x.cents) (by simp only [ByteArray.size_append', zl0, zl2]; omega)
        have hadd5 := fun (w : World) => run_string_add_sum (P := Tryd.prog) w (x.name ++ ⟨#[32]⟩ ++ (decI x.many) ++ ⟨#[32, 120, 32]⟩ ++ (moneyB x.cents)) ⟨#[32, 61, 32]⟩ (by simp only [ByteArray.size_append', zl0, zl1, zl2]; omega)
        have hadd6 := fun (w : World) => run_string_add_sum (P := Tryd.prog) w (x.name ++ ⟨#[32]⟩ ++ (decI x.many) ++ ⟨#[32, 120, 32]⟩ ++ (moneyB x.cents) ++ ⟨#[32, 61, 32]⟩) (moneyB (x.many * x.cents)) (by simp only [ByteArray.size_append', zl0, zl1, zl2]; omega)
        clear zl0 zl1 zl2
        clear sd1 sm1 sm2 sn
        refine wp_region_held_drew (S := fun w' => Below w.heap.size w w' ∧ Blk w' g 26 #[Value.slice (some ad) n c, Value.int IntKind.i64 o, Value.int IntKind.i64 t, Value.int IntKind.i64 p]) (by kernel_rfl) ?_ (fun hHeld => ?_)
        · exact ⟨hv.drew, hB.below (Below.refl _ _).drew⟩
        replace hown := own_below hown (Below.refl _ _).drew
        clear hv hB
        refine wpAnyH_take (i := 0) (oi := { dst := some 23, op := _, type := _, pos := _, after := _, guard := _ }) (v := ?_) rfl (by kernel_rfl) (by kernel_rfl) (by kernel_rfl) (fun _ _ _ h => h) (Or.inl ⟨by kernel_rfl, ?_⟩) (by assumption) ?_
        rotate_left
        · intro w hSw
          try dsimp only at hSw
          go_simp
          try with_reducible rfl
        try simp only [Act.put, List.setIfInBounds_toArray, List.set_cons_zero, List.set_cons_succ]
        refine wpAnyH_take (i := 1) (oi := { dst := some 24, op := _, type := _, pos := _, after := _, guard := _ }) (v := ?_) rfl (by kernel_rfl) (by kernel_rfl) (by kernel_rfl) (fun _ _ _ h => h) (Or.inl ⟨by kernel_rfl, ?_⟩) (by assumption) ?_
        rotate_left
        · intro w hSw
          try dsimp only at hSw
          go_simp
          try with_reducible rfl
        try simp only [Act.put, List.setIfInBounds_toArray, List.set_cons_zero, List.set_cons_succ]
        refine wpAnyH_take (i := 2) (oi := { dst := some 25, op := _, type := _, pos := _, after := _, guard := _ }) (v := ?_) rfl (by kernel_rfl) (by kernel_rfl) (by kernel_rfl) (fun _ _ _ h => h) (Or.inl ⟨by kernel_rfl, ?_⟩) (by assumption) ?_
        rotate_left
        · intro w hSw
          try dsimp only at hSw
          go_simp
          try with_reducible rfl
        try simp only [Act.put, List.setIfInBounds_toArray, List.set_cons_zero, List.set_cons_succ]
        refine wpAnyH_take (i := 3) (oi := { dst := some 26, op := _, type := _, pos := _, after := _, guard := _ }) (v := ?_) rfl (by kernel_rfl) (by kernel_rfl) (by kernel_rfl) (fun _ _ _ h => h) (Or.inl ⟨by kernel_rfl, ?_⟩) (by assumption) ?_
        rotate_left
        · intro w hSw
          try dsimp only at hSw
          go_simp
          try with_reducible rfl
        try simp only [Act.put, List.setIfInBounds_toArray, List.set_cons_zero, List.set_cons_succ]
        refine wpAnyH_take (i := 4) (oi := { dst := some 27, op := _, type := _, pos := _, after := _, guard := _ }) (v := ?_) rfl (by kernel_rfl) (by kernel_rfl) (by kernel_rfl) (fun _ _ _ h => h) (Or.inl ⟨by kernel_rfl, ?_⟩) (by assumption) ?_
        rotate_left
        · intro w hSw
          try dsimp only at hSw
          obtain ⟨ad', e', _, y0, y1, y2⟩ := Item.at_ (hA.below hSw.1) HXJ.out
          injection e' with e'
          subst e'
          go_simp
          try with_reducible rfl
        try simp only [Act.put, List.setIfInBounds_toArray, List.set_cons_zero, List.set_cons_succ]
        refine wpAnyH_take (i := 5) (oi := { dst := some 28, op := _, type := _, pos := _, after := _, guard := _ }) (v := ?_) rfl (by kernel_rfl) (by kernel_rfl) (by kernel_rfl) (fun _ _ _ h => h) (Or.inl ⟨by kernel_rfl, ?_⟩) (by assumption) ?_
        rotate_left
        · intro w hSw
          try dsimp only at hSw
          go_simp
          try with_reducible rfl
        try simp only [Act.put, List.setIfInBounds_toArray, List.set_cons_zero, List.set_cons_succ]
        refine wpAnyH_take (i := 6) (oi := { dst := some 29, op := _, type := _, pos := _, after := _, guard := _ }) (v := ?_) rfl (by kernel_rfl) (by kernel_rfl) (by kernel_rfl) (fun _ _ _ h => h) (Or.inl ⟨by kernel_rfl, ?_⟩) (by assumption) ?_
        rotate_left
        · intro w hSw
          try dsimp only at hSw
          go_simp
          try with_reducible rfl
        try simp only [Act.put, List.setIfInBounds_toArray, List.set_cons_zero, List.set_cons_succ]
        refine wpAnyH_take (i := 7) (oi := { dst := some 30, op := _, type := _, pos := _, after := _, guard := _ }) (v := ?_) rfl (by kernel_rfl) (by kernel_rfl) (by kernel_rfl) (fun _ _ _ h => h) (Or.inl ⟨by kernel_rfl, ?_⟩) (by assumption) ?_
        rotate_left
        · intro w hSw
          try dsimp only at hSw
          go_simp
          try with_reducible rfl
        try simp only [Act.put, List.setIfInBounds_toArray, List.set_cons_zero, List.set_cons_succ]
        refine wpAnyH_take (i := 8) (oi := { dst := some 31, op := _, type := _, pos := _, after := _, guard := _ }) (v := ?_) rfl (by kernel_rfl) (by kernel_rfl) (by kernel_rfl) (fun _ _ _ h => h) (Or.inl ⟨by kernel_rfl, ?_⟩) (by assumption) ?_
        rotate_left
        · intro w hSw
          try dsimp only at hSw
          go_simp
          try with_reducible rfl
        try simp only [Act.put, List.setIfInBounds_toArray, List.set_cons_zero, List.set_cons_succ]
        refine wpAnyH_take (i := 9) (oi := { dst := some 32, op := _, type := _, pos := _, after := _, guard := _ }) (v := ?_) rfl (by kernel_rfl) (by kernel_rfl) (by kernel_rfl) (fun _ _ _ h => h) (Or.inl ⟨by kernel_rfl, ?_⟩) (by assumption) ?_
        rotate_left
        · intro w hSw
          try dsimp only at hSw
          obtain ⟨ad', e', _, y0, y1, y2⟩ := Item.at_ (hA.below hSw.1) HXJ.out
          injection e' with e'
          subst e'
          go_simp
          try with_reducible rfl
        try simp only [Act.put, List.setIfInBounds_toArray, List.set_cons_zero, List.set_cons_succ]
        refine wpAnyH_take (i := 13) (oi := { dst := some 36, op := _, type := _, pos := _, after := _, guard := _ }) (v := ?_) rfl (by kernel_rfl) (by kernel_rfl) (by kernel_rfl) (fun _ _ _ h => h) (Or.inl ⟨by kernel_rfl, ?_⟩) (by assumption) ?_
        rotate_left
        · intro w hSw
          try dsimp only at hSw
          go_simp
          try with_reducible rfl
        try simp only [Act.put, List.setIfInBounds_toArray, List.set_cons_zero, List.set_cons_succ]
        refine wpAnyH_take (i := 14) (oi := { dst := some 37, op := _, type := _, pos := _, after := _, guard := _ }) (v := ?_) rfl (by kernel_rfl) (by kernel_rfl) (by kernel_rfl) (fun _ _ _ h => h) (Or.inl ⟨by kernel_rfl, ?_⟩) (by assumption) ?_
        rotate_left
        · intro w hSw
          try dsimp only at hSw
          go_simp
          try with_reducible rfl
        try simp only [Act.put, List.setIfInBounds_toArray, List.set_cons_zero, List.set_cons_succ]
        refine wpAnyH_take (i := 15) (oi := { dst := some 38, op := _, type := _, pos := _, after := _, guard := _ }) (v := ?_) rfl (by kernel_rfl) (by kernel_rfl) (by kernel_rfl) (fun _ _ _ h => h) (Or.inl ⟨by kernel_rfl, ?_⟩) (by assumption) ?_
        rotate_left
        · intro w hSw
          try dsimp only at hSw
          go_simp
          try with_reducible rfl
        try simp only [Act.put, List.setIfInBounds_toArray, List.set_cons_zero, List.set_cons_succ]
        refine wpAnyH_take (i := 16) (oi := { dst := some 39, op := _, type := _, pos := _, after := _, guard := _ }) (v := ?_) rfl (by kernel_rfl) (by kernel_rfl) (by kernel_rfl) (fun _ _ _ h => h) (Or.inl ⟨by kernel_rfl, ?_⟩) (by assumption) ?_
        rotate_left
        · intro w hSw
          try dsimp only at hSw
          obtain ⟨ad', e', _, y0, y1, y2⟩ := Item.at_ (hA.below hSw.1) HXJ.out
          injection e' with e'
          subst e'
          go_simp
          try with_reducible rfl
        try simp only [Act.put, List.setIfInBounds_toArray, List.set_cons_zero, List.set_cons_succ]
        refine wpAnyH_take (i := 20) (oi := { dst := some 43, op := _, type := _, pos := _, after := _, guard := _ }) (v := ?_) rfl (by kernel_rfl) (by kernel_rfl) (by kernel_rfl) (fun _ _ _ h => h) (Or.inl ⟨by kernel_rfl, ?_⟩) (by assumption) ?_
        rotate_left
        · intro w hSw
          try dsimp only at hSw
          go_simp
          try with_reducible rfl
        try simp only [Act.put, List.setIfInBounds_toArray, List.set_cons_zero, List.set_cons_succ]
        refine wpAnyH_take (i := 21) (oi := { dst := some 44, op := _, type := _, pos := _, after := _, guard := _ }) (v := ?_) rfl (by kernel_rfl) (by kernel_rfl) (by kernel_rfl) (fun _ _ _ h => h) (Or.inl ⟨by kernel_rfl, ?_⟩) (by assumption) ?_
        rotate_left
        · intro w hSw
          try dsimp only at hSw
          go_simp
          try with_reducible rfl
        try simp only [Act.put, List.setIfInBounds_toArray, List.set_cons_zero, List.set_cons_succ]
        refine wpAnyH_take (i := 22) (oi := { dst := some 45, op := _, type := _, pos := _, after := _, guard := _ }) (v := ?_) rfl (by kernel_rfl) (by kernel_rfl) (by kernel_rfl) (fun _ _ _ h => h) (Or.inl ⟨by kernel_rfl, ?_⟩) (by assumption) ?_
        rotate_left
        · intro w hSw
          try dsimp only at hSw
          go_simp
          try with_reducible rfl
        try simp only [Act.put, List.setIfInBounds_toArray, List.set_cons_zero, List.set_cons_succ]
        refine wpAnyH_take (i := 23) (oi := { dst := some 46, op := _, type := _, pos := _, after := _, guard := _ }) (v := ?_) rfl (by kernel_rfl) (by kernel_rfl) (by kernel_rfl) (fun _ _ _ h => h) (Or.inl ⟨by kernel_rfl, ?_⟩) (by assumption) ?_
        rotate_left
        · intro w hSw
          try dsimp only at hSw
          obtain ⟨ad', e', _, y0, y1, y2⟩ := Item.at_ (hA.below hSw.1) HXJ.out
          injection e' with e'
          subst e'
          go_simp
          try with_reducible rfl
        try simp only [Act.put, List.setIfInBounds_toArray, List.set_cons_zero, List.set_cons_succ]
        refine wpAnyH_take (i := 24) (oi := { dst := some 47, op := _, type := _, pos := _, after := _, guard := _ }) (v := ?_) rfl (by kernel_rfl) (by kernel_rfl) (by kernel_rfl) (fun _ _ _ h => h) (Or.inl ⟨by kernel_rfl, ?_⟩) (by assumption) ?_
        rotate_left
        · intro w hSw
          try dsimp only at hSw
          go_simp
          try with_reducible rfl
        try simp only [Act.put, List.setIfInBounds_toArray, List.set_cons_zero, List.set_cons_succ]
        refine wpAnyH_take (i := 25) (oi := { dst := some 48, op := _, type := _, pos := _, after := _, guard := _ }) (v := ?_) rfl (by kernel_rfl) (by kernel_rfl) (by kernel_rfl) (fun _ _ _ h => h) (Or.inl ⟨by kernel_rfl, ?_⟩) (by assumption) ?_
        rotate_left
        · intro w hSw
          try dsimp only at hSw
          go_simp
          try with_reducible rfl
        try simp only [Act.put, List.setIfInBounds_toArray, List.set_cons_zero, List.set_cons_succ]
        refine wpAnyH_take (i := 26) (oi := { dst := some 49, op := _, type := _, pos := _, after := _, guard := _ }) (v := ?_) rfl (by kernel_rfl) (by kernel_rfl) (by kernel_rfl) (fun _ _ _ h => h) (Or.inl ⟨by kernel_rfl, ?_⟩) (by assumption) ?_
        rotate_left
        · intro w hSw
          try dsimp only at hSw
          go_simp
          try with_reducible rfl
        try simp only [Act.put, List.setIfInBounds_toArray, List.set_cons_zero, List.set_cons_succ]
        refine wpAnyH_take (i := 27) (oi := { dst := some 50, op := _, type := _, pos := _, after := _, guard := _ }) (v := ?_) rfl (by kernel_rfl) (by kernel_rfl) (by kernel_rfl) (fun _ _ _ h => h) (Or.inl ⟨by kernel_rfl, ?_⟩) (by assumption) ?_
        rotate_left
        · intro w hSw
          try dsimp only at hSw
          obtain ⟨ad', e', _, y0, y1, y2⟩ := Item.at_ (hA.below hSw.1) HXJ.out
          injection e' with e'
          subst e'
          go_simp
          try with_reducible rfl
        try simp only [Act.put, List.setIfInBounds_toArray, List.set_cons_zero, List.set_cons_succ]
        refine wpAnyH_take (i := 28) (oi := { dst := some 51, op := _, type := _, pos := _, after := _, guard := _ }) (v := ?_) rfl (by kernel_rfl) (by kernel_rfl) (by kernel_rfl) (fun _ _ _ h => h) (Or.inl ⟨by kernel_rfl, ?_⟩) (by assumption) ?_
        rotate_left
        · intro w hSw
          try dsimp only at hSw
          go_simp
          try with_reducible rfl
        try simp only [Act.put, List.setIfInBounds_toArray, List.set_cons_zero, List.set_cons_succ]
        refine wpAnyH_ready (rs := [10]) (by kernel_rfl) (by simp) ?_
        refine AllReadyH.cons (o := { dst := some 33, op := _, type := _, pos := _, after := _, guard := _ }) rfl (fun K hK => ?_) AllReadyH.nil
        go_simp
        (try dsimp only at hHeld); go_split_ands
        refine (l01DecI_c x.many (by omega) (by omega) _).mono ?_; rintro e W ⟨rfl, hb⟩; replace hown := own_below hown hb
        go_wp2_with fail
        refine hK.out _ _ ?_ (fun hHeld => ?_)
        · (try dsimp only); go_split_ands; exact ⟨bl_trans (by assumption) hb, Blk.below (by assumption) hb⟩
        clear hK K
        try simp only [Act.put, List.setIfInBounds_toArray, List.set_cons_zero, List.set_cons_succ]
        refine wpAnyH_take (i := 11) (oi := { dst := some 34, op := _, type := _, pos := _, after := _, guard := _ }) (v := ?_) rfl (by kernel_rfl) (by kernel_rfl) (by kernel_rfl) (fun _ _ _ h => h) (Or.inl ⟨by kernel_rfl, ?_⟩) (by assumption) ?_
        rotate_left
        · intro w hSw
          try dsimp only at hSw
          go_simp
          try with_reducible rfl
        try simp only [Act.put, List.setIfInBounds_toArray, List.set_cons_zero, List.set_cons_succ]
        refine wpAnyH_take (i := 12) (oi := { dst := some 35, op := _, type := _, pos := _, after := _, guard := _ }) (v := ?_) rfl (by kernel_rfl) (by kernel_rfl) (by kernel_rfl) (fun _ _ _ h => h) (Or.inl ⟨by kernel_rfl, ?_⟩) (by assumption) ?_
        rotate_left
        · intro w hSw
          try dsimp only at hSw
          go_simp
          try with_reducible rfl
        try simp only [Act.put, List.setIfInBounds_toArray, List.set_cons_zero, List.set_cons_succ]
        refine wpAnyH_ready (rs := [17]) (by kernel_rfl) (by simp) ?_
        refine AllReadyH.cons (o := { dst := some 40, op := _, type := _, pos := _, after := _, guard := _ }) rfl (fun K hK => ?_) AllReadyH.nil
        go_simp
        (try dsimp only at hHeld); go_split_ands
        refine (l26CentsI_c x.cents (by omega) (by omega) _).mono ?_; rintro e W ⟨rfl, hb⟩; replace hown := own_below hown hb
        go_wp2_with fail
        refine hK.out _ _ ?_ (fun hHeld => ?_)
        · (try dsimp only); go_split_ands; exact ⟨bl_trans (by assumption) hb, Blk.below (by assumption) hb⟩
        clear hK K
        try simp only [Act.put, List.setIfInBounds_toArray, List.set_cons_zero, List.set_cons_succ]
        refine wpAnyH_take (i := 18) (oi := { dst := some 41, op := _, type := _, pos := _, after := _, guard := _ }) (v := ?_) rfl (by kernel_rfl) (by kernel_rfl) (by kernel_rfl) (fun _ _ _ h => h) (Or.inl ⟨by kernel_rfl, ?_⟩) (by assumption) ?_
        rotate_left
        · intro w hSw
          try dsimp only at hSw
          go_simp
          try with_reducible rfl
        try simp only [Act.put, List.setIfInBounds_toArray, List.set_cons_zero, List.set_cons_succ]
        refine wpAnyH_take (i := 19) (oi := { dst := some 42, op := _, type := _, pos := _, after := _, guard := _ }) (v := ?_) rfl (by kernel_rfl) (by kernel_rfl) (by kernel_rfl) (fun _ _ _ h => h) (Or.inl ⟨by kernel_rfl, ?_⟩) (by assumption) ?_
        rotate_left
        · intro w hSw
          try dsimp only at hSw
          go_simp
          try with_reducible rfl
        try simp only [Act.put, List.setIfInBounds_toArray, List.set_cons_zero, List.set_cons_succ]
        refine wpAnyH_ready (rs := [29]) (by kernel_rfl) (by simp) ?_
        refine AllReadyH.cons (o := { dst := some 52, op := _, type := _, pos := _, after := _, guard := _ }) rfl (fun K hK => ?_) AllReadyH.nil
        go_simp
        (try dsimp only at hHeld); go_split_ands
        refine (l26CentsI_c (x.many * x.cents) (by omega) (by omega) _).mono ?_; rintro e W ⟨rfl, hb⟩; replace hown := own_below hown hb
        go_wp2_with fail
        refine hK.out _ _ ?_ (fun hHeld => ?_)
        · (try dsimp only); go_split_ands; exact ⟨bl_trans (by assumption) hb, Blk.below (by assumption) hb⟩
        clear hK K
        try simp only [Act.put, List.setIfInBounds_toArray, List.set_cons_zero, List.set_cons_succ]
        refine wpAnyH_take (i := 30) (oi := { dst := some 53, op := _, type := _, pos := _, after := _, guard := _ }) (v := ?_) rfl (by kernel_rfl) (by kernel_rfl) (by kernel_rfl) (fun _ _ _ h => h) (Or.inl ⟨by kernel_rfl, ?_⟩) (by assumption) ?_
        rotate_left
        · intro w hSw
          try dsimp only at hSw
          go_simp
          try with_reducible rfl
        try simp only [Act.put, List.setIfInBounds_toArray, List.set_cons_zero, List.set_cons_succ]
        refine wpAnyH_ready (rs := [31]) (by kernel_rfl) (by simp) ?_
        refine AllReadyH.cons (o := { dst := some 54, op := _, type := _, pos := _, after := _, guard := _ }) rfl (fun K hK => ?_) AllReadyH.nil
        go_simp
        (try dsimp only at hHeld); go_split_ands
        obtain ⟨W2, hW2⟩ : ∃ W2, W2 = W.alloc (Obj.cells #[Value.string (lineB x)] 9) := ⟨_, rfl⟩
        obtain ⟨gy, hgy⟩ : ∃ gy, gy = W.heap.size := ⟨_, rfl⟩
        have hb : Below W.heap.size W W2 := by rw [hW2]; exact bl_alloc (Below.refl _ _) _
        have hY : Blk W2 gy 9 #[Value.string (lineB x)] := by rw [hW2, hgy]; exact Blk.new _ _ _
        unfold lineB at hW2
        rw [← hW2, ← hgy]
        clear hW2 hgy
        replace hown := own_below hown hb
        refine hK.out _ _ ?_ (fun hHeld => ?_)
        · (try dsimp only); go_split_ands; exact ⟨bl_trans (by assumption) hb, Blk.below (by assumption) hb⟩
        clear hK K
        try simp only [Act.put, List.setIfInBounds_toArray, List.set_cons_zero, List.set_cons_succ]
        refine wpAnyH_ready (rs := [32]) (by kernel_rfl) (by simp) ?_
        refine AllReadyH.cons (o := { dst := some 55, op := _, type := _, pos := _, after := _, guard := _ }) rfl (fun K hK => ?_) AllReadyH.nil
        rw [if_pos (by kernel_rfl)]
        (try dsimp only at hHeld); go_split_ands
        refine app_op _ _ _ 35 9 rfl i0 _ 16 Tryd.underlying35 hi0 hz0 hz1 hz2 rfl (g + 1) (.slice A' j c') j _ rfl gy (.string (lineB x)) rfl hY hown rfl (by unfold maxLen; omega) (by omega) (Blk.lt (t := 26) (by assumption)) ?_
        intro A2 c2 w2 hown2 hg2
        refine hK.out _ _ ?_ (fun hHeld => ?_)
        · (try dsimp only); go_split_ands; exact ⟨bl_grown (by assumption) hg2 (fun k e => by have h1 := own_at hown k e; have h2 := HG.out; omega), Blk.grown (by assumption) hg2 (fun e => by have h1 := own_at hown _ e.symm; omega)⟩
        clear hK K
        try simp only [Act.put, List.setIfInBounds_toArray, List.set_cons_zero, List.set_cons_succ]
        refine wpAnyH_take (i := 33) (oi := { dst := some 4, op := _, type := _, pos := _, after := _, guard := _ }) (v := ?_) rfl (by kernel_rfl) (by kernel_rfl) (by kernel_rfl) (fun _ _ _ h => h) (Or.inl ⟨by kernel_rfl, ?_⟩) (by assumption) ?_
        rotate_left
        · intro w hSw
          try dsimp only at hSw
          go_simp
          try with_reducible rfl
        try simp only [Act.put, List.setIfInBounds_toArray, List.set_cons_zero, List.set_cons_succ]
        refine wpAnyH_done (by kernel_rfl) ?_ _
        go_split_ands
        have hv := (by assumption : Below w.heap.size w _)
        have hB := (by assumption : Blk _ g 26 _)
        go_wp2_with fail
        exact ⟨⟨j + 1, A2, c2, by omega, by go_num, rfl, by rw [HS.out]; exact hown2, hB, hv⟩, by simp [intOf]; omega⟩
      · have hjn : j = n := by omega
        rw [List.take_of_length_le (by rw [List.length_map, hn.out]; omega), hjn] at hown
        have k0 : wr.cell? ⟨g, 0, none⟩ = some (.slice A n c) := hB.cell 0
        have k1 : wr.cell? ⟨g, 1, none⟩ = some (.int .i64 o) := hB.cell 1
        have k2 : wr.cell? ⟨g, 2, none⟩ = some (.int .i64 t) := hB.cell 2
        have k3 : wr.cell? ⟨g, 3, none⟩ = some (.int .i64 p) := hB.cell 3
        go_wp2_with fail
        refine (l26Total_c g A xs n c o t p hn _ ‹Hid (fewOk xs)› (Lib.hid rfl) ho0 ho1 ht0 ht1 _ hB (hA.below hv)).mono ?_
        rintro e W ⟨rfl, hb⟩
        replace hv := bl_trans hv hb
        replace hB := hB.below hb
        replace hown := own_below hown hb
        clear hb
        obtain ⟨T0, hT0'⟩ : ∃ T0, T0 = totOf (sumGo xs 0) o t := ⟨_, rfl⟩
        obtain ⟨X0, hX0'⟩ : ∃ X0, X0 = taxOf (sumGo xs 0) o t := ⟨_, rfl⟩
        obtain ⟨hx0, hx1⟩ := tax_bd hs0 ho0 ho1 ht0 ht1
        rw [← hX0'] at hx0 hx1
        rw [← hT0', ← hX0'] at HI
        rw [← hT0'] at hT0 hT1 hp1
        rw [← hT0', ← hX0']
        have HT0 := Lib.hid hT0'
        clear hT0' hX0' k0 k1 k2 k3
        go_wp2_with fail
        have sm0 := moneyB_size T0
        have sm1 := moneyB_size X0
        have sm2 := moneyB_size (T0 - p)
        have zl0 : (⟨#[116, 111, 116, 97, 108, 32]⟩ : ByteArray).size = 6 := rfl
        have zl1 : (⟨#[32, 108, 101, 102, 116, 32]⟩ : ByteArray).size = 6 := rfl
        have zl2 : (⟨#[32, 116, 97, 120, 32]⟩ : ByteArray).size = 5 := rfl
        have hadd1 := fun (w : World) => run_string_add_sum (P := Tryd.prog) w (⟨#[116, 111, 116, 97, 108, 32]⟩) (moneyB T0) (by simp only [zl0]; omega)
        have hadd2 := fun (w : World) => run_string_add_sum (P := Tryd.prog) w (⟨#[116, 111, 116, 97, 108, 32]⟩ ++ (moneyB T0)) ⟨#[32, 116, 97, 120, 32]⟩ (by simp only [ByteArray.size_append', zl0, zl2]; omega)
        have hadd3 := fun (w : World) => run_string_add_sum (P := Tryd.prog) w (⟨#[116, 111, 116, 97, 108, 32]⟩ ++ (moneyB T0) ++ ⟨#[32, 116, 97, 120, 32]⟩) (moneyB X0) (by simp only [ByteArray.size_append', zl0, zl2]; omega)
        have hadd4 := fun (w : World) => run_string_add_sum (P := Tryd.prog) w (⟨#[116, 111, 116, 97, 108, 32]⟩ ++ (moneyB T0) ++ ⟨#[32, 116, 97, 120, 32]⟩ ++ (moneyB X0)) ⟨#[32, 108, 101, 102, 116, 32]⟩ (by simp only [ByteArray.size_append', zl0, zl1, zl2]; omega)
        have hadd5 := fun (w : World) => run_string_add_sum (P := Tryd.prog) w (⟨#[116, 111, 116, 97, 108, 32]⟩ ++ (moneyB T0) ++ ⟨#[32, 116, 97, 120, 32]⟩ ++ (moneyB X0) ++ ⟨#[32, 108, 101, 102, 116, 32]⟩) (moneyB (T0 - p)) (by simp only [ByteArray.size_append', zl0, zl1, zl2]; omega)
        clear zl0 zl1 zl2
        clear sm0 sm1 sm2
        refine (l26CentsI_c T0 (by omega) (by omega) _).mono ?_
        rintro e W ⟨rfl, hb⟩
        replace hv := bl_trans hv hb
        replace hB := hB.below hb
        replace hown := own_below hown hb
        clear hb
        go_wp2_with fail
        refine (l26CentsI_c X0 (by omega) (by omega) _).mono ?_
        rintro e W ⟨rfl, hb⟩
        replace hv := bl_trans hv hb
        replace hB := hB.below hb
        replace hown := own_below hown hb
        clear hb
        go_wp2_with fail
        refine (l26Left_c g A xs n c o t p hn _ ‹Hid (fewOk xs)› (Lib.hid rfl) ho0 ho1 ht0 ht1 hp0 (by rw [← HT0.out]; exact hp1) _ hB (hA.below hv)).mono ?_
        rintro e W ⟨rfl, hb⟩
        replace hv := bl_trans hv hb
        replace hB := hB.below hb
        replace hown := own_below hown hb
        clear hb
        rw [← HT0.out]
        go_wp2_with fail
        refine (l26CentsI_c (T0 - p) (by omega) (by omega) _).mono ?_
        rintro e W ⟨rfl, hb⟩
        replace hv := bl_trans hv hb
        replace hB := hB.below hb
        replace hown := own_below hown hb
        clear hb
        go_wp2_with (at_builtin; refine app_own _ _ rfl _ _ 35 9 rfl i0 _ 1 16 Tryd.underlying35 hi0 hz0 hz1 hz2 rfl (by omega) (g + 1) (.slice A' n c') n _ rfl rfl hown rfl (by simp [Value.oneCell']) (by unfold maxLen; omega) (by omega) hB.lt ?_; intro A2 c2 w2 hown2 hg2)
        replace hv := bl_grown hv hg2 (fun k e => by have h1 := own_at hown k e; have h2 := HG.out; omega)
        go_returns
        exact OutL.mk (own_base hown2 (by have := HG.out; omega)) (by rw [HI.out, List.length_append, List.length_map, hn.out]; rfl) (by rw [HI.out, flat_append]; simp [flat, scell, lastB]) HC.out.symm hv

end Go.Proofs.YtnhkdcebldppmaaDoor
