/- The program's PricePerItem. -/
import Derived.Test.YtopbiihiogbhiaaPriP
namespace Go.Proofs.Ytopbiihiogbhiaa
open Go.RowKit

set_option maxRecDepth 100000 in
set_option maxHeartbeats 4000000 in
theorem PricePerItem_c (A : Option Addr) (xs : List Item) (n c : Nat) (o t p : Int) (hn : Hid (xs.length = n)) (hm : (n : Int) ≤ 1048576) (hs : Hid (∀ x ∈ xs, x.name.size ≤ 9223372036854775807)) (w : World) (hA : Arr w A (flat Item.cells xs)) : Calls Try.prog 34 #[.agg #[.slice A n c, .int .i64 o, .int .i64 t, .int .i64 p]] w (OutL 2 1 (iPrice xs o t p).length (flat icell (iPrice xs o t p)) (cPrice xs o t p) w) := by
  obtain ⟨i0, hi0, hz0, hz1, hz2⟩ := info_parts (P := Try.prog) (e := 2) (z := .int .i64 0) (size := 1) (bytes := 8) info_int64'
  go_enter Try.func34, Try.ntmps34
  go_wp2_with fail
  obtain ⟨w0, hw0⟩ : ∃ w0, w0 = w.alloc (Obj.cells #[Value.slice A n c, Value.int IntKind.i64 o, Value.int IntKind.i64 t, Value.int IntKind.i64 p] 49) := ⟨_, rfl⟩
  obtain ⟨g, hg⟩ : ∃ g, g = w.heap.size := ⟨_, rfl⟩
  have hv : Below w.heap.size w w0 := by rw [hw0]; exact bl_alloc (Below.refl _ _) _
  have hB : Blk w0 g 49 #[Value.slice A n c, Value.int IntKind.i64 o, Value.int IntKind.i64 t, Value.int IntKind.i64 p] := by rw [hw0, hg]; exact Blk.new _ _ _
  rw [← hw0, ← hg]
  clear hw0
  have HG := Lib.hid hg
  clear hg
  have k0 : w0.cell? ⟨g, 0, none⟩ = some (.slice A n c) := hB.cell 0
  have k1 : w0.cell? ⟨g, 1, none⟩ = some (.int .i64 o) := hB.cell 1
  have k2 : w0.cell? ⟨g, 2, none⟩ = some (.int .i64 t) := hB.cell 2
  have k3 : w0.cell? ⟨g, 3, none⟩ = some (.int .i64 p) := hB.cell 3
  refine (validBill_c A xs n c o t p hn hm hs _ (hA.below hv)).mono ?_
  rintro e W ⟨rfl, hb⟩
  replace hv := bl_trans hv hb
  replace hB := hB.below hb
  have k0 : W.cell? ⟨g, 0, none⟩ = some (.slice A n c) := hB.cell 0
  have k1 : W.cell? ⟨g, 1, none⟩ = some (.int .i64 o) := hB.cell 1
  have k2 : W.cell? ⟨g, 2, none⟩ = some (.int .i64 t) := hB.cell 2
  have k3 : W.cell? ⟨g, 3, none⟩ = some (.int .i64 p) := hB.cell 3
  rcases bill_cases xs o t p with HB | ⟨HB, hx, ho0, ho1, ht0, ht1, hp0, hp1, hs0, hs1, hT0, hT1⟩
  · rw [HB.out]
    have HC := Lib.hid (show cPrice xs o t p = 1 from by rw [cPrice, HB.out]; rfl)
    have HI := Lib.hid (show iPrice xs o t p = [] from by rw [iPrice, HB.out]; rfl)
    go_wp2_with fail
    go_returns
    exact OutL.nil' HI.out HC.out hv
  · rw [HB.out]
    have hx0 := hx
    obtain ⟨S, hS⟩ : ∃ S, S = sumGo xs 0 := ⟨_, rfl⟩
    have HI0 := Lib.hid (show iPrice xs o t p = if S = 0 then [] else prL xs (totOf S o t) S from by rw [iPrice, HB.out, hS]; rfl)
    have HC0 := Lib.hid (show cPrice xs o t p = if S = 0 then 6 else 0 from by rw [cPrice, HB.out, hS]; rfl)
    rw [← hS] at hs0 hs1 hT0 hT1
    have HS0 := Lib.hid hS
    clear hp1 hS
    go_wp2_with fail
    refine (sum_c A xs n c o t p S hn hx0 HS0 _ (hA.below hv)).mono ?_
    rintro e W ⟨rfl, hb⟩
    replace hv := bl_trans hv hb
    replace hB := hB.below hb
    clear hb k0 k1 k2 k3
    have k0 : W.cell? ⟨g, 0, none⟩ = some (.slice A n c) := hB.cell 0
    have k1 : W.cell? ⟨g, 1, none⟩ = some (.int .i64 o) := hB.cell 1
    have k2 : W.cell? ⟨g, 2, none⟩ = some (.int .i64 t) := hB.cell 2
    have k3 : W.cell? ⟨g, 3, none⟩ = some (.int .i64 p) := hB.cell 3
    by_cases hz : S = 0
    · have HC := Lib.hid (HC0.out.trans (if_pos hz))
      have HI := Lib.hid (HI0.out.trans (if_pos hz))
      go_wp2_with fail
      go_returns
      exact OutL.nil' HI.out HC.out hv
    have HC := Lib.hid (HC0.out.trans (if_neg hz))
    have HI := Lib.hid (HI0.out.trans (if_neg hz))
    clear HC0 HI0
    have hSp : 0 < S := by omega
    go_wp2_with fail
    refine (total_c A xs n c o t p o S hn hx0 HS0 ho0 ho1 ht0 ht1 _ (hA.below hv)).mono ?_
    rintro e W ⟨rfl, hb⟩
    replace hv := bl_trans hv hb
    replace hB := hB.below hb
    clear hb k0 k1 k2 k3
    obtain ⟨T0, hT0'⟩ : ∃ T0, T0 = totOf S o t := ⟨_, rfl⟩
    rw [← hT0'] at HI hT0 hT1 ⊢
    clear hT0'
    obtain ⟨W1, hW1⟩ : ∃ W1, W1 = W.alloc (Obj.cells #[] 2) := ⟨_, rfl⟩
    obtain ⟨g1, hg1⟩ : ∃ g1, g1 = W.heap.size := ⟨_, rfl⟩
    have hb1 : Below W.heap.size W W1 := by rw [hW1]; exact bl_alloc (Below.refl _ _) _
    have hown : W1.ownsRow (g + 1) 2 1 (.slice (some ⟨g1, 0, none⟩) 0 0) 0 [] := by rw [hW1, hg1]; exact own_empty W _ _ _ hB.lt
    have k0 : W.cell? ⟨g, 0, none⟩ = some (.slice A n c) := hB.cell 0
    have k1 : W.cell? ⟨g, 1, none⟩ = some (.int .i64 o) := hB.cell 1
    have k2 : W.cell? ⟨g, 2, none⟩ = some (.int .i64 t) := hB.cell 2
    have k3 : W.cell? ⟨g, 3, none⟩ = some (.int .i64 p) := hB.cell 3
    have a0 := bl_cell hb1 k0
    have a1 := bl_cell hb1 k1
    have a2 := bl_cell hb1 k2
    have a3 := bl_cell hb1 k3
    rw [hW1] at a0 a1 a2 a3
    go_wp2_with fail
    rw [← hW1, ← hg1]
    clear hW1 hg1 a0 a1 a2 a3
    replace hv := bl_trans hv hb1
    replace hB := hB.below hb1
    clear hb1 k0 k1 k2 k3
    go_loopw [6, 7, 30] (fun v bv i wr => ∃ (j : Nat) (A' : Option Addr) (c' : Nat), j ≤ n ∧ i = .int .i64 j ∧ v = .slice A' j c' ∧ bv = .int .i64 (psum xs j) ∧ wr.ownsRow (g + 1) 2 1 (.slice A' j c') j (flat icell ((prL xs T0 S).take j)) ∧ Blk wr g 49 #[Value.slice A n c, Value.int IntKind.i64 o, Value.int IntKind.i64 t, Value.int IntKind.i64 p] ∧ Below w.heap.size w wr) (fun _ _ i _ => n - (intOf i).toNat)
    case atStart => exact ⟨0, _, _, by omega, rfl, rfl, by simp [psum, sumGo], by simpa [flat] using hown, hB, hv⟩
    case round =>
      clear hown hv hB
      obtain ⟨j, A', c', hj, rfl, rfl, rfl, hown, hB, hv⟩ := hrel
      by_cases hlt : j < n
      · obtain ⟨x, hx⟩ := get_of_lt (xs := xs) (k := j) (by rw [hn.out]; exact hlt)
        obtain ⟨ad, rfl, hab, c0, c1, c2⟩ := Item.at_ (hA.below hv) hx
        have HS := Lib.hid (pr_step xs T0 S j (by rw [hn.out]; exact hlt))
        obtain ⟨m0, m1, q0, q1⟩ := few_item hx0.out hx
        obtain ⟨u0, u1⟩ := psum_bd hx0.out j
        obtain ⟨v0, v1⟩ := psum_bd hx0.out (j + 1)
        rw [← HS0.out] at u1 v1
        have hps := psum_step hx
        obtain ⟨b1, hb1⟩ : ∃ b, b = psum xs j := ⟨_, rfl⟩
        obtain ⟨b2, hb2⟩ : ∃ b, b = psum xs (j + 1) := ⟨_, rfl⟩
        have hprF : prF xs T0 S j = shV T0 b2 S - shV T0 b1 S := by rw [prF, hb1, hb2]
        rw [← hb1] at u0 u1 hps
        rw [← hb2] at v0 v1 hps
        rw [← hb1]
        have HP := Lib.hid hb2
        obtain ⟨z0, z1⟩ := shV_bd (T := T0) (P := b1) hT0 hSp u1
        obtain ⟨z2, z3⟩ := shV_bd (T := T0) (P := b2) hT0 hSp v1
        have H1 := Lib.hid (fun w => shareI_c T0 b1 S hT0 hT1 hSp hs1 u0 u1 w)
        have H2 := Lib.hid (fun w => shareI_c T0 b2 S hT0 hT1 hSp hs1 v0 v1 w)
        obtain ⟨s1, hs1'⟩ : ∃ s, s = shV T0 b1 S := ⟨_, rfl⟩
        obtain ⟨s2, hs2'⟩ : ∃ s, s = shV T0 b2 S := ⟨_, rfl⟩
        rw [← hs1'] at z0 z1 H1 hprF
        rw [← hs2'] at z2 z3 H2 hprF
        obtain ⟨pr0, pr1⟩ := prod_bd ⟨m0, m1, q0, q1⟩
        obtain ⟨pm, hpm⟩ : ∃ pm, pm = x.many * x.cents := ⟨_, rfl⟩
        rw [← hpm] at pr0 pr1 hps
        have w1 : IntKind.i64.wrap (x.many * x.cents) = pm := by rw [← hpm]; exact IntWalk.i64_in _ (by omega)
        have w2 : IntKind.i64.wrap (b1 + pm) = b2 := by rw [← hps]; exact IntWalk.i64_in _ (by omega)
        obtain ⟨df, hdf⟩ : ∃ df, df = s2 - s1 := ⟨_, rfl⟩
        have w3 : IntKind.i64.wrap (s2 - s1) = df := by rw [← hdf]; exact IntWalk.i64_in _ (by omega)
        have HD := Lib.hid (hprF.trans hdf.symm)
        clear hx hps hb1 hb2 hprF hs1' hs2' hpm hdf
        have k0 : wr.cell? ⟨g, 0, none⟩ = some (.slice (some ad) n c) := hB.cell 0
        obtain ⟨W0, hW0⟩ : ∃ W0, W0 = wr.alloc (Obj.cells #[Value.string x.name, Value.int IntKind.i64 x.many, Value.int IntKind.i64 x.cents] 94) := ⟨_, rfl⟩
        have hb : Below wr.heap.size wr W0 := by rw [hW0]; exact bl_alloc (Below.refl _ _) _
        go_wp2_with fail
        rw [← hW0]
        clear hW0 c0 c1 c2 k0
        replace hv := bl_trans hv hb
        replace hB := hB.below hb
        replace hown := own_below hown hb
        clear hb
        refine wp_region_held_drew (S := fun w' => Below w.heap.size w w' ∧ Blk w' g 49 #[Value.slice (some ad) n c, Value.int IntKind.i64 o, Value.int IntKind.i64 t, Value.int IntKind.i64 p]) (by kernel_rfl) ?_ (fun hHeld => ?_)
        · exact ⟨hv.drew, hB.below (Below.refl _ _).drew⟩
        replace hown := own_below hown (Below.refl _ _).drew
        clear hv hB
        refine wpAnyH_take (i := 0) (oi := { dst := some 41, op := _, type := _, pos := _, after := _, guard := _ }) (v := ?_) rfl (by kernel_rfl) (by kernel_rfl) (by kernel_rfl) (fun _ _ _ h => h) (Or.inl ⟨by kernel_rfl, ?_⟩) (by assumption) ?_
        rotate_left
        · intro w hSw
          try dsimp only at hSw
          go_simp
          try with_reducible rfl
        try simp only [Act.put, List.setIfInBounds_toArray, List.set_cons_zero, List.set_cons_succ]
        refine wpAnyH_take (i := 1) (oi := { dst := some 42, op := _, type := _, pos := _, after := _, guard := _ }) (v := ?_) rfl (by kernel_rfl) (by kernel_rfl) (by kernel_rfl) (fun _ _ _ h => h) (Or.inl ⟨by kernel_rfl, ?_⟩) (by assumption) ?_
        rotate_left
        · intro w hSw
          try dsimp only at hSw
          go_simp
          try with_reducible rfl
        try simp only [Act.put, List.setIfInBounds_toArray, List.set_cons_zero, List.set_cons_succ]
        refine wpAnyH_take (i := 2) (oi := { dst := some 43, op := _, type := _, pos := _, after := _, guard := _ }) (v := ?_) rfl (by kernel_rfl) (by kernel_rfl) (by kernel_rfl) (fun _ _ _ h => h) (Or.inl ⟨by kernel_rfl, ?_⟩) (by assumption) ?_
        rotate_left
        · intro w hSw
          try dsimp only at hSw
          go_simp
          try with_reducible rfl
        try simp only [Act.put, List.setIfInBounds_toArray, List.set_cons_zero, List.set_cons_succ]
        refine wpAnyH_take (i := 3) (oi := { dst := some 44, op := _, type := _, pos := _, after := _, guard := _ }) (v := ?_) rfl (by kernel_rfl) (by kernel_rfl) (by kernel_rfl) (fun _ _ _ h => h) (Or.inl ⟨by kernel_rfl, ?_⟩) (by assumption) ?_
        rotate_left
        · intro w hSw
          try dsimp only at hSw
          have y0 : w.cell? ⟨g, 0, none⟩ = some (.slice (some ad) n c) := hSw.2.cell 0
          have y1 : w.cell? ⟨g, 1, none⟩ = some (.int .i64 o) := hSw.2.cell 1
          have y2 : w.cell? ⟨g, 2, none⟩ = some (.int .i64 t) := hSw.2.cell 2
          have y3 : w.cell? ⟨g, 3, none⟩ = some (.int .i64 p) := hSw.2.cell 3
          go_simp
          try with_reducible rfl
        try simp only [Act.put, List.setIfInBounds_toArray, List.set_cons_zero, List.set_cons_succ]
        refine wpAnyH_take (i := 6) (oi := { dst := some 47, op := _, type := _, pos := _, after := _, guard := _ }) (v := ?_) rfl (by kernel_rfl) (by kernel_rfl) (by kernel_rfl) (fun _ _ _ h => h) (Or.inl ⟨by kernel_rfl, ?_⟩) (by assumption) ?_
        rotate_left
        · intro w hSw
          try dsimp only at hSw
          go_simp
          try with_reducible rfl
        try simp only [Act.put, List.setIfInBounds_toArray, List.set_cons_zero, List.set_cons_succ]
        refine wpAnyH_take (i := 7) (oi := { dst := some 48, op := _, type := _, pos := _, after := _, guard := _ }) (v := ?_) rfl (by kernel_rfl) (by kernel_rfl) (by kernel_rfl) (fun _ _ _ h => h) (Or.inl ⟨by kernel_rfl, ?_⟩) (by assumption) ?_
        rotate_left
        · intro w hSw
          try dsimp only at hSw
          go_simp
          try with_reducible rfl
        try simp only [Act.put, List.setIfInBounds_toArray, List.set_cons_zero, List.set_cons_succ]
        refine wpAnyH_take (i := 8) (oi := { dst := some 49, op := _, type := _, pos := _, after := _, guard := _ }) (v := ?_) rfl (by kernel_rfl) (by kernel_rfl) (by kernel_rfl) (fun _ _ _ h => h) (Or.inl ⟨by kernel_rfl, ?_⟩) (by assumption) ?_
        rotate_left
        · intro w hSw
          try dsimp only at hSw
          have y0 : w.cell? ⟨g, 0, none⟩ = some (.slice (some ad) n c) := hSw.2.cell 0
          have y1 : w.cell? ⟨g, 1, none⟩ = some (.int .i64 o) := hSw.2.cell 1
          have y2 : w.cell? ⟨g, 2, none⟩ = some (.int .i64 t) := hSw.2.cell 2
          have y3 : w.cell? ⟨g, 3, none⟩ = some (.int .i64 p) := hSw.2.cell 3
          go_simp
          try with_reducible rfl
        try simp only [Act.put, List.setIfInBounds_toArray, List.set_cons_zero, List.set_cons_succ]
        refine wpAnyH_take (i := 14) (oi := { dst := some 55, op := _, type := _, pos := _, after := _, guard := _ }) (v := ?_) rfl (by kernel_rfl) (by kernel_rfl) (by kernel_rfl) (fun _ _ _ h => h) (Or.inl ⟨by kernel_rfl, ?_⟩) (by assumption) ?_
        rotate_left
        · intro w hSw
          try dsimp only at hSw
          go_simp
          try with_reducible rfl
        try simp only [Act.put, List.setIfInBounds_toArray, List.set_cons_zero, List.set_cons_succ]
        refine wpAnyH_ready (rs := [4]) (by kernel_rfl) (by simp) ?_
        refine AllReadyH.cons (o := { dst := some 45, op := _, type := _, pos := _, after := _, guard := _ }) rfl (fun K hK => ?_) AllReadyH.nil
        go_simp
        (try dsimp only at hHeld); go_split_ands
        refine (sum_c (some ad) xs n c o t p S hn hx0 HS0 _ (hA.below (by assumption))).mono ?_; rintro e W ⟨rfl, hb⟩; replace hown := own_below hown hb
        go_wp2_with fail
        refine hK.out _ _ ?_ (fun hHeld => ?_)
        · (try dsimp only); go_split_ands; exact ⟨bl_trans (by assumption) hb, Blk.below (by assumption) hb⟩
        clear hK K
        try simp only [Act.put, List.setIfInBounds_toArray, List.set_cons_zero, List.set_cons_succ]
        refine wpAnyH_ready (rs := [5]) (by kernel_rfl) (by simp) ?_
        refine AllReadyH.cons (o := { dst := some 46, op := _, type := _, pos := _, after := _, guard := _ }) rfl (fun K hK => ?_) AllReadyH.nil
        go_simp
        (try dsimp only at hHeld); go_split_ands
        refine (H2.out _).mono ?_; rintro e W ⟨rfl, hb⟩; replace hown := own_below hown hb
        go_wp2_with fail
        refine hK.out _ _ ?_ (fun hHeld => ?_)
        · (try dsimp only); go_split_ands; exact ⟨bl_trans (by assumption) hb, Blk.below (by assumption) hb⟩
        clear hK K
        try simp only [Act.put, List.setIfInBounds_toArray, List.set_cons_zero, List.set_cons_succ]
        refine wpAnyH_ready (rs := [9]) (by kernel_rfl) (by simp) ?_
        refine AllReadyH.cons (o := { dst := some 50, op := _, type := _, pos := _, after := _, guard := _ }) rfl (fun K hK => ?_) AllReadyH.nil
        go_simp
        (try dsimp only at hHeld); go_split_ands
        refine (sum_c (some ad) xs n c o t p S hn hx0 HS0 _ (hA.below (by assumption))).mono ?_; rintro e W ⟨rfl, hb⟩; replace hown := own_below hown hb
        go_wp2_with fail
        refine hK.out _ _ ?_ (fun hHeld => ?_)
        · (try dsimp only); go_split_ands; exact ⟨bl_trans (by assumption) hb, Blk.below (by assumption) hb⟩
        clear hK K
        try simp only [Act.put, List.setIfInBounds_toArray, List.set_cons_zero, List.set_cons_succ]
        refine wpAnyH_ready (rs := [10]) (by kernel_rfl) (by simp) ?_
        refine AllReadyH.cons (o := { dst := some 51, op := _, type := _, pos := _, after := _, guard := _ }) rfl (fun K hK => ?_) AllReadyH.nil
        go_simp
        (try dsimp only at hHeld); go_split_ands
        refine (H1.out _).mono ?_; rintro e W ⟨rfl, hb⟩; replace hown := own_below hown hb
        go_wp2_with fail
        refine hK.out _ _ ?_ (fun hHeld => ?_)
        · (try dsimp only); go_split_ands; exact ⟨bl_trans (by assumption) hb, Blk.below (by assumption) hb⟩
        clear hK K
        try simp only [Act.put, List.setIfInBounds_toArray, List.set_cons_zero, List.set_cons_succ]
        refine wpAnyH_take (i := 11) (oi := { dst := some 52, op := _, type := _, pos := _, after := _, guard := _ }) (v := ?_) rfl (by kernel_rfl) (by kernel_rfl) (by kernel_rfl) (fun _ _ _ h => h) (Or.inl ⟨by kernel_rfl, ?_⟩) (by assumption) ?_
        rotate_left
        · intro w hSw
          try dsimp only at hSw
          go_simp
          try with_reducible rfl
        try simp only [Act.put, List.setIfInBounds_toArray, List.set_cons_zero, List.set_cons_succ]
        refine wpAnyH_ready (rs := [12]) (by kernel_rfl) (by simp) ?_
        refine AllReadyH.cons (o := { dst := some 53, op := _, type := _, pos := _, after := _, guard := _ }) rfl (fun K hK => ?_) AllReadyH.nil
        go_simp
        (try dsimp only at hHeld); go_split_ands
        obtain ⟨W2, hW2⟩ : ∃ W2, W2 = W.alloc (Obj.cells #[Value.int IntKind.i64 df] 2) := ⟨_, rfl⟩
        obtain ⟨gy, hgy⟩ : ∃ gy, gy = W.heap.size := ⟨_, rfl⟩
        have hb : Below W.heap.size W W2 := by rw [hW2]; exact bl_alloc (Below.refl _ _) _
        have hY : Blk W2 gy 2 #[Value.int IntKind.i64 df] := by rw [hW2, hgy]; exact Blk.new _ _ _
        rw [← hW2, ← hgy]
        clear hW2 hgy
        replace hown := own_below hown hb
        refine hK.out _ _ ?_ (fun hHeld => ?_)
        · (try dsimp only); go_split_ands; exact ⟨bl_trans (by assumption) hb, Blk.below (by assumption) hb⟩
        clear hK K
        try simp only [Act.put, List.setIfInBounds_toArray, List.set_cons_zero, List.set_cons_succ]
        refine wpAnyH_ready (rs := [13]) (by kernel_rfl) (by simp) ?_
        refine AllReadyH.cons (o := { dst := some 54, op := _, type := _, pos := _, after := _, guard := _ }) rfl (fun K hK => ?_) AllReadyH.nil
        rw [if_pos (by kernel_rfl)]
        (try dsimp only at hHeld); go_split_ands
        refine app_op _ _ _ 25 2 rfl i0 _ 8 Try.underlying25 hi0 hz0 hz1 hz2 rfl (g + 1) (.slice A' j c') j _ rfl gy (.int .i64 df) rfl hY hown rfl (by unfold maxLen; omega) (by omega) (Blk.lt (t := 49) (by assumption)) ?_
        intro A2 c2 w2 hown2 hg2
        refine hK.out _ _ ?_ (fun hHeld => ?_)
        · (try dsimp only); go_split_ands; exact ⟨bl_grown (by assumption) hg2 (fun k e => by have h1 := own_at hown k e; have h2 := HG.out; omega), Blk.grown (by assumption) hg2 (fun e => by have h1 := own_at hown _ e.symm; omega)⟩
        clear hK K
        try simp only [Act.put, List.setIfInBounds_toArray, List.set_cons_zero, List.set_cons_succ]
        refine wpAnyH_take (i := 15) (oi := { dst := some 6, op := _, type := _, pos := _, after := _, guard := _ }) (v := ?_) rfl (by kernel_rfl) (by kernel_rfl) (by kernel_rfl) (fun _ _ _ h => h) (Or.inl ⟨by kernel_rfl, ?_⟩) (by assumption) ?_
        rotate_left
        · intro w hSw
          try dsimp only at hSw
          go_simp
          try with_reducible rfl
        try simp only [Act.put, List.setIfInBounds_toArray, List.set_cons_zero, List.set_cons_succ]
        refine wpAnyH_take (i := 16) (oi := { dst := some 7, op := _, type := _, pos := _, after := _, guard := _ }) (v := ?_) rfl (by kernel_rfl) (by kernel_rfl) (by kernel_rfl) (fun _ _ _ h => h) (Or.inl ⟨by kernel_rfl, ?_⟩) (by assumption) ?_
        rotate_left
        · intro w hSw
          try dsimp only at hSw
          go_simp
          try with_reducible rfl
        try simp only [Act.put, List.setIfInBounds_toArray, List.set_cons_zero, List.set_cons_succ]
        refine wpAnyH_done (by kernel_rfl) ?_ _
        go_split_ands
        have hv := (by assumption : Below w.heap.size w _)
        have hB := (by assumption : Blk _ g 49 _)
        go_wp2_with fail
        exact ⟨⟨j + 1, A2, c2, by omega, by go_num, rfl, by rw [HP.out], by rw [HS.out, HD.out]; exact hown2, hB, hv⟩, by simp [intOf]; omega⟩
      · have hjn : j = n := by omega
        rw [List.take_of_length_le (by rw [prL_length, hn.out]; omega)] at hown
        go_wp2_with fail
        go_returns
        exact OutL.mk (own_base hown (by have := HG.out; omega)) (by rw [HI.out, prL_length, hn.out]; omega) (by rw [HI.out]) HC.out.symm hv

end Go.Proofs.Ytopbiihiogbhiaa
