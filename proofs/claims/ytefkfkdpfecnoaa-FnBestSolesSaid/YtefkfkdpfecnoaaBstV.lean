/- The best sole: the reference's walk, fewer plies. -/
import Derived.Test.YtefkfkdpfecnoaaBstS
namespace Go.Proofs.Ytefkfkdpfecnoaa
open Go.RowKit

set_option maxRecDepth 100000 in
set_option maxHeartbeats 20000000 in
theorem walk_succ (A : Option Addr) (xs : List Stuff) (n c : Nat) (hn : Hid (xs.length = n)) (hm : (n : Int) ≤ 1048576) (hs : Hid (∀ x ∈ xs, x.name.size ≤ 9223372036854775807)) (T S : Int) (gr : Bool) (f : Stuff → Int) (hf : Hid (f = if gr = true then Stuff.gram else Stuff.price)) (hx : Hid (stuffsB xs = true)) (hT1 : 1 ≤ T) (gw : Nat) (hAgw : ∀ ad, A = some ad → ad.block < gw - 1) (d : Nat) (ih : ∀ (ps : List Int) (st : Bst) (w : World), ps.length + d = 6 → Hid (plyOk xs ps) → SInv A n c T S gr gw ps st w → Arr w A (flat Stuff.cells xs) →
    Calls Try.prog 57 #[.pointer (some ⟨gw, 0, none⟩), .int .i64 (firstN ps)] w (OutW A n c T S gr gw ps (goS xs T S f d ps st) w)) : ∀ (ps : List Int) (st : Bst) (w : World), ps.length + (d + 1) = 6 → Hid (plyOk xs ps) → SInv A n c T S gr gw ps st w → Arr w A (flat Stuff.cells xs) →
    Calls Try.prog 57 #[.pointer (some ⟨gw, 0, none⟩), .int .i64 (firstN ps)] w (OutW A n c T S gr gw ps (goS xs T S f (d + 1) ps st) w) := by
    obtain ⟨i0, hi0, hz0, hz1, hz2⟩ := info_parts (P := Try.prog) (e := 2) (z := .int .i64 0) (size := 1) (bytes := 8) info_i64r
    have hn12 : n ≤ 12 := by have := (stuffs_ok hx.out).2; rw [hn.out] at this; exact this
    intro ps st w hd hpo hI hA
    obtain ⟨P, pc, B, bd, hB, hown, hAb, hne, hBlt, hPgw⟩ := hI
    obtain ⟨m, hm'⟩ : ∃ m, m = ps.length := ⟨_, rfl⟩
    obtain ⟨bm, hbm⟩ : ∃ bm, bm = st.1.length := ⟨_, rfl⟩
    obtain ⟨lst, hlst⟩ : ∃ lst, lst = st.2 := ⟨_, rfl⟩
    rw [← hm', ← hbm, ← hlst] at hB
    rw [← hbm] at hAb
    rw [← hm'] at hown hd
    have HM := Lib.hid hm'.symm
    have HBM := Lib.hid hbm.symm
    have HLST := Lib.hid hlst.symm
    clear hm' hbm hlst
    have HSUM := Lib.hid (fun w h1 h2 => l17SumP_c A xs n c hn hm hs P ps m pc HM hx (by omega) hpo w h1 h2)
    obtain ⟨th, hth⟩ : ∃ th, th = sumR Stuff.thick xs ps := ⟨_, rfl⟩
    obtain ⟨gm, hgm⟩ : ∃ gm, gm = sumR Stuff.gram xs ps := ⟨_, rfl⟩
    obtain ⟨sf, hsf⟩ : ∃ sf, sf = sumR Stuff.stiff xs ps := ⟨_, rfl⟩
    obtain ⟨pr, hpr⟩ : ∃ pr, pr = sumR Stuff.price xs ps := ⟨_, rfl⟩
    rw [← hth, ← hgm, ← hsf, ← hpr] at HSUM
    have HTH := Lib.hid hth.symm
    have HGM := Lib.hid hgm.symm
    have HSF := Lib.hid hsf.symm
    have HPR := Lib.hid hpr.symm
    clear hth hgm hsf hpr
    have hgwl := hB.lt
    go_enter Try.func57, Try.ntmps57
    go_wp2_with fail
    refine wp_region_held_drew (S := fun w' => Below w.heap.size w w' ∧ Blk w' gw 79 #[Value.slice A n c, Value.int IntKind.i64 T, Value.int IntKind.i64 S, Value.bool gr, Value.slice P m pc, Value.slice B bm bd, Value.int IntKind.i64 lst]) (by kernel_rfl) ?_ (fun hHeld => ?_)
    · exact ⟨(Below.refl _ _).drew, hB.below (Below.refl _ _).drew⟩
    refine wpAnyH_take (i := 0) (oi := { dst := some 8, op := _, type := _, pos := _, after := _, guard := _ }) (v := ?_) rfl (by kernel_rfl) (by kernel_rfl) (by kernel_rfl) (fun _ _ _ h => h) (Or.inl ⟨by kernel_rfl, ?_⟩) (by assumption) ?_
    rotate_left
    · intro w hSw
      try dsimp only at hSw
      go_simp
      try with_reducible rfl
    try simp only [Act.put, List.setIfInBounds_toArray, List.set_cons_zero, List.set_cons_succ]
    refine wpAnyH_take (i := 1) (oi := { dst := some 9, op := _, type := _, pos := _, after := _, guard := _ }) (v := ?_) rfl (by kernel_rfl) (by kernel_rfl) (by kernel_rfl) (fun _ _ _ h => h) (Or.inl ⟨by kernel_rfl, ?_⟩) (by assumption) ?_
    rotate_left
    · intro w hSw
      try dsimp only at hSw
      go_simp
      try with_reducible rfl
    try simp only [Act.put, List.setIfInBounds_toArray, List.set_cons_zero, List.set_cons_succ]
    refine wpAnyH_take (i := 2) (oi := { dst := some 10, op := _, type := _, pos := _, after := _, guard := _ }) (v := ?_) rfl (by kernel_rfl) (by kernel_rfl) (by kernel_rfl) (fun _ _ _ h => h) (Or.inl ⟨by kernel_rfl, ?_⟩) (by assumption) ?_
    rotate_left
    · intro w hSw
      try dsimp only at hSw
      go_simp
      try with_reducible rfl
    try simp only [Act.put, List.setIfInBounds_toArray, List.set_cons_zero, List.set_cons_succ]
    refine wpAnyH_take (i := 3) (oi := { dst := some 11, op := _, type := _, pos := _, after := _, guard := _ }) (v := ?_) rfl (by kernel_rfl) (by kernel_rfl) (by kernel_rfl) (fun _ _ _ h => h) (Or.inl ⟨by kernel_rfl, ?_⟩) (by assumption) ?_
    rotate_left
    · intro w hSw
      try dsimp only at hSw
      have y0 : w.cell? ⟨gw, 0, none⟩ = some (.slice A n c) := hSw.2.cell 0
      have y4 : w.cell? ⟨gw, 4, none⟩ = some (.slice P m pc) := hSw.2.cell 4
      go_simp
      try with_reducible rfl
    try simp only [Act.put, List.setIfInBounds_toArray, List.set_cons_zero, List.set_cons_succ]
    refine wpAnyH_take (i := 4) (oi := { dst := some 12, op := _, type := _, pos := _, after := _, guard := _ }) (v := ?_) rfl (by kernel_rfl) (by kernel_rfl) (by kernel_rfl) (fun _ _ _ h => h) (Or.inl ⟨by kernel_rfl, ?_⟩) (by assumption) ?_
    rotate_left
    · intro w hSw
      try dsimp only at hSw
      go_simp
      try with_reducible rfl
    try simp only [Act.put, List.setIfInBounds_toArray, List.set_cons_zero, List.set_cons_succ]
    refine wpAnyH_take (i := 5) (oi := { dst := some 13, op := _, type := _, pos := _, after := _, guard := _ }) (v := ?_) rfl (by kernel_rfl) (by kernel_rfl) (by kernel_rfl) (fun _ _ _ h => h) (Or.inl ⟨by kernel_rfl, ?_⟩) (by assumption) ?_
    rotate_left
    · intro w hSw
      try dsimp only at hSw
      go_simp
      try with_reducible rfl
    try simp only [Act.put, List.setIfInBounds_toArray, List.set_cons_zero, List.set_cons_succ]
    refine wpAnyH_take (i := 6) (oi := { dst := some 14, op := _, type := _, pos := _, after := _, guard := _ }) (v := ?_) rfl (by kernel_rfl) (by kernel_rfl) (by kernel_rfl) (fun _ _ _ h => h) (Or.inl ⟨by kernel_rfl, ?_⟩) (by assumption) ?_
    rotate_left
    · intro w hSw
      try dsimp only at hSw
      go_simp
      try with_reducible rfl
    try simp only [Act.put, List.setIfInBounds_toArray, List.set_cons_zero, List.set_cons_succ]
    refine wpAnyH_take (i := 7) (oi := { dst := some 15, op := _, type := _, pos := _, after := _, guard := _ }) (v := ?_) rfl (by kernel_rfl) (by kernel_rfl) (by kernel_rfl) (fun _ _ _ h => h) (Or.inl ⟨by kernel_rfl, ?_⟩) (by assumption) ?_
    rotate_left
    · intro w hSw
      try dsimp only at hSw
      have y0 : w.cell? ⟨gw, 0, none⟩ = some (.slice A n c) := hSw.2.cell 0
      have y4 : w.cell? ⟨gw, 4, none⟩ = some (.slice P m pc) := hSw.2.cell 4
      go_simp
      try with_reducible rfl
    try simp only [Act.put, List.setIfInBounds_toArray, List.set_cons_zero, List.set_cons_succ]
    refine wpAnyH_ready (rs := [8, 9]) (by kernel_rfl) (by simp) ?_
    refine AllReadyH.cons (o := { dst := some 16, op := _, type := _, pos := _, after := _, guard := _ }) rfl (fun K hK => ?_) (AllReadyH.cons (o := { dst := some 4, op := _, type := _, pos := _, after := _, guard := _ }) rfl (fun K hK => ?_) AllReadyH.nil)
    focus
      go_simp
      (try dsimp only at hHeld); go_split_ands
      refine (HSUM.out _ (hA.below (by assumption)) (Arr.own (own_below hown (by assumption)))).mono ?_; rintro e W ⟨rfl, hb⟩
      go_wp2_with fail
      refine hK.out _ _ ?_ (fun hHeld => ?_)
      · (try dsimp only); go_split_ands; exact ⟨bl_trans (by assumption) hb, Blk.below (by assumption) hb⟩
      clear hK K
      try simp only [Act.put, List.setIfInBounds_toArray, List.set_cons_zero, List.set_cons_succ]
      refine wpAnyH_ready (rs := [9]) (by kernel_rfl) (by simp) ?_
      refine AllReadyH.cons (o := { dst := some 4, op := _, type := _, pos := _, after := _, guard := _ }) rfl (fun K hK => ?_) AllReadyH.nil
      go_simp
      (try dsimp only at hHeld); go_split_ands
      obtain ⟨W2, hW2⟩ : ∃ W2, W2 = World.alloc W (Obj.cells #[Value.string ⟨#[]⟩, Value.int IntKind.i64 0, Value.int IntKind.i64 0, Value.int IntKind.i64 0, Value.int IntKind.i64 0] 76) := ⟨_, rfl⟩
      obtain ⟨gx, hgx⟩ : ∃ gx, gx = (W).heap.size := ⟨_, rfl⟩
      have hb : Below (W).heap.size (W) W2 := by rw [hW2]; exact bl_alloc (Below.refl _ _) _
      have hX0 : Blk W2 gx 76 #[Value.string ⟨#[]⟩, Value.int IntKind.i64 0, Value.int IntKind.i64 0, Value.int IntKind.i64 0, Value.int IntKind.i64 0] := by rw [hW2, hgx]; exact Blk.new _ _ _
      rw [← hW2, ← hgx]
      have hgx0 : w.heap.size ≤ gx := by have := (by assumption : Below w.heap.size w (W)).size; omega
      clear hW2 hgx
      have hgwx : gw ≠ gx := by have := hB.lt; omega
      refine hK.out _ _ ?_ (fun hHeld => ?_)
      · (try dsimp only); go_split_ands; exact ⟨bl_trans (by assumption) hb, Blk.below (by assumption) hb⟩
      clear hK K
      try simp only [Act.put, List.setIfInBounds_toArray, List.set_cons_zero, List.set_cons_succ]
      refine wpAnyH_ready (rs := [10]) (by kernel_rfl) (by simp) ?_
      refine AllReadyH.cons (o := { dst := none, op := _, type := _, pos := _, after := _, guard := _ }) rfl (fun K hK => ?_) AllReadyH.nil
      rw [if_pos (by kernel_rfl)]
      (try dsimp only at hHeld); go_split_ands
      refine wp_store_row 76 _ _ rfl gx #[Value.string ⟨#[]⟩, Value.int IntKind.i64 th, Value.int IntKind.i64 gm, Value.int IntKind.i64 sf, Value.int IntKind.i64 pr] rfl rfl 76 #[Value.string ⟨#[]⟩, Value.int IntKind.i64 0, Value.int IntKind.i64 0, Value.int IntKind.i64 0, Value.int IntKind.i64 0] hX0 (by kernel_rfl) rfl (by simp [Value.oneCell']) ?_
      obtain ⟨WS, hWS⟩ : ∃ WS, WS = World.setRow W2 gx #[Value.string ⟨#[]⟩, Value.int IntKind.i64 th, Value.int IntKind.i64 gm, Value.int IntKind.i64 sf, Value.int IntKind.i64 pr] := ⟨_, rfl⟩
      have hX : Blk WS gx 76 #[Value.string ⟨#[]⟩, Value.int IntKind.i64 th, Value.int IntKind.i64 gm, Value.int IntKind.i64 sf, Value.int IntKind.i64 pr] := by rw [hWS]; exact setRow_heap _ _ _ _ _ _ hX0
      have hvS : Below w.heap.size w WS := by rw [hWS]; exact below_setRow (by assumption) hgx0 _
      have hBS : Blk WS gw 79 #[Value.slice A n c, Value.int IntKind.i64 T, Value.int IntKind.i64 S, Value.bool gr, Value.slice P m pc, Value.slice B bm bd, Value.int IntKind.i64 lst] := by rw [hWS]; exact Blk.row (by assumption) hgwx _
      rw [← hWS]
      clear hWS
      refine hK.out _ _ ?_ (fun hHeld => ?_)
      · (try dsimp only); go_split_ands; exact ⟨hvS, hBS⟩
      clear hK K
      try simp only [Act.put]
      refine wpAnyH_done (by kernel_rfl) ?_ _
      clear hHeld hX0 hgx0 hgwx
    rotate_left
    focus
      go_simp
      (try dsimp only at hHeld); go_split_ands
      obtain ⟨W2, hW2⟩ : ∃ W2, W2 = (w.alloc (Obj.cells #[Value.string ⟨#[]⟩, Value.int IntKind.i64 0, Value.int IntKind.i64 0, Value.int IntKind.i64 0, Value.int IntKind.i64 0] 76)).drew := ⟨_, rfl⟩
      obtain ⟨gx, hgx⟩ : ∃ gx, gx = w.heap.size := ⟨_, rfl⟩
      have hb : Below w.heap.size w W2 := by rw [hW2]; exact (bl_alloc (Below.refl _ _) _).drew
      have hX0 : Blk W2 gx 76 #[Value.string ⟨#[]⟩, Value.int IntKind.i64 0, Value.int IntKind.i64 0, Value.int IntKind.i64 0, Value.int IntKind.i64 0] := by rw [hW2, hgx]; exact (Blk.new w 76 #[Value.string ⟨#[]⟩, Value.int IntKind.i64 0, Value.int IntKind.i64 0, Value.int IntKind.i64 0, Value.int IntKind.i64 0]).below (Below.refl _ _).drew
      have hBd : Blk W2 gw 79 #[Value.slice A n c, Value.int IntKind.i64 T, Value.int IntKind.i64 S, Value.bool gr, Value.slice P m pc, Value.slice B bm bd, Value.int IntKind.i64 lst] := hB.below hb
      rw [← hW2, ← hgx]
      have hgx0 : w.heap.size ≤ gx := by omega
      clear hW2 hgx
      have hgwx : gw ≠ gx := by have := hB.lt; omega
      refine hK.out _ _ ?_ (fun hHeld => ?_)
      · (try dsimp only); go_split_ands; exact ⟨hb, hBd⟩
      clear hK K
      try simp only [Act.put, List.setIfInBounds_toArray, List.set_cons_zero, List.set_cons_succ]
      refine wpAnyH_ready (rs := [8]) (by kernel_rfl) (by simp) ?_
      refine AllReadyH.cons (o := { dst := some 16, op := _, type := _, pos := _, after := _, guard := _ }) rfl (fun K hK => ?_) AllReadyH.nil
      go_simp
      (try dsimp only at hHeld); go_split_ands
      refine (HSUM.out _ (hA.below (by assumption)) (Arr.own (own_below hown (by assumption)))).mono ?_; rintro e W ⟨rfl, hb⟩
      replace hX0 := hX0.below hb
      go_wp2_with fail
      refine hK.out _ _ ?_ (fun hHeld => ?_)
      · (try dsimp only); go_split_ands; exact ⟨bl_trans (by assumption) hb, Blk.below (by assumption) hb⟩
      clear hK K
      try simp only [Act.put, List.setIfInBounds_toArray, List.set_cons_zero, List.set_cons_succ]
      refine wpAnyH_ready (rs := [10]) (by kernel_rfl) (by simp) ?_
      refine AllReadyH.cons (o := { dst := none, op := _, type := _, pos := _, after := _, guard := _ }) rfl (fun K hK => ?_) AllReadyH.nil
      rw [if_pos (by kernel_rfl)]
      (try dsimp only at hHeld); go_split_ands
      refine wp_store_row 76 _ _ rfl gx #[Value.string ⟨#[]⟩, Value.int IntKind.i64 th, Value.int IntKind.i64 gm, Value.int IntKind.i64 sf, Value.int IntKind.i64 pr] rfl rfl 76 #[Value.string ⟨#[]⟩, Value.int IntKind.i64 0, Value.int IntKind.i64 0, Value.int IntKind.i64 0, Value.int IntKind.i64 0] hX0 (by kernel_rfl) rfl (by simp [Value.oneCell']) ?_
      obtain ⟨WS, hWS⟩ : ∃ WS, WS = World.setRow W gx #[Value.string ⟨#[]⟩, Value.int IntKind.i64 th, Value.int IntKind.i64 gm, Value.int IntKind.i64 sf, Value.int IntKind.i64 pr] := ⟨_, rfl⟩
      have hX : Blk WS gx 76 #[Value.string ⟨#[]⟩, Value.int IntKind.i64 th, Value.int IntKind.i64 gm, Value.int IntKind.i64 sf, Value.int IntKind.i64 pr] := by rw [hWS]; exact setRow_heap _ _ _ _ _ _ hX0
      have hvS : Below w.heap.size w WS := by rw [hWS]; exact below_setRow (by assumption) hgx0 _
      have hBS : Blk WS gw 79 #[Value.slice A n c, Value.int IntKind.i64 T, Value.int IntKind.i64 S, Value.bool gr, Value.slice P m pc, Value.slice B bm bd, Value.int IntKind.i64 lst] := by rw [hWS]; exact Blk.row (by assumption) hgwx _
      rw [← hWS]
      clear hWS
      refine hK.out _ _ ?_ (fun hHeld => ?_)
      · (try dsimp only); go_split_ands; exact ⟨hvS, hBS⟩
      clear hK K
      try simp only [Act.put]
      refine wpAnyH_done (by kernel_rfl) ?_ _
      clear hHeld hX0 hgx0 hgwx
    all_goals
      have hownS := own_below hown hvS
      have hAbS := own_below hAb hvS
      have hbd : Below WS.heap.size WS WS.drew := (Below.refl _ _).drew
      have hbdd : Below WS.heap.size WS WS.drew.drew := hbd.drew
      have hfn : firstN ps ≤ n := by have := firstN_le hpo.out; rw [hn.out] at this; exact this
      have hm7 : ¬ (m : Int) = 6 := by omega
      have hm8 : ((m : Int) == 6) = false := by rw [beq_eq_false_iff_ne]; exact hm7
      have x1 : World.cell? WS ⟨gx, 1, none⟩ = some (.int .i64 th) := hX.cell 1
      have x2 : World.cell? WS ⟨gx, 2, none⟩ = some (.int .i64 gm) := hX.cell 2
      have x3 : World.cell? WS ⟨gx, 3, none⟩ = some (.int .i64 sf) := hX.cell 3
      have x4 : World.cell? WS ⟨gx, 4, none⟩ = some (.int .i64 pr) := hX.cell 4
      have y0 : World.cell? WS ⟨gw, 0, none⟩ = some (.slice A n c) := hBS.cell 0
      have y1 : World.cell? WS ⟨gw, 1, none⟩ = some (.int .i64 T) := hBS.cell 1
      have y2 : World.cell? WS ⟨gw, 2, none⟩ = some (.int .i64 S) := hBS.cell 2
      have y3 : World.cell? WS ⟨gw, 3, none⟩ = some (.bool gr) := hBS.cell 3
      have y4 : World.cell? WS ⟨gw, 4, none⟩ = some (.slice P m pc) := hBS.cell 4
      have y5 : World.cell? WS ⟨gw, 5, none⟩ = some (.slice B bm bd) := hBS.cell 5
      have y6 : World.cell? WS ⟨gw, 6, none⟩ = some (.int .i64 lst) := hBS.cell 6
      by_cases h1 : T < th
      · have HE := Lib.hid (show goS xs T S f (d + 1) ps st = st by simp only [goS]; rw [if_pos (.inl (by rw [HTH.out]; exact h1))])
        go_wp2_with fail
        refine wp_region_held_drew (S := fun w' => Below WS.heap.size WS w' ∧ Blk w' gx 76 #[Value.string ⟨#[]⟩, Value.int IntKind.i64 th, Value.int IntKind.i64 gm, Value.int IntKind.i64 sf, Value.int IntKind.i64 pr] ∧ Blk w' gw 79 #[Value.slice A n c, Value.int IntKind.i64 T, Value.int IntKind.i64 S, Value.bool gr, Value.slice P m pc, Value.slice B bm bd, Value.int IntKind.i64 lst]) (by kernel_rfl) ?_ (fun hHeld => ?_)
        · exact ⟨hbd, hX.below hbd, hBS.below hbd⟩
        refine wpAnyH_take (i := 0) (oi := { dst := some 17, op := _, type := _, pos := _, after := _, guard := _ }) (v := ?_) rfl (by kernel_rfl) (by kernel_rfl) (by kernel_rfl) (fun _ _ _ h => h) (Or.inl ⟨by kernel_rfl, ?_⟩) (by assumption) ?_
        rotate_left
        · intro w hSw
          try dsimp only at hSw
          go_simp
          try with_reducible rfl
        try simp only [Act.put, List.setIfInBounds_toArray, List.set_cons_zero, List.set_cons_succ]
        refine wpAnyH_take (i := 1) (oi := { dst := some 18, op := _, type := _, pos := _, after := _, guard := _ }) (v := ?_) rfl (by kernel_rfl) (by kernel_rfl) (by kernel_rfl) (fun _ _ _ h => h) (Or.inl ⟨by kernel_rfl, ?_⟩) (by assumption) ?_
        rotate_left
        · intro w hSw
          try dsimp only at hSw
          have x1 : w.cell? ⟨gx, 1, none⟩ = some (.int .i64 th) := hSw.2.1.cell 1
          have x2 : w.cell? ⟨gx, 2, none⟩ = some (.int .i64 gm) := hSw.2.1.cell 2
          have x3 : w.cell? ⟨gx, 3, none⟩ = some (.int .i64 sf) := hSw.2.1.cell 3
          have x4 : w.cell? ⟨gx, 4, none⟩ = some (.int .i64 pr) := hSw.2.1.cell 4
          have y1 : w.cell? ⟨gw, 1, none⟩ = some (.int .i64 T) := hSw.2.2.cell 1
          have y2 : w.cell? ⟨gw, 2, none⟩ = some (.int .i64 S) := hSw.2.2.cell 2
          have y6 : w.cell? ⟨gw, 6, none⟩ = some (.int .i64 lst) := hSw.2.2.cell 6
          go_simp
          try with_reducible rfl
        try simp only [Act.put, List.setIfInBounds_toArray, List.set_cons_zero, List.set_cons_succ]
        refine wpAnyH_take (i := 2) (oi := { dst := some 19, op := _, type := _, pos := _, after := _, guard := _ }) (v := ?_) rfl (by kernel_rfl) (by kernel_rfl) (by kernel_rfl) (fun _ _ _ h => h) (Or.inl ⟨by kernel_rfl, ?_⟩) (by assumption) ?_
        rotate_left
        · intro w hSw
          try dsimp only at hSw
          go_simp
          try with_reducible rfl
        try simp only [Act.put, List.setIfInBounds_toArray, List.set_cons_zero, List.set_cons_succ]
        refine wpAnyH_take (i := 3) (oi := { dst := some 20, op := _, type := _, pos := _, after := _, guard := _ }) (v := ?_) rfl (by kernel_rfl) (by kernel_rfl) (by kernel_rfl) (fun _ _ _ h => h) (Or.inl ⟨by kernel_rfl, ?_⟩) (by assumption) ?_
        rotate_left
        · intro w hSw
          try dsimp only at hSw
          go_simp
          try with_reducible rfl
        try simp only [Act.put, List.setIfInBounds_toArray, List.set_cons_zero, List.set_cons_succ]
        refine wpAnyH_take (i := 4) (oi := { dst := some 21, op := _, type := _, pos := _, after := _, guard := _ }) (v := ?_) rfl (by kernel_rfl) (by kernel_rfl) (by kernel_rfl) (fun _ _ _ h => h) (Or.inl ⟨by kernel_rfl, ?_⟩) (by assumption) ?_
        rotate_left
        · intro w hSw
          try dsimp only at hSw
          go_simp
          try with_reducible rfl
        try simp only [Act.put, List.setIfInBounds_toArray, List.set_cons_zero, List.set_cons_succ]
        refine wpAnyH_take (i := 5) (oi := { dst := some 22, op := _, type := _, pos := _, after := _, guard := _ }) (v := ?_) rfl (by kernel_rfl) (by kernel_rfl) (by kernel_rfl) (fun _ _ _ h => h) (Or.inl ⟨by kernel_rfl, ?_⟩) (by assumption) ?_
        rotate_left
        · intro w hSw
          try dsimp only at hSw
          have x1 : w.cell? ⟨gx, 1, none⟩ = some (.int .i64 th) := hSw.2.1.cell 1
          have x2 : w.cell? ⟨gx, 2, none⟩ = some (.int .i64 gm) := hSw.2.1.cell 2
          have x3 : w.cell? ⟨gx, 3, none⟩ = some (.int .i64 sf) := hSw.2.1.cell 3
          have x4 : w.cell? ⟨gx, 4, none⟩ = some (.int .i64 pr) := hSw.2.1.cell 4
          have y1 : w.cell? ⟨gw, 1, none⟩ = some (.int .i64 T) := hSw.2.2.cell 1
          have y2 : w.cell? ⟨gw, 2, none⟩ = some (.int .i64 S) := hSw.2.2.cell 2
          have y6 : w.cell? ⟨gw, 6, none⟩ = some (.int .i64 lst) := hSw.2.2.cell 6
          go_simp
          try with_reducible rfl
        try simp only [Act.put, List.setIfInBounds_toArray, List.set_cons_zero, List.set_cons_succ]
        refine wpAnyH_take (i := 6) (oi := { dst := some 23, op := _, type := _, pos := _, after := _, guard := _ }) (v := ?_) rfl (by kernel_rfl) (by kernel_rfl) (by kernel_rfl) (fun _ _ _ h => h) (Or.inl ⟨by kernel_rfl, ?_⟩) (by assumption) ?_
        rotate_left
        · intro w hSw
          try dsimp only at hSw
          go_simp
          try with_reducible rfl
        try simp only [Act.put, List.setIfInBounds_toArray, List.set_cons_zero, List.set_cons_succ]
        refine wpAnyH_take (i := 7) (oi := { dst := some 24, op := _, type := _, pos := _, after := _, guard := _ }) (v := ?_) rfl (by kernel_rfl) (by kernel_rfl) (by kernel_rfl) (fun _ _ _ h => h) (Or.inl ⟨by kernel_rfl, ?_⟩) (by assumption) ?_
        rotate_left
        · intro w hSw
          try dsimp only at hSw
          go_simp
          try with_reducible rfl
        try simp only [Act.put, List.setIfInBounds_toArray, List.set_cons_zero, List.set_cons_succ]
        refine wpAnyH_take (i := 8) (oi := { dst := some 25, op := _, type := _, pos := _, after := _, guard := _ }) (v := undef) rfl (by kernel_rfl) (by kernel_rfl) (by kernel_rfl) (fun _ _ _ h => h) (Or.inr ⟨by kernel_rfl, rfl⟩) (by assumption) ?_
        try simp only [Act.put, List.setIfInBounds_toArray, List.set_cons_zero, List.set_cons_succ]
        refine wpAnyH_take (i := 9) (oi := { dst := some 26, op := _, type := _, pos := _, after := _, guard := _ }) (v := undef) rfl (by kernel_rfl) (by kernel_rfl) (by kernel_rfl) (fun _ _ _ h => h) (Or.inr ⟨by kernel_rfl, rfl⟩) (by assumption) ?_
        try simp only [Act.put, List.setIfInBounds_toArray, List.set_cons_zero, List.set_cons_succ]
        refine wpAnyH_take (i := 10) (oi := { dst := some 27, op := _, type := _, pos := _, after := _, guard := _ }) (v := undef) rfl (by kernel_rfl) (by kernel_rfl) (by kernel_rfl) (fun _ _ _ h => h) (Or.inr ⟨by kernel_rfl, rfl⟩) (by assumption) ?_
        try simp only [Act.put, List.setIfInBounds_toArray, List.set_cons_zero, List.set_cons_succ]
        refine wpAnyH_take (i := 11) (oi := { dst := some 28, op := _, type := _, pos := _, after := _, guard := _ }) (v := undef) rfl (by kernel_rfl) (by kernel_rfl) (by kernel_rfl) (fun _ _ _ h => h) (Or.inr ⟨by kernel_rfl, rfl⟩) (by assumption) ?_
        try simp only [Act.put, List.setIfInBounds_toArray, List.set_cons_zero, List.set_cons_succ]
        refine wpAnyH_take (i := 12) (oi := { dst := some 29, op := _, type := _, pos := _, after := _, guard := _ }) (v := undef) rfl (by kernel_rfl) (by kernel_rfl) (by kernel_rfl) (fun _ _ _ h => h) (Or.inr ⟨by kernel_rfl, rfl⟩) (by assumption) ?_
        try simp only [Act.put, List.setIfInBounds_toArray, List.set_cons_zero, List.set_cons_succ]
        refine wpAnyH_take (i := 13) (oi := { dst := some 30, op := _, type := _, pos := _, after := _, guard := _ }) (v := undef) rfl (by kernel_rfl) (by kernel_rfl) (by kernel_rfl) (fun _ _ _ h => h) (Or.inr ⟨by kernel_rfl, rfl⟩) (by assumption) ?_
        try simp only [Act.put, List.setIfInBounds_toArray, List.set_cons_zero, List.set_cons_succ]
        refine wpAnyH_take (i := 14) (oi := { dst := some 31, op := _, type := _, pos := _, after := _, guard := _ }) (v := undef) rfl (by kernel_rfl) (by kernel_rfl) (by kernel_rfl) (fun _ _ _ h => h) (Or.inr ⟨by kernel_rfl, rfl⟩) (by assumption) ?_
        try simp only [Act.put, List.setIfInBounds_toArray, List.set_cons_zero, List.set_cons_succ]
        refine wpAnyH_take (i := 15) (oi := { dst := some 32, op := _, type := _, pos := _, after := _, guard := _ }) (v := ?_) rfl (by kernel_rfl) (by kernel_rfl) (by kernel_rfl) (fun _ _ _ h => h) (Or.inl ⟨by kernel_rfl, ?_⟩) (by assumption) ?_
        rotate_left
        · intro w hSw
          try dsimp only at hSw
          go_simp
          try with_reducible rfl
        try simp only [Act.put, List.setIfInBounds_toArray, List.set_cons_zero, List.set_cons_succ]
        refine wpAnyH_done (by kernel_rfl) ?_ _
        clear hHeld
        go_wp2_with fail
        go_returns
        rw [HE.out]
        exact ⟨rfl, ⟨P, pc, B, bd, by rw [HM.out, HBM.out, HLST.out]; exact hBS.below hbd, by rw [HM.out]; exact own_below hownS hbd, by rw [HBM.out]; exact own_below hAbS hbd, hne, fun ad e => ⟨by have := (hBlt ad e).1; have := hvS.size; have := hbd.size; omega, (hBlt ad e).2⟩, hPgw⟩, (bl_le hvS (by omega)).trans (bl_le hbd (by have := hvS.size; omega))⟩
      have h1c : th ≤ T := by omega
      have h1d : decide (T < th) = false := decide_eq_false h1
      by_cases h2 : S < sf
      · have HE := Lib.hid (show goS xs T S f (d + 1) ps st = st by simp only [goS]; rw [if_pos (.inr (by rw [HSF.out]; exact h2))])
        go_wp2_with fail
        refine wp_region_held_drew (S := fun w' => Below WS.heap.size WS w' ∧ Blk w' gx 76 #[Value.string ⟨#[]⟩, Value.int IntKind.i64 th, Value.int IntKind.i64 gm, Value.int IntKind.i64 sf, Value.int IntKind.i64 pr] ∧ Blk w' gw 79 #[Value.slice A n c, Value.int IntKind.i64 T, Value.int IntKind.i64 S, Value.bool gr, Value.slice P m pc, Value.slice B bm bd, Value.int IntKind.i64 lst]) (by kernel_rfl) ?_ (fun hHeld => ?_)
        · exact ⟨hbd, hX.below hbd, hBS.below hbd⟩
        refine wpAnyH_take (i := 0) (oi := { dst := some 17, op := _, type := _, pos := _, after := _, guard := _ }) (v := ?_) rfl (by kernel_rfl) (by kernel_rfl) (by kernel_rfl) (fun _ _ _ h => h) (Or.inl ⟨by kernel_rfl, ?_⟩) (by assumption) ?_
        rotate_left
        · intro w hSw
          try dsimp only at hSw
          go_simp
          try with_reducible rfl
        try simp only [Act.put, List.setIfInBounds_toArray, List.set_cons_zero, List.set_cons_succ]
        refine wpAnyH_take (i := 1) (oi := { dst := some 18, op := _, type := _, pos := _, after := _, guard := _ }) (v := ?_) rfl (by kernel_rfl) (by kernel_rfl) (by kernel_rfl) (fun _ _ _ h => h) (Or.inl ⟨by kernel_rfl, ?_⟩) (by assumption) ?_
        rotate_left
        · intro w hSw
          try dsimp only at hSw
          have x1 : w.cell? ⟨gx, 1, none⟩ = some (.int .i64 th) := hSw.2.1.cell 1
          have x2 : w.cell? ⟨gx, 2, none⟩ = some (.int .i64 gm) := hSw.2.1.cell 2
          have x3 : w.cell? ⟨gx, 3, none⟩ = some (.int .i64 sf) := hSw.2.1.cell 3
          have x4 : w.cell? ⟨gx, 4, none⟩ = some (.int .i64 pr) := hSw.2.1.cell 4
          have y1 : w.cell? ⟨gw, 1, none⟩ = some (.int .i64 T) := hSw.2.2.cell 1
          have y2 : w.cell? ⟨gw, 2, none⟩ = some (.int .i64 S) := hSw.2.2.cell 2
          have y6 : w.cell? ⟨gw, 6, none⟩ = some (.int .i64 lst) := hSw.2.2.cell 6
          go_simp
          try with_reducible rfl
        try simp only [Act.put, List.setIfInBounds_toArray, List.set_cons_zero, List.set_cons_succ]
        refine wpAnyH_take (i := 2) (oi := { dst := some 19, op := _, type := _, pos := _, after := _, guard := _ }) (v := ?_) rfl (by kernel_rfl) (by kernel_rfl) (by kernel_rfl) (fun _ _ _ h => h) (Or.inl ⟨by kernel_rfl, ?_⟩) (by assumption) ?_
        rotate_left
        · intro w hSw
          try dsimp only at hSw
          go_simp
          try with_reducible rfl
        try simp only [Act.put, List.setIfInBounds_toArray, List.set_cons_zero, List.set_cons_succ]
        refine wpAnyH_take (i := 3) (oi := { dst := some 20, op := _, type := _, pos := _, after := _, guard := _ }) (v := ?_) rfl (by kernel_rfl) (by kernel_rfl) (by kernel_rfl) (fun _ _ _ h => h) (Or.inl ⟨by kernel_rfl, ?_⟩) (by assumption) ?_
        rotate_left
        · intro w hSw
          try dsimp only at hSw
          go_simp
          try with_reducible rfl
        try simp only [Act.put, List.setIfInBounds_toArray, List.set_cons_zero, List.set_cons_succ]
        refine wpAnyH_take (i := 4) (oi := { dst := some 21, op := _, type := _, pos := _, after := _, guard := _ }) (v := ?_) rfl (by kernel_rfl) (by kernel_rfl) (by kernel_rfl) (fun _ _ _ h => h) (Or.inl ⟨by kernel_rfl, ?_⟩) (by assumption) ?_
        rotate_left
        · intro w hSw
          try dsimp only at hSw
          go_simp
          try with_reducible rfl
        try simp only [Act.put, List.setIfInBounds_toArray, List.set_cons_zero, List.set_cons_succ]
        refine wpAnyH_take (i := 5) (oi := { dst := some 22, op := _, type := _, pos := _, after := _, guard := _ }) (v := ?_) rfl (by kernel_rfl) (by kernel_rfl) (by kernel_rfl) (fun _ _ _ h => h) (Or.inl ⟨by kernel_rfl, ?_⟩) (by assumption) ?_
        rotate_left
        · intro w hSw
          try dsimp only at hSw
          have x1 : w.cell? ⟨gx, 1, none⟩ = some (.int .i64 th) := hSw.2.1.cell 1
          have x2 : w.cell? ⟨gx, 2, none⟩ = some (.int .i64 gm) := hSw.2.1.cell 2
          have x3 : w.cell? ⟨gx, 3, none⟩ = some (.int .i64 sf) := hSw.2.1.cell 3
          have x4 : w.cell? ⟨gx, 4, none⟩ = some (.int .i64 pr) := hSw.2.1.cell 4
          have y1 : w.cell? ⟨gw, 1, none⟩ = some (.int .i64 T) := hSw.2.2.cell 1
          have y2 : w.cell? ⟨gw, 2, none⟩ = some (.int .i64 S) := hSw.2.2.cell 2
          have y6 : w.cell? ⟨gw, 6, none⟩ = some (.int .i64 lst) := hSw.2.2.cell 6
          go_simp
          try with_reducible rfl
        try simp only [Act.put, List.setIfInBounds_toArray, List.set_cons_zero, List.set_cons_succ]
        refine wpAnyH_take (i := 6) (oi := { dst := some 23, op := _, type := _, pos := _, after := _, guard := _ }) (v := ?_) rfl (by kernel_rfl) (by kernel_rfl) (by kernel_rfl) (fun _ _ _ h => h) (Or.inl ⟨by kernel_rfl, ?_⟩) (by assumption) ?_
        rotate_left
        · intro w hSw
          try dsimp only at hSw
          go_simp
          try with_reducible rfl
        try simp only [Act.put, List.setIfInBounds_toArray, List.set_cons_zero, List.set_cons_succ]
        refine wpAnyH_take (i := 7) (oi := { dst := some 24, op := _, type := _, pos := _, after := _, guard := _ }) (v := ?_) rfl (by kernel_rfl) (by kernel_rfl) (by kernel_rfl) (fun _ _ _ h => h) (Or.inl ⟨by kernel_rfl, ?_⟩) (by assumption) ?_
        rotate_left
        · intro w hSw
          try dsimp only at hSw
          go_simp
          try with_reducible rfl
        try simp only [Act.put, List.setIfInBounds_toArray, List.set_cons_zero, List.set_cons_succ]
        refine wpAnyH_take (i := 8) (oi := { dst := some 25, op := _, type := _, pos := _, after := _, guard := _ }) (v := ?_) rfl (by kernel_rfl) (by kernel_rfl) (by kernel_rfl) (fun _ _ _ h => h) (Or.inl ⟨by kernel_rfl, ?_⟩) (by assumption) ?_
        rotate_left
        · intro w hSw
          try dsimp only at hSw
          go_simp
          try with_reducible rfl
        try simp only [Act.put, List.setIfInBounds_toArray, List.set_cons_zero, List.set_cons_succ]
        refine wpAnyH_take (i := 9) (oi := { dst := some 26, op := _, type := _, pos := _, after := _, guard := _ }) (v := ?_) rfl (by kernel_rfl) (by kernel_rfl) (by kernel_rfl) (fun _ _ _ h => h) (Or.inl ⟨by kernel_rfl, ?_⟩) (by assumption) ?_
        rotate_left
        · intro w hSw
          try dsimp only at hSw
          have x1 : w.cell? ⟨gx, 1, none⟩ = some (.int .i64 th) := hSw.2.1.cell 1
          have x2 : w.cell? ⟨gx, 2, none⟩ = some (.int .i64 gm) := hSw.2.1.cell 2
          have x3 : w.cell? ⟨gx, 3, none⟩ = some (.int .i64 sf) := hSw.2.1.cell 3
          have x4 : w.cell? ⟨gx, 4, none⟩ = some (.int .i64 pr) := hSw.2.1.cell 4
          have y1 : w.cell? ⟨gw, 1, none⟩ = some (.int .i64 T) := hSw.2.2.cell 1
          have y2 : w.cell? ⟨gw, 2, none⟩ = some (.int .i64 S) := hSw.2.2.cell 2
          have y6 : w.cell? ⟨gw, 6, none⟩ = some (.int .i64 lst) := hSw.2.2.cell 6
          go_simp
          try with_reducible rfl
        try simp only [Act.put, List.setIfInBounds_toArray, List.set_cons_zero, List.set_cons_succ]
        refine wpAnyH_take (i := 10) (oi := { dst := some 27, op := _, type := _, pos := _, after := _, guard := _ }) (v := ?_) rfl (by kernel_rfl) (by kernel_rfl) (by kernel_rfl) (fun _ _ _ h => h) (Or.inl ⟨by kernel_rfl, ?_⟩) (by assumption) ?_
        rotate_left
        · intro w hSw
          try dsimp only at hSw
          go_simp
          try with_reducible rfl
        try simp only [Act.put, List.setIfInBounds_toArray, List.set_cons_zero, List.set_cons_succ]
        refine wpAnyH_take (i := 11) (oi := { dst := some 28, op := _, type := _, pos := _, after := _, guard := _ }) (v := ?_) rfl (by kernel_rfl) (by kernel_rfl) (by kernel_rfl) (fun _ _ _ h => h) (Or.inl ⟨by kernel_rfl, ?_⟩) (by assumption) ?_
        rotate_left
        · intro w hSw
          try dsimp only at hSw
          go_simp
          try with_reducible rfl
        try simp only [Act.put, List.setIfInBounds_toArray, List.set_cons_zero, List.set_cons_succ]
        refine wpAnyH_take (i := 12) (oi := { dst := some 29, op := _, type := _, pos := _, after := _, guard := _ }) (v := ?_) rfl (by kernel_rfl) (by kernel_rfl) (by kernel_rfl) (fun _ _ _ h => h) (Or.inl ⟨by kernel_rfl, ?_⟩) (by assumption) ?_
        rotate_left
        · intro w hSw
          try dsimp only at hSw
          go_simp
          try with_reducible rfl
        try simp only [Act.put, List.setIfInBounds_toArray, List.set_cons_zero, List.set_cons_succ]
        refine wpAnyH_take (i := 13) (oi := { dst := some 30, op := _, type := _, pos := _, after := _, guard := _ }) (v := ?_) rfl (by kernel_rfl) (by kernel_rfl) (by kernel_rfl) (fun _ _ _ h => h) (Or.inl ⟨by kernel_rfl, ?_⟩) (by assumption) ?_
        rotate_left
        · intro w hSw
          try dsimp only at hSw
          have x1 : w.cell? ⟨gx, 1, none⟩ = some (.int .i64 th) := hSw.2.1.cell 1
          have x2 : w.cell? ⟨gx, 2, none⟩ = some (.int .i64 gm) := hSw.2.1.cell 2
          have x3 : w.cell? ⟨gx, 3, none⟩ = some (.int .i64 sf) := hSw.2.1.cell 3
          have x4 : w.cell? ⟨gx, 4, none⟩ = some (.int .i64 pr) := hSw.2.1.cell 4
          have y1 : w.cell? ⟨gw, 1, none⟩ = some (.int .i64 T) := hSw.2.2.cell 1
          have y2 : w.cell? ⟨gw, 2, none⟩ = some (.int .i64 S) := hSw.2.2.cell 2
          have y6 : w.cell? ⟨gw, 6, none⟩ = some (.int .i64 lst) := hSw.2.2.cell 6
          go_simp
          try with_reducible rfl
        try simp only [Act.put, List.setIfInBounds_toArray, List.set_cons_zero, List.set_cons_succ]
        refine wpAnyH_take (i := 14) (oi := { dst := some 31, op := _, type := _, pos := _, after := _, guard := _ }) (v := ?_) rfl (by kernel_rfl) (by kernel_rfl) (by kernel_rfl) (fun _ _ _ h => h) (Or.inl ⟨by kernel_rfl, ?_⟩) (by assumption) ?_
        rotate_left
        · intro w hSw
          try dsimp only at hSw
          go_simp
          try with_reducible rfl
        try simp only [Act.put, List.setIfInBounds_toArray, List.set_cons_zero, List.set_cons_succ]
        refine wpAnyH_take (i := 15) (oi := { dst := some 32, op := _, type := _, pos := _, after := _, guard := _ }) (v := ?_) rfl (by kernel_rfl) (by kernel_rfl) (by kernel_rfl) (fun _ _ _ h => h) (Or.inl ⟨by kernel_rfl, ?_⟩) (by assumption) ?_
        rotate_left
        · intro w hSw
          try dsimp only at hSw
          go_simp
          try with_reducible rfl
        try simp only [Act.put, List.setIfInBounds_toArray, List.set_cons_zero, List.set_cons_succ]
        refine wpAnyH_done (by kernel_rfl) ?_ _
        clear hHeld
        go_wp2_with fail
        go_returns
        rw [HE.out]
        exact ⟨rfl, ⟨P, pc, B, bd, by rw [HM.out, HBM.out, HLST.out]; exact hBS.below hbd, by rw [HM.out]; exact own_below hownS hbd, by rw [HBM.out]; exact own_below hAbS hbd, hne, fun ad e => ⟨by have := (hBlt ad e).1; have := hvS.size; have := hbd.size; omega, (hBlt ad e).2⟩, hPgw⟩, (bl_le hvS (by omega)).trans (bl_le hbd (by have := hvS.size; omega))⟩
      have h2c : sf ≤ S := by omega
      have h2d : decide (S < sf) = false := decide_eq_false h2
      have HAL := Lib.hid (show goS xs T S f (d + 1) ps st = iterB (fun k s => goS xs T S f d (ps ++ [(k : Int)]) s) (firstN ps) (n - firstN ps) (updB xs T S f ps st) by simp only [goS]; rw [if_neg (by unfold deadP; rw [HTH.out, HSF.out]; omega), hn.out])
      cases gr
      case true =>
        have HCST : Hid (sumR f xs ps = gm) := Lib.hid (by rw [hf.out]; exact (by rw [if_pos rfl]; exact HGM.out))
        go_wp2_with fail
        refine wp_region_held_drew (S := fun w' => Below WS.heap.size WS w' ∧ Blk w' gx 76 #[Value.string ⟨#[]⟩, Value.int IntKind.i64 th, Value.int IntKind.i64 gm, Value.int IntKind.i64 sf, Value.int IntKind.i64 pr] ∧ Blk w' gw 79 #[Value.slice A n c, Value.int IntKind.i64 T, Value.int IntKind.i64 S, Value.bool true, Value.slice P m pc, Value.slice B bm bd, Value.int IntKind.i64 lst]) (by kernel_rfl) ?_ (fun hHeld => ?_)
        · exact ⟨hbd, hX.below hbd, hBS.below hbd⟩
        refine wpAnyH_take (i := 0) (oi := { dst := some 17, op := _, type := _, pos := _, after := _, guard := _ }) (v := ?_) rfl (by kernel_rfl) (by kernel_rfl) (by kernel_rfl) (fun _ _ _ h => h) (Or.inl ⟨by kernel_rfl, ?_⟩) (by assumption) ?_
        rotate_left
        · intro w hSw
          try dsimp only at hSw
          go_simp
          try with_reducible rfl
        try simp only [Act.put, List.setIfInBounds_toArray, List.set_cons_zero, List.set_cons_succ]
        refine wpAnyH_take (i := 1) (oi := { dst := some 18, op := _, type := _, pos := _, after := _, guard := _ }) (v := ?_) rfl (by kernel_rfl) (by kernel_rfl) (by kernel_rfl) (fun _ _ _ h => h) (Or.inl ⟨by kernel_rfl, ?_⟩) (by assumption) ?_
        rotate_left
        · intro w hSw
          try dsimp only at hSw
          have x1 : w.cell? ⟨gx, 1, none⟩ = some (.int .i64 th) := hSw.2.1.cell 1
          have x2 : w.cell? ⟨gx, 2, none⟩ = some (.int .i64 gm) := hSw.2.1.cell 2
          have x3 : w.cell? ⟨gx, 3, none⟩ = some (.int .i64 sf) := hSw.2.1.cell 3
          have x4 : w.cell? ⟨gx, 4, none⟩ = some (.int .i64 pr) := hSw.2.1.cell 4
          have y1 : w.cell? ⟨gw, 1, none⟩ = some (.int .i64 T) := hSw.2.2.cell 1
          have y2 : w.cell? ⟨gw, 2, none⟩ = some (.int .i64 S) := hSw.2.2.cell 2
          have y6 : w.cell? ⟨gw, 6, none⟩ = some (.int .i64 lst) := hSw.2.2.cell 6
          go_simp
          try with_reducible rfl
        try simp only [Act.put, List.setIfInBounds_toArray, List.set_cons_zero, List.set_cons_succ]
        refine wpAnyH_take (i := 2) (oi := { dst := some 19, op := _, type := _, pos := _, after := _, guard := _ }) (v := ?_) rfl (by kernel_rfl) (by kernel_rfl) (by kernel_rfl) (fun _ _ _ h => h) (Or.inl ⟨by kernel_rfl, ?_⟩) (by assumption) ?_
        rotate_left
        · intro w hSw
          try dsimp only at hSw
          go_simp
          try with_reducible rfl
        try simp only [Act.put, List.setIfInBounds_toArray, List.set_cons_zero, List.set_cons_succ]
        refine wpAnyH_take (i := 3) (oi := { dst := some 20, op := _, type := _, pos := _, after := _, guard := _ }) (v := ?_) rfl (by kernel_rfl) (by kernel_rfl) (by kernel_rfl) (fun _ _ _ h => h) (Or.inl ⟨by kernel_rfl, ?_⟩) (by assumption) ?_
        rotate_left
        · intro w hSw
          try dsimp only at hSw
          go_simp
          try with_reducible rfl
        try simp only [Act.put, List.setIfInBounds_toArray, List.set_cons_zero, List.set_cons_succ]
        refine wpAnyH_take (i := 4) (oi := { dst := some 21, op := _, type := _, pos := _, after := _, guard := _ }) (v := ?_) rfl (by kernel_rfl) (by kernel_rfl) (by kernel_rfl) (fun _ _ _ h => h) (Or.inl ⟨by kernel_rfl, ?_⟩) (by assumption) ?_
        rotate_left
        · intro w hSw
          try dsimp only at hSw
          go_simp
          try with_reducible rfl
        try simp only [Act.put, List.setIfInBounds_toArray, List.set_cons_zero, List.set_cons_succ]
        refine wpAnyH_take (i := 5) (oi := { dst := some 22, op := _, type := _, pos := _, after := _, guard := _ }) (v := ?_) rfl (by kernel_rfl) (by kernel_rfl) (by kernel_rfl) (fun _ _ _ h => h) (Or.inl ⟨by kernel_rfl, ?_⟩) (by assumption) ?_
        rotate_left
        · intro w hSw
          try dsimp only at hSw
          have x1 : w.cell? ⟨gx, 1, none⟩ = some (.int .i64 th) := hSw.2.1.cell 1
          have x2 : w.cell? ⟨gx, 2, none⟩ = some (.int .i64 gm) := hSw.2.1.cell 2
          have x3 : w.cell? ⟨gx, 3, none⟩ = some (.int .i64 sf) := hSw.2.1.cell 3
          have x4 : w.cell? ⟨gx, 4, none⟩ = some (.int .i64 pr) := hSw.2.1.cell 4
          have y1 : w.cell? ⟨gw, 1, none⟩ = some (.int .i64 T) := hSw.2.2.cell 1
          have y2 : w.cell? ⟨gw, 2, none⟩ = some (.int .i64 S) := hSw.2.2.cell 2
          have y6 : w.cell? ⟨gw, 6, none⟩ = some (.int .i64 lst) := hSw.2.2.cell 6
          go_simp
          try with_reducible rfl
        try simp only [Act.put, List.setIfInBounds_toArray, List.set_cons_zero, List.set_cons_succ]
        refine wpAnyH_take (i := 6) (oi := { dst := some 23, op := _, type := _, pos := _, after := _, guard := _ }) (v := ?_) rfl (by kernel_rfl) (by kernel_rfl) (by kernel_rfl) (fun _ _ _ h => h) (Or.inl ⟨by kernel_rfl, ?_⟩) (by assumption) ?_
        rotate_left
        · intro w hSw
          try dsimp only at hSw
          go_simp
          try with_reducible rfl
        try simp only [Act.put, List.setIfInBounds_toArray, List.set_cons_zero, List.set_cons_succ]
        refine wpAnyH_take (i := 7) (oi := { dst := some 24, op := _, type := _, pos := _, after := _, guard := _ }) (v := ?_) rfl (by kernel_rfl) (by kernel_rfl) (by kernel_rfl) (fun _ _ _ h => h) (Or.inl ⟨by kernel_rfl, ?_⟩) (by assumption) ?_
        rotate_left
        · intro w hSw
          try dsimp only at hSw
          go_simp
          try with_reducible rfl
        try simp only [Act.put, List.setIfInBounds_toArray, List.set_cons_zero, List.set_cons_succ]
        refine wpAnyH_take (i := 8) (oi := { dst := some 25, op := _, type := _, pos := _, after := _, guard := _ }) (v := ?_) rfl (by kernel_rfl) (by kernel_rfl) (by kernel_rfl) (fun _ _ _ h => h) (Or.inl ⟨by kernel_rfl, ?_⟩) (by assumption) ?_
        rotate_left
        · intro w hSw
          try dsimp only at hSw
          go_simp
          try with_reducible rfl
        try simp only [Act.put, List.setIfInBounds_toArray, List.set_cons_zero, List.set_cons_succ]
        refine wpAnyH_take (i := 9) (oi := { dst := some 26, op := _, type := _, pos := _, after := _, guard := _ }) (v := ?_) rfl (by kernel_rfl) (by kernel_rfl) (by kernel_rfl) (fun _ _ _ h => h) (Or.inl ⟨by kernel_rfl, ?_⟩) (by assumption) ?_
        rotate_left
        · intro w hSw
          try dsimp only at hSw
          have x1 : w.cell? ⟨gx, 1, none⟩ = some (.int .i64 th) := hSw.2.1.cell 1
          have x2 : w.cell? ⟨gx, 2, none⟩ = some (.int .i64 gm) := hSw.2.1.cell 2
          have x3 : w.cell? ⟨gx, 3, none⟩ = some (.int .i64 sf) := hSw.2.1.cell 3
          have x4 : w.cell? ⟨gx, 4, none⟩ = some (.int .i64 pr) := hSw.2.1.cell 4
          have y1 : w.cell? ⟨gw, 1, none⟩ = some (.int .i64 T) := hSw.2.2.cell 1
          have y2 : w.cell? ⟨gw, 2, none⟩ = some (.int .i64 S) := hSw.2.2.cell 2
          have y6 : w.cell? ⟨gw, 6, none⟩ = some (.int .i64 lst) := hSw.2.2.cell 6
          go_simp
          try with_reducible rfl
        try simp only [Act.put, List.setIfInBounds_toArray, List.set_cons_zero, List.set_cons_succ]
        refine wpAnyH_take (i := 10) (oi := { dst := some 27, op := _, type := _, pos := _, after := _, guard := _ }) (v := ?_) rfl (by kernel_rfl) (by kernel_rfl) (by kernel_rfl) (fun _ _ _ h => h) (Or.inl ⟨by kernel_rfl, ?_⟩) (by assumption) ?_
        rotate_left
        · intro w hSw
          try dsimp only at hSw
          go_simp
          try with_reducible rfl
        try simp only [Act.put, List.setIfInBounds_toArray, List.set_cons_zero, List.set_cons_succ]
        refine wpAnyH_take (i := 11) (oi := { dst := some 28, op := _, type := _, pos := _, after := _, guard := _ }) (v := ?_) rfl (by kernel_rfl) (by kernel_rfl) (by kernel_rfl) (fun _ _ _ h => h) (Or.inl ⟨by kernel_rfl, ?_⟩) (by assumption) ?_
        rotate_left
        · intro w hSw
          try dsimp only at hSw
          go_simp
          try with_reducible rfl
        try simp only [Act.put, List.setIfInBounds_toArray, List.set_cons_zero, List.set_cons_succ]
        refine wpAnyH_take (i := 12) (oi := { dst := some 29, op := _, type := _, pos := _, after := _, guard := _ }) (v := ?_) rfl (by kernel_rfl) (by kernel_rfl) (by kernel_rfl) (fun _ _ _ h => h) (Or.inl ⟨by kernel_rfl, ?_⟩) (by assumption) ?_
        rotate_left
        · intro w hSw
          try dsimp only at hSw
          go_simp
          try with_reducible rfl
        try simp only [Act.put, List.setIfInBounds_toArray, List.set_cons_zero, List.set_cons_succ]
        refine wpAnyH_take (i := 13) (oi := { dst := some 30, op := _, type := _, pos := _, after := _, guard := _ }) (v := ?_) rfl (by kernel_rfl) (by kernel_rfl) (by kernel_rfl) (fun _ _ _ h => h) (Or.inl ⟨by kernel_rfl, ?_⟩) (by assumption) ?_
        rotate_left
        · intro w hSw
          try dsimp only at hSw
          have x1 : w.cell? ⟨gx, 1, none⟩ = some (.int .i64 th) := hSw.2.1.cell 1
          have x2 : w.cell? ⟨gx, 2, none⟩ = some (.int .i64 gm) := hSw.2.1.cell 2
          have x3 : w.cell? ⟨gx, 3, none⟩ = some (.int .i64 sf) := hSw.2.1.cell 3
          have x4 : w.cell? ⟨gx, 4, none⟩ = some (.int .i64 pr) := hSw.2.1.cell 4
          have y1 : w.cell? ⟨gw, 1, none⟩ = some (.int .i64 T) := hSw.2.2.cell 1
          have y2 : w.cell? ⟨gw, 2, none⟩ = some (.int .i64 S) := hSw.2.2.cell 2
          have y6 : w.cell? ⟨gw, 6, none⟩ = some (.int .i64 lst) := hSw.2.2.cell 6
          go_simp
          try with_reducible rfl
        try simp only [Act.put, List.setIfInBounds_toArray, List.set_cons_zero, List.set_cons_succ]
        refine wpAnyH_take (i := 14) (oi := { dst := some 31, op := _, type := _, pos := _, after := _, guard := _ }) (v := ?_) rfl (by kernel_rfl) (by kernel_rfl) (by kernel_rfl) (fun _ _ _ h => h) (Or.inl ⟨by kernel_rfl, ?_⟩) (by assumption) ?_
        rotate_left
        · intro w hSw
          try dsimp only at hSw
          go_simp
          try with_reducible rfl
        try simp only [Act.put, List.setIfInBounds_toArray, List.set_cons_zero, List.set_cons_succ]
        refine wpAnyH_take (i := 15) (oi := { dst := some 32, op := _, type := _, pos := _, after := _, guard := _ }) (v := ?_) rfl (by kernel_rfl) (by kernel_rfl) (by kernel_rfl) (fun _ _ _ h => h) (Or.inl ⟨by kernel_rfl, ?_⟩) (by assumption) ?_
        rotate_left
        · intro w hSw
          try dsimp only at hSw
          go_simp
          try with_reducible rfl
        try simp only [Act.put, List.setIfInBounds_toArray, List.set_cons_zero, List.set_cons_succ]
        refine wpAnyH_done (by kernel_rfl) ?_ _
        clear hHeld
        go_wp2_with fail
        by_cases h3 : th = T
        · have h3b : (th == T) = true := by rw [beq_iff_eq]; exact h3
          have H3 := Lib.hid h3
          clear h3
          by_cases h4 : lst < 0
          · have h4d : decide (lst < 0) = true := decide_eq_true h4
            have hm0 : 0 < m := by
              rcases Nat.eq_zero_or_pos m with h | h
              · have h9 : ps = [] := List.eq_nil_of_length_eq_zero (by rw [HM.out]; exact h)
                have h10 := HTH.out
                rw [h9] at h10
                have h11 : sumR Stuff.thick xs [] = 0 := rfl
                have h12 := H3.out
                omega
              · exact h
            have f5 := hBS.frozen 5
            have f6 := hBS.frozen 6
            refine wp_region_held_drew (S := fun w' => Below WS.heap.size WS w' ∧ Blk w' gx 76 #[Value.string ⟨#[]⟩, Value.int IntKind.i64 th, Value.int IntKind.i64 gm, Value.int IntKind.i64 sf, Value.int IntKind.i64 pr] ∧ Blk w' gw 79 #[Value.slice A n c, Value.int IntKind.i64 T, Value.int IntKind.i64 S, Value.bool true, Value.slice P m pc, Value.slice B bm bd, Value.int IntKind.i64 lst]) (by kernel_rfl) ?_ (fun hHeld => ?_)
            · exact ⟨hbdd, hX.below hbdd, hBS.below hbdd⟩
            refine wpAnyH_take (i := 0) (oi := { dst := some 41, op := _, type := _, pos := _, after := _, guard := _ }) (v := ?_) rfl (by kernel_rfl) (by kernel_rfl) (by kernel_rfl) (fun _ _ _ h => h) (Or.inl ⟨by kernel_rfl, ?_⟩) (by assumption) ?_
            rotate_left
            · intro w hSw
              try dsimp only at hSw
              go_simp
              try with_reducible rfl
            try simp only [Act.put, List.setIfInBounds_toArray, List.set_cons_zero, List.set_cons_succ]
            refine wpAnyH_take (i := 1) (oi := { dst := some 42, op := _, type := _, pos := _, after := _, guard := _ }) (v := ?_) rfl (by kernel_rfl) (by kernel_rfl) (by kernel_rfl) (fun _ _ _ h => h) (Or.inl ⟨by kernel_rfl, ?_⟩) (by assumption) ?_
            rotate_left
            · intro w hSw
              try dsimp only at hSw
              have x1 : w.cell? ⟨gx, 1, none⟩ = some (.int .i64 th) := hSw.2.1.cell 1
              have x2 : w.cell? ⟨gx, 2, none⟩ = some (.int .i64 gm) := hSw.2.1.cell 2
              have x3 : w.cell? ⟨gx, 3, none⟩ = some (.int .i64 sf) := hSw.2.1.cell 3
              have x4 : w.cell? ⟨gx, 4, none⟩ = some (.int .i64 pr) := hSw.2.1.cell 4
              have y1 : w.cell? ⟨gw, 1, none⟩ = some (.int .i64 T) := hSw.2.2.cell 1
              have y2 : w.cell? ⟨gw, 2, none⟩ = some (.int .i64 S) := hSw.2.2.cell 2
              have y6 : w.cell? ⟨gw, 6, none⟩ = some (.int .i64 lst) := hSw.2.2.cell 6
              go_simp
              try with_reducible rfl
            try simp only [Act.put, List.setIfInBounds_toArray, List.set_cons_zero, List.set_cons_succ]
            refine wpAnyH_take (i := 2) (oi := { dst := some 43, op := _, type := _, pos := _, after := _, guard := _ }) (v := ?_) rfl (by kernel_rfl) (by kernel_rfl) (by kernel_rfl) (fun _ _ _ h => h) (Or.inl ⟨by kernel_rfl, ?_⟩) (by assumption) ?_
            rotate_left
            · intro w hSw
              try dsimp only at hSw
              go_simp
              try with_reducible rfl
            try simp only [Act.put, List.setIfInBounds_toArray, List.set_cons_zero, List.set_cons_succ]
            refine wpAnyH_take (i := 3) (oi := { dst := some 44, op := _, type := _, pos := _, after := _, guard := _ }) (v := ?_) rfl (by kernel_rfl) (by kernel_rfl) (by kernel_rfl) (fun _ _ _ h => h) (Or.inl ⟨by kernel_rfl, ?_⟩) (by assumption) ?_
            rotate_left
            · intro w hSw
              try dsimp only at hSw
              go_simp
              try with_reducible rfl
            try simp only [Act.put, List.setIfInBounds_toArray, List.set_cons_zero, List.set_cons_succ]
            refine wpAnyH_take (i := 4) (oi := { dst := some 45, op := _, type := _, pos := _, after := _, guard := _ }) (v := ?_) rfl (by kernel_rfl) (by kernel_rfl) (by kernel_rfl) (fun _ _ _ h => h) (Or.inl ⟨by kernel_rfl, ?_⟩) (by assumption) ?_
            rotate_left
            · intro w hSw
              try dsimp only at hSw
              go_simp
              try with_reducible rfl
            try simp only [Act.put, List.setIfInBounds_toArray, List.set_cons_zero, List.set_cons_succ]
            refine wpAnyH_take (i := 5) (oi := { dst := some 46, op := _, type := _, pos := _, after := _, guard := _ }) (v := ?_) rfl (by kernel_rfl) (by kernel_rfl) (by kernel_rfl) (fun _ _ _ h => h) (Or.inl ⟨by kernel_rfl, ?_⟩) (by assumption) ?_
            rotate_left
            · intro w hSw
              try dsimp only at hSw
              have x1 : w.cell? ⟨gx, 1, none⟩ = some (.int .i64 th) := hSw.2.1.cell 1
              have x2 : w.cell? ⟨gx, 2, none⟩ = some (.int .i64 gm) := hSw.2.1.cell 2
              have x3 : w.cell? ⟨gx, 3, none⟩ = some (.int .i64 sf) := hSw.2.1.cell 3
              have x4 : w.cell? ⟨gx, 4, none⟩ = some (.int .i64 pr) := hSw.2.1.cell 4
              have y1 : w.cell? ⟨gw, 1, none⟩ = some (.int .i64 T) := hSw.2.2.cell 1
              have y2 : w.cell? ⟨gw, 2, none⟩ = some (.int .i64 S) := hSw.2.2.cell 2
              have y6 : w.cell? ⟨gw, 6, none⟩ = some (.int .i64 lst) := hSw.2.2.cell 6
              go_simp
              try with_reducible rfl
            try simp only [Act.put, List.setIfInBounds_toArray, List.set_cons_zero, List.set_cons_succ]
            refine wpAnyH_take (i := 6) (oi := { dst := some 47, op := _, type := _, pos := _, after := _, guard := _ }) (v := ?_) rfl (by kernel_rfl) (by kernel_rfl) (by kernel_rfl) (fun _ _ _ h => h) (Or.inl ⟨by kernel_rfl, ?_⟩) (by assumption) ?_
            rotate_left
            · intro w hSw
              try dsimp only at hSw
              go_simp
              try with_reducible rfl
            try simp only [Act.put, List.setIfInBounds_toArray, List.set_cons_zero, List.set_cons_succ]
            refine wpAnyH_take (i := 7) (oi := { dst := some 48, op := _, type := _, pos := _, after := _, guard := _ }) (v := ?_) rfl (by kernel_rfl) (by kernel_rfl) (by kernel_rfl) (fun _ _ _ h => h) (Or.inl ⟨by kernel_rfl, ?_⟩) (by assumption) ?_
            rotate_left
            · intro w hSw
              try dsimp only at hSw
              go_simp
              try with_reducible rfl
            try simp only [Act.put, List.setIfInBounds_toArray, List.set_cons_zero, List.set_cons_succ]
            refine wpAnyH_take (i := 8) (oi := { dst := some 49, op := _, type := _, pos := _, after := _, guard := _ }) (v := ?_) rfl (by kernel_rfl) (by kernel_rfl) (by kernel_rfl) (fun _ _ _ h => h) (Or.inl ⟨by kernel_rfl, ?_⟩) (by assumption) ?_
            rotate_left
            · intro w hSw
              try dsimp only at hSw
              go_simp
              try with_reducible rfl
            try simp only [Act.put, List.setIfInBounds_toArray, List.set_cons_zero, List.set_cons_succ]
            refine wpAnyH_take (i := 9) (oi := { dst := some 50, op := _, type := _, pos := _, after := _, guard := _ }) (v := ?_) rfl (by kernel_rfl) (by kernel_rfl) (by kernel_rfl) (fun _ _ _ h => h) (Or.inl ⟨by kernel_rfl, ?_⟩) (by assumption) ?_
            rotate_left
            · intro w hSw
              try dsimp only at hSw
              go_simp
              try with_reducible rfl
            try simp only [Act.put, List.setIfInBounds_toArray, List.set_cons_zero, List.set_cons_succ]
            refine wpAnyH_take (i := 10) (oi := { dst := some 51, op := _, type := _, pos := _, after := _, guard := _ }) (v := ?_) rfl (by kernel_rfl) (by kernel_rfl) (by kernel_rfl) (fun _ _ _ h => h) (Or.inl ⟨by kernel_rfl, ?_⟩) (by assumption) ?_
            rotate_left
            · intro w hSw
              try dsimp only at hSw
              go_simp
              try with_reducible rfl
            try simp only [Act.put, List.setIfInBounds_toArray, List.set_cons_zero, List.set_cons_succ]
            refine wpAnyH_take (i := 11) (oi := { dst := some 52, op := _, type := _, pos := _, after := _, guard := _ }) (v := ?_) rfl (by kernel_rfl) (by kernel_rfl) (by kernel_rfl) (fun _ _ _ h => h) (Or.inl ⟨by kernel_rfl, ?_⟩) (by assumption) ?_
            rotate_left
            · intro w hSw
              try dsimp only at hSw
              have x1 : w.cell? ⟨gx, 1, none⟩ = some (.int .i64 th) := hSw.2.1.cell 1
              have x2 : w.cell? ⟨gx, 2, none⟩ = some (.int .i64 gm) := hSw.2.1.cell 2
              have x3 : w.cell? ⟨gx, 3, none⟩ = some (.int .i64 sf) := hSw.2.1.cell 3
              have x4 : w.cell? ⟨gx, 4, none⟩ = some (.int .i64 pr) := hSw.2.1.cell 4
              have y1 : w.cell? ⟨gw, 1, none⟩ = some (.int .i64 T) := hSw.2.2.cell 1
              have y2 : w.cell? ⟨gw, 2, none⟩ = some (.int .i64 S) := hSw.2.2.cell 2
              have y6 : w.cell? ⟨gw, 6, none⟩ = some (.int .i64 lst) := hSw.2.2.cell 6
              go_simp
              try with_reducible rfl
            try simp only [Act.put, List.setIfInBounds_toArray, List.set_cons_zero, List.set_cons_succ]
            refine wpAnyH_take (i := 12) (oi := { dst := some 53, op := _, type := _, pos := _, after := _, guard := _ }) (v := ?_) rfl (by kernel_rfl) (by kernel_rfl) (by kernel_rfl) (fun _ _ _ h => h) (Or.inl ⟨by kernel_rfl, ?_⟩) (by assumption) ?_
            rotate_left
            · intro w hSw
              try dsimp only at hSw
              go_simp
              try with_reducible rfl
            try simp only [Act.put, List.setIfInBounds_toArray, List.set_cons_zero, List.set_cons_succ]
            refine wpAnyH_take (i := 13) (oi := { dst := some 54, op := _, type := _, pos := _, after := _, guard := _ }) (v := ?_) rfl (by kernel_rfl) (by kernel_rfl) (by kernel_rfl) (fun _ _ _ h => h) (Or.inl ⟨by kernel_rfl, ?_⟩) (by assumption) ?_
            rotate_left
            · intro w hSw
              try dsimp only at hSw
              go_simp
              try with_reducible rfl
            try simp only [Act.put, List.setIfInBounds_toArray, List.set_cons_zero, List.set_cons_succ]
            refine wpAnyH_take (i := 14) (oi := { dst := some 55, op := _, type := _, pos := _, after := _, guard := _ }) (v := undef) rfl (by kernel_rfl) (by kernel_rfl) (by kernel_rfl) (fun _ _ _ h => h) (Or.inr ⟨by kernel_rfl, rfl⟩) (by assumption) ?_
            try simp only [Act.put, List.setIfInBounds_toArray, List.set_cons_zero, List.set_cons_succ]
            refine wpAnyH_take (i := 15) (oi := { dst := some 56, op := _, type := _, pos := _, after := _, guard := _ }) (v := undef) rfl (by kernel_rfl) (by kernel_rfl) (by kernel_rfl) (fun _ _ _ h => h) (Or.inr ⟨by kernel_rfl, rfl⟩) (by assumption) ?_
            try simp only [Act.put, List.setIfInBounds_toArray, List.set_cons_zero, List.set_cons_succ]
            refine wpAnyH_take (i := 16) (oi := { dst := some 57, op := _, type := _, pos := _, after := _, guard := _ }) (v := undef) rfl (by kernel_rfl) (by kernel_rfl) (by kernel_rfl) (fun _ _ _ h => h) (Or.inr ⟨by kernel_rfl, rfl⟩) (by assumption) ?_
            try simp only [Act.put, List.setIfInBounds_toArray, List.set_cons_zero, List.set_cons_succ]
            refine wpAnyH_take (i := 17) (oi := { dst := some 58, op := _, type := _, pos := _, after := _, guard := _ }) (v := undef) rfl (by kernel_rfl) (by kernel_rfl) (by kernel_rfl) (fun _ _ _ h => h) (Or.inr ⟨by kernel_rfl, rfl⟩) (by assumption) ?_
            try simp only [Act.put, List.setIfInBounds_toArray, List.set_cons_zero, List.set_cons_succ]
            refine wpAnyH_take (i := 18) (oi := { dst := some 59, op := _, type := _, pos := _, after := _, guard := _ }) (v := undef) rfl (by kernel_rfl) (by kernel_rfl) (by kernel_rfl) (fun _ _ _ h => h) (Or.inr ⟨by kernel_rfl, rfl⟩) (by assumption) ?_
            try simp only [Act.put, List.setIfInBounds_toArray, List.set_cons_zero, List.set_cons_succ]
            refine wpAnyH_take (i := 19) (oi := { dst := some 60, op := _, type := _, pos := _, after := _, guard := _ }) (v := undef) rfl (by kernel_rfl) (by kernel_rfl) (by kernel_rfl) (fun _ _ _ h => h) (Or.inr ⟨by kernel_rfl, rfl⟩) (by assumption) ?_
            try simp only [Act.put, List.setIfInBounds_toArray, List.set_cons_zero, List.set_cons_succ]
            refine wpAnyH_take (i := 20) (oi := { dst := some 61, op := _, type := _, pos := _, after := _, guard := _ }) (v := ?_) rfl (by kernel_rfl) (by kernel_rfl) (by kernel_rfl) (fun _ _ _ h => h) (Or.inl ⟨by kernel_rfl, ?_⟩) (by assumption) ?_
            rotate_left
            · intro w hSw
              try dsimp only at hSw
              go_simp
              try with_reducible rfl
            try simp only [Act.put, List.setIfInBounds_toArray, List.set_cons_zero, List.set_cons_succ]
            refine wpAnyH_take (i := 21) (oi := { dst := some 62, op := _, type := _, pos := _, after := _, guard := _ }) (v := ?_) rfl (by kernel_rfl) (by kernel_rfl) (by kernel_rfl) (fun _ _ _ h => h) (Or.inl ⟨by kernel_rfl, ?_⟩) (by assumption) ?_
            rotate_left
            · intro w hSw
              try dsimp only at hSw
              go_simp
              try with_reducible rfl
            try simp only [Act.put, List.setIfInBounds_toArray, List.set_cons_zero, List.set_cons_succ]
            refine wpAnyH_done (by kernel_rfl) ?_ _
            clear hHeld
            go_wp2_with fail
            obtain ⟨gp, hgp⟩ := own_addr hownS hm0
            subst hgp
            have hB6 : Blk (WS.drew.drew.setCell ⟨gw, 6, none⟩ (.int .i64 gm)) gw 79 #[Value.slice A n c, Value.int IntKind.i64 T, Value.int IntKind.i64 S, Value.bool true, Value.slice (some ⟨gp, 0, none⟩) m pc, Value.slice B bm bd, Value.int IntKind.i64 gm] := (hBS.below hbdd).set_ 6 _
            have hf6 : ∀ g', Value.ownBlock (.slice (some ⟨gp, 0, none⟩) m pc) = some g' → g' ≠ gw := by
              exact own_ne hPgw
            have hown6 := own_far (p := ⟨gw, 6, none⟩) (own_below hownS hbdd) hf6 (.int .i64 gm)
            have hv6 : Below (gw - 1) w (WS.drew.drew.setCell ⟨gw, 6, none⟩ (.int .i64 gm)) := ((bl_le hvS (by omega)).trans (bl_le hbdd (by have := hvS.size; omega))).setCell (show gw - 1 ≤ gw by omega) _
            refine (l00Own_c ⟨gp, 0, none⟩ ps m pc HM (by omega) _ (Arr.own hown6)).mono ?_
            rintro e W5 ⟨A5, c5, rfl, hown5, hb5⟩
            have hgp6 := own_lt hown6 gp rfl
            have hgw6 := hB6.lt
            have hat5 := own_at hown5
            have hlt5 := own_lt hown5
            replace hB6 := hB6.below hb5
            replace hown6 := own_below hown6 hb5
            replace hv6 := hv6.trans (bl_le hb5 (by omega))
            have k0 : W5.cell? ⟨gw, 0, none⟩ = some (.slice A n c) := hB6.cell 0
            have k4 : W5.cell? ⟨gw, 4, none⟩ = some (.slice (some ⟨gp, 0, none⟩) m pc) := hB6.cell 4
            have k5 : W5.cell? ⟨gw, 5, none⟩ = some (.slice B bm bd) := hB6.cell 5
            have q5 := hB6.frozen 5
            obtain ⟨st1, hst1⟩ : ∃ st1, st1 = ((ps, gm) : Bst) := ⟨_, rfl⟩
            have hI1 : SInv A n c T S true gw ps st1 (W5.setCell ⟨gw, 5, none⟩ (.slice A5 m c5)) := by
              rw [hst1]
              refine ⟨some ⟨gp, 0, none⟩, pc, A5, c5, ?_, ?_, ?_, fun ad g e e' => ?_, fun ad e => ?_, hPgw⟩
              · simp only [HM.out]; exact hB6.set_ 5 _
              · rw [HM.out]; exact own_far (p := ⟨gw, 5, none⟩) hown6 hf6 _
              · simp only [HM.out]; exact own_far (p := ⟨gw, 5, none⟩) (own_base hown5 (by omega)) (fun g e => by have h5 := hat5 g e; simp only; omega) _
              · have h5 := hat5 ad.block (by rw [e]; rfl)
                injection e' with e'
                subst e'
                simp only
                omega
              · have h5 := hat5 ad.block (by rw [e]; rfl)
                have h6 := hlt5 ad.block (by rw [e]; rfl)
                exact ⟨by simp [World.setCell]; omega, by omega⟩
            have hv1 : Below (gw - 1) w (W5.setCell ⟨gw, 5, none⟩ (.slice A5 m c5)) := hv6.setCell (show gw - 1 ≤ gw by omega) _
            have HU := Lib.hid (show updB xs T S f ps st = st1 by rw [hst1]; unfold updB okP; rw [HTH.out, HSF.out, HCST.out, HLST.out, if_pos ⟨by rw [decide_eq_true H3.out, decide_eq_true h2c]; rfl, .inl h4⟩])
            have HI1 := Lib.hid hI1
            have HV1 := Lib.hid hv1
            clear hst1 hBS hownS hAbS hvS hX hown hAb hB hB6 hown6 hown5 hv6 hat5 hlt5 hb5 hI1 hv1
            have HS1 := Lib.hid (HAL.out.trans (by rw [HU.out] : _ = iterB (fun k s => goS xs T S f d (ps ++ [(k : Int)]) s) (firstN ps) (n - firstN ps) st1))
            go_wp2_with fail
            go_loopw [7] (fun i wr => ∃ (j : Nat) (s2 : Bst), j ≤ n ∧ i = .int .i64 j ∧ Hid (goS xs T S f (d + 1) ps st = iterB (fun k s => goS xs T S f d (ps ++ [(k : Int)]) s) j (n - j) s2) ∧ SInv A n c T S true gw ps s2 wr ∧ Below (gw - 1) w wr) (fun i _ => n - (intOf i).toNat)
            case atStart => exact ⟨firstN ps, st1, hfn, rfl, HS1, HI1.out, HV1.out⟩
            case round =>
              clear HS1 HI1 HV1
              obtain ⟨j, s2, hj, rfl, HS, hI2, hv2⟩ := hrel
              obtain ⟨P', pc', B', bd', hB', hown', hAb', hne', hBlt', hPgw'⟩ := hI2
              obtain ⟨bm', hbm'⟩ : ∃ bm, bm = s2.1.length := ⟨_, rfl⟩
              obtain ⟨lst', hlst'⟩ : ∃ lst, lst = s2.2 := ⟨_, rfl⟩
              rw [HM.out, ← hbm', ← hlst'] at hB'
              rw [← hbm'] at hAb'
              rw [HM.out] at hown'
              have y0 : wr.cell? ⟨gw, 0, none⟩ = some (.slice A n c) := hB'.cell 0
              have y4 : wr.cell? ⟨gw, 4, none⟩ = some (.slice P' m pc') := hB'.cell 4
              have HBM' := Lib.hid hbm'.symm
              have HL' := Lib.hid hlst'.symm
              clear hbm' hlst'
              by_cases hlt : j < n
              · obtain ⟨r, hr⟩ : ∃ r, n - j = r + 1 := ⟨n - j - 1, by omega⟩
                have HS2 := Lib.hid (show goS xs T S f (d + 1) ps st = iterB (fun k s => goS xs T S f d (ps ++ [(k : Int)]) s) (j + 1) (n - (j + 1)) (goS xs T S f d (ps ++ [(j : Int)]) s2) by rw [HS.out, hr, show n - (j + 1) = r by omega]; rfl)
                clear HS hr
                have hszr : gw + 1 ≤ wr.heap.size := hB'.lt
                go_wp2_with (at_builtin; refine app_fresh1 _ _ rfl _ _ 27 2 rfl i0 _ 1 8 Try.underlying27 hi0 hz0 hz1 hz2 rfl (by omega) (gw - 1) P' m pc' _ rfl _ rfl rfl hown' rfl (by simp [Value.oneCell']) (by unfold maxLen; omega) (by omega) (by omega) ?_; intro g3 c3 w3 hown3 hg3 hf3; have hB3 := hB'.grown hg3 (map_ne (fun g e => (hPgw' g e).symm)); have k4 : w3.cell? ⟨gw, 4, none⟩ = some (.slice P' m pc') := hB3.cell 4; have q4 := hB3.frozen 4)
                have hfl : flat icell ps ++ #[Value.int IntKind.i64 (j : Int)].toList = flat icell (ps ++ [(j : Int)]) := by rw [flat_append]; rfl
                rw [hfl] at hown3
                have hll : (ps ++ [(j : Int)]).length = m + 1 := by rw [List.length_append, HM.out]; rfl
                have hg3w : g3 ≠ gw := by
                  rcases hf3 with h | h
                  · exact hPgw' _ h
                  · omega
                have hf3a : ∀ g', Value.ownBlock (.slice (some ⟨g3, 0, none⟩) (m + 1) c3) = some g' → g' ≠ (⟨gw, 4, none⟩ : Addr).block := by
                  intro g' e
                  injection e with e
                  rw [← e]
                  exact hg3w
                have hAb3 := own_kept hAb' hg3 hne'
                have hI3 : SInv A n c T S true gw (ps ++ [(j : Int)]) s2 (w3.setCell ⟨gw, 4, none⟩ (.slice (some ⟨g3, 0, none⟩) (m + 1) c3)) :=
                  ⟨some ⟨g3, 0, none⟩, c3, B', bd', by rw [hll, HBM'.out, HL'.out]; exact hB3.set_ 4 _, by rw [hll]; exact own_far hown3 hf3a _, by rw [HBM'.out]; exact own_far (p := ⟨gw, 4, none⟩) hAb3 (own_ne (fun ad e => (hBlt' ad e).2)) _,
                    fun ad g e e' => by
                      injection e' with e'
                      subst e'
                      rcases hf3 with h6 | h6
                      · exact hne' ad _ e h6
                      · have := (hBlt' ad e).1; simp only; omega,
                    fun ad e => ⟨by have := (hBlt' ad e).1; have := hg3.size; simp [World.setCell]; omega, (hBlt' ad e).2⟩,
                    fun g e => by injection e with e; rw [← e]; exact hg3w⟩
                have hv3 : Below (gw - 1) w (w3.setCell ⟨gw, 4, none⟩ (.slice (some ⟨g3, 0, none⟩) (m + 1) c3)) := (hv2.grown hg3 (by omega) (fun k e => by
                  cases hP : P' with
                  | none => rw [hP] at e; cases e
                  | some ad =>
                    have h7 := own_at hown' ad.block (by rw [hP]; rfl)
                    rw [hP] at e
                    injection e with e
                    simp only at e
                    omega)).setCell (show gw - 1 ≤ gw by omega) _
                have hih := Lib.hid (ih (ps ++ [(j : Int)]) s2 _ (by rw [hll]; omega) (Lib.hid (plyOk_append hpo.out (by rw [hn.out]; exact hlt))) hI3 (hA.le hv3 hAgw))
                rw [firstN_append] at hih
                clear hown' hown3 hg3 hf3 hB3 k4 q4 hfl hf3a hAb3 hI3 y0 y4 hB' hAb' hne' hBlt' hPgw' hg3w
                refine hih.out.mono ?_
                rintro e W4 ⟨rfl, hI4, hv4⟩
                replace hv3 := hv3.trans hv4
                clear hih hv4
                obtain ⟨P4, pc4, B4, bd4, hB4, hown4, hAb4, hne4, hBlt4, hPgw4⟩ := hI4
                rw [hll] at hB4 hown4
                obtain ⟨s4, hs4⟩ : ∃ s4, s4 = goS xs T S f d (ps ++ [(j : Int)]) s2 := ⟨_, rfl⟩
                rw [← hs4] at HS2 hB4 hAb4
                obtain ⟨bm4, hbm4⟩ : ∃ bm, bm = s4.1.length := ⟨_, rfl⟩
                obtain ⟨lst4, hlst4⟩ : ∃ lst, lst = s4.2 := ⟨_, rfl⟩
                rw [← hbm4, ← hlst4] at hB4
                rw [← hbm4] at hAb4
                have y4 : W4.cell? ⟨gw, 4, none⟩ = some (.slice P4 (m + 1) pc4) := hB4.cell 4
                have f4 := hB4.frozen 4
                have hcap : m + 1 ≤ pc4 := by
                  obtain ⟨A9, c9, e9, h9, _⟩ := own_form hown4
                  injection e9 with _ _ e9
                  omega
                have hown5 : W4.ownsRow (gw - 1) 2 1 (.slice P4 m pc4) m (flat icell ps) := by
                  rw [flat_append] at hown4
                  exact own_take hown4
                have hf5 : ∀ g', Value.ownBlock (.slice P4 m pc4) = some g' → g' ≠ (⟨gw, 4, none⟩ : Addr).block := by
                  exact own_ne hPgw4
                have hI5 : SInv A n c T S true gw ps s4 (W4.setCell ⟨gw, 4, none⟩ (.slice P4 m pc4)) :=
                  ⟨P4, pc4, B4, bd4, by rw [HM.out, ← hbm4, ← hlst4]; exact hB4.set_ 4 _, by rw [HM.out]; exact own_far hown5 hf5 _, by rw [← hbm4]; exact own_far (p := ⟨gw, 4, none⟩) hAb4 (own_ne (fun ad e => (hBlt4 ad e).2)) _, hne4, fun ad e => ⟨by have := (hBlt4 ad e).1; simp [World.setCell]; omega, (hBlt4 ad e).2⟩, hPgw4⟩
                have hv5 : Below (gw - 1) w (W4.setCell ⟨gw, 4, none⟩ (.slice P4 m pc4)) := hv3.setCell (show gw - 1 ≤ gw by omega) _
                have HI5 := Lib.hid hI5
                have HV5 := Lib.hid hv5
                have hc1 : (m : Int) ≤ (pc4 : Int) := by omega
                clear hown4 hown5 hf5 hAb4 hne4 hBlt4 hPgw4 hI5 hv5 hv3 hs4 hbm4 hlst4 hll hB4
                go_wp2_with fail
                exact ⟨⟨j + 1, s4, by omega, by go_num, HS2, HI5.out, HV5.out⟩, by simp [intOf]; omega⟩
              · have HS2 := Lib.hid (HS.out.trans (by rw [show n - j = 0 by omega]; rfl : _ = s2))
                clear HS
                go_wp2_with fail
                go_returns
                rw [HS2.out]
                exact ⟨rfl, ⟨P', pc', B', bd', by rw [HM.out, HBM'.out, HL'.out]; exact hB', by rw [HM.out]; exact hown', by rw [HBM'.out]; exact hAb', hne', hBlt', hPgw'⟩, hv2⟩
          · have h4c : 0 ≤ lst := by omega
            have h4d : decide (lst < 0) = false := decide_eq_false h4
            by_cases h5 : gm < lst
            · have h5d : decide (gm < lst) = true := decide_eq_true h5
              have hm0 : 0 < m := by
                rcases Nat.eq_zero_or_pos m with h | h
                · have h9 : ps = [] := List.eq_nil_of_length_eq_zero (by rw [HM.out]; exact h)
                  have h10 := HTH.out
                  rw [h9] at h10
                  have h11 : sumR Stuff.thick xs [] = 0 := rfl
                  have h12 := H3.out
                  omega
                · exact h
              have f5 := hBS.frozen 5
              have f6 := hBS.frozen 6
              refine wp_region_held_drew (S := fun w' => Below WS.heap.size WS w' ∧ Blk w' gx 76 #[Value.string ⟨#[]⟩, Value.int IntKind.i64 th, Value.int IntKind.i64 gm, Value.int IntKind.i64 sf, Value.int IntKind.i64 pr] ∧ Blk w' gw 79 #[Value.slice A n c, Value.int IntKind.i64 T, Value.int IntKind.i64 S, Value.bool true, Value.slice P m pc, Value.slice B bm bd, Value.int IntKind.i64 lst]) (by kernel_rfl) ?_ (fun hHeld => ?_)
              · exact ⟨hbdd, hX.below hbdd, hBS.below hbdd⟩
              refine wpAnyH_take (i := 0) (oi := { dst := some 41, op := _, type := _, pos := _, after := _, guard := _ }) (v := ?_) rfl (by kernel_rfl) (by kernel_rfl) (by kernel_rfl) (fun _ _ _ h => h) (Or.inl ⟨by kernel_rfl, ?_⟩) (by assumption) ?_
              rotate_left
              · intro w hSw
                try dsimp only at hSw
                go_simp
                try with_reducible rfl
              try simp only [Act.put, List.setIfInBounds_toArray, List.set_cons_zero, List.set_cons_succ]
              refine wpAnyH_take (i := 1) (oi := { dst := some 42, op := _, type := _, pos := _, after := _, guard := _ }) (v := ?_) rfl (by kernel_rfl) (by kernel_rfl) (by kernel_rfl) (fun _ _ _ h => h) (Or.inl ⟨by kernel_rfl, ?_⟩) (by assumption) ?_
              rotate_left
              · intro w hSw
                try dsimp only at hSw
                have x1 : w.cell? ⟨gx, 1, none⟩ = some (.int .i64 th) := hSw.2.1.cell 1
                have x2 : w.cell? ⟨gx, 2, none⟩ = some (.int .i64 gm) := hSw.2.1.cell 2
                have x3 : w.cell? ⟨gx, 3, none⟩ = some (.int .i64 sf) := hSw.2.1.cell 3
                have x4 : w.cell? ⟨gx, 4, none⟩ = some (.int .i64 pr) := hSw.2.1.cell 4
                have y1 : w.cell? ⟨gw, 1, none⟩ = some (.int .i64 T) := hSw.2.2.cell 1
                have y2 : w.cell? ⟨gw, 2, none⟩ = some (.int .i64 S) := hSw.2.2.cell 2
                have y6 : w.cell? ⟨gw, 6, none⟩ = some (.int .i64 lst) := hSw.2.2.cell 6
                go_simp
                try with_reducible rfl
              try simp only [Act.put, List.setIfInBounds_toArray, List.set_cons_zero, List.set_cons_succ]
              refine wpAnyH_take (i := 2) (oi := { dst := some 43, op := _, type := _, pos := _, after := _, guard := _ }) (v := ?_) rfl (by kernel_rfl) (by kernel_rfl) (by kernel_rfl) (fun _ _ _ h => h) (Or.inl ⟨by kernel_rfl, ?_⟩) (by assumption) ?_
              rotate_left
              · intro w hSw
                try dsimp only at hSw
                go_simp
                try with_reducible rfl
              try simp only [Act.put, List.setIfInBounds_toArray, List.set_cons_zero, List.set_cons_succ]
              refine wpAnyH_take (i := 3) (oi := { dst := some 44, op := _, type := _, pos := _, after := _, guard := _ }) (v := ?_) rfl (by kernel_rfl) (by kernel_rfl) (by kernel_rfl) (fun _ _ _ h => h) (Or.inl ⟨by kernel_rfl, ?_⟩) (by assumption) ?_
              rotate_left
              · intro w hSw
                try dsimp only at hSw
                go_simp
                try with_reducible rfl
              try simp only [Act.put, List.setIfInBounds_toArray, List.set_cons_zero, List.set_cons_succ]
              refine wpAnyH_take (i := 4) (oi := { dst := some 45, op := _, type := _, pos := _, after := _, guard := _ }) (v := ?_) rfl (by kernel_rfl) (by kernel_rfl) (by kernel_rfl) (fun _ _ _ h => h) (Or.inl ⟨by kernel_rfl, ?_⟩) (by assumption) ?_
              rotate_left
              · intro w hSw
                try dsimp only at hSw
                go_simp
                try with_reducible rfl
              try simp only [Act.put, List.setIfInBounds_toArray, List.set_cons_zero, List.set_cons_succ]
              refine wpAnyH_take (i := 5) (oi := { dst := some 46, op := _, type := _, pos := _, after := _, guard := _ }) (v := ?_) rfl (by kernel_rfl) (by kernel_rfl) (by kernel_rfl) (fun _ _ _ h => h) (Or.inl ⟨by kernel_rfl, ?_⟩) (by assumption) ?_
              rotate_left
              · intro w hSw
                try dsimp only at hSw
                have x1 : w.cell? ⟨gx, 1, none⟩ = some (.int .i64 th) := hSw.2.1.cell 1
                have x2 : w.cell? ⟨gx, 2, none⟩ = some (.int .i64 gm) := hSw.2.1.cell 2
                have x3 : w.cell? ⟨gx, 3, none⟩ = some (.int .i64 sf) := hSw.2.1.cell 3
                have x4 : w.cell? ⟨gx, 4, none⟩ = some (.int .i64 pr) := hSw.2.1.cell 4
                have y1 : w.cell? ⟨gw, 1, none⟩ = some (.int .i64 T) := hSw.2.2.cell 1
                have y2 : w.cell? ⟨gw, 2, none⟩ = some (.int .i64 S) := hSw.2.2.cell 2
                have y6 : w.cell? ⟨gw, 6, none⟩ = some (.int .i64 lst) := hSw.2.2.cell 6
                go_simp
                try with_reducible rfl
              try simp only [Act.put, List.setIfInBounds_toArray, List.set_cons_zero, List.set_cons_succ]
              refine wpAnyH_take (i := 6) (oi := { dst := some 47, op := _, type := _, pos := _, after := _, guard := _ }) (v := ?_) rfl (by kernel_rfl) (by kernel_rfl) (by kernel_rfl) (fun _ _ _ h => h) (Or.inl ⟨by kernel_rfl, ?_⟩) (by assumption) ?_
              rotate_left
              · intro w hSw
                try dsimp only at hSw
                go_simp
                try with_reducible rfl
              try simp only [Act.put, List.setIfInBounds_toArray, List.set_cons_zero, List.set_cons_succ]
              refine wpAnyH_take (i := 7) (oi := { dst := some 48, op := _, type := _, pos := _, after := _, guard := _ }) (v := ?_) rfl (by kernel_rfl) (by kernel_rfl) (by kernel_rfl) (fun _ _ _ h => h) (Or.inl ⟨by kernel_rfl, ?_⟩) (by assumption) ?_
              rotate_left
              · intro w hSw
                try dsimp only at hSw
                go_simp
                try with_reducible rfl
              try simp only [Act.put, List.setIfInBounds_toArray, List.set_cons_zero, List.set_cons_succ]
              refine wpAnyH_take (i := 8) (oi := { dst := some 49, op := _, type := _, pos := _, after := _, guard := _ }) (v := ?_) rfl (by kernel_rfl) (by kernel_rfl) (by kernel_rfl) (fun _ _ _ h => h) (Or.inl ⟨by kernel_rfl, ?_⟩) (by assumption) ?_
              rotate_left
              · intro w hSw
                try dsimp only at hSw
                go_simp
                try with_reducible rfl
              try simp only [Act.put, List.setIfInBounds_toArray, List.set_cons_zero, List.set_cons_succ]
              refine wpAnyH_take (i := 9) (oi := { dst := some 50, op := _, type := _, pos := _, after := _, guard := _ }) (v := ?_) rfl (by kernel_rfl) (by kernel_rfl) (by kernel_rfl) (fun _ _ _ h => h) (Or.inl ⟨by kernel_rfl, ?_⟩) (by assumption) ?_
              rotate_left
              · intro w hSw
                try dsimp only at hSw
                go_simp
                try with_reducible rfl
              try simp only [Act.put, List.setIfInBounds_toArray, List.set_cons_zero, List.set_cons_succ]
              refine wpAnyH_take (i := 10) (oi := { dst := some 51, op := _, type := _, pos := _, after := _, guard := _ }) (v := ?_) rfl (by kernel_rfl) (by kernel_rfl) (by kernel_rfl) (fun _ _ _ h => h) (Or.inl ⟨by kernel_rfl, ?_⟩) (by assumption) ?_
              rotate_left
              · intro w hSw
                try dsimp only at hSw
                go_simp
                try with_reducible rfl
              try simp only [Act.put, List.setIfInBounds_toArray, List.set_cons_zero, List.set_cons_succ]
              refine wpAnyH_take (i := 11) (oi := { dst := some 52, op := _, type := _, pos := _, after := _, guard := _ }) (v := ?_) rfl (by kernel_rfl) (by kernel_rfl) (by kernel_rfl) (fun _ _ _ h => h) (Or.inl ⟨by kernel_rfl, ?_⟩) (by assumption) ?_
              rotate_left
              · intro w hSw
                try dsimp only at hSw
                have x1 : w.cell? ⟨gx, 1, none⟩ = some (.int .i64 th) := hSw.2.1.cell 1
                have x2 : w.cell? ⟨gx, 2, none⟩ = some (.int .i64 gm) := hSw.2.1.cell 2
                have x3 : w.cell? ⟨gx, 3, none⟩ = some (.int .i64 sf) := hSw.2.1.cell 3
                have x4 : w.cell? ⟨gx, 4, none⟩ = some (.int .i64 pr) := hSw.2.1.cell 4
                have y1 : w.cell? ⟨gw, 1, none⟩ = some (.int .i64 T) := hSw.2.2.cell 1
                have y2 : w.cell? ⟨gw, 2, none⟩ = some (.int .i64 S) := hSw.2.2.cell 2
                have y6 : w.cell? ⟨gw, 6, none⟩ = some (.int .i64 lst) := hSw.2.2.cell 6
                go_simp
                try with_reducible rfl
              try simp only [Act.put, List.setIfInBounds_toArray, List.set_cons_zero, List.set_cons_succ]
              refine wpAnyH_take (i := 12) (oi := { dst := some 53, op := _, type := _, pos := _, after := _, guard := _ }) (v := ?_) rfl (by kernel_rfl) (by kernel_rfl) (by kernel_rfl) (fun _ _ _ h => h) (Or.inl ⟨by kernel_rfl, ?_⟩) (by assumption) ?_
              rotate_left
              · intro w hSw
                try dsimp only at hSw
                go_simp
                try with_reducible rfl
              try simp only [Act.put, List.setIfInBounds_toArray, List.set_cons_zero, List.set_cons_succ]
              refine wpAnyH_take (i := 13) (oi := { dst := some 54, op := _, type := _, pos := _, after := _, guard := _ }) (v := ?_) rfl (by kernel_rfl) (by kernel_rfl) (by kernel_rfl) (fun _ _ _ h => h) (Or.inl ⟨by kernel_rfl, ?_⟩) (by assumption) ?_
              rotate_left
              · intro w hSw
                try dsimp only at hSw
                go_simp
                try with_reducible rfl
              try simp only [Act.put, List.setIfInBounds_toArray, List.set_cons_zero, List.set_cons_succ]
              refine wpAnyH_take (i := 14) (oi := { dst := some 55, op := _, type := _, pos := _, after := _, guard := _ }) (v := ?_) rfl (by kernel_rfl) (by kernel_rfl) (by kernel_rfl) (fun _ _ _ h => h) (Or.inl ⟨by kernel_rfl, ?_⟩) (by assumption) ?_
              rotate_left
              · intro w hSw
                try dsimp only at hSw
                go_simp
                try with_reducible rfl
              try simp only [Act.put, List.setIfInBounds_toArray, List.set_cons_zero, List.set_cons_succ]
              refine wpAnyH_take (i := 15) (oi := { dst := some 56, op := _, type := _, pos := _, after := _, guard := _ }) (v := ?_) rfl (by kernel_rfl) (by kernel_rfl) (by kernel_rfl) (fun _ _ _ h => h) (Or.inl ⟨by kernel_rfl, ?_⟩) (by assumption) ?_
              rotate_left
              · intro w hSw
                try dsimp only at hSw
                go_simp
                try with_reducible rfl
              try simp only [Act.put, List.setIfInBounds_toArray, List.set_cons_zero, List.set_cons_succ]
              refine wpAnyH_take (i := 16) (oi := { dst := some 57, op := _, type := _, pos := _, after := _, guard := _ }) (v := ?_) rfl (by kernel_rfl) (by kernel_rfl) (by kernel_rfl) (fun _ _ _ h => h) (Or.inl ⟨by kernel_rfl, ?_⟩) (by assumption) ?_
              rotate_left
              · intro w hSw
                try dsimp only at hSw
                go_simp
                try with_reducible rfl
              try simp only [Act.put, List.setIfInBounds_toArray, List.set_cons_zero, List.set_cons_succ]
              refine wpAnyH_take (i := 17) (oi := { dst := some 58, op := _, type := _, pos := _, after := _, guard := _ }) (v := ?_) rfl (by kernel_rfl) (by kernel_rfl) (by kernel_rfl) (fun _ _ _ h => h) (Or.inl ⟨by kernel_rfl, ?_⟩) (by assumption) ?_
              rotate_left
              · intro w hSw
                try dsimp only at hSw
                go_simp
                try with_reducible rfl
              try simp only [Act.put, List.setIfInBounds_toArray, List.set_cons_zero, List.set_cons_succ]
              refine wpAnyH_take (i := 18) (oi := { dst := some 59, op := _, type := _, pos := _, after := _, guard := _ }) (v := ?_) rfl (by kernel_rfl) (by kernel_rfl) (by kernel_rfl) (fun _ _ _ h => h) (Or.inl ⟨by kernel_rfl, ?_⟩) (by assumption) ?_
              rotate_left
              · intro w hSw
                try dsimp only at hSw
                have x1 : w.cell? ⟨gx, 1, none⟩ = some (.int .i64 th) := hSw.2.1.cell 1
                have x2 : w.cell? ⟨gx, 2, none⟩ = some (.int .i64 gm) := hSw.2.1.cell 2
                have x3 : w.cell? ⟨gx, 3, none⟩ = some (.int .i64 sf) := hSw.2.1.cell 3
                have x4 : w.cell? ⟨gx, 4, none⟩ = some (.int .i64 pr) := hSw.2.1.cell 4
                have y1 : w.cell? ⟨gw, 1, none⟩ = some (.int .i64 T) := hSw.2.2.cell 1
                have y2 : w.cell? ⟨gw, 2, none⟩ = some (.int .i64 S) := hSw.2.2.cell 2
                have y6 : w.cell? ⟨gw, 6, none⟩ = some (.int .i64 lst) := hSw.2.2.cell 6
                go_simp
                try with_reducible rfl
              try simp only [Act.put, List.setIfInBounds_toArray, List.set_cons_zero, List.set_cons_succ]
              refine wpAnyH_take (i := 19) (oi := { dst := some 60, op := _, type := _, pos := _, after := _, guard := _ }) (v := ?_) rfl (by kernel_rfl) (by kernel_rfl) (by kernel_rfl) (fun _ _ _ h => h) (Or.inl ⟨by kernel_rfl, ?_⟩) (by assumption) ?_
              rotate_left
              · intro w hSw
                try dsimp only at hSw
                go_simp
                try with_reducible rfl
              try simp only [Act.put, List.setIfInBounds_toArray, List.set_cons_zero, List.set_cons_succ]
              refine wpAnyH_take (i := 20) (oi := { dst := some 61, op := _, type := _, pos := _, after := _, guard := _ }) (v := ?_) rfl (by kernel_rfl) (by kernel_rfl) (by kernel_rfl) (fun _ _ _ h => h) (Or.inl ⟨by kernel_rfl, ?_⟩) (by assumption) ?_
              rotate_left
              · intro w hSw
                try dsimp only at hSw
                go_simp
                try with_reducible rfl
              try simp only [Act.put, List.setIfInBounds_toArray, List.set_cons_zero, List.set_cons_succ]
              refine wpAnyH_take (i := 21) (oi := { dst := some 62, op := _, type := _, pos := _, after := _, guard := _ }) (v := ?_) rfl (by kernel_rfl) (by kernel_rfl) (by kernel_rfl) (fun _ _ _ h => h) (Or.inl ⟨by kernel_rfl, ?_⟩) (by assumption) ?_
              rotate_left
              · intro w hSw
                try dsimp only at hSw
                go_simp
                try with_reducible rfl
              try simp only [Act.put, List.setIfInBounds_toArray, List.set_cons_zero, List.set_cons_succ]
              refine wpAnyH_done (by kernel_rfl) ?_ _
              clear hHeld
              go_wp2_with fail
              obtain ⟨gp, hgp⟩ := own_addr hownS hm0
              subst hgp
              have hB6 : Blk (WS.drew.drew.setCell ⟨gw, 6, none⟩ (.int .i64 gm)) gw 79 #[Value.slice A n c, Value.int IntKind.i64 T, Value.int IntKind.i64 S, Value.bool true, Value.slice (some ⟨gp, 0, none⟩) m pc, Value.slice B bm bd, Value.int IntKind.i64 gm] := (hBS.below hbdd).set_ 6 _
              have hf6 : ∀ g', Value.ownBlock (.slice (some ⟨gp, 0, none⟩) m pc) = some g' → g' ≠ gw := by
                exact own_ne hPgw
              have hown6 := own_far (p := ⟨gw, 6, none⟩) (own_below hownS hbdd) hf6 (.int .i64 gm)
              have hv6 : Below (gw - 1) w (WS.drew.drew.setCell ⟨gw, 6, none⟩ (.int .i64 gm)) := ((bl_le hvS (by omega)).trans (bl_le hbdd (by have := hvS.size; omega))).setCell (show gw - 1 ≤ gw by omega) _
              refine (l00Own_c ⟨gp, 0, none⟩ ps m pc HM (by omega) _ (Arr.own hown6)).mono ?_
              rintro e W5 ⟨A5, c5, rfl, hown5, hb5⟩
              have hgp6 := own_lt hown6 gp rfl
              have hgw6 := hB6.lt
              have hat5 := own_at hown5
              have hlt5 := own_lt hown5
              replace hB6 := hB6.below hb5
              replace hown6 := own_below hown6 hb5
              replace hv6 := hv6.trans (bl_le hb5 (by omega))
              have k0 : W5.cell? ⟨gw, 0, none⟩ = some (.slice A n c) := hB6.cell 0
              have k4 : W5.cell? ⟨gw, 4, none⟩ = some (.slice (some ⟨gp, 0, none⟩) m pc) := hB6.cell 4
              have k5 : W5.cell? ⟨gw, 5, none⟩ = some (.slice B bm bd) := hB6.cell 5
              have q5 := hB6.frozen 5
              obtain ⟨st1, hst1⟩ : ∃ st1, st1 = ((ps, gm) : Bst) := ⟨_, rfl⟩
              have hI1 : SInv A n c T S true gw ps st1 (W5.setCell ⟨gw, 5, none⟩ (.slice A5 m c5)) := by
                rw [hst1]
                refine ⟨some ⟨gp, 0, none⟩, pc, A5, c5, ?_, ?_, ?_, fun ad g e e' => ?_, fun ad e => ?_, hPgw⟩
                · simp only [HM.out]; exact hB6.set_ 5 _
                · rw [HM.out]; exact own_far (p := ⟨gw, 5, none⟩) hown6 hf6 _
                · simp only [HM.out]; exact own_far (p := ⟨gw, 5, none⟩) (own_base hown5 (by omega)) (fun g e => by have h5 := hat5 g e; simp only; omega) _
                · have h5 := hat5 ad.block (by rw [e]; rfl)
                  injection e' with e'
                  subst e'
                  simp only
                  omega
                · have h5 := hat5 ad.block (by rw [e]; rfl)
                  have h6 := hlt5 ad.block (by rw [e]; rfl)
                  exact ⟨by simp [World.setCell]; omega, by omega⟩
              have hv1 : Below (gw - 1) w (W5.setCell ⟨gw, 5, none⟩ (.slice A5 m c5)) := hv6.setCell (show gw - 1 ≤ gw by omega) _
              have HU := Lib.hid (show updB xs T S f ps st = st1 by rw [hst1]; unfold updB okP; rw [HTH.out, HSF.out, HCST.out, HLST.out, if_pos ⟨by rw [decide_eq_true H3.out, decide_eq_true h2c]; rfl, .inr h5⟩])
              have HI1 := Lib.hid hI1
              have HV1 := Lib.hid hv1
              clear hst1 hBS hownS hAbS hvS hX hown hAb hB hB6 hown6 hown5 hv6 hat5 hlt5 hb5 hI1 hv1
              have HS1 := Lib.hid (HAL.out.trans (by rw [HU.out] : _ = iterB (fun k s => goS xs T S f d (ps ++ [(k : Int)]) s) (firstN ps) (n - firstN ps) st1))
              go_wp2_with fail
              go_loopw [7] (fun i wr => ∃ (j : Nat) (s2 : Bst), j ≤ n ∧ i = .int .i64 j ∧ Hid (goS xs T S f (d + 1) ps st = iterB (fun k s => goS xs T S f d (ps ++ [(k : Int)]) s) j (n - j) s2) ∧ SInv A n c T S true gw ps s2 wr ∧ Below (gw - 1) w wr) (fun i _ => n - (intOf i).toNat)
              case atStart => exact ⟨firstN ps, st1, hfn, rfl, HS1, HI1.out, HV1.out⟩
              case round =>
                clear HS1 HI1 HV1
                obtain ⟨j, s2, hj, rfl, HS, hI2, hv2⟩ := hrel
                obtain ⟨P', pc', B', bd', hB', hown', hAb', hne', hBlt', hPgw'⟩ := hI2
                obtain ⟨bm', hbm'⟩ : ∃ bm, bm = s2.1.length := ⟨_, rfl⟩
                obtain ⟨lst', hlst'⟩ : ∃ lst, lst = s2.2 := ⟨_, rfl⟩
                rw [HM.out, ← hbm', ← hlst'] at hB'
                rw [← hbm'] at hAb'
                rw [HM.out] at hown'
                have y0 : wr.cell? ⟨gw, 0, none⟩ = some (.slice A n c) := hB'.cell 0
                have y4 : wr.cell? ⟨gw, 4, none⟩ = some (.slice P' m pc') := hB'.cell 4
                have HBM' := Lib.hid hbm'.symm
                have HL' := Lib.hid hlst'.symm
                clear hbm' hlst'
                by_cases hlt : j < n
                · obtain ⟨r, hr⟩ : ∃ r, n - j = r + 1 := ⟨n - j - 1, by omega⟩
                  have HS2 := Lib.hid (show goS xs T S f (d + 1) ps st = iterB (fun k s => goS xs T S f d (ps ++ [(k : Int)]) s) (j + 1) (n - (j + 1)) (goS xs T S f d (ps ++ [(j : Int)]) s2) by rw [HS.out, hr, show n - (j + 1) = r by omega]; rfl)
                  clear HS hr
                  have hszr : gw + 1 ≤ wr.heap.size := hB'.lt
                  go_wp2_with (at_builtin; refine app_fresh1 _ _ rfl _ _ 27 2 rfl i0 _ 1 8 Try.underlying27 hi0 hz0 hz1 hz2 rfl (by omega) (gw - 1) P' m pc' _ rfl _ rfl rfl hown' rfl (by simp [Value.oneCell']) (by unfold maxLen; omega) (by omega) (by omega) ?_; intro g3 c3 w3 hown3 hg3 hf3; have hB3 := hB'.grown hg3 (map_ne (fun g e => (hPgw' g e).symm)); have k4 : w3.cell? ⟨gw, 4, none⟩ = some (.slice P' m pc') := hB3.cell 4; have q4 := hB3.frozen 4)
                  have hfl : flat icell ps ++ #[Value.int IntKind.i64 (j : Int)].toList = flat icell (ps ++ [(j : Int)]) := by rw [flat_append]; rfl
                  rw [hfl] at hown3
                  have hll : (ps ++ [(j : Int)]).length = m + 1 := by rw [List.length_append, HM.out]; rfl
                  have hg3w : g3 ≠ gw := by
                    rcases hf3 with h | h
                    · exact hPgw' _ h
                    · omega
                  have hf3a : ∀ g', Value.ownBlock (.slice (some ⟨g3, 0, none⟩) (m + 1) c3) = some g' → g' ≠ (⟨gw, 4, none⟩ : Addr).block := by
                    intro g' e
                    injection e with e
                    rw [← e]
                    exact hg3w
                  have hAb3 := own_kept hAb' hg3 hne'
                  have hI3 : SInv A n c T S true gw (ps ++ [(j : Int)]) s2 (w3.setCell ⟨gw, 4, none⟩ (.slice (some ⟨g3, 0, none⟩) (m + 1) c3)) :=
                    ⟨some ⟨g3, 0, none⟩, c3, B', bd', by rw [hll, HBM'.out, HL'.out]; exact hB3.set_ 4 _, by rw [hll]; exact own_far hown3 hf3a _, by rw [HBM'.out]; exact own_far (p := ⟨gw, 4, none⟩) hAb3 (own_ne (fun ad e => (hBlt' ad e).2)) _,
                      fun ad g e e' => by
                        injection e' with e'
                        subst e'
                        rcases hf3 with h6 | h6
                        · exact hne' ad _ e h6
                        · have := (hBlt' ad e).1; simp only; omega,
                      fun ad e => ⟨by have := (hBlt' ad e).1; have := hg3.size; simp [World.setCell]; omega, (hBlt' ad e).2⟩,
                      fun g e => by injection e with e; rw [← e]; exact hg3w⟩
                  have hv3 : Below (gw - 1) w (w3.setCell ⟨gw, 4, none⟩ (.slice (some ⟨g3, 0, none⟩) (m + 1) c3)) := (hv2.grown hg3 (by omega) (fun k e => by
                    cases hP : P' with
                    | none => rw [hP] at e; cases e
                    | some ad =>
                      have h7 := own_at hown' ad.block (by rw [hP]; rfl)
                      rw [hP] at e
                      injection e with e
                      simp only at e
                      omega)).setCell (show gw - 1 ≤ gw by omega) _
                  have hih := Lib.hid (ih (ps ++ [(j : Int)]) s2 _ (by rw [hll]; omega) (Lib.hid (plyOk_append hpo.out (by rw [hn.out]; exact hlt))) hI3 (hA.le hv3 hAgw))
                  rw [firstN_append] at hih
                  clear hown' hown3 hg3 hf3 hB3 k4 q4 hfl hf3a hAb3 hI3 y0 y4 hB' hAb' hne' hBlt' hPgw' hg3w
                  refine hih.out.mono ?_
                  rintro e W4 ⟨rfl, hI4, hv4⟩
                  replace hv3 := hv3.trans hv4
                  clear hih hv4
                  obtain ⟨P4, pc4, B4, bd4, hB4, hown4, hAb4, hne4, hBlt4, hPgw4⟩ := hI4
                  rw [hll] at hB4 hown4
                  obtain ⟨s4, hs4⟩ : ∃ s4, s4 = goS xs T S f d (ps ++ [(j : Int)]) s2 := ⟨_, rfl⟩
                  rw [← hs4] at HS2 hB4 hAb4
                  obtain ⟨bm4, hbm4⟩ : ∃ bm, bm = s4.1.length := ⟨_, rfl⟩
                  obtain ⟨lst4, hlst4⟩ : ∃ lst, lst = s4.2 := ⟨_, rfl⟩
                  rw [← hbm4, ← hlst4] at hB4
                  rw [← hbm4] at hAb4
                  have y4 : W4.cell? ⟨gw, 4, none⟩ = some (.slice P4 (m + 1) pc4) := hB4.cell 4
                  have f4 := hB4.frozen 4
                  have hcap : m + 1 ≤ pc4 := by
                    obtain ⟨A9, c9, e9, h9, _⟩ := own_form hown4
                    injection e9 with _ _ e9
                    omega
                  have hown5 : W4.ownsRow (gw - 1) 2 1 (.slice P4 m pc4) m (flat icell ps) := by
                    rw [flat_append] at hown4
                    exact own_take hown4
                  have hf5 : ∀ g', Value.ownBlock (.slice P4 m pc4) = some g' → g' ≠ (⟨gw, 4, none⟩ : Addr).block := by
                    exact own_ne hPgw4
                  have hI5 : SInv A n c T S true gw ps s4 (W4.setCell ⟨gw, 4, none⟩ (.slice P4 m pc4)) :=
                    ⟨P4, pc4, B4, bd4, by rw [HM.out, ← hbm4, ← hlst4]; exact hB4.set_ 4 _, by rw [HM.out]; exact own_far hown5 hf5 _, by rw [← hbm4]; exact own_far (p := ⟨gw, 4, none⟩) hAb4 (own_ne (fun ad e => (hBlt4 ad e).2)) _, hne4, fun ad e => ⟨by have := (hBlt4 ad e).1; simp [World.setCell]; omega, (hBlt4 ad e).2⟩, hPgw4⟩
                  have hv5 : Below (gw - 1) w (W4.setCell ⟨gw, 4, none⟩ (.slice P4 m pc4)) := hv3.setCell (show gw - 1 ≤ gw by omega) _
                  have HI5 := Lib.hid hI5
                  have HV5 := Lib.hid hv5
                  have hc1 : (m : Int) ≤ (pc4 : Int) := by omega
                  clear hown4 hown5 hf5 hAb4 hne4 hBlt4 hPgw4 hI5 hv5 hv3 hs4 hbm4 hlst4 hll hB4
                  go_wp2_with fail
                  exact ⟨⟨j + 1, s4, by omega, by go_num, HS2, HI5.out, HV5.out⟩, by simp [intOf]; omega⟩
                · have HS2 := Lib.hid (HS.out.trans (by rw [show n - j = 0 by omega]; rfl : _ = s2))
                  clear HS
                  go_wp2_with fail
                  go_returns
                  rw [HS2.out]
                  exact ⟨rfl, ⟨P', pc', B', bd', by rw [HM.out, HBM'.out, HL'.out]; exact hB', by rw [HM.out]; exact hown', by rw [HBM'.out]; exact hAb', hne', hBlt', hPgw'⟩, hv2⟩
            · have h5c : lst ≤ gm := by omega
              have h5d : decide (gm < lst) = false := decide_eq_false h5
              refine wp_region_held_drew (S := fun w' => Below WS.heap.size WS w' ∧ Blk w' gx 76 #[Value.string ⟨#[]⟩, Value.int IntKind.i64 th, Value.int IntKind.i64 gm, Value.int IntKind.i64 sf, Value.int IntKind.i64 pr] ∧ Blk w' gw 79 #[Value.slice A n c, Value.int IntKind.i64 T, Value.int IntKind.i64 S, Value.bool true, Value.slice P m pc, Value.slice B bm bd, Value.int IntKind.i64 lst]) (by kernel_rfl) ?_ (fun hHeld => ?_)
              · exact ⟨hbdd, hX.below hbdd, hBS.below hbdd⟩
              refine wpAnyH_take (i := 0) (oi := { dst := some 41, op := _, type := _, pos := _, after := _, guard := _ }) (v := ?_) rfl (by kernel_rfl) (by kernel_rfl) (by kernel_rfl) (fun _ _ _ h => h) (Or.inl ⟨by kernel_rfl, ?_⟩) (by assumption) ?_
              rotate_left
              · intro w hSw
                try dsimp only at hSw
                go_simp
                try with_reducible rfl
              try simp only [Act.put, List.setIfInBounds_toArray, List.set_cons_zero, List.set_cons_succ]
              refine wpAnyH_take (i := 1) (oi := { dst := some 42, op := _, type := _, pos := _, after := _, guard := _ }) (v := ?_) rfl (by kernel_rfl) (by kernel_rfl) (by kernel_rfl) (fun _ _ _ h => h) (Or.inl ⟨by kernel_rfl, ?_⟩) (by assumption) ?_
              rotate_left
              · intro w hSw
                try dsimp only at hSw
                have x1 : w.cell? ⟨gx, 1, none⟩ = some (.int .i64 th) := hSw.2.1.cell 1
                have x2 : w.cell? ⟨gx, 2, none⟩ = some (.int .i64 gm) := hSw.2.1.cell 2
                have x3 : w.cell? ⟨gx, 3, none⟩ = some (.int .i64 sf) := hSw.2.1.cell 3
                have x4 : w.cell? ⟨gx, 4, none⟩ = some (.int .i64 pr) := hSw.2.1.cell 4
                have y1 : w.cell? ⟨gw, 1, none⟩ = some (.int .i64 T) := hSw.2.2.cell 1
                have y2 : w.cell? ⟨gw, 2, none⟩ = some (.int .i64 S) := hSw.2.2.cell 2
                have y6 : w.cell? ⟨gw, 6, none⟩ = some (.int .i64 lst) := hSw.2.2.cell 6
                go_simp
                try with_reducible rfl
              try simp only [Act.put, List.setIfInBounds_toArray, List.set_cons_zero, List.set_cons_succ]
              refine wpAnyH_take (i := 2) (oi := { dst := some 43, op := _, type := _, pos := _, after := _, guard := _ }) (v := ?_) rfl (by kernel_rfl) (by kernel_rfl) (by kernel_rfl) (fun _ _ _ h => h) (Or.inl ⟨by kernel_rfl, ?_⟩) (by assumption) ?_
              rotate_left
              · intro w hSw
                try dsimp only at hSw
                go_simp
                try with_reducible rfl
              try simp only [Act.put, List.setIfInBounds_toArray, List.set_cons_zero, List.set_cons_succ]
              refine wpAnyH_take (i := 3) (oi := { dst := some 44, op := _, type := _, pos := _, after := _, guard := _ }) (v := ?_) rfl (by kernel_rfl) (by kernel_rfl) (by kernel_rfl) (fun _ _ _ h => h) (Or.inl ⟨by kernel_rfl, ?_⟩) (by assumption) ?_
              rotate_left
              · intro w hSw
                try dsimp only at hSw
                go_simp
                try with_reducible rfl
              try simp only [Act.put, List.setIfInBounds_toArray, List.set_cons_zero, List.set_cons_succ]
              refine wpAnyH_take (i := 4) (oi := { dst := some 45, op := _, type := _, pos := _, after := _, guard := _ }) (v := ?_) rfl (by kernel_rfl) (by kernel_rfl) (by kernel_rfl) (fun _ _ _ h => h) (Or.inl ⟨by kernel_rfl, ?_⟩) (by assumption) ?_
              rotate_left
              · intro w hSw
                try dsimp only at hSw
                go_simp
                try with_reducible rfl
              try simp only [Act.put, List.setIfInBounds_toArray, List.set_cons_zero, List.set_cons_succ]
              refine wpAnyH_take (i := 5) (oi := { dst := some 46, op := _, type := _, pos := _, after := _, guard := _ }) (v := ?_) rfl (by kernel_rfl) (by kernel_rfl) (by kernel_rfl) (fun _ _ _ h => h) (Or.inl ⟨by kernel_rfl, ?_⟩) (by assumption) ?_
              rotate_left
              · intro w hSw
                try dsimp only at hSw
                have x1 : w.cell? ⟨gx, 1, none⟩ = some (.int .i64 th) := hSw.2.1.cell 1
                have x2 : w.cell? ⟨gx, 2, none⟩ = some (.int .i64 gm) := hSw.2.1.cell 2
                have x3 : w.cell? ⟨gx, 3, none⟩ = some (.int .i64 sf) := hSw.2.1.cell 3
                have x4 : w.cell? ⟨gx, 4, none⟩ = some (.int .i64 pr) := hSw.2.1.cell 4
                have y1 : w.cell? ⟨gw, 1, none⟩ = some (.int .i64 T) := hSw.2.2.cell 1
                have y2 : w.cell? ⟨gw, 2, none⟩ = some (.int .i64 S) := hSw.2.2.cell 2
                have y6 : w.cell? ⟨gw, 6, none⟩ = some (.int .i64 lst) := hSw.2.2.cell 6
                go_simp
                try with_reducible rfl
              try simp only [Act.put, List.setIfInBounds_toArray, List.set_cons_zero, List.set_cons_succ]
              refine wpAnyH_take (i := 6) (oi := { dst := some 47, op := _, type := _, pos := _, after := _, guard := _ }) (v := ?_) rfl (by kernel_rfl) (by kernel_rfl) (by kernel_rfl) (fun _ _ _ h => h) (Or.inl ⟨by kernel_rfl, ?_⟩) (by assumption) ?_
              rotate_left
              · intro w hSw
                try dsimp only at hSw
                go_simp
                try with_reducible rfl
              try simp only [Act.put, List.setIfInBounds_toArray, List.set_cons_zero, List.set_cons_succ]
              refine wpAnyH_take (i := 7) (oi := { dst := some 48, op := _, type := _, pos := _, after := _, guard := _ }) (v := ?_) rfl (by kernel_rfl) (by kernel_rfl) (by kernel_rfl) (fun _ _ _ h => h) (Or.inl ⟨by kernel_rfl, ?_⟩) (by assumption) ?_
              rotate_left
              · intro w hSw
                try dsimp only at hSw
                go_simp
                try with_reducible rfl
              try simp only [Act.put, List.setIfInBounds_toArray, List.set_cons_zero, List.set_cons_succ]
              refine wpAnyH_take (i := 8) (oi := { dst := some 49, op := _, type := _, pos := _, after := _, guard := _ }) (v := ?_) rfl (by kernel_rfl) (by kernel_rfl) (by kernel_rfl) (fun _ _ _ h => h) (Or.inl ⟨by kernel_rfl, ?_⟩) (by assumption) ?_
              rotate_left
              · intro w hSw
                try dsimp only at hSw
                go_simp
                try with_reducible rfl
              try simp only [Act.put, List.setIfInBounds_toArray, List.set_cons_zero, List.set_cons_succ]
              refine wpAnyH_take (i := 9) (oi := { dst := some 50, op := _, type := _, pos := _, after := _, guard := _ }) (v := ?_) rfl (by kernel_rfl) (by kernel_rfl) (by kernel_rfl) (fun _ _ _ h => h) (Or.inl ⟨by kernel_rfl, ?_⟩) (by assumption) ?_
              rotate_left
              · intro w hSw
                try dsimp only at hSw
                go_simp
                try with_reducible rfl
              try simp only [Act.put, List.setIfInBounds_toArray, List.set_cons_zero, List.set_cons_succ]
              refine wpAnyH_take (i := 10) (oi := { dst := some 51, op := _, type := _, pos := _, after := _, guard := _ }) (v := ?_) rfl (by kernel_rfl) (by kernel_rfl) (by kernel_rfl) (fun _ _ _ h => h) (Or.inl ⟨by kernel_rfl, ?_⟩) (by assumption) ?_
              rotate_left
              · intro w hSw
                try dsimp only at hSw
                go_simp
                try with_reducible rfl
              try simp only [Act.put, List.setIfInBounds_toArray, List.set_cons_zero, List.set_cons_succ]
              refine wpAnyH_take (i := 11) (oi := { dst := some 52, op := _, type := _, pos := _, after := _, guard := _ }) (v := ?_) rfl (by kernel_rfl) (by kernel_rfl) (by kernel_rfl) (fun _ _ _ h => h) (Or.inl ⟨by kernel_rfl, ?_⟩) (by assumption) ?_
              rotate_left
              · intro w hSw
                try dsimp only at hSw
                have x1 : w.cell? ⟨gx, 1, none⟩ = some (.int .i64 th) := hSw.2.1.cell 1
                have x2 : w.cell? ⟨gx, 2, none⟩ = some (.int .i64 gm) := hSw.2.1.cell 2
                have x3 : w.cell? ⟨gx, 3, none⟩ = some (.int .i64 sf) := hSw.2.1.cell 3
                have x4 : w.cell? ⟨gx, 4, none⟩ = some (.int .i64 pr) := hSw.2.1.cell 4
                have y1 : w.cell? ⟨gw, 1, none⟩ = some (.int .i64 T) := hSw.2.2.cell 1
                have y2 : w.cell? ⟨gw, 2, none⟩ = some (.int .i64 S) := hSw.2.2.cell 2
                have y6 : w.cell? ⟨gw, 6, none⟩ = some (.int .i64 lst) := hSw.2.2.cell 6
                go_simp
                try with_reducible rfl
              try simp only [Act.put, List.setIfInBounds_toArray, List.set_cons_zero, List.set_cons_succ]
              refine wpAnyH_take (i := 12) (oi := { dst := some 53, op := _, type := _, pos := _, after := _, guard := _ }) (v := ?_) rfl (by kernel_rfl) (by kernel_rfl) (by kernel_rfl) (fun _ _ _ h => h) (Or.inl ⟨by kernel_rfl, ?_⟩) (by assumption) ?_
              rotate_left
              · intro w hSw
                try dsimp only at hSw
                go_simp
                try with_reducible rfl
              try simp only [Act.put, List.setIfInBounds_toArray, List.set_cons_zero, List.set_cons_succ]
              refine wpAnyH_take (i := 13) (oi := { dst := some 54, op := _, type := _, pos := _, after := _, guard := _ }) (v := ?_) rfl (by kernel_rfl) (by kernel_rfl) (by kernel_rfl) (fun _ _ _ h => h) (Or.inl ⟨by kernel_rfl, ?_⟩) (by assumption) ?_
              rotate_left
              · intro w hSw
                try dsimp only at hSw
                go_simp
                try with_reducible rfl
              try simp only [Act.put, List.setIfInBounds_toArray, List.set_cons_zero, List.set_cons_succ]
              refine wpAnyH_take (i := 14) (oi := { dst := some 55, op := _, type := _, pos := _, after := _, guard := _ }) (v := ?_) rfl (by kernel_rfl) (by kernel_rfl) (by kernel_rfl) (fun _ _ _ h => h) (Or.inl ⟨by kernel_rfl, ?_⟩) (by assumption) ?_
              rotate_left
              · intro w hSw
                try dsimp only at hSw
                go_simp
                try with_reducible rfl
              try simp only [Act.put, List.setIfInBounds_toArray, List.set_cons_zero, List.set_cons_succ]
              refine wpAnyH_take (i := 15) (oi := { dst := some 56, op := _, type := _, pos := _, after := _, guard := _ }) (v := ?_) rfl (by kernel_rfl) (by kernel_rfl) (by kernel_rfl) (fun _ _ _ h => h) (Or.inl ⟨by kernel_rfl, ?_⟩) (by assumption) ?_
              rotate_left
              · intro w hSw
                try dsimp only at hSw
                go_simp
                try with_reducible rfl
              try simp only [Act.put, List.setIfInBounds_toArray, List.set_cons_zero, List.set_cons_succ]
              refine wpAnyH_take (i := 16) (oi := { dst := some 57, op := _, type := _, pos := _, after := _, guard := _ }) (v := ?_) rfl (by kernel_rfl) (by kernel_rfl) (by kernel_rfl) (fun _ _ _ h => h) (Or.inl ⟨by kernel_rfl, ?_⟩) (by assumption) ?_
              rotate_left
              · intro w hSw
                try dsimp only at hSw
                go_simp
                try with_reducible rfl
              try simp only [Act.put, List.setIfInBounds_toArray, List.set_cons_zero, List.set_cons_succ]
              refine wpAnyH_take (i := 17) (oi := { dst := some 58, op := _, type := _, pos := _, after := _, guard := _ }) (v := ?_) rfl (by kernel_rfl) (by kernel_rfl) (by kernel_rfl) (fun _ _ _ h => h) (Or.inl ⟨by kernel_rfl, ?_⟩) (by assumption) ?_
              rotate_left
              · intro w hSw
                try dsimp only at hSw
                go_simp
                try with_reducible rfl
              try simp only [Act.put, List.setIfInBounds_toArray, List.set_cons_zero, List.set_cons_succ]
              refine wpAnyH_take (i := 18) (oi := { dst := some 59, op := _, type := _, pos := _, after := _, guard := _ }) (v := ?_) rfl (by kernel_rfl) (by kernel_rfl) (by kernel_rfl) (fun _ _ _ h => h) (Or.inl ⟨by kernel_rfl, ?_⟩) (by assumption) ?_
              rotate_left
              · intro w hSw
                try dsimp only at hSw
                have x1 : w.cell? ⟨gx, 1, none⟩ = some (.int .i64 th) := hSw.2.1.cell 1
                have x2 : w.cell? ⟨gx, 2, none⟩ = some (.int .i64 gm) := hSw.2.1.cell 2
                have x3 : w.cell? ⟨gx, 3, none⟩ = some (.int .i64 sf) := hSw.2.1.cell 3
                have x4 : w.cell? ⟨gx, 4, none⟩ = some (.int .i64 pr) := hSw.2.1.cell 4
                have y1 : w.cell? ⟨gw, 1, none⟩ = some (.int .i64 T) := hSw.2.2.cell 1
                have y2 : w.cell? ⟨gw, 2, none⟩ = some (.int .i64 S) := hSw.2.2.cell 2
                have y6 : w.cell? ⟨gw, 6, none⟩ = some (.int .i64 lst) := hSw.2.2.cell 6
                go_simp
                try with_reducible rfl
              try simp only [Act.put, List.setIfInBounds_toArray, List.set_cons_zero, List.set_cons_succ]
              refine wpAnyH_take (i := 19) (oi := { dst := some 60, op := _, type := _, pos := _, after := _, guard := _ }) (v := ?_) rfl (by kernel_rfl) (by kernel_rfl) (by kernel_rfl) (fun _ _ _ h => h) (Or.inl ⟨by kernel_rfl, ?_⟩) (by assumption) ?_
              rotate_left
              · intro w hSw
                try dsimp only at hSw
                go_simp
                try with_reducible rfl
              try simp only [Act.put, List.setIfInBounds_toArray, List.set_cons_zero, List.set_cons_succ]
              refine wpAnyH_take (i := 20) (oi := { dst := some 61, op := _, type := _, pos := _, after := _, guard := _ }) (v := ?_) rfl (by kernel_rfl) (by kernel_rfl) (by kernel_rfl) (fun _ _ _ h => h) (Or.inl ⟨by kernel_rfl, ?_⟩) (by assumption) ?_
              rotate_left
              · intro w hSw
                try dsimp only at hSw
                go_simp
                try with_reducible rfl
              try simp only [Act.put, List.setIfInBounds_toArray, List.set_cons_zero, List.set_cons_succ]
              refine wpAnyH_take (i := 21) (oi := { dst := some 62, op := _, type := _, pos := _, after := _, guard := _ }) (v := ?_) rfl (by kernel_rfl) (by kernel_rfl) (by kernel_rfl) (fun _ _ _ h => h) (Or.inl ⟨by kernel_rfl, ?_⟩) (by assumption) ?_
              rotate_left
              · intro w hSw
                try dsimp only at hSw
                go_simp
                try with_reducible rfl
              try simp only [Act.put, List.setIfInBounds_toArray, List.set_cons_zero, List.set_cons_succ]
              refine wpAnyH_done (by kernel_rfl) ?_ _
              clear hHeld
              obtain ⟨st1, hst1⟩ : ∃ st1, st1 = st := ⟨_, rfl⟩
              have hI1 : SInv A n c T S true gw ps st1 WS.drew.drew := by
                rw [hst1]
                exact ⟨P, pc, B, bd, by rw [HM.out, HBM.out, HLST.out]; exact hBS.below hbdd, by rw [HM.out]; exact own_below hownS hbdd, by rw [HBM.out]; exact own_below hAbS hbdd, hne, fun ad e => ⟨by have := (hBlt ad e).1; have := hvS.size; have := hbdd.size; omega, (hBlt ad e).2⟩, hPgw⟩
              have hv1 : Below (gw - 1) w WS.drew.drew := (bl_le hvS (by omega)).trans (bl_le hbdd (by have := hvS.size; omega))
              have HU := Lib.hid (show updB xs T S f ps st = st1 by rw [hst1]; unfold updB okP; rw [HTH.out, HSF.out, HCST.out, HLST.out, if_neg (by exact fun h9 => h9.2.elim h4 h5)])
              clear hst1 hBS hownS hAbS hvS hX hown hAb hB
              have HS1 := Lib.hid (HAL.out.trans (by rw [HU.out] : _ = iterB (fun k s => goS xs T S f d (ps ++ [(k : Int)]) s) (firstN ps) (n - firstN ps) st1))
              go_wp2_with fail
              go_loopw [7] (fun i wr => ∃ (j : Nat) (s2 : Bst), j ≤ n ∧ i = .int .i64 j ∧ Hid (goS xs T S f (d + 1) ps st = iterB (fun k s => goS xs T S f d (ps ++ [(k : Int)]) s) j (n - j) s2) ∧ SInv A n c T S true gw ps s2 wr ∧ Below (gw - 1) w wr) (fun i _ => n - (intOf i).toNat)
              case atStart => exact ⟨firstN ps, st1, hfn, rfl, HS1, hI1, hv1⟩
              case round =>
                clear HS1 hI1 hv1
                obtain ⟨j, s2, hj, rfl, HS, hI2, hv2⟩ := hrel
                obtain ⟨P', pc', B', bd', hB', hown', hAb', hne', hBlt', hPgw'⟩ := hI2
                obtain ⟨bm', hbm'⟩ : ∃ bm, bm = s2.1.length := ⟨_, rfl⟩
                obtain ⟨lst', hlst'⟩ : ∃ lst, lst = s2.2 := ⟨_, rfl⟩
                rw [HM.out, ← hbm', ← hlst'] at hB'
                rw [← hbm'] at hAb'
                rw [HM.out] at hown'
                have y0 : wr.cell? ⟨gw, 0, none⟩ = some (.slice A n c) := hB'.cell 0
                have y4 : wr.cell? ⟨gw, 4, none⟩ = some (.slice P' m pc') := hB'.cell 4
                have HBM' := Lib.hid hbm'.symm
                have HL' := Lib.hid hlst'.symm
                clear hbm' hlst'
                by_cases hlt : j < n
                · obtain ⟨r, hr⟩ : ∃ r, n - j = r + 1 := ⟨n - j - 1, by omega⟩
                  have HS2 := Lib.hid (show goS xs T S f (d + 1) ps st = iterB (fun k s => goS xs T S f d (ps ++ [(k : Int)]) s) (j + 1) (n - (j + 1)) (goS xs T S f d (ps ++ [(j : Int)]) s2) by rw [HS.out, hr, show n - (j + 1) = r by omega]; rfl)
                  clear HS hr
                  have hszr : gw + 1 ≤ wr.heap.size := hB'.lt
                  go_wp2_with (at_builtin; refine app_fresh1 _ _ rfl _ _ 27 2 rfl i0 _ 1 8 Try.underlying27 hi0 hz0 hz1 hz2 rfl (by omega) (gw - 1) P' m pc' _ rfl _ rfl rfl hown' rfl (by simp [Value.oneCell']) (by unfold maxLen; omega) (by omega) (by omega) ?_; intro g3 c3 w3 hown3 hg3 hf3; have hB3 := hB'.grown hg3 (map_ne (fun g e => (hPgw' g e).symm)); have k4 : w3.cell? ⟨gw, 4, none⟩ = some (.slice P' m pc') := hB3.cell 4; have q4 := hB3.frozen 4)
                  have hfl : flat icell ps ++ #[Value.int IntKind.i64 (j : Int)].toList = flat icell (ps ++ [(j : Int)]) := by rw [flat_append]; rfl
                  rw [hfl] at hown3
                  have hll : (ps ++ [(j : Int)]).length = m + 1 := by rw [List.length_append, HM.out]; rfl
                  have hg3w : g3 ≠ gw := by
                    rcases hf3 with h | h
                    · exact hPgw' _ h
                    · omega
                  have hf3a : ∀ g', Value.ownBlock (.slice (some ⟨g3, 0, none⟩) (m + 1) c3) = some g' → g' ≠ (⟨gw, 4, none⟩ : Addr).block := by
                    intro g' e
                    injection e with e
                    rw [← e]
                    exact hg3w
                  have hAb3 := own_kept hAb' hg3 hne'
                  have hI3 : SInv A n c T S true gw (ps ++ [(j : Int)]) s2 (w3.setCell ⟨gw, 4, none⟩ (.slice (some ⟨g3, 0, none⟩) (m + 1) c3)) :=
                    ⟨some ⟨g3, 0, none⟩, c3, B', bd', by rw [hll, HBM'.out, HL'.out]; exact hB3.set_ 4 _, by rw [hll]; exact own_far hown3 hf3a _, by rw [HBM'.out]; exact own_far (p := ⟨gw, 4, none⟩) hAb3 (own_ne (fun ad e => (hBlt' ad e).2)) _,
                      fun ad g e e' => by
                        injection e' with e'
                        subst e'
                        rcases hf3 with h6 | h6
                        · exact hne' ad _ e h6
                        · have := (hBlt' ad e).1; simp only; omega,
                      fun ad e => ⟨by have := (hBlt' ad e).1; have := hg3.size; simp [World.setCell]; omega, (hBlt' ad e).2⟩,
                      fun g e => by injection e with e; rw [← e]; exact hg3w⟩
                  have hv3 : Below (gw - 1) w (w3.setCell ⟨gw, 4, none⟩ (.slice (some ⟨g3, 0, none⟩) (m + 1) c3)) := (hv2.grown hg3 (by omega) (fun k e => by
                    cases hP : P' with
                    | none => rw [hP] at e; cases e
                    | some ad =>
                      have h7 := own_at hown' ad.block (by rw [hP]; rfl)
                      rw [hP] at e
                      injection e with e
                      simp only at e
                      omega)).setCell (show gw - 1 ≤ gw by omega) _
                  have hih := Lib.hid (ih (ps ++ [(j : Int)]) s2 _ (by rw [hll]; omega) (Lib.hid (plyOk_append hpo.out (by rw [hn.out]; exact hlt))) hI3 (hA.le hv3 hAgw))
                  rw [firstN_append] at hih
                  clear hown' hown3 hg3 hf3 hB3 k4 q4 hfl hf3a hAb3 hI3 y0 y4 hB' hAb' hne' hBlt' hPgw' hg3w
                  refine hih.out.mono ?_
                  rintro e W4 ⟨rfl, hI4, hv4⟩
                  replace hv3 := hv3.trans hv4
                  clear hih hv4
                  obtain ⟨P4, pc4, B4, bd4, hB4, hown4, hAb4, hne4, hBlt4, hPgw4⟩ := hI4
                  rw [hll] at hB4 hown4
                  obtain ⟨s4, hs4⟩ : ∃ s4, s4 = goS xs T S f d (ps ++ [(j : Int)]) s2 := ⟨_, rfl⟩
                  rw [← hs4] at HS2 hB4 hAb4
                  obtain ⟨bm4, hbm4⟩ : ∃ bm, bm = s4.1.length := ⟨_, rfl⟩
                  obtain ⟨lst4, hlst4⟩ : ∃ lst, lst = s4.2 := ⟨_, rfl⟩
                  rw [← hbm4, ← hlst4] at hB4
                  rw [← hbm4] at hAb4
                  have y4 : W4.cell? ⟨gw, 4, none⟩ = some (.slice P4 (m + 1) pc4) := hB4.cell 4
                  have f4 := hB4.frozen 4
                  have hcap : m + 1 ≤ pc4 := by
                    obtain ⟨A9, c9, e9, h9, _⟩ := own_form hown4
                    injection e9 with _ _ e9
                    omega
                  have hown5 : W4.ownsRow (gw - 1) 2 1 (.slice P4 m pc4) m (flat icell ps) := by
                    rw [flat_append] at hown4
                    exact own_take hown4
                  have hf5 : ∀ g', Value.ownBlock (.slice P4 m pc4) = some g' → g' ≠ (⟨gw, 4, none⟩ : Addr).block := by
                    exact own_ne hPgw4
                  have hI5 : SInv A n c T S true gw ps s4 (W4.setCell ⟨gw, 4, none⟩ (.slice P4 m pc4)) :=
                    ⟨P4, pc4, B4, bd4, by rw [HM.out, ← hbm4, ← hlst4]; exact hB4.set_ 4 _, by rw [HM.out]; exact own_far hown5 hf5 _, by rw [← hbm4]; exact own_far (p := ⟨gw, 4, none⟩) hAb4 (own_ne (fun ad e => (hBlt4 ad e).2)) _, hne4, fun ad e => ⟨by have := (hBlt4 ad e).1; simp [World.setCell]; omega, (hBlt4 ad e).2⟩, hPgw4⟩
                  have hv5 : Below (gw - 1) w (W4.setCell ⟨gw, 4, none⟩ (.slice P4 m pc4)) := hv3.setCell (show gw - 1 ≤ gw by omega) _
                  have HI5 := Lib.hid hI5
                  have HV5 := Lib.hid hv5
                  have hc1 : (m : Int) ≤ (pc4 : Int) := by omega
                  clear hown4 hown5 hf5 hAb4 hne4 hBlt4 hPgw4 hI5 hv5 hv3 hs4 hbm4 hlst4 hll hB4
                  go_wp2_with fail
                  exact ⟨⟨j + 1, s4, by omega, by go_num, HS2, HI5.out, HV5.out⟩, by simp [intOf]; omega⟩
                · have HS2 := Lib.hid (HS.out.trans (by rw [show n - j = 0 by omega]; rfl : _ = s2))
                  clear HS
                  go_wp2_with fail
                  go_returns
                  rw [HS2.out]
                  exact ⟨rfl, ⟨P', pc', B', bd', by rw [HM.out, HBM'.out, HL'.out]; exact hB', by rw [HM.out]; exact hown', by rw [HBM'.out]; exact hAb', hne', hBlt', hPgw'⟩, hv2⟩
        · have h3b : (th == T) = false := by rw [beq_eq_false_iff_ne]; exact h3
          refine wp_region_held_drew (S := fun w' => Below WS.heap.size WS w' ∧ Blk w' gx 76 #[Value.string ⟨#[]⟩, Value.int IntKind.i64 th, Value.int IntKind.i64 gm, Value.int IntKind.i64 sf, Value.int IntKind.i64 pr] ∧ Blk w' gw 79 #[Value.slice A n c, Value.int IntKind.i64 T, Value.int IntKind.i64 S, Value.bool true, Value.slice P m pc, Value.slice B bm bd, Value.int IntKind.i64 lst]) (by kernel_rfl) ?_ (fun hHeld => ?_)
          · exact ⟨hbdd, hX.below hbdd, hBS.below hbdd⟩
          refine wpAnyH_take (i := 0) (oi := { dst := some 41, op := _, type := _, pos := _, after := _, guard := _ }) (v := ?_) rfl (by kernel_rfl) (by kernel_rfl) (by kernel_rfl) (fun _ _ _ h => h) (Or.inl ⟨by kernel_rfl, ?_⟩) (by assumption) ?_
          rotate_left
          · intro w hSw
            try dsimp only at hSw
            go_simp
            try with_reducible rfl
          try simp only [Act.put, List.setIfInBounds_toArray, List.set_cons_zero, List.set_cons_succ]
          refine wpAnyH_take (i := 1) (oi := { dst := some 42, op := _, type := _, pos := _, after := _, guard := _ }) (v := ?_) rfl (by kernel_rfl) (by kernel_rfl) (by kernel_rfl) (fun _ _ _ h => h) (Or.inl ⟨by kernel_rfl, ?_⟩) (by assumption) ?_
          rotate_left
          · intro w hSw
            try dsimp only at hSw
            have x1 : w.cell? ⟨gx, 1, none⟩ = some (.int .i64 th) := hSw.2.1.cell 1
            have x2 : w.cell? ⟨gx, 2, none⟩ = some (.int .i64 gm) := hSw.2.1.cell 2
            have x3 : w.cell? ⟨gx, 3, none⟩ = some (.int .i64 sf) := hSw.2.1.cell 3
            have x4 : w.cell? ⟨gx, 4, none⟩ = some (.int .i64 pr) := hSw.2.1.cell 4
            have y1 : w.cell? ⟨gw, 1, none⟩ = some (.int .i64 T) := hSw.2.2.cell 1
            have y2 : w.cell? ⟨gw, 2, none⟩ = some (.int .i64 S) := hSw.2.2.cell 2
            have y6 : w.cell? ⟨gw, 6, none⟩ = some (.int .i64 lst) := hSw.2.2.cell 6
            go_simp
            try with_reducible rfl
          try simp only [Act.put, List.setIfInBounds_toArray, List.set_cons_zero, List.set_cons_succ]
          refine wpAnyH_take (i := 2) (oi := { dst := some 43, op := _, type := _, pos := _, after := _, guard := _ }) (v := ?_) rfl (by kernel_rfl) (by kernel_rfl) (by kernel_rfl) (fun _ _ _ h => h) (Or.inl ⟨by kernel_rfl, ?_⟩) (by assumption) ?_
          rotate_left
          · intro w hSw
            try dsimp only at hSw
            go_simp
            try with_reducible rfl
          try simp only [Act.put, List.setIfInBounds_toArray, List.set_cons_zero, List.set_cons_succ]
          refine wpAnyH_take (i := 3) (oi := { dst := some 44, op := _, type := _, pos := _, after := _, guard := _ }) (v := ?_) rfl (by kernel_rfl) (by kernel_rfl) (by kernel_rfl) (fun _ _ _ h => h) (Or.inl ⟨by kernel_rfl, ?_⟩) (by assumption) ?_
          rotate_left
          · intro w hSw
            try dsimp only at hSw
            go_simp
            try with_reducible rfl
          try simp only [Act.put, List.setIfInBounds_toArray, List.set_cons_zero, List.set_cons_succ]
          refine wpAnyH_take (i := 4) (oi := { dst := some 45, op := _, type := _, pos := _, after := _, guard := _ }) (v := ?_) rfl (by kernel_rfl) (by kernel_rfl) (by kernel_rfl) (fun _ _ _ h => h) (Or.inl ⟨by kernel_rfl, ?_⟩) (by assumption) ?_
          rotate_left
          · intro w hSw
            try dsimp only at hSw
            go_simp
            try with_reducible rfl
          try simp only [Act.put, List.setIfInBounds_toArray, List.set_cons_zero, List.set_cons_succ]
          refine wpAnyH_take (i := 5) (oi := { dst := some 46, op := _, type := _, pos := _, after := _, guard := _ }) (v := ?_) rfl (by kernel_rfl) (by kernel_rfl) (by kernel_rfl) (fun _ _ _ h => h) (Or.inl ⟨by kernel_rfl, ?_⟩) (by assumption) ?_
          rotate_left
          · intro w hSw
            try dsimp only at hSw
            have x1 : w.cell? ⟨gx, 1, none⟩ = some (.int .i64 th) := hSw.2.1.cell 1
            have x2 : w.cell? ⟨gx, 2, none⟩ = some (.int .i64 gm) := hSw.2.1.cell 2
            have x3 : w.cell? ⟨gx, 3, none⟩ = some (.int .i64 sf) := hSw.2.1.cell 3
            have x4 : w.cell? ⟨gx, 4, none⟩ = some (.int .i64 pr) := hSw.2.1.cell 4
            have y1 : w.cell? ⟨gw, 1, none⟩ = some (.int .i64 T) := hSw.2.2.cell 1
            have y2 : w.cell? ⟨gw, 2, none⟩ = some (.int .i64 S) := hSw.2.2.cell 2
            have y6 : w.cell? ⟨gw, 6, none⟩ = some (.int .i64 lst) := hSw.2.2.cell 6
            go_simp
            try with_reducible rfl
          try simp only [Act.put, List.setIfInBounds_toArray, List.set_cons_zero, List.set_cons_succ]
          refine wpAnyH_take (i := 6) (oi := { dst := some 47, op := _, type := _, pos := _, after := _, guard := _ }) (v := ?_) rfl (by kernel_rfl) (by kernel_rfl) (by kernel_rfl) (fun _ _ _ h => h) (Or.inl ⟨by kernel_rfl, ?_⟩) (by assumption) ?_
          rotate_left
          · intro w hSw
            try dsimp only at hSw
            go_simp
            try with_reducible rfl
          try simp only [Act.put, List.setIfInBounds_toArray, List.set_cons_zero, List.set_cons_succ]
          refine wpAnyH_take (i := 7) (oi := { dst := some 48, op := _, type := _, pos := _, after := _, guard := _ }) (v := ?_) rfl (by kernel_rfl) (by kernel_rfl) (by kernel_rfl) (fun _ _ _ h => h) (Or.inl ⟨by kernel_rfl, ?_⟩) (by assumption) ?_
          rotate_left
          · intro w hSw
            try dsimp only at hSw
            go_simp
            try with_reducible rfl
          try simp only [Act.put, List.setIfInBounds_toArray, List.set_cons_zero, List.set_cons_succ]
          refine wpAnyH_take (i := 8) (oi := { dst := some 49, op := _, type := _, pos := _, after := _, guard := _ }) (v := undef) rfl (by kernel_rfl) (by kernel_rfl) (by kernel_rfl) (fun _ _ _ h => h) (Or.inr ⟨by kernel_rfl, rfl⟩) (by assumption) ?_
          try simp only [Act.put, List.setIfInBounds_toArray, List.set_cons_zero, List.set_cons_succ]
          refine wpAnyH_take (i := 9) (oi := { dst := some 50, op := _, type := _, pos := _, after := _, guard := _ }) (v := undef) rfl (by kernel_rfl) (by kernel_rfl) (by kernel_rfl) (fun _ _ _ h => h) (Or.inr ⟨by kernel_rfl, rfl⟩) (by assumption) ?_
          try simp only [Act.put, List.setIfInBounds_toArray, List.set_cons_zero, List.set_cons_succ]
          refine wpAnyH_take (i := 10) (oi := { dst := some 51, op := _, type := _, pos := _, after := _, guard := _ }) (v := undef) rfl (by kernel_rfl) (by kernel_rfl) (by kernel_rfl) (fun _ _ _ h => h) (Or.inr ⟨by kernel_rfl, rfl⟩) (by assumption) ?_
          try simp only [Act.put, List.setIfInBounds_toArray, List.set_cons_zero, List.set_cons_succ]
          refine wpAnyH_take (i := 11) (oi := { dst := some 52, op := _, type := _, pos := _, after := _, guard := _ }) (v := undef) rfl (by kernel_rfl) (by kernel_rfl) (by kernel_rfl) (fun _ _ _ h => h) (Or.inr ⟨by kernel_rfl, rfl⟩) (by assumption) ?_
          try simp only [Act.put, List.setIfInBounds_toArray, List.set_cons_zero, List.set_cons_succ]
          refine wpAnyH_take (i := 12) (oi := { dst := some 53, op := _, type := _, pos := _, after := _, guard := _ }) (v := undef) rfl (by kernel_rfl) (by kernel_rfl) (by kernel_rfl) (fun _ _ _ h => h) (Or.inr ⟨by kernel_rfl, rfl⟩) (by assumption) ?_
          try simp only [Act.put, List.setIfInBounds_toArray, List.set_cons_zero, List.set_cons_succ]
          refine wpAnyH_take (i := 13) (oi := { dst := some 54, op := _, type := _, pos := _, after := _, guard := _ }) (v := undef) rfl (by kernel_rfl) (by kernel_rfl) (by kernel_rfl) (fun _ _ _ h => h) (Or.inr ⟨by kernel_rfl, rfl⟩) (by assumption) ?_
          try simp only [Act.put, List.setIfInBounds_toArray, List.set_cons_zero, List.set_cons_succ]
          refine wpAnyH_take (i := 14) (oi := { dst := some 55, op := _, type := _, pos := _, after := _, guard := _ }) (v := undef) rfl (by kernel_rfl) (by kernel_rfl) (by kernel_rfl) (fun _ _ _ h => h) (Or.inr ⟨by kernel_rfl, rfl⟩) (by assumption) ?_
          try simp only [Act.put, List.setIfInBounds_toArray, List.set_cons_zero, List.set_cons_succ]
          refine wpAnyH_take (i := 15) (oi := { dst := some 56, op := _, type := _, pos := _, after := _, guard := _ }) (v := undef) rfl (by kernel_rfl) (by kernel_rfl) (by kernel_rfl) (fun _ _ _ h => h) (Or.inr ⟨by kernel_rfl, rfl⟩) (by assumption) ?_
          try simp only [Act.put, List.setIfInBounds_toArray, List.set_cons_zero, List.set_cons_succ]
          refine wpAnyH_take (i := 16) (oi := { dst := some 57, op := _, type := _, pos := _, after := _, guard := _ }) (v := undef) rfl (by kernel_rfl) (by kernel_rfl) (by kernel_rfl) (fun _ _ _ h => h) (Or.inr ⟨by kernel_rfl, rfl⟩) (by assumption) ?_
          try simp only [Act.put, List.setIfInBounds_toArray, List.set_cons_zero, List.set_cons_succ]
          refine wpAnyH_take (i := 17) (oi := { dst := some 58, op := _, type := _, pos := _, after := _, guard := _ }) (v := undef) rfl (by kernel_rfl) (by kernel_rfl) (by kernel_rfl) (fun _ _ _ h => h) (Or.inr ⟨by kernel_rfl, rfl⟩) (by assumption) ?_
          try simp only [Act.put, List.setIfInBounds_toArray, List.set_cons_zero, List.set_cons_succ]
          refine wpAnyH_take (i := 18) (oi := { dst := some 59, op := _, type := _, pos := _, after := _, guard := _ }) (v := undef) rfl (by kernel_rfl) (by kernel_rfl) (by kernel_rfl) (fun _ _ _ h => h) (Or.inr ⟨by kernel_rfl, rfl⟩) (by assumption) ?_
          try simp only [Act.put, List.setIfInBounds_toArray, List.set_cons_zero, List.set_cons_succ]
          refine wpAnyH_take (i := 19) (oi := { dst := some 60, op := _, type := _, pos := _, after := _, guard := _ }) (v := undef) rfl (by kernel_rfl) (by kernel_rfl) (by kernel_rfl) (fun _ _ _ h => h) (Or.inr ⟨by kernel_rfl, rfl⟩) (by assumption) ?_
          try simp only [Act.put, List.setIfInBounds_toArray, List.set_cons_zero, List.set_cons_succ]
          refine wpAnyH_take (i := 20) (oi := { dst := some 61, op := _, type := _, pos := _, after := _, guard := _ }) (v := undef) rfl (by kernel_rfl) (by kernel_rfl) (by kernel_rfl) (fun _ _ _ h => h) (Or.inr ⟨by kernel_rfl, rfl⟩) (by assumption) ?_
          try simp only [Act.put, List.setIfInBounds_toArray, List.set_cons_zero, List.set_cons_succ]
          refine wpAnyH_take (i := 21) (oi := { dst := some 62, op := _, type := _, pos := _, after := _, guard := _ }) (v := ?_) rfl (by kernel_rfl) (by kernel_rfl) (by kernel_rfl) (fun _ _ _ h => h) (Or.inl ⟨by kernel_rfl, ?_⟩) (by assumption) ?_
          rotate_left
          · intro w hSw
            try dsimp only at hSw
            go_simp
            try with_reducible rfl
          try simp only [Act.put, List.setIfInBounds_toArray, List.set_cons_zero, List.set_cons_succ]
          refine wpAnyH_done (by kernel_rfl) ?_ _
          clear hHeld
          obtain ⟨st1, hst1⟩ : ∃ st1, st1 = st := ⟨_, rfl⟩
          have hI1 : SInv A n c T S true gw ps st1 WS.drew.drew := by
            rw [hst1]
            exact ⟨P, pc, B, bd, by rw [HM.out, HBM.out, HLST.out]; exact hBS.below hbdd, by rw [HM.out]; exact own_below hownS hbdd, by rw [HBM.out]; exact own_below hAbS hbdd, hne, fun ad e => ⟨by have := (hBlt ad e).1; have := hvS.size; have := hbdd.size; omega, (hBlt ad e).2⟩, hPgw⟩
          have hv1 : Below (gw - 1) w WS.drew.drew := (bl_le hvS (by omega)).trans (bl_le hbdd (by have := hvS.size; omega))
          have HU := Lib.hid (show updB xs T S f ps st = st1 by rw [hst1]; unfold updB okP; rw [HTH.out, HSF.out, HCST.out, HLST.out, if_neg (by intro h9; have h10 := h9.1; simp at h10; exact h3 h10.1)])
          clear hst1 hBS hownS hAbS hvS hX hown hAb hB
          have HS1 := Lib.hid (HAL.out.trans (by rw [HU.out] : _ = iterB (fun k s => goS xs T S f d (ps ++ [(k : Int)]) s) (firstN ps) (n - firstN ps) st1))
          go_wp2_with fail
          go_loopw [7] (fun i wr => ∃ (j : Nat) (s2 : Bst), j ≤ n ∧ i = .int .i64 j ∧ Hid (goS xs T S f (d + 1) ps st = iterB (fun k s => goS xs T S f d (ps ++ [(k : Int)]) s) j (n - j) s2) ∧ SInv A n c T S true gw ps s2 wr ∧ Below (gw - 1) w wr) (fun i _ => n - (intOf i).toNat)
          case atStart => exact ⟨firstN ps, st1, hfn, rfl, HS1, hI1, hv1⟩
          case round =>
            clear HS1 hI1 hv1
            obtain ⟨j, s2, hj, rfl, HS, hI2, hv2⟩ := hrel
            obtain ⟨P', pc', B', bd', hB', hown', hAb', hne', hBlt', hPgw'⟩ := hI2
            obtain ⟨bm', hbm'⟩ : ∃ bm, bm = s2.1.length := ⟨_, rfl⟩
            obtain ⟨lst', hlst'⟩ : ∃ lst, lst = s2.2 := ⟨_, rfl⟩
            rw [HM.out, ← hbm', ← hlst'] at hB'
            rw [← hbm'] at hAb'
            rw [HM.out] at hown'
            have y0 : wr.cell? ⟨gw, 0, none⟩ = some (.slice A n c) := hB'.cell 0
            have y4 : wr.cell? ⟨gw, 4, none⟩ = some (.slice P' m pc') := hB'.cell 4
            have HBM' := Lib.hid hbm'.symm
            have HL' := Lib.hid hlst'.symm
            clear hbm' hlst'
            by_cases hlt : j < n
            · obtain ⟨r, hr⟩ : ∃ r, n - j = r + 1 := ⟨n - j - 1, by omega⟩
              have HS2 := Lib.hid (show goS xs T S f (d + 1) ps st = iterB (fun k s => goS xs T S f d (ps ++ [(k : Int)]) s) (j + 1) (n - (j + 1)) (goS xs T S f d (ps ++ [(j : Int)]) s2) by rw [HS.out, hr, show n - (j + 1) = r by omega]; rfl)
              clear HS hr
              have hszr : gw + 1 ≤ wr.heap.size := hB'.lt
              go_wp2_with (at_builtin; refine app_fresh1 _ _ rfl _ _ 27 2 rfl i0 _ 1 8 Try.underlying27 hi0 hz0 hz1 hz2 rfl (by omega) (gw - 1) P' m pc' _ rfl _ rfl rfl hown' rfl (by simp [Value.oneCell']) (by unfold maxLen; omega) (by omega) (by omega) ?_; intro g3 c3 w3 hown3 hg3 hf3; have hB3 := hB'.grown hg3 (map_ne (fun g e => (hPgw' g e).symm)); have k4 : w3.cell? ⟨gw, 4, none⟩ = some (.slice P' m pc') := hB3.cell 4; have q4 := hB3.frozen 4)
              have hfl : flat icell ps ++ #[Value.int IntKind.i64 (j : Int)].toList = flat icell (ps ++ [(j : Int)]) := by rw [flat_append]; rfl
              rw [hfl] at hown3
              have hll : (ps ++ [(j : Int)]).length = m + 1 := by rw [List.length_append, HM.out]; rfl
              have hg3w : g3 ≠ gw := by
                rcases hf3 with h | h
                · exact hPgw' _ h
                · omega
              have hf3a : ∀ g', Value.ownBlock (.slice (some ⟨g3, 0, none⟩) (m + 1) c3) = some g' → g' ≠ (⟨gw, 4, none⟩ : Addr).block := by
                intro g' e
                injection e with e
                rw [← e]
                exact hg3w
              have hAb3 := own_kept hAb' hg3 hne'
              have hI3 : SInv A n c T S true gw (ps ++ [(j : Int)]) s2 (w3.setCell ⟨gw, 4, none⟩ (.slice (some ⟨g3, 0, none⟩) (m + 1) c3)) :=
                ⟨some ⟨g3, 0, none⟩, c3, B', bd', by rw [hll, HBM'.out, HL'.out]; exact hB3.set_ 4 _, by rw [hll]; exact own_far hown3 hf3a _, by rw [HBM'.out]; exact own_far (p := ⟨gw, 4, none⟩) hAb3 (own_ne (fun ad e => (hBlt' ad e).2)) _,
                  fun ad g e e' => by
                    injection e' with e'
                    subst e'
                    rcases hf3 with h6 | h6
                    · exact hne' ad _ e h6
                    · have := (hBlt' ad e).1; simp only; omega,
                  fun ad e => ⟨by have := (hBlt' ad e).1; have := hg3.size; simp [World.setCell]; omega, (hBlt' ad e).2⟩,
                  fun g e => by injection e with e; rw [← e]; exact hg3w⟩
              have hv3 : Below (gw - 1) w (w3.setCell ⟨gw, 4, none⟩ (.slice (some ⟨g3, 0, none⟩) (m + 1) c3)) := (hv2.grown hg3 (by omega) (fun k e => by
                cases hP : P' with
                | none => rw [hP] at e; cases e
                | some ad =>
                  have h7 := own_at hown' ad.block (by rw [hP]; rfl)
                  rw [hP] at e
                  injection e with e
                  simp only at e
                  omega)).setCell (show gw - 1 ≤ gw by omega) _
              have hih := Lib.hid (ih (ps ++ [(j : Int)]) s2 _ (by rw [hll]; omega) (Lib.hid (plyOk_append hpo.out (by rw [hn.out]; exact hlt))) hI3 (hA.le hv3 hAgw))
              rw [firstN_append] at hih
              clear hown' hown3 hg3 hf3 hB3 k4 q4 hfl hf3a hAb3 hI3 y0 y4 hB' hAb' hne' hBlt' hPgw' hg3w
              refine hih.out.mono ?_
              rintro e W4 ⟨rfl, hI4, hv4⟩
              replace hv3 := hv3.trans hv4
              clear hih hv4
              obtain ⟨P4, pc4, B4, bd4, hB4, hown4, hAb4, hne4, hBlt4, hPgw4⟩ := hI4
              rw [hll] at hB4 hown4
              obtain ⟨s4, hs4⟩ : ∃ s4, s4 = goS xs T S f d (ps ++ [(j : Int)]) s2 := ⟨_, rfl⟩
              rw [← hs4] at HS2 hB4 hAb4
              obtain ⟨bm4, hbm4⟩ : ∃ bm, bm = s4.1.length := ⟨_, rfl⟩
              obtain ⟨lst4, hlst4⟩ : ∃ lst, lst = s4.2 := ⟨_, rfl⟩
              rw [← hbm4, ← hlst4] at hB4
              rw [← hbm4] at hAb4
              have y4 : W4.cell? ⟨gw, 4, none⟩ = some (.slice P4 (m + 1) pc4) := hB4.cell 4
              have f4 := hB4.frozen 4
              have hcap : m + 1 ≤ pc4 := by
                obtain ⟨A9, c9, e9, h9, _⟩ := own_form hown4
                injection e9 with _ _ e9
                omega
              have hown5 : W4.ownsRow (gw - 1) 2 1 (.slice P4 m pc4) m (flat icell ps) := by
                rw [flat_append] at hown4
                exact own_take hown4
              have hf5 : ∀ g', Value.ownBlock (.slice P4 m pc4) = some g' → g' ≠ (⟨gw, 4, none⟩ : Addr).block := by
                exact own_ne hPgw4
              have hI5 : SInv A n c T S true gw ps s4 (W4.setCell ⟨gw, 4, none⟩ (.slice P4 m pc4)) :=
                ⟨P4, pc4, B4, bd4, by rw [HM.out, ← hbm4, ← hlst4]; exact hB4.set_ 4 _, by rw [HM.out]; exact own_far hown5 hf5 _, by rw [← hbm4]; exact own_far (p := ⟨gw, 4, none⟩) hAb4 (own_ne (fun ad e => (hBlt4 ad e).2)) _, hne4, fun ad e => ⟨by have := (hBlt4 ad e).1; simp [World.setCell]; omega, (hBlt4 ad e).2⟩, hPgw4⟩
              have hv5 : Below (gw - 1) w (W4.setCell ⟨gw, 4, none⟩ (.slice P4 m pc4)) := hv3.setCell (show gw - 1 ≤ gw by omega) _
              have HI5 := Lib.hid hI5
              have HV5 := Lib.hid hv5
              have hc1 : (m : Int) ≤ (pc4 : Int) := by omega
              clear hown4 hown5 hf5 hAb4 hne4 hBlt4 hPgw4 hI5 hv5 hv3 hs4 hbm4 hlst4 hll hB4
              go_wp2_with fail
              exact ⟨⟨j + 1, s4, by omega, by go_num, HS2, HI5.out, HV5.out⟩, by simp [intOf]; omega⟩
            · have HS2 := Lib.hid (HS.out.trans (by rw [show n - j = 0 by omega]; rfl : _ = s2))
              clear HS
              go_wp2_with fail
              go_returns
              rw [HS2.out]
              exact ⟨rfl, ⟨P', pc', B', bd', by rw [HM.out, HBM'.out, HL'.out]; exact hB', by rw [HM.out]; exact hown', by rw [HBM'.out]; exact hAb', hne', hBlt', hPgw'⟩, hv2⟩
      case false =>
        have HCST : Hid (sumR f xs ps = pr) := Lib.hid (by rw [hf.out]; exact (by rw [if_neg (by decide)]; exact HPR.out))
        go_wp2_with fail
        refine wp_region_held_drew (S := fun w' => Below WS.heap.size WS w' ∧ Blk w' gx 76 #[Value.string ⟨#[]⟩, Value.int IntKind.i64 th, Value.int IntKind.i64 gm, Value.int IntKind.i64 sf, Value.int IntKind.i64 pr] ∧ Blk w' gw 79 #[Value.slice A n c, Value.int IntKind.i64 T, Value.int IntKind.i64 S, Value.bool false, Value.slice P m pc, Value.slice B bm bd, Value.int IntKind.i64 lst]) (by kernel_rfl) ?_ (fun hHeld => ?_)
        · exact ⟨hbd, hX.below hbd, hBS.below hbd⟩
        refine wpAnyH_take (i := 0) (oi := { dst := some 17, op := _, type := _, pos := _, after := _, guard := _ }) (v := ?_) rfl (by kernel_rfl) (by kernel_rfl) (by kernel_rfl) (fun _ _ _ h => h) (Or.inl ⟨by kernel_rfl, ?_⟩) (by assumption) ?_
        rotate_left
        · intro w hSw
          try dsimp only at hSw
          go_simp
          try with_reducible rfl
        try simp only [Act.put, List.setIfInBounds_toArray, List.set_cons_zero, List.set_cons_succ]
        refine wpAnyH_take (i := 1) (oi := { dst := some 18, op := _, type := _, pos := _, after := _, guard := _ }) (v := ?_) rfl (by kernel_rfl) (by kernel_rfl) (by kernel_rfl) (fun _ _ _ h => h) (Or.inl ⟨by kernel_rfl, ?_⟩) (by assumption) ?_
        rotate_left
        · intro w hSw
          try dsimp only at hSw
          have x1 : w.cell? ⟨gx, 1, none⟩ = some (.int .i64 th) := hSw.2.1.cell 1
          have x2 : w.cell? ⟨gx, 2, none⟩ = some (.int .i64 gm) := hSw.2.1.cell 2
          have x3 : w.cell? ⟨gx, 3, none⟩ = some (.int .i64 sf) := hSw.2.1.cell 3
          have x4 : w.cell? ⟨gx, 4, none⟩ = some (.int .i64 pr) := hSw.2.1.cell 4
          have y1 : w.cell? ⟨gw, 1, none⟩ = some (.int .i64 T) := hSw.2.2.cell 1
          have y2 : w.cell? ⟨gw, 2, none⟩ = some (.int .i64 S) := hSw.2.2.cell 2
          have y6 : w.cell? ⟨gw, 6, none⟩ = some (.int .i64 lst) := hSw.2.2.cell 6
          go_simp
          try with_reducible rfl
        try simp only [Act.put, List.setIfInBounds_toArray, List.set_cons_zero, List.set_cons_succ]
        refine wpAnyH_take (i := 2) (oi := { dst := some 19, op := _, type := _, pos := _, after := _, guard := _ }) (v := ?_) rfl (by kernel_rfl) (by kernel_rfl) (by kernel_rfl) (fun _ _ _ h => h) (Or.inl ⟨by kernel_rfl, ?_⟩) (by assumption) ?_
        rotate_left
        · intro w hSw
          try dsimp only at hSw
          go_simp
          try with_reducible rfl
        try simp only [Act.put, List.setIfInBounds_toArray, List.set_cons_zero, List.set_cons_succ]
        refine wpAnyH_take (i := 3) (oi := { dst := some 20, op := _, type := _, pos := _, after := _, guard := _ }) (v := ?_) rfl (by kernel_rfl) (by kernel_rfl) (by kernel_rfl) (fun _ _ _ h => h) (Or.inl ⟨by kernel_rfl, ?_⟩) (by assumption) ?_
        rotate_left
        · intro w hSw
          try dsimp only at hSw
          go_simp
          try with_reducible rfl
        try simp only [Act.put, List.setIfInBounds_toArray, List.set_cons_zero, List.set_cons_succ]
        refine wpAnyH_take (i := 4) (oi := { dst := some 21, op := _, type := _, pos := _, after := _, guard := _ }) (v := ?_) rfl (by kernel_rfl) (by kernel_rfl) (by kernel_rfl) (fun _ _ _ h => h) (Or.inl ⟨by kernel_rfl, ?_⟩) (by assumption) ?_
        rotate_left
        · intro w hSw
          try dsimp only at hSw
          go_simp
          try with_reducible rfl
        try simp only [Act.put, List.setIfInBounds_toArray, List.set_cons_zero, List.set_cons_succ]
        refine wpAnyH_take (i := 5) (oi := { dst := some 22, op := _, type := _, pos := _, after := _, guard := _ }) (v := ?_) rfl (by kernel_rfl) (by kernel_rfl) (by kernel_rfl) (fun _ _ _ h => h) (Or.inl ⟨by kernel_rfl, ?_⟩) (by assumption) ?_
        rotate_left
        · intro w hSw
          try dsimp only at hSw
          have x1 : w.cell? ⟨gx, 1, none⟩ = some (.int .i64 th) := hSw.2.1.cell 1
          have x2 : w.cell? ⟨gx, 2, none⟩ = some (.int .i64 gm) := hSw.2.1.cell 2
          have x3 : w.cell? ⟨gx, 3, none⟩ = some (.int .i64 sf) := hSw.2.1.cell 3
          have x4 : w.cell? ⟨gx, 4, none⟩ = some (.int .i64 pr) := hSw.2.1.cell 4
          have y1 : w.cell? ⟨gw, 1, none⟩ = some (.int .i64 T) := hSw.2.2.cell 1
          have y2 : w.cell? ⟨gw, 2, none⟩ = some (.int .i64 S) := hSw.2.2.cell 2
          have y6 : w.cell? ⟨gw, 6, none⟩ = some (.int .i64 lst) := hSw.2.2.cell 6
          go_simp
          try with_reducible rfl
        try simp only [Act.put, List.setIfInBounds_toArray, List.set_cons_zero, List.set_cons_succ]
        refine wpAnyH_take (i := 6) (oi := { dst := some 23, op := _, type := _, pos := _, after := _, guard := _ }) (v := ?_) rfl (by kernel_rfl) (by kernel_rfl) (by kernel_rfl) (fun _ _ _ h => h) (Or.inl ⟨by kernel_rfl, ?_⟩) (by assumption) ?_
        rotate_left
        · intro w hSw
          try dsimp only at hSw
          go_simp
          try with_reducible rfl
        try simp only [Act.put, List.setIfInBounds_toArray, List.set_cons_zero, List.set_cons_succ]
        refine wpAnyH_take (i := 7) (oi := { dst := some 24, op := _, type := _, pos := _, after := _, guard := _ }) (v := ?_) rfl (by kernel_rfl) (by kernel_rfl) (by kernel_rfl) (fun _ _ _ h => h) (Or.inl ⟨by kernel_rfl, ?_⟩) (by assumption) ?_
        rotate_left
        · intro w hSw
          try dsimp only at hSw
          go_simp
          try with_reducible rfl
        try simp only [Act.put, List.setIfInBounds_toArray, List.set_cons_zero, List.set_cons_succ]
        refine wpAnyH_take (i := 8) (oi := { dst := some 25, op := _, type := _, pos := _, after := _, guard := _ }) (v := ?_) rfl (by kernel_rfl) (by kernel_rfl) (by kernel_rfl) (fun _ _ _ h => h) (Or.inl ⟨by kernel_rfl, ?_⟩) (by assumption) ?_
        rotate_left
        · intro w hSw
          try dsimp only at hSw
          go_simp
          try with_reducible rfl
        try simp only [Act.put, List.setIfInBounds_toArray, List.set_cons_zero, List.set_cons_succ]
        refine wpAnyH_take (i := 9) (oi := { dst := some 26, op := _, type := _, pos := _, after := _, guard := _ }) (v := ?_) rfl (by kernel_rfl) (by kernel_rfl) (by kernel_rfl) (fun _ _ _ h => h) (Or.inl ⟨by kernel_rfl, ?_⟩) (by assumption) ?_
        rotate_left
        · intro w hSw
          try dsimp only at hSw
          have x1 : w.cell? ⟨gx, 1, none⟩ = some (.int .i64 th) := hSw.2.1.cell 1
          have x2 : w.cell? ⟨gx, 2, none⟩ = some (.int .i64 gm) := hSw.2.1.cell 2
          have x3 : w.cell? ⟨gx, 3, none⟩ = some (.int .i64 sf) := hSw.2.1.cell 3
          have x4 : w.cell? ⟨gx, 4, none⟩ = some (.int .i64 pr) := hSw.2.1.cell 4
          have y1 : w.cell? ⟨gw, 1, none⟩ = some (.int .i64 T) := hSw.2.2.cell 1
          have y2 : w.cell? ⟨gw, 2, none⟩ = some (.int .i64 S) := hSw.2.2.cell 2
          have y6 : w.cell? ⟨gw, 6, none⟩ = some (.int .i64 lst) := hSw.2.2.cell 6
          go_simp
          try with_reducible rfl
        try simp only [Act.put, List.setIfInBounds_toArray, List.set_cons_zero, List.set_cons_succ]
        refine wpAnyH_take (i := 10) (oi := { dst := some 27, op := _, type := _, pos := _, after := _, guard := _ }) (v := ?_) rfl (by kernel_rfl) (by kernel_rfl) (by kernel_rfl) (fun _ _ _ h => h) (Or.inl ⟨by kernel_rfl, ?_⟩) (by assumption) ?_
        rotate_left
        · intro w hSw
          try dsimp only at hSw
          go_simp
          try with_reducible rfl
        try simp only [Act.put, List.setIfInBounds_toArray, List.set_cons_zero, List.set_cons_succ]
        refine wpAnyH_take (i := 11) (oi := { dst := some 28, op := _, type := _, pos := _, after := _, guard := _ }) (v := ?_) rfl (by kernel_rfl) (by kernel_rfl) (by kernel_rfl) (fun _ _ _ h => h) (Or.inl ⟨by kernel_rfl, ?_⟩) (by assumption) ?_
        rotate_left
        · intro w hSw
          try dsimp only at hSw
          go_simp
          try with_reducible rfl
        try simp only [Act.put, List.setIfInBounds_toArray, List.set_cons_zero, List.set_cons_succ]
        refine wpAnyH_take (i := 12) (oi := { dst := some 29, op := _, type := _, pos := _, after := _, guard := _ }) (v := ?_) rfl (by kernel_rfl) (by kernel_rfl) (by kernel_rfl) (fun _ _ _ h => h) (Or.inl ⟨by kernel_rfl, ?_⟩) (by assumption) ?_
        rotate_left
        · intro w hSw
          try dsimp only at hSw
          go_simp
          try with_reducible rfl
        try simp only [Act.put, List.setIfInBounds_toArray, List.set_cons_zero, List.set_cons_succ]
        refine wpAnyH_take (i := 13) (oi := { dst := some 30, op := _, type := _, pos := _, after := _, guard := _ }) (v := ?_) rfl (by kernel_rfl) (by kernel_rfl) (by kernel_rfl) (fun _ _ _ h => h) (Or.inl ⟨by kernel_rfl, ?_⟩) (by assumption) ?_
        rotate_left
        · intro w hSw
          try dsimp only at hSw
          have x1 : w.cell? ⟨gx, 1, none⟩ = some (.int .i64 th) := hSw.2.1.cell 1
          have x2 : w.cell? ⟨gx, 2, none⟩ = some (.int .i64 gm) := hSw.2.1.cell 2
          have x3 : w.cell? ⟨gx, 3, none⟩ = some (.int .i64 sf) := hSw.2.1.cell 3
          have x4 : w.cell? ⟨gx, 4, none⟩ = some (.int .i64 pr) := hSw.2.1.cell 4
          have y1 : w.cell? ⟨gw, 1, none⟩ = some (.int .i64 T) := hSw.2.2.cell 1
          have y2 : w.cell? ⟨gw, 2, none⟩ = some (.int .i64 S) := hSw.2.2.cell 2
          have y6 : w.cell? ⟨gw, 6, none⟩ = some (.int .i64 lst) := hSw.2.2.cell 6
          go_simp
          try with_reducible rfl
        try simp only [Act.put, List.setIfInBounds_toArray, List.set_cons_zero, List.set_cons_succ]
        refine wpAnyH_take (i := 14) (oi := { dst := some 31, op := _, type := _, pos := _, after := _, guard := _ }) (v := ?_) rfl (by kernel_rfl) (by kernel_rfl) (by kernel_rfl) (fun _ _ _ h => h) (Or.inl ⟨by kernel_rfl, ?_⟩) (by assumption) ?_
        rotate_left
        · intro w hSw
          try dsimp only at hSw
          go_simp
          try with_reducible rfl
        try simp only [Act.put, List.setIfInBounds_toArray, List.set_cons_zero, List.set_cons_succ]
        refine wpAnyH_take (i := 15) (oi := { dst := some 32, op := _, type := _, pos := _, after := _, guard := _ }) (v := ?_) rfl (by kernel_rfl) (by kernel_rfl) (by kernel_rfl) (fun _ _ _ h => h) (Or.inl ⟨by kernel_rfl, ?_⟩) (by assumption) ?_
        rotate_left
        · intro w hSw
          try dsimp only at hSw
          go_simp
          try with_reducible rfl
        try simp only [Act.put, List.setIfInBounds_toArray, List.set_cons_zero, List.set_cons_succ]
        refine wpAnyH_done (by kernel_rfl) ?_ _
        clear hHeld
        go_wp2_with fail
        by_cases h3 : th = T
        · have h3b : (th == T) = true := by rw [beq_iff_eq]; exact h3
          have H3 := Lib.hid h3
          clear h3
          by_cases h4 : lst < 0
          · have h4d : decide (lst < 0) = true := decide_eq_true h4
            have hm0 : 0 < m := by
              rcases Nat.eq_zero_or_pos m with h | h
              · have h9 : ps = [] := List.eq_nil_of_length_eq_zero (by rw [HM.out]; exact h)
                have h10 := HTH.out
                rw [h9] at h10
                have h11 : sumR Stuff.thick xs [] = 0 := rfl
                have h12 := H3.out
                omega
              · exact h
            have f5 := hBS.frozen 5
            have f6 := hBS.frozen 6
            refine wp_region_held_drew (S := fun w' => Below WS.heap.size WS w' ∧ Blk w' gx 76 #[Value.string ⟨#[]⟩, Value.int IntKind.i64 th, Value.int IntKind.i64 gm, Value.int IntKind.i64 sf, Value.int IntKind.i64 pr] ∧ Blk w' gw 79 #[Value.slice A n c, Value.int IntKind.i64 T, Value.int IntKind.i64 S, Value.bool false, Value.slice P m pc, Value.slice B bm bd, Value.int IntKind.i64 lst]) (by kernel_rfl) ?_ (fun hHeld => ?_)
            · exact ⟨hbdd, hX.below hbdd, hBS.below hbdd⟩
            refine wpAnyH_take (i := 0) (oi := { dst := some 41, op := _, type := _, pos := _, after := _, guard := _ }) (v := ?_) rfl (by kernel_rfl) (by kernel_rfl) (by kernel_rfl) (fun _ _ _ h => h) (Or.inl ⟨by kernel_rfl, ?_⟩) (by assumption) ?_
            rotate_left
            · intro w hSw
              try dsimp only at hSw
              go_simp
              try with_reducible rfl
            try simp only [Act.put, List.setIfInBounds_toArray, List.set_cons_zero, List.set_cons_succ]
            refine wpAnyH_take (i := 1) (oi := { dst := some 42, op := _, type := _, pos := _, after := _, guard := _ }) (v := ?_) rfl (by kernel_rfl) (by kernel_rfl) (by kernel_rfl) (fun _ _ _ h => h) (Or.inl ⟨by kernel_rfl, ?_⟩) (by assumption) ?_
            rotate_left
            · intro w hSw
              try dsimp only at hSw
              have x1 : w.cell? ⟨gx, 1, none⟩ = some (.int .i64 th) := hSw.2.1.cell 1
              have x2 : w.cell? ⟨gx, 2, none⟩ = some (.int .i64 gm) := hSw.2.1.cell 2
              have x3 : w.cell? ⟨gx, 3, none⟩ = some (.int .i64 sf) := hSw.2.1.cell 3
              have x4 : w.cell? ⟨gx, 4, none⟩ = some (.int .i64 pr) := hSw.2.1.cell 4
              have y1 : w.cell? ⟨gw, 1, none⟩ = some (.int .i64 T) := hSw.2.2.cell 1
              have y2 : w.cell? ⟨gw, 2, none⟩ = some (.int .i64 S) := hSw.2.2.cell 2
              have y6 : w.cell? ⟨gw, 6, none⟩ = some (.int .i64 lst) := hSw.2.2.cell 6
              go_simp
              try with_reducible rfl
            try simp only [Act.put, List.setIfInBounds_toArray, List.set_cons_zero, List.set_cons_succ]
            refine wpAnyH_take (i := 2) (oi := { dst := some 43, op := _, type := _, pos := _, after := _, guard := _ }) (v := ?_) rfl (by kernel_rfl) (by kernel_rfl) (by kernel_rfl) (fun _ _ _ h => h) (Or.inl ⟨by kernel_rfl, ?_⟩) (by assumption) ?_
            rotate_left
            · intro w hSw
              try dsimp only at hSw
              go_simp
              try with_reducible rfl
            try simp only [Act.put, List.setIfInBounds_toArray, List.set_cons_zero, List.set_cons_succ]
            refine wpAnyH_take (i := 3) (oi := { dst := some 44, op := _, type := _, pos := _, after := _, guard := _ }) (v := ?_) rfl (by kernel_rfl) (by kernel_rfl) (by kernel_rfl) (fun _ _ _ h => h) (Or.inl ⟨by kernel_rfl, ?_⟩) (by assumption) ?_
            rotate_left
            · intro w hSw
              try dsimp only at hSw
              go_simp
              try with_reducible rfl
            try simp only [Act.put, List.setIfInBounds_toArray, List.set_cons_zero, List.set_cons_succ]
            refine wpAnyH_take (i := 4) (oi := { dst := some 45, op := _, type := _, pos := _, after := _, guard := _ }) (v := ?_) rfl (by kernel_rfl) (by kernel_rfl) (by kernel_rfl) (fun _ _ _ h => h) (Or.inl ⟨by kernel_rfl, ?_⟩) (by assumption) ?_
            rotate_left
            · intro w hSw
              try dsimp only at hSw
              go_simp
              try with_reducible rfl
            try simp only [Act.put, List.setIfInBounds_toArray, List.set_cons_zero, List.set_cons_succ]
            refine wpAnyH_take (i := 5) (oi := { dst := some 46, op := _, type := _, pos := _, after := _, guard := _ }) (v := ?_) rfl (by kernel_rfl) (by kernel_rfl) (by kernel_rfl) (fun _ _ _ h => h) (Or.inl ⟨by kernel_rfl, ?_⟩) (by assumption) ?_
            rotate_left
            · intro w hSw
              try dsimp only at hSw
              have x1 : w.cell? ⟨gx, 1, none⟩ = some (.int .i64 th) := hSw.2.1.cell 1
              have x2 : w.cell? ⟨gx, 2, none⟩ = some (.int .i64 gm) := hSw.2.1.cell 2
              have x3 : w.cell? ⟨gx, 3, none⟩ = some (.int .i64 sf) := hSw.2.1.cell 3
              have x4 : w.cell? ⟨gx, 4, none⟩ = some (.int .i64 pr) := hSw.2.1.cell 4
              have y1 : w.cell? ⟨gw, 1, none⟩ = some (.int .i64 T) := hSw.2.2.cell 1
              have y2 : w.cell? ⟨gw, 2, none⟩ = some (.int .i64 S) := hSw.2.2.cell 2
              have y6 : w.cell? ⟨gw, 6, none⟩ = some (.int .i64 lst) := hSw.2.2.cell 6
              go_simp
              try with_reducible rfl
            try simp only [Act.put, List.setIfInBounds_toArray, List.set_cons_zero, List.set_cons_succ]
            refine wpAnyH_take (i := 6) (oi := { dst := some 47, op := _, type := _, pos := _, after := _, guard := _ }) (v := ?_) rfl (by kernel_rfl) (by kernel_rfl) (by kernel_rfl) (fun _ _ _ h => h) (Or.inl ⟨by kernel_rfl, ?_⟩) (by assumption) ?_
            rotate_left
            · intro w hSw
              try dsimp only at hSw
              go_simp
              try with_reducible rfl
            try simp only [Act.put, List.setIfInBounds_toArray, List.set_cons_zero, List.set_cons_succ]
            refine wpAnyH_take (i := 7) (oi := { dst := some 48, op := _, type := _, pos := _, after := _, guard := _ }) (v := ?_) rfl (by kernel_rfl) (by kernel_rfl) (by kernel_rfl) (fun _ _ _ h => h) (Or.inl ⟨by kernel_rfl, ?_⟩) (by assumption) ?_
            rotate_left
            · intro w hSw
              try dsimp only at hSw
              go_simp
              try with_reducible rfl
            try simp only [Act.put, List.setIfInBounds_toArray, List.set_cons_zero, List.set_cons_succ]
            refine wpAnyH_take (i := 8) (oi := { dst := some 49, op := _, type := _, pos := _, after := _, guard := _ }) (v := ?_) rfl (by kernel_rfl) (by kernel_rfl) (by kernel_rfl) (fun _ _ _ h => h) (Or.inl ⟨by kernel_rfl, ?_⟩) (by assumption) ?_
            rotate_left
            · intro w hSw
              try dsimp only at hSw
              go_simp
              try with_reducible rfl
            try simp only [Act.put, List.setIfInBounds_toArray, List.set_cons_zero, List.set_cons_succ]
            refine wpAnyH_take (i := 9) (oi := { dst := some 50, op := _, type := _, pos := _, after := _, guard := _ }) (v := ?_) rfl (by kernel_rfl) (by kernel_rfl) (by kernel_rfl) (fun _ _ _ h => h) (Or.inl ⟨by kernel_rfl, ?_⟩) (by assumption) ?_
            rotate_left
            · intro w hSw
              try dsimp only at hSw
              go_simp
              try with_reducible rfl
            try simp only [Act.put, List.setIfInBounds_toArray, List.set_cons_zero, List.set_cons_succ]
            refine wpAnyH_take (i := 10) (oi := { dst := some 51, op := _, type := _, pos := _, after := _, guard := _ }) (v := ?_) rfl (by kernel_rfl) (by kernel_rfl) (by kernel_rfl) (fun _ _ _ h => h) (Or.inl ⟨by kernel_rfl, ?_⟩) (by assumption) ?_
            rotate_left
            · intro w hSw
              try dsimp only at hSw
              go_simp
              try with_reducible rfl
            try simp only [Act.put, List.setIfInBounds_toArray, List.set_cons_zero, List.set_cons_succ]
            refine wpAnyH_take (i := 11) (oi := { dst := some 52, op := _, type := _, pos := _, after := _, guard := _ }) (v := ?_) rfl (by kernel_rfl) (by kernel_rfl) (by kernel_rfl) (fun _ _ _ h => h) (Or.inl ⟨by kernel_rfl, ?_⟩) (by assumption) ?_
            rotate_left
            · intro w hSw
              try dsimp only at hSw
              have x1 : w.cell? ⟨gx, 1, none⟩ = some (.int .i64 th) := hSw.2.1.cell 1
              have x2 : w.cell? ⟨gx, 2, none⟩ = some (.int .i64 gm) := hSw.2.1.cell 2
              have x3 : w.cell? ⟨gx, 3, none⟩ = some (.int .i64 sf) := hSw.2.1.cell 3
              have x4 : w.cell? ⟨gx, 4, none⟩ = some (.int .i64 pr) := hSw.2.1.cell 4
              have y1 : w.cell? ⟨gw, 1, none⟩ = some (.int .i64 T) := hSw.2.2.cell 1
              have y2 : w.cell? ⟨gw, 2, none⟩ = some (.int .i64 S) := hSw.2.2.cell 2
              have y6 : w.cell? ⟨gw, 6, none⟩ = some (.int .i64 lst) := hSw.2.2.cell 6
              go_simp
              try with_reducible rfl
            try simp only [Act.put, List.setIfInBounds_toArray, List.set_cons_zero, List.set_cons_succ]
            refine wpAnyH_take (i := 12) (oi := { dst := some 53, op := _, type := _, pos := _, after := _, guard := _ }) (v := ?_) rfl (by kernel_rfl) (by kernel_rfl) (by kernel_rfl) (fun _ _ _ h => h) (Or.inl ⟨by kernel_rfl, ?_⟩) (by assumption) ?_
            rotate_left
            · intro w hSw
              try dsimp only at hSw
              go_simp
              try with_reducible rfl
            try simp only [Act.put, List.setIfInBounds_toArray, List.set_cons_zero, List.set_cons_succ]
            refine wpAnyH_take (i := 13) (oi := { dst := some 54, op := _, type := _, pos := _, after := _, guard := _ }) (v := ?_) rfl (by kernel_rfl) (by kernel_rfl) (by kernel_rfl) (fun _ _ _ h => h) (Or.inl ⟨by kernel_rfl, ?_⟩) (by assumption) ?_
            rotate_left
            · intro w hSw
              try dsimp only at hSw
              go_simp
              try with_reducible rfl
            try simp only [Act.put, List.setIfInBounds_toArray, List.set_cons_zero, List.set_cons_succ]
            refine wpAnyH_take (i := 14) (oi := { dst := some 55, op := _, type := _, pos := _, after := _, guard := _ }) (v := undef) rfl (by kernel_rfl) (by kernel_rfl) (by kernel_rfl) (fun _ _ _ h => h) (Or.inr ⟨by kernel_rfl, rfl⟩) (by assumption) ?_
            try simp only [Act.put, List.setIfInBounds_toArray, List.set_cons_zero, List.set_cons_succ]
            refine wpAnyH_take (i := 15) (oi := { dst := some 56, op := _, type := _, pos := _, after := _, guard := _ }) (v := undef) rfl (by kernel_rfl) (by kernel_rfl) (by kernel_rfl) (fun _ _ _ h => h) (Or.inr ⟨by kernel_rfl, rfl⟩) (by assumption) ?_
            try simp only [Act.put, List.setIfInBounds_toArray, List.set_cons_zero, List.set_cons_succ]
            refine wpAnyH_take (i := 16) (oi := { dst := some 57, op := _, type := _, pos := _, after := _, guard := _ }) (v := undef) rfl (by kernel_rfl) (by kernel_rfl) (by kernel_rfl) (fun _ _ _ h => h) (Or.inr ⟨by kernel_rfl, rfl⟩) (by assumption) ?_
            try simp only [Act.put, List.setIfInBounds_toArray, List.set_cons_zero, List.set_cons_succ]
            refine wpAnyH_take (i := 17) (oi := { dst := some 58, op := _, type := _, pos := _, after := _, guard := _ }) (v := undef) rfl (by kernel_rfl) (by kernel_rfl) (by kernel_rfl) (fun _ _ _ h => h) (Or.inr ⟨by kernel_rfl, rfl⟩) (by assumption) ?_
            try simp only [Act.put, List.setIfInBounds_toArray, List.set_cons_zero, List.set_cons_succ]
            refine wpAnyH_take (i := 18) (oi := { dst := some 59, op := _, type := _, pos := _, after := _, guard := _ }) (v := undef) rfl (by kernel_rfl) (by kernel_rfl) (by kernel_rfl) (fun _ _ _ h => h) (Or.inr ⟨by kernel_rfl, rfl⟩) (by assumption) ?_
            try simp only [Act.put, List.setIfInBounds_toArray, List.set_cons_zero, List.set_cons_succ]
            refine wpAnyH_take (i := 19) (oi := { dst := some 60, op := _, type := _, pos := _, after := _, guard := _ }) (v := undef) rfl (by kernel_rfl) (by kernel_rfl) (by kernel_rfl) (fun _ _ _ h => h) (Or.inr ⟨by kernel_rfl, rfl⟩) (by assumption) ?_
            try simp only [Act.put, List.setIfInBounds_toArray, List.set_cons_zero, List.set_cons_succ]
            refine wpAnyH_take (i := 20) (oi := { dst := some 61, op := _, type := _, pos := _, after := _, guard := _ }) (v := ?_) rfl (by kernel_rfl) (by kernel_rfl) (by kernel_rfl) (fun _ _ _ h => h) (Or.inl ⟨by kernel_rfl, ?_⟩) (by assumption) ?_
            rotate_left
            · intro w hSw
              try dsimp only at hSw
              go_simp
              try with_reducible rfl
            try simp only [Act.put, List.setIfInBounds_toArray, List.set_cons_zero, List.set_cons_succ]
            refine wpAnyH_take (i := 21) (oi := { dst := some 62, op := _, type := _, pos := _, after := _, guard := _ }) (v := ?_) rfl (by kernel_rfl) (by kernel_rfl) (by kernel_rfl) (fun _ _ _ h => h) (Or.inl ⟨by kernel_rfl, ?_⟩) (by assumption) ?_
            rotate_left
            · intro w hSw
              try dsimp only at hSw
              go_simp
              try with_reducible rfl
            try simp only [Act.put, List.setIfInBounds_toArray, List.set_cons_zero, List.set_cons_succ]
            refine wpAnyH_done (by kernel_rfl) ?_ _
            clear hHeld
            go_wp2_with fail
            obtain ⟨gp, hgp⟩ := own_addr hownS hm0
            subst hgp
            have hB6 : Blk (WS.drew.drew.setCell ⟨gw, 6, none⟩ (.int .i64 pr)) gw 79 #[Value.slice A n c, Value.int IntKind.i64 T, Value.int IntKind.i64 S, Value.bool false, Value.slice (some ⟨gp, 0, none⟩) m pc, Value.slice B bm bd, Value.int IntKind.i64 pr] := (hBS.below hbdd).set_ 6 _
            have hf6 : ∀ g', Value.ownBlock (.slice (some ⟨gp, 0, none⟩) m pc) = some g' → g' ≠ gw := by
              exact own_ne hPgw
            have hown6 := own_far (p := ⟨gw, 6, none⟩) (own_below hownS hbdd) hf6 (.int .i64 pr)
            have hv6 : Below (gw - 1) w (WS.drew.drew.setCell ⟨gw, 6, none⟩ (.int .i64 pr)) := ((bl_le hvS (by omega)).trans (bl_le hbdd (by have := hvS.size; omega))).setCell (show gw - 1 ≤ gw by omega) _
            refine (l00Own_c ⟨gp, 0, none⟩ ps m pc HM (by omega) _ (Arr.own hown6)).mono ?_
            rintro e W5 ⟨A5, c5, rfl, hown5, hb5⟩
            have hgp6 := own_lt hown6 gp rfl
            have hgw6 := hB6.lt
            have hat5 := own_at hown5
            have hlt5 := own_lt hown5
            replace hB6 := hB6.below hb5
            replace hown6 := own_below hown6 hb5
            replace hv6 := hv6.trans (bl_le hb5 (by omega))
            have k0 : W5.cell? ⟨gw, 0, none⟩ = some (.slice A n c) := hB6.cell 0
            have k4 : W5.cell? ⟨gw, 4, none⟩ = some (.slice (some ⟨gp, 0, none⟩) m pc) := hB6.cell 4
            have k5 : W5.cell? ⟨gw, 5, none⟩ = some (.slice B bm bd) := hB6.cell 5
            have q5 := hB6.frozen 5
            obtain ⟨st1, hst1⟩ : ∃ st1, st1 = ((ps, pr) : Bst) := ⟨_, rfl⟩
            have hI1 : SInv A n c T S false gw ps st1 (W5.setCell ⟨gw, 5, none⟩ (.slice A5 m c5)) := by
              rw [hst1]
              refine ⟨some ⟨gp, 0, none⟩, pc, A5, c5, ?_, ?_, ?_, fun ad g e e' => ?_, fun ad e => ?_, hPgw⟩
              · simp only [HM.out]; exact hB6.set_ 5 _
              · rw [HM.out]; exact own_far (p := ⟨gw, 5, none⟩) hown6 hf6 _
              · simp only [HM.out]; exact own_far (p := ⟨gw, 5, none⟩) (own_base hown5 (by omega)) (fun g e => by have h5 := hat5 g e; simp only; omega) _
              · have h5 := hat5 ad.block (by rw [e]; rfl)
                injection e' with e'
                subst e'
                simp only
                omega
              · have h5 := hat5 ad.block (by rw [e]; rfl)
                have h6 := hlt5 ad.block (by rw [e]; rfl)
                exact ⟨by simp [World.setCell]; omega, by omega⟩
            have hv1 : Below (gw - 1) w (W5.setCell ⟨gw, 5, none⟩ (.slice A5 m c5)) := hv6.setCell (show gw - 1 ≤ gw by omega) _
            have HU := Lib.hid (show updB xs T S f ps st = st1 by rw [hst1]; unfold updB okP; rw [HTH.out, HSF.out, HCST.out, HLST.out, if_pos ⟨by rw [decide_eq_true H3.out, decide_eq_true h2c]; rfl, .inl h4⟩])
            have HI1 := Lib.hid hI1
            have HV1 := Lib.hid hv1
            clear hst1 hBS hownS hAbS hvS hX hown hAb hB hB6 hown6 hown5 hv6 hat5 hlt5 hb5 hI1 hv1
            have HS1 := Lib.hid (HAL.out.trans (by rw [HU.out] : _ = iterB (fun k s => goS xs T S f d (ps ++ [(k : Int)]) s) (firstN ps) (n - firstN ps) st1))
            go_wp2_with fail
            go_loopw [7] (fun i wr => ∃ (j : Nat) (s2 : Bst), j ≤ n ∧ i = .int .i64 j ∧ Hid (goS xs T S f (d + 1) ps st = iterB (fun k s => goS xs T S f d (ps ++ [(k : Int)]) s) j (n - j) s2) ∧ SInv A n c T S false gw ps s2 wr ∧ Below (gw - 1) w wr) (fun i _ => n - (intOf i).toNat)
            case atStart => exact ⟨firstN ps, st1, hfn, rfl, HS1, HI1.out, HV1.out⟩
            case round =>
              clear HS1 HI1 HV1
              obtain ⟨j, s2, hj, rfl, HS, hI2, hv2⟩ := hrel
              obtain ⟨P', pc', B', bd', hB', hown', hAb', hne', hBlt', hPgw'⟩ := hI2
              obtain ⟨bm', hbm'⟩ : ∃ bm, bm = s2.1.length := ⟨_, rfl⟩
              obtain ⟨lst', hlst'⟩ : ∃ lst, lst = s2.2 := ⟨_, rfl⟩
              rw [HM.out, ← hbm', ← hlst'] at hB'
              rw [← hbm'] at hAb'
              rw [HM.out] at hown'
              have y0 : wr.cell? ⟨gw, 0, none⟩ = some (.slice A n c) := hB'.cell 0
              have y4 : wr.cell? ⟨gw, 4, none⟩ = some (.slice P' m pc') := hB'.cell 4
              have HBM' := Lib.hid hbm'.symm
              have HL' := Lib.hid hlst'.symm
              clear hbm' hlst'
              by_cases hlt : j < n
              · obtain ⟨r, hr⟩ : ∃ r, n - j = r + 1 := ⟨n - j - 1, by omega⟩
                have HS2 := Lib.hid (show goS xs T S f (d + 1) ps st = iterB (fun k s => goS xs T S f d (ps ++ [(k : Int)]) s) (j + 1) (n - (j + 1)) (goS xs T S f d (ps ++ [(j : Int)]) s2) by rw [HS.out, hr, show n - (j + 1) = r by omega]; rfl)
                clear HS hr
                have hszr : gw + 1 ≤ wr.heap.size := hB'.lt
                go_wp2_with (at_builtin; refine app_fresh1 _ _ rfl _ _ 27 2 rfl i0 _ 1 8 Try.underlying27 hi0 hz0 hz1 hz2 rfl (by omega) (gw - 1) P' m pc' _ rfl _ rfl rfl hown' rfl (by simp [Value.oneCell']) (by unfold maxLen; omega) (by omega) (by omega) ?_; intro g3 c3 w3 hown3 hg3 hf3; have hB3 := hB'.grown hg3 (map_ne (fun g e => (hPgw' g e).symm)); have k4 : w3.cell? ⟨gw, 4, none⟩ = some (.slice P' m pc') := hB3.cell 4; have q4 := hB3.frozen 4)
                have hfl : flat icell ps ++ #[Value.int IntKind.i64 (j : Int)].toList = flat icell (ps ++ [(j : Int)]) := by rw [flat_append]; rfl
                rw [hfl] at hown3
                have hll : (ps ++ [(j : Int)]).length = m + 1 := by rw [List.length_append, HM.out]; rfl
                have hg3w : g3 ≠ gw := by
                  rcases hf3 with h | h
                  · exact hPgw' _ h
                  · omega
                have hf3a : ∀ g', Value.ownBlock (.slice (some ⟨g3, 0, none⟩) (m + 1) c3) = some g' → g' ≠ (⟨gw, 4, none⟩ : Addr).block := by
                  intro g' e
                  injection e with e
                  rw [← e]
                  exact hg3w
                have hAb3 := own_kept hAb' hg3 hne'
                have hI3 : SInv A n c T S false gw (ps ++ [(j : Int)]) s2 (w3.setCell ⟨gw, 4, none⟩ (.slice (some ⟨g3, 0, none⟩) (m + 1) c3)) :=
                  ⟨some ⟨g3, 0, none⟩, c3, B', bd', by rw [hll, HBM'.out, HL'.out]; exact hB3.set_ 4 _, by rw [hll]; exact own_far hown3 hf3a _, by rw [HBM'.out]; exact own_far (p := ⟨gw, 4, none⟩) hAb3 (own_ne (fun ad e => (hBlt' ad e).2)) _,
                    fun ad g e e' => by
                      injection e' with e'
                      subst e'
                      rcases hf3 with h6 | h6
                      · exact hne' ad _ e h6
                      · have := (hBlt' ad e).1; simp only; omega,
                    fun ad e => ⟨by have := (hBlt' ad e).1; have := hg3.size; simp [World.setCell]; omega, (hBlt' ad e).2⟩,
                    fun g e => by injection e with e; rw [← e]; exact hg3w⟩
                have hv3 : Below (gw - 1) w (w3.setCell ⟨gw, 4, none⟩ (.slice (some ⟨g3, 0, none⟩) (m + 1) c3)) := (hv2.grown hg3 (by omega) (fun k e => by
                  cases hP : P' with
                  | none => rw [hP] at e; cases e
                  | some ad =>
                    have h7 := own_at hown' ad.block (by rw [hP]; rfl)
                    rw [hP] at e
                    injection e with e
                    simp only at e
                    omega)).setCell (show gw - 1 ≤ gw by omega) _
                have hih := Lib.hid (ih (ps ++ [(j : Int)]) s2 _ (by rw [hll]; omega) (Lib.hid (plyOk_append hpo.out (by rw [hn.out]; exact hlt))) hI3 (hA.le hv3 hAgw))
                rw [firstN_append] at hih
                clear hown' hown3 hg3 hf3 hB3 k4 q4 hfl hf3a hAb3 hI3 y0 y4 hB' hAb' hne' hBlt' hPgw' hg3w
                refine hih.out.mono ?_
                rintro e W4 ⟨rfl, hI4, hv4⟩
                replace hv3 := hv3.trans hv4
                clear hih hv4
                obtain ⟨P4, pc4, B4, bd4, hB4, hown4, hAb4, hne4, hBlt4, hPgw4⟩ := hI4
                rw [hll] at hB4 hown4
                obtain ⟨s4, hs4⟩ : ∃ s4, s4 = goS xs T S f d (ps ++ [(j : Int)]) s2 := ⟨_, rfl⟩
                rw [← hs4] at HS2 hB4 hAb4
                obtain ⟨bm4, hbm4⟩ : ∃ bm, bm = s4.1.length := ⟨_, rfl⟩
                obtain ⟨lst4, hlst4⟩ : ∃ lst, lst = s4.2 := ⟨_, rfl⟩
                rw [← hbm4, ← hlst4] at hB4
                rw [← hbm4] at hAb4
                have y4 : W4.cell? ⟨gw, 4, none⟩ = some (.slice P4 (m + 1) pc4) := hB4.cell 4
                have f4 := hB4.frozen 4
                have hcap : m + 1 ≤ pc4 := by
                  obtain ⟨A9, c9, e9, h9, _⟩ := own_form hown4
                  injection e9 with _ _ e9
                  omega
                have hown5 : W4.ownsRow (gw - 1) 2 1 (.slice P4 m pc4) m (flat icell ps) := by
                  rw [flat_append] at hown4
                  exact own_take hown4
                have hf5 : ∀ g', Value.ownBlock (.slice P4 m pc4) = some g' → g' ≠ (⟨gw, 4, none⟩ : Addr).block := by
                  exact own_ne hPgw4
                have hI5 : SInv A n c T S false gw ps s4 (W4.setCell ⟨gw, 4, none⟩ (.slice P4 m pc4)) :=
                  ⟨P4, pc4, B4, bd4, by rw [HM.out, ← hbm4, ← hlst4]; exact hB4.set_ 4 _, by rw [HM.out]; exact own_far hown5 hf5 _, by rw [← hbm4]; exact own_far (p := ⟨gw, 4, none⟩) hAb4 (own_ne (fun ad e => (hBlt4 ad e).2)) _, hne4, fun ad e => ⟨by have := (hBlt4 ad e).1; simp [World.setCell]; omega, (hBlt4 ad e).2⟩, hPgw4⟩
                have hv5 : Below (gw - 1) w (W4.setCell ⟨gw, 4, none⟩ (.slice P4 m pc4)) := hv3.setCell (show gw - 1 ≤ gw by omega) _
                have HI5 := Lib.hid hI5
                have HV5 := Lib.hid hv5
                have hc1 : (m : Int) ≤ (pc4 : Int) := by omega
                clear hown4 hown5 hf5 hAb4 hne4 hBlt4 hPgw4 hI5 hv5 hv3 hs4 hbm4 hlst4 hll hB4
                go_wp2_with fail
                exact ⟨⟨j + 1, s4, by omega, by go_num, HS2, HI5.out, HV5.out⟩, by simp [intOf]; omega⟩
              · have HS2 := Lib.hid (HS.out.trans (by rw [show n - j = 0 by omega]; rfl : _ = s2))
                clear HS
                go_wp2_with fail
                go_returns
                rw [HS2.out]
                exact ⟨rfl, ⟨P', pc', B', bd', by rw [HM.out, HBM'.out, HL'.out]; exact hB', by rw [HM.out]; exact hown', by rw [HBM'.out]; exact hAb', hne', hBlt', hPgw'⟩, hv2⟩
          · have h4c : 0 ≤ lst := by omega
            have h4d : decide (lst < 0) = false := decide_eq_false h4
            by_cases h5 : pr < lst
            · have h5d : decide (pr < lst) = true := decide_eq_true h5
              have hm0 : 0 < m := by
                rcases Nat.eq_zero_or_pos m with h | h
                · have h9 : ps = [] := List.eq_nil_of_length_eq_zero (by rw [HM.out]; exact h)
                  have h10 := HTH.out
                  rw [h9] at h10
                  have h11 : sumR Stuff.thick xs [] = 0 := rfl
                  have h12 := H3.out
                  omega
                · exact h
              have f5 := hBS.frozen 5
              have f6 := hBS.frozen 6
              refine wp_region_held_drew (S := fun w' => Below WS.heap.size WS w' ∧ Blk w' gx 76 #[Value.string ⟨#[]⟩, Value.int IntKind.i64 th, Value.int IntKind.i64 gm, Value.int IntKind.i64 sf, Value.int IntKind.i64 pr] ∧ Blk w' gw 79 #[Value.slice A n c, Value.int IntKind.i64 T, Value.int IntKind.i64 S, Value.bool false, Value.slice P m pc, Value.slice B bm bd, Value.int IntKind.i64 lst]) (by kernel_rfl) ?_ (fun hHeld => ?_)
              · exact ⟨hbdd, hX.below hbdd, hBS.below hbdd⟩
              refine wpAnyH_take (i := 0) (oi := { dst := some 41, op := _, type := _, pos := _, after := _, guard := _ }) (v := ?_) rfl (by kernel_rfl) (by kernel_rfl) (by kernel_rfl) (fun _ _ _ h => h) (Or.inl ⟨by kernel_rfl, ?_⟩) (by assumption) ?_
              rotate_left
              · intro w hSw
                try dsimp only at hSw
                go_simp
                try with_reducible rfl
              try simp only [Act.put, List.setIfInBounds_toArray, List.set_cons_zero, List.set_cons_succ]
              refine wpAnyH_take (i := 1) (oi := { dst := some 42, op := _, type := _, pos := _, after := _, guard := _ }) (v := ?_) rfl (by kernel_rfl) (by kernel_rfl) (by kernel_rfl) (fun _ _ _ h => h) (Or.inl ⟨by kernel_rfl, ?_⟩) (by assumption) ?_
              rotate_left
              · intro w hSw
                try dsimp only at hSw
                have x1 : w.cell? ⟨gx, 1, none⟩ = some (.int .i64 th) := hSw.2.1.cell 1
                have x2 : w.cell? ⟨gx, 2, none⟩ = some (.int .i64 gm) := hSw.2.1.cell 2
                have x3 : w.cell? ⟨gx, 3, none⟩ = some (.int .i64 sf) := hSw.2.1.cell 3
                have x4 : w.cell? ⟨gx, 4, none⟩ = some (.int .i64 pr) := hSw.2.1.cell 4
                have y1 : w.cell? ⟨gw, 1, none⟩ = some (.int .i64 T) := hSw.2.2.cell 1
                have y2 : w.cell? ⟨gw, 2, none⟩ = some (.int .i64 S) := hSw.2.2.cell 2
                have y6 : w.cell? ⟨gw, 6, none⟩ = some (.int .i64 lst) := hSw.2.2.cell 6
                go_simp
                try with_reducible rfl
              try simp only [Act.put, List.setIfInBounds_toArray, List.set_cons_zero, List.set_cons_succ]
              refine wpAnyH_take (i := 2) (oi := { dst := some 43, op := _, type := _, pos := _, after := _, guard := _ }) (v := ?_) rfl (by kernel_rfl) (by kernel_rfl) (by kernel_rfl) (fun _ _ _ h => h) (Or.inl ⟨by kernel_rfl, ?_⟩) (by assumption) ?_
              rotate_left
              · intro w hSw
                try dsimp only at hSw
                go_simp
                try with_reducible rfl
              try simp only [Act.put, List.setIfInBounds_toArray, List.set_cons_zero, List.set_cons_succ]
              refine wpAnyH_take (i := 3) (oi := { dst := some 44, op := _, type := _, pos := _, after := _, guard := _ }) (v := ?_) rfl (by kernel_rfl) (by kernel_rfl) (by kernel_rfl) (fun _ _ _ h => h) (Or.inl ⟨by kernel_rfl, ?_⟩) (by assumption) ?_
              rotate_left
              · intro w hSw
                try dsimp only at hSw
                go_simp
                try with_reducible rfl
              try simp only [Act.put, List.setIfInBounds_toArray, List.set_cons_zero, List.set_cons_succ]
              refine wpAnyH_take (i := 4) (oi := { dst := some 45, op := _, type := _, pos := _, after := _, guard := _ }) (v := ?_) rfl (by kernel_rfl) (by kernel_rfl) (by kernel_rfl) (fun _ _ _ h => h) (Or.inl ⟨by kernel_rfl, ?_⟩) (by assumption) ?_
              rotate_left
              · intro w hSw
                try dsimp only at hSw
                go_simp
                try with_reducible rfl
              try simp only [Act.put, List.setIfInBounds_toArray, List.set_cons_zero, List.set_cons_succ]
              refine wpAnyH_take (i := 5) (oi := { dst := some 46, op := _, type := _, pos := _, after := _, guard := _ }) (v := ?_) rfl (by kernel_rfl) (by kernel_rfl) (by kernel_rfl) (fun _ _ _ h => h) (Or.inl ⟨by kernel_rfl, ?_⟩) (by assumption) ?_
              rotate_left
              · intro w hSw
                try dsimp only at hSw
                have x1 : w.cell? ⟨gx, 1, none⟩ = some (.int .i64 th) := hSw.2.1.cell 1
                have x2 : w.cell? ⟨gx, 2, none⟩ = some (.int .i64 gm) := hSw.2.1.cell 2
                have x3 : w.cell? ⟨gx, 3, none⟩ = some (.int .i64 sf) := hSw.2.1.cell 3
                have x4 : w.cell? ⟨gx, 4, none⟩ = some (.int .i64 pr) := hSw.2.1.cell 4
                have y1 : w.cell? ⟨gw, 1, none⟩ = some (.int .i64 T) := hSw.2.2.cell 1
                have y2 : w.cell? ⟨gw, 2, none⟩ = some (.int .i64 S) := hSw.2.2.cell 2
                have y6 : w.cell? ⟨gw, 6, none⟩ = some (.int .i64 lst) := hSw.2.2.cell 6
                go_simp
                try with_reducible rfl
              try simp only [Act.put, List.setIfInBounds_toArray, List.set_cons_zero, List.set_cons_succ]
              refine wpAnyH_take (i := 6) (oi := { dst := some 47, op := _, type := _, pos := _, after := _, guard := _ }) (v := ?_) rfl (by kernel_rfl) (by kernel_rfl) (by kernel_rfl) (fun _ _ _ h => h) (Or.inl ⟨by kernel_rfl, ?_⟩) (by assumption) ?_
              rotate_left
              · intro w hSw
                try dsimp only at hSw
                go_simp
                try with_reducible rfl
              try simp only [Act.put, List.setIfInBounds_toArray, List.set_cons_zero, List.set_cons_succ]
              refine wpAnyH_take (i := 7) (oi := { dst := some 48, op := _, type := _, pos := _, after := _, guard := _ }) (v := ?_) rfl (by kernel_rfl) (by kernel_rfl) (by kernel_rfl) (fun _ _ _ h => h) (Or.inl ⟨by kernel_rfl, ?_⟩) (by assumption) ?_
              rotate_left
              · intro w hSw
                try dsimp only at hSw
                go_simp
                try with_reducible rfl
              try simp only [Act.put, List.setIfInBounds_toArray, List.set_cons_zero, List.set_cons_succ]
              refine wpAnyH_take (i := 8) (oi := { dst := some 49, op := _, type := _, pos := _, after := _, guard := _ }) (v := ?_) rfl (by kernel_rfl) (by kernel_rfl) (by kernel_rfl) (fun _ _ _ h => h) (Or.inl ⟨by kernel_rfl, ?_⟩) (by assumption) ?_
              rotate_left
              · intro w hSw
                try dsimp only at hSw
                go_simp
                try with_reducible rfl
              try simp only [Act.put, List.setIfInBounds_toArray, List.set_cons_zero, List.set_cons_succ]
              refine wpAnyH_take (i := 9) (oi := { dst := some 50, op := _, type := _, pos := _, after := _, guard := _ }) (v := ?_) rfl (by kernel_rfl) (by kernel_rfl) (by kernel_rfl) (fun _ _ _ h => h) (Or.inl ⟨by kernel_rfl, ?_⟩) (by assumption) ?_
              rotate_left
              · intro w hSw
                try dsimp only at hSw
                go_simp
                try with_reducible rfl
              try simp only [Act.put, List.setIfInBounds_toArray, List.set_cons_zero, List.set_cons_succ]
              refine wpAnyH_take (i := 10) (oi := { dst := some 51, op := _, type := _, pos := _, after := _, guard := _ }) (v := ?_) rfl (by kernel_rfl) (by kernel_rfl) (by kernel_rfl) (fun _ _ _ h => h) (Or.inl ⟨by kernel_rfl, ?_⟩) (by assumption) ?_
              rotate_left
              · intro w hSw
                try dsimp only at hSw
                go_simp
                try with_reducible rfl
              try simp only [Act.put, List.setIfInBounds_toArray, List.set_cons_zero, List.set_cons_succ]
              refine wpAnyH_take (i := 11) (oi := { dst := some 52, op := _, type := _, pos := _, after := _, guard := _ }) (v := ?_) rfl (by kernel_rfl) (by kernel_rfl) (by kernel_rfl) (fun _ _ _ h => h) (Or.inl ⟨by kernel_rfl, ?_⟩) (by assumption) ?_
              rotate_left
              · intro w hSw
                try dsimp only at hSw
                have x1 : w.cell? ⟨gx, 1, none⟩ = some (.int .i64 th) := hSw.2.1.cell 1
                have x2 : w.cell? ⟨gx, 2, none⟩ = some (.int .i64 gm) := hSw.2.1.cell 2
                have x3 : w.cell? ⟨gx, 3, none⟩ = some (.int .i64 sf) := hSw.2.1.cell 3
                have x4 : w.cell? ⟨gx, 4, none⟩ = some (.int .i64 pr) := hSw.2.1.cell 4
                have y1 : w.cell? ⟨gw, 1, none⟩ = some (.int .i64 T) := hSw.2.2.cell 1
                have y2 : w.cell? ⟨gw, 2, none⟩ = some (.int .i64 S) := hSw.2.2.cell 2
                have y6 : w.cell? ⟨gw, 6, none⟩ = some (.int .i64 lst) := hSw.2.2.cell 6
                go_simp
                try with_reducible rfl
              try simp only [Act.put, List.setIfInBounds_toArray, List.set_cons_zero, List.set_cons_succ]
              refine wpAnyH_take (i := 12) (oi := { dst := some 53, op := _, type := _, pos := _, after := _, guard := _ }) (v := ?_) rfl (by kernel_rfl) (by kernel_rfl) (by kernel_rfl) (fun _ _ _ h => h) (Or.inl ⟨by kernel_rfl, ?_⟩) (by assumption) ?_
              rotate_left
              · intro w hSw
                try dsimp only at hSw
                go_simp
                try with_reducible rfl
              try simp only [Act.put, List.setIfInBounds_toArray, List.set_cons_zero, List.set_cons_succ]
              refine wpAnyH_take (i := 13) (oi := { dst := some 54, op := _, type := _, pos := _, after := _, guard := _ }) (v := ?_) rfl (by kernel_rfl) (by kernel_rfl) (by kernel_rfl) (fun _ _ _ h => h) (Or.inl ⟨by kernel_rfl, ?_⟩) (by assumption) ?_
              rotate_left
              · intro w hSw
                try dsimp only at hSw
                go_simp
                try with_reducible rfl
              try simp only [Act.put, List.setIfInBounds_toArray, List.set_cons_zero, List.set_cons_succ]
              refine wpAnyH_take (i := 14) (oi := { dst := some 55, op := _, type := _, pos := _, after := _, guard := _ }) (v := ?_) rfl (by kernel_rfl) (by kernel_rfl) (by kernel_rfl) (fun _ _ _ h => h) (Or.inl ⟨by kernel_rfl, ?_⟩) (by assumption) ?_
              rotate_left
              · intro w hSw
                try dsimp only at hSw
                go_simp
                try with_reducible rfl
              try simp only [Act.put, List.setIfInBounds_toArray, List.set_cons_zero, List.set_cons_succ]
              refine wpAnyH_take (i := 15) (oi := { dst := some 56, op := _, type := _, pos := _, after := _, guard := _ }) (v := ?_) rfl (by kernel_rfl) (by kernel_rfl) (by kernel_rfl) (fun _ _ _ h => h) (Or.inl ⟨by kernel_rfl, ?_⟩) (by assumption) ?_
              rotate_left
              · intro w hSw
                try dsimp only at hSw
                go_simp
                try with_reducible rfl
              try simp only [Act.put, List.setIfInBounds_toArray, List.set_cons_zero, List.set_cons_succ]
              refine wpAnyH_take (i := 16) (oi := { dst := some 57, op := _, type := _, pos := _, after := _, guard := _ }) (v := ?_) rfl (by kernel_rfl) (by kernel_rfl) (by kernel_rfl) (fun _ _ _ h => h) (Or.inl ⟨by kernel_rfl, ?_⟩) (by assumption) ?_
              rotate_left
              · intro w hSw
                try dsimp only at hSw
                go_simp
                try with_reducible rfl
              try simp only [Act.put, List.setIfInBounds_toArray, List.set_cons_zero, List.set_cons_succ]
              refine wpAnyH_take (i := 17) (oi := { dst := some 58, op := _, type := _, pos := _, after := _, guard := _ }) (v := ?_) rfl (by kernel_rfl) (by kernel_rfl) (by kernel_rfl) (fun _ _ _ h => h) (Or.inl ⟨by kernel_rfl, ?_⟩) (by assumption) ?_
              rotate_left
              · intro w hSw
                try dsimp only at hSw
                go_simp
                try with_reducible rfl
              try simp only [Act.put, List.setIfInBounds_toArray, List.set_cons_zero, List.set_cons_succ]
              refine wpAnyH_take (i := 18) (oi := { dst := some 59, op := _, type := _, pos := _, after := _, guard := _ }) (v := ?_) rfl (by kernel_rfl) (by kernel_rfl) (by kernel_rfl) (fun _ _ _ h => h) (Or.inl ⟨by kernel_rfl, ?_⟩) (by assumption) ?_
              rotate_left
              · intro w hSw
                try dsimp only at hSw
                have x1 : w.cell? ⟨gx, 1, none⟩ = some (.int .i64 th) := hSw.2.1.cell 1
                have x2 : w.cell? ⟨gx, 2, none⟩ = some (.int .i64 gm) := hSw.2.1.cell 2
                have x3 : w.cell? ⟨gx, 3, none⟩ = some (.int .i64 sf) := hSw.2.1.cell 3
                have x4 : w.cell? ⟨gx, 4, none⟩ = some (.int .i64 pr) := hSw.2.1.cell 4
                have y1 : w.cell? ⟨gw, 1, none⟩ = some (.int .i64 T) := hSw.2.2.cell 1
                have y2 : w.cell? ⟨gw, 2, none⟩ = some (.int .i64 S) := hSw.2.2.cell 2
                have y6 : w.cell? ⟨gw, 6, none⟩ = some (.int .i64 lst) := hSw.2.2.cell 6
                go_simp
                try with_reducible rfl
              try simp only [Act.put, List.setIfInBounds_toArray, List.set_cons_zero, List.set_cons_succ]
              refine wpAnyH_take (i := 19) (oi := { dst := some 60, op := _, type := _, pos := _, after := _, guard := _ }) (v := ?_) rfl (by kernel_rfl) (by kernel_rfl) (by kernel_rfl) (fun _ _ _ h => h) (Or.inl ⟨by kernel_rfl, ?_⟩) (by assumption) ?_
              rotate_left
              · intro w hSw
                try dsimp only at hSw
                go_simp
                try with_reducible rfl
              try simp only [Act.put, List.setIfInBounds_toArray, List.set_cons_zero, List.set_cons_succ]
              refine wpAnyH_take (i := 20) (oi := { dst := some 61, op := _, type := _, pos := _, after := _, guard := _ }) (v := ?_) rfl (by kernel_rfl) (by kernel_rfl) (by kernel_rfl) (fun _ _ _ h => h) (Or.inl ⟨by kernel_rfl, ?_⟩) (by assumption) ?_
              rotate_left
              · intro w hSw
                try dsimp only at hSw
                go_simp
                try with_reducible rfl
              try simp only [Act.put, List.setIfInBounds_toArray, List.set_cons_zero, List.set_cons_succ]
              refine wpAnyH_take (i := 21) (oi := { dst := some 62, op := _, type := _, pos := _, after := _, guard := _ }) (v := ?_) rfl (by kernel_rfl) (by kernel_rfl) (by kernel_rfl) (fun _ _ _ h => h) (Or.inl ⟨by kernel_rfl, ?_⟩) (by assumption) ?_
              rotate_left
              · intro w hSw
                try dsimp only at hSw
                go_simp
                try with_reducible rfl
              try simp only [Act.put, List.setIfInBounds_toArray, List.set_cons_zero, List.set_cons_succ]
              refine wpAnyH_done (by kernel_rfl) ?_ _
              clear hHeld
              go_wp2_with fail
              obtain ⟨gp, hgp⟩ := own_addr hownS hm0
              subst hgp
              have hB6 : Blk (WS.drew.drew.setCell ⟨gw, 6, none⟩ (.int .i64 pr)) gw 79 #[Value.slice A n c, Value.int IntKind.i64 T, Value.int IntKind.i64 S, Value.bool false, Value.slice (some ⟨gp, 0, none⟩) m pc, Value.slice B bm bd, Value.int IntKind.i64 pr] := (hBS.below hbdd).set_ 6 _
              have hf6 : ∀ g', Value.ownBlock (.slice (some ⟨gp, 0, none⟩) m pc) = some g' → g' ≠ gw := by
                exact own_ne hPgw
              have hown6 := own_far (p := ⟨gw, 6, none⟩) (own_below hownS hbdd) hf6 (.int .i64 pr)
              have hv6 : Below (gw - 1) w (WS.drew.drew.setCell ⟨gw, 6, none⟩ (.int .i64 pr)) := ((bl_le hvS (by omega)).trans (bl_le hbdd (by have := hvS.size; omega))).setCell (show gw - 1 ≤ gw by omega) _
              refine (l00Own_c ⟨gp, 0, none⟩ ps m pc HM (by omega) _ (Arr.own hown6)).mono ?_
              rintro e W5 ⟨A5, c5, rfl, hown5, hb5⟩
              have hgp6 := own_lt hown6 gp rfl
              have hgw6 := hB6.lt
              have hat5 := own_at hown5
              have hlt5 := own_lt hown5
              replace hB6 := hB6.below hb5
              replace hown6 := own_below hown6 hb5
              replace hv6 := hv6.trans (bl_le hb5 (by omega))
              have k0 : W5.cell? ⟨gw, 0, none⟩ = some (.slice A n c) := hB6.cell 0
              have k4 : W5.cell? ⟨gw, 4, none⟩ = some (.slice (some ⟨gp, 0, none⟩) m pc) := hB6.cell 4
              have k5 : W5.cell? ⟨gw, 5, none⟩ = some (.slice B bm bd) := hB6.cell 5
              have q5 := hB6.frozen 5
              obtain ⟨st1, hst1⟩ : ∃ st1, st1 = ((ps, pr) : Bst) := ⟨_, rfl⟩
              have hI1 : SInv A n c T S false gw ps st1 (W5.setCell ⟨gw, 5, none⟩ (.slice A5 m c5)) := by
                rw [hst1]
                refine ⟨some ⟨gp, 0, none⟩, pc, A5, c5, ?_, ?_, ?_, fun ad g e e' => ?_, fun ad e => ?_, hPgw⟩
                · simp only [HM.out]; exact hB6.set_ 5 _
                · rw [HM.out]; exact own_far (p := ⟨gw, 5, none⟩) hown6 hf6 _
                · simp only [HM.out]; exact own_far (p := ⟨gw, 5, none⟩) (own_base hown5 (by omega)) (fun g e => by have h5 := hat5 g e; simp only; omega) _
                · have h5 := hat5 ad.block (by rw [e]; rfl)
                  injection e' with e'
                  subst e'
                  simp only
                  omega
                · have h5 := hat5 ad.block (by rw [e]; rfl)
                  have h6 := hlt5 ad.block (by rw [e]; rfl)
                  exact ⟨by simp [World.setCell]; omega, by omega⟩
              have hv1 : Below (gw - 1) w (W5.setCell ⟨gw, 5, none⟩ (.slice A5 m c5)) := hv6.setCell (show gw - 1 ≤ gw by omega) _
              have HU := Lib.hid (show updB xs T S f ps st = st1 by rw [hst1]; unfold updB okP; rw [HTH.out, HSF.out, HCST.out, HLST.out, if_pos ⟨by rw [decide_eq_true H3.out, decide_eq_true h2c]; rfl, .inr h5⟩])
              have HI1 := Lib.hid hI1
              have HV1 := Lib.hid hv1
              clear hst1 hBS hownS hAbS hvS hX hown hAb hB hB6 hown6 hown5 hv6 hat5 hlt5 hb5 hI1 hv1
              have HS1 := Lib.hid (HAL.out.trans (by rw [HU.out] : _ = iterB (fun k s => goS xs T S f d (ps ++ [(k : Int)]) s) (firstN ps) (n - firstN ps) st1))
              go_wp2_with fail
              go_loopw [7] (fun i wr => ∃ (j : Nat) (s2 : Bst), j ≤ n ∧ i = .int .i64 j ∧ Hid (goS xs T S f (d + 1) ps st = iterB (fun k s => goS xs T S f d (ps ++ [(k : Int)]) s) j (n - j) s2) ∧ SInv A n c T S false gw ps s2 wr ∧ Below (gw - 1) w wr) (fun i _ => n - (intOf i).toNat)
              case atStart => exact ⟨firstN ps, st1, hfn, rfl, HS1, HI1.out, HV1.out⟩
              case round =>
                clear HS1 HI1 HV1
                obtain ⟨j, s2, hj, rfl, HS, hI2, hv2⟩ := hrel
                obtain ⟨P', pc', B', bd', hB', hown', hAb', hne', hBlt', hPgw'⟩ := hI2
                obtain ⟨bm', hbm'⟩ : ∃ bm, bm = s2.1.length := ⟨_, rfl⟩
                obtain ⟨lst', hlst'⟩ : ∃ lst, lst = s2.2 := ⟨_, rfl⟩
                rw [HM.out, ← hbm', ← hlst'] at hB'
                rw [← hbm'] at hAb'
                rw [HM.out] at hown'
                have y0 : wr.cell? ⟨gw, 0, none⟩ = some (.slice A n c) := hB'.cell 0
                have y4 : wr.cell? ⟨gw, 4, none⟩ = some (.slice P' m pc') := hB'.cell 4
                have HBM' := Lib.hid hbm'.symm
                have HL' := Lib.hid hlst'.symm
                clear hbm' hlst'
                by_cases hlt : j < n
                · obtain ⟨r, hr⟩ : ∃ r, n - j = r + 1 := ⟨n - j - 1, by omega⟩
                  have HS2 := Lib.hid (show goS xs T S f (d + 1) ps st = iterB (fun k s => goS xs T S f d (ps ++ [(k : Int)]) s) (j + 1) (n - (j + 1)) (goS xs T S f d (ps ++ [(j : Int)]) s2) by rw [HS.out, hr, show n - (j + 1) = r by omega]; rfl)
                  clear HS hr
                  have hszr : gw + 1 ≤ wr.heap.size := hB'.lt
                  go_wp2_with (at_builtin; refine app_fresh1 _ _ rfl _ _ 27 2 rfl i0 _ 1 8 Try.underlying27 hi0 hz0 hz1 hz2 rfl (by omega) (gw - 1) P' m pc' _ rfl _ rfl rfl hown' rfl (by simp [Value.oneCell']) (by unfold maxLen; omega) (by omega) (by omega) ?_; intro g3 c3 w3 hown3 hg3 hf3; have hB3 := hB'.grown hg3 (map_ne (fun g e => (hPgw' g e).symm)); have k4 : w3.cell? ⟨gw, 4, none⟩ = some (.slice P' m pc') := hB3.cell 4; have q4 := hB3.frozen 4)
                  have hfl : flat icell ps ++ #[Value.int IntKind.i64 (j : Int)].toList = flat icell (ps ++ [(j : Int)]) := by rw [flat_append]; rfl
                  rw [hfl] at hown3
                  have hll : (ps ++ [(j : Int)]).length = m + 1 := by rw [List.length_append, HM.out]; rfl
                  have hg3w : g3 ≠ gw := by
                    rcases hf3 with h | h
                    · exact hPgw' _ h
                    · omega
                  have hf3a : ∀ g', Value.ownBlock (.slice (some ⟨g3, 0, none⟩) (m + 1) c3) = some g' → g' ≠ (⟨gw, 4, none⟩ : Addr).block := by
                    intro g' e
                    injection e with e
                    rw [← e]
                    exact hg3w
                  have hAb3 := own_kept hAb' hg3 hne'
                  have hI3 : SInv A n c T S false gw (ps ++ [(j : Int)]) s2 (w3.setCell ⟨gw, 4, none⟩ (.slice (some ⟨g3, 0, none⟩) (m + 1) c3)) :=
                    ⟨some ⟨g3, 0, none⟩, c3, B', bd', by rw [hll, HBM'.out, HL'.out]; exact hB3.set_ 4 _, by rw [hll]; exact own_far hown3 hf3a _, by rw [HBM'.out]; exact own_far (p := ⟨gw, 4, none⟩) hAb3 (own_ne (fun ad e => (hBlt' ad e).2)) _,
                      fun ad g e e' => by
                        injection e' with e'
                        subst e'
                        rcases hf3 with h6 | h6
                        · exact hne' ad _ e h6
                        · have := (hBlt' ad e).1; simp only; omega,
                      fun ad e => ⟨by have := (hBlt' ad e).1; have := hg3.size; simp [World.setCell]; omega, (hBlt' ad e).2⟩,
                      fun g e => by injection e with e; rw [← e]; exact hg3w⟩
                  have hv3 : Below (gw - 1) w (w3.setCell ⟨gw, 4, none⟩ (.slice (some ⟨g3, 0, none⟩) (m + 1) c3)) := (hv2.grown hg3 (by omega) (fun k e => by
                    cases hP : P' with
                    | none => rw [hP] at e; cases e
                    | some ad =>
                      have h7 := own_at hown' ad.block (by rw [hP]; rfl)
                      rw [hP] at e
                      injection e with e
                      simp only at e
                      omega)).setCell (show gw - 1 ≤ gw by omega) _
                  have hih := Lib.hid (ih (ps ++ [(j : Int)]) s2 _ (by rw [hll]; omega) (Lib.hid (plyOk_append hpo.out (by rw [hn.out]; exact hlt))) hI3 (hA.le hv3 hAgw))
                  rw [firstN_append] at hih
                  clear hown' hown3 hg3 hf3 hB3 k4 q4 hfl hf3a hAb3 hI3 y0 y4 hB' hAb' hne' hBlt' hPgw' hg3w
                  refine hih.out.mono ?_
                  rintro e W4 ⟨rfl, hI4, hv4⟩
                  replace hv3 := hv3.trans hv4
                  clear hih hv4
                  obtain ⟨P4, pc4, B4, bd4, hB4, hown4, hAb4, hne4, hBlt4, hPgw4⟩ := hI4
                  rw [hll] at hB4 hown4
                  obtain ⟨s4, hs4⟩ : ∃ s4, s4 = goS xs T S f d (ps ++ [(j : Int)]) s2 := ⟨_, rfl⟩
                  rw [← hs4] at HS2 hB4 hAb4
                  obtain ⟨bm4, hbm4⟩ : ∃ bm, bm = s4.1.length := ⟨_, rfl⟩
                  obtain ⟨lst4, hlst4⟩ : ∃ lst, lst = s4.2 := ⟨_, rfl⟩
                  rw [← hbm4, ← hlst4] at hB4
                  rw [← hbm4] at hAb4
                  have y4 : W4.cell? ⟨gw, 4, none⟩ = some (.slice P4 (m + 1) pc4) := hB4.cell 4
                  have f4 := hB4.frozen 4
                  have hcap : m + 1 ≤ pc4 := by
                    obtain ⟨A9, c9, e9, h9, _⟩ := own_form hown4
                    injection e9 with _ _ e9
                    omega
                  have hown5 : W4.ownsRow (gw - 1) 2 1 (.slice P4 m pc4) m (flat icell ps) := by
                    rw [flat_append] at hown4
                    exact own_take hown4
                  have hf5 : ∀ g', Value.ownBlock (.slice P4 m pc4) = some g' → g' ≠ (⟨gw, 4, none⟩ : Addr).block := by
                    exact own_ne hPgw4
                  have hI5 : SInv A n c T S false gw ps s4 (W4.setCell ⟨gw, 4, none⟩ (.slice P4 m pc4)) :=
                    ⟨P4, pc4, B4, bd4, by rw [HM.out, ← hbm4, ← hlst4]; exact hB4.set_ 4 _, by rw [HM.out]; exact own_far hown5 hf5 _, by rw [← hbm4]; exact own_far (p := ⟨gw, 4, none⟩) hAb4 (own_ne (fun ad e => (hBlt4 ad e).2)) _, hne4, fun ad e => ⟨by have := (hBlt4 ad e).1; simp [World.setCell]; omega, (hBlt4 ad e).2⟩, hPgw4⟩
                  have hv5 : Below (gw - 1) w (W4.setCell ⟨gw, 4, none⟩ (.slice P4 m pc4)) := hv3.setCell (show gw - 1 ≤ gw by omega) _
                  have HI5 := Lib.hid hI5
                  have HV5 := Lib.hid hv5
                  have hc1 : (m : Int) ≤ (pc4 : Int) := by omega
                  clear hown4 hown5 hf5 hAb4 hne4 hBlt4 hPgw4 hI5 hv5 hv3 hs4 hbm4 hlst4 hll hB4
                  go_wp2_with fail
                  exact ⟨⟨j + 1, s4, by omega, by go_num, HS2, HI5.out, HV5.out⟩, by simp [intOf]; omega⟩
                · have HS2 := Lib.hid (HS.out.trans (by rw [show n - j = 0 by omega]; rfl : _ = s2))
                  clear HS
                  go_wp2_with fail
                  go_returns
                  rw [HS2.out]
                  exact ⟨rfl, ⟨P', pc', B', bd', by rw [HM.out, HBM'.out, HL'.out]; exact hB', by rw [HM.out]; exact hown', by rw [HBM'.out]; exact hAb', hne', hBlt', hPgw'⟩, hv2⟩
            · have h5c : lst ≤ pr := by omega
              have h5d : decide (pr < lst) = false := decide_eq_false h5
              refine wp_region_held_drew (S := fun w' => Below WS.heap.size WS w' ∧ Blk w' gx 76 #[Value.string ⟨#[]⟩, Value.int IntKind.i64 th, Value.int IntKind.i64 gm, Value.int IntKind.i64 sf, Value.int IntKind.i64 pr] ∧ Blk w' gw 79 #[Value.slice A n c, Value.int IntKind.i64 T, Value.int IntKind.i64 S, Value.bool false, Value.slice P m pc, Value.slice B bm bd, Value.int IntKind.i64 lst]) (by kernel_rfl) ?_ (fun hHeld => ?_)
              · exact ⟨hbdd, hX.below hbdd, hBS.below hbdd⟩
              refine wpAnyH_take (i := 0) (oi := { dst := some 41, op := _, type := _, pos := _, after := _, guard := _ }) (v := ?_) rfl (by kernel_rfl) (by kernel_rfl) (by kernel_rfl) (fun _ _ _ h => h) (Or.inl ⟨by kernel_rfl, ?_⟩) (by assumption) ?_
              rotate_left
              · intro w hSw
                try dsimp only at hSw
                go_simp
                try with_reducible rfl
              try simp only [Act.put, List.setIfInBounds_toArray, List.set_cons_zero, List.set_cons_succ]
              refine wpAnyH_take (i := 1) (oi := { dst := some 42, op := _, type := _, pos := _, after := _, guard := _ }) (v := ?_) rfl (by kernel_rfl) (by kernel_rfl) (by kernel_rfl) (fun _ _ _ h => h) (Or.inl ⟨by kernel_rfl, ?_⟩) (by assumption) ?_
              rotate_left
              · intro w hSw
                try dsimp only at hSw
                have x1 : w.cell? ⟨gx, 1, none⟩ = some (.int .i64 th) := hSw.2.1.cell 1
                have x2 : w.cell? ⟨gx, 2, none⟩ = some (.int .i64 gm) := hSw.2.1.cell 2
                have x3 : w.cell? ⟨gx, 3, none⟩ = some (.int .i64 sf) := hSw.2.1.cell 3
                have x4 : w.cell? ⟨gx, 4, none⟩ = some (.int .i64 pr) := hSw.2.1.cell 4
                have y1 : w.cell? ⟨gw, 1, none⟩ = some (.int .i64 T) := hSw.2.2.cell 1
                have y2 : w.cell? ⟨gw, 2, none⟩ = some (.int .i64 S) := hSw.2.2.cell 2
                have y6 : w.cell? ⟨gw, 6, none⟩ = some (.int .i64 lst) := hSw.2.2.cell 6
                go_simp
                try with_reducible rfl
              try simp only [Act.put, List.setIfInBounds_toArray, List.set_cons_zero, List.set_cons_succ]
              refine wpAnyH_take (i := 2) (oi := { dst := some 43, op := _, type := _, pos := _, after := _, guard := _ }) (v := ?_) rfl (by kernel_rfl) (by kernel_rfl) (by kernel_rfl) (fun _ _ _ h => h) (Or.inl ⟨by kernel_rfl, ?_⟩) (by assumption) ?_
              rotate_left
              · intro w hSw
                try dsimp only at hSw
                go_simp
                try with_reducible rfl
              try simp only [Act.put, List.setIfInBounds_toArray, List.set_cons_zero, List.set_cons_succ]
              refine wpAnyH_take (i := 3) (oi := { dst := some 44, op := _, type := _, pos := _, after := _, guard := _ }) (v := ?_) rfl (by kernel_rfl) (by kernel_rfl) (by kernel_rfl) (fun _ _ _ h => h) (Or.inl ⟨by kernel_rfl, ?_⟩) (by assumption) ?_
              rotate_left
              · intro w hSw
                try dsimp only at hSw
                go_simp
                try with_reducible rfl
              try simp only [Act.put, List.setIfInBounds_toArray, List.set_cons_zero, List.set_cons_succ]
              refine wpAnyH_take (i := 4) (oi := { dst := some 45, op := _, type := _, pos := _, after := _, guard := _ }) (v := ?_) rfl (by kernel_rfl) (by kernel_rfl) (by kernel_rfl) (fun _ _ _ h => h) (Or.inl ⟨by kernel_rfl, ?_⟩) (by assumption) ?_
              rotate_left
              · intro w hSw
                try dsimp only at hSw
                go_simp
                try with_reducible rfl
              try simp only [Act.put, List.setIfInBounds_toArray, List.set_cons_zero, List.set_cons_succ]
              refine wpAnyH_take (i := 5) (oi := { dst := some 46, op := _, type := _, pos := _, after := _, guard := _ }) (v := ?_) rfl (by kernel_rfl) (by kernel_rfl) (by kernel_rfl) (fun _ _ _ h => h) (Or.inl ⟨by kernel_rfl, ?_⟩) (by assumption) ?_
              rotate_left
              · intro w hSw
                try dsimp only at hSw
                have x1 : w.cell? ⟨gx, 1, none⟩ = some (.int .i64 th) := hSw.2.1.cell 1
                have x2 : w.cell? ⟨gx, 2, none⟩ = some (.int .i64 gm) := hSw.2.1.cell 2
                have x3 : w.cell? ⟨gx, 3, none⟩ = some (.int .i64 sf) := hSw.2.1.cell 3
                have x4 : w.cell? ⟨gx, 4, none⟩ = some (.int .i64 pr) := hSw.2.1.cell 4
                have y1 : w.cell? ⟨gw, 1, none⟩ = some (.int .i64 T) := hSw.2.2.cell 1
                have y2 : w.cell? ⟨gw, 2, none⟩ = some (.int .i64 S) := hSw.2.2.cell 2
                have y6 : w.cell? ⟨gw, 6, none⟩ = some (.int .i64 lst) := hSw.2.2.cell 6
                go_simp
                try with_reducible rfl
              try simp only [Act.put, List.setIfInBounds_toArray, List.set_cons_zero, List.set_cons_succ]
              refine wpAnyH_take (i := 6) (oi := { dst := some 47, op := _, type := _, pos := _, after := _, guard := _ }) (v := ?_) rfl (by kernel_rfl) (by kernel_rfl) (by kernel_rfl) (fun _ _ _ h => h) (Or.inl ⟨by kernel_rfl, ?_⟩) (by assumption) ?_
              rotate_left
              · intro w hSw
                try dsimp only at hSw
                go_simp
                try with_reducible rfl
              try simp only [Act.put, List.setIfInBounds_toArray, List.set_cons_zero, List.set_cons_succ]
              refine wpAnyH_take (i := 7) (oi := { dst := some 48, op := _, type := _, pos := _, after := _, guard := _ }) (v := ?_) rfl (by kernel_rfl) (by kernel_rfl) (by kernel_rfl) (fun _ _ _ h => h) (Or.inl ⟨by kernel_rfl, ?_⟩) (by assumption) ?_
              rotate_left
              · intro w hSw
                try dsimp only at hSw
                go_simp
                try with_reducible rfl
              try simp only [Act.put, List.setIfInBounds_toArray, List.set_cons_zero, List.set_cons_succ]
              refine wpAnyH_take (i := 8) (oi := { dst := some 49, op := _, type := _, pos := _, after := _, guard := _ }) (v := ?_) rfl (by kernel_rfl) (by kernel_rfl) (by kernel_rfl) (fun _ _ _ h => h) (Or.inl ⟨by kernel_rfl, ?_⟩) (by assumption) ?_
              rotate_left
              · intro w hSw
                try dsimp only at hSw
                go_simp
                try with_reducible rfl
              try simp only [Act.put, List.setIfInBounds_toArray, List.set_cons_zero, List.set_cons_succ]
              refine wpAnyH_take (i := 9) (oi := { dst := some 50, op := _, type := _, pos := _, after := _, guard := _ }) (v := ?_) rfl (by kernel_rfl) (by kernel_rfl) (by kernel_rfl) (fun _ _ _ h => h) (Or.inl ⟨by kernel_rfl, ?_⟩) (by assumption) ?_
              rotate_left
              · intro w hSw
                try dsimp only at hSw
                go_simp
                try with_reducible rfl
              try simp only [Act.put, List.setIfInBounds_toArray, List.set_cons_zero, List.set_cons_succ]
              refine wpAnyH_take (i := 10) (oi := { dst := some 51, op := _, type := _, pos := _, after := _, guard := _ }) (v := ?_) rfl (by kernel_rfl) (by kernel_rfl) (by kernel_rfl) (fun _ _ _ h => h) (Or.inl ⟨by kernel_rfl, ?_⟩) (by assumption) ?_
              rotate_left
              · intro w hSw
                try dsimp only at hSw
                go_simp
                try with_reducible rfl
              try simp only [Act.put, List.setIfInBounds_toArray, List.set_cons_zero, List.set_cons_succ]
              refine wpAnyH_take (i := 11) (oi := { dst := some 52, op := _, type := _, pos := _, after := _, guard := _ }) (v := ?_) rfl (by kernel_rfl) (by kernel_rfl) (by kernel_rfl) (fun _ _ _ h => h) (Or.inl ⟨by kernel_rfl, ?_⟩) (by assumption) ?_
              rotate_left
              · intro w hSw
                try dsimp only at hSw
                have x1 : w.cell? ⟨gx, 1, none⟩ = some (.int .i64 th) := hSw.2.1.cell 1
                have x2 : w.cell? ⟨gx, 2, none⟩ = some (.int .i64 gm) := hSw.2.1.cell 2
                have x3 : w.cell? ⟨gx, 3, none⟩ = some (.int .i64 sf) := hSw.2.1.cell 3
                have x4 : w.cell? ⟨gx, 4, none⟩ = some (.int .i64 pr) := hSw.2.1.cell 4
                have y1 : w.cell? ⟨gw, 1, none⟩ = some (.int .i64 T) := hSw.2.2.cell 1
                have y2 : w.cell? ⟨gw, 2, none⟩ = some (.int .i64 S) := hSw.2.2.cell 2
                have y6 : w.cell? ⟨gw, 6, none⟩ = some (.int .i64 lst) := hSw.2.2.cell 6
                go_simp
                try with_reducible rfl
              try simp only [Act.put, List.setIfInBounds_toArray, List.set_cons_zero, List.set_cons_succ]
              refine wpAnyH_take (i := 12) (oi := { dst := some 53, op := _, type := _, pos := _, after := _, guard := _ }) (v := ?_) rfl (by kernel_rfl) (by kernel_rfl) (by kernel_rfl) (fun _ _ _ h => h) (Or.inl ⟨by kernel_rfl, ?_⟩) (by assumption) ?_
              rotate_left
              · intro w hSw
                try dsimp only at hSw
                go_simp
                try with_reducible rfl
              try simp only [Act.put, List.setIfInBounds_toArray, List.set_cons_zero, List.set_cons_succ]
              refine wpAnyH_take (i := 13) (oi := { dst := some 54, op := _, type := _, pos := _, after := _, guard := _ }) (v := ?_) rfl (by kernel_rfl) (by kernel_rfl) (by kernel_rfl) (fun _ _ _ h => h) (Or.inl ⟨by kernel_rfl, ?_⟩) (by assumption) ?_
              rotate_left
              · intro w hSw
                try dsimp only at hSw
                go_simp
                try with_reducible rfl
              try simp only [Act.put, List.setIfInBounds_toArray, List.set_cons_zero, List.set_cons_succ]
              refine wpAnyH_take (i := 14) (oi := { dst := some 55, op := _, type := _, pos := _, after := _, guard := _ }) (v := ?_) rfl (by kernel_rfl) (by kernel_rfl) (by kernel_rfl) (fun _ _ _ h => h) (Or.inl ⟨by kernel_rfl, ?_⟩) (by assumption) ?_
              rotate_left
              · intro w hSw
                try dsimp only at hSw
                go_simp
                try with_reducible rfl
              try simp only [Act.put, List.setIfInBounds_toArray, List.set_cons_zero, List.set_cons_succ]
              refine wpAnyH_take (i := 15) (oi := { dst := some 56, op := _, type := _, pos := _, after := _, guard := _ }) (v := ?_) rfl (by kernel_rfl) (by kernel_rfl) (by kernel_rfl) (fun _ _ _ h => h) (Or.inl ⟨by kernel_rfl, ?_⟩) (by assumption) ?_
              rotate_left
              · intro w hSw
                try dsimp only at hSw
                go_simp
                try with_reducible rfl
              try simp only [Act.put, List.setIfInBounds_toArray, List.set_cons_zero, List.set_cons_succ]
              refine wpAnyH_take (i := 16) (oi := { dst := some 57, op := _, type := _, pos := _, after := _, guard := _ }) (v := ?_) rfl (by kernel_rfl) (by kernel_rfl) (by kernel_rfl) (fun _ _ _ h => h) (Or.inl ⟨by kernel_rfl, ?_⟩) (by assumption) ?_
              rotate_left
              · intro w hSw
                try dsimp only at hSw
                go_simp
                try with_reducible rfl
              try simp only [Act.put, List.setIfInBounds_toArray, List.set_cons_zero, List.set_cons_succ]
              refine wpAnyH_take (i := 17) (oi := { dst := some 58, op := _, type := _, pos := _, after := _, guard := _ }) (v := ?_) rfl (by kernel_rfl) (by kernel_rfl) (by kernel_rfl) (fun _ _ _ h => h) (Or.inl ⟨by kernel_rfl, ?_⟩) (by assumption) ?_
              rotate_left
              · intro w hSw
                try dsimp only at hSw
                go_simp
                try with_reducible rfl
              try simp only [Act.put, List.setIfInBounds_toArray, List.set_cons_zero, List.set_cons_succ]
              refine wpAnyH_take (i := 18) (oi := { dst := some 59, op := _, type := _, pos := _, after := _, guard := _ }) (v := ?_) rfl (by kernel_rfl) (by kernel_rfl) (by kernel_rfl) (fun _ _ _ h => h) (Or.inl ⟨by kernel_rfl, ?_⟩) (by assumption) ?_
              rotate_left
              · intro w hSw
                try dsimp only at hSw
                have x1 : w.cell? ⟨gx, 1, none⟩ = some (.int .i64 th) := hSw.2.1.cell 1
                have x2 : w.cell? ⟨gx, 2, none⟩ = some (.int .i64 gm) := hSw.2.1.cell 2
                have x3 : w.cell? ⟨gx, 3, none⟩ = some (.int .i64 sf) := hSw.2.1.cell 3
                have x4 : w.cell? ⟨gx, 4, none⟩ = some (.int .i64 pr) := hSw.2.1.cell 4
                have y1 : w.cell? ⟨gw, 1, none⟩ = some (.int .i64 T) := hSw.2.2.cell 1
                have y2 : w.cell? ⟨gw, 2, none⟩ = some (.int .i64 S) := hSw.2.2.cell 2
                have y6 : w.cell? ⟨gw, 6, none⟩ = some (.int .i64 lst) := hSw.2.2.cell 6
                go_simp
                try with_reducible rfl
              try simp only [Act.put, List.setIfInBounds_toArray, List.set_cons_zero, List.set_cons_succ]
              refine wpAnyH_take (i := 19) (oi := { dst := some 60, op := _, type := _, pos := _, after := _, guard := _ }) (v := ?_) rfl (by kernel_rfl) (by kernel_rfl) (by kernel_rfl) (fun _ _ _ h => h) (Or.inl ⟨by kernel_rfl, ?_⟩) (by assumption) ?_
              rotate_left
              · intro w hSw
                try dsimp only at hSw
                go_simp
                try with_reducible rfl
              try simp only [Act.put, List.setIfInBounds_toArray, List.set_cons_zero, List.set_cons_succ]
              refine wpAnyH_take (i := 20) (oi := { dst := some 61, op := _, type := _, pos := _, after := _, guard := _ }) (v := ?_) rfl (by kernel_rfl) (by kernel_rfl) (by kernel_rfl) (fun _ _ _ h => h) (Or.inl ⟨by kernel_rfl, ?_⟩) (by assumption) ?_
              rotate_left
              · intro w hSw
                try dsimp only at hSw
                go_simp
                try with_reducible rfl
              try simp only [Act.put, List.setIfInBounds_toArray, List.set_cons_zero, List.set_cons_succ]
              refine wpAnyH_take (i := 21) (oi := { dst := some 62, op := _, type := _, pos := _, after := _, guard := _ }) (v := ?_) rfl (by kernel_rfl) (by kernel_rfl) (by kernel_rfl) (fun _ _ _ h => h) (Or.inl ⟨by kernel_rfl, ?_⟩) (by assumption) ?_
              rotate_left
              · intro w hSw
                try dsimp only at hSw
                go_simp
                try with_reducible rfl
              try simp only [Act.put, List.setIfInBounds_toArray, List.set_cons_zero, List.set_cons_succ]
              refine wpAnyH_done (by kernel_rfl) ?_ _
              clear hHeld
              obtain ⟨st1, hst1⟩ : ∃ st1, st1 = st := ⟨_, rfl⟩
              have hI1 : SInv A n c T S false gw ps st1 WS.drew.drew := by
                rw [hst1]
                exact ⟨P, pc, B, bd, by rw [HM.out, HBM.out, HLST.out]; exact hBS.below hbdd, by rw [HM.out]; exact own_below hownS hbdd, by rw [HBM.out]; exact own_below hAbS hbdd, hne, fun ad e => ⟨by have := (hBlt ad e).1; have := hvS.size; have := hbdd.size; omega, (hBlt ad e).2⟩, hPgw⟩
              have hv1 : Below (gw - 1) w WS.drew.drew := (bl_le hvS (by omega)).trans (bl_le hbdd (by have := hvS.size; omega))
              have HU := Lib.hid (show updB xs T S f ps st = st1 by rw [hst1]; unfold updB okP; rw [HTH.out, HSF.out, HCST.out, HLST.out, if_neg (by exact fun h9 => h9.2.elim h4 h5)])
              clear hst1 hBS hownS hAbS hvS hX hown hAb hB
              have HS1 := Lib.hid (HAL.out.trans (by rw [HU.out] : _ = iterB (fun k s => goS xs T S f d (ps ++ [(k : Int)]) s) (firstN ps) (n - firstN ps) st1))
              go_wp2_with fail
              go_loopw [7] (fun i wr => ∃ (j : Nat) (s2 : Bst), j ≤ n ∧ i = .int .i64 j ∧ Hid (goS xs T S f (d + 1) ps st = iterB (fun k s => goS xs T S f d (ps ++ [(k : Int)]) s) j (n - j) s2) ∧ SInv A n c T S false gw ps s2 wr ∧ Below (gw - 1) w wr) (fun i _ => n - (intOf i).toNat)
              case atStart => exact ⟨firstN ps, st1, hfn, rfl, HS1, hI1, hv1⟩
              case round =>
                clear HS1 hI1 hv1
                obtain ⟨j, s2, hj, rfl, HS, hI2, hv2⟩ := hrel
                obtain ⟨P', pc', B', bd', hB', hown', hAb', hne', hBlt', hPgw'⟩ := hI2
                obtain ⟨bm', hbm'⟩ : ∃ bm, bm = s2.1.length := ⟨_, rfl⟩
                obtain ⟨lst', hlst'⟩ : ∃ lst, lst = s2.2 := ⟨_, rfl⟩
                rw [HM.out, ← hbm', ← hlst'] at hB'
                rw [← hbm'] at hAb'
                rw [HM.out] at hown'
                have y0 : wr.cell? ⟨gw, 0, none⟩ = some (.slice A n c) := hB'.cell 0
                have y4 : wr.cell? ⟨gw, 4, none⟩ = some (.slice P' m pc') := hB'.cell 4
                have HBM' := Lib.hid hbm'.symm
                have HL' := Lib.hid hlst'.symm
                clear hbm' hlst'
                by_cases hlt : j < n
                · obtain ⟨r, hr⟩ : ∃ r, n - j = r + 1 := ⟨n - j - 1, by omega⟩
                  have HS2 := Lib.hid (show goS xs T S f (d + 1) ps st = iterB (fun k s => goS xs T S f d (ps ++ [(k : Int)]) s) (j + 1) (n - (j + 1)) (goS xs T S f d (ps ++ [(j : Int)]) s2) by rw [HS.out, hr, show n - (j + 1) = r by omega]; rfl)
                  clear HS hr
                  have hszr : gw + 1 ≤ wr.heap.size := hB'.lt
                  go_wp2_with (at_builtin; refine app_fresh1 _ _ rfl _ _ 27 2 rfl i0 _ 1 8 Try.underlying27 hi0 hz0 hz1 hz2 rfl (by omega) (gw - 1) P' m pc' _ rfl _ rfl rfl hown' rfl (by simp [Value.oneCell']) (by unfold maxLen; omega) (by omega) (by omega) ?_; intro g3 c3 w3 hown3 hg3 hf3; have hB3 := hB'.grown hg3 (map_ne (fun g e => (hPgw' g e).symm)); have k4 : w3.cell? ⟨gw, 4, none⟩ = some (.slice P' m pc') := hB3.cell 4; have q4 := hB3.frozen 4)
                  have hfl : flat icell ps ++ #[Value.int IntKind.i64 (j : Int)].toList = flat icell (ps ++ [(j : Int)]) := by rw [flat_append]; rfl
                  rw [hfl] at hown3
                  have hll : (ps ++ [(j : Int)]).length = m + 1 := by rw [List.length_append, HM.out]; rfl
                  have hg3w : g3 ≠ gw := by
                    rcases hf3 with h | h
                    · exact hPgw' _ h
                    · omega
                  have hf3a : ∀ g', Value.ownBlock (.slice (some ⟨g3, 0, none⟩) (m + 1) c3) = some g' → g' ≠ (⟨gw, 4, none⟩ : Addr).block := by
                    intro g' e
                    injection e with e
                    rw [← e]
                    exact hg3w
                  have hAb3 := own_kept hAb' hg3 hne'
                  have hI3 : SInv A n c T S false gw (ps ++ [(j : Int)]) s2 (w3.setCell ⟨gw, 4, none⟩ (.slice (some ⟨g3, 0, none⟩) (m + 1) c3)) :=
                    ⟨some ⟨g3, 0, none⟩, c3, B', bd', by rw [hll, HBM'.out, HL'.out]; exact hB3.set_ 4 _, by rw [hll]; exact own_far hown3 hf3a _, by rw [HBM'.out]; exact own_far (p := ⟨gw, 4, none⟩) hAb3 (own_ne (fun ad e => (hBlt' ad e).2)) _,
                      fun ad g e e' => by
                        injection e' with e'
                        subst e'
                        rcases hf3 with h6 | h6
                        · exact hne' ad _ e h6
                        · have := (hBlt' ad e).1; simp only; omega,
                      fun ad e => ⟨by have := (hBlt' ad e).1; have := hg3.size; simp [World.setCell]; omega, (hBlt' ad e).2⟩,
                      fun g e => by injection e with e; rw [← e]; exact hg3w⟩
                  have hv3 : Below (gw - 1) w (w3.setCell ⟨gw, 4, none⟩ (.slice (some ⟨g3, 0, none⟩) (m + 1) c3)) := (hv2.grown hg3 (by omega) (fun k e => by
                    cases hP : P' with
                    | none => rw [hP] at e; cases e
                    | some ad =>
                      have h7 := own_at hown' ad.block (by rw [hP]; rfl)
                      rw [hP] at e
                      injection e with e
                      simp only at e
                      omega)).setCell (show gw - 1 ≤ gw by omega) _
                  have hih := Lib.hid (ih (ps ++ [(j : Int)]) s2 _ (by rw [hll]; omega) (Lib.hid (plyOk_append hpo.out (by rw [hn.out]; exact hlt))) hI3 (hA.le hv3 hAgw))
                  rw [firstN_append] at hih
                  clear hown' hown3 hg3 hf3 hB3 k4 q4 hfl hf3a hAb3 hI3 y0 y4 hB' hAb' hne' hBlt' hPgw' hg3w
                  refine hih.out.mono ?_
                  rintro e W4 ⟨rfl, hI4, hv4⟩
                  replace hv3 := hv3.trans hv4
                  clear hih hv4
                  obtain ⟨P4, pc4, B4, bd4, hB4, hown4, hAb4, hne4, hBlt4, hPgw4⟩ := hI4
                  rw [hll] at hB4 hown4
                  obtain ⟨s4, hs4⟩ : ∃ s4, s4 = goS xs T S f d (ps ++ [(j : Int)]) s2 := ⟨_, rfl⟩
                  rw [← hs4] at HS2 hB4 hAb4
                  obtain ⟨bm4, hbm4⟩ : ∃ bm, bm = s4.1.length := ⟨_, rfl⟩
                  obtain ⟨lst4, hlst4⟩ : ∃ lst, lst = s4.2 := ⟨_, rfl⟩
                  rw [← hbm4, ← hlst4] at hB4
                  rw [← hbm4] at hAb4
                  have y4 : W4.cell? ⟨gw, 4, none⟩ = some (.slice P4 (m + 1) pc4) := hB4.cell 4
                  have f4 := hB4.frozen 4
                  have hcap : m + 1 ≤ pc4 := by
                    obtain ⟨A9, c9, e9, h9, _⟩ := own_form hown4
                    injection e9 with _ _ e9
                    omega
                  have hown5 : W4.ownsRow (gw - 1) 2 1 (.slice P4 m pc4) m (flat icell ps) := by
                    rw [flat_append] at hown4
                    exact own_take hown4
                  have hf5 : ∀ g', Value.ownBlock (.slice P4 m pc4) = some g' → g' ≠ (⟨gw, 4, none⟩ : Addr).block := by
                    exact own_ne hPgw4
                  have hI5 : SInv A n c T S false gw ps s4 (W4.setCell ⟨gw, 4, none⟩ (.slice P4 m pc4)) :=
                    ⟨P4, pc4, B4, bd4, by rw [HM.out, ← hbm4, ← hlst4]; exact hB4.set_ 4 _, by rw [HM.out]; exact own_far hown5 hf5 _, by rw [← hbm4]; exact own_far (p := ⟨gw, 4, none⟩) hAb4 (own_ne (fun ad e => (hBlt4 ad e).2)) _, hne4, fun ad e => ⟨by have := (hBlt4 ad e).1; simp [World.setCell]; omega, (hBlt4 ad e).2⟩, hPgw4⟩
                  have hv5 : Below (gw - 1) w (W4.setCell ⟨gw, 4, none⟩ (.slice P4 m pc4)) := hv3.setCell (show gw - 1 ≤ gw by omega) _
                  have HI5 := Lib.hid hI5
                  have HV5 := Lib.hid hv5
                  have hc1 : (m : Int) ≤ (pc4 : Int) := by omega
                  clear hown4 hown5 hf5 hAb4 hne4 hBlt4 hPgw4 hI5 hv5 hv3 hs4 hbm4 hlst4 hll hB4
                  go_wp2_with fail
                  exact ⟨⟨j + 1, s4, by omega, by go_num, HS2, HI5.out, HV5.out⟩, by simp [intOf]; omega⟩
                · have HS2 := Lib.hid (HS.out.trans (by rw [show n - j = 0 by omega]; rfl : _ = s2))
                  clear HS
                  go_wp2_with fail
                  go_returns
                  rw [HS2.out]
                  exact ⟨rfl, ⟨P', pc', B', bd', by rw [HM.out, HBM'.out, HL'.out]; exact hB', by rw [HM.out]; exact hown', by rw [HBM'.out]; exact hAb', hne', hBlt', hPgw'⟩, hv2⟩
        · have h3b : (th == T) = false := by rw [beq_eq_false_iff_ne]; exact h3
          refine wp_region_held_drew (S := fun w' => Below WS.heap.size WS w' ∧ Blk w' gx 76 #[Value.string ⟨#[]⟩, Value.int IntKind.i64 th, Value.int IntKind.i64 gm, Value.int IntKind.i64 sf, Value.int IntKind.i64 pr] ∧ Blk w' gw 79 #[Value.slice A n c, Value.int IntKind.i64 T, Value.int IntKind.i64 S, Value.bool false, Value.slice P m pc, Value.slice B bm bd, Value.int IntKind.i64 lst]) (by kernel_rfl) ?_ (fun hHeld => ?_)
          · exact ⟨hbdd, hX.below hbdd, hBS.below hbdd⟩
          refine wpAnyH_take (i := 0) (oi := { dst := some 41, op := _, type := _, pos := _, after := _, guard := _ }) (v := ?_) rfl (by kernel_rfl) (by kernel_rfl) (by kernel_rfl) (fun _ _ _ h => h) (Or.inl ⟨by kernel_rfl, ?_⟩) (by assumption) ?_
          rotate_left
          · intro w hSw
            try dsimp only at hSw
            go_simp
            try with_reducible rfl
          try simp only [Act.put, List.setIfInBounds_toArray, List.set_cons_zero, List.set_cons_succ]
          refine wpAnyH_take (i := 1) (oi := { dst := some 42, op := _, type := _, pos := _, after := _, guard := _ }) (v := ?_) rfl (by kernel_rfl) (by kernel_rfl) (by kernel_rfl) (fun _ _ _ h => h) (Or.inl ⟨by kernel_rfl, ?_⟩) (by assumption) ?_
          rotate_left
          · intro w hSw
            try dsimp only at hSw
            have x1 : w.cell? ⟨gx, 1, none⟩ = some (.int .i64 th) := hSw.2.1.cell 1
            have x2 : w.cell? ⟨gx, 2, none⟩ = some (.int .i64 gm) := hSw.2.1.cell 2
            have x3 : w.cell? ⟨gx, 3, none⟩ = some (.int .i64 sf) := hSw.2.1.cell 3
            have x4 : w.cell? ⟨gx, 4, none⟩ = some (.int .i64 pr) := hSw.2.1.cell 4
            have y1 : w.cell? ⟨gw, 1, none⟩ = some (.int .i64 T) := hSw.2.2.cell 1
            have y2 : w.cell? ⟨gw, 2, none⟩ = some (.int .i64 S) := hSw.2.2.cell 2
            have y6 : w.cell? ⟨gw, 6, none⟩ = some (.int .i64 lst) := hSw.2.2.cell 6
            go_simp
            try with_reducible rfl
          try simp only [Act.put, List.setIfInBounds_toArray, List.set_cons_zero, List.set_cons_succ]
          refine wpAnyH_take (i := 2) (oi := { dst := some 43, op := _, type := _, pos := _, after := _, guard := _ }) (v := ?_) rfl (by kernel_rfl) (by kernel_rfl) (by kernel_rfl) (fun _ _ _ h => h) (Or.inl ⟨by kernel_rfl, ?_⟩) (by assumption) ?_
          rotate_left
          · intro w hSw
            try dsimp only at hSw
            go_simp
            try with_reducible rfl
          try simp only [Act.put, List.setIfInBounds_toArray, List.set_cons_zero, List.set_cons_succ]
          refine wpAnyH_take (i := 3) (oi := { dst := some 44, op := _, type := _, pos := _, after := _, guard := _ }) (v := ?_) rfl (by kernel_rfl) (by kernel_rfl) (by kernel_rfl) (fun _ _ _ h => h) (Or.inl ⟨by kernel_rfl, ?_⟩) (by assumption) ?_
          rotate_left
          · intro w hSw
            try dsimp only at hSw
            go_simp
            try with_reducible rfl
          try simp only [Act.put, List.setIfInBounds_toArray, List.set_cons_zero, List.set_cons_succ]
          refine wpAnyH_take (i := 4) (oi := { dst := some 45, op := _, type := _, pos := _, after := _, guard := _ }) (v := ?_) rfl (by kernel_rfl) (by kernel_rfl) (by kernel_rfl) (fun _ _ _ h => h) (Or.inl ⟨by kernel_rfl, ?_⟩) (by assumption) ?_
          rotate_left
          · intro w hSw
            try dsimp only at hSw
            go_simp
            try with_reducible rfl
          try simp only [Act.put, List.setIfInBounds_toArray, List.set_cons_zero, List.set_cons_succ]
          refine wpAnyH_take (i := 5) (oi := { dst := some 46, op := _, type := _, pos := _, after := _, guard := _ }) (v := ?_) rfl (by kernel_rfl) (by kernel_rfl) (by kernel_rfl) (fun _ _ _ h => h) (Or.inl ⟨by kernel_rfl, ?_⟩) (by assumption) ?_
          rotate_left
          · intro w hSw
            try dsimp only at hSw
            have x1 : w.cell? ⟨gx, 1, none⟩ = some (.int .i64 th) := hSw.2.1.cell 1
            have x2 : w.cell? ⟨gx, 2, none⟩ = some (.int .i64 gm) := hSw.2.1.cell 2
            have x3 : w.cell? ⟨gx, 3, none⟩ = some (.int .i64 sf) := hSw.2.1.cell 3
            have x4 : w.cell? ⟨gx, 4, none⟩ = some (.int .i64 pr) := hSw.2.1.cell 4
            have y1 : w.cell? ⟨gw, 1, none⟩ = some (.int .i64 T) := hSw.2.2.cell 1
            have y2 : w.cell? ⟨gw, 2, none⟩ = some (.int .i64 S) := hSw.2.2.cell 2
            have y6 : w.cell? ⟨gw, 6, none⟩ = some (.int .i64 lst) := hSw.2.2.cell 6
            go_simp
            try with_reducible rfl
          try simp only [Act.put, List.setIfInBounds_toArray, List.set_cons_zero, List.set_cons_succ]
          refine wpAnyH_take (i := 6) (oi := { dst := some 47, op := _, type := _, pos := _, after := _, guard := _ }) (v := ?_) rfl (by kernel_rfl) (by kernel_rfl) (by kernel_rfl) (fun _ _ _ h => h) (Or.inl ⟨by kernel_rfl, ?_⟩) (by assumption) ?_
          rotate_left
          · intro w hSw
            try dsimp only at hSw
            go_simp
            try with_reducible rfl
          try simp only [Act.put, List.setIfInBounds_toArray, List.set_cons_zero, List.set_cons_succ]
          refine wpAnyH_take (i := 7) (oi := { dst := some 48, op := _, type := _, pos := _, after := _, guard := _ }) (v := ?_) rfl (by kernel_rfl) (by kernel_rfl) (by kernel_rfl) (fun _ _ _ h => h) (Or.inl ⟨by kernel_rfl, ?_⟩) (by assumption) ?_
          rotate_left
          · intro w hSw
            try dsimp only at hSw
            go_simp
            try with_reducible rfl
          try simp only [Act.put, List.setIfInBounds_toArray, List.set_cons_zero, List.set_cons_succ]
          refine wpAnyH_take (i := 8) (oi := { dst := some 49, op := _, type := _, pos := _, after := _, guard := _ }) (v := undef) rfl (by kernel_rfl) (by kernel_rfl) (by kernel_rfl) (fun _ _ _ h => h) (Or.inr ⟨by kernel_rfl, rfl⟩) (by assumption) ?_
          try simp only [Act.put, List.setIfInBounds_toArray, List.set_cons_zero, List.set_cons_succ]
          refine wpAnyH_take (i := 9) (oi := { dst := some 50, op := _, type := _, pos := _, after := _, guard := _ }) (v := undef) rfl (by kernel_rfl) (by kernel_rfl) (by kernel_rfl) (fun _ _ _ h => h) (Or.inr ⟨by kernel_rfl, rfl⟩) (by assumption) ?_
          try simp only [Act.put, List.setIfInBounds_toArray, List.set_cons_zero, List.set_cons_succ]
          refine wpAnyH_take (i := 10) (oi := { dst := some 51, op := _, type := _, pos := _, after := _, guard := _ }) (v := undef) rfl (by kernel_rfl) (by kernel_rfl) (by kernel_rfl) (fun _ _ _ h => h) (Or.inr ⟨by kernel_rfl, rfl⟩) (by assumption) ?_
          try simp only [Act.put, List.setIfInBounds_toArray, List.set_cons_zero, List.set_cons_succ]
          refine wpAnyH_take (i := 11) (oi := { dst := some 52, op := _, type := _, pos := _, after := _, guard := _ }) (v := undef) rfl (by kernel_rfl) (by kernel_rfl) (by kernel_rfl) (fun _ _ _ h => h) (Or.inr ⟨by kernel_rfl, rfl⟩) (by assumption) ?_
          try simp only [Act.put, List.setIfInBounds_toArray, List.set_cons_zero, List.set_cons_succ]
          refine wpAnyH_take (i := 12) (oi := { dst := some 53, op := _, type := _, pos := _, after := _, guard := _ }) (v := undef) rfl (by kernel_rfl) (by kernel_rfl) (by kernel_rfl) (fun _ _ _ h => h) (Or.inr ⟨by kernel_rfl, rfl⟩) (by assumption) ?_
          try simp only [Act.put, List.setIfInBounds_toArray, List.set_cons_zero, List.set_cons_succ]
          refine wpAnyH_take (i := 13) (oi := { dst := some 54, op := _, type := _, pos := _, after := _, guard := _ }) (v := undef) rfl (by kernel_rfl) (by kernel_rfl) (by kernel_rfl) (fun _ _ _ h => h) (Or.inr ⟨by kernel_rfl, rfl⟩) (by assumption) ?_
          try simp only [Act.put, List.setIfInBounds_toArray, List.set_cons_zero, List.set_cons_succ]
          refine wpAnyH_take (i := 14) (oi := { dst := some 55, op := _, type := _, pos := _, after := _, guard := _ }) (v := undef) rfl (by kernel_rfl) (by kernel_rfl) (by kernel_rfl) (fun _ _ _ h => h) (Or.inr ⟨by kernel_rfl, rfl⟩) (by assumption) ?_
          try simp only [Act.put, List.setIfInBounds_toArray, List.set_cons_zero, List.set_cons_succ]
          refine wpAnyH_take (i := 15) (oi := { dst := some 56, op := _, type := _, pos := _, after := _, guard := _ }) (v := undef) rfl (by kernel_rfl) (by kernel_rfl) (by kernel_rfl) (fun _ _ _ h => h) (Or.inr ⟨by kernel_rfl, rfl⟩) (by assumption) ?_
          try simp only [Act.put, List.setIfInBounds_toArray, List.set_cons_zero, List.set_cons_succ]
          refine wpAnyH_take (i := 16) (oi := { dst := some 57, op := _, type := _, pos := _, after := _, guard := _ }) (v := undef) rfl (by kernel_rfl) (by kernel_rfl) (by kernel_rfl) (fun _ _ _ h => h) (Or.inr ⟨by kernel_rfl, rfl⟩) (by assumption) ?_
          try simp only [Act.put, List.setIfInBounds_toArray, List.set_cons_zero, List.set_cons_succ]
          refine wpAnyH_take (i := 17) (oi := { dst := some 58, op := _, type := _, pos := _, after := _, guard := _ }) (v := undef) rfl (by kernel_rfl) (by kernel_rfl) (by kernel_rfl) (fun _ _ _ h => h) (Or.inr ⟨by kernel_rfl, rfl⟩) (by assumption) ?_
          try simp only [Act.put, List.setIfInBounds_toArray, List.set_cons_zero, List.set_cons_succ]
          refine wpAnyH_take (i := 18) (oi := { dst := some 59, op := _, type := _, pos := _, after := _, guard := _ }) (v := undef) rfl (by kernel_rfl) (by kernel_rfl) (by kernel_rfl) (fun _ _ _ h => h) (Or.inr ⟨by kernel_rfl, rfl⟩) (by assumption) ?_
          try simp only [Act.put, List.setIfInBounds_toArray, List.set_cons_zero, List.set_cons_succ]
          refine wpAnyH_take (i := 19) (oi := { dst := some 60, op := _, type := _, pos := _, after := _, guard := _ }) (v := undef) rfl (by kernel_rfl) (by kernel_rfl) (by kernel_rfl) (fun _ _ _ h => h) (Or.inr ⟨by kernel_rfl, rfl⟩) (by assumption) ?_
          try simp only [Act.put, List.setIfInBounds_toArray, List.set_cons_zero, List.set_cons_succ]
          refine wpAnyH_take (i := 20) (oi := { dst := some 61, op := _, type := _, pos := _, after := _, guard := _ }) (v := undef) rfl (by kernel_rfl) (by kernel_rfl) (by kernel_rfl) (fun _ _ _ h => h) (Or.inr ⟨by kernel_rfl, rfl⟩) (by assumption) ?_
          try simp only [Act.put, List.setIfInBounds_toArray, List.set_cons_zero, List.set_cons_succ]
          refine wpAnyH_take (i := 21) (oi := { dst := some 62, op := _, type := _, pos := _, after := _, guard := _ }) (v := ?_) rfl (by kernel_rfl) (by kernel_rfl) (by kernel_rfl) (fun _ _ _ h => h) (Or.inl ⟨by kernel_rfl, ?_⟩) (by assumption) ?_
          rotate_left
          · intro w hSw
            try dsimp only at hSw
            go_simp
            try with_reducible rfl
          try simp only [Act.put, List.setIfInBounds_toArray, List.set_cons_zero, List.set_cons_succ]
          refine wpAnyH_done (by kernel_rfl) ?_ _
          clear hHeld
          obtain ⟨st1, hst1⟩ : ∃ st1, st1 = st := ⟨_, rfl⟩
          have hI1 : SInv A n c T S false gw ps st1 WS.drew.drew := by
            rw [hst1]
            exact ⟨P, pc, B, bd, by rw [HM.out, HBM.out, HLST.out]; exact hBS.below hbdd, by rw [HM.out]; exact own_below hownS hbdd, by rw [HBM.out]; exact own_below hAbS hbdd, hne, fun ad e => ⟨by have := (hBlt ad e).1; have := hvS.size; have := hbdd.size; omega, (hBlt ad e).2⟩, hPgw⟩
          have hv1 : Below (gw - 1) w WS.drew.drew := (bl_le hvS (by omega)).trans (bl_le hbdd (by have := hvS.size; omega))
          have HU := Lib.hid (show updB xs T S f ps st = st1 by rw [hst1]; unfold updB okP; rw [HTH.out, HSF.out, HCST.out, HLST.out, if_neg (by intro h9; have h10 := h9.1; simp at h10; exact h3 h10.1)])
          clear hst1 hBS hownS hAbS hvS hX hown hAb hB
          have HS1 := Lib.hid (HAL.out.trans (by rw [HU.out] : _ = iterB (fun k s => goS xs T S f d (ps ++ [(k : Int)]) s) (firstN ps) (n - firstN ps) st1))
          go_wp2_with fail
          go_loopw [7] (fun i wr => ∃ (j : Nat) (s2 : Bst), j ≤ n ∧ i = .int .i64 j ∧ Hid (goS xs T S f (d + 1) ps st = iterB (fun k s => goS xs T S f d (ps ++ [(k : Int)]) s) j (n - j) s2) ∧ SInv A n c T S false gw ps s2 wr ∧ Below (gw - 1) w wr) (fun i _ => n - (intOf i).toNat)
          case atStart => exact ⟨firstN ps, st1, hfn, rfl, HS1, hI1, hv1⟩
          case round =>
            clear HS1 hI1 hv1
            obtain ⟨j, s2, hj, rfl, HS, hI2, hv2⟩ := hrel
            obtain ⟨P', pc', B', bd', hB', hown', hAb', hne', hBlt', hPgw'⟩ := hI2
            obtain ⟨bm', hbm'⟩ : ∃ bm, bm = s2.1.length := ⟨_, rfl⟩
            obtain ⟨lst', hlst'⟩ : ∃ lst, lst = s2.2 := ⟨_, rfl⟩
            rw [HM.out, ← hbm', ← hlst'] at hB'
            rw [← hbm'] at hAb'
            rw [HM.out] at hown'
            have y0 : wr.cell? ⟨gw, 0, none⟩ = some (.slice A n c) := hB'.cell 0
            have y4 : wr.cell? ⟨gw, 4, none⟩ = some (.slice P' m pc') := hB'.cell 4
            have HBM' := Lib.hid hbm'.symm
            have HL' := Lib.hid hlst'.symm
            clear hbm' hlst'
            by_cases hlt : j < n
            · obtain ⟨r, hr⟩ : ∃ r, n - j = r + 1 := ⟨n - j - 1, by omega⟩
              have HS2 := Lib.hid (show goS xs T S f (d + 1) ps st = iterB (fun k s => goS xs T S f d (ps ++ [(k : Int)]) s) (j + 1) (n - (j + 1)) (goS xs T S f d (ps ++ [(j : Int)]) s2) by rw [HS.out, hr, show n - (j + 1) = r by omega]; rfl)
              clear HS hr
              have hszr : gw + 1 ≤ wr.heap.size := hB'.lt
              go_wp2_with (at_builtin; refine app_fresh1 _ _ rfl _ _ 27 2 rfl i0 _ 1 8 Try.underlying27 hi0 hz0 hz1 hz2 rfl (by omega) (gw - 1) P' m pc' _ rfl _ rfl rfl hown' rfl (by simp [Value.oneCell']) (by unfold maxLen; omega) (by omega) (by omega) ?_; intro g3 c3 w3 hown3 hg3 hf3; have hB3 := hB'.grown hg3 (map_ne (fun g e => (hPgw' g e).symm)); have k4 : w3.cell? ⟨gw, 4, none⟩ = some (.slice P' m pc') := hB3.cell 4; have q4 := hB3.frozen 4)
              have hfl : flat icell ps ++ #[Value.int IntKind.i64 (j : Int)].toList = flat icell (ps ++ [(j : Int)]) := by rw [flat_append]; rfl
              rw [hfl] at hown3
              have hll : (ps ++ [(j : Int)]).length = m + 1 := by rw [List.length_append, HM.out]; rfl
              have hg3w : g3 ≠ gw := by
                rcases hf3 with h | h
                · exact hPgw' _ h
                · omega
              have hf3a : ∀ g', Value.ownBlock (.slice (some ⟨g3, 0, none⟩) (m + 1) c3) = some g' → g' ≠ (⟨gw, 4, none⟩ : Addr).block := by
                intro g' e
                injection e with e
                rw [← e]
                exact hg3w
              have hAb3 := own_kept hAb' hg3 hne'
              have hI3 : SInv A n c T S false gw (ps ++ [(j : Int)]) s2 (w3.setCell ⟨gw, 4, none⟩ (.slice (some ⟨g3, 0, none⟩) (m + 1) c3)) :=
                ⟨some ⟨g3, 0, none⟩, c3, B', bd', by rw [hll, HBM'.out, HL'.out]; exact hB3.set_ 4 _, by rw [hll]; exact own_far hown3 hf3a _, by rw [HBM'.out]; exact own_far (p := ⟨gw, 4, none⟩) hAb3 (own_ne (fun ad e => (hBlt' ad e).2)) _,
                  fun ad g e e' => by
                    injection e' with e'
                    subst e'
                    rcases hf3 with h6 | h6
                    · exact hne' ad _ e h6
                    · have := (hBlt' ad e).1; simp only; omega,
                  fun ad e => ⟨by have := (hBlt' ad e).1; have := hg3.size; simp [World.setCell]; omega, (hBlt' ad e).2⟩,
                  fun g e => by injection e with e; rw [← e]; exact hg3w⟩
              have hv3 : Below (gw - 1) w (w3.setCell ⟨gw, 4, none⟩ (.slice (some ⟨g3, 0, none⟩) (m + 1) c3)) := (hv2.grown hg3 (by omega) (fun k e => by
                cases hP : P' with
                | none => rw [hP] at e; cases e
                | some ad =>
                  have h7 := own_at hown' ad.block (by rw [hP]; rfl)
                  rw [hP] at e
                  injection e with e
                  simp only at e
                  omega)).setCell (show gw - 1 ≤ gw by omega) _
              have hih := Lib.hid (ih (ps ++ [(j : Int)]) s2 _ (by rw [hll]; omega) (Lib.hid (plyOk_append hpo.out (by rw [hn.out]; exact hlt))) hI3 (hA.le hv3 hAgw))
              rw [firstN_append] at hih
              clear hown' hown3 hg3 hf3 hB3 k4 q4 hfl hf3a hAb3 hI3 y0 y4 hB' hAb' hne' hBlt' hPgw' hg3w
              refine hih.out.mono ?_
              rintro e W4 ⟨rfl, hI4, hv4⟩
              replace hv3 := hv3.trans hv4
              clear hih hv4
              obtain ⟨P4, pc4, B4, bd4, hB4, hown4, hAb4, hne4, hBlt4, hPgw4⟩ := hI4
              rw [hll] at hB4 hown4
              obtain ⟨s4, hs4⟩ : ∃ s4, s4 = goS xs T S f d (ps ++ [(j : Int)]) s2 := ⟨_, rfl⟩
              rw [← hs4] at HS2 hB4 hAb4
              obtain ⟨bm4, hbm4⟩ : ∃ bm, bm = s4.1.length := ⟨_, rfl⟩
              obtain ⟨lst4, hlst4⟩ : ∃ lst, lst = s4.2 := ⟨_, rfl⟩
              rw [← hbm4, ← hlst4] at hB4
              rw [← hbm4] at hAb4
              have y4 : W4.cell? ⟨gw, 4, none⟩ = some (.slice P4 (m + 1) pc4) := hB4.cell 4
              have f4 := hB4.frozen 4
              have hcap : m + 1 ≤ pc4 := by
                obtain ⟨A9, c9, e9, h9, _⟩ := own_form hown4
                injection e9 with _ _ e9
                omega
              have hown5 : W4.ownsRow (gw - 1) 2 1 (.slice P4 m pc4) m (flat icell ps) := by
                rw [flat_append] at hown4
                exact own_take hown4
              have hf5 : ∀ g', Value.ownBlock (.slice P4 m pc4) = some g' → g' ≠ (⟨gw, 4, none⟩ : Addr).block := by
                exact own_ne hPgw4
              have hI5 : SInv A n c T S false gw ps s4 (W4.setCell ⟨gw, 4, none⟩ (.slice P4 m pc4)) :=
                ⟨P4, pc4, B4, bd4, by rw [HM.out, ← hbm4, ← hlst4]; exact hB4.set_ 4 _, by rw [HM.out]; exact own_far hown5 hf5 _, by rw [← hbm4]; exact own_far (p := ⟨gw, 4, none⟩) hAb4 (own_ne (fun ad e => (hBlt4 ad e).2)) _, hne4, fun ad e => ⟨by have := (hBlt4 ad e).1; simp [World.setCell]; omega, (hBlt4 ad e).2⟩, hPgw4⟩
              have hv5 : Below (gw - 1) w (W4.setCell ⟨gw, 4, none⟩ (.slice P4 m pc4)) := hv3.setCell (show gw - 1 ≤ gw by omega) _
              have HI5 := Lib.hid hI5
              have HV5 := Lib.hid hv5
              have hc1 : (m : Int) ≤ (pc4 : Int) := by omega
              clear hown4 hown5 hf5 hAb4 hne4 hBlt4 hPgw4 hI5 hv5 hv3 hs4 hbm4 hlst4 hll hB4
              go_wp2_with fail
              exact ⟨⟨j + 1, s4, by omega, by go_num, HS2, HI5.out, HV5.out⟩, by simp [intOf]; omega⟩
            · have HS2 := Lib.hid (HS.out.trans (by rw [show n - j = 0 by omega]; rfl : _ = s2))
              clear HS
              go_wp2_with fail
              go_returns
              rw [HS2.out]
              exact ⟨rfl, ⟨P', pc', B', bd', by rw [HM.out, HBM'.out, HL'.out]; exact hB', by rw [HM.out]; exact hown', by rw [HBM'.out]; exact hAb', hne', hBlt', hPgw'⟩, hv2⟩


end Go.Proofs.Ytefkfkdpfecnoaa
