/- Drawn texts of styles. -/
import Derived.Test.YtihgjmhhpiobbaaGreatDoorDrwX
import Derived.Test.YtihgjmhhpiobbaaGreatDoorStyF
namespace Go.Proofs.YtihgjmhhpiobbaaGreatDoor
open Go.RowKit

def OutSz (b : Nat) (w : World) (e : Ending) (w' : World) : Prop := ∃ s : ByteArray, e = .returned (.string s) ∧ s.size ≤ b ∧ Below w.heap.size w w'
def OutSp (g q b : Nat) (w : World) (e : Ending) (w' : World) : Prop := ∃ s : ByteArray, e = .returned (.string s) ∧ s.size ≤ b ∧ Src w' g q ∧ w.grownBy w' (some g)
theorem arr_blkZ {w : World} {g : Nat} {t : TypeId} {C : Array Value} (h : Blk w g t C) : Arr w (some ⟨g, 0, none⟩) C.toList := fun _ => by
  refine ⟨_, rfl, h.lt, fun j u hu => ?_⟩
  have hadd : (⟨g, 0, none⟩ : Addr).add j = ⟨g, j, none⟩ := by unfold Addr.add; split <;> simp_all
  rw [hadd, h.cell j]
  simpa using hu
theorem txts_31 {x : Style} (hx : styB x = true) : ∀ t ∈ txts x, t.size ≤ 31 := by
  obtain ⟨h0, h1, h2, h3, h4, h5⟩ := txt_sizes hx
  intro t ht
  simp only [txts, List.mem_cons, List.not_mem_nil, or_false] at ht
  rcases ht with rfl | rfl | rfl | rfl | rfl | rfl <;> omega
set_option maxRecDepth 100000 in
set_option maxHeartbeats 2000000 in
theorem l24Text_c (x : Style) (hx : Hid (styB x = true)) (g : Nat) (w : World) (hB : Blk w g 33 #[Value.string x.upper, Value.string x.color, Value.string x.lining, Value.string x.sole, Value.int IntKind.i64 x.thick, Value.int IntKind.i64 x.heel, Value.int IntKind.i64 x.eyelets, Value.int IntKind.i64 x.density, Value.bool x.double]) : Calls Tryz.prog 78 #[.pointer (some ⟨g, 0, none⟩)] w (OutSz 300 w) := by
  have HC := l24Texts_c x (Lib.hid (sty_fits hx.out)) g w hB
  unfold OutTx at HC
  have HZ := Lib.hid (txts_31 hx.out)
  obtain ⟨TS, hTS⟩ : ∃ z, z = txts x := ⟨_, rfl⟩
  have hl6 : TS.length = 6 := by rw [hTS]; rfl
  rw [← hTS] at HC HZ
  replace HC := Lib.hid HC
  have HL6 := Lib.hid hl6
  clear hTS hl6 hB hx
  go_enter Tryz.func78, Tryz.ntmps78
  go_wp2_with fail
  refine HC.out.mono ?_
  rintro e W ⟨gl, rfl, _, hT, hv⟩
  have HT := Lib.hid hT
  clear hT HC
  go_wp2_with fail
  go_loopw [4, 5] (fun v i wr => ∃ (j : Nat) (t : ByteArray), j ≤ 6 ∧ i = .int .i64 j ∧ v = .string t ∧ t.size ≤ 40 * j ∧ Below W.heap.size W wr) (fun _ i _ => 6 - (intOf i).toNat)
  case atStart => exact ⟨0, ⟨#[]⟩, by omega, rfl, rfl, by decide, Below.refl _ _⟩
  case round =>
  obtain ⟨j, t, hj, rfl, rfl, htz, hbel⟩ := hrel
  have hj0 : (0 : Int) ≤ (j : Int) := by omega
  by_cases hlt : j < 6
  case neg =>
    have hj1 : ¬ (j : Int) < 6 := by omega
    go_wp2_with fail
    go_returns
    exact ⟨t, rfl, by omega, bl_trans hv hbel⟩
  case pos =>
  have hj1 : (j : Int) < 6 := by omega
  obtain ⟨y, hy⟩ := get_of_lt (xs := TS) (k := j) (by rw [HL6.out]; exact hlt)
  have c0 : wr.cell? ⟨gl, j, none⟩ = some (.string y) := by
    rw [(HT.out.below hbel).cell j]
    simp [hy]
  have hyz := HZ.out y (List.mem_of_getElem? hy)
  have l2 : (⟨#[59, 32]⟩ : ByteArray).size = 2 := rfl
  have hE := empty_beq y
  have hE2 : (y.toList == []) = decide (y.size = 0) := by rw [← hE]; cases y.toList <;> rfl
  have hF := empty_beq t
  clear hy
  by_cases h0 : y.size = 0
  · rw [decide_eq_true h0] at hE hE2
    clear h0
    go_wp2_with fail
    exact ⟨⟨j + 1, t, by omega, by go_num, rfl, by omega, hbel⟩, by simp [intOf]; omega⟩
  · rw [decide_eq_false h0] at hE hE2
    clear h0
    by_cases h1 : t.size = 0
    · rw [decide_eq_true h1] at hF
      have a0 := fun (w : World) => run_string_add_sum (P := Tryz.prog) w t y (by omega)
      go_wp2_with fail
      exact ⟨⟨j + 1, t ++ y, by omega, by go_num, rfl, by rw [app_size]; omega, hbel⟩, by simp [intOf]; omega⟩
    · rw [decide_eq_false h1] at hF
      have a0 := fun (w : World) => run_string_add_sum (P := Tryz.prog) w t ⟨#[59, 32]⟩ (by omega)
      have a1 := fun (w : World) => run_string_add_sum (P := Tryz.prog) w (t ++ ⟨#[59, 32]⟩) y (by rw [app_size]; omega)
      go_wp2_with fail
      exact ⟨⟨j + 1, t ++ ⟨#[59, 32]⟩ ++ y, by omega, by go_num, rfl, by simp only [app_size]; omega, hbel⟩, by simp [intOf]; omega⟩

set_option maxRecDepth 100000 in
set_option maxHeartbeats 8000000 in
theorem l01Spoil_c (g q : Nat) (t : ByteArray) (htz : t.size ≤ 1000) (hq : q ≤ 600000000000) (w : World) (hS : Src w g q) : Calls Tryz.prog 77 #[.pointer (some ⟨g, 0, none⟩), .string t] w (OutSp g (q + 10) 3000 w) := by
  have HS := Lib.hid hS
  have hgw := hS.lt
  have HG := Lib.hid (World.grownBy.refl w (some g))
  have HW := Lib.hid (Nat.le_refl w.heap.size)
  clear hS
  go_enter Tryz.func77, Tryz.ntmps77
  go_wp2_with fail

  refine (pick_c g _ 5 (by omega) (by omega) _ HS.out).mono ?_
  rintro e W1 ⟨k, rfl, k0, k1, hS, hg⟩
  replace HS := Lib.hid hS
  replace HG := Lib.hid (grown_trans HG.out hg)
  replace HW := Lib.hid (Nat.le_trans HW.out hg.size)
  clear hS hg
  go_upto_block 0 with fail
  by_cases h0 : k = 0
  case pos =>
    subst h0
    go_wp2_with fail
    refine (pick_c g _ ((t.size : Int) + 1) (by omega) (by omega) _ HS.out).mono ?_
    rintro e W2 ⟨at_, rfl, at_0, at_1, hS, hg⟩
    replace HS := Lib.hid hS
    replace HG := Lib.hid (grown_trans HG.out hg)
    replace HW := Lib.hid (Nat.le_trans HW.out hg.size)
    clear hS hg
    obtain ⟨p, rfl⟩ := Int.eq_ofNat_of_zero_le at_0
    have hp : p ≤ t.size := by omega
    have hp2 : (p : Int) ≤ (t.size : Int) := by omega
    have hp0 : (0 : Int) ≤ (p : Int) := by omega
    have hx1 : (t.extract 0 p).size ≤ 1000 := by rw [ByteArray.size_extract]; omega
    have hx2 : (t.extract p t.size).size ≤ 1000 := by rw [ByteArray.size_extract]; omega
    go_upto_region 4 with fail
    refine wp_region_held_drew (S := fun _ => True) (by kernel_rfl) ?_ (fun _ => ?_)
    · trivial
    replace HS := Lib.hid (HS.out.below (Below.refl (W2).heap.size (W2)).drew)
    replace HG := Lib.hid (grown_below HG.out (Below.refl (W2).heap.size (W2)).drew)
    replace HW := Lib.hid (Nat.le_trans HW.out ((Below.refl (W2).heap.size (W2)).drew).size)
    refine wpAnyH_take (i := 0) (oi := { dst := some 16, op := _, type := _, pos := _, after := _, guard := _ }) (v := ?_) rfl (by kernel_rfl) (by kernel_rfl) (by kernel_rfl) (fun _ _ _ h => h) (Or.inl ⟨by kernel_rfl, ?_⟩) (trivial) ?_
    rotate_left
    · intro w hSw
      try dsimp only at hSw
      go_simp
      try with_reducible rfl
    try simp only [Act.put, List.setIfInBounds_toArray, List.set_cons_zero, List.set_cons_succ]
    refine wpAnyH_take (i := 1) (oi := { dst := some 17, op := _, type := _, pos := _, after := _, guard := _ }) (v := ?_) rfl (by kernel_rfl) (by kernel_rfl) (by kernel_rfl) (fun _ _ _ h => h) (Or.inl ⟨by kernel_rfl, ?_⟩) (trivial) ?_
    rotate_left
    · intro w hSw
      try dsimp only at hSw
      go_simp
      try with_reducible rfl
    try simp only [Act.put, List.setIfInBounds_toArray, List.set_cons_zero, List.set_cons_succ]
    refine wpAnyH_take (i := 2) (oi := { dst := some 18, op := _, type := _, pos := _, after := _, guard := _ }) (v := ?_) rfl (by kernel_rfl) (by kernel_rfl) (by kernel_rfl) (fun _ _ _ h => h) (Or.inl ⟨by kernel_rfl, ?_⟩) (trivial) ?_
    rotate_left
    · intro w hSw
      try dsimp only at hSw
      go_simp
      try with_reducible rfl
    try simp only [Act.put, List.setIfInBounds_toArray, List.set_cons_zero, List.set_cons_succ]
    refine wpAnyH_take (i := 3) (oi := { dst := some 19, op := _, type := _, pos := _, after := _, guard := _ }) (v := ?_) rfl (by kernel_rfl) (by kernel_rfl) (by kernel_rfl) (fun _ _ _ h => h) (Or.inl ⟨by kernel_rfl, ?_⟩) (trivial) ?_
    rotate_left
    · intro w hSw
      try dsimp only at hSw
      go_simp
      try with_reducible rfl
    try simp only [Act.put, List.setIfInBounds_toArray, List.set_cons_zero, List.set_cons_succ]
    refine wpAnyH_take (i := 7) (oi := { dst := some 23, op := _, type := _, pos := _, after := _, guard := _ }) (v := ?_) rfl (by kernel_rfl) (by kernel_rfl) (by kernel_rfl) (fun _ _ _ h => h) (Or.inl ⟨by kernel_rfl, ?_⟩) (trivial) ?_
    rotate_left
    · intro w hSw
      try dsimp only at hSw
      go_simp
      try with_reducible rfl
    try simp only [Act.put, List.setIfInBounds_toArray, List.set_cons_zero, List.set_cons_succ]
    refine wpAnyH_take (i := 8) (oi := { dst := some 24, op := _, type := _, pos := _, after := _, guard := _ }) (v := ?_) rfl (by kernel_rfl) (by kernel_rfl) (by kernel_rfl) (fun _ _ _ h => h) (Or.inl ⟨by kernel_rfl, ?_⟩) (trivial) ?_
    rotate_left
    · intro w hSw
      try dsimp only at hSw
      go_simp
      try with_reducible rfl
    try simp only [Act.put, List.setIfInBounds_toArray, List.set_cons_zero, List.set_cons_succ]
    refine wpAnyH_take (i := 9) (oi := { dst := some 25, op := _, type := _, pos := _, after := _, guard := _ }) (v := ?_) rfl (by kernel_rfl) (by kernel_rfl) (by kernel_rfl) (fun _ _ _ h => h) (Or.inl ⟨by kernel_rfl, ?_⟩) (trivial) ?_
    rotate_left
    · intro w hSw
      try dsimp only at hSw
      go_simp
      try with_reducible rfl
    try simp only [Act.put, List.setIfInBounds_toArray, List.set_cons_zero, List.set_cons_succ]
    -- the buildSlice, the call, the adds
    refine wpAnyH_ready (rs := [4]) (by kernel_rfl) (by simp) ?_
    refine (AllReadyH.cons (o := { dst := some 20, op := _, type := _, pos := _, after := _, guard := _ }) rfl (fun K hK => ?_) AllReadyH.nil)
    go_simp
    obtain ⟨W4, hWW4⟩ : ∃ z, z = (World.alloc W2 (Obj.cells #[.string ⟨#[32]⟩, .string ⟨#[48]⟩, .string ⟨#[45]⟩, .string ⟨#[120]⟩, .string ⟨#[49]⟩, .string ⟨#[57]⟩, .string ⟨#[46]⟩] 9)).drew := ⟨_, rfl⟩
    obtain ⟨gl, hggl⟩ : ∃ z, z = (W2).heap.size := ⟨_, rfl⟩
    have HL : Hid (Blk W4 gl 9 #[.string ⟨#[32]⟩, .string ⟨#[48]⟩, .string ⟨#[45]⟩, .string ⟨#[120]⟩, .string ⟨#[49]⟩, .string ⟨#[57]⟩, .string ⟨#[46]⟩]) := Lib.hid (by rw [hWW4, hggl]; exact Blk.new W2 _ _)
    have hb : Below ((W2).drew).heap.size (W2).drew W4 := by rw [hWW4]; exact bl_alloc (Below.refl ((W2).drew).heap.size ((W2).drew)) _
    have hgl0 : w.heap.size ≤ gl := by rw [hggl]; exact HW.out
    have hgl1 : g < gl := by have h : g < (W2).heap.size := HS.out.lt; omega
    replace HS := Lib.hid (HS.out.below hb)
    replace HG := Lib.hid (grown_below HG.out hb)
    replace HW := Lib.hid (Nat.le_trans HW.out (hb).size)
    have hn_W4 : gl + 1 = W4.heap.size := by rw [hWW4, hggl]; exact (World.size_alloc W2 _).symm
    rw [← hWW4, ← hggl]
    clear hWW4 hggl hb

    refine hK.out _ _ (trivial) (fun _ => ?_)
    clear hK K
    try simp only [Act.put, List.setIfInBounds_toArray, List.set_cons_zero, List.set_cons_succ]
    refine wpAnyH_ready (rs := [5]) (by kernel_rfl) (by simp) ?_
    refine (AllReadyH.cons (o := { dst := some 21, op := _, type := _, pos := _, after := _, guard := _ }) rfl (fun K hK => ?_) AllReadyH.nil)
    have hA := arr_blkZ HL.out
    go_simp
    refine (text_c g _ (some ⟨gl, 0, none⟩) [⟨#[32]⟩, ⟨#[48]⟩, ⟨#[45]⟩, ⟨#[120]⟩, ⟨#[49]⟩, ⟨#[57]⟩, ⟨#[46]⟩] 7 7 (Lib.hid rfl) (by omega) (by omega) (by omega) _ HS.out hA (fun ad e => by injection e with e; subst e; simp only; omega)).mono ?_
    rintro e W5 ⟨u, hv, rfl, hS, hg⟩
    replace HS := Lib.hid hS
    replace HG := Lib.hid (grown_trans HG.out hg)
    replace HL := Lib.hid (HL.out.grown hg (by intro e; injection e; omega))
    replace HW := Lib.hid (Nat.le_trans HW.out hg.size)
    clear hS hg
    have HV_u := Lib.hid hv
    clear hA hv
    clear HL
    have hu : u.size ≤ 100 := by
      have hv := HV_u.out
      simp only [List.mem_cons, List.not_mem_nil, or_false] at hv
      rcases hv with rfl | rfl | rfl | rfl | rfl | rfl | rfl <;> decide
    clear HV_u
    go_wp2_with fail

    refine hK.out _ _ (trivial) (fun _ => ?_)
    clear hK K
    try simp only [Act.put, List.setIfInBounds_toArray, List.set_cons_zero, List.set_cons_succ]
    refine wpAnyH_take (i := 6) (oi := { dst := some 22, op := _, type := _, pos := _, after := _, guard := _ }) (v := ?_) rfl (by kernel_rfl) (by kernel_rfl) (by kernel_rfl) (fun _ _ _ h => h) (Or.inl ⟨by kernel_rfl, ?_⟩) (trivial) ?_
    rotate_left
    · intro w hSw
      try dsimp only at hSw
      have a0 := fun (w : World) => run_string_add_sum (P := Tryz.prog) w (t.extract 0 p) u (by omega)
      have a1 := fun (w : World) => run_string_add_sum (P := Tryz.prog) w ((t.extract 0 p) ++ u) (t.extract p t.size) (by rw [app_size]; omega)
      go_simp
      try with_reducible rfl
    try simp only [Act.put, List.setIfInBounds_toArray, List.set_cons_zero, List.set_cons_succ]
    refine wpAnyH_take (i := 10) (oi := { dst := some 26, op := _, type := _, pos := _, after := _, guard := _ }) (v := ?_) rfl (by kernel_rfl) (by kernel_rfl) (by kernel_rfl) (fun _ _ _ h => h) (Or.inl ⟨by kernel_rfl, ?_⟩) (trivial) ?_
    rotate_left
    · intro w hSw
      try dsimp only at hSw
      have a0 := fun (w : World) => run_string_add_sum (P := Tryz.prog) w (t.extract 0 p) u (by omega)
      have a1 := fun (w : World) => run_string_add_sum (P := Tryz.prog) w ((t.extract 0 p) ++ u) (t.extract p t.size) (by rw [app_size]; omega)
      go_simp
      try with_reducible rfl
    try simp only [Act.put, List.setIfInBounds_toArray, List.set_cons_zero, List.set_cons_succ]
    refine wpAnyH_take (i := 11) (oi := { dst := some 1, op := _, type := _, pos := _, after := _, guard := _ }) (v := ?_) rfl (by kernel_rfl) (by kernel_rfl) (by kernel_rfl) (fun _ _ _ h => h) (Or.inl ⟨by kernel_rfl, ?_⟩) (trivial) ?_
    rotate_left
    · intro w hSw
      try dsimp only at hSw
      go_simp
      try with_reducible rfl
    try simp only [Act.put, List.setIfInBounds_toArray, List.set_cons_zero, List.set_cons_succ]
    refine wpAnyH_done (by kernel_rfl) ?_ _
    go_wp2_with fail
    go_returns
    exact ⟨_, rfl, by simp only [app_size]; omega, HS.out.more (by omega), HG.out⟩
  by_cases h1 : k = 1
  case pos =>
    subst h1
    have hE := empty_beq t
    by_cases hz : t.size = 0
    · rw [decide_eq_true hz] at hE
      go_wp2_with fail
      go_returns
      exact ⟨_, rfl, by omega, HS.out.more (by omega), HG.out⟩
    · skip
      rw [decide_eq_false hz] at hE
      go_wp2_with fail
      refine (pick_c g _ (t.size : Int) (by omega) (by omega) _ HS.out).mono ?_
      rintro e W2 ⟨at_, rfl, at_0, at_1, hS, hg⟩
      replace HS := Lib.hid hS
      replace HG := Lib.hid (grown_trans HG.out hg)
      replace HW := Lib.hid (Nat.le_trans HW.out hg.size)
      clear hS hg
      obtain ⟨p, rfl⟩ := Int.eq_ofNat_of_zero_le at_0
      have hp : p < t.size := by omega
      have hp2 : (p : Int) ≤ (t.size : Int) := by omega
      have hp3 : (p : Int) + 1 ≤ (t.size : Int) := by omega
      have hp0 : (0 : Int) ≤ (p : Int) := by omega
      have hp4 : ((p : Int) + 1).toNat = p + 1 := by omega
      have hp6 : (0 : Int) ≤ (p : Int) + 1 := by omega
      have hp5 : IntKind.i64.wrap ((p : Int) + 1) = (p : Int) + 1 := IntWalk.i64_in _ (by omega)
      have hx1 : (t.extract 0 p).size ≤ 1000 := by rw [ByteArray.size_extract]; omega
      have hx2 : (t.extract (p + 1) t.size).size ≤ 1000 := by rw [ByteArray.size_extract]; omega
      have a0 := fun (w : World) => run_string_add_sum (P := Tryz.prog) w (t.extract 0 p) (t.extract (p + 1) t.size) (by omega)
      go_upto_region 8 with fail
      refine wp_region_held_drew (S := fun _ => True) (by kernel_rfl) ?_ (fun _ => ?_)
      · trivial
      replace HS := Lib.hid (HS.out.below (Below.refl (W2).heap.size (W2)).drew)
      replace HG := Lib.hid (grown_below HG.out (Below.refl (W2).heap.size (W2)).drew)
      replace HW := Lib.hid (Nat.le_trans HW.out ((Below.refl (W2).heap.size (W2)).drew).size)
      refine wpAnyH_take (i := 0) (oi := { dst := some 35, op := _, type := _, pos := _, after := _, guard := _ }) (v := ?_) rfl (by kernel_rfl) (by kernel_rfl) (by kernel_rfl) (fun _ _ _ h => h) (Or.inl ⟨by kernel_rfl, ?_⟩) (trivial) ?_
      rotate_left
      · intro w hSw
        try dsimp only at hSw
        go_simp
        try with_reducible rfl
      try simp only [Act.put, List.setIfInBounds_toArray, List.set_cons_zero, List.set_cons_succ]
      refine wpAnyH_take (i := 1) (oi := { dst := some 36, op := _, type := _, pos := _, after := _, guard := _ }) (v := ?_) rfl (by kernel_rfl) (by kernel_rfl) (by kernel_rfl) (fun _ _ _ h => h) (Or.inl ⟨by kernel_rfl, ?_⟩) (trivial) ?_
      rotate_left
      · intro w hSw
        try dsimp only at hSw
        go_simp
        try with_reducible rfl
      try simp only [Act.put, List.setIfInBounds_toArray, List.set_cons_zero, List.set_cons_succ]
      refine wpAnyH_take (i := 2) (oi := { dst := some 37, op := _, type := _, pos := _, after := _, guard := _ }) (v := ?_) rfl (by kernel_rfl) (by kernel_rfl) (by kernel_rfl) (fun _ _ _ h => h) (Or.inl ⟨by kernel_rfl, ?_⟩) (trivial) ?_
      rotate_left
      · intro w hSw
        try dsimp only at hSw
        go_simp
        try with_reducible rfl
      try simp only [Act.put, List.setIfInBounds_toArray, List.set_cons_zero, List.set_cons_succ]
      refine wpAnyH_take (i := 3) (oi := { dst := some 38, op := _, type := _, pos := _, after := _, guard := _ }) (v := ?_) rfl (by kernel_rfl) (by kernel_rfl) (by kernel_rfl) (fun _ _ _ h => h) (Or.inl ⟨by kernel_rfl, ?_⟩) (trivial) ?_
      rotate_left
      · intro w hSw
        try dsimp only at hSw
        go_simp
        try with_reducible rfl
      try simp only [Act.put, List.setIfInBounds_toArray, List.set_cons_zero, List.set_cons_succ]
      refine wpAnyH_take (i := 4) (oi := { dst := some 39, op := _, type := _, pos := _, after := _, guard := _ }) (v := ?_) rfl (by kernel_rfl) (by kernel_rfl) (by kernel_rfl) (fun _ _ _ h => h) (Or.inl ⟨by kernel_rfl, ?_⟩) (trivial) ?_
      rotate_left
      · intro w hSw
        try dsimp only at hSw
        go_simp
        try with_reducible rfl
      try simp only [Act.put, List.setIfInBounds_toArray, List.set_cons_zero, List.set_cons_succ]
      refine wpAnyH_take (i := 5) (oi := { dst := some 40, op := _, type := _, pos := _, after := _, guard := _ }) (v := ?_) rfl (by kernel_rfl) (by kernel_rfl) (by kernel_rfl) (fun _ _ _ h => h) (Or.inl ⟨by kernel_rfl, ?_⟩) (trivial) ?_
      rotate_left
      · intro w hSw
        try dsimp only at hSw
        go_simp
        try with_reducible rfl
      try simp only [Act.put, List.setIfInBounds_toArray, List.set_cons_zero, List.set_cons_succ]
      refine wpAnyH_take (i := 6) (oi := { dst := some 41, op := _, type := _, pos := _, after := _, guard := _ }) (v := ?_) rfl (by kernel_rfl) (by kernel_rfl) (by kernel_rfl) (fun _ _ _ h => h) (Or.inl ⟨by kernel_rfl, ?_⟩) (trivial) ?_
      rotate_left
      · intro w hSw
        try dsimp only at hSw
        go_simp
        try with_reducible rfl
      try simp only [Act.put, List.setIfInBounds_toArray, List.set_cons_zero, List.set_cons_succ]
      refine wpAnyH_take (i := 7) (oi := { dst := some 42, op := _, type := _, pos := _, after := _, guard := _ }) (v := ?_) rfl (by kernel_rfl) (by kernel_rfl) (by kernel_rfl) (fun _ _ _ h => h) (Or.inl ⟨by kernel_rfl, ?_⟩) (trivial) ?_
      rotate_left
      · intro w hSw
        try dsimp only at hSw
        go_simp
        try with_reducible rfl
      try simp only [Act.put, List.setIfInBounds_toArray, List.set_cons_zero, List.set_cons_succ]
      refine wpAnyH_take (i := 8) (oi := { dst := some 1, op := _, type := _, pos := _, after := _, guard := _ }) (v := ?_) rfl (by kernel_rfl) (by kernel_rfl) (by kernel_rfl) (fun _ _ _ h => h) (Or.inl ⟨by kernel_rfl, ?_⟩) (trivial) ?_
      rotate_left
      · intro w hSw
        try dsimp only at hSw
        go_simp
        try with_reducible rfl
      try simp only [Act.put, List.setIfInBounds_toArray, List.set_cons_zero, List.set_cons_succ]
      refine wpAnyH_done (by kernel_rfl) ?_ _
      go_wp2_with fail
      go_returns
      exact ⟨_, rfl, by simp only [app_size]; omega, HS.out.more (by omega), HG.out⟩
  go_wp2_with fail
  go_returns
  exact ⟨_, rfl, by omega, HS.out.more (by omega), HG.out⟩
end Go.Proofs.YtihgjmhhpiobbaaGreatDoor
