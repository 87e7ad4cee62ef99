/- Drawn texts: a text that is spoilt (a letter put in, one taken out). Drawn orders: a new order for a list; a list and its copy; an order's text, seldom spoilt. Drawn orders: an order's text, seldom spoilt. Drawn orders: a list and its copy, seldom turned. -/
import Derived.Test.YtapnllbbdfoaaaaGreatDoorMDrwO
import Derived.Test.YtapnllbbdfoaaaaGreatDoorOrdA
import Derived.Deep.RegionHeld3
import Derived.Test.YtapnllbbdfoaaaaGreatDoorOText
import Derived.Test.YtapnllbbdfoaaaaGreatDoorMInsP

namespace Go.Proofs.YtapnllbbdfoaaaaGreatDoor
open Go.RowKit

def OutSp (g q b : Nat) (w : World) (e : Ending) (w' : World) : Prop := ∃ s : ByteArray, e = .returned (.string s) ∧ s.size ≤ b ∧ Src w' g q ∧ w.grownBy w' (some g)
theorem arr_blkS {w : World} {g : Nat} {t : TypeId} {C : Array Value} (h : Blk w g t C) : Arr w (some ⟨g, 0, none⟩) C.toList := fun _ => by
  refine ⟨_, rfl, h.lt, fun j u hu => ?_⟩
  have hadd : (⟨g, 0, none⟩ : Addr).add j = ⟨g, j, none⟩ := by unfold Addr.add; split <;> simp_all
  rw [hadd, h.cell j]
  simpa using hu
theorem app_sizeS (a b : ByteArray) : (a ++ b).size = a.size + b.size := ByteArray.size_append' a b
theorem empty_beqS (x : ByteArray) : x.toList.isEmpty = decide (x.size = 0) := by
  have h : x.toList.length = x.size := by rw [ByteArray.toList_eq]; simp
  cases hx : x.toList with
  | nil => rw [hx] at h; simp at h; simp [← h]
  | cons c r => rw [hx] at h; simp only [List.length_cons] at h; simp [← h]
set_option maxRecDepth 100000 in
set_option maxHeartbeats 8000000 in
theorem l01Spoil_c (g q : Nat) (t : ByteArray) (htz : t.size ≤ 30000) (hq : q ≤ 600000000000) (w : World) (hS : Src w g q) : Calls Tryz.prog 58 #[.pointer (some ⟨g, 0, none⟩), .string t] w (OutSp g (q + 10) 100000 w) := by
  have HS := Lib.hid hS
  have hgw := hS.lt
  have HG := Lib.hid (World.grownBy.refl w (some g))
  have HW := Lib.hid (Nat.le_refl w.heap.size)
  clear hS
  go_enter Tryz.func58, Tryz.ntmps58
  go_wp2_with fail

  refine (pick_c g _ 5 (by omega) (by omega) _ HS.out).mono ?_
  rintro e W1 ⟨k, rfl, k0, k1, hS, hg⟩
  replace HS := Lib.hid hS
  replace HG := Lib.hid (grown_trans HG.out hg)
  replace HW := Lib.hid (Nat.le_trans HW.out hg.size)
  clear hS hg
  go_upto_block 0 with fail
  by_cases h0 : k = 0
  case pos =>
    subst h0
    go_wp2_with fail
    refine (pick_c g _ ((t.size : Int) + 1) (by omega) (by omega) _ HS.out).mono ?_
    rintro e W2 ⟨at_, rfl, at_0, at_1, hS, hg⟩
    replace HS := Lib.hid hS
    replace HG := Lib.hid (grown_trans HG.out hg)
    replace HW := Lib.hid (Nat.le_trans HW.out hg.size)
    clear hS hg
    obtain ⟨p, rfl⟩ := Int.eq_ofNat_of_zero_le at_0
    have hp : p ≤ t.size := by omega
    have hp2 : (p : Int) ≤ (t.size : Int) := by omega
    have hp0 : (0 : Int) ≤ (p : Int) := by omega
    have hx1 : (t.extract 0 p).size ≤ 30000 := by rw [ByteArray.size_extract]; omega
    have hx2 : (t.extract p t.size).size ≤ 30000 := by rw [ByteArray.size_extract]; omega
    go_upto_region 4 with fail
    refine wp_region_held_drew (S := fun _ => True) (by kernel_rfl) ?_ (fun _ => ?_)
    · trivial
    replace HS := Lib.hid (HS.out.below (Below.refl (W2).heap.size (W2)).drew)
    replace HG := Lib.hid (grown_below HG.out (Below.refl (W2).heap.size (W2)).drew)
    replace HW := Lib.hid (Nat.le_trans HW.out ((Below.refl (W2).heap.size (W2)).drew).size)
    refine wpAnyH_take (i := 0) (oi := { dst := some 16, op := _, type := _, pos := _, after := _, guard := _ }) (v := ?_) rfl (by kernel_rfl) (by kernel_rfl) (by kernel_rfl) (fun _ _ _ h => h) (Or.inl ⟨by kernel_rfl, ?_⟩) (trivial) ?_
    rotate_left
    · intro w hSw
      try dsimp only at hSw
      go_simp
      try with_reducible rfl
    try simp only [Act.put, List.setIfInBounds_toArray, List.set_cons_zero, List.set_cons_succ]
    refine wpAnyH_take (i := 1) (oi := { dst := some 17, op := _, type := _, pos := _, after := _, guard := _ }) (v := ?_) rfl (by kernel_rfl) (by kernel_rfl) (by kernel_rfl) (fun _ _ _ h => h) (Or.inl ⟨by kernel_rfl, ?_⟩) (trivial) ?_
    rotate_left
    · intro w hSw
      try dsimp only at hSw
      go_simp
      try with_reducible rfl
    try simp only [Act.put, List.setIfInBounds_toArray, List.set_cons_zero, List.set_cons_succ]
    refine wpAnyH_take (i := 2) (oi := { dst := some 18, op := _, type := _, pos := _, after := _, guard := _ }) (v := ?_) rfl (by kernel_rfl) (by kernel_rfl) (by kernel_rfl) (fun _ _ _ h => h) (Or.inl ⟨by kernel_rfl, ?_⟩) (trivial) ?_
    rotate_left
    · intro w hSw
      try dsimp only at hSw
      go_simp
      try with_reducible rfl
    try simp only [Act.put, List.setIfInBounds_toArray, List.set_cons_zero, List.set_cons_succ]
    refine wpAnyH_take (i := 3) (oi := { dst := some 19, op := _, type := _, pos := _, after := _, guard := _ }) (v := ?_) rfl (by kernel_rfl) (by kernel_rfl) (by kernel_rfl) (fun _ _ _ h => h) (Or.inl ⟨by kernel_rfl, ?_⟩) (trivial) ?_
    rotate_left
    · intro w hSw
      try dsimp only at hSw
      go_simp
      try with_reducible rfl
    try simp only [Act.put, List.setIfInBounds_toArray, List.set_cons_zero, List.set_cons_succ]
    refine wpAnyH_take (i := 7) (oi := { dst := some 23, op := _, type := _, pos := _, after := _, guard := _ }) (v := ?_) rfl (by kernel_rfl) (by kernel_rfl) (by kernel_rfl) (fun _ _ _ h => h) (Or.inl ⟨by kernel_rfl, ?_⟩) (trivial) ?_
    rotate_left
    · intro w hSw
      try dsimp only at hSw
      go_simp
      try with_reducible rfl
    try simp only [Act.put, List.setIfInBounds_toArray, List.set_cons_zero, List.set_cons_succ]
    refine wpAnyH_take (i := 8) (oi := { dst := some 24, op := _, type := _, pos := _, after := _, guard := _ }) (v := ?_) rfl (by kernel_rfl) (by kernel_rfl) (by kernel_rfl) (fun _ _ _ h => h) (Or.inl ⟨by kernel_rfl, ?_⟩) (trivial) ?_
    rotate_left
    · intro w hSw
      try dsimp only at hSw
      go_simp
      try with_reducible rfl
    try simp only [Act.put, List.setIfInBounds_toArray, List.set_cons_zero, List.set_cons_succ]
    refine wpAnyH_take (i := 9) (oi := { dst := some 25, op := _, type := _, pos := _, after := _, guard := _ }) (v := ?_) rfl (by kernel_rfl) (by kernel_rfl) (by kernel_rfl) (fun _ _ _ h => h) (Or.inl ⟨by kernel_rfl, ?_⟩) (trivial) ?_
    rotate_left
    · intro w hSw
      try dsimp only at hSw
      go_simp
      try with_reducible rfl
    try simp only [Act.put, List.setIfInBounds_toArray, List.set_cons_zero, List.set_cons_succ]
    -- the buildSlice, the call, the adds
    refine wpAnyH_ready (rs := [4]) (by kernel_rfl) (by simp) ?_
    refine (AllReadyH.cons (o := { dst := some 20, op := _, type := _, pos := _, after := _, guard := _ }) rfl (fun K hK => ?_) AllReadyH.nil)
    go_simp
    obtain ⟨W4, hWW4⟩ : ∃ z, z = (World.alloc W2 (Obj.cells #[.string ⟨#[32]⟩, .string ⟨#[48]⟩, .string ⟨#[45]⟩, .string ⟨#[120]⟩, .string ⟨#[49]⟩, .string ⟨#[57]⟩, .string ⟨#[46]⟩] 9)).drew := ⟨_, rfl⟩
    obtain ⟨gl, hggl⟩ : ∃ z, z = (W2).heap.size := ⟨_, rfl⟩
    have HL : Hid (Blk W4 gl 9 #[.string ⟨#[32]⟩, .string ⟨#[48]⟩, .string ⟨#[45]⟩, .string ⟨#[120]⟩, .string ⟨#[49]⟩, .string ⟨#[57]⟩, .string ⟨#[46]⟩]) := Lib.hid (by rw [hWW4, hggl]; exact Blk.new W2 _ _)
    have hb : Below ((W2).drew).heap.size (W2).drew W4 := by rw [hWW4]; exact bl_alloc (Below.refl ((W2).drew).heap.size ((W2).drew)) _
    have hgl0 : w.heap.size ≤ gl := by rw [hggl]; exact HW.out
    have hgl1 : g < gl := by have h : g < (W2).heap.size := HS.out.lt; omega
    replace HS := Lib.hid (HS.out.below hb)
    replace HG := Lib.hid (grown_below HG.out hb)
    replace HW := Lib.hid (Nat.le_trans HW.out (hb).size)
    have hn_W4 : gl + 1 = W4.heap.size := by rw [hWW4, hggl]; exact (World.size_alloc W2 _).symm
    rw [← hWW4, ← hggl]
    clear hWW4 hggl hb

    refine hK.out _ _ (trivial) (fun _ => ?_)
    clear hK K
    try simp only [Act.put, List.setIfInBounds_toArray, List.set_cons_zero, List.set_cons_succ]
    refine wpAnyH_ready (rs := [5]) (by kernel_rfl) (by simp) ?_
    refine (AllReadyH.cons (o := { dst := some 21, op := _, type := _, pos := _, after := _, guard := _ }) rfl (fun K hK => ?_) AllReadyH.nil)
    have hA := arr_blkS HL.out
    go_simp
    refine (text_c g _ (some ⟨gl, 0, none⟩) [⟨#[32]⟩, ⟨#[48]⟩, ⟨#[45]⟩, ⟨#[120]⟩, ⟨#[49]⟩, ⟨#[57]⟩, ⟨#[46]⟩] 7 7 (Lib.hid rfl) (by omega) (by omega) (by omega) _ HS.out hA (fun ad e => by injection e with e; subst e; simp only; omega)).mono ?_
    rintro e W5 ⟨u, hv, rfl, hS, hg⟩
    replace HS := Lib.hid hS
    replace HG := Lib.hid (grown_trans HG.out hg)
    replace HL := Lib.hid (HL.out.grown hg (by intro e; injection e; omega))
    replace HW := Lib.hid (Nat.le_trans HW.out hg.size)
    clear hS hg
    have HV_u := Lib.hid hv
    clear hA hv
    clear HL
    have hu : u.size ≤ 100 := by
      have hv := HV_u.out
      simp only [List.mem_cons, List.not_mem_nil, or_false] at hv
      rcases hv with rfl | rfl | rfl | rfl | rfl | rfl | rfl <;> decide
    clear HV_u
    go_wp2_with fail

    refine hK.out _ _ (trivial) (fun _ => ?_)
    clear hK K
    try simp only [Act.put, List.setIfInBounds_toArray, List.set_cons_zero, List.set_cons_succ]
    refine wpAnyH_take (i := 6) (oi := { dst := some 22, op := _, type := _, pos := _, after := _, guard := _ }) (v := ?_) rfl (by kernel_rfl) (by kernel_rfl) (by kernel_rfl) (fun _ _ _ h => h) (Or.inl ⟨by kernel_rfl, ?_⟩) (trivial) ?_
    rotate_left
    · intro w hSw
      try dsimp only at hSw
      have a0 := fun (w : World) => run_string_add_sum (P := Tryz.prog) w (t.extract 0 p) u (by omega)
      have a1 := fun (w : World) => run_string_add_sum (P := Tryz.prog) w ((t.extract 0 p) ++ u) (t.extract p t.size) (by rw [app_sizeS]; omega)
      go_simp
      try with_reducible rfl
    try simp only [Act.put, List.setIfInBounds_toArray, List.set_cons_zero, List.set_cons_succ]
    refine wpAnyH_take (i := 10) (oi := { dst := some 26, op := _, type := _, pos := _, after := _, guard := _ }) (v := ?_) rfl (by kernel_rfl) (by kernel_rfl) (by kernel_rfl) (fun _ _ _ h => h) (Or.inl ⟨by kernel_rfl, ?_⟩) (trivial) ?_
    rotate_left
    · intro w hSw
      try dsimp only at hSw
      have a0 := fun (w : World) => run_string_add_sum (P := Tryz.prog) w (t.extract 0 p) u (by omega)
      have a1 := fun (w : World) => run_string_add_sum (P := Tryz.prog) w ((t.extract 0 p) ++ u) (t.extract p t.size) (by rw [app_sizeS]; omega)
      go_simp
      try with_reducible rfl
    try simp only [Act.put, List.setIfInBounds_toArray, List.set_cons_zero, List.set_cons_succ]
    refine wpAnyH_take (i := 11) (oi := { dst := some 1, op := _, type := _, pos := _, after := _, guard := _ }) (v := ?_) rfl (by kernel_rfl) (by kernel_rfl) (by kernel_rfl) (fun _ _ _ h => h) (Or.inl ⟨by kernel_rfl, ?_⟩) (trivial) ?_
    rotate_left
    · intro w hSw
      try dsimp only at hSw
      go_simp
      try with_reducible rfl
    try simp only [Act.put, List.setIfInBounds_toArray, List.set_cons_zero, List.set_cons_succ]
    refine wpAnyH_done (by kernel_rfl) ?_ _
    go_wp2_with fail
    go_returns
    exact ⟨_, rfl, by simp only [app_sizeS]; omega, HS.out.more (by omega), HG.out⟩
  by_cases h1 : k = 1
  case pos =>
    subst h1
    have hE := empty_beqS t
    by_cases hz : t.size = 0
    · rw [decide_eq_true hz] at hE
      go_wp2_with fail
      go_returns
      exact ⟨_, rfl, by omega, HS.out.more (by omega), HG.out⟩
    · skip
      rw [decide_eq_false hz] at hE
      go_wp2_with fail
      refine (pick_c g _ (t.size : Int) (by omega) (by omega) _ HS.out).mono ?_
      rintro e W2 ⟨at_, rfl, at_0, at_1, hS, hg⟩
      replace HS := Lib.hid hS
      replace HG := Lib.hid (grown_trans HG.out hg)
      replace HW := Lib.hid (Nat.le_trans HW.out hg.size)
      clear hS hg
      obtain ⟨p, rfl⟩ := Int.eq_ofNat_of_zero_le at_0
      have hp : p < t.size := by omega
      have hp2 : (p : Int) ≤ (t.size : Int) := by omega
      have hp3 : (p : Int) + 1 ≤ (t.size : Int) := by omega
      have hp0 : (0 : Int) ≤ (p : Int) := by omega
      have hp4 : ((p : Int) + 1).toNat = p + 1 := by omega
      have hp6 : (0 : Int) ≤ (p : Int) + 1 := by omega
      have hp5 : IntKind.i64.wrap ((p : Int) + 1) = (p : Int) + 1 := IntWalk.i64_in _ (by omega)
      have hx1 : (t.extract 0 p).size ≤ 30000 := by rw [ByteArray.size_extract]; omega
      have hx2 : (t.extract (p + 1) t.size).size ≤ 30000 := by rw [ByteArray.size_extract]; omega
      have a0 := fun (w : World) => run_string_add_sum (P := Tryz.prog) w (t.extract 0 p) (t.extract (p + 1) t.size) (by omega)
      go_upto_region 8 with fail
      refine wp_region_held_drew (S := fun _ => True) (by kernel_rfl) ?_ (fun _ => ?_)
      · trivial
      replace HS := Lib.hid (HS.out.below (Below.refl (W2).heap.size (W2)).drew)
      replace HG := Lib.hid (grown_below HG.out (Below.refl (W2).heap.size (W2)).drew)
      replace HW := Lib.hid (Nat.le_trans HW.out ((Below.refl (W2).heap.size (W2)).drew).size)
      refine wpAnyH_take (i := 0) (oi := { dst := some 35, op := _, type := _, pos := _, after := _, guard := _ }) (v := ?_) rfl (by kernel_rfl) (by kernel_rfl) (by kernel_rfl) (fun _ _ _ h => h) (Or.inl ⟨by kernel_rfl, ?_⟩) (trivial) ?_
      rotate_left
      · intro w hSw
        try dsimp only at hSw
        go_simp
        try with_reducible rfl
      try simp only [Act.put, List.setIfInBounds_toArray, List.set_cons_zero, List.set_cons_succ]
      refine wpAnyH_take (i := 1) (oi := { dst := some 36, op := _, type := _, pos := _, after := _, guard := _ }) (v := ?_) rfl (by kernel_rfl) (by kernel_rfl) (by kernel_rfl) (fun _ _ _ h => h) (Or.inl ⟨by kernel_rfl, ?_⟩) (trivial) ?_
      rotate_left
      · intro w hSw
        try dsimp only at hSw
        go_simp
        try with_reducible rfl
      try simp only [Act.put, List.setIfInBounds_toArray, List.set_cons_zero, List.set_cons_succ]
      refine wpAnyH_take (i := 2) (oi := { dst := some 37, op := _, type := _, pos := _, after := _, guard := _ }) (v := ?_) rfl (by kernel_rfl) (by kernel_rfl) (by kernel_rfl) (fun _ _ _ h => h) (Or.inl ⟨by kernel_rfl, ?_⟩) (trivial) ?_
      rotate_left
      · intro w hSw
        try dsimp only at hSw
        go_simp
        try with_reducible rfl
      try simp only [Act.put, List.setIfInBounds_toArray, List.set_cons_zero, List.set_cons_succ]
      refine wpAnyH_take (i := 3) (oi := { dst := some 38, op := _, type := _, pos := _, after := _, guard := _ }) (v := ?_) rfl (by kernel_rfl) (by kernel_rfl) (by kernel_rfl) (fun _ _ _ h => h) (Or.inl ⟨by kernel_rfl, ?_⟩) (trivial) ?_
      rotate_left
      · intro w hSw
        try dsimp only at hSw
        go_simp
        try with_reducible rfl
      try simp only [Act.put, List.setIfInBounds_toArray, List.set_cons_zero, List.set_cons_succ]
      refine wpAnyH_take (i := 4) (oi := { dst := some 39, op := _, type := _, pos := _, after := _, guard := _ }) (v := ?_) rfl (by kernel_rfl) (by kernel_rfl) (by kernel_rfl) (fun _ _ _ h => h) (Or.inl ⟨by kernel_rfl, ?_⟩) (trivial) ?_
      rotate_left
      · intro w hSw
        try dsimp only at hSw
        go_simp
        try with_reducible rfl
      try simp only [Act.put, List.setIfInBounds_toArray, List.set_cons_zero, List.set_cons_succ]
      refine wpAnyH_take (i := 5) (oi := { dst := some 40, op := _, type := _, pos := _, after := _, guard := _ }) (v := ?_) rfl (by kernel_rfl) (by kernel_rfl) (by kernel_rfl) (fun _ _ _ h => h) (Or.inl ⟨by kernel_rfl, ?_⟩) (trivial) ?_
      rotate_left
      · intro w hSw
        try dsimp only at hSw
        go_simp
        try with_reducible rfl
      try simp only [Act.put, List.setIfInBounds_toArray, List.set_cons_zero, List.set_cons_succ]
      refine wpAnyH_take (i := 6) (oi := { dst := some 41, op := _, type := _, pos := _, after := _, guard := _ }) (v := ?_) rfl (by kernel_rfl) (by kernel_rfl) (by kernel_rfl) (fun _ _ _ h => h) (Or.inl ⟨by kernel_rfl, ?_⟩) (trivial) ?_
      rotate_left
      · intro w hSw
        try dsimp only at hSw
        go_simp
        try with_reducible rfl
      try simp only [Act.put, List.setIfInBounds_toArray, List.set_cons_zero, List.set_cons_succ]
      refine wpAnyH_take (i := 7) (oi := { dst := some 42, op := _, type := _, pos := _, after := _, guard := _ }) (v := ?_) rfl (by kernel_rfl) (by kernel_rfl) (by kernel_rfl) (fun _ _ _ h => h) (Or.inl ⟨by kernel_rfl, ?_⟩) (trivial) ?_
      rotate_left
      · intro w hSw
        try dsimp only at hSw
        go_simp
        try with_reducible rfl
      try simp only [Act.put, List.setIfInBounds_toArray, List.set_cons_zero, List.set_cons_succ]
      refine wpAnyH_take (i := 8) (oi := { dst := some 1, op := _, type := _, pos := _, after := _, guard := _ }) (v := ?_) rfl (by kernel_rfl) (by kernel_rfl) (by kernel_rfl) (fun _ _ _ h => h) (Or.inl ⟨by kernel_rfl, ?_⟩) (trivial) ?_
      rotate_left
      · intro w hSw
        try dsimp only at hSw
        go_simp
        try with_reducible rfl
      try simp only [Act.put, List.setIfInBounds_toArray, List.set_cons_zero, List.set_cons_succ]
      refine wpAnyH_done (by kernel_rfl) ?_ _
      go_wp2_with fail
      go_returns
      exact ⟨_, rfl, by simp only [app_sizeS]; omega, HS.out.more (by omega), HG.out⟩
  go_wp2_with fail
  go_returns
  exact ⟨_, rfl, by omega, HS.out.more (by omega), HG.out⟩
end Go.Proofs.YtapnllbbdfoaaaaGreatDoor

namespace Go.Proofs.YtapnllbbdfoaaaaGreatDoor
open Go.RowKit

theorem own_addrN {w : World} {base e size n c : Nat} {A : Option Addr} {cs : List Value} (h : w.ownsRow base e size (.slice A n c) n cs) (hn : A ≠ none) : ∃ g, A = some ⟨g, 0, none⟩ := by
  rcases h.2 with ⟨hv, _⟩ | ⟨g, cap, cur, hv, _⟩
  · simp only [Value.slice.injEq] at hv
    exact absurd hv.1 hn
  · simp only [Value.slice.injEq] at hv
    exact ⟨g, hv.1⟩
theorem own_cap {w : World} {base e size n c : Nat} {A : Option Addr} {cs : List Value} (h : w.ownsRow base e size (.slice A n c) n cs) (hn : A ≠ none) : n ≤ c := by
  rcases h.2 with ⟨hv, _⟩ | ⟨g, cap, cur, hv, _, _, _, h7⟩
  · simp only [Value.slice.injEq] at hv
    exact absurd hv.1 hn
  · simp only [Value.slice.injEq] at hv
    rw [hv.2.2]
    omega
theorem drn_ord {x : Order} (h : Drn x) (h1 : 1 ≤ x.id) (h2 : x.id ≤ 9999) : ordB x = true := by
  obtain ⟨hn, ⟨a0, a1⟩, ⟨b0, b1⟩, ⟨c0, c1⟩, ⟨d0, d1⟩, e0, f0⟩ := h
  have hnm : nameB x.customer = true := by rcases hn with h | h | h <;> rw [h] <;> decide
  simp only [ordB, hnm, Bool.and_eq_true, Bool.or_eq_true, decide_eq_true_eq, inB_iff]
  refine ⟨⟨⟨⟨⟨⟨⟨⟨h1, h2⟩, trivial⟩, a0, a1⟩, b0, b1⟩, c0, c1⟩, d0, d1⟩, e0⟩, f0⟩
def OutBentM (g q : Nat) (w : World) (e : Ending) (w' : World) : Prop := ∃ (A : Option Addr) (xs : List Order) (n c : Nat), e = .returned (.slice A n c) ∧ xs.length = n ∧ n ≤ 31 ∧ (∀ x ∈ xs, x.customer.size ≤ 100) ∧ w'.ownsRow w.heap.size 26 6 (.slice A n c) n (flat Order.cells xs) ∧ A ≠ none ∧ Src w' g (q + 500) ∧ w.grownBy w' (some g)
theorem l25BentM_c (g q : Nat) (hq : q ≤ 500000000000) (w : World) (hS : Src w g q) : Calls Tryz.prog 32 #[.pointer (some ⟨g, 0, none⟩)] w (OutBentM g q w) := by
  refine (l25BentN_c g q hq w hS).mono ?_
  rintro e w' ⟨A, xs, n, c, h1, h2, h3, h4, h5, h6, h7, h8⟩
  exact ⟨A, xs, n, c, h1, h2, h3, h4, h5, h8, h6, h7⟩
def OutDrawM (g q : Nat) (w : World) (e : Ending) (w' : World) : Prop := ∃ (A : Option Addr) (xs : List Order) (n c : Nat), e = .returned (.slice A n c) ∧ xs.length = n ∧ n ≤ 7 ∧ (∀ x ∈ xs, x.customer.size ≤ 100) ∧ w'.ownsRow w.heap.size 26 6 (.slice A n c) n (flat Order.cells xs) ∧ A ≠ none ∧ Src w' g (q + 100) ∧ w.grownBy w' (some g)
theorem l25DrawM_c (g q : Nat) (hq : q ≤ 600000000000) (w : World) (hS : Src w g q) : Calls Tryz.prog 61 #[.pointer (some ⟨g, 0, none⟩)] w (OutDrawM g q w) := by
  refine (l25DrawN_c g q hq w hS).mono ?_
  rintro e w' ⟨A, xs, n, c, h1, h2, h3, h4, h5, h6, h7, h8⟩
  exact ⟨A, xs, n, c, h1, h2, h3, h4, h5, h8, h6, h7⟩
def OutTk (w : World) (e : Ending) (w' : World) : Prop := ∃ (A : Option Addr) (xs : List Order) (n c : Nat) (x : Order), e = .returned (.tuple #[.slice A n c, .agg #[Value.int IntKind.i64 x.id, Value.string x.customer, Value.int IntKind.i64 x.stage, Value.int IntKind.i64 x.due, Value.int IntKind.i64 x.left, Value.int IntKind.i64 x.fittings]]) ∧ xs.length = n ∧ n ≤ 31 ∧ (∀ x ∈ xs, x.customer.size ≤ 100) ∧ x.customer.size ≤ 100 ∧ w'.ownsRow w.heap.size 26 6 (.slice A n c) n (flat Order.cells xs) ∧ A ≠ none ∧ Below w.heap.size w w'
set_option maxRecDepth 100000 in
set_option maxHeartbeats 4000000 in
theorem DrawTakeOrder_c (C : Option Addr) (nn cc : Nat) (cs : List UInt8) (hnn : Hid (cs.length = nn)) (hnb : nn ≤ 1048576) (w : World) (hA : Arr w C (cs.map bvS)) (hlt : ∀ ad, C = some ad → ad.block < w.heap.size) : Calls Tryz.prog 5 #[.slice C nn cc] w (OutTk w) := by
  have HL0 := Lib.hid hlt
  have HA0 := Lib.hid hA
  clear hlt hA
  go_enter Tryz.func5, Tryz.ntmps5
  go_wp2_with fail
  obtain ⟨W0, hW0⟩ : ∃ z, z = w.alloc (Obj.cells #[Value.int IntKind.i64 0, Value.string ⟨#[]⟩, Value.int IntKind.i64 0, Value.int IntKind.i64 0, Value.int IntKind.i64 0, Value.int IntKind.i64 0] 26) := ⟨_, rfl⟩
  obtain ⟨gz, hgz⟩ : ∃ z, z = w.heap.size := ⟨_, rfl⟩
  have HZ0 : Hid (Blk W0 gz 26 #[Value.int IntKind.i64 0, Value.string ⟨#[]⟩, Value.int IntKind.i64 0, Value.int IntKind.i64 0, Value.int IntKind.i64 0, Value.int IntKind.i64 0]) := Lib.hid (by rw [hW0, hgz]; exact Blk.new _ _ _)
  have hb0 : Below w.heap.size w W0 := by rw [hW0]; exact bl_alloc (Below.refl _ _) _
  have hgz1 : gz < W0.heap.size := HZ0.out.lt
  have hgz0 : w.heap.size ≤ gz := by omega
  rw [← hW0, ← hgz]
  clear hW0 hgz
  refine (l00From_c C nn cc cs hnn hnb W0 (HA0.out.below hb0) (fun ad e => Nat.lt_of_lt_of_le (HL0.out ad e) hb0.size)).mono ?_
  rintro e W1 ⟨rfl, hS1, hb1⟩
  obtain ⟨g, hg⟩ : ∃ z, z = W0.heap.size := ⟨_, rfl⟩
  rw [← hg] at hS1 ⊢
  have HS := Lib.hid hS1
  have hgW1 := hS1.lt
  have HG := Lib.hid (grown_of_below hb1 (some g))
  have HW := Lib.hid hb1.size
  have HB0 := Lib.hid hb0
  have hgw : w.heap.size ≤ g := by omega
  have hgg : gz < g := by omega
  have hg0 : W0.heap.size ≤ g := by omega
  clear hS1 hb1 HA0 HL0 hb0 hg
  go_wp2_with fail
  refine (l25BentM_c g _ (by omega) _ HS.out).mono ?_
  rintro e W2 ⟨A, xs, n, c, rfl, hxl, hn5, hxs, hown, hne, hS, hg⟩
  replace HS := Lib.hid hS
  replace HG := Lib.hid (grown_trans HG.out hg)
  replace HW := Lib.hid (Nat.le_trans HW.out hg.size)
  clear hS hg
  have HXL := Lib.hid hxl
  have HXS := Lib.hid hxs
  have HNE := Lib.hid hne
  have HO := Lib.hid hown
  clear hxl hxs hown hne
  go_wp2_with fail
  refine (pick_c g _ 20 (by omega) (by omega) _ HS.out).mono ?_
  rintro e W3 ⟨r, rfl, r0, r1, hS, hg⟩
  replace HS := Lib.hid hS
  replace HG := Lib.hid (grown_trans HG.out hg)
  replace HO := Lib.hid (HO.out.kept hg (.inr (fun e => by have := own_at HO.out g e; omega)))
  replace HW := Lib.hid (Nat.le_trans HW.out hg.size)
  clear hS hg
  go_upto_if 17 with fail
  go_cut [6] (fun v wx => ∃ id : Int, v = .int .i64 id ∧ Hid (Src wx g 502) ∧ Hid (W0.grownBy wx (some g)) ∧ Hid (W0.heap.size ≤ wx.heap.size) ∧ Hid (wx.ownsRow W1.heap.size 26 6 (.slice A n c) n (flat Order.cells xs)))
  case first =>
    have HS2 := Lib.hid (HS.out.more (q' := 502) (by omega))
    by_cases h30 : n < 30
    · have h31 : ¬ (30 : Int) ≤ (n : Int) := by omega
      have h32 : ¬ 30 ≤ n := by omega
      go_wp2_with fail
      go_meet
      exact ⟨_, rfl, HS2, HG, HW, HO⟩
    · have h31 : (30 : Int) ≤ (n : Int) := by omega
      have h32 : 30 ≤ n := by omega
      go_wp2_with fail
      go_meet
      exact ⟨_, rfl, HS2, HG, HW, HO⟩
  case rest =>
  clear HS HG HW HO
  obtain ⟨id, rfl, HS, HG, HW, HO⟩ := hcut
  rename World => V
  clear r0 r1
  go_wp2_with fail
  refine (l25New_c g _ id (by omega) _ HS.out).mono ?_
  rintro e W4 ⟨x, rfl, hxn, hxi, hS, hg⟩
  replace HS := Lib.hid hS
  replace HG := Lib.hid (grown_trans HG.out hg)
  replace HO := Lib.hid (HO.out.kept hg (.inr (fun e => by have := own_at HO.out g e; omega)))
  replace HW := Lib.hid (Nat.le_trans HW.out hg.size)
  clear hS hg
  clear hxi
  unfold Order.val
  have HGA := HG
  have hzA := HW.out
  have hg4 : g < W4.heap.size := HS.out.lt
  replace HG := Lib.hid (World.grownBy.refl W4 (some g))
  replace HW := Lib.hid (Nat.le_refl W4.heap.size)
  go_wp2_with fail
  have HOA := HO
  obtain ⟨W5, hWW5⟩ : ∃ z, z = World.alloc W4 (Obj.cells #[Value.int IntKind.i64 x.id, Value.string x.customer, Value.int IntKind.i64 x.stage, Value.int IntKind.i64 x.due, Value.int IntKind.i64 x.left, Value.int IntKind.i64 x.fittings] 26) := ⟨_, rfl⟩
  obtain ⟨gx, hggx⟩ : ∃ z, z = (W4).heap.size := ⟨_, rfl⟩
  have HX : Hid (Blk W5 gx 26 #[Value.int IntKind.i64 x.id, Value.string x.customer, Value.int IntKind.i64 x.stage, Value.int IntKind.i64 x.due, Value.int IntKind.i64 x.left, Value.int IntKind.i64 x.fittings]) := Lib.hid (by rw [hWW5, hggx]; exact Blk.new _ _ _)
  have hb : Below (W4).heap.size W4 W5 := by rw [hWW5]; exact bl_alloc (Below.refl (W4).heap.size (W4)) _
  have hgx0 : W4.heap.size ≤ gx := by rw [hggx]; exact HW.out
  have hgx1 : g < gx := by have h : g < (W4).heap.size := HS.out.lt; omega
  replace HS := Lib.hid (HS.out.below hb)
  replace HG := Lib.hid (grown_below HG.out hb)
  replace HO := Lib.hid (own_below HO.out hb)
  replace HW := Lib.hid (Nat.le_trans HW.out (hb).size)
  have hn_W5 : gx + 1 = W5.heap.size := by rw [hWW5, hggx]; exact (World.size_alloc _ _).symm
  rw [← hWW5, ← hggx]
  clear hWW5 hggx hb
  clear hn_W5
  refine (one_c g _ 8 (by omega) (by omega) _ HS.out).mono ?_
  rintro e W6 ⟨b, rfl, hS, hg⟩
  replace HS := Lib.hid hS
  replace HG := Lib.hid (grown_trans HG.out hg)
  replace HO := Lib.hid (HO.out.kept hg (.inr (fun e => by have := own_at HO.out g e; omega)))
  replace HX := Lib.hid (HX.out.grown hg (by intro e; injection e; omega))
  replace HW := Lib.hid (Nat.le_trans HW.out hg.size)
  clear hS hg
  go_upto_if 22 with fail
  go_cut [] (fun wx => ∃ y : Order, y.customer.size ≤ 100 ∧ Hid (Blk wx gx 26 #[Value.int IntKind.i64 y.id, Value.string y.customer, Value.int IntKind.i64 y.stage, Value.int IntKind.i64 y.due, Value.int IntKind.i64 y.left, Value.int IntKind.i64 y.fittings]) ∧ Hid (W4.grownBy wx (some g)) ∧ Hid (wx.ownsRow W1.heap.size 26 6 (.slice A n c) n (flat Order.cells xs)))
  case first =>
    cases b
    · go_wp2_with fail
      go_meet
      exact ⟨x, hxn, HX, HG, HO⟩
    · go_wp2_with fail
      refine (l25SpoilBox_c g _ gx x (by omega) W4 _ HS.out HX.out hxn (by omega) (by omega) HG.out).mono ?_
      rintro e W7 ⟨y, rfl, hy, hB, _, hG⟩
      have HO7 := Lib.hid (HOA.out.kept hG (.inr (fun e => by have := own_at HOA.out g e; omega)))
      go_wp2_with fail
      go_meet
      exact ⟨y, hy, Lib.hid hB, Lib.hid hG, HO7⟩
  case rest =>
  clear HX HG HS HW HO
  obtain ⟨y, hy, HX, HG, HO⟩ := hcut
  rename World => V2
  have HW := Lib.hid (Nat.le_trans hzA HG.out.size)
  replace HG := Lib.hid (grown_trans HGA.out HG.out)
  have HZ := Lib.hid (HZ0.out.grown HG.out (by intro e; injection e; omega))
  clear HOA HGA
  go_wp2_with fail
  refine wp_region_held_drew (S := fun _ => True) (by kernel_rfl) ?_ (fun _ => ?_)
  · trivial
  replace HG := Lib.hid (grown_below HG.out (Below.refl (V2).heap.size (V2)).drew)
  replace HO := Lib.hid (own_below HO.out (Below.refl (V2).heap.size (V2)).drew)
  replace HZ := Lib.hid (HZ.out.below (Below.refl (V2).heap.size (V2)).drew)
  replace HX := Lib.hid (HX.out.below (Below.refl (V2).heap.size (V2)).drew)
  replace HW := Lib.hid (Nat.le_trans HW.out ((Below.refl (V2).heap.size (V2)).drew).size)
  refine wpAnyH_take (i := 0) (oi := { dst := some 25, op := _, type := _, pos := _, after := _, guard := _ }) (v := ?_) rfl (by kernel_rfl) (by kernel_rfl) (by kernel_rfl) (fun _ _ _ h => h) (Or.inl ⟨by kernel_rfl, ?_⟩) (trivial) ?_
  rotate_left
  · intro w hSw
    try dsimp only at hSw
    go_simp
    try with_reducible rfl
  try simp only [Act.put, List.setIfInBounds_toArray, List.set_cons_zero, List.set_cons_succ]
  refine wpAnyH_take (i := 2) (oi := { dst := some 2, op := _, type := _, pos := _, after := _, guard := _ }) (v := ?_) rfl (by kernel_rfl) (by kernel_rfl) (by kernel_rfl) (fun _ _ _ h => h) (Or.inl ⟨by kernel_rfl, ?_⟩) (trivial) ?_
  rotate_left
  · intro w hSw
    try dsimp only at hSw
    go_simp
    try with_reducible rfl
  try simp only [Act.put, List.setIfInBounds_toArray, List.set_cons_zero, List.set_cons_succ]
  refine wpAnyH_ready (rs := [1]) (by kernel_rfl) (by simp) ?_
  refine (AllReadyH.cons (o := { dst := some 26, op := _, type := _, pos := _, after := _, guard := _ }) rfl (fun K hK => ?_) AllReadyH.nil)
  refine wp_load_row 26 _ rfl gx rfl 26 #[Value.int IntKind.i64 y.id, Value.string y.customer, Value.int IntKind.i64 y.stage, Value.int IntKind.i64 y.due, Value.int IntKind.i64 y.left, Value.int IntKind.i64 y.fittings] (0, 0) _ HX.out Tryz.underlying26 rfl (by kernel_rfl) ?_
  refine hK.out _ _ (trivial) (fun _ => ?_)
  clear hK K
  try simp only [Act.put, List.setIfInBounds_toArray, List.set_cons_zero, List.set_cons_succ]
  refine wpAnyH_ready (rs := [3]) (by kernel_rfl) (by simp) ?_
  refine (AllReadyH.cons (o := { dst := none, op := _, type := _, pos := _, after := _, guard := _ }) rfl (fun K hK => ?_) AllReadyH.nil)
  refine wp_store_row 26 _ _ rfl gz #[Value.int IntKind.i64 y.id, Value.string y.customer, Value.int IntKind.i64 y.stage, Value.int IntKind.i64 y.due, Value.int IntKind.i64 y.left, Value.int IntKind.i64 y.fittings] rfl rfl 26 #[Value.int IntKind.i64 0, Value.string ⟨#[]⟩, Value.int IntKind.i64 0, Value.int IntKind.i64 0, Value.int IntKind.i64 0, Value.int IntKind.i64 0] HZ.out (by kernel_rfl) rfl (by simp [Value.oneCell']) ?_
  refine hK.out _ _ (trivial) (fun _ => ?_)
  clear hK K
  try simp only [Act.put]
  refine wpAnyH_done (by kernel_rfl) ?_ _
  have hr := grown_row (cs := #[Value.int IntKind.i64 y.id, Value.string y.customer, Value.int IntKind.i64 y.stage, Value.int IntKind.i64 y.due, Value.int IntKind.i64 y.left, Value.int IntKind.i64 y.fittings]) HZ.out
  have HF : Blk (World.setRow (V2).drew gz #[Value.int IntKind.i64 y.id, Value.string y.customer, Value.int IntKind.i64 y.stage, Value.int IntKind.i64 y.due, Value.int IntKind.i64 y.left, Value.int IntKind.i64 y.fittings]) gz 26 #[Value.int IntKind.i64 y.id, Value.string y.customer, Value.int IntKind.i64 y.stage, Value.int IntKind.i64 y.due, Value.int IntKind.i64 y.left, Value.int IntKind.i64 y.fittings] := setRow_heap _ _ _ _ _ _ HZ.out
  have HOF := HO.out.kept hr (.inr (fun e => by have := own_at HO.out gz e; omega))
  have hbF := bl_grown (bl_grown HB0.out HG.out (fun k e => by injection e with e; omega)) hr (fun k e => by injection e with e; omega)

  obtain ⟨WF, hWF⟩ : ∃ z, z = World.setRow (V2).drew gz #[Value.int IntKind.i64 y.id, Value.string y.customer, Value.int IntKind.i64 y.stage, Value.int IntKind.i64 y.due, Value.int IntKind.i64 y.left, Value.int IntKind.i64 y.fittings] := ⟨_, rfl⟩
  rw [← hWF] at HF HOF hbF ⊢
  clear hWF hr
  have m0 : WF.cell? ⟨gz, 0, none⟩ = some (Value.int IntKind.i64 y.id) := HF.cell 0
  have m1 : WF.cell? ⟨gz, 1, none⟩ = some (Value.string y.customer) := HF.cell 1
  have m2 : WF.cell? ⟨gz, 2, none⟩ = some (Value.int IntKind.i64 y.stage) := HF.cell 2
  have m3 : WF.cell? ⟨gz, 3, none⟩ = some (Value.int IntKind.i64 y.due) := HF.cell 3
  have m4 : WF.cell? ⟨gz, 4, none⟩ = some (Value.int IntKind.i64 y.left) := HF.cell 4
  have m5 : WF.cell? ⟨gz, 5, none⟩ = some (Value.int IntKind.i64 y.fittings) := HF.cell 5
  go_wp2_with fail
  try simp only [Exit.inBlock, Exit.then]
  refine bodyPost_ret (v := .tuple #[.slice A n c, .agg #[Value.int IntKind.i64 y.id, Value.string y.customer, Value.int IntKind.i64 y.stage, Value.int IntKind.i64 y.due, Value.int IntKind.i64 y.left, Value.int IntKind.i64 y.fittings]]) (by simp [results, Tryz.results5, go_sem, m0, m1, m2, m3, m4, m5]) rfl ?_
  exact ⟨A, xs, n, c, y, rfl, HXL.out, hn5, HXS.out, hy, own_base HOF (by omega), HNE.out, hbF⟩
end Go.Proofs.YtapnllbbdfoaaaaGreatDoor

namespace Go.Proofs.YtapnllbbdfoaaaaGreatDoor
open Go.RowKit

theorem textO_size {x : Order} (h : ordB x = true) : (textO x).size ≤ 30000 := by
  have sn := ordB_name h
  obtain ⟨⟨i0, i1⟩, ⟨g0, g1⟩, ⟨d0, d1⟩, ⟨l0, l1⟩, ⟨f0, f1⟩⟩ := ordB_all h
  have s1 := decI_size x.id
  have s2 := decI_size x.due
  have s3 := decI_size x.left
  have s4 := decI_size x.fittings
  have s5 := wordAt_size x.stage
  have z1 : (⟨#[35]⟩ : ByteArray).size = 1 := rfl
  have z2 : (⟨#[32]⟩ : ByteArray).size = 1 := rfl
  have z3 : (⟨#[32, 100, 117, 101, 32]⟩ : ByteArray).size = 5 := rfl
  have z4 : (⟨#[32, 108, 101, 102, 116, 32]⟩ : ByteArray).size = 6 := rfl
  have z5 : (⟨#[32, 102, 105, 116, 116, 105, 110, 103, 115, 32]⟩ : ByteArray).size = 10 := rfl
  simp only [textO, ByteArray.size_append', z1, z2, z3, z4, z5]
  omega
def OutTx3 (w : World) (e : Ending) (w' : World) : Prop := ∃ s : ByteArray, e = .returned (.string s) ∧ s.size ≤ 100000 ∧ Below w.heap.size w w'
set_option maxRecDepth 100000 in
set_option maxHeartbeats 4000000 in
theorem DrawReadOrder_c (C : Option Addr) (nn cc : Nat) (cs : List UInt8) (hnn : Hid (cs.length = nn)) (hnb : nn ≤ 1048576) (w : World) (hA : Arr w C (cs.map bvS)) (hlt : ∀ ad, C = some ad → ad.block < w.heap.size) : Calls Tryz.prog 20 #[.slice C nn cc] w (OutTx3 w) := by
  have HL0 := Lib.hid hlt
  have HA0 := Lib.hid hA
  clear hlt hA
  go_enter Tryz.func20, Tryz.ntmps20
  go_wp2_with fail
  refine (l00From_c C nn cc cs hnn hnb w HA0.out HL0.out).mono ?_
  rintro e W1 ⟨rfl, hS1, hb1⟩
  obtain ⟨g, hg⟩ : ∃ z, z = w.heap.size := ⟨_, rfl⟩
  rw [← hg] at hS1 ⊢
  have HS := Lib.hid hS1
  have hgW1 := hS1.lt
  have HG := Lib.hid (grown_of_below hb1 (some g))
  have HW := Lib.hid hb1.size
  have hgw : w.heap.size ≤ g := by omega
  clear hS1 hb1 HA0 HL0 hg
  go_wp2_with fail

  refine (l25NewD_c g _ 12 (by omega) _ HS.out).mono ?_
  rintro e W2 ⟨x, rfl, hxn, hxi, hxd, hS, hg⟩
  replace HS := Lib.hid hS
  replace HG := Lib.hid (grown_trans HG.out hg)
  replace HW := Lib.hid (Nat.le_trans HW.out hg.size)
  clear hS hg
  have hox : ordB x = true := drn_ord hxd (by rw [hxi]; omega) (by rw [hxi]; omega)
  have HOX := Lib.hid hox
  have htz := textO_size hox
  clear hxi hxd hxn hox
  unfold Order.val
  go_wp2_with fail
  obtain ⟨W3, hWW3⟩ : ∃ z, z = World.alloc W2 (Obj.cells #[Value.int IntKind.i64 x.id, Value.string x.customer, Value.int IntKind.i64 x.stage, Value.int IntKind.i64 x.due, Value.int IntKind.i64 x.left, Value.int IntKind.i64 x.fittings] 26) := ⟨_, rfl⟩
  obtain ⟨gx, hggx⟩ : ∃ z, z = (W2).heap.size := ⟨_, rfl⟩
  have HX : Hid (Blk W3 gx 26 #[Value.int IntKind.i64 x.id, Value.string x.customer, Value.int IntKind.i64 x.stage, Value.int IntKind.i64 x.due, Value.int IntKind.i64 x.left, Value.int IntKind.i64 x.fittings]) := Lib.hid (by rw [hWW3, hggx]; exact Blk.new _ _ _)
  have hb : Below (W2).heap.size W2 W3 := by rw [hWW3]; exact bl_alloc (Below.refl (W2).heap.size (W2)) _
  have hgx0 : w.heap.size ≤ gx := by rw [hggx]; exact HW.out
  have hgx1 : g < gx := by have h : g < (W2).heap.size := HS.out.lt; omega
  replace HS := Lib.hid (HS.out.below hb)
  replace HG := Lib.hid (grown_below HG.out hb)
  replace HW := Lib.hid (Nat.le_trans HW.out (hb).size)
  have hn_W3 : gx + 1 = W3.heap.size := by rw [hWW3, hggx]; exact (World.size_alloc _ _).symm
  rw [← hWW3, ← hggx]
  clear hWW3 hggx hb
  clear hn_W3
  refine (l25Text_c ⟨gx, 0, none⟩ x HOX.out _ (HX.out.cell 0) (HX.out.cell 1) (HX.out.cell 2) (HX.out.cell 3) (HX.out.cell 4) (HX.out.cell 5)).mono ?_
  rintro e W4 ⟨rfl, hb⟩
  clear HX
  replace HS := Lib.hid (HS.out.below hb)
  replace HG := Lib.hid (grown_below HG.out hb)
  replace HW := Lib.hid (Nat.le_trans HW.out (hb).size)
  clear hb
  obtain ⟨t, ht⟩ : ∃ z, z = textO x := ⟨_, rfl⟩
  rw [← ht] at htz ⊢
  clear ht
  go_wp2_with fail
  refine (one_c g _ 3 (by omega) (by omega) _ HS.out).mono ?_
  rintro e W5 ⟨b, rfl, hS, hg⟩
  replace HS := Lib.hid hS
  replace HG := Lib.hid (grown_trans HG.out hg)
  replace HW := Lib.hid (Nat.le_trans HW.out hg.size)
  clear hS hg
  cases b
  · go_wp2_with fail
    go_returns
    exact ⟨t, rfl, by omega, bl_grown (Below.refl _ _) HG.out (fun k e => by injection e with e; omega)⟩
  · go_wp2_with fail
    refine (l01Spoil_c g _ t htz (by omega) _ HS.out).mono ?_
    rintro e W6 ⟨s, rfl, hs, _, hg⟩
    go_wp2_with fail
    go_returns
    exact ⟨s, rfl, hs, bl_grown (Below.refl _ _) (grown_trans HG.out hg) (fun k e => by injection e with e; omega)⟩
end Go.Proofs.YtapnllbbdfoaaaaGreatDoor

namespace Go.Proofs.YtapnllbbdfoaaaaGreatDoor
open Go.RowKit

theorem due_at {w : World} {base gb n c : Nat} {xs : List Order} {x : Order} (h : w.ownsRow base 26 6 (.slice (some ⟨gb, 0, none⟩) n c) n (flat Order.cells xs)) (hx : xs[0]? = some x) : w.cell? ⟨gb, 3, none⟩ = some (.int .i64 x.due) := by
  obtain ⟨ad, had, _, _, _, _, c3, _, _⟩ := Order.at_ (Arr.own h) hx
  injection had with had
  subst had
  exact c3
def OutSm (w : World) (e : Ending) (w' : World) : Prop := ∃ (A B : Option Addr) (xs ys : List Order) (n c m d : Nat), e = .returned (.tuple #[.slice A n c, .slice B m d]) ∧ xs.length = n ∧ ys.length = m ∧ n ≤ 31 ∧ m ≤ 31 ∧ (∀ x ∈ xs, x.customer.size ≤ 100) ∧ (∀ x ∈ ys, x.customer.size ≤ 100) ∧ w'.ownsRow w.heap.size 26 6 (.slice A n c) n (flat Order.cells xs) ∧ w'.ownsRow w.heap.size 26 6 (.slice B m d) m (flat Order.cells ys) ∧ Below w.heap.size w w'
set_option maxRecDepth 100000 in
set_option maxHeartbeats 4000000 in
theorem DrawSameOrders_c (C : Option Addr) (nn cc : Nat) (cs : List UInt8) (hnn : Hid (cs.length = nn)) (hnb : nn ≤ 1048576) (w : World) (hA : Arr w C (cs.map bvS)) (hlt : ∀ ad, C = some ad → ad.block < w.heap.size) : Calls Tryz.prog 22 #[.slice C nn cc] w (OutSm w) := by
  have HL0 := Lib.hid hlt
  have HA0 := Lib.hid hA
  clear hlt hA
  obtain ⟨i0, hi0, hz0, hz1, hz2⟩ := info_parts (P := Tryz.prog) (e := 26) (z := .agg #[.int .i64 0, .string ByteArray.empty, .int .i64 0, .int .i64 0, .int .i64 0, .int .i64 0]) (size := 6) (bytes := 56) info_OrderD
  go_enter Tryz.func22, Tryz.ntmps22
  go_wp2_with fail
  refine (l00From_c C nn cc cs hnn hnb w HA0.out HL0.out).mono ?_
  rintro e W1 ⟨rfl, hS1, hb1⟩
  obtain ⟨g, hg⟩ : ∃ z, z = w.heap.size := ⟨_, rfl⟩
  rw [← hg] at hS1 ⊢
  have HS := Lib.hid hS1
  have hgW1 := hS1.lt
  have HG := Lib.hid (grown_of_below hb1 (some g))
  have HW := Lib.hid hb1.size
  have hgw : w.heap.size ≤ g := by omega
  clear hS1 hb1 HA0 HL0 hg
  go_wp2_with fail

  refine (l25DrawM_c g _ (by omega) _ HS.out).mono ?_
  rintro e W2 ⟨A, xs, n, c, rfl, hxl, hn5, hxs, hown, hne, hS, hg⟩
  replace HS := Lib.hid hS
  replace HG := Lib.hid (grown_trans HG.out hg)
  replace HW := Lib.hid (Nat.le_trans HW.out hg.size)
  clear hS hg
  obtain ⟨ga, rfl⟩ := own_addrN hown hne
  have HXL := Lib.hid hxl
  have HXS := Lib.hid hxs
  have hga := own_at hown ga rfl
  have hgaW := own_lt hown ga rfl
  have hgW2 : g < W2.heap.size := HS.out.lt
  have HO := Lib.hid hown
  have hlen := Lib.hid (show (flat Order.cells xs).length = n * 6 by rw [flat_length Order.cells_length, hxl])
  have HAR := Lib.hid (Arr.own hown)
  have hw2 := HW.out
  clear hxl hxs hown hne
  go_upto_region 4 with (at_builtin; refine app_many _ rfl _ _ 24 26 rfl i0 _ 6 56 Tryz.underlying24 hi0 hz0 hz1 hz2 rfl (by omega) W2.heap.size (.slice (some ⟨W2.heap.size, 0, none⟩) 0 0) 0 [] rfl (own_empty W2 W2.heap.size _ _ (Nat.le_refl _)) ⟨ga, 0, none⟩ n c (flat Order.cells xs) rfl (HAR.out.below (bl_alloc (Below.refl _ _) _)) hlen.out (order_ones _) (by unfold maxLen; omega) (by omega) (by rw [World.size_alloc]; omega) ?_; intro B c2 W3 hown2 hg2; simp only [Nat.zero_add, List.nil_append] at hown2)
  have hg3 := grown_trans (grown_alloc (World.grownBy.refl W2 ((Value.slice (some ⟨W2.heap.size, 0, none⟩) 0 0).ownBlock)) (.cells #[] 26)) hg2
  clear hg2
  replace HS := Lib.hid (HS.out.over hg3 (fun i e => by have e2 : W2.heap.size = i := (by simpa [Value.ownBlock] using e); omega))
  replace HG := Lib.hid (grown_over HG.out hg3 (fun i e => by have e2 : W2.heap.size = i := (by simpa [Value.ownBlock] using e); omega))
  replace HO := Lib.hid (HO.out.kept hg3 (.inr (fun e => by have e2 : ga = W2.heap.size := (by simpa [Value.ownBlock] using e); omega)))
  have hw3 := hg3.size
  obtain ⟨b0, hb0⟩ : ∃ z, z = W2.heap.size := ⟨_, rfl⟩
  rw [← hb0] at hown2 hgW2 hgaW hw2 hw3
  replace HW := Lib.hid hw3
  have HB := Lib.hid hown2
  clear hown2 hg3 hb0 HAR hlen hw3
  go_cut [20] (fun s wx => ∃ b : Bool, s = .bool b ∧ (b = true → 0 < n) ∧ Hid (Src wx g 102) ∧ Hid (w.grownBy wx (some g)) ∧ Hid (b0 ≤ wx.heap.size) ∧ Hid (wx.ownsRow W1.heap.size 26 6 (.slice (some ⟨ga, 0, none⟩) n c) n (flat Order.cells xs)) ∧ Hid (wx.ownsRow b0 26 6 (.slice B n c2) n (flat Order.cells xs)))
  case first =>
    by_cases hn0 : 0 < n
    case neg =>
      have hn1 : ¬ (0 : Int) < (n : Int) := by omega
      have hn2 : decide ((0 : Int) < (n : Int)) = false := decide_eq_false hn1
      go_wp2_with fail
      go_meet
      exact ⟨false, rfl, by simp, Lib.hid (HS.out.more (by omega)), HG, HW, HO, HB⟩
    case pos =>
    have hn1 : (0 : Int) < (n : Int) := by omega
    have hn2 : decide ((0 : Int) < (n : Int)) = true := decide_eq_true hn1
    go_wp2_with fail
    refine (one_c g _ 2 (by omega) (by omega) _ HS.out).mono ?_
    rintro e W4 ⟨b, rfl, hS, hg⟩
    replace HS := Lib.hid hS
    replace HG := Lib.hid (grown_trans HG.out hg)
    replace HO := Lib.hid (HO.out.kept hg (.inr (fun e => by have := own_at HO.out g e; omega)))
    replace HB := Lib.hid (HB.out.kept hg (.inr (fun e => by have := own_at HB.out g e; omega)))
    replace HW := Lib.hid (Nat.le_trans HW.out hg.size)
    clear hS hg
    go_wp2_with fail
    go_meet
    exact ⟨b, rfl, fun _ => by omega, Lib.hid (HS.out.more (by omega)), HG, HW, HO, HB⟩
  case rest =>
  clear HS HG HW HO HB
  obtain ⟨b, rfl, hbn, HS, HG, HW, HO, HB⟩ := hcut
  rename World => V
  go_upto_if 20 with fail
  go_cut [] (fun wx => ∃ ys : List Order, Hid (ys.length = n) ∧ Hid (∀ x ∈ ys, x.customer.size ≤ 100) ∧ Hid (Src wx g 104) ∧ Hid (w.grownBy wx (some g)) ∧ Hid (b0 ≤ wx.heap.size) ∧ Hid (wx.ownsRow W1.heap.size 26 6 (.slice (some ⟨ga, 0, none⟩) n c) n (flat Order.cells xs)) ∧ Hid (wx.ownsRow b0 26 6 (.slice B n c2) n (flat Order.cells ys)))
  case first =>
    cases b
    case false =>
      go_wp2_with fail
      go_meet
      exact ⟨xs, HXL, HXS, Lib.hid (HS.out.more (by omega)), HG, HW, HO, HB⟩
    case true =>
    have hn0 := hbn rfl
    obtain ⟨gb, rfl⟩ := own_addr HB.out hn0
    obtain ⟨x, hx⟩ := get_of_lt (xs := xs) (k := 0) (by rw [HXL.out]; exact hn0)
    have HX := Lib.hid hx
    have hgb := own_at HB.out gb rfl
    have hxn := HXS.out x (List.mem_of_getElem? hx)
    have hn1 : (0 : Int) < (n : Int) := by omega
    obtain ⟨ad, had, _, c0, c1, c2', c3, c4, c5⟩ := Order.at_ (Arr.own HB.out) hx
    injection had with had
    subst had
    have c3' : V.cell? ⟨gb, 3, none⟩ = some (.int .i64 x.due) := c3
    have CD := Lib.hid c3'
    clear c0 c1 c2' c3 c4 c5 c3' hx hbn
    go_upto_region 5 with fail
    refine wp_region_held_drew (S := fun _ => True) (by kernel_rfl) ?_ (fun _ => ?_)
    · trivial
    replace HS := Lib.hid (HS.out.below (Below.refl (V).heap.size (V)).drew)
    replace HG := Lib.hid (grown_below HG.out (Below.refl (V).heap.size (V)).drew)
    replace HO := Lib.hid (own_below HO.out (Below.refl (V).heap.size (V)).drew)
    replace HB := Lib.hid (own_below HB.out (Below.refl (V).heap.size (V)).drew)
    replace HW := Lib.hid (Nat.le_trans HW.out ((Below.refl (V).heap.size (V)).drew).size)
    refine wpAnyH_take (i := 0) (oi := { dst := some 21, op := _, type := _, pos := _, after := _, guard := _ }) (v := ?_) rfl (by kernel_rfl) (by kernel_rfl) (by kernel_rfl) (fun _ _ _ h => h) (Or.inl ⟨by kernel_rfl, ?_⟩) (trivial) ?_
    rotate_left
    · intro w hSw
      try dsimp only at hSw
      go_simp
      try with_reducible rfl
    try simp only [Act.put, List.setIfInBounds_toArray, List.set_cons_zero, List.set_cons_succ]
    refine wpAnyH_take (i := 1) (oi := { dst := some 22, op := _, type := _, pos := _, after := _, guard := _ }) (v := ?_) rfl (by kernel_rfl) (by kernel_rfl) (by kernel_rfl) (fun _ _ _ h => h) (Or.inl ⟨by kernel_rfl, ?_⟩) (trivial) ?_
    rotate_left
    · intro w hSw
      try dsimp only at hSw
      go_simp
      try with_reducible rfl
    try simp only [Act.put, List.setIfInBounds_toArray, List.set_cons_zero, List.set_cons_succ]
    refine wpAnyH_take (i := 2) (oi := { dst := some 23, op := _, type := _, pos := _, after := _, guard := _ }) (v := ?_) rfl (by kernel_rfl) (by kernel_rfl) (by kernel_rfl) (fun _ _ _ h => h) (Or.inl ⟨by kernel_rfl, ?_⟩) (trivial) ?_
    rotate_left
    · intro w hSw
      try dsimp only at hSw
      go_simp
      try with_reducible rfl
    try simp only [Act.put, List.setIfInBounds_toArray, List.set_cons_zero, List.set_cons_succ]
    refine wpAnyH_take (i := 4) (oi := { dst := some 25, op := _, type := _, pos := _, after := _, guard := _ }) (v := ?_) rfl (by kernel_rfl) (by kernel_rfl) (by kernel_rfl) (fun _ _ _ h => h) (Or.inl ⟨by kernel_rfl, ?_⟩) (trivial) ?_
    rotate_left
    · intro w hSw
      try dsimp only at hSw
      go_simp
      try with_reducible rfl
    try simp only [Act.put, List.setIfInBounds_toArray, List.set_cons_zero, List.set_cons_succ]
    refine wpAnyH_ready (rs := [3, 5]) (by kernel_rfl) (by simp) ?_
    refine (AllReadyH.cons (o := { dst := some 24, op := _, type := _, pos := _, after := _, guard := _ }) rfl (fun K hK => ?_) (AllReadyH.cons (o := { dst := some 26, op := _, type := _, pos := _, after := _, guard := _ }) rfl (fun K hK => ?_) AllReadyH.nil))
    · skip
      have k3 : World.cell? ((V).drew) ⟨gb, 3, none⟩ = some (.int .i64 x.due) := due_at HB.out HX.out
      go_simp
      clear k3
      refine hK.out _ _ (trivial) (fun _ => ?_)
      clear hK K
      try simp only [Act.put, List.setIfInBounds_toArray, List.set_cons_zero, List.set_cons_succ]
      refine wpAnyH_ready (rs := [5]) (by kernel_rfl) (by simp) ?_
      refine (AllReadyH.cons (o := { dst := some 26, op := _, type := _, pos := _, after := _, guard := _ }) rfl (fun K hK => ?_) AllReadyH.nil)
      go_simp
      refine (pick_c g _ 2 (by omega) (by omega) _ HS.out).mono ?_
      rintro e W5 ⟨p, rfl, p0, p1, hS, hg⟩
      replace HS := Lib.hid hS
      replace HG := Lib.hid (grown_trans HG.out hg)
      replace HO := Lib.hid (HO.out.kept hg (.inr (fun e => by have := own_at HO.out g e; omega)))
      replace HB := Lib.hid (HB.out.kept hg (.inr (fun e => by have := own_at HB.out g e; omega)))
      replace HW := Lib.hid (Nat.le_trans HW.out hg.size)
      clear hS hg
      go_wp2_with fail

      refine hK.out _ _ (trivial) (fun _ => ?_)
      clear hK K
      try simp only [Act.put, List.setIfInBounds_toArray, List.set_cons_zero, List.set_cons_succ]
      refine wpAnyH_take (i := 6) (oi := { dst := some 27, op := _, type := _, pos := _, after := _, guard := _ }) (v := ?_) rfl (by kernel_rfl) (by kernel_rfl) (by kernel_rfl) (fun _ _ _ h => h) (Or.inl ⟨by kernel_rfl, ?_⟩) (trivial) ?_
      rotate_left
      · intro w hSw
        try dsimp only at hSw
        go_simp
        try with_reducible rfl
      try simp only [Act.put, List.setIfInBounds_toArray, List.set_cons_zero, List.set_cons_succ]
      refine wpAnyH_take (i := 7) (oi := { dst := some 28, op := _, type := _, pos := _, after := _, guard := _ }) (v := ?_) rfl (by kernel_rfl) (by kernel_rfl) (by kernel_rfl) (fun _ _ _ h => h) (Or.inl ⟨by kernel_rfl, ?_⟩) (trivial) ?_
      rotate_left
      · intro w hSw
        try dsimp only at hSw
        go_simp
        try with_reducible rfl
      try simp only [Act.put, List.setIfInBounds_toArray, List.set_cons_zero, List.set_cons_succ]
      refine wpAnyH_take (i := 8) (oi := { dst := some 29, op := _, type := _, pos := _, after := _, guard := _ }) (v := ?_) rfl (by kernel_rfl) (by kernel_rfl) (by kernel_rfl) (fun _ _ _ h => h) (Or.inl ⟨by kernel_rfl, ?_⟩) (trivial) ?_
      rotate_left
      · intro w hSw
        try dsimp only at hSw
        go_simp
        try with_reducible rfl
      try simp only [Act.put, List.setIfInBounds_toArray, List.set_cons_zero, List.set_cons_succ]
      refine wpAnyH_ready (rs := [9]) (by kernel_rfl) (by simp) ?_
      refine (AllReadyH.cons (o := { dst := none, op := _, type := _, pos := _, after := _, guard := _ }) rfl (fun K hK => ?_) AllReadyH.nil)
      have f3 := HB.out.frozenAt 3
      have k3 : World.cell? (W5) ⟨gb, 3, none⟩ = some (.int .i64 x.due) := due_at HB.out HX.out
      go_simp
      clear f3 k3
      obtain ⟨dv, hdv⟩ : ∃ z, z = IntKind.i64.wrap (x.due + p) := ⟨_, rfl⟩
      rw [← hdv]
      clear hdv
      have HB9 := Lib.hid (HB.out.stored 3 (.int .i64 dv)).1
      have HS9 := Lib.hid (HS.out.far (p := ⟨gb, 3, none⟩) (by simp only; omega) (.int .i64 dv))
      have HO9 := Lib.hid (own_far HO.out (p := ⟨gb, 3, none⟩) (fun k e => by have : ga = k := (by simpa [Value.ownBlock] using e); simp only; omega) (.int .i64 dv))
      have HG9 := Lib.hid (grown_setCell (p := ⟨gb, 3, none⟩) HG.out (.inr (by simp only; omega)) (.int .i64 dv))
      have HW9 := Lib.hid (show b0 ≤ (World.setCell W5 ⟨gb, 3, none⟩ (.int .i64 dv)).heap.size by rw [World.size_setCell]; exact HW.out)
      have e9 := flat_set_at Order.cells 6 Order.cells_length 3 (by omega) (.int .i64 dv) x { x with due := dv } rfl xs 0 HX.out
      rw [Nat.zero_mul, Nat.zero_add] at e9
      rw [e9] at HB9
      clear e9

      refine hK.out _ _ (trivial) (fun _ => ?_)
      clear hK K
      try simp only [Act.put]
      refine wpAnyH_done (by kernel_rfl) ?_ _
      go_wp2_with fail
      go_meet
      refine ⟨xs.set 0 { x with due := dv }, Lib.hid (by rw [List.length_set]; exact HXL.out), Lib.hid ?_, Lib.hid (HS9.out.more (by omega)), HG9, HW9, HO9, HB9⟩
      intro y hy
      rcases List.mem_or_eq_of_mem_set hy with hy | hy
      · exact HXS.out y hy
      · subst hy
        exact hxn
    · skip
      go_simp
      refine (pick_c g _ 2 (by omega) (by omega) _ HS.out).mono ?_
      rintro e W5 ⟨p, rfl, p0, p1, hS, hg⟩
      replace HS := Lib.hid hS
      replace HG := Lib.hid (grown_trans HG.out hg)
      replace HO := Lib.hid (HO.out.kept hg (.inr (fun e => by have := own_at HO.out g e; omega)))
      replace HB := Lib.hid (HB.out.kept hg (.inr (fun e => by have := own_at HB.out g e; omega)))
      replace HW := Lib.hid (Nat.le_trans HW.out hg.size)
      clear hS hg
      go_wp2_with fail

      refine hK.out _ _ (trivial) (fun _ => ?_)
      clear hK K
      try simp only [Act.put, List.setIfInBounds_toArray, List.set_cons_zero, List.set_cons_succ]
      refine wpAnyH_ready (rs := [3]) (by kernel_rfl) (by simp) ?_
      refine (AllReadyH.cons (o := { dst := some 24, op := _, type := _, pos := _, after := _, guard := _ }) rfl (fun K hK => ?_) AllReadyH.nil)
      have k3 : World.cell? (W5) ⟨gb, 3, none⟩ = some (.int .i64 x.due) := due_at HB.out HX.out
      go_simp
      clear k3
      refine hK.out _ _ (trivial) (fun _ => ?_)
      clear hK K
      try simp only [Act.put, List.setIfInBounds_toArray, List.set_cons_zero, List.set_cons_succ]
      refine wpAnyH_take (i := 6) (oi := { dst := some 27, op := _, type := _, pos := _, after := _, guard := _ }) (v := ?_) rfl (by kernel_rfl) (by kernel_rfl) (by kernel_rfl) (fun _ _ _ h => h) (Or.inl ⟨by kernel_rfl, ?_⟩) (trivial) ?_
      rotate_left
      · intro w hSw
        try dsimp only at hSw
        go_simp
        try with_reducible rfl
      try simp only [Act.put, List.setIfInBounds_toArray, List.set_cons_zero, List.set_cons_succ]
      refine wpAnyH_take (i := 7) (oi := { dst := some 28, op := _, type := _, pos := _, after := _, guard := _ }) (v := ?_) rfl (by kernel_rfl) (by kernel_rfl) (by kernel_rfl) (fun _ _ _ h => h) (Or.inl ⟨by kernel_rfl, ?_⟩) (trivial) ?_
      rotate_left
      · intro w hSw
        try dsimp only at hSw
        go_simp
        try with_reducible rfl
      try simp only [Act.put, List.setIfInBounds_toArray, List.set_cons_zero, List.set_cons_succ]
      refine wpAnyH_take (i := 8) (oi := { dst := some 29, op := _, type := _, pos := _, after := _, guard := _ }) (v := ?_) rfl (by kernel_rfl) (by kernel_rfl) (by kernel_rfl) (fun _ _ _ h => h) (Or.inl ⟨by kernel_rfl, ?_⟩) (trivial) ?_
      rotate_left
      · intro w hSw
        try dsimp only at hSw
        go_simp
        try with_reducible rfl
      try simp only [Act.put, List.setIfInBounds_toArray, List.set_cons_zero, List.set_cons_succ]
      refine wpAnyH_ready (rs := [9]) (by kernel_rfl) (by simp) ?_
      refine (AllReadyH.cons (o := { dst := none, op := _, type := _, pos := _, after := _, guard := _ }) rfl (fun K hK => ?_) AllReadyH.nil)
      have f3 := HB.out.frozenAt 3
      have k3 : World.cell? (W5) ⟨gb, 3, none⟩ = some (.int .i64 x.due) := due_at HB.out HX.out
      go_simp
      clear f3 k3
      obtain ⟨dv, hdv⟩ : ∃ z, z = IntKind.i64.wrap (x.due + p) := ⟨_, rfl⟩
      rw [← hdv]
      clear hdv
      have HB9 := Lib.hid (HB.out.stored 3 (.int .i64 dv)).1
      have HS9 := Lib.hid (HS.out.far (p := ⟨gb, 3, none⟩) (by simp only; omega) (.int .i64 dv))
      have HO9 := Lib.hid (own_far HO.out (p := ⟨gb, 3, none⟩) (fun k e => by have : ga = k := (by simpa [Value.ownBlock] using e); simp only; omega) (.int .i64 dv))
      have HG9 := Lib.hid (grown_setCell (p := ⟨gb, 3, none⟩) HG.out (.inr (by simp only; omega)) (.int .i64 dv))
      have HW9 := Lib.hid (show b0 ≤ (World.setCell W5 ⟨gb, 3, none⟩ (.int .i64 dv)).heap.size by rw [World.size_setCell]; exact HW.out)
      have e9 := flat_set_at Order.cells 6 Order.cells_length 3 (by omega) (.int .i64 dv) x { x with due := dv } rfl xs 0 HX.out
      rw [Nat.zero_mul, Nat.zero_add] at e9
      rw [e9] at HB9
      clear e9

      refine hK.out _ _ (trivial) (fun _ => ?_)
      clear hK K
      try simp only [Act.put]
      refine wpAnyH_done (by kernel_rfl) ?_ _
      go_wp2_with fail
      go_meet
      refine ⟨xs.set 0 { x with due := dv }, Lib.hid (by rw [List.length_set]; exact HXL.out), Lib.hid ?_, Lib.hid (HS9.out.more (by omega)), HG9, HW9, HO9, HB9⟩
      intro y hy
      rcases List.mem_or_eq_of_mem_set hy with hy | hy
      · exact HXS.out y hy
      · subst hy
        exact hxn
  case rest =>
  clear HS HG HW HO HB hbn
  obtain ⟨ys, HYL, HYS, HS, HG, HW, HO, HB⟩ := hcut
  rename World => V2
  go_wp2_with fail
  refine (one_c g _ 5 (by omega) (by omega) _ HS.out).mono ?_
  rintro e W6 ⟨b5, rfl, hS, hg⟩
  replace HS := Lib.hid hS
  replace HG := Lib.hid (grown_trans HG.out hg)
  replace HO := Lib.hid (HO.out.kept hg (.inr (fun e => by have := own_at HO.out g e; omega)))
  replace HB := Lib.hid (HB.out.kept hg (.inr (fun e => by have := own_at HB.out g e; omega)))
  replace HW := Lib.hid (Nat.le_trans HW.out hg.size)
  clear hS hg
  cases b5
  case false =>
    go_wp2_with fail
    go_returns
    exact ⟨_, _, xs, ys, n, c, n, c2, rfl, HXL.out, HYL.out, by omega, by omega, HXS.out, HYS.out, own_base HO.out (by omega), own_base HB.out (by omega), bl_grown (Below.refl _ _) HG.out (fun k e => by injection e with e; omega)⟩
  case true =>
  have hb6 : b0 ≤ W6.heap.size := HW.out
  go_wp2_with (at_builtin; refine app_own W6 #[Value.int IntKind.i64 0, Value.string ⟨#[]⟩, Value.int IntKind.i64 0, Value.int IntKind.i64 0, Value.int IntKind.i64 0, Value.int IntKind.i64 0] rfl _ _ 24 26 rfl i0 _ 6 56 Tryz.underlying24 hi0 hz0 hz1 hz2 rfl (by omega) b0 (.slice B n c2) n _ rfl rfl HB.out rfl (by simp [Value.oneCell']) (by unfold maxLen; omega) (by omega) hb6 ?_; intro B7 c7 W7 hown7 hg7)
  have hr7 := own_at HB.out
  go_returns
  have e7 : flat Order.cells (ys ++ [(⟨0, ⟨#[]⟩, 0, 0, 0, 0⟩ : Order)]) = flat Order.cells ys ++ #[Value.int IntKind.i64 0, Value.string ⟨#[]⟩, Value.int IntKind.i64 0, Value.int IntKind.i64 0, Value.int IntKind.i64 0, Value.int IntKind.i64 0].toList := by simp [flat, Order.cells]
  rw [← e7] at hown7
  refine ⟨_, _, xs, ys ++ [(⟨0, ⟨#[]⟩, 0, 0, 0, 0⟩ : Order)], n, c, n + 1, c7, rfl, HXL.out, by rw [List.length_append, HYL.out]; rfl, by omega, by omega, HXS.out, ?_, own_base (HO.out.kept hg7 (.inr (fun e => by have := hr7 ga (by rw [← e]; simp [Value.ownBlock]); omega))) (by omega), own_base hown7 (by omega), bl_grown (bl_grown (Below.refl _ _) HG.out (fun k e => by injection e with e; omega)) hg7 (fun k e => by have := hr7 k e; omega)⟩
  intro y hy
  rcases List.mem_append.1 hy with hy | hy
  · exact HYS.out y hy
  · have hyx : y = ⟨0, ⟨#[]⟩, 0, 0, 0, 0⟩ := by simpa using hy
    subst hyx
    decide
end Go.Proofs.YtapnllbbdfoaaaaGreatDoor
