/- Styles: the program's clause of a word. -/
import Derived.Test.YtihgjmhhpiobbaaGreatDoorStyK
import Derived.Test.YtihgjmhhpiobbaaGreatDoorStyU
import Derived.Test.YtihgjmhhpiobbaaGreatDoorDecI
namespace Go.Proofs.YtihgjmhhpiobbaaGreatDoor
open Go.RowKit

def clK (k : Int) (x : Style) : ByteArray := if k = 0 then txt0 x else if k = 1 then txt1 x else if k = 2 then txt2 x else if k = 3 then cl3 x else if k = 4 then cl4 x else cl5 x
theorem clK_txt {x : Style} (hx : styB x = true) (k : Nat) (hk : k < 6) : (txts x)[k]? = some (clK k x) := by
  obtain ⟨h3, h4, h5⟩ := cl_txt hx
  rcases k with _ | _ | _ | _ | _ | _ | k <;> first | omega | (simp [txts, clK, h3, h4, h5]; done)
theorem clK0 (x : Style) : clK 0 x = txt0 x := by simp [clK]
theorem clK1 (x : Style) : clK 1 x = txt1 x := by simp [clK]
theorem clK2 (x : Style) : clK 2 x = txt2 x := by simp [clK]
theorem clK3 (x : Style) : clK 3 x = cl3 x := by simp [clK]
theorem clK4 (x : Style) : clK 4 x = cl4 x := by simp [clK]
theorem clK5 (x : Style) : clK 5 x = cl5 x := by simp [clK]
theorem name_small {t : ByteArray} (h : nameB t = true) : t.size ≤ 12 := by
  by_cases h12 : 12 < t.size
  · rw [nameB_long (.inl h12)] at h; cases h
  · omega
theorem sty_small {x : Style} (hx : styB x = true) : (x.upper.size ≤ 12 ∧ x.color.size ≤ 12 ∧ x.lining.size ≤ 12 ∧ x.sole.size ≤ 12) ∧ (10 ≤ x.thick ∧ x.thick ≤ 300) ∧ (0 ≤ x.heel ∧ x.heel ≤ 1200) ∧ (0 ≤ x.eyelets ∧ x.eyelets ≤ 12) ∧ (0 ≤ x.density ∧ x.density ≤ 80) := by
  rw [styB_parts] at hx
  obtain ⟨h1, h2, h3, h4, h5, h6, h7, h8⟩ := hx
  rw [inB_iff] at h5 h6 h7
  rw [Bool.or_eq_true] at h3 h8
  refine ⟨⟨name_small h1, name_small h2, ?_, name_small h4⟩, h5, h6, h7, ?_⟩
  · rcases h3 with h | h
    · have := of_decide_eq_true h; omega
    · exact name_small h
  · rcases h8 with h | h
    · rw [Bool.and_eq_true, decide_eq_true_eq] at h; omega
    · rw [inB_iff] at h; omega
set_option maxRecDepth 100000 in
set_option maxHeartbeats 8000000 in
theorem clause_c (x : Style) (hx : Hid (styB x = true)) (t : ByteArray) (ht : t ∈ styW) (w : World) (hT : Tabs w) : Calls Tryz.prog 41 #[.agg #[.string x.upper, .string x.color, .string x.lining, .string x.sole, .int .i64 x.thick, .int .i64 x.heel, .int .i64 x.eyelets, .int .i64 x.density, .bool x.double], .string t] w (Ret (.string (clK (kindW t) x)) w) := by
  have HT := Lib.hid hT
  clear hT
  obtain ⟨⟨z0, z1, z2, z3⟩, i4, i5, i6, i7⟩ := sty_small hx.out
  obtain ⟨d4, e4⟩ : ∃ z, z = decI x.thick := ⟨_, rfl⟩
  obtain ⟨d5, e5⟩ : ∃ z, z = decI x.heel := ⟨_, rfl⟩
  obtain ⟨d6, e6⟩ : ∃ z, z = decI x.eyelets := ⟨_, rfl⟩
  obtain ⟨d7, e7⟩ : ∃ z, z = decI x.density := ⟨_, rfl⟩
  have y4 : d4.size ≤ 21 := by rw [e4]; exact dec21 (by omega) (by omega)
  have y5 : d5.size ≤ 21 := by rw [e5]; exact dec21 (by omega) (by omega)
  have y6 : d6.size ≤ 21 := by rw [e6]; exact dec21 (by omega) (by omega)
  have y7 : d7.size ≤ 21 := by rw [e7]; exact dec21 (by omega) (by omega)
  have D4 := fun w h => DecimalI_c x.thick (by omega) (by omega) w h
  have D5 := fun w h => DecimalI_c x.heel (by omega) (by omega) w h
  have D6 := fun w h => DecimalI_c x.eyelets (by omega) (by omega) w h
  have D7 := fun w h => DecimalI_c x.density (by omega) (by omega) w h
  rw [← e4] at D4
  rw [← e5] at D5
  rw [← e6] at D6
  rw [← e7] at D7
  replace D4 := Lib.hid D4
  replace D5 := Lib.hid D5
  replace D6 := Lib.hid D6
  replace D7 := Lib.hid D7
  have E4 := Lib.hid e4.symm
  have E5 := Lib.hid e5.symm
  have E6 := Lib.hid e6.symm
  have E7 := Lib.hid e7.symm
  clear e4 e5 e6 e7
  obtain ⟨W, hW⟩ : ∃ W, W = w.alloc (Obj.cells #[Value.string x.upper, Value.string x.color, Value.string x.lining, Value.string x.sole, Value.int IntKind.i64 x.thick, Value.int IntKind.i64 x.heel, Value.int IntKind.i64 x.eyelets, Value.int IntKind.i64 x.density, Value.bool x.double] 33) := ⟨_, rfl⟩
  obtain ⟨g, hg⟩ : ∃ g, g = w.heap.size := ⟨_, rfl⟩
  have hv : Below w.heap.size w W := by rw [hW]; exact bl_alloc (Below.refl _ _) _
  have hX : Hid (Blk W g 33 #[Value.string x.upper, Value.string x.color, Value.string x.lining, Value.string x.sole, Value.int IntKind.i64 x.thick, Value.int IntKind.i64 x.heel, Value.int IntKind.i64 x.eyelets, Value.int IntKind.i64 x.density, Value.bool x.double]) := Lib.hid (by rw [hW, hg]; exact Blk.new _ _ _)
  have HW := Lib.hid hW
  have HG := Lib.hid hg
  clear hW hg
  obtain ⟨k, hk⟩ : ∃ z, z = kindW t := ⟨_, rfl⟩
  obtain ⟨e0, e1, e2, e3, e4, e5⟩ := kind_beq hk.symm
  have hkk : k = 0 ∨ k = 1 ∨ k = 2 ∨ k = 3 ∨ k = 4 ∨ k = 5 := by
    rcases kind_cases t with ⟨_, h⟩ | ⟨_, h⟩ | ⟨_, h⟩ | ⟨_, h⟩ | ⟨_, h⟩ | ⟨_, h⟩ | ⟨h, _⟩
    all_goals first | exact absurd ht h | omega
  obtain ⟨R, hR⟩ : ∃ z, z = clK k x := ⟨_, rfl⟩
  rw [← hk, ← hR]
  have HR := Lib.hid hR
  clear hR hk ht
  rw [show wUpper.toList = [117, 112, 112, 101, 114] from by simp [wUpper]] at e0
  rw [show wLining.toList = [108, 105, 110, 105, 110, 103] from by simp [wLining]] at e1
  rw [show wSole.toList = [115, 111, 108, 101] from by simp [wSole]] at e2
  rw [show wHeel.toList = [104, 101, 101, 108] from by simp [wHeel]] at e3
  rw [show wEyelets.toList = [101, 121, 101, 108, 101, 116, 115] from by simp [wEyelets]] at e4
  rw [show wStitch.toList = [115, 116, 105, 116, 99, 104] from by simp [wStitch]] at e5
  go_enter Tryz.func41, Tryz.ntmps41
  go_upto_region 2 with fail
  rw [← HW.out, ← HG.out]
  clear HW HG
  have l0 : (⟨#[117, 112, 112, 101, 114, 32]⟩ : ByteArray).size = 6 := rfl
  have l1 : (⟨#[32]⟩ : ByteArray).size = 1 := rfl
  have l2 : (⟨#[115, 111, 108, 101, 32]⟩ : ByteArray).size = 5 := rfl
  have l3 : (⟨#[108, 105, 110, 105, 110, 103, 32]⟩ : ByteArray).size = 7 := rfl
  have l4 : (⟨#[104, 101, 101, 108, 32]⟩ : ByteArray).size = 5 := rfl
  have l5 : (⟨#[101, 121, 101, 108, 101, 116, 115, 32]⟩ : ByteArray).size = 8 := rfl
  have l6 : (⟨#[115, 116, 105, 116, 99, 104, 32]⟩ : ByteArray).size = 7 := rfl
  have l7 : (⟨#[32, 100, 111, 117, 98, 108, 101]⟩ : ByteArray).size = 7 := rfl
  rcases hkk with rfl | rfl | rfl | rfl | rfl | rfl
  · as_aux_lemma =>
      replace e0 := e0.trans (show decide ((0 : Int) = 0) = true from by decide)
      replace e1 := e1.trans (show decide ((0 : Int) = 1) = false from by decide)
      replace e2 := e2.trans (show decide ((0 : Int) = 2) = false from by decide)
      replace e3 := e3.trans (show decide ((0 : Int) = 3) = false from by decide)
      replace e4 := e4.trans (show decide ((0 : Int) = 4) = false from by decide)
      replace e5 := e5.trans (show decide ((0 : Int) = 5) = false from by decide)
      have a0 := fun (w : World) => run_string_add_sum (P := Tryz.prog) w (⟨#[117, 112, 112, 101, 114, 32]⟩ : ByteArray) x.upper (by omega)
      have a1 := fun (w : World) => run_string_add_sum (P := Tryz.prog) w ((⟨#[117, 112, 112, 101, 114, 32]⟩ : ByteArray) ++ x.upper) (⟨#[32]⟩ : ByteArray) (by simp only [app_size]; omega)
      have a2 := fun (w : World) => run_string_add_sum (P := Tryz.prog) w (((⟨#[117, 112, 112, 101, 114, 32]⟩ : ByteArray) ++ x.upper) ++ (⟨#[32]⟩ : ByteArray)) x.color (by simp only [app_size]; omega)
      have k0 : W.cell? ⟨g, 0, none⟩ = some (.string x.upper) := hX.out.cell 0
      have k1 : W.cell? ⟨g, 1, none⟩ = some (.string x.color) := hX.out.cell 1
      go_wp2_with fail
      go_returns
      exact Ret.mk (vs (by rw [HR.out, clK0]; rfl)) hv
  · as_aux_lemma =>
      replace e0 := e0.trans (show decide ((1 : Int) = 0) = false from by decide)
      replace e1 := e1.trans (show decide ((1 : Int) = 1) = true from by decide)
      replace e2 := e2.trans (show decide ((1 : Int) = 2) = false from by decide)
      replace e3 := e3.trans (show decide ((1 : Int) = 3) = false from by decide)
      replace e4 := e4.trans (show decide ((1 : Int) = 4) = false from by decide)
      replace e5 := e5.trans (show decide ((1 : Int) = 5) = false from by decide)
      have a0 := fun (w : World) => run_string_add_sum (P := Tryz.prog) w (⟨#[108, 105, 110, 105, 110, 103, 32]⟩ : ByteArray) x.lining (by omega)
      have k2 : W.cell? ⟨g, 2, none⟩ = some (.string x.lining) := hX.out.cell 2
      have hE := empty_beq x.lining
      by_cases h0 : x.lining.size = 0
      · rw [decide_eq_true h0] at hE
        have hq : clK 1 x = ⟨#[]⟩ := (clK1 x).trans (if_pos h0)
        have HQ := Lib.hid hq
        clear hq h0
        go_wp2_with fail
        go_returns
        exact Ret.mk (vs (by rw [HR.out, HQ.out])) hv
      · rw [decide_eq_false h0] at hE
        have hq : clK 1 x = _ := (clK1 x).trans (if_neg h0)
        have HQ := Lib.hid hq
        clear hq h0
        go_wp2_with fail
        go_returns
        exact Ret.mk (vs (by rw [HR.out, HQ.out])) hv
  · as_aux_lemma =>
      replace e0 := e0.trans (show decide ((2 : Int) = 0) = false from by decide)
      replace e1 := e1.trans (show decide ((2 : Int) = 1) = false from by decide)
      replace e2 := e2.trans (show decide ((2 : Int) = 2) = true from by decide)
      replace e3 := e3.trans (show decide ((2 : Int) = 3) = false from by decide)
      replace e4 := e4.trans (show decide ((2 : Int) = 4) = false from by decide)
      replace e5 := e5.trans (show decide ((2 : Int) = 5) = false from by decide)
      have a0 := fun (w : World) => run_string_add_sum (P := Tryz.prog) w (⟨#[115, 111, 108, 101, 32]⟩ : ByteArray) x.sole (by omega)
      have a1 := fun (w : World) => run_string_add_sum (P := Tryz.prog) w ((⟨#[115, 111, 108, 101, 32]⟩ : ByteArray) ++ x.sole) (⟨#[32]⟩ : ByteArray) (by simp only [app_size]; omega)
      have a2 := fun (w : World) => run_string_add_sum (P := Tryz.prog) w (((⟨#[115, 111, 108, 101, 32]⟩ : ByteArray) ++ x.sole) ++ (⟨#[32]⟩ : ByteArray)) d4 (by simp only [app_size]; omega)
      have k3 : W.cell? ⟨g, 3, none⟩ = some (.string x.sole) := hX.out.cell 3
      have k4 : W.cell? ⟨g, 4, none⟩ = some (.int .i64 x.thick) := hX.out.cell 4
      go_upto_region 9 with fail
      refine wp_region_held_drew (S := fun w' => Below W.heap.size W w' ∧ True) (by as_aux_lemma => kernel_rfl) ?_ (fun hHeld => ?_)
      · exact ⟨(Below.refl _ _).drew, trivial⟩
      have hd9 := bl_trans hv hHeld.1
      have hd8 := hHeld.1
      refine wpAnyH_take (i := 0) (oi := { dst := some 26, op := _, type := _, pos := _, after := _, guard := _ }) (v := ?_) rfl (by as_aux_lemma => kernel_rfl) (by as_aux_lemma => kernel_rfl) (by as_aux_lemma => kernel_rfl) (fun _ _ _ h => h) (Or.inl ⟨by as_aux_lemma => kernel_rfl, ?_⟩) (by assumption) ?_
      rotate_left
      · intro w hSw
        try dsimp only at hSw
        go_simp
        try with_reducible rfl
      try simp only [Act.put, List.setIfInBounds_toArray, List.set_cons_zero, List.set_cons_succ]
      refine wpAnyH_take (i := 1) (oi := { dst := some 27, op := _, type := _, pos := _, after := _, guard := _ }) (v := ?_) rfl (by as_aux_lemma => kernel_rfl) (by as_aux_lemma => kernel_rfl) (by as_aux_lemma => kernel_rfl) (fun _ _ _ h => h) (Or.inl ⟨by as_aux_lemma => kernel_rfl, ?_⟩) (by assumption) ?_
      rotate_left
      · intro w hSw
        try dsimp only at hSw
        have x_k3 := bl_cell hSw.1 k3
        go_simp
        try with_reducible rfl
      try simp only [Act.put, List.setIfInBounds_toArray, List.set_cons_zero, List.set_cons_succ]
      refine wpAnyH_take (i := 2) (oi := { dst := some 28, op := _, type := _, pos := _, after := _, guard := _ }) (v := ?_) rfl (by as_aux_lemma => kernel_rfl) (by as_aux_lemma => kernel_rfl) (by as_aux_lemma => kernel_rfl) (fun _ _ _ h => h) (Or.inl ⟨by as_aux_lemma => kernel_rfl, ?_⟩) (by assumption) ?_
      rotate_left
      · intro w hSw
        try dsimp only at hSw
        go_simp
        try with_reducible rfl
      try simp only [Act.put, List.setIfInBounds_toArray, List.set_cons_zero, List.set_cons_succ]
      refine wpAnyH_take (i := 3) (oi := { dst := some 29, op := _, type := _, pos := _, after := _, guard := _ }) (v := ?_) rfl (by as_aux_lemma => kernel_rfl) (by as_aux_lemma => kernel_rfl) (by as_aux_lemma => kernel_rfl) (fun _ _ _ h => h) (Or.inl ⟨by as_aux_lemma => kernel_rfl, ?_⟩) (by assumption) ?_
      rotate_left
      · intro w hSw
        try dsimp only at hSw
        go_simp
        try with_reducible rfl
      try simp only [Act.put, List.setIfInBounds_toArray, List.set_cons_zero, List.set_cons_succ]
      refine wpAnyH_take (i := 4) (oi := { dst := some 30, op := _, type := _, pos := _, after := _, guard := _ }) (v := ?_) rfl (by as_aux_lemma => kernel_rfl) (by as_aux_lemma => kernel_rfl) (by as_aux_lemma => kernel_rfl) (fun _ _ _ h => h) (Or.inl ⟨by as_aux_lemma => kernel_rfl, ?_⟩) (by assumption) ?_
      rotate_left
      · intro w hSw
        try dsimp only at hSw
        go_simp
        try with_reducible rfl
      try simp only [Act.put, List.setIfInBounds_toArray, List.set_cons_zero, List.set_cons_succ]
      refine wpAnyH_take (i := 5) (oi := { dst := some 31, op := _, type := _, pos := _, after := _, guard := _ }) (v := ?_) rfl (by as_aux_lemma => kernel_rfl) (by as_aux_lemma => kernel_rfl) (by as_aux_lemma => kernel_rfl) (fun _ _ _ h => h) (Or.inl ⟨by as_aux_lemma => kernel_rfl, ?_⟩) (by assumption) ?_
      rotate_left
      · intro w hSw
        try dsimp only at hSw
        have x_k4 := bl_cell hSw.1 k4
        go_simp
        try with_reducible rfl
      try simp only [Act.put, List.setIfInBounds_toArray, List.set_cons_zero, List.set_cons_succ]
      refine wpAnyH_ready (rs := [6]) (by as_aux_lemma => kernel_rfl) (by simp) ?_
      refine AllReadyH.cons (o := { dst := some 32, op := _, type := _, pos := _, after := _, guard := _ }) rfl (fun K hK => ?_) AllReadyH.nil
      go_simp
      (try dsimp only at hHeld); go_split_ands
      refine (D4.out _ (HT.out.pow.below hd9)).mono ?_
      rintro e W1 ⟨rfl, hb9⟩
      have hh := bl_trans hd8 hb9
      replace hv := bl_trans hd9 hb9
      clear hd9 hd8
      go_wp2_with fail
      refine hK.out _ _ ?_ (fun hHeld => ?_)
      · (try dsimp only); go_split_ands; exact ⟨hh, trivial⟩
      clear hK K
      try simp only [Act.put, List.setIfInBounds_toArray, List.set_cons_zero, List.set_cons_succ]
      refine wpAnyH_take (i := 7) (oi := { dst := some 33, op := _, type := _, pos := _, after := _, guard := _ }) (v := ?_) rfl (by as_aux_lemma => kernel_rfl) (by as_aux_lemma => kernel_rfl) (by as_aux_lemma => kernel_rfl) (fun _ _ _ h => h) (Or.inl ⟨by as_aux_lemma => kernel_rfl, ?_⟩) (by assumption) ?_
      rotate_left
      · intro w hSw
        try dsimp only at hSw
        go_simp
        try with_reducible rfl
      try simp only [Act.put, List.setIfInBounds_toArray, List.set_cons_zero, List.set_cons_succ]
      refine wpAnyH_take (i := 8) (oi := { dst := some 5, op := _, type := _, pos := _, after := _, guard := _ }) (v := ?_) rfl (by as_aux_lemma => kernel_rfl) (by as_aux_lemma => kernel_rfl) (by as_aux_lemma => kernel_rfl) (fun _ _ _ h => h) (Or.inl ⟨by as_aux_lemma => kernel_rfl, ?_⟩) (by assumption) ?_
      rotate_left
      · intro w hSw
        try dsimp only at hSw
        go_simp
        try with_reducible rfl
      try simp only [Act.put, List.setIfInBounds_toArray, List.set_cons_zero, List.set_cons_succ]
      refine wpAnyH_done (by as_aux_lemma => kernel_rfl) ?_ _
      clear hHeld
      go_wp2_with fail
      go_returns
      refine Ret.mk (vs ?_) hv
      rw [HR.out, clK2]
      unfold txt2
      rw [E4.out]
      rfl
  · as_aux_lemma =>
      replace e0 := e0.trans (show decide ((3 : Int) = 0) = false from by decide)
      replace e1 := e1.trans (show decide ((3 : Int) = 1) = false from by decide)
      replace e2 := e2.trans (show decide ((3 : Int) = 2) = false from by decide)
      replace e3 := e3.trans (show decide ((3 : Int) = 3) = true from by decide)
      replace e4 := e4.trans (show decide ((3 : Int) = 4) = false from by decide)
      replace e5 := e5.trans (show decide ((3 : Int) = 5) = false from by decide)
      have a0 := fun (w : World) => run_string_add_sum (P := Tryz.prog) w (⟨#[104, 101, 101, 108, 32]⟩ : ByteArray) d5 (by omega)
      have k5 : W.cell? ⟨g, 5, none⟩ = some (.int .i64 x.heel) := hX.out.cell 5
      by_cases h0 : 0 < x.heel
      · have hq : clK 3 x = _ := (clK3 x).trans (if_pos h0)
        rw [E5.out] at hq
        have HQ := Lib.hid hq
        clear hq
        go_wp2_with fail
        refine (D5.out _ (HT.out.pow.below hv)).mono ?_
        rintro e W2 ⟨rfl, hb⟩
        replace hv := bl_trans hv hb
        replace hX := Lib.hid (hX.out.below hb)
        clear hb
        go_wp2_with fail
        go_returns
        exact Ret.mk (vs (by rw [HR.out, HQ.out])) hv
      · have hq : clK 3 x = ⟨#[]⟩ := (clK3 x).trans (if_neg h0)
        have HQ := Lib.hid hq
        clear hq
        go_wp2_with fail
        go_returns
        exact Ret.mk (vs (by rw [HR.out, HQ.out])) hv
  · as_aux_lemma =>
      replace e0 := e0.trans (show decide ((4 : Int) = 0) = false from by decide)
      replace e1 := e1.trans (show decide ((4 : Int) = 1) = false from by decide)
      replace e2 := e2.trans (show decide ((4 : Int) = 2) = false from by decide)
      replace e3 := e3.trans (show decide ((4 : Int) = 3) = false from by decide)
      replace e4 := e4.trans (show decide ((4 : Int) = 4) = true from by decide)
      replace e5 := e5.trans (show decide ((4 : Int) = 5) = false from by decide)
      have a0 := fun (w : World) => run_string_add_sum (P := Tryz.prog) w (⟨#[101, 121, 101, 108, 101, 116, 115, 32]⟩ : ByteArray) d6 (by omega)
      have k6 : W.cell? ⟨g, 6, none⟩ = some (.int .i64 x.eyelets) := hX.out.cell 6
      by_cases h0 : 0 < x.eyelets
      · have hq : clK 4 x = _ := (clK4 x).trans (if_pos h0)
        rw [E6.out] at hq
        have HQ := Lib.hid hq
        clear hq
        go_wp2_with fail
        refine (D6.out _ (HT.out.pow.below hv)).mono ?_
        rintro e W2 ⟨rfl, hb⟩
        replace hv := bl_trans hv hb
        replace hX := Lib.hid (hX.out.below hb)
        clear hb
        go_wp2_with fail
        go_returns
        exact Ret.mk (vs (by rw [HR.out, HQ.out])) hv
      · have hq : clK 4 x = ⟨#[]⟩ := (clK4 x).trans (if_neg h0)
        have HQ := Lib.hid hq
        clear hq
        go_wp2_with fail
        go_returns
        exact Ret.mk (vs (by rw [HR.out, HQ.out])) hv
  · as_aux_lemma =>
      replace e0 := e0.trans (show decide ((5 : Int) = 0) = false from by decide)
      replace e1 := e1.trans (show decide ((5 : Int) = 1) = false from by decide)
      replace e2 := e2.trans (show decide ((5 : Int) = 2) = false from by decide)
      replace e3 := e3.trans (show decide ((5 : Int) = 3) = false from by decide)
      replace e4 := e4.trans (show decide ((5 : Int) = 4) = false from by decide)
      replace e5 := e5.trans (show decide ((5 : Int) = 5) = true from by decide)
      have hq : clK 5 x = if x.double = true then cl5a x ++ ⟨#[32, 100, 111, 117, 98, 108, 101]⟩ else cl5a x := clK5 x
      have hq2 : cl5a x = if 0 < x.density then (⟨#[115, 116, 105, 116, 99, 104, 32]⟩ : ByteArray) ++ decI x.density else ⟨#[]⟩ := rfl
      rw [E7.out] at hq2
      have a0 := fun (w : World) => run_string_add_sum (P := Tryz.prog) w (⟨#[115, 116, 105, 116, 99, 104, 32]⟩ : ByteArray) d7 (by omega)
      have a1 := fun (w : World) => run_string_add_sum (P := Tryz.prog) w ((⟨#[115, 116, 105, 116, 99, 104, 32]⟩ : ByteArray) ++ d7) (⟨#[32, 100, 111, 117, 98, 108, 101]⟩ : ByteArray) (by simp only [app_size]; omega)
      have a2 := fun (w : World) => run_string_add_sum (P := Tryz.prog) w (⟨#[]⟩ : ByteArray) (⟨#[32, 100, 111, 117, 98, 108, 101]⟩ : ByteArray) (by decide)
      have k7 : W.cell? ⟨g, 7, none⟩ = some (.int .i64 x.density) := hX.out.cell 7
      have k8 : W.cell? ⟨g, 8, none⟩ = some (.bool x.double) := hX.out.cell 8
      by_cases h0 : 0 < x.density
      · rw [if_pos h0] at hq2
        cases hd : x.double
        · rw [hd, if_neg (by simp), hq2] at hq
          have HQ := Lib.hid hq
          clear hq hq2
          rw [hd] at k8
          go_wp2_with fail
          refine (D7.out _ (HT.out.pow.below hv)).mono ?_
          rintro e W2 ⟨rfl, hb⟩
          replace hv := bl_trans hv hb
          replace hX := Lib.hid (hX.out.below hb)
          clear hb
          replace k8 : W2.cell? ⟨g, 8, none⟩ = some (.bool false) := by rw [← hd]; exact hX.out.cell 8
          go_wp2_with fail
          go_returns
          exact Ret.mk (vs (by rw [HR.out, HQ.out])) hv
        · rw [hd, if_pos rfl, hq2] at hq
          have HQ := Lib.hid hq
          clear hq hq2
          rw [hd] at k8
          go_wp2_with fail
          refine (D7.out _ (HT.out.pow.below hv)).mono ?_
          rintro e W2 ⟨rfl, hb⟩
          replace hv := bl_trans hv hb
          replace hX := Lib.hid (hX.out.below hb)
          clear hb
          replace k8 : W2.cell? ⟨g, 8, none⟩ = some (.bool true) := by rw [← hd]; exact hX.out.cell 8
          go_wp2_with fail
          go_returns
          exact Ret.mk (vs (by rw [HR.out, HQ.out])) hv
      · rw [if_neg h0] at hq2
        cases hd : x.double
        · rw [hd, if_neg (by simp), hq2] at hq
          have HQ := Lib.hid hq
          clear hq hq2
          rw [hd] at k8
          go_wp2_with fail
          go_returns
          exact Ret.mk (vs (by rw [HR.out, HQ.out])) hv
        · rw [hd, if_pos rfl, hq2] at hq
          have HQ := Lib.hid hq
          clear hq hq2
          rw [hd] at k8
          go_wp2_with fail
          go_returns
          exact Ret.mk (vs (by rw [HR.out, HQ.out])) hv
end Go.Proofs.YtihgjmhhpiobbaaGreatDoor
