/- The law on clauses, walked. -/
import Derived.Test.YtihgjmhhpiobbaaDoorStyE
import Derived.Test.YtihgjmhhpiobbaaDoorStyF
import Derived.Test.YtihgjmhhpiobbaaDoorStyZ
import Derived.Test.YtihgjmhhpiobbaaDoorDrwX
import Derived.Test.YtihgjmhhpiobbaaDoorNeq
namespace Go.Proofs.YtihgjmhhpiobbaaDoor
open Go.RowKit

theorem a2Long2_c (C D : Option Addr) (n c m d : Nat) (w : World) : Calls Tryd.prog 10 #[.slice C n c, .slice D m d] w (Ret (.bool (decide (3000 < n) || decide (3000 < m))) w) := by
  go_enter Tryd.func10, Tryd.ntmps10
  by_cases h : 3000 < n
  · have h1 : (3000 : Int) < (n : Int) := by omega
    go_wp2_with fail
    go_returns
    exact Ret.mk (vb (by simp [h])) (Below.refl _ _)
  · have h1 : ¬ (3000 : Int) < (n : Int) := by omega
    by_cases h' : 3000 < m
    · have h2 : (3000 : Int) < (m : Int) := by omega
      go_wp2_with fail
      go_returns
      exact Ret.mk (vb (by simp)) (Below.refl _ _)
    · have h2 : ¬ (3000 : Int) < (m : Int) := by omega
      go_wp2_with fail
      go_returns
      exact Ret.mk (vb (by simp)) (Below.refl _ _)
set_option maxRecDepth 100000 in
set_option maxHeartbeats 1000000 in
theorem Style.run_neq (x y : Style) (w : World) : (binOp .neq 25 (.agg #[.string x.upper, .string x.color, .string x.lining, .string x.sole, .int .i64 x.thick, .int .i64 x.heel, .int .i64 x.eyelets, .int .i64 x.density, .bool x.double]) (.agg #[.string y.upper, .string y.color, .string y.lining, .string y.sole, .int .i64 y.thick, .int .i64 y.heel, .int .i64 y.eyelets, .int .i64 y.density, .bool y.double])).run Tryd.prog w = .ok (.bool (!(x.beq y))) w := by
  rw [run_neq_struct, run_equalIn_struct w 9999 25 _ _ (by kernel_rfl) (by kernel_rfl)]
  rw [show (Tryd.prog.fieldsOf 25) = _ from by simp [Program.fieldsOf, Tryd.underlying25]; rfl]
  simp [go_sem, bytes_beq, Style.beq]
  repeat' split
  all_goals simp_all

set_option maxRecDepth 100000 in
set_option maxHeartbeats 1000000 in
theorem Style.run_eql (x y : Style) (w : World) : (binOp .eql 25 (.agg #[.string x.upper, .string x.color, .string x.lining, .string x.sole, .int .i64 x.thick, .int .i64 x.heel, .int .i64 x.eyelets, .int .i64 x.density, .bool x.double]) (.agg #[.string y.upper, .string y.color, .string y.lining, .string y.sole, .int .i64 y.thick, .int .i64 y.heel, .int .i64 y.eyelets, .int .i64 y.density, .bool y.double])).run Tryd.prog w = .ok (.bool (x.beq y)) w := by
  rw [run_eql_struct, run_equalIn_struct w 9999 25 _ _ (by kernel_rfl) (by kernel_rfl)]
  rw [show (Tryd.prog.fieldsOf 25) = _ from by simp [Program.fieldsOf, Tryd.underlying25]; rfl]
  simp [go_sem, bytes_beq, Style.beq]
  repeat' split
  all_goals simp_all

set_option maxHeartbeats 2000000 in
theorem SValidStyle_c (x : Style) (hx : Hid x.fits) (w : World) : Calls Tryd.prog 15 #[.agg #[.string x.upper, .string x.color, .string x.lining, .string x.sole, .int .i64 x.thick, .int .i64 x.heel, .int .i64 x.eyelets, .int .i64 x.density, .bool x.double]] w (Ret (.bool (styB x)) w) := by
  obtain ⟨W, hW⟩ : ∃ W, W = w.alloc (Obj.cells #[Value.string x.upper, Value.string x.color, Value.string x.lining, Value.string x.sole, Value.int IntKind.i64 x.thick, Value.int IntKind.i64 x.heel, Value.int IntKind.i64 x.eyelets, Value.int IntKind.i64 x.density, Value.bool x.double] 25) := ⟨_, rfl⟩
  obtain ⟨g, hg⟩ : ∃ g, g = w.heap.size := ⟨_, rfl⟩
  have hv : Below w.heap.size w W := by rw [hW]; exact bl_alloc (Below.refl _ _) _
  have HC := Lib.hid (l24Ok_c x hx g W (by rw [hW, hg]; exact Blk.new _ _ _))
  have HW := Lib.hid hW
  have HG := Lib.hid hg
  clear hW hg
  go_enter Tryd.func15, Tryd.ntmps15
  go_wp2_with fail
  rw [← HW.out, ← HG.out]
  refine HC.out.mono ?_
  rintro e W1 ⟨rfl, hb⟩
  go_wp2_with fail
  go_returns
  exact Ret.mk rfl (bl_trans hv hb)

set_option maxRecDepth 100000 in
set_option maxHeartbeats 8000000 in
theorem FnClauses_law (C : Option Addr) (nn cc : Nat) (cs : List UInt8) (hnn : Hid (cs.length = nn)) (D : Option Addr) (mm dd : Nat) (ds : List UInt8) (hmm : Hid (ds.length = mm)) (w : World) (hA : Arr w C (cs.map bvS)) (hlt : ∀ ad, C = some ad → ad.block < w.heap.size) (hD : Arr w D (ds.map bvS)) (hlt2 : ∀ ad, D = some ad → ad.block < w.heap.size) (hT : Tabs w) :
    Calls Tryd.prog 4 #[.slice C nn cc, .slice D mm dd] w (Ret (.bool true) w) := by
  have hA0 := Lib.hid hA
  have hD0 := Lib.hid hD
  have hL0 := Lib.hid hlt
  have hM0 := Lib.hid hlt2
  have HT := Lib.hid hT
  clear hA hlt hlt2 hT hD
  go_enter Tryd.func4, Tryd.ntmps4
  go_wp2_with fail
  refine (a2Long2_c C D nn cc mm dd w).mono ?_
  rintro e W ⟨rfl, hv⟩
  cases hb4 : (decide (3000 < nn) || decide (3000 < mm))
  case true =>
    go_wp2_with fail
    go_returns
    exact Ret.mk rfl hv
  rw [Bool.or_eq_false_iff, decide_eq_false_iff_not, decide_eq_false_iff_not] at hb4
  obtain ⟨hb5, hb6⟩ := hb4
  go_wp2_with fail
  refine (A2Style_c C nn cc cs hnn (by omega) _ (hA0.out.below hv) (fun ad e => Nat.lt_of_lt_of_le (hL0.out ad e) hv.size)).mono ?_
  rintro e W1 ⟨x, rfl, hx, _, hb⟩
  have HX := Lib.hid hx
  replace hv := bl_trans hv hb
  clear hb hx
  go_wp2_with fail
  obtain ⟨W2, hWn⟩ : ∃ q9, q9 = World.alloc W1 (Obj.cells #[Value.string x.upper, Value.string x.color, Value.string x.lining, Value.string x.sole, Value.int IntKind.i64 x.thick, Value.int IntKind.i64 x.heel, Value.int IntKind.i64 x.eyelets, Value.int IntKind.i64 x.density, Value.bool x.double] 25) := ⟨_, rfl⟩
  obtain ⟨gx, hgn⟩ : ∃ q9, q9 = W1.heap.size := ⟨_, rfl⟩
  have HBX : Hid (Blk W2 gx 25 #[Value.string x.upper, Value.string x.color, Value.string x.lining, Value.string x.sole, Value.int IntKind.i64 x.thick, Value.int IntKind.i64 x.heel, Value.int IntKind.i64 x.eyelets, Value.int IntKind.i64 x.density, Value.bool x.double]) := Lib.hid (by rw [hWn, hgn]; exact Blk.new _ _ _)
  have hb : Below W1.heap.size W1 W2 := by rw [hWn]; exact bl_alloc (Below.refl _ _) _
  rw [← hWn, ← hgn]
  clear hWn hgn
  replace hv := bl_trans hv hb
  clear hb
  refine (A2Clause_c D mm dd ds hmm (by omega) _ (hD0.out.below hv) (fun ad e => Nat.lt_of_lt_of_le (hM0.out ad e) hv.size)).mono ?_
  rintro e W3 ⟨s, rfl, hs, hb⟩
  replace HBX := Lib.hid (HBX.out.below hb)
  replace hv := bl_trans hv hb
  clear hb
  have hsx : Hid (x.upper.size ≤ 4194304 ∧ x.color.size ≤ 4194304 ∧ x.lining.size ≤ 4194304 ∧ x.sole.size ≤ 4194304) := Lib.hid (by have h := (sty_small HX.out).1; omega)
  have HCH := fun w h => ChangeStyle_c x hsx s (by omega) w h
  have hyk : (chgC x s = 0 ∧ okCl s = true ∧ chgS x s = setS x (wrds s)) ∨ chgC x s = 7 := by
    cases hk : okCl s
    · exact .inr (chg_no HX.out hk)
    · exact .inl ⟨(chg_yes HX.out hk).2, rfl, (chg_yes HX.out hk).1⟩
  obtain ⟨Y, hY⟩ : ∃ z, z = chgS x s := ⟨_, rfl⟩
  obtain ⟨K, hK⟩ : ∃ z, z = chgC x s := ⟨_, rfl⟩
  rw [← hY, ← hK] at HCH hyk
  have HYK := Lib.hid hyk
  replace HCH := Lib.hid HCH
  clear hY hK hyk
  go_wp2_with (refine wpList_load_row rfl 25 _ rfl gx rfl 25 #[Value.string x.upper, Value.string x.color, Value.string x.lining, Value.string x.sole, Value.int IntKind.i64 x.thick, Value.int IntKind.i64 x.heel, Value.int IntKind.i64 x.eyelets, Value.int IntKind.i64 x.density, Value.bool x.double] (0, 0) _ HBX.out Tryd.underlying25 rfl (by kernel_rfl) ?_)
  refine (HCH.out _ (HT.out.below hv)).mono ?_
  rintro e W4 ⟨rfl, hb⟩
  clear HCH
  replace HBX := Lib.hid (HBX.out.below hb)
  replace hv := bl_trans hv hb
  clear hb
  go_upto_if 36 with fail
  obtain ⟨W5, hWn⟩ : ∃ q9, q9 = World.alloc W4 (Obj.cells #[Value.string Y.upper, Value.string Y.color, Value.string Y.lining, Value.string Y.sole, Value.int IntKind.i64 Y.thick, Value.int IntKind.i64 Y.heel, Value.int IntKind.i64 Y.eyelets, Value.int IntKind.i64 Y.density, Value.bool Y.double] 25) := ⟨_, rfl⟩
  obtain ⟨gy, hgn⟩ : ∃ q9, q9 = W4.heap.size := ⟨_, rfl⟩
  have HBY : Hid (Blk W5 gy 25 #[Value.string Y.upper, Value.string Y.color, Value.string Y.lining, Value.string Y.sole, Value.int IntKind.i64 Y.thick, Value.int IntKind.i64 Y.heel, Value.int IntKind.i64 Y.eyelets, Value.int IntKind.i64 Y.density, Value.bool Y.double]) := Lib.hid (by rw [hWn, hgn]; exact Blk.new _ _ _)
  have hb : Below W4.heap.size W4 W5 := by rw [hWn]; exact bl_alloc (Below.refl _ _) _
  rw [← hWn, ← hgn]
  clear hWn hgn
  replace HBX := Lib.hid (HBX.out.below hb)
  replace hv := bl_trans hv hb
  clear hb
  go_cut [] (fun wx => Hid (Blk wx gx 25 #[Value.string x.upper, Value.string x.color, Value.string x.lining, Value.string x.sole, Value.int IntKind.i64 x.thick, Value.int IntKind.i64 x.heel, Value.int IntKind.i64 x.eyelets, Value.int IntKind.i64 x.density, Value.bool x.double]) ∧ Below w.heap.size w wx)
  case first =>
    rcases HYK.out with ⟨rfl, hok, hyy⟩ | rfl
    case inr =>
      go_wp2_with fail
      go_meet
      exact ⟨HBX, hv⟩
    case inl =>
      have HY : Hid (styB Y = true) := Lib.hid (by rw [hyy]; exact set_sty HX.out (okCl_prob hok))
      have hsy : Hid (Y.upper.size ≤ 4194304 ∧ Y.color.size ≤ 4194304 ∧ Y.lining.size ≤ 4194304 ∧ Y.sole.size ≤ 4194304) := Lib.hid (by have h := (sty_small HY.out).1; omega)
      obtain ⟨t, rr, hws, h2, hd⟩ := dif_one (x := x) (okCl_prob hok)
      rw [← hyy] at hd
      have HCH := fun w h => ChangeStyle_c Y hsy s (by omega) w h
      rw [(chg_yes HY.out hok).1, (chg_yes HY.out hok).2, hyy, set_again (okCl_prob hok), ← hyy] at HCH
      replace HCH := Lib.hid HCH
      have HSW := fun w h => SplitWords_c s (by omega) w h
      unfold OutC at HSW
      obtain ⟨ws, hwe⟩ : ∃ z, z = wrds s := ⟨_, rfl⟩
      obtain ⟨n, hn⟩ : ∃ z, z = ws.length := ⟨_, rfl⟩
      rw [← hwe, ← hn, ← flat_str] at HSW
      rw [← hwe] at hws h2
      rw [← hn] at h2
      replace HSW := Lib.hid HSW
      have HWS := Lib.hid hws
      have HDI := Lib.hid hd
      clear hyy hok hws hd hwe hn HYK
      go_wp2_with (first | refine wpList_load_row rfl 25 _ rfl gx rfl 25 #[Value.string x.upper, Value.string x.color, Value.string x.lining, Value.string x.sole, Value.int IntKind.i64 x.thick, Value.int IntKind.i64 x.heel, Value.int IntKind.i64 x.eyelets, Value.int IntKind.i64 x.density, Value.bool x.double] (0, 0) _ HBX.out Tryd.underlying25 rfl (by kernel_rfl) ?_ | refine wpList_load_row rfl 25 _ rfl gy rfl 25 #[Value.string Y.upper, Value.string Y.color, Value.string Y.lining, Value.string Y.sole, Value.int IntKind.i64 Y.thick, Value.int IntKind.i64 Y.heel, Value.int IntKind.i64 Y.eyelets, Value.int IntKind.i64 Y.density, Value.bool Y.double] (0, 0) _ HBY.out Tryd.underlying25 rfl (by kernel_rfl) ?_)
      refine (DiffStyles_c x Y HX HY _ (HT.out.below hv)).mono ?_
      rintro e W6 ⟨A, k, c, rfl, hk, hA, hb⟩
      have HK := Lib.hid hk
      have HA := Lib.hid hA
      clear hk hA
      replace HBX := Lib.hid (HBX.out.below hb)
      replace HBY := Lib.hid (HBY.out.below hb)
      replace hv := bl_trans hv hb
      clear hb
      go_wp2_with fail
      refine (HSW.out _ (HT.out.below hv)).mono ?_
      rintro e W7 ⟨B, cB, rfl, ho, hb⟩
      have HB := Lib.hid (Arr.own ho)
      replace HA := Lib.hid (HA.out.below hb)
      clear ho HSW
      replace HBX := Lib.hid (HBX.out.below hb)
      replace HBY := Lib.hid (HBY.out.below hb)
      replace hv := bl_trans hv hb
      clear hb
      go_wp2_with (refine wpList_load_row rfl 25 _ rfl gy rfl 25 #[Value.string Y.upper, Value.string Y.color, Value.string Y.lining, Value.string Y.sole, Value.int IntKind.i64 Y.thick, Value.int IntKind.i64 Y.heel, Value.int IntKind.i64 Y.eyelets, Value.int IntKind.i64 Y.density, Value.bool Y.double] (0, 0) _ HBY.out Tryd.underlying25 rfl (by kernel_rfl) ?_)
      refine (HCH.out _ (HT.out.below hv)).mono ?_
      rintro e W8 ⟨rfl, hb⟩
      replace HA := Lib.hid (HA.out.below hb)
      replace HB := Lib.hid (HB.out.below hb)
      clear HCH
      replace HBX := Lib.hid (HBX.out.below hb)
      replace HBY := Lib.hid (HBY.out.below hb)
      replace hv := bl_trans hv hb
      clear hb
      go_upto_region 10 with fail
      obtain ⟨W9, hWn⟩ : ∃ q9, q9 = World.alloc W8 (Obj.cells #[Value.string Y.upper, Value.string Y.color, Value.string Y.lining, Value.string Y.sole, Value.int IntKind.i64 Y.thick, Value.int IntKind.i64 Y.heel, Value.int IntKind.i64 Y.eyelets, Value.int IntKind.i64 Y.density, Value.bool Y.double] 25) := ⟨_, rfl⟩
      obtain ⟨g2, hgn⟩ : ∃ q9, q9 = W8.heap.size := ⟨_, rfl⟩
      have HB2 : Hid (Blk W9 g2 25 #[Value.string Y.upper, Value.string Y.color, Value.string Y.lining, Value.string Y.sole, Value.int IntKind.i64 Y.thick, Value.int IntKind.i64 Y.heel, Value.int IntKind.i64 Y.eyelets, Value.int IntKind.i64 Y.density, Value.bool Y.double]) := Lib.hid (by rw [hWn, hgn]; exact Blk.new _ _ _)
      have hb : Below W8.heap.size W8 W9 := by rw [hWn]; exact bl_alloc (Below.refl _ _) _
      rw [← hWn, ← hgn]
      clear hWn hgn
      replace HA := Lib.hid (HA.out.below hb)
      replace HB := Lib.hid (HB.out.below hb)
      replace HBX := Lib.hid (HBX.out.below hb)
      replace HBY := Lib.hid (HBY.out.below hb)
      replace hv := bl_trans hv hb
      clear hb
      have HVS := fun w => SValidStyle_c Y (Lib.hid (sty_fits HY.out)) w
      rw [HY.out] at HVS
      replace HVS := Lib.hid HVS
      have HQ := Style.run_neq Y Y
      rw [Style.beq_self] at HQ
      have hn2 : decide ((n : Int) < 2) = false := decide_eq_false (by omega)
      have hn3 : 0 < n := by omega
      obtain ⟨bd, hbd, _, d0⟩ := scell_at (k := 0) HB.out (by rw [HWS.out]; rfl)
      subst hbd
      replace d0 : W9.cell? bd = some (.string t) := d0
      have hkk : k = 0 ∨ k = 1 ∧ ∃ ad, A = some ad ∧ W9.cell? ad = some (.string t) := by
        rcases HDI.out with h | h
        · left; rw [HK.out, h]; rfl
        · right
          refine ⟨by rw [HK.out, h]; rfl, ?_⟩
          have h9 := HA.out
          rw [h, ← flat_str] at h9
          obtain ⟨ad, had, _, c0⟩ := scell_at (k := 0) h9 rfl
          exact ⟨ad, had, c0⟩
      clear HK HDI HWS HA HB HY HX
      have ky0 : W9.cell? ⟨gy, 0, none⟩ = some (.string Y.upper) := HBY.out.cell 0
      have kz0 : W9.cell? ⟨g2, 0, none⟩ = some (.string Y.upper) := HB2.out.cell 0
      have ky1 : W9.cell? ⟨gy, 1, none⟩ = some (.string Y.color) := HBY.out.cell 1
      have kz1 : W9.cell? ⟨g2, 1, none⟩ = some (.string Y.color) := HB2.out.cell 1
      have ky2 : W9.cell? ⟨gy, 2, none⟩ = some (.string Y.lining) := HBY.out.cell 2
      have kz2 : W9.cell? ⟨g2, 2, none⟩ = some (.string Y.lining) := HB2.out.cell 2
      have ky3 : W9.cell? ⟨gy, 3, none⟩ = some (.string Y.sole) := HBY.out.cell 3
      have kz3 : W9.cell? ⟨g2, 3, none⟩ = some (.string Y.sole) := HB2.out.cell 3
      have ky4 : W9.cell? ⟨gy, 4, none⟩ = some (.int .i64 Y.thick) := HBY.out.cell 4
      have kz4 : W9.cell? ⟨g2, 4, none⟩ = some (.int .i64 Y.thick) := HB2.out.cell 4
      have ky5 : W9.cell? ⟨gy, 5, none⟩ = some (.int .i64 Y.heel) := HBY.out.cell 5
      have kz5 : W9.cell? ⟨g2, 5, none⟩ = some (.int .i64 Y.heel) := HB2.out.cell 5
      have ky6 : W9.cell? ⟨gy, 6, none⟩ = some (.int .i64 Y.eyelets) := HBY.out.cell 6
      have kz6 : W9.cell? ⟨g2, 6, none⟩ = some (.int .i64 Y.eyelets) := HB2.out.cell 6
      have ky7 : W9.cell? ⟨gy, 7, none⟩ = some (.int .i64 Y.density) := HBY.out.cell 7
      have kz7 : W9.cell? ⟨g2, 7, none⟩ = some (.int .i64 Y.density) := HB2.out.cell 7
      have ky8 : W9.cell? ⟨gy, 8, none⟩ = some (.bool Y.double) := HBY.out.cell 8
      have kz8 : W9.cell? ⟨g2, 8, none⟩ = some (.bool Y.double) := HB2.out.cell 8
      rcases hkk with rfl | ⟨rfl, ad, rfl, c0⟩
      · skip
        refine wp_region_held_drew (S := fun w' => Below W9.heap.size W9 w' ∧ True) (by as_aux_lemma => kernel_rfl) ?_ (fun hHeld => ?_)
        · exact ⟨(Below.refl _ _).drew, trivial⟩
        have hd9 := hHeld.1
        refine wpAnyH_take (i := 0) (oi := { dst := some 51, op := _, type := _, pos := _, after := _, guard := _ }) (v := ?_) rfl (by as_aux_lemma => kernel_rfl) (by as_aux_lemma => kernel_rfl) (by as_aux_lemma => kernel_rfl) (fun _ _ _ h => h) (Or.inl ⟨by as_aux_lemma => kernel_rfl, ?_⟩) (by assumption) ?_
        rotate_left
        · intro w hSw
          try dsimp only at hSw
          have x_ky0 := bl_cell hSw.1 ky0
          have x_ky1 := bl_cell hSw.1 ky1
          have x_ky2 := bl_cell hSw.1 ky2
          have x_ky3 := bl_cell hSw.1 ky3
          have x_ky4 := bl_cell hSw.1 ky4
          have x_ky5 := bl_cell hSw.1 ky5
          have x_ky6 := bl_cell hSw.1 ky6
          have x_ky7 := bl_cell hSw.1 ky7
          have x_ky8 := bl_cell hSw.1 ky8
          go_simp
          try with_reducible rfl
        try simp only [Act.put, List.setIfInBounds_toArray, List.set_cons_zero, List.set_cons_succ]
        refine wpAnyH_ready (rs := [1]) (by as_aux_lemma => kernel_rfl) (by simp) ?_
        refine AllReadyH.cons (o := { dst := some 52, op := _, type := _, pos := _, after := _, guard := _ }) rfl (fun K hK => ?_) AllReadyH.nil
        go_simp
        (try dsimp only at hHeld); go_split_ands
        refine (HVS.out _).mono ?_
        rintro e V ⟨rfl, hb9⟩
        replace hd9 := bl_trans hd9 hb9
        clear hb9
        go_wp2_with fail
        refine hK.out _ _ ?_ (fun hHeld => ?_)
        · (try dsimp only); go_split_ands; exact ⟨hd9, trivial⟩
        clear hK K
        try simp only [Act.put, List.setIfInBounds_toArray, List.set_cons_zero, List.set_cons_succ]
        refine wpAnyH_take (i := 2) (oi := { dst := some 53, op := _, type := _, pos := _, after := _, guard := _ }) (v := ?_) rfl (by as_aux_lemma => kernel_rfl) (by as_aux_lemma => kernel_rfl) (by as_aux_lemma => kernel_rfl) (fun _ _ _ h => h) (Or.inl ⟨by as_aux_lemma => kernel_rfl, ?_⟩) (by assumption) ?_
        rotate_left
        · intro w hSw
          try dsimp only at hSw
          go_simp
          try with_reducible rfl
        try simp only [Act.put, List.setIfInBounds_toArray, List.set_cons_zero, List.set_cons_succ]
        refine wpAnyH_take (i := 3) (oi := { dst := some 54, op := _, type := _, pos := _, after := _, guard := _ }) (v := ?_) rfl (by as_aux_lemma => kernel_rfl) (by as_aux_lemma => kernel_rfl) (by as_aux_lemma => kernel_rfl) (fun _ _ _ h => h) (Or.inl ⟨by as_aux_lemma => kernel_rfl, ?_⟩) (by assumption) ?_
        rotate_left
        · intro w hSw
          try dsimp only at hSw
          go_simp
          try with_reducible rfl
        try simp only [Act.put, List.setIfInBounds_toArray, List.set_cons_zero, List.set_cons_succ]
        refine wpAnyH_take (i := 4) (oi := { dst := some 55, op := _, type := _, pos := _, after := _, guard := _ }) (v := ?_) rfl (by as_aux_lemma => kernel_rfl) (by as_aux_lemma => kernel_rfl) (by as_aux_lemma => kernel_rfl) (fun _ _ _ h => h) (Or.inl ⟨by as_aux_lemma => kernel_rfl, ?_⟩) (by assumption) ?_
        rotate_left
        · intro w hSw
          try dsimp only at hSw
          go_simp
          try with_reducible rfl
        try simp only [Act.put, List.setIfInBounds_toArray, List.set_cons_zero, List.set_cons_succ]
        refine wpAnyH_take (i := 5) (oi := { dst := some 56, op := _, type := _, pos := _, after := _, guard := _ }) (v := ?_) rfl (by as_aux_lemma => kernel_rfl) (by as_aux_lemma => kernel_rfl) (by as_aux_lemma => kernel_rfl) (fun _ _ _ h => h) (Or.inl ⟨by as_aux_lemma => kernel_rfl, ?_⟩) (by assumption) ?_
        rotate_left
        · intro w hSw
          try dsimp only at hSw
          go_simp
          try with_reducible rfl
        try simp only [Act.put, List.setIfInBounds_toArray, List.set_cons_zero, List.set_cons_succ]
        refine wpAnyH_take (i := 6) (oi := { dst := some 57, op := _, type := _, pos := _, after := _, guard := _ }) (v := ?_) rfl (by as_aux_lemma => kernel_rfl) (by as_aux_lemma => kernel_rfl) (by as_aux_lemma => kernel_rfl) (fun _ _ _ h => h) (Or.inl ⟨by as_aux_lemma => kernel_rfl, ?_⟩) (by assumption) ?_
        rotate_left
        · intro w hSw
          try dsimp only at hSw
          go_simp
          try with_reducible rfl
        try simp only [Act.put, List.setIfInBounds_toArray, List.set_cons_zero, List.set_cons_succ]
        refine wpAnyH_take (i := 7) (oi := { dst := some 58, op := _, type := _, pos := _, after := _, guard := _ }) (v := ?_) rfl (by as_aux_lemma => kernel_rfl) (by as_aux_lemma => kernel_rfl) (by as_aux_lemma => kernel_rfl) (fun _ _ _ h => h) (Or.inl ⟨by as_aux_lemma => kernel_rfl, ?_⟩) (by assumption) ?_
        rotate_left
        · intro w hSw
          try dsimp only at hSw
          go_simp
          try with_reducible rfl
        try simp only [Act.put, List.setIfInBounds_toArray, List.set_cons_zero, List.set_cons_succ]
        refine wpAnyH_take (i := 8) (oi := { dst := some 59, op := _, type := _, pos := _, after := _, guard := _ }) (v := ?_) rfl (by as_aux_lemma => kernel_rfl) (by as_aux_lemma => kernel_rfl) (by as_aux_lemma => kernel_rfl) (fun _ _ _ h => h) (Or.inl ⟨by as_aux_lemma => kernel_rfl, ?_⟩) (by assumption) ?_
        rotate_left
        · intro w hSw
          try dsimp only at hSw
          go_simp
          try with_reducible rfl
        try simp only [Act.put, List.setIfInBounds_toArray, List.set_cons_zero, List.set_cons_succ]
        refine wpAnyH_take (i := 9) (oi := { dst := some 60, op := _, type := _, pos := _, after := _, guard := _ }) (v := ?_) rfl (by as_aux_lemma => kernel_rfl) (by as_aux_lemma => kernel_rfl) (by as_aux_lemma => kernel_rfl) (fun _ _ _ h => h) (Or.inl ⟨by as_aux_lemma => kernel_rfl, ?_⟩) (by assumption) ?_
        rotate_left
        · intro w hSw
          try dsimp only at hSw
          go_simp
          try with_reducible rfl
        try simp only [Act.put, List.setIfInBounds_toArray, List.set_cons_zero, List.set_cons_succ]
        refine wpAnyH_take (i := 10) (oi := { dst := some 61, op := _, type := _, pos := _, after := _, guard := _ }) (v := ?_) rfl (by as_aux_lemma => kernel_rfl) (by as_aux_lemma => kernel_rfl) (by as_aux_lemma => kernel_rfl) (fun _ _ _ h => h) (Or.inl ⟨by as_aux_lemma => kernel_rfl, ?_⟩) (by assumption) ?_
        rotate_left
        · intro w hSw
          try dsimp only at hSw
          go_simp
          try with_reducible rfl
        try simp only [Act.put, List.setIfInBounds_toArray, List.set_cons_zero, List.set_cons_succ]
        refine wpAnyH_take (i := 11) (oi := { dst := some 62, op := _, type := _, pos := _, after := _, guard := _ }) (v := ?_) rfl (by as_aux_lemma => kernel_rfl) (by as_aux_lemma => kernel_rfl) (by as_aux_lemma => kernel_rfl) (fun _ _ _ h => h) (Or.inl ⟨by as_aux_lemma => kernel_rfl, ?_⟩) (by assumption) ?_
        rotate_left
        · intro w hSw
          try dsimp only at hSw
          go_simp
          try with_reducible rfl
        try simp only [Act.put, List.setIfInBounds_toArray, List.set_cons_zero, List.set_cons_succ]
        refine wpAnyH_take (i := 12) (oi := { dst := some 63, op := _, type := _, pos := _, after := _, guard := _ }) (v := ?_) rfl (by as_aux_lemma => kernel_rfl) (by as_aux_lemma => kernel_rfl) (by as_aux_lemma => kernel_rfl) (fun _ _ _ h => h) (Or.inl ⟨by as_aux_lemma => kernel_rfl, ?_⟩) (by assumption) ?_
        rotate_left
        · intro w hSw
          try dsimp only at hSw
          go_simp
          try with_reducible rfl
        try simp only [Act.put, List.setIfInBounds_toArray, List.set_cons_zero, List.set_cons_succ]
        refine wpAnyH_take (i := 13) (oi := { dst := some 64, op := _, type := _, pos := _, after := _, guard := _ }) (v := ?_) rfl (by as_aux_lemma => kernel_rfl) (by as_aux_lemma => kernel_rfl) (by as_aux_lemma => kernel_rfl) (fun _ _ _ h => h) (Or.inl ⟨by as_aux_lemma => kernel_rfl, ?_⟩) (by assumption) ?_
        rotate_left
        · intro w hSw
          try dsimp only at hSw
          go_simp
          try with_reducible rfl
        try simp only [Act.put, List.setIfInBounds_toArray, List.set_cons_zero, List.set_cons_succ]
        refine wpAnyH_take (i := 14) (oi := { dst := some 65, op := _, type := _, pos := _, after := _, guard := _ }) (v := ?_) rfl (by as_aux_lemma => kernel_rfl) (by as_aux_lemma => kernel_rfl) (by as_aux_lemma => kernel_rfl) (fun _ _ _ h => h) (Or.inl ⟨by as_aux_lemma => kernel_rfl, ?_⟩) (by assumption) ?_
        rotate_left
        · intro w hSw
          try dsimp only at hSw
          go_simp
          try with_reducible rfl
        try simp only [Act.put, List.setIfInBounds_toArray, List.set_cons_zero, List.set_cons_succ]
        refine wpAnyH_take (i := 15) (oi := { dst := some 66, op := _, type := _, pos := _, after := _, guard := _ }) (v := ?_) rfl (by as_aux_lemma => kernel_rfl) (by as_aux_lemma => kernel_rfl) (by as_aux_lemma => kernel_rfl) (fun _ _ _ h => h) (Or.inl ⟨by as_aux_lemma => kernel_rfl, ?_⟩) (by assumption) ?_
        rotate_left
        · intro w hSw
          try dsimp only at hSw
          go_simp
          try with_reducible rfl
        try simp only [Act.put, List.setIfInBounds_toArray, List.set_cons_zero, List.set_cons_succ]
        refine wpAnyH_take (i := 16) (oi := { dst := some 67, op := _, type := _, pos := _, after := _, guard := _ }) (v := ?_) rfl (by as_aux_lemma => kernel_rfl) (by as_aux_lemma => kernel_rfl) (by as_aux_lemma => kernel_rfl) (fun _ _ _ h => h) (Or.inl ⟨by as_aux_lemma => kernel_rfl, ?_⟩) (by assumption) ?_
        rotate_left
        · intro w hSw
          try dsimp only at hSw
          go_simp
          try with_reducible rfl
        try simp only [Act.put, List.setIfInBounds_toArray, List.set_cons_zero, List.set_cons_succ]
        refine wpAnyH_take (i := 17) (oi := { dst := some 68, op := _, type := _, pos := _, after := _, guard := _ }) (v := ?_) rfl (by as_aux_lemma => kernel_rfl) (by as_aux_lemma => kernel_rfl) (by as_aux_lemma => kernel_rfl) (fun _ _ _ h => h) (Or.inl ⟨by as_aux_lemma => kernel_rfl, ?_⟩) (by assumption) ?_
        rotate_left
        · intro w hSw
          try dsimp only at hSw
          go_simp
          try with_reducible rfl
        try simp only [Act.put, List.setIfInBounds_toArray, List.set_cons_zero, List.set_cons_succ]
        refine wpAnyH_take (i := 18) (oi := { dst := some 69, op := _, type := _, pos := _, after := _, guard := _ }) (v := ?_) rfl (by as_aux_lemma => kernel_rfl) (by as_aux_lemma => kernel_rfl) (by as_aux_lemma => kernel_rfl) (fun _ _ _ h => h) (Or.inl ⟨by as_aux_lemma => kernel_rfl, ?_⟩) (by assumption) ?_
        rotate_left
        · intro w hSw
          try dsimp only at hSw
          go_simp
          try with_reducible rfl
        try simp only [Act.put, List.setIfInBounds_toArray, List.set_cons_zero, List.set_cons_succ]
        refine wpAnyH_take (i := 19) (oi := { dst := some 70, op := _, type := _, pos := _, after := _, guard := _ }) (v := ?_) rfl (by as_aux_lemma => kernel_rfl) (by as_aux_lemma => kernel_rfl) (by as_aux_lemma => kernel_rfl) (fun _ _ _ h => h) (Or.inl ⟨by as_aux_lemma => kernel_rfl, ?_⟩) (by assumption) ?_
        rotate_left
        · intro w hSw
          try dsimp only at hSw
          go_simp
          try with_reducible rfl
        try simp only [Act.put, List.setIfInBounds_toArray, List.set_cons_zero, List.set_cons_succ]
        refine wpAnyH_take (i := 20) (oi := { dst := some 71, op := _, type := _, pos := _, after := _, guard := _ }) (v := ?_) rfl (by as_aux_lemma => kernel_rfl) (by as_aux_lemma => kernel_rfl) (by as_aux_lemma => kernel_rfl) (fun _ _ _ h => h) (Or.inl ⟨by as_aux_lemma => kernel_rfl, ?_⟩) (by assumption) ?_
        rotate_left
        · intro w hSw
          try dsimp only at hSw
          go_simp
          try with_reducible rfl
        try simp only [Act.put, List.setIfInBounds_toArray, List.set_cons_zero, List.set_cons_succ]
        refine wpAnyH_take (i := 21) (oi := { dst := some 72, op := _, type := _, pos := _, after := _, guard := _ }) (v := ?_) rfl (by as_aux_lemma => kernel_rfl) (by as_aux_lemma => kernel_rfl) (by as_aux_lemma => kernel_rfl) (fun _ _ _ h => h) (Or.inl ⟨by as_aux_lemma => kernel_rfl, ?_⟩) (by assumption) ?_
        rotate_left
        · intro w hSw
          try dsimp only at hSw
          go_simp
          try with_reducible rfl
        try simp only [Act.put, List.setIfInBounds_toArray, List.set_cons_zero, List.set_cons_succ]
        refine wpAnyH_take (i := 22) (oi := { dst := some 73, op := _, type := _, pos := _, after := _, guard := _ }) (v := undef) rfl (by as_aux_lemma => kernel_rfl) (by as_aux_lemma => kernel_rfl) (by as_aux_lemma => kernel_rfl) (fun _ _ _ h => h) (Or.inr ⟨by as_aux_lemma => kernel_rfl, rfl⟩) (by assumption) ?_
        try simp only [Act.put, List.setIfInBounds_toArray, List.set_cons_zero, List.set_cons_succ]
        refine wpAnyH_take (i := 23) (oi := { dst := some 74, op := _, type := _, pos := _, after := _, guard := _ }) (v := undef) rfl (by as_aux_lemma => kernel_rfl) (by as_aux_lemma => kernel_rfl) (by as_aux_lemma => kernel_rfl) (fun _ _ _ h => h) (Or.inr ⟨by as_aux_lemma => kernel_rfl, rfl⟩) (by assumption) ?_
        try simp only [Act.put, List.setIfInBounds_toArray, List.set_cons_zero, List.set_cons_succ]
        refine wpAnyH_take (i := 24) (oi := { dst := some 75, op := _, type := _, pos := _, after := _, guard := _ }) (v := undef) rfl (by as_aux_lemma => kernel_rfl) (by as_aux_lemma => kernel_rfl) (by as_aux_lemma => kernel_rfl) (fun _ _ _ h => h) (Or.inr ⟨by as_aux_lemma => kernel_rfl, rfl⟩) (by assumption) ?_
        try simp only [Act.put, List.setIfInBounds_toArray, List.set_cons_zero, List.set_cons_succ]
        refine wpAnyH_take (i := 25) (oi := { dst := some 76, op := _, type := _, pos := _, after := _, guard := _ }) (v := undef) rfl (by as_aux_lemma => kernel_rfl) (by as_aux_lemma => kernel_rfl) (by as_aux_lemma => kernel_rfl) (fun _ _ _ h => h) (Or.inr ⟨by as_aux_lemma => kernel_rfl, rfl⟩) (by assumption) ?_
        try simp only [Act.put, List.setIfInBounds_toArray, List.set_cons_zero, List.set_cons_succ]
        refine wpAnyH_take (i := 26) (oi := { dst := some 77, op := _, type := _, pos := _, after := _, guard := _ }) (v := undef) rfl (by as_aux_lemma => kernel_rfl) (by as_aux_lemma => kernel_rfl) (by as_aux_lemma => kernel_rfl) (fun _ _ _ h => h) (Or.inr ⟨by as_aux_lemma => kernel_rfl, rfl⟩) (by assumption) ?_
        try simp only [Act.put, List.setIfInBounds_toArray, List.set_cons_zero, List.set_cons_succ]
        refine wpAnyH_take (i := 27) (oi := { dst := some 78, op := _, type := _, pos := _, after := _, guard := _ }) (v := undef) rfl (by as_aux_lemma => kernel_rfl) (by as_aux_lemma => kernel_rfl) (by as_aux_lemma => kernel_rfl) (fun _ _ _ h => h) (Or.inr ⟨by as_aux_lemma => kernel_rfl, rfl⟩) (by assumption) ?_
        try simp only [Act.put, List.setIfInBounds_toArray, List.set_cons_zero, List.set_cons_succ]
        refine wpAnyH_take (i := 28) (oi := { dst := some 79, op := _, type := _, pos := _, after := _, guard := _ }) (v := undef) rfl (by as_aux_lemma => kernel_rfl) (by as_aux_lemma => kernel_rfl) (by as_aux_lemma => kernel_rfl) (fun _ _ _ h => h) (Or.inr ⟨by as_aux_lemma => kernel_rfl, rfl⟩) (by assumption) ?_
        try simp only [Act.put, List.setIfInBounds_toArray, List.set_cons_zero, List.set_cons_succ]
        refine wpAnyH_take (i := 29) (oi := { dst := some 80, op := _, type := _, pos := _, after := _, guard := _ }) (v := ?_) rfl (by as_aux_lemma => kernel_rfl) (by as_aux_lemma => kernel_rfl) (by as_aux_lemma => kernel_rfl) (fun _ _ _ h => h) (Or.inl ⟨by as_aux_lemma => kernel_rfl, ?_⟩) (by assumption) ?_
        rotate_left
        · intro w hSw
          try dsimp only at hSw
          go_simp
          try with_reducible rfl
        try simp only [Act.put, List.setIfInBounds_toArray, List.set_cons_zero, List.set_cons_succ]
        refine wpAnyH_take (i := 30) (oi := { dst := some 81, op := _, type := _, pos := _, after := _, guard := _ }) (v := ?_) rfl (by as_aux_lemma => kernel_rfl) (by as_aux_lemma => kernel_rfl) (by as_aux_lemma => kernel_rfl) (fun _ _ _ h => h) (Or.inl ⟨by as_aux_lemma => kernel_rfl, ?_⟩) (by assumption) ?_
        rotate_left
        · intro w hSw
          try dsimp only at hSw
          go_simp
          try with_reducible rfl
        try simp only [Act.put, List.setIfInBounds_toArray, List.set_cons_zero, List.set_cons_succ]
        refine wpAnyH_take (i := 31) (oi := { dst := some 82, op := _, type := _, pos := _, after := _, guard := _ }) (v := ?_) rfl (by as_aux_lemma => kernel_rfl) (by as_aux_lemma => kernel_rfl) (by as_aux_lemma => kernel_rfl) (fun _ _ _ h => h) (Or.inl ⟨by as_aux_lemma => kernel_rfl, ?_⟩) (by assumption) ?_
        rotate_left
        · intro w hSw
          try dsimp only at hSw
          go_simp
          try with_reducible rfl
        try simp only [Act.put, List.setIfInBounds_toArray, List.set_cons_zero, List.set_cons_succ]
        refine wpAnyH_take (i := 32) (oi := { dst := some 83, op := _, type := _, pos := _, after := _, guard := _ }) (v := ?_) rfl (by as_aux_lemma => kernel_rfl) (by as_aux_lemma => kernel_rfl) (by as_aux_lemma => kernel_rfl) (fun _ _ _ h => h) (Or.inl ⟨by as_aux_lemma => kernel_rfl, ?_⟩) (by assumption) ?_
        rotate_left
        · intro w hSw
          try dsimp only at hSw
          go_simp
          try with_reducible rfl
        try simp only [Act.put, List.setIfInBounds_toArray, List.set_cons_zero, List.set_cons_succ]
        refine wpAnyH_take (i := 33) (oi := { dst := some 84, op := _, type := _, pos := _, after := _, guard := _ }) (v := ?_) rfl (by as_aux_lemma => kernel_rfl) (by as_aux_lemma => kernel_rfl) (by as_aux_lemma => kernel_rfl) (fun _ _ _ h => h) (Or.inl ⟨by as_aux_lemma => kernel_rfl, ?_⟩) (by assumption) ?_
        rotate_left
        · intro w hSw
          try dsimp only at hSw
          go_simp
          try with_reducible rfl
        try simp only [Act.put, List.setIfInBounds_toArray, List.set_cons_zero, List.set_cons_succ]
        refine wpAnyH_take (i := 34) (oi := { dst := some 85, op := _, type := _, pos := _, after := _, guard := _ }) (v := ?_) rfl (by as_aux_lemma => kernel_rfl) (by as_aux_lemma => kernel_rfl) (by as_aux_lemma => kernel_rfl) (fun _ _ _ h => h) (Or.inl ⟨by as_aux_lemma => kernel_rfl, ?_⟩) (by assumption) ?_
        rotate_left
        · intro w hSw
          try dsimp only at hSw
          go_simp
          try with_reducible rfl
        try simp only [Act.put, List.setIfInBounds_toArray, List.set_cons_zero, List.set_cons_succ]
        refine wpAnyH_take (i := 35) (oi := { dst := some 86, op := _, type := _, pos := _, after := _, guard := _ }) (v := ?_) rfl (by as_aux_lemma => kernel_rfl) (by as_aux_lemma => kernel_rfl) (by as_aux_lemma => kernel_rfl) (fun _ _ _ h => h) (Or.inl ⟨by as_aux_lemma => kernel_rfl, ?_⟩) (by assumption) ?_
        rotate_left
        · intro w hSw
          try dsimp only at hSw
          go_simp
          try with_reducible rfl
        try simp only [Act.put, List.setIfInBounds_toArray, List.set_cons_zero, List.set_cons_succ]
        refine wpAnyH_take (i := 36) (oi := { dst := some 87, op := _, type := _, pos := _, after := _, guard := _ }) (v := ?_) rfl (by as_aux_lemma => kernel_rfl) (by as_aux_lemma => kernel_rfl) (by as_aux_lemma => kernel_rfl) (fun _ _ _ h => h) (Or.inl ⟨by as_aux_lemma => kernel_rfl, ?_⟩) (by assumption) ?_
        rotate_left
        · intro w hSw
          try dsimp only at hSw
          have x_kz0 := bl_cell hSw.1 kz0
          have x_kz1 := bl_cell hSw.1 kz1
          have x_kz2 := bl_cell hSw.1 kz2
          have x_kz3 := bl_cell hSw.1 kz3
          have x_kz4 := bl_cell hSw.1 kz4
          have x_kz5 := bl_cell hSw.1 kz5
          have x_kz6 := bl_cell hSw.1 kz6
          have x_kz7 := bl_cell hSw.1 kz7
          have x_kz8 := bl_cell hSw.1 kz8
          go_simp
          try with_reducible rfl
        try simp only [Act.put, List.setIfInBounds_toArray, List.set_cons_zero, List.set_cons_succ]
        refine wpAnyH_take (i := 37) (oi := { dst := some 88, op := _, type := _, pos := _, after := _, guard := _ }) (v := ?_) rfl (by as_aux_lemma => kernel_rfl) (by as_aux_lemma => kernel_rfl) (by as_aux_lemma => kernel_rfl) (fun _ _ _ h => h) (Or.inl ⟨by as_aux_lemma => kernel_rfl, ?_⟩) (by assumption) ?_
        rotate_left
        · intro w hSw
          try dsimp only at hSw
          have x_ky0 := bl_cell hSw.1 ky0
          have x_ky1 := bl_cell hSw.1 ky1
          have x_ky2 := bl_cell hSw.1 ky2
          have x_ky3 := bl_cell hSw.1 ky3
          have x_ky4 := bl_cell hSw.1 ky4
          have x_ky5 := bl_cell hSw.1 ky5
          have x_ky6 := bl_cell hSw.1 ky6
          have x_ky7 := bl_cell hSw.1 ky7
          have x_ky8 := bl_cell hSw.1 ky8
          go_simp
          try with_reducible rfl
        try simp only [Act.put, List.setIfInBounds_toArray, List.set_cons_zero, List.set_cons_succ]
        refine wpAnyH_take (i := 38) (oi := { dst := some 89, op := _, type := _, pos := _, after := _, guard := _ }) (v := ?_) rfl (by as_aux_lemma => kernel_rfl) (by as_aux_lemma => kernel_rfl) (by as_aux_lemma => kernel_rfl) (fun _ _ _ h => h) (Or.inl ⟨by as_aux_lemma => kernel_rfl, ?_⟩) (by assumption) ?_
        rotate_left
        · intro w hSw
          try dsimp only at hSw
          go_simp
          try with_reducible rfl
        try simp only [Act.put, List.setIfInBounds_toArray, List.set_cons_zero, List.set_cons_succ]
        refine wpAnyH_take (i := 39) (oi := { dst := some 90, op := _, type := _, pos := _, after := _, guard := _ }) (v := ?_) rfl (by as_aux_lemma => kernel_rfl) (by as_aux_lemma => kernel_rfl) (by as_aux_lemma => kernel_rfl) (fun _ _ _ h => h) (Or.inl ⟨by as_aux_lemma => kernel_rfl, ?_⟩) (by assumption) ?_
        rotate_left
        · intro w hSw
          try dsimp only at hSw
          go_simp
          try with_reducible rfl
        try simp only [Act.put, List.setIfInBounds_toArray, List.set_cons_zero, List.set_cons_succ]
        refine wpAnyH_done (by as_aux_lemma => kernel_rfl) ?_ _
        clear hHeld
        replace HBX := Lib.hid (HBX.out.below hd9)
        replace hv := bl_trans hv hd9
        go_wp2_with fail
        go_meet
        exact ⟨HBX, hv⟩
      · skip
        refine wp_region_held_drew (S := fun w' => Below W9.heap.size W9 w' ∧ True) (by as_aux_lemma => kernel_rfl) ?_ (fun hHeld => ?_)
        · exact ⟨(Below.refl _ _).drew, trivial⟩
        have hd9 := hHeld.1
        refine wpAnyH_take (i := 0) (oi := { dst := some 51, op := _, type := _, pos := _, after := _, guard := _ }) (v := ?_) rfl (by as_aux_lemma => kernel_rfl) (by as_aux_lemma => kernel_rfl) (by as_aux_lemma => kernel_rfl) (fun _ _ _ h => h) (Or.inl ⟨by as_aux_lemma => kernel_rfl, ?_⟩) (by assumption) ?_
        rotate_left
        · intro w hSw
          try dsimp only at hSw
          have x_ky0 := bl_cell hSw.1 ky0
          have x_ky1 := bl_cell hSw.1 ky1
          have x_ky2 := bl_cell hSw.1 ky2
          have x_ky3 := bl_cell hSw.1 ky3
          have x_ky4 := bl_cell hSw.1 ky4
          have x_ky5 := bl_cell hSw.1 ky5
          have x_ky6 := bl_cell hSw.1 ky6
          have x_ky7 := bl_cell hSw.1 ky7
          have x_ky8 := bl_cell hSw.1 ky8
          go_simp
          try with_reducible rfl
        try simp only [Act.put, List.setIfInBounds_toArray, List.set_cons_zero, List.set_cons_succ]
        refine wpAnyH_ready (rs := [1]) (by as_aux_lemma => kernel_rfl) (by simp) ?_
        refine AllReadyH.cons (o := { dst := some 52, op := _, type := _, pos := _, after := _, guard := _ }) rfl (fun K hK => ?_) AllReadyH.nil
        go_simp
        (try dsimp only at hHeld); go_split_ands
        refine (HVS.out _).mono ?_
        rintro e V ⟨rfl, hb9⟩
        replace hd9 := bl_trans hd9 hb9
        clear hb9
        go_wp2_with fail
        refine hK.out _ _ ?_ (fun hHeld => ?_)
        · (try dsimp only); go_split_ands; exact ⟨hd9, trivial⟩
        clear hK K
        try simp only [Act.put, List.setIfInBounds_toArray, List.set_cons_zero, List.set_cons_succ]
        refine wpAnyH_take (i := 2) (oi := { dst := some 53, op := _, type := _, pos := _, after := _, guard := _ }) (v := ?_) rfl (by as_aux_lemma => kernel_rfl) (by as_aux_lemma => kernel_rfl) (by as_aux_lemma => kernel_rfl) (fun _ _ _ h => h) (Or.inl ⟨by as_aux_lemma => kernel_rfl, ?_⟩) (by assumption) ?_
        rotate_left
        · intro w hSw
          try dsimp only at hSw
          go_simp
          try with_reducible rfl
        try simp only [Act.put, List.setIfInBounds_toArray, List.set_cons_zero, List.set_cons_succ]
        refine wpAnyH_take (i := 3) (oi := { dst := some 54, op := _, type := _, pos := _, after := _, guard := _ }) (v := ?_) rfl (by as_aux_lemma => kernel_rfl) (by as_aux_lemma => kernel_rfl) (by as_aux_lemma => kernel_rfl) (fun _ _ _ h => h) (Or.inl ⟨by as_aux_lemma => kernel_rfl, ?_⟩) (by assumption) ?_
        rotate_left
        · intro w hSw
          try dsimp only at hSw
          go_simp
          try with_reducible rfl
        try simp only [Act.put, List.setIfInBounds_toArray, List.set_cons_zero, List.set_cons_succ]
        refine wpAnyH_take (i := 4) (oi := { dst := some 55, op := _, type := _, pos := _, after := _, guard := _ }) (v := ?_) rfl (by as_aux_lemma => kernel_rfl) (by as_aux_lemma => kernel_rfl) (by as_aux_lemma => kernel_rfl) (fun _ _ _ h => h) (Or.inl ⟨by as_aux_lemma => kernel_rfl, ?_⟩) (by assumption) ?_
        rotate_left
        · intro w hSw
          try dsimp only at hSw
          go_simp
          try with_reducible rfl
        try simp only [Act.put, List.setIfInBounds_toArray, List.set_cons_zero, List.set_cons_succ]
        refine wpAnyH_take (i := 5) (oi := { dst := some 56, op := _, type := _, pos := _, after := _, guard := _ }) (v := ?_) rfl (by as_aux_lemma => kernel_rfl) (by as_aux_lemma => kernel_rfl) (by as_aux_lemma => kernel_rfl) (fun _ _ _ h => h) (Or.inl ⟨by as_aux_lemma => kernel_rfl, ?_⟩) (by assumption) ?_
        rotate_left
        · intro w hSw
          try dsimp only at hSw
          go_simp
          try with_reducible rfl
        try simp only [Act.put, List.setIfInBounds_toArray, List.set_cons_zero, List.set_cons_succ]
        refine wpAnyH_take (i := 6) (oi := { dst := some 57, op := _, type := _, pos := _, after := _, guard := _ }) (v := ?_) rfl (by as_aux_lemma => kernel_rfl) (by as_aux_lemma => kernel_rfl) (by as_aux_lemma => kernel_rfl) (fun _ _ _ h => h) (Or.inl ⟨by as_aux_lemma => kernel_rfl, ?_⟩) (by assumption) ?_
        rotate_left
        · intro w hSw
          try dsimp only at hSw
          go_simp
          try with_reducible rfl
        try simp only [Act.put, List.setIfInBounds_toArray, List.set_cons_zero, List.set_cons_succ]
        refine wpAnyH_take (i := 7) (oi := { dst := some 58, op := _, type := _, pos := _, after := _, guard := _ }) (v := ?_) rfl (by as_aux_lemma => kernel_rfl) (by as_aux_lemma => kernel_rfl) (by as_aux_lemma => kernel_rfl) (fun _ _ _ h => h) (Or.inl ⟨by as_aux_lemma => kernel_rfl, ?_⟩) (by assumption) ?_
        rotate_left
        · intro w hSw
          try dsimp only at hSw
          go_simp
          try with_reducible rfl
        try simp only [Act.put, List.setIfInBounds_toArray, List.set_cons_zero, List.set_cons_succ]
        refine wpAnyH_take (i := 8) (oi := { dst := some 59, op := _, type := _, pos := _, after := _, guard := _ }) (v := ?_) rfl (by as_aux_lemma => kernel_rfl) (by as_aux_lemma => kernel_rfl) (by as_aux_lemma => kernel_rfl) (fun _ _ _ h => h) (Or.inl ⟨by as_aux_lemma => kernel_rfl, ?_⟩) (by assumption) ?_
        rotate_left
        · intro w hSw
          try dsimp only at hSw
          go_simp
          try with_reducible rfl
        try simp only [Act.put, List.setIfInBounds_toArray, List.set_cons_zero, List.set_cons_succ]
        refine wpAnyH_take (i := 9) (oi := { dst := some 60, op := _, type := _, pos := _, after := _, guard := _ }) (v := ?_) rfl (by as_aux_lemma => kernel_rfl) (by as_aux_lemma => kernel_rfl) (by as_aux_lemma => kernel_rfl) (fun _ _ _ h => h) (Or.inl ⟨by as_aux_lemma => kernel_rfl, ?_⟩) (by assumption) ?_
        rotate_left
        · intro w hSw
          try dsimp only at hSw
          go_simp
          try with_reducible rfl
        try simp only [Act.put, List.setIfInBounds_toArray, List.set_cons_zero, List.set_cons_succ]
        refine wpAnyH_take (i := 10) (oi := { dst := some 61, op := _, type := _, pos := _, after := _, guard := _ }) (v := ?_) rfl (by as_aux_lemma => kernel_rfl) (by as_aux_lemma => kernel_rfl) (by as_aux_lemma => kernel_rfl) (fun _ _ _ h => h) (Or.inl ⟨by as_aux_lemma => kernel_rfl, ?_⟩) (by assumption) ?_
        rotate_left
        · intro w hSw
          try dsimp only at hSw
          go_simp
          try with_reducible rfl
        try simp only [Act.put, List.setIfInBounds_toArray, List.set_cons_zero, List.set_cons_succ]
        refine wpAnyH_take (i := 11) (oi := { dst := some 62, op := _, type := _, pos := _, after := _, guard := _ }) (v := ?_) rfl (by as_aux_lemma => kernel_rfl) (by as_aux_lemma => kernel_rfl) (by as_aux_lemma => kernel_rfl) (fun _ _ _ h => h) (Or.inl ⟨by as_aux_lemma => kernel_rfl, ?_⟩) (by assumption) ?_
        rotate_left
        · intro w hSw
          try dsimp only at hSw
          go_simp
          try with_reducible rfl
        try simp only [Act.put, List.setIfInBounds_toArray, List.set_cons_zero, List.set_cons_succ]
        refine wpAnyH_take (i := 12) (oi := { dst := some 63, op := _, type := _, pos := _, after := _, guard := _ }) (v := ?_) rfl (by as_aux_lemma => kernel_rfl) (by as_aux_lemma => kernel_rfl) (by as_aux_lemma => kernel_rfl) (fun _ _ _ h => h) (Or.inl ⟨by as_aux_lemma => kernel_rfl, ?_⟩) (by assumption) ?_
        rotate_left
        · intro w hSw
          try dsimp only at hSw
          go_simp
          try with_reducible rfl
        try simp only [Act.put, List.setIfInBounds_toArray, List.set_cons_zero, List.set_cons_succ]
        refine wpAnyH_take (i := 13) (oi := { dst := some 64, op := _, type := _, pos := _, after := _, guard := _ }) (v := ?_) rfl (by as_aux_lemma => kernel_rfl) (by as_aux_lemma => kernel_rfl) (by as_aux_lemma => kernel_rfl) (fun _ _ _ h => h) (Or.inl ⟨by as_aux_lemma => kernel_rfl, ?_⟩) (by assumption) ?_
        rotate_left
        · intro w hSw
          try dsimp only at hSw
          go_simp
          try with_reducible rfl
        try simp only [Act.put, List.setIfInBounds_toArray, List.set_cons_zero, List.set_cons_succ]
        refine wpAnyH_take (i := 14) (oi := { dst := some 65, op := _, type := _, pos := _, after := _, guard := _ }) (v := ?_) rfl (by as_aux_lemma => kernel_rfl) (by as_aux_lemma => kernel_rfl) (by as_aux_lemma => kernel_rfl) (fun _ _ _ h => h) (Or.inl ⟨by as_aux_lemma => kernel_rfl, ?_⟩) (by assumption) ?_
        rotate_left
        · intro w hSw
          try dsimp only at hSw
          go_simp
          try with_reducible rfl
        try simp only [Act.put, List.setIfInBounds_toArray, List.set_cons_zero, List.set_cons_succ]
        refine wpAnyH_take (i := 15) (oi := { dst := some 66, op := _, type := _, pos := _, after := _, guard := _ }) (v := ?_) rfl (by as_aux_lemma => kernel_rfl) (by as_aux_lemma => kernel_rfl) (by as_aux_lemma => kernel_rfl) (fun _ _ _ h => h) (Or.inl ⟨by as_aux_lemma => kernel_rfl, ?_⟩) (by assumption) ?_
        rotate_left
        · intro w hSw
          try dsimp only at hSw
          go_simp
          try with_reducible rfl
        try simp only [Act.put, List.setIfInBounds_toArray, List.set_cons_zero, List.set_cons_succ]
        refine wpAnyH_take (i := 16) (oi := { dst := some 67, op := _, type := _, pos := _, after := _, guard := _ }) (v := ?_) rfl (by as_aux_lemma => kernel_rfl) (by as_aux_lemma => kernel_rfl) (by as_aux_lemma => kernel_rfl) (fun _ _ _ h => h) (Or.inl ⟨by as_aux_lemma => kernel_rfl, ?_⟩) (by assumption) ?_
        rotate_left
        · intro w hSw
          try dsimp only at hSw
          go_simp
          try with_reducible rfl
        try simp only [Act.put, List.setIfInBounds_toArray, List.set_cons_zero, List.set_cons_succ]
        refine wpAnyH_take (i := 17) (oi := { dst := some 68, op := _, type := _, pos := _, after := _, guard := _ }) (v := ?_) rfl (by as_aux_lemma => kernel_rfl) (by as_aux_lemma => kernel_rfl) (by as_aux_lemma => kernel_rfl) (fun _ _ _ h => h) (Or.inl ⟨by as_aux_lemma => kernel_rfl, ?_⟩) (by assumption) ?_
        rotate_left
        · intro w hSw
          try dsimp only at hSw
          go_simp
          try with_reducible rfl
        try simp only [Act.put, List.setIfInBounds_toArray, List.set_cons_zero, List.set_cons_succ]
        refine wpAnyH_take (i := 18) (oi := { dst := some 69, op := _, type := _, pos := _, after := _, guard := _ }) (v := ?_) rfl (by as_aux_lemma => kernel_rfl) (by as_aux_lemma => kernel_rfl) (by as_aux_lemma => kernel_rfl) (fun _ _ _ h => h) (Or.inl ⟨by as_aux_lemma => kernel_rfl, ?_⟩) (by assumption) ?_
        rotate_left
        · intro w hSw
          try dsimp only at hSw
          go_simp
          try with_reducible rfl
        try simp only [Act.put, List.setIfInBounds_toArray, List.set_cons_zero, List.set_cons_succ]
        refine wpAnyH_take (i := 19) (oi := { dst := some 70, op := _, type := _, pos := _, after := _, guard := _ }) (v := ?_) rfl (by as_aux_lemma => kernel_rfl) (by as_aux_lemma => kernel_rfl) (by as_aux_lemma => kernel_rfl) (fun _ _ _ h => h) (Or.inl ⟨by as_aux_lemma => kernel_rfl, ?_⟩) (by assumption) ?_
        rotate_left
        · intro w hSw
          try dsimp only at hSw
          go_simp
          try with_reducible rfl
        try simp only [Act.put, List.setIfInBounds_toArray, List.set_cons_zero, List.set_cons_succ]
        refine wpAnyH_take (i := 20) (oi := { dst := some 71, op := _, type := _, pos := _, after := _, guard := _ }) (v := ?_) rfl (by as_aux_lemma => kernel_rfl) (by as_aux_lemma => kernel_rfl) (by as_aux_lemma => kernel_rfl) (fun _ _ _ h => h) (Or.inl ⟨by as_aux_lemma => kernel_rfl, ?_⟩) (by assumption) ?_
        rotate_left
        · intro w hSw
          try dsimp only at hSw
          go_simp
          try with_reducible rfl
        try simp only [Act.put, List.setIfInBounds_toArray, List.set_cons_zero, List.set_cons_succ]
        refine wpAnyH_take (i := 21) (oi := { dst := some 72, op := _, type := _, pos := _, after := _, guard := _ }) (v := ?_) rfl (by as_aux_lemma => kernel_rfl) (by as_aux_lemma => kernel_rfl) (by as_aux_lemma => kernel_rfl) (fun _ _ _ h => h) (Or.inl ⟨by as_aux_lemma => kernel_rfl, ?_⟩) (by assumption) ?_
        rotate_left
        · intro w hSw
          try dsimp only at hSw
          go_simp
          try with_reducible rfl
        try simp only [Act.put, List.setIfInBounds_toArray, List.set_cons_zero, List.set_cons_succ]
        refine wpAnyH_take (i := 22) (oi := { dst := some 73, op := _, type := _, pos := _, after := _, guard := _ }) (v := ?_) rfl (by as_aux_lemma => kernel_rfl) (by as_aux_lemma => kernel_rfl) (by as_aux_lemma => kernel_rfl) (fun _ _ _ h => h) (Or.inl ⟨by as_aux_lemma => kernel_rfl, ?_⟩) (by assumption) ?_
        rotate_left
        · intro w hSw
          try dsimp only at hSw
          go_simp
          try with_reducible rfl
        try simp only [Act.put, List.setIfInBounds_toArray, List.set_cons_zero, List.set_cons_succ]
        refine wpAnyH_take (i := 23) (oi := { dst := some 74, op := _, type := _, pos := _, after := _, guard := _ }) (v := ?_) rfl (by as_aux_lemma => kernel_rfl) (by as_aux_lemma => kernel_rfl) (by as_aux_lemma => kernel_rfl) (fun _ _ _ h => h) (Or.inl ⟨by as_aux_lemma => kernel_rfl, ?_⟩) (by assumption) ?_
        rotate_left
        · intro w hSw
          try dsimp only at hSw
          have x_c0 := bl_cell hSw.1 c0
          go_simp
          try with_reducible rfl
        try simp only [Act.put, List.setIfInBounds_toArray, List.set_cons_zero, List.set_cons_succ]
        refine wpAnyH_take (i := 24) (oi := { dst := some 75, op := _, type := _, pos := _, after := _, guard := _ }) (v := ?_) rfl (by as_aux_lemma => kernel_rfl) (by as_aux_lemma => kernel_rfl) (by as_aux_lemma => kernel_rfl) (fun _ _ _ h => h) (Or.inl ⟨by as_aux_lemma => kernel_rfl, ?_⟩) (by assumption) ?_
        rotate_left
        · intro w hSw
          try dsimp only at hSw
          have x_c0 := bl_cell hSw.1 c0
          go_simp
          try with_reducible rfl
        try simp only [Act.put, List.setIfInBounds_toArray, List.set_cons_zero, List.set_cons_succ]
        refine wpAnyH_take (i := 25) (oi := { dst := some 76, op := _, type := _, pos := _, after := _, guard := _ }) (v := ?_) rfl (by as_aux_lemma => kernel_rfl) (by as_aux_lemma => kernel_rfl) (by as_aux_lemma => kernel_rfl) (fun _ _ _ h => h) (Or.inl ⟨by as_aux_lemma => kernel_rfl, ?_⟩) (by assumption) ?_
        rotate_left
        · intro w hSw
          try dsimp only at hSw
          go_simp
          try with_reducible rfl
        try simp only [Act.put, List.setIfInBounds_toArray, List.set_cons_zero, List.set_cons_succ]
        refine wpAnyH_take (i := 26) (oi := { dst := some 77, op := _, type := _, pos := _, after := _, guard := _ }) (v := ?_) rfl (by as_aux_lemma => kernel_rfl) (by as_aux_lemma => kernel_rfl) (by as_aux_lemma => kernel_rfl) (fun _ _ _ h => h) (Or.inl ⟨by as_aux_lemma => kernel_rfl, ?_⟩) (by assumption) ?_
        rotate_left
        · intro w hSw
          try dsimp only at hSw
          have x_d0 := bl_cell hSw.1 d0
          go_simp
          try with_reducible rfl
        try simp only [Act.put, List.setIfInBounds_toArray, List.set_cons_zero, List.set_cons_succ]
        refine wpAnyH_take (i := 27) (oi := { dst := some 78, op := _, type := _, pos := _, after := _, guard := _ }) (v := ?_) rfl (by as_aux_lemma => kernel_rfl) (by as_aux_lemma => kernel_rfl) (by as_aux_lemma => kernel_rfl) (fun _ _ _ h => h) (Or.inl ⟨by as_aux_lemma => kernel_rfl, ?_⟩) (by assumption) ?_
        rotate_left
        · intro w hSw
          try dsimp only at hSw
          have x_d0 := bl_cell hSw.1 d0
          go_simp
          try with_reducible rfl
        try simp only [Act.put, List.setIfInBounds_toArray, List.set_cons_zero, List.set_cons_succ]
        refine wpAnyH_take (i := 28) (oi := { dst := some 79, op := _, type := _, pos := _, after := _, guard := _ }) (v := ?_) rfl (by as_aux_lemma => kernel_rfl) (by as_aux_lemma => kernel_rfl) (by as_aux_lemma => kernel_rfl) (fun _ _ _ h => h) (Or.inl ⟨by as_aux_lemma => kernel_rfl, ?_⟩) (by assumption) ?_
        rotate_left
        · intro w hSw
          try dsimp only at hSw
          go_simp
          try with_reducible rfl
        try simp only [Act.put, List.setIfInBounds_toArray, List.set_cons_zero, List.set_cons_succ]
        refine wpAnyH_take (i := 29) (oi := { dst := some 80, op := _, type := _, pos := _, after := _, guard := _ }) (v := ?_) rfl (by as_aux_lemma => kernel_rfl) (by as_aux_lemma => kernel_rfl) (by as_aux_lemma => kernel_rfl) (fun _ _ _ h => h) (Or.inl ⟨by as_aux_lemma => kernel_rfl, ?_⟩) (by assumption) ?_
        rotate_left
        · intro w hSw
          try dsimp only at hSw
          go_simp
          try with_reducible rfl
        try simp only [Act.put, List.setIfInBounds_toArray, List.set_cons_zero, List.set_cons_succ]
        refine wpAnyH_take (i := 30) (oi := { dst := some 81, op := _, type := _, pos := _, after := _, guard := _ }) (v := ?_) rfl (by as_aux_lemma => kernel_rfl) (by as_aux_lemma => kernel_rfl) (by as_aux_lemma => kernel_rfl) (fun _ _ _ h => h) (Or.inl ⟨by as_aux_lemma => kernel_rfl, ?_⟩) (by assumption) ?_
        rotate_left
        · intro w hSw
          try dsimp only at hSw
          go_simp
          try with_reducible rfl
        try simp only [Act.put, List.setIfInBounds_toArray, List.set_cons_zero, List.set_cons_succ]
        refine wpAnyH_take (i := 31) (oi := { dst := some 82, op := _, type := _, pos := _, after := _, guard := _ }) (v := ?_) rfl (by as_aux_lemma => kernel_rfl) (by as_aux_lemma => kernel_rfl) (by as_aux_lemma => kernel_rfl) (fun _ _ _ h => h) (Or.inl ⟨by as_aux_lemma => kernel_rfl, ?_⟩) (by assumption) ?_
        rotate_left
        · intro w hSw
          try dsimp only at hSw
          go_simp
          try with_reducible rfl
        try simp only [Act.put, List.setIfInBounds_toArray, List.set_cons_zero, List.set_cons_succ]
        refine wpAnyH_take (i := 32) (oi := { dst := some 83, op := _, type := _, pos := _, after := _, guard := _ }) (v := ?_) rfl (by as_aux_lemma => kernel_rfl) (by as_aux_lemma => kernel_rfl) (by as_aux_lemma => kernel_rfl) (fun _ _ _ h => h) (Or.inl ⟨by as_aux_lemma => kernel_rfl, ?_⟩) (by assumption) ?_
        rotate_left
        · intro w hSw
          try dsimp only at hSw
          go_simp
          try with_reducible rfl
        try simp only [Act.put, List.setIfInBounds_toArray, List.set_cons_zero, List.set_cons_succ]
        refine wpAnyH_take (i := 33) (oi := { dst := some 84, op := _, type := _, pos := _, after := _, guard := _ }) (v := ?_) rfl (by as_aux_lemma => kernel_rfl) (by as_aux_lemma => kernel_rfl) (by as_aux_lemma => kernel_rfl) (fun _ _ _ h => h) (Or.inl ⟨by as_aux_lemma => kernel_rfl, ?_⟩) (by assumption) ?_
        rotate_left
        · intro w hSw
          try dsimp only at hSw
          go_simp
          try with_reducible rfl
        try simp only [Act.put, List.setIfInBounds_toArray, List.set_cons_zero, List.set_cons_succ]
        refine wpAnyH_take (i := 34) (oi := { dst := some 85, op := _, type := _, pos := _, after := _, guard := _ }) (v := ?_) rfl (by as_aux_lemma => kernel_rfl) (by as_aux_lemma => kernel_rfl) (by as_aux_lemma => kernel_rfl) (fun _ _ _ h => h) (Or.inl ⟨by as_aux_lemma => kernel_rfl, ?_⟩) (by assumption) ?_
        rotate_left
        · intro w hSw
          try dsimp only at hSw
          go_simp
          try with_reducible rfl
        try simp only [Act.put, List.setIfInBounds_toArray, List.set_cons_zero, List.set_cons_succ]
        refine wpAnyH_take (i := 35) (oi := { dst := some 86, op := _, type := _, pos := _, after := _, guard := _ }) (v := ?_) rfl (by as_aux_lemma => kernel_rfl) (by as_aux_lemma => kernel_rfl) (by as_aux_lemma => kernel_rfl) (fun _ _ _ h => h) (Or.inl ⟨by as_aux_lemma => kernel_rfl, ?_⟩) (by assumption) ?_
        rotate_left
        · intro w hSw
          try dsimp only at hSw
          go_simp
          try with_reducible rfl
        try simp only [Act.put, List.setIfInBounds_toArray, List.set_cons_zero, List.set_cons_succ]
        refine wpAnyH_take (i := 36) (oi := { dst := some 87, op := _, type := _, pos := _, after := _, guard := _ }) (v := ?_) rfl (by as_aux_lemma => kernel_rfl) (by as_aux_lemma => kernel_rfl) (by as_aux_lemma => kernel_rfl) (fun _ _ _ h => h) (Or.inl ⟨by as_aux_lemma => kernel_rfl, ?_⟩) (by assumption) ?_
        rotate_left
        · intro w hSw
          try dsimp only at hSw
          have x_kz0 := bl_cell hSw.1 kz0
          have x_kz1 := bl_cell hSw.1 kz1
          have x_kz2 := bl_cell hSw.1 kz2
          have x_kz3 := bl_cell hSw.1 kz3
          have x_kz4 := bl_cell hSw.1 kz4
          have x_kz5 := bl_cell hSw.1 kz5
          have x_kz6 := bl_cell hSw.1 kz6
          have x_kz7 := bl_cell hSw.1 kz7
          have x_kz8 := bl_cell hSw.1 kz8
          go_simp
          try with_reducible rfl
        try simp only [Act.put, List.setIfInBounds_toArray, List.set_cons_zero, List.set_cons_succ]
        refine wpAnyH_take (i := 37) (oi := { dst := some 88, op := _, type := _, pos := _, after := _, guard := _ }) (v := ?_) rfl (by as_aux_lemma => kernel_rfl) (by as_aux_lemma => kernel_rfl) (by as_aux_lemma => kernel_rfl) (fun _ _ _ h => h) (Or.inl ⟨by as_aux_lemma => kernel_rfl, ?_⟩) (by assumption) ?_
        rotate_left
        · intro w hSw
          try dsimp only at hSw
          have x_ky0 := bl_cell hSw.1 ky0
          have x_ky1 := bl_cell hSw.1 ky1
          have x_ky2 := bl_cell hSw.1 ky2
          have x_ky3 := bl_cell hSw.1 ky3
          have x_ky4 := bl_cell hSw.1 ky4
          have x_ky5 := bl_cell hSw.1 ky5
          have x_ky6 := bl_cell hSw.1 ky6
          have x_ky7 := bl_cell hSw.1 ky7
          have x_ky8 := bl_cell hSw.1 ky8
          go_simp
          try with_reducible rfl
        try simp only [Act.put, List.setIfInBounds_toArray, List.set_cons_zero, List.set_cons_succ]
        refine wpAnyH_take (i := 38) (oi := { dst := some 89, op := _, type := _, pos := _, after := _, guard := _ }) (v := ?_) rfl (by as_aux_lemma => kernel_rfl) (by as_aux_lemma => kernel_rfl) (by as_aux_lemma => kernel_rfl) (fun _ _ _ h => h) (Or.inl ⟨by as_aux_lemma => kernel_rfl, ?_⟩) (by assumption) ?_
        rotate_left
        · intro w hSw
          try dsimp only at hSw
          go_simp
          try with_reducible rfl
        try simp only [Act.put, List.setIfInBounds_toArray, List.set_cons_zero, List.set_cons_succ]
        refine wpAnyH_take (i := 39) (oi := { dst := some 90, op := _, type := _, pos := _, after := _, guard := _ }) (v := ?_) rfl (by as_aux_lemma => kernel_rfl) (by as_aux_lemma => kernel_rfl) (by as_aux_lemma => kernel_rfl) (fun _ _ _ h => h) (Or.inl ⟨by as_aux_lemma => kernel_rfl, ?_⟩) (by assumption) ?_
        rotate_left
        · intro w hSw
          try dsimp only at hSw
          go_simp
          try with_reducible rfl
        try simp only [Act.put, List.setIfInBounds_toArray, List.set_cons_zero, List.set_cons_succ]
        refine wpAnyH_done (by as_aux_lemma => kernel_rfl) ?_ _
        clear hHeld
        replace HBX := Lib.hid (HBX.out.below hd9)
        replace hv := bl_trans hv hd9
        go_wp2_with fail
        go_meet
        exact ⟨HBX, hv⟩
  case rest =>
  clear HBX hv HYK HBY
  obtain ⟨HBX, hv⟩ := hcut
  rename World => V1
  go_wp2_with fail
  refine (A2Style_c D mm dd ds hmm (by omega) _ (hD0.out.below hv) (fun ad e => Nat.lt_of_lt_of_le (hM0.out ad e) hv.size)).mono ?_
  rintro e V2 ⟨z, rfl, hz, _, hb⟩
  have HZ := Lib.hid hz
  clear hz
  replace HBX := Lib.hid (HBX.out.below hb)
  replace hv := bl_trans hv hb
  clear hb
  go_upto_region 15 with fail
  obtain ⟨V3, hWn⟩ : ∃ q9, q9 = World.alloc V2 (Obj.cells #[Value.string z.upper, Value.string z.color, Value.string z.lining, Value.string z.sole, Value.int IntKind.i64 z.thick, Value.int IntKind.i64 z.heel, Value.int IntKind.i64 z.eyelets, Value.int IntKind.i64 z.density, Value.bool z.double] 25) := ⟨_, rfl⟩
  obtain ⟨gz, hgn⟩ : ∃ q9, q9 = V2.heap.size := ⟨_, rfl⟩
  have HBZ : Hid (Blk V3 gz 25 #[Value.string z.upper, Value.string z.color, Value.string z.lining, Value.string z.sole, Value.int IntKind.i64 z.thick, Value.int IntKind.i64 z.heel, Value.int IntKind.i64 z.eyelets, Value.int IntKind.i64 z.density, Value.bool z.double]) := Lib.hid (by rw [hWn, hgn]; exact Blk.new _ _ _)
  have hb : Below V2.heap.size V2 V3 := by rw [hWn]; exact bl_alloc (Below.refl _ _) _
  rw [← hWn, ← hgn]
  clear hWn hgn
  replace HBX := Lib.hid (HBX.out.below hb)
  replace hv := bl_trans hv hb
  clear hb
  go_wp2_with (first | refine wpList_load_row rfl 25 _ rfl gx rfl 25 #[Value.string x.upper, Value.string x.color, Value.string x.lining, Value.string x.sole, Value.int IntKind.i64 x.thick, Value.int IntKind.i64 x.heel, Value.int IntKind.i64 x.eyelets, Value.int IntKind.i64 x.density, Value.bool x.double] (0, 0) _ HBX.out Tryd.underlying25 rfl (by kernel_rfl) ?_ | refine wpList_load_row rfl 25 _ rfl gz rfl 25 #[Value.string z.upper, Value.string z.color, Value.string z.lining, Value.string z.sole, Value.int IntKind.i64 z.thick, Value.int IntKind.i64 z.heel, Value.int IntKind.i64 z.eyelets, Value.int IntKind.i64 z.density, Value.bool z.double] (0, 0) _ HBZ.out Tryd.underlying25 rfl (by kernel_rfl) ?_)
  refine (DiffStyles_c x z HX HZ _ (HT.out.below hv)).mono ?_
  rintro e V4 ⟨A, k, c, rfl, hk, hA, hb⟩
  have HK := Lib.hid hk
  have HA := Lib.hid hA
  clear hk hA
  replace HBX := Lib.hid (HBX.out.below hb)
  replace HBZ := Lib.hid (HBZ.out.below hb)
  replace hv := bl_trans hv hb
  clear hb
  go_wp2_with (first | refine wpList_load_row rfl 25 _ rfl gx rfl 25 #[Value.string x.upper, Value.string x.color, Value.string x.lining, Value.string x.sole, Value.int IntKind.i64 x.thick, Value.int IntKind.i64 x.heel, Value.int IntKind.i64 x.eyelets, Value.int IntKind.i64 x.density, Value.bool x.double] (0, 0) _ HBX.out Tryd.underlying25 rfl (by kernel_rfl) ?_ | refine wpList_load_row rfl 25 _ rfl gz rfl 25 #[Value.string z.upper, Value.string z.color, Value.string z.lining, Value.string z.sole, Value.int IntKind.i64 z.thick, Value.int IntKind.i64 z.heel, Value.int IntKind.i64 z.eyelets, Value.int IntKind.i64 z.density, Value.bool z.double] (0, 0) _ HBZ.out Tryd.underlying25 rfl (by kernel_rfl) ?_)
  refine (DiffStyles_c z x HZ HX _ (HT.out.below hv)).mono ?_
  rintro e V5 ⟨B, k2, c2, rfl, hk2, hB, hb⟩
  rw [dif_comm] at hk2 hB
  replace HA := Lib.hid (HA.out.below hb)
  have HB := Lib.hid hB
  obtain rfl : k2 = k := by rw [HK.out, hk2]
  have hnil : (k2 = 0) = (x = z) := by
    rw [hk2, List.length_eq_zero_iff]
    exact propext (dif_nil HX.out HZ.out)
  have hq3 : ((k2 : Int) == 0) = x.beq z := by
    rw [Bool.eq_iff_iff, Style.beq_iff, ← hnil, beq_iff_eq]
    omega
  have HQ := Style.run_eql x z
  rw [← hq3] at HQ
  have hq4 : ((k2 : Int) != (k2 : Int)) = false := by simp
  clear hk2 hB hnil hq3
  replace HBX := Lib.hid (HBX.out.below hb)
  replace HBZ := Lib.hid (HBZ.out.below hb)
  replace hv := bl_trans hv hb
  clear hb
  have kx0 : V5.cell? ⟨gx, 0, none⟩ = some (.string x.upper) := HBX.out.cell 0
  have kx1 : V5.cell? ⟨gx, 1, none⟩ = some (.string x.color) := HBX.out.cell 1
  have kx2 : V5.cell? ⟨gx, 2, none⟩ = some (.string x.lining) := HBX.out.cell 2
  have kx3 : V5.cell? ⟨gx, 3, none⟩ = some (.string x.sole) := HBX.out.cell 3
  have kx4 : V5.cell? ⟨gx, 4, none⟩ = some (.int .i64 x.thick) := HBX.out.cell 4
  have kx5 : V5.cell? ⟨gx, 5, none⟩ = some (.int .i64 x.heel) := HBX.out.cell 5
  have kx6 : V5.cell? ⟨gx, 6, none⟩ = some (.int .i64 x.eyelets) := HBX.out.cell 6
  have kx7 : V5.cell? ⟨gx, 7, none⟩ = some (.int .i64 x.density) := HBX.out.cell 7
  have kx8 : V5.cell? ⟨gx, 8, none⟩ = some (.bool x.double) := HBX.out.cell 8
  have kz0 : V5.cell? ⟨gz, 0, none⟩ = some (.string z.upper) := HBZ.out.cell 0
  have kz1 : V5.cell? ⟨gz, 1, none⟩ = some (.string z.color) := HBZ.out.cell 1
  have kz2 : V5.cell? ⟨gz, 2, none⟩ = some (.string z.lining) := HBZ.out.cell 2
  have kz3 : V5.cell? ⟨gz, 3, none⟩ = some (.string z.sole) := HBZ.out.cell 3
  have kz4 : V5.cell? ⟨gz, 4, none⟩ = some (.int .i64 z.thick) := HBZ.out.cell 4
  have kz5 : V5.cell? ⟨gz, 5, none⟩ = some (.int .i64 z.heel) := HBZ.out.cell 5
  have kz6 : V5.cell? ⟨gz, 6, none⟩ = some (.int .i64 z.eyelets) := HBZ.out.cell 6
  have kz7 : V5.cell? ⟨gz, 7, none⟩ = some (.int .i64 z.density) := HBZ.out.cell 7
  have kz8 : V5.cell? ⟨gz, 8, none⟩ = some (.bool z.double) := HBZ.out.cell 8
  go_wp2_with fail
  refine (StyleWords_c _).mono ?_
  rintro e V6 ⟨rfl, hq⟩
  obtain ⟨gl, hgl⟩ : ∃ q9, q9 = V5.heap.size := ⟨_, rfl⟩
  have HL : Hid (Blk V6 gl 9 (styW.map Value.string).toArray) := Lib.hid (by rw [hq, hgl]; exact Blk.new _ _ _)
  have hb : Below V5.heap.size V5 V6 := by rw [hq]; exact bl_alloc (Below.refl _ _) _
  rw [← hgl]
  replace HA := Lib.hid (HA.out.below hb)
  replace HB := Lib.hid (HB.out.below hb)
  replace hv := bl_trans hv hb
  have HMEM := Lib.hid (fun t (h : t ∈ dif x z) => dif_mem HX.out HZ.out h)
  have HUP := Lib.hid (fun i t u (h1 : (dif x z)[i]? = some t) (h2 : (dif x z)[i + 1]? = some u) => dif_up HX.out HZ.out h1 h2)
  have hm6 : k2 ≤ 6 := by
    rw [HK.out, ← dif_filter HX.out HZ.out]
    exact List.length_filter_le _ _
  obtain ⟨F, hF⟩ : ∃ q9, q9 = dif x z := ⟨_, rfl⟩
  obtain ⟨m, hm⟩ : ∃ q9, q9 = k2 := ⟨_, rfl⟩
  rw [← hF] at HA HB HMEM HUP HK
  rw [← hm] at HK hm6 ⊢
  have hA9 := HA.out
  have hB9 := HB.out
  rw [← flat_str] at hA9 hB9
  replace HA := Lib.hid hA9
  replace HB := Lib.hid hB9
  have hR := Lib.hid (show ∀ t, F[0]? = some t → ((0 : Nat) : Int) ≤ kindW t from fun t h => (styW_rng (HMEM.out t (List.mem_of_getElem? h))).1)
  clear hq hgl hF hm hb hA9 hB9 HQ hq4 HBX HBZ HX HZ kx0 kz0 kx1 kz1 kx2 kz2 kx3 kz3 kx4 kz4 kx5 kz5 kx6 kz6 kx7 kz7 kx8 kz8
  go_wp2_with fail
  go_loopw [20, 21] (fun a i wr => ∃ (p j : Nat), j ≤ m ∧ i = .int .i64 j ∧ a = .int .i64 p ∧ Hid (∀ t, F[j]? = some t → (p : Int) ≤ kindW t) ∧ Below V6.heap.size V6 wr) (fun _ i _ => m - (intOf i).toNat)
  case atStart => exact ⟨0, 0, by omega, rfl, rfl, hR, Below.refl _ _⟩
  case round =>
  clear hR
  obtain ⟨p, j, hj, rfl, rfl, hR, hbel⟩ := hrel
  have hj0 : (0 : Int) ≤ (j : Int) := by omega
  by_cases hlt : j < m
  case neg =>
    have hjm : ¬ (j : Int) < (m : Int) := by omega
    clear hR
    go_wp2_with fail
    go_returns
    exact Ret.mk rfl (bl_trans hv hbel)
  have hj1 : (j : Int) < (m : Int) := by omega
  obtain ⟨t, ht⟩ := get_of_lt (xs := F) (k := j) (by rw [← HK.out]; exact hlt)
  obtain ⟨ad, rfl, _, c0⟩ := scell_at (HA.out.below hbel) ht
  obtain ⟨bd, rfl, _, d0⟩ := scell_at (HB.out.below hbel) ht
  have htm := HMEM.out t (List.mem_of_getElem? ht)
  obtain ⟨hk0, hk6⟩ := styW_rng htm
  have hpk := hR.out t ht
  have HTM := Lib.hid htm
  have HTT := Lib.hid ht
  obtain ⟨kt, hkt⟩ : ∃ kt : Nat, kindW t = (kt : Int) := ⟨_, (Int.toNat_of_nonneg hk0).symm⟩
  have hp6 : p ≤ kt := by omega
  have hkt6 : kt < 6 := by omega
  have HKT := Lib.hid hkt
  clear hR ht htm hk0 hk6 hpk hkt
  have htt := Lib.hid (show (!t.toList == t.toList) = false by simp)
  have h99 := htt.out
  go_wp2_with fail
  go_quiet (fail)
  obtain ⟨V, hV⟩ : ∃ V, V = World.drewN wr nq := ⟨_, rfl⟩
  rw [← hV]
  have hb5 : Below wr.heap.size wr V := by rw [hV]; exact below_drewN (Below.refl _ _) nq
  clear hV h99
  replace hbel := bl_trans hbel hb5
  replace c0 := bl_cell hb5 c0
  replace d0 := bl_cell hb5 d0
  clear hb5
  go_wp2_with fail
  go_loopw [20] (fun a wr => ∃ p : Nat, a = .int .i64 p ∧ p ≤ kt ∧ Below V.heap.size V wr) (fun a _ => 6 - (intOf a).toNat)
  case atStart => exact ⟨p, rfl, hp6, Below.refl _ _⟩
  case round =>
  clear hp6
  obtain ⟨p, rfl, hp6, hbe2⟩ := hrel
  have hp0 : (0 : Int) ≤ (p : Int) := by omega
  have hp1 : (p : Int) < 6 := by omega
  obtain ⟨u, hu, hku⟩ := styW_nth p (by omega)
  have e0 : World.cell? _ ⟨gl, p, none⟩ = some (.string u) := ((HL.out.below (bl_trans hbel hbe2)).cell p).trans (by simp [hu])
  have c1 := bl_cell hbe2 c0
  by_cases hpe : p = kt
  case pos =>
    have hut : u = t := styW_same HTM.out (by rw [hku, HKT.out, hpe])
    subst hut
    have h98 := htt.out
    have hp5 : ((p : Int) == 6) = false := by rw [beq_eq_false_iff_ne]; omega
    have HN := Lib.hid (show ∀ v, F[j + 1]? = some v → (p : Int) ≤ kindW v from fun v h => by have := HUP.out j u v HTT.out h; rw [HKT.out] at this; omega)
    clear hu hku hpe
    go_wp2_with fail
    go_quiet (fail)
    obtain ⟨V2, hV2⟩ : ∃ V2, V2 = World.drewN wr nq := ⟨_, rfl⟩
    rw [← hV2]
    have hb5 : Below wr.heap.size wr V2 := by rw [hV2]; exact below_drewN (Below.refl _ _) nq
    clear hV2
    go_wp2_with fail
    exact ⟨⟨p, j + 1, by omega, by go_num, rfl, HN, bl_trans hbel (bl_trans hbe2 hb5)⟩, by simp [intOf]; omega⟩
  case neg =>
    have hut : u ≠ t := fun h => by rw [h, HKT.out] at hku; omega
    have h98 : (!u.toList == t.toList) = true := by rw [bytes_beq, decide_eq_false hut]; rfl
    clear hu hku hut
    go_wp2_with fail
    go_quiet (fail)
    obtain ⟨V2, hV2⟩ : ∃ V2, V2 = World.drewN wr nq := ⟨_, rfl⟩
    rw [← hV2]
    have hb5 : Below wr.heap.size wr V2 := by rw [hV2]; exact below_drewN (Below.refl _ _) nq
    clear hV2
    go_wp2_with fail
    exact ⟨⟨p + 1, by go_num, by omega, bl_trans hbe2 hb5⟩, by simp [intOf]; omega⟩
end Go.Proofs.YtihgjmhhpiobbaaDoor
