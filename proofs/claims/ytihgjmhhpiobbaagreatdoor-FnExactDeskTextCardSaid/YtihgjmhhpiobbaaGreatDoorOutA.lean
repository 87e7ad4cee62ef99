/- Numbers out of a range; a valid foot. -/
import Derived.Test.YtihgjmhhpiobbaaGreatDoorOwn
import Derived.Test.YtihgjmhhpiobbaaGreatDoorBase
import Derived.Laws.ResultCell
import Derived.Deep.CutBlock
import Derived.Deep.DeepCutAuto
import Derived.Deep.RegionHeld3
namespace Go.Proofs.YtihgjmhhpiobbaaGreatDoor
open Go.RowKit

def idxO {α : Type} (p : α → Bool) : List α → Int → Int
  | [], _ => -1
  | x :: r, i => if p x = true then i else idxO p r (i + 1)
theorem idxO_iff {α : Type} (p : α → Bool) : ∀ (xs : List α) (i : Int), 0 ≤ i → (0 ≤ idxO p xs i ↔ xs.any p = true) := by
  intro xs
  induction xs with
  | nil => intro i _; simp [idxO]
  | cons x r ih =>
    intro i hi
    by_cases hp : p x = true
    · simp only [idxO, List.any_cons, hp, Bool.true_or, if_true]; simpa using hi
    · simp only [idxO, List.any_cons, Bool.eq_false_iff.2 hp, Bool.false_or]; exact ih (i + 1) (by omega)
theorem idxO_any {α : Type} (p : α → Bool) (xs : List α) (i : Int) (hi : 0 ≤ i) : decide (idxO p xs i ≥ 0) = xs.any p := by
  rw [Bool.eq_iff_iff, decide_eq_true_eq]
  exact idxO_iff p xs i hi

/-! ### Numbers out of a range -/
theorem outside1_c (k lo hi : Int) (g1 g2 : Nat) (w : World) (h1 : w.cell? ⟨g1, 0, none⟩ = some (.int .i64 lo)) (h2 : w.cell? ⟨g2, 0, none⟩ = some (.int .i64 hi)) :
    Calls Tryz.prog 88 #[.int .i64 k, .pointer (some ⟨g1, 0, none⟩), .pointer (some ⟨g2, 0, none⟩)] w (RetQ (.bool (!inB k lo hi)) w) := by
  go_enter Tryz.func88, Tryz.ntmps88
  go_wp2_with (go_at_call 47; refine (within_c _ _ _ _).mono ?_; rintro e w' ⟨rfl, rfl⟩)
  go_returns
  exact RetQ.mk rfl
set_option maxRecDepth 100000 in
set_option maxHeartbeats 800000 in
theorem indexOut_c (A : Option Addr) (ps : List Int) (m d : Nat) (lo hi : Int) (g1 g2 : Nat) (hn : Hid (ps.length = m)) (hm : (m : Int) ≤ 9223372036854775807) (w : World) (hl : Blk w g1 2 #[Value.int IntKind.i64 lo]) (hh : Blk w g2 2 #[Value.int IntKind.i64 hi]) (hA : Arr w A (flat icell ps)) :
    Calls Tryz.prog 111 #[.slice A m d, .func (.func 88) #[] #[.pointer (some ⟨g1, 0, none⟩), .pointer (some ⟨g2, 0, none⟩)]] w (RetQ (.int .i64 (idxO (fun k => !inB k lo hi) ps 0)) w) := by
  have h1 : w.cell? ⟨g1, 0, none⟩ = some (.int .i64 lo) := hl.cell 0
  have h2 : w.cell? ⟨g2, 0, none⟩ = some (.int .i64 hi) := hh.cell 0
  go_enter Tryz.func111, Tryz.ntmps111
  go_wp2_with fail
  have hR := Lib.hid (show idxO (fun k => !inB k lo hi) ps 0 = idxO (fun k => !inB k lo hi) (ps.drop 0) ((0 : Nat) : Int) from rfl)
  go_loopw [8] (fun i wr => ∃ k : Nat, k ≤ m ∧ i = .int .i64 k ∧ Hid (idxO (fun k => !inB k lo hi) ps 0 = idxO (fun k => !inB k lo hi) (ps.drop k) k) ∧ wr = w) (fun i _ => m - (intOf i).toNat)
  case atStart => exact ⟨0, by omega, rfl, hR, rfl⟩
  case round =>
    clear hR
    obtain ⟨k, hk, rfl, hR, rfl⟩ := hrel
    by_cases hlt : k < m
    · obtain ⟨y, hy⟩ := get_of_lt (xs := ps) (k := k) (by rw [hn.out]; exact hlt)
      obtain ⟨ad, rfl, hab, c0⟩ := icell_at hA hy
      have hR2 := Lib.hid (hR.out.trans (by rw [drop_at hy]; rfl : _ = if (!inB y lo hi) = true then (k : Int) else idxO (fun k => !inB k lo hi) (ps.drop (k + 1)) (k + 1)))
      clear hR hy
      go_wp2_with fail
      refine (outside1_c y lo hi g1 g2 _ h1 h2).mono ?_
      rintro e w1 ⟨rfl, rfl⟩
      cases hq : (!inB y lo hi)
      · have HQ := Lib.hid hq
        clear hq
        go_wp2_with fail
        exact ⟨⟨k + 1, by omega, by go_num, Lib.hid (hR2.out.trans (by rw [HQ.out]; rfl)), True.intro⟩, by simp [intOf]; omega⟩
      · have HQ := Lib.hid hq
        clear hq
        go_wp2_with fail
        go_returns
        refine RetQ.mk (vi ?_)
        rw [hR2.out, HQ.out]; rfl
    · have hR2 := Lib.hid (hR.out.trans (by rw [List.drop_eq_nil_of_le (by rw [hn.out]; omega)]; rfl : _ = -1))
      clear hR
      go_wp2_with fail
      go_returns
      refine RetQ.mk (vi ?_)
      rw [hR2.out]
theorem containsOut_c (A : Option Addr) (ps : List Int) (m d : Nat) (lo hi : Int) (g1 g2 : Nat) (hn : Hid (ps.length = m)) (hm : (m : Int) ≤ 9223372036854775807) (w : World) (hl : Blk w g1 2 #[Value.int IntKind.i64 lo]) (hh : Blk w g2 2 #[Value.int IntKind.i64 hi]) (hA : Arr w A (flat icell ps)) :
    Calls Tryz.prog 87 #[.slice A m d, .func (.func 88) #[] #[.pointer (some ⟨g1, 0, none⟩), .pointer (some ⟨g2, 0, none⟩)]] w (RetQ (.bool (!ps.all (fun k => inB k lo hi))) w) := by
  go_enter Tryz.func87, Tryz.ntmps87
  go_wp2_with fail
  refine (indexOut_c A ps m d lo hi g1 g2 hn hm _ hl hh hA).mono ?_
  rintro e w1 ⟨rfl, rfl⟩
  go_wp2_with fail
  go_returns
  refine RetQ.mk (vb ?_)
  have h := idxO_any (fun k => !inB k lo hi) ps 0 (by omega)
  rw [List.all_eq_not_any_not, Bool.not_not]
  exact h
theorem outside_c (A : Option Addr) (ps : List Int) (m d : Nat) (lo hi : Int) (hn : Hid (ps.length = m)) (hm : (m : Int) ≤ 9223372036854775807) (w : World) (hA : Arr w A (flat icell ps)) :
    Calls Tryz.prog 55 #[.slice A m d, .int .i64 lo, .int .i64 hi] w (Ret (.bool (!ps.all (fun k => inB k lo hi))) w) := by
  have hl : Blk ((w.alloc (Obj.cells #[Value.int IntKind.i64 lo] 2)).alloc (Obj.cells #[Value.int IntKind.i64 hi] 2)) w.heap.size 2 #[Value.int IntKind.i64 lo] := (Blk.new _ _ _).alloc _
  have hh : Blk ((w.alloc (Obj.cells #[Value.int IntKind.i64 lo] 2)).alloc (Obj.cells #[Value.int IntKind.i64 hi] 2)) (w.heap.size + 1) 2 #[Value.int IntKind.i64 hi] := by
    have h := Blk.new (w.alloc (Obj.cells #[Value.int IntKind.i64 lo] 2)) 2 #[Value.int IntKind.i64 hi]
    simpa using h
  go_enter Tryz.func55, Tryz.ntmps55
  go_wp2_with fail
  refine (containsOut_c A ps m d lo hi _ _ hn hm _ hl hh ((hA.alloc _).alloc _)).mono ?_
  rintro e w1 ⟨rfl, rfl⟩
  go_wp2_with fail
  go_returns
  exact Ret.mk rfl (bl_alloc (bl_alloc (Below.refl _ _) _) _)
theorem arr_blkO {w : World} {g : Nat} {t : TypeId} {C : Array Value} (h : Blk w g t C) : Arr w (some ⟨g, 0, none⟩) C.toList := fun _ => by
  refine ⟨_, rfl, h.lt, fun j u hu => ?_⟩
  have hadd : (⟨g, 0, none⟩ : Addr).add j = ⟨g, j, none⟩ := by unfold Addr.add; split <;> simp_all
  rw [hadd, h.cell j]
  simpa using hu
/-! ### A foot -/
def footB (f : Foot) : Bool := inB f.length 500 5000 && inB f.ball 500 5000 && inB f.instep 500 5000 && inB f.heel 500 5000
def OutMe (f : Foot) (w : World) (e : Ending) (w' : World) : Prop := ∃ g, e = .returned (.slice (some ⟨g, 0, none⟩) 4 4) ∧ Blk w' g 2 #[Value.int IntKind.i64 f.length, Value.int IntKind.i64 f.ball, Value.int IntKind.i64 f.instep, Value.int IntKind.i64 f.heel] ∧ Below w.heap.size w w'
theorem measures_c (f : Foot) (w : World) : Calls Tryz.prog 56 #[.agg #[.int .i64 f.length, .int .i64 f.ball, .int .i64 f.instep, .int .i64 f.heel]] w (OutMe f w) := by
  go_enter Tryz.func56, Tryz.ntmps56
  go_wp2_with fail
  go_returns
  exact ⟨_, rfl, by have h := Blk.new (w.alloc (Obj.cells #[Value.int IntKind.i64 f.length, Value.int IntKind.i64 f.ball, Value.int IntKind.i64 f.instep, Value.int IntKind.i64 f.heel] 31)) 2 #[Value.int IntKind.i64 f.length, Value.int IntKind.i64 f.ball, Value.int IntKind.i64 f.instep, Value.int IntKind.i64 f.heel]; simpa using h, bl_alloc (bl_alloc (Below.refl _ _) _) _⟩
theorem ValidFoot_c (f : Foot) (w : World) : Calls Tryz.prog 29 #[.agg #[.int .i64 f.length, .int .i64 f.ball, .int .i64 f.instep, .int .i64 f.heel]] w (Ret (.bool (footB f)) w) := by
  have hf : footB f = [f.length, f.ball, f.instep, f.heel].all (fun k => inB k 500 5000) := by simp [footB, Bool.and_assoc]
  have HF := Lib.hid hf
  clear hf
  go_enter Tryz.func29, Tryz.ntmps29
  go_wp2_with fail
  refine (measures_c f _).mono ?_
  rintro e W ⟨g, rfl, hB, hb⟩
  have hv := bl_trans (bl_alloc (Below.refl w.heap.size w) _) hb
  clear hb
  go_wp2_with fail
  refine (outside_c (some ⟨g, 0, none⟩) [f.length, f.ball, f.instep, f.heel] 4 4 500 5000 (Lib.hid rfl) (by omega) _ (arr_blkO hB)).mono ?_
  rintro e W2 ⟨rfl, hb⟩
  replace hv := bl_trans hv hb
  clear hb hB
  go_wp2_with fail
  go_returns
  exact Ret.mk (vb (by rw [HF.out]; simp)) hv
theorem l02One_c (n : Int) (w : World) : Calls Tryz.prog 85 #[.int .i64 n] w (RetQ (.bool (inB n 500 5000)) w) := by
  go_enter Tryz.func85, Tryz.ntmps85
  go_wp2_with fail
  refine (l00In_c _ _ _ _).mono ?_
  rintro e w' ⟨rfl, rfl⟩
  go_wp2_with fail
  go_returns
  exact RetQ.mk rfl
set_option maxHeartbeats 2000000 in
theorem l02Foot_c (f : Foot) (w : World) : Calls Tryz.prog 52 #[.agg #[.int .i64 f.length, .int .i64 f.ball, .int .i64 f.instep, .int .i64 f.heel]] w (Ret (.bool (footB f)) w) := by
  have hf : footB f = (inB f.length 500 5000 && inB f.ball 500 5000 && inB f.instep 500 5000 && inB f.heel 500 5000) := rfl
  have H1 := fun w => l02One_c f.length w
  have H2 := fun w => l02One_c f.ball w
  have H3 := fun w => l02One_c f.instep w
  have H4 := fun w => l02One_c f.heel w
  obtain ⟨b1, e1⟩ : ∃ z, z = inB f.length 500 5000 := ⟨_, rfl⟩
  obtain ⟨b2, e2⟩ : ∃ z, z = inB f.ball 500 5000 := ⟨_, rfl⟩
  obtain ⟨b3, e3⟩ : ∃ z, z = inB f.instep 500 5000 := ⟨_, rfl⟩
  obtain ⟨b4, e4⟩ : ∃ z, z = inB f.heel 500 5000 := ⟨_, rfl⟩
  rw [← e1] at H1 hf
  rw [← e2] at H2 hf
  rw [← e3] at H3 hf
  rw [← e4] at H4 hf
  replace H1 := Lib.hid H1
  replace H2 := Lib.hid H2
  replace H3 := Lib.hid H3
  replace H4 := Lib.hid H4
  have HP := Lib.hid hf
  clear hf e1 e2 e3 e4
  obtain ⟨W, hW⟩ : ∃ W, W = w.alloc (Obj.cells #[Value.int IntKind.i64 f.length, Value.int IntKind.i64 f.ball, Value.int IntKind.i64 f.instep, Value.int IntKind.i64 f.heel] 31) := ⟨_, rfl⟩
  obtain ⟨g, hg⟩ : ∃ g, g = w.heap.size := ⟨_, rfl⟩
  have hv : Below w.heap.size w W := by rw [hW]; exact bl_alloc (Below.refl _ _) _
  have hB : Blk W g 31 #[Value.int IntKind.i64 f.length, Value.int IntKind.i64 f.ball, Value.int IntKind.i64 f.instep, Value.int IntKind.i64 f.heel] := by rw [hW, hg]; exact Blk.new _ _ _
  have HW := Lib.hid hW
  have HG := Lib.hid hg
  clear hW hg
  have k0 : W.cell? ⟨g, 0, none⟩ = some (Value.int IntKind.i64 f.length) := hB.cell 0
  have k1 : W.cell? ⟨g, 1, none⟩ = some (Value.int IntKind.i64 f.ball) := hB.cell 1
  have k2 : W.cell? ⟨g, 2, none⟩ = some (Value.int IntKind.i64 f.instep) := hB.cell 2
  have k3 : W.cell? ⟨g, 3, none⟩ = some (Value.int IntKind.i64 f.heel) := hB.cell 3
  clear hB
  go_enter Tryz.func52, Tryz.ntmps52
  go_upto_region 1 with fail
  rw [← HW.out, ← HG.out]
  clear HW HG
  cases b1
  · skip
    go_wp2_with fail
    refine (H1.out _).mono ?_
    rintro e w' ⟨rfl, hq⟩
    rw [hq]
    clear hq w'
    go_wp2_with fail
    go_returns
    exact Ret.mk (vb (by rw [HP.out]; rfl)) hv
  cases b2
  · skip
    go_wp2_with fail
    refine (H1.out _).mono ?_
    rintro e w' ⟨rfl, hq⟩
    rw [hq]
    clear hq w'
    go_wp2_with fail
    refine (H2.out _).mono ?_
    rintro e w' ⟨rfl, hq⟩
    rw [hq]
    clear hq w'
    go_wp2_with fail
    go_returns
    exact Ret.mk (vb (by rw [HP.out]; rfl)) hv
  cases b3
  · skip
    go_wp2_with fail
    refine (H1.out _).mono ?_
    rintro e w' ⟨rfl, hq⟩
    rw [hq]
    clear hq w'
    go_wp2_with fail
    refine (H2.out _).mono ?_
    rintro e w' ⟨rfl, hq⟩
    rw [hq]
    clear hq w'
    go_wp2_with fail
    refine (H3.out _).mono ?_
    rintro e w' ⟨rfl, hq⟩
    rw [hq]
    clear hq w'
    go_wp2_with fail
    go_returns
    exact Ret.mk (vb (by rw [HP.out]; rfl)) hv
  cases b4
  · skip
    go_wp2_with fail
    refine (H1.out _).mono ?_
    rintro e w' ⟨rfl, hq⟩
    rw [hq]
    clear hq w'
    go_wp2_with fail
    refine (H2.out _).mono ?_
    rintro e w' ⟨rfl, hq⟩
    rw [hq]
    clear hq w'
    go_wp2_with fail
    refine (H3.out _).mono ?_
    rintro e w' ⟨rfl, hq⟩
    rw [hq]
    clear hq w'
    go_wp2_with fail
    refine (H4.out _).mono ?_
    rintro e w' ⟨rfl, hq⟩
    rw [hq]
    clear hq w'
    go_wp2_with fail
    go_returns
    exact Ret.mk (vb (by rw [HP.out]; rfl)) hv
  · skip
    go_wp2_with fail
    refine (H1.out _).mono ?_
    rintro e w' ⟨rfl, hq⟩
    rw [hq]
    clear hq w'
    go_wp2_with fail
    refine (H2.out _).mono ?_
    rintro e w' ⟨rfl, hq⟩
    rw [hq]
    clear hq w'
    go_wp2_with fail
    refine (H3.out _).mono ?_
    rintro e w' ⟨rfl, hq⟩
    rw [hq]
    clear hq w'
    go_wp2_with fail
    refine (H4.out _).mono ?_
    rintro e w' ⟨rfl, hq⟩
    rw [hq]
    clear hq w'
    go_wp2_with fail
    go_returns
    exact Ret.mk (vb (by rw [HP.out]; rfl)) hv
end Go.Proofs.YtihgjmhhpiobbaaGreatDoor
