/- The program's LogOf. -/
import Derived.Test.YtnhkdcebldppmaaDoorLogP
namespace Go.Proofs.YtnhkdcebldppmaaDoor
open Go.RowKit

/-! ### A closure asked over a slice -/
def idxGo {α : Type} (p : α → Bool) : List α → Int → Int
  | [], _ => -1
  | x :: r, i => if p x = true then i else idxGo p r (i + 1)
theorem idxGo_iff {α : Type} (p : α → Bool) : ∀ (xs : List α) (i : Int), 0 ≤ i → (0 ≤ idxGo p xs i ↔ xs.any p = true) := by
  intro xs
  induction xs with
  | nil => intro i _; simp [idxGo]
  | cons x r ih =>
    intro i hi
    by_cases hp : p x = true
    · simp only [idxGo, List.any_cons, hp, Bool.true_or, if_true]; simpa using hi
    · simp only [idxGo, List.any_cons, Bool.eq_false_iff.2 hp, Bool.false_or]; exact ih (i + 1) (by omega)
theorem idxGo_any {α : Type} (p : α → Bool) (xs : List α) (i : Int) (hi : 0 ≤ i) : decide (idxGo p xs i ≥ 0) = xs.any p := by
  rw [Bool.eq_iff_iff, decide_eq_true_eq]
  exact idxGo_iff p xs i hi
set_option maxRecDepth 100000 in
set_option maxHeartbeats 800000 in
theorem logOf1_c (x : Entry) (hs : x.what.size ≤ 9223372036854775807) (w : World) :
    Calls Tryd.prog 66 #[.agg #[.int .i64 x.day, .string x.what, .int .i64 x.value]] w (Ret (.bool (!entB x)) w) := by
  go_enter Tryd.func66, Tryd.ntmps66
  go_wp2_with fail
  refine (ValidEntry_c x hs _).mono ?_
  rintro e W ⟨rfl, hb⟩
  go_wp2_with fail
  go_returns
  exact Ret.mk rfl (bl_trans (bl_alloc (Below.refl _ _) _) hb)
set_option maxRecDepth 100000 in
set_option maxHeartbeats 800000 in
theorem indexEnt_c (A : Option Addr) (xs : List Entry) (n c : Nat) (hn : Hid (xs.length = n)) (hm : (n : Int) ≤ 9223372036854775807) (hs : Hid (∀ x ∈ xs, x.what.size ≤ 9223372036854775807)) (w : World) (hA : Arr w A (flat Entry.cells xs)) :
    Calls Tryd.prog 90 #[.slice A n c, .func (.func 66) #[] #[]] w (Ret (.int .i64 (idxGo (fun x => !entB x) xs 0)) w) := by
  go_enter Tryd.func90, Tryd.ntmps90
  go_wp2_with fail
  have hR := Lib.hid (show idxGo (fun x => !entB x) xs 0 = idxGo (fun x => !entB x) (xs.drop 0) ((0 : Nat) : Int) from rfl)
  go_loopw [8] (fun i wr => ∃ k : Nat, k ≤ n ∧ i = .int .i64 k ∧ Hid (idxGo (fun x => !entB x) xs 0 = idxGo (fun x => !entB x) (xs.drop k) k) ∧ Below w.heap.size w wr) (fun i _ => n - (intOf i).toNat)
  case atStart => exact ⟨0, by omega, rfl, hR, Below.refl _ _⟩
  case round =>
    clear hR
    obtain ⟨k, hk, rfl, hR, hbel⟩ := hrel
    by_cases hlt : k < n
    · obtain ⟨x, hx⟩ := get_of_lt (xs := xs) (k := k) (by rw [hn.out]; exact hlt)
      obtain ⟨ad, rfl, hab, c0, c1, c2⟩ := Entry.at_ (hA.below hbel) hx
      have hR2 := Lib.hid (hR.out.trans (by rw [drop_at hx]; rfl : _ = if (!entB x) = true then (k : Int) else idxGo (fun x => !entB x) (xs.drop (k + 1)) (k + 1)))
      have hxs := hs.out x (List.mem_of_getElem? hx)
      clear hR hx
      go_wp2_with fail
      refine (logOf1_c x hxs _).mono ?_
      rintro e w1 ⟨rfl, hb1⟩
      cases hq : (!entB x)
      · have HQ := Lib.hid hq
        clear hq
        go_wp2_with fail
        exact ⟨⟨k + 1, by omega, by go_num, Lib.hid (hR2.out.trans (by rw [HQ.out]; rfl)), bl_trans hbel hb1⟩, by simp [intOf]; omega⟩
      · have HQ := Lib.hid hq
        clear hq
        go_wp2_with fail
        go_returns
        refine Ret.mk (vi ?_) (bl_trans hbel hb1)
        rw [hR2.out, HQ.out]; rfl
    · have hR2 := Lib.hid (hR.out.trans (by rw [List.drop_eq_nil_of_le (by rw [hn.out]; omega)]; rfl : _ = -1))
      clear hR
      go_wp2_with fail
      go_returns
      refine Ret.mk (vi ?_) hbel
      rw [hR2.out]
set_option maxHeartbeats 400000 in
theorem containsEnt_c (A : Option Addr) (xs : List Entry) (n c : Nat) (hn : Hid (xs.length = n)) (hm : (n : Int) ≤ 9223372036854775807) (hs : Hid (∀ x ∈ xs, x.what.size ≤ 9223372036854775807)) (w : World) (hA : Arr w A (flat Entry.cells xs)) :
    Calls Tryd.prog 65 #[.slice A n c, .func (.func 66) #[] #[]] w (Ret (.bool (!xs.all entB)) w) := by
  go_enter Tryd.func65, Tryd.ntmps65
  go_wp2_with fail
  refine (indexEnt_c A xs n c hn hm hs _ hA).mono ?_
  rintro e w1 ⟨rfl, hb1⟩
  go_wp2_with fail
  go_returns
  refine Ret.mk (vb ?_) hb1
  have h := idxGo_any (fun x => !entB x) xs 0 (by omega)
  rw [List.all_eq_not_any_not, Bool.not_not]
  exact h
set_option maxRecDepth 100000 in
set_option maxHeartbeats 2000000 in
theorem LogOf_c (A : Option Addr) (xs : List Entry) (n c : Nat) (hn : Hid (xs.length = n)) (hm : (n : Int) ≤ 1048576) (hs : Hid (∀ x ∈ xs, x.what.size ≤ 9223372036854775807)) (w : World) (hA : Arr w A (flat Entry.cells xs)) (hT : Pow10 w) :
    Calls Tryd.prog 30 #[.slice A n c] w (RetT #[.string (logV xs), .int .i64 (logC xs)] w) := by
  have HT := Lib.hid hT
  clear hT
  go_enter Tryd.func30, Tryd.ntmps30
  go_wp2_with fail
  refine (containsEnt_c A xs n c hn (by omega) hs _ hA).mono ?_
  rintro e W ⟨rfl, hv⟩
  cases ha : xs.all entB
  · have HV := Lib.hid (show logV xs = ⟨#[]⟩ by unfold logV; rw [ha]; rfl)
    have HC := Lib.hid (show logC xs = 7 by unfold logC; rw [ha]; rfl)
    clear ha
    simp only [Bool.not_false]
    go_wp2_with fail
    go_returns
    exact RetT.mk (by rw [HV.out, HC.out]; rfl) hv
  have HA := Lib.hid ha
  clear ha
  simp only [Bool.not_true]
  go_wp2_with fail
  have hR := Lib.hid (show upB xs = upB (xs.drop (1 - 1)) from rfl)
  go_loopw [4] (fun i wr => ∃ k : Nat, 1 ≤ k ∧ k ≤ n + 1 ∧ i = .int .i64 k ∧ Hid (upB xs = upB (xs.drop (k - 1))) ∧ Below w.heap.size w wr) (fun i _ => n + 1 - (intOf i).toNat)
  case atStart => exact ⟨1, by omega, by omega, rfl, hR, hv⟩
  case round =>
    clear hR hv
    obtain ⟨k, hk1, hk, rfl, hR, hv⟩ := hrel
    by_cases hlt : k < n
    · obtain ⟨j, rfl⟩ : ∃ j, k = j + 1 := ⟨k - 1, by omega⟩
      obtain ⟨x, hx⟩ := get_of_lt (xs := xs) (k := j + 1) (by rw [hn.out]; exact hlt)
      obtain ⟨y, hy⟩ := get_of_lt (xs := xs) (k := j) (by rw [hn.out]; omega)
      obtain ⟨ad, rfl, hab, c0, c1, c2⟩ := Entry.at_ (hA.below hv) hx
      obtain ⟨ad', e', _, d0, d1, d2⟩ := Entry.at_ (hA.below hv) hy
      injection e' with e'
      subst e'
      have hR2 := Lib.hid (hR.out.trans (by rw [Nat.add_sub_cancel]; exact up_at hy hx : _ = (decide (y.day ≤ x.day) && upB (xs.drop (j + 1)))))
      have hj0 : (0 : Int) ≤ (j : Int) := by omega
      have hj1 : (j : Int) < (n : Int) := by omega
      have hj2 : ((j : Int)).toNat = j := by omega
      have hw2 : IntKind.i64.wrap (j : Int) = (j : Int) := IntWalk.i64_in _ (by omega)
      have hw1 : IntKind.i64.wrap (((j + 1 : Nat) : Int) - 1) = (j : Int) := IntWalk.i64_in _ (by omega) |>.trans (by omega)
      clear hR hx hy
      by_cases hd : y.day ≤ x.day
      · have hR3 := Lib.hid (hR2.out.trans (by rw [decide_eq_true hd, Bool.true_and]))
        clear hR2
        go_wp2_with fail
        go_region
        go_wp2_with fail
        exact ⟨⟨j + 1 + 1, by omega, by omega, by go_num, hR3, hv.drew⟩, by simp [intOf]; omega⟩
      · have hR3 := Lib.hid (hR2.out.trans (by rw [decide_eq_false hd, Bool.false_and]))
        clear hR2
        have HV := Lib.hid (show logV xs = ⟨#[]⟩ by unfold logV; rw [HA.out, hR3.out]; rfl)
        have HC := Lib.hid (show logC xs = 6 by unfold logC; rw [HA.out, hR3.out]; rfl)
        go_wp2_with fail
        go_region
        go_wp2_with fail
        go_returns
        exact RetT.mk (by rw [HV.out, HC.out]; rfl) hv.drew
    · have HU := Lib.hid (hR.out.trans (up_end (by rw [hn.out]; omega)))
      clear hR
      go_wp2_with fail
      have hR := Lib.hid (show logGo xs 0 ⟨#[]⟩ = logGo (xs.drop 0) 0 ⟨#[]⟩ from rfl)
      go_loopw [5, 6, 31] (fun av sv i wr => ∃ (j : Nat) (s : Int) (a : ByteArray), j ≤ n ∧ i = .int .i64 j ∧ av = .string a ∧ sv = .int .i64 s ∧ 0 ≤ s ∧ s ≤ 65518 ∧ a.size ≤ 4000 ∧ Hid (logGo xs 0 ⟨#[]⟩ = logGo (xs.drop j) s a) ∧ Below w.heap.size w wr) (fun _ _ i _ => n - (intOf i).toNat)
      case atStart => exact ⟨0, 0, ⟨#[]⟩, by omega, rfl, rfl, rfl, by omega, by omega, by decide, hR, hv⟩
      case round =>
        clear hR hv
        obtain ⟨j, s, a, hj, rfl, rfl, rfl, s0, s1, ha4, hR, hv⟩ := hrel
        by_cases hlt2 : j < n
        · obtain ⟨x, hx⟩ := get_of_lt (xs := xs) (k := j) (by rw [hn.out]; exact hlt2)
          obtain ⟨ad, rfl, hab, c0, c1, c2⟩ := Entry.at_ (hA.below hv) hx
          have hR2 := Lib.hid (hR.out.trans (logGo_at hx s a))
          have hex := all_ent HA.out hx
          obtain ⟨t0, t1⟩ := stp_bd s x
          have hst := Lib.hid (fun w hT => stampOf_c s x s0 s1 hex w hT)
          have hwd := Lib.hid (fun w hT => words_c x hex w hT)
          have z1 := wordsB_size hex
          have hlz := lineE_size hex (stp s x) t0 t1
          have hst' : Hid (∀ w, Pow10 w → Calls Tryd.prog 68 #[.int .i64 s, .agg #[.int .i64 x.day, .string x.what, .int .i64 x.value]] w (Ret (.int .i64 (stp s x)) w)) := hst
          obtain ⟨st, hst2⟩ : ∃ st, st = stp s x := ⟨_, rfl⟩
          obtain ⟨b, hb0⟩ : ∃ b, b = a ++ lineE (stp s x) x := ⟨_, rfl⟩
          rw [← hb0] at hR2
          have hbz : b.size = a.size + (lineE (stp s x) x).size := by rw [hb0, ByteArray.size_append']
          unfold lineE at hb0
          rw [← hst2] at hst' hR2 hb0 t0 t1 hlz hbz
          have z2 := decI_size st
          obtain ⟨wd, hwd2⟩ : ∃ wd, wd = wordsB x := ⟨_, rfl⟩
          rw [← hwd2] at hwd z1 hb0
          have z3 : (ByteArray.mk #[32]).size = 1 := rfl
          have z4 : (ByteArray.mk #[10]).size = 1 := rfl
          have hadd1 := fun (w : World) => run_string_add_sum (P := Tryd.prog) w wd ⟨#[32]⟩ (by omega)
          have hadd2 := fun (w : World) => run_string_add_sum (P := Tryd.prog) w (wd ++ ⟨#[32]⟩) (decI st) (by rw [ByteArray.size_append']; omega)
          have hadd3 := fun (w : World) => run_string_add_sum (P := Tryd.prog) w (wd ++ ⟨#[32]⟩ ++ decI st) ⟨#[10]⟩ (by rw [ByteArray.size_append', ByteArray.size_append']; omega)
          have hadd4 := fun (w : World) => run_string_add_sum (P := Tryd.prog) w a (wd ++ ⟨#[32]⟩ ++ decI st ++ ⟨#[10]⟩) (by rw [ByteArray.size_append', ByteArray.size_append', ByteArray.size_append']; omega)
          rw [← hb0] at hadd4
          have hbb : b.size ≤ 9223372036854775807 := by omega
          clear hx hst hst2 hb0 hwd2 z1 z2 z3 z4 hbz hlz hR
          obtain ⟨W0, hW0⟩ : ∃ W0, W0 = wr.alloc (Obj.cells #[Value.int IntKind.i64 x.day, Value.string x.what, Value.int IntKind.i64 x.value] 54) := ⟨_, rfl⟩
          obtain ⟨gx, hgx⟩ : ∃ gx, gx = wr.heap.size := ⟨_, rfl⟩
          have hb : Below wr.heap.size wr W0 := by rw [hW0]; exact bl_alloc (Below.refl _ _) _
          have hX : Blk W0 gx 54 #[Value.int IntKind.i64 x.day, Value.string x.what, Value.int IntKind.i64 x.value] := by rw [hW0, hgx]; exact Blk.new _ _ _
          go_wp2_with fail
          rw [← hW0, ← hgx]
          clear hW0 hgx c0 c1 c2
          have hv0 := bl_trans hv hb
          refine (hst'.out _ (HT.out.below hv0)).mono ?_
          rintro e W2 ⟨rfl, hb2⟩
          replace hv0 := bl_trans hv0 hb2
          replace hX := hX.below hb2
          clear hb hb2 hst'
          have k0 : W2.cell? ⟨gx, 0, none⟩ = some (.int .i64 x.day) := hX.cell 0
          have k1 : W2.cell? ⟨gx, 1, none⟩ = some (.string x.what) := hX.cell 1
          have k2 : W2.cell? ⟨gx, 2, none⟩ = some (.int .i64 x.value) := hX.cell 2
          go_wp2_with fail
          refine (hwd.out _ (HT.out.below hv0)).mono ?_
          rintro e W3 ⟨rfl, hb2⟩
          replace hv0 := bl_trans hv0 hb2
          clear hb2 k0 k1 k2 hX
          go_wp2_with fail
          refine (DecimalI_c st (by omega) (by omega) _ (HT.out.below hv0)).mono ?_
          rintro e W4 ⟨rfl, hb2⟩
          replace hv0 := bl_trans hv0 hb2
          clear hb2
          by_cases hbig : (4000 : Int) < (b.size : Int)
          · have hge := logGo_ge (xs.drop (j + 1)) st b
            rw [← hR2.out] at hge
            have HV := Lib.hid (show logV xs = ⟨#[]⟩ by unfold logV; rw [HA.out, HU.out, if_pos rfl, if_pos rfl, if_neg (by omega)])
            have HC := Lib.hid (show logC xs = 5 by unfold logC; rw [HA.out, HU.out, if_pos rfl, if_pos rfl, if_neg (by omega)])
            clear hge
            go_wp2_with fail
            go_returns
            exact RetT.mk (by rw [HV.out, HC.out]; rfl) hv0
          · go_wp2_with fail
            exact ⟨⟨j + 1, st, b, by omega, by go_num, rfl, rfl, t0, t1, by omega, hR2, hv0⟩, by simp [intOf]; omega⟩
        · have hR2 := hR.out.trans (by rw [List.drop_eq_nil_of_le (by rw [hn.out]; omega)]; rfl : _ = a)
          have HV := Lib.hid (show logV xs = a by unfold logV; rw [HA.out, HU.out, if_pos rfl, if_pos rfl, hR2, if_pos ha4])
          have HC := Lib.hid (show logC xs = 0 by unfold logC; rw [HA.out, HU.out, if_pos rfl, if_pos rfl, hR2, if_pos ha4])
          clear hR hR2
          go_wp2_with fail
          go_returns
          exact RetT.mk (by rw [HV.out, HC.out]; rfl) hv
end Go.Proofs.YtnhkdcebldppmaaDoor
