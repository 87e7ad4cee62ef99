/- The reference's LogOf. -/
import Derived.Test.YtnhkdcebldppmaaDoorLogP
namespace Go.Proofs.YtnhkdcebldppmaaDoor
open Go.RowKit

set_option maxRecDepth 100000 in
set_option maxHeartbeats 2000000 in
theorem l27Line_c (s : Int) (g : Addr) (x : Entry) (hx : entB x = true) (h0 : 0 ≤ s) (h1 : s ≤ 65518) (w : World) (c0 : w.cell? g = some (.int .i64 x.day)) (c1 : w.cell? ⟨g.block, g.off + 1, none⟩ = some (.string x.what)) (c2 : w.cell? ⟨g.block, g.off + 2, none⟩ = some (.int .i64 x.value)) :
    Calls Tryd.prog 88 #[.int .i64 s, .pointer (some g)] w (Ret (.string (lineE s x)) w) := by
  have z1 := wordsB_size hx
  have z2 := decI_size s
  have hwd := Lib.hid (l27Words_c g x hx w c0 c1 c2)
  obtain ⟨wd, hwd2⟩ : ∃ wd, wd = wordsB x := ⟨_, rfl⟩
  have HL := Lib.hid (show lineE s x = wd ++ ⟨#[32]⟩ ++ decI s ++ ⟨#[10]⟩ by rw [hwd2]; rfl)
  rw [← hwd2] at hwd z1
  have z3 : (ByteArray.mk #[32]).size = 1 := rfl
  have z4 : (ByteArray.mk #[10]).size = 1 := rfl
  have hadd1 := fun (w : World) => run_string_add_sum (P := Tryd.prog) w wd ⟨#[32]⟩ (by omega)
  have hadd2 := fun (w : World) => run_string_add_sum (P := Tryd.prog) w (wd ++ ⟨#[32]⟩) (decI s) (by rw [ByteArray.size_append']; omega)
  have hadd3 := fun (w : World) => run_string_add_sum (P := Tryd.prog) w (wd ++ ⟨#[32]⟩ ++ decI s) ⟨#[10]⟩ (by rw [ByteArray.size_append', ByteArray.size_append']; omega)
  clear z1 z2 z3 z4 hwd2 c0 c1 c2 hx
  go_enter Tryd.func88, Tryd.ntmps88
  go_wp2_with fail
  refine (hwd.out).mono ?_
  rintro e W ⟨rfl, hb⟩
  go_wp2_with fail
  refine (l01DecI_c s (by omega) (by omega) _).mono ?_
  rintro e W2 ⟨rfl, hb2⟩
  go_wp2_with fail
  go_returns
  exact Ret.mk (vs HL.out.symm) (bl_trans hb hb2)
set_option maxRecDepth 100000 in
set_option maxHeartbeats 2000000 in
theorem l27Make_c (A : Option Addr) (xs : List Entry) (n c : Nat) (hn : Hid (xs.length = n)) (hm : (n : Int) ≤ 1048576) (ha : Hid (xs.all entB = true)) (w : World) (hA : Arr w A (flat Entry.cells xs)) :
    Calls Tryd.prog 61 #[.slice A n c] w (Ret (.string (logGo xs 0 ⟨#[]⟩)) w) := by
  obtain ⟨i0, hi0, hz0, hz1, hz2⟩ := info_parts (P := Tryd.prog) (e := 5) (z := .int .u8 0) (size := 1) (bytes := 1) info_u8
  go_enter Tryd.func61, Tryd.ntmps61
  go_wp2_with fail
  have hown := own_empty w w.heap.size 5 1 (Nat.le_refl _)
  have hv := bl_alloc (Below.refl w.heap.size w) (Obj.cells #[] 5)
  have hR := Lib.hid (show logGo xs 0 ⟨#[]⟩ = logGo (xs.drop 0) 0 ⟨#[]⟩ from rfl)
  go_loopw [3, 4, 5] (fun av sv i wr => ∃ (j : Nat) (s : Int) (a : ByteArray) (A' : Option Addr) (c' : Nat), j ≤ n ∧ i = .int .i64 j ∧ av = .slice A' a.size c' ∧ sv = .int .i64 s ∧ 0 ≤ s ∧ s ≤ 65518 ∧ a.size ≤ j * 1200000 ∧ Hid (logGo xs 0 ⟨#[]⟩ = logGo (xs.drop j) s a) ∧ wr.ownsRow w.heap.size 5 1 (.slice A' a.size c') a.size (Lib.strCells a) ∧ Below w.heap.size w wr) (fun _ _ i _ => n - (intOf i).toNat)
  case atStart => exact ⟨0, 0, ⟨#[]⟩, _, _, by omega, rfl, rfl, rfl, by omega, by omega, by decide, hR, hown, hv⟩
  case round =>
    clear hR hv hown
    obtain ⟨j, s, a, A', c', hj, rfl, rfl, rfl, s0, s1, haz, hR, hown, hv⟩ := hrel
    by_cases hlt : j < n
    · obtain ⟨x, hx⟩ := get_of_lt (xs := xs) (k := j) (by rw [hn.out]; exact hlt)
      obtain ⟨ad, rfl, hab, c0, c1, c2⟩ := Entry.at_ (hA.below hv) hx
      have hR2 := Lib.hid (hR.out.trans (logGo_at hx s a))
      have hex := all_ent ha.out hx
      obtain ⟨t0, t1⟩ := stp_bd s x
      have hwd := Lib.hid (fun w c0 c1 c2 => l27Words_c (ad.add (j * 3)) x hex w c0 c1 c2)
      have hst := Lib.hid (fun w => l27Stamp_c s (wordsB x) s0 s1 (by have := wordsB_size hex; omega) w)
      have hst' : Hid (∀ w, Calls Tryd.prog 86 #[.int .i64 s, .string (wordsB x)] w (RetQ (.int .i64 (stp s x)) w)) := hst
      have hln := Lib.hid (fun w c0 c1 c2 => l27Line_c (stp s x) (ad.add (j * 3)) x hex t0 t1 w c0 c1 c2)
      have hlz := lineE_size hex (stp s x) t0 t1
      obtain ⟨st, hst2⟩ : ∃ st, st = stp s x := ⟨_, rfl⟩
      rw [← hst2] at hst' hR2 t0 t1 hlz hln
      obtain ⟨ln, hl2⟩ : ∃ ln, ln = lineE st x := ⟨_, rfl⟩
      rw [← hl2] at hR2 hlz hln
      obtain ⟨wd, hwd2⟩ : ∃ wd, wd = wordsB x := ⟨_, rfl⟩
      rw [← hwd2] at hwd hst'
      clear hx hst hst2 hl2 hwd2 hR hex
      have hj0 : (0 : Int) ≤ (j : Int) := by omega
      have hj1 : (j : Int) < (n : Int) := by omega
      go_wp2_with fail
      refine (hwd.out _ c0 c1 c2).mono ?_
      rintro e W ⟨rfl, hb⟩
      replace hv := bl_trans hv hb
      replace hown := own_below hown hb
      replace c0 := bl_cell hb c0
      replace c1 := bl_cell hb c1
      replace c2 := bl_cell hb c2
      clear hb
      go_wp2_with fail
      refine (hst'.out _).mono ?_
      rintro e W2 ⟨rfl, rfl⟩
      go_wp2_with fail
      refine (hln.out _ c0 c1 c2).mono ?_
      rintro e W3 ⟨rfl, hb⟩
      replace hv := bl_trans hv hb
      replace hown := own_below hown hb
      clear hb c0 c1 c2
      go_wp2_with (at_builtin; go_loud (refine Lib.wpList_append_own_string _ rfl _ _ _ _ rfl w.heap.size 5 i0 Tryd.underlying22 Tryd.underlying9 hi0 hz0 hz1 hz2 (.slice A' a.size c') a.size _ rfl hown ln rfl (by unfold maxLen; omega) (by omega) hv.size ?_); intro v2 w2 hown2 hg2 _; obtain ⟨A2, c2, hv2, _, _⟩ := own_form hown2; subst hv2)
      have hsz : (a ++ ln).size = a.size + ln.size := ByteArray.size_append' ..
      rw [strCells_append, ← hsz] at hown2
      refine ⟨⟨j + 1, st, a ++ ln, A2, c2, by omega, by go_num, by rw [hsz], rfl, t0, t1, by rw [hsz]; omega, hR2, hown2, bl_grown hv hg2 (own_at hown)⟩, by simp [intOf]; omega⟩
    · have hR2 := Lib.hid (hR.out.trans (by rw [List.drop_eq_nil_of_le (by rw [hn.out]; omega)]; rfl : _ = a))
      clear hR
      have hcv := run_bytes_own (P := Tryd.prog) 22 9 5 Tryd.underlying22 Tryd.underlying5 Tryd.underlying9 wr hown rfl
      go_wp2_with fail
      go_returns
      exact Ret.mk (vs hR2.out.symm) hv
set_option maxRecDepth 100000 in
set_option maxHeartbeats 2000000 in
theorem SLogOf_c (A : Option Addr) (xs : List Entry) (n c : Nat) (hn : Hid (xs.length = n)) (hm : (n : Int) ≤ 1048576) (hs : Hid (∀ x ∈ xs, x.what.size ≤ 9223372036854775807)) (w : World) (hA : Arr w A (flat Entry.cells xs)) :
    Calls Tryd.prog 25 #[.slice A n c] w (RetT #[.string (logV xs), .int .i64 (logC xs)] w) := by
  go_enter Tryd.func25, Tryd.ntmps25
  go_wp2_with fail
  have hR0 := Lib.hid (show xs.all entB = (xs.drop 0).all entB from rfl)
  go_loopw [4] (fun i wr => ∃ k : Nat, k ≤ n ∧ i = .int .i64 k ∧ Hid (xs.all entB = (xs.drop k).all entB) ∧ Below w.heap.size w wr) (fun i _ => n - (intOf i).toNat)
  case atStart => exact ⟨0, by omega, rfl, hR0, Below.refl _ _⟩
  case round =>
    clear hR0
    obtain ⟨k, hk, rfl, hR0, hv⟩ := hrel
    by_cases hlt : k < n
    · obtain ⟨x, hx⟩ := get_of_lt (xs := xs) (k := k) (by rw [hn.out]; exact hlt)
      obtain ⟨ad, rfl, hab, c0, c1, c2⟩ := Entry.at_ (hA.below hv) hx
      have hR2 := Lib.hid (hR0.out.trans (by rw [drop_at hx, List.all_cons] : _ = (entB x && (xs.drop (k + 1)).all entB)))
      have hxs := hs.out x (List.mem_of_getElem? hx)
      have hj0 : (0 : Int) ≤ (k : Int) := by omega
      have hj1 : (k : Int) < (n : Int) := by omega
      clear hR0 hx
      go_wp2_with fail
      refine (l27Ok_c (ad.add (k * 3)) x hxs _ c0 c1 c2).mono ?_
      rintro e W ⟨rfl, rfl⟩
      cases hq : entB x
      · have HV := Lib.hid (show logV xs = ⟨#[]⟩ by unfold logV; rw [hR2.out, hq]; rfl)
        have HC := Lib.hid (show logC xs = 7 by unfold logC; rw [hR2.out, hq]; rfl)
        clear hq
        go_wp2_with fail
        go_returns
        exact RetT.mk (by rw [HV.out, HC.out]; rfl) hv
      · have HR3 := Lib.hid (hR2.out.trans (by rw [hq, Bool.true_and]))
        clear hq
        go_wp2_with fail
        exact ⟨⟨k + 1, by omega, by go_num, HR3, hv⟩, by simp [intOf]; omega⟩
    · have HA := Lib.hid (hR0.out.trans (by rw [List.drop_eq_nil_of_le (by rw [hn.out]; omega)]; rfl : _ = true))
      clear hR0
      go_wp2_with fail
      have hR := Lib.hid (show upB xs = upB (xs.drop (1 - 1)) from rfl)
      go_loopw [5] (fun i wr => ∃ k : Nat, 1 ≤ k ∧ k ≤ n + 1 ∧ i = .int .i64 k ∧ Hid (upB xs = upB (xs.drop (k - 1))) ∧ Below w.heap.size w wr) (fun i _ => n + 1 - (intOf i).toNat)
      case atStart => exact ⟨1, by omega, by omega, rfl, hR, hv⟩
      case round =>
        clear hR hv
        obtain ⟨k, hk1, hk, rfl, hR, hv⟩ := hrel
        by_cases hlt : k < n
        · obtain ⟨j, rfl⟩ : ∃ j, k = j + 1 := ⟨k - 1, by omega⟩
          obtain ⟨x, hx⟩ := get_of_lt (xs := xs) (k := j + 1) (by rw [hn.out]; exact hlt)
          obtain ⟨y, hy⟩ := get_of_lt (xs := xs) (k := j) (by rw [hn.out]; omega)
          obtain ⟨ad, rfl, hab, c0, c1, c2⟩ := Entry.at_ (hA.below hv) hx
          obtain ⟨ad', e', _, d0, d1, d2⟩ := Entry.at_ (hA.below hv) hy
          injection e' with e'
          subst e'
          have hR2 := Lib.hid (hR.out.trans (by rw [Nat.add_sub_cancel]; exact up_at hy hx : _ = (decide (y.day ≤ x.day) && upB (xs.drop (j + 1)))))
          have hj0 : (0 : Int) ≤ (j : Int) := by omega
          have hj1 : (j : Int) < (n : Int) := by omega
          have hj2 : ((j : Int)).toNat = j := by omega
          have hw2 : IntKind.i64.wrap (j : Int) = (j : Int) := IntWalk.i64_in _ (by omega)
          have hw1 : IntKind.i64.wrap (((j + 1 : Nat) : Int) - 1) = (j : Int) := IntWalk.i64_in _ (by omega) |>.trans (by omega)
          clear hR hx hy
          by_cases hd : y.day ≤ x.day
          · have hR3 := Lib.hid (hR2.out.trans (by rw [decide_eq_true hd, Bool.true_and]))
            clear hR2
            go_wp2_with fail
            go_region
            go_wp2_with fail
            exact ⟨⟨j + 1 + 1, by omega, by omega, by go_num, hR3, hv.drew⟩, by simp [intOf]; omega⟩
          · have hR3 := Lib.hid (hR2.out.trans (by rw [decide_eq_false hd, Bool.false_and]))
            clear hR2
            have HV := Lib.hid (show logV xs = ⟨#[]⟩ by unfold logV; rw [HA.out, hR3.out]; rfl)
            have HC := Lib.hid (show logC xs = 6 by unfold logC; rw [HA.out, hR3.out]; rfl)
            go_wp2_with fail
            go_region
            go_wp2_with fail
            go_returns
            exact RetT.mk (by rw [HV.out, HC.out]; rfl) hv.drew
        · have HU := Lib.hid (hR.out.trans (up_end (by rw [hn.out]; omega)))
          clear hR
          go_wp2_with fail
          refine (l27Make_c A xs n c hn hm HA _ (hA.below hv)).mono ?_
          rintro e W ⟨rfl, hb⟩
          have hv2 := bl_trans hv hb
          have hzl : (logGo xs 0 ⟨#[]⟩).size ≤ 9223372036854775807 := by
            have h1 := logGo_le xs 0 ⟨#[]⟩ (List.all_eq_true.1 HA.out)
            rw [hn.out, show (ByteArray.mk #[]).size = 0 from rfl] at h1
            omega
          by_cases hbig : (logGo xs 0 ⟨#[]⟩).size ≤ 4000
          · have HV := Lib.hid (show logV xs = logGo xs 0 ⟨#[]⟩ by unfold logV; rw [HA.out, HU.out, if_pos rfl, if_pos rfl, if_pos hbig])
            have HC := Lib.hid (show logC xs = 0 by unfold logC; rw [HA.out, HU.out, if_pos rfl, if_pos rfl, if_pos hbig])
            generalize logGo xs 0 ⟨#[]⟩ = L at HV hbig hzl ⊢
            have hbi : ¬ (4000 : Int) < (L.size : Int) := by omega
            go_wp2_with fail
            go_returns
            exact RetT.mk (by rw [HV.out, HC.out]; rfl) hv2
          · have HV := Lib.hid (show logV xs = ⟨#[]⟩ by unfold logV; rw [HA.out, HU.out, if_pos rfl, if_pos rfl, if_neg hbig])
            have HC := Lib.hid (show logC xs = 5 by unfold logC; rw [HA.out, HU.out, if_pos rfl, if_pos rfl, if_neg hbig])
            generalize logGo xs 0 ⟨#[]⟩ = L at hbig hzl ⊢
            have hbi : (4000 : Int) < (L.size : Int) := by omega
            go_wp2_with fail
            go_returns
            exact RetT.mk (by rw [HV.out, HC.out]; rfl) hv2
end Go.Proofs.YtnhkdcebldppmaaDoor
