/- Lemmas for the law on the console: the parts LstC, RdP. -/
import Derived.Test.YtpiehlfffjhoaaaGreatDoorQ0
import Derived.Test.YtpiehlfffjhoaaaGreatDoorQ3
import Derived.Test.YtpiehlfffjhoaaaGreatDoorQ1
import Derived.Lib.ParseIntB
import Derived.Lib.ItoaMem
import Derived.Lib.SplitLaws
import Derived.Lib.CutLaws
import Derived.Lib.IndexBytes
import Derived.Lib.Strings
namespace Go.Proofs.YtpiehlfffjhoaaaGreatDoor
open Go.RowKit
set_option maxRecDepth 100000 in
set_option maxHeartbeats 8000000 in
theorem l04Ok_c (A : Option Addr) (xs : List Last) (n c : Nat) (hn : Hid (xs.length = n)) (hm : (n : Int) ≤ 1048576) (hs : Hid (∀ x ∈ xs, x.name.size ≤ 9223372036854775807)) (w : World) (hA : Arr w A (flat Last.cells xs)) : Calls Tryz.prog 92 #[.slice A n c] w (Ret (.bool (lasB xs)) w) := by
 have HA := qH hA
 clear hA
 go_enter Tryz.func92, Tryz.ntmps92
 go_wp2_with fail
 have hR := qH (show lasGo none xs = lasGo (prevL xs 0) (xs.drop 0) from rfl)
 go_loopw [3] (fun i wr => ∃ k : Nat, k ≤ n ∧ i = .int .i64 k ∧ Hid (lasGo none xs = lasGo (prevL xs k) (xs.drop k)) ∧ Below w.heap.size w wr) (fun i _ => n - (intOf i).toNat)
 case atStart => exact ⟨0, by omega, rfl, hR, Below.refl _ _⟩
 case round =>
 clear hR
 obtain ⟨k, hk, rfl, hR, hv⟩ := hrel
 have hk0 : (0 : Int) ≤ (k : Int) := by omega
 by_cases hlt : k < n
 case neg =>
   have hkn : ¬ (k : Int) < (n : Int) := by omega
   have HE := qH (show lasB xs = decide ((n : Int) ≤ 30) by
     unfold lasB
     rw [hR.out, las_end (by rw [hn.out]; omega), hn.out, Bool.true_and, decide_eq_decide]
     omega)
   clear hR
   go_wp2_with fail
   go_returns
   exact Ret.mk (vb HE.out.symm) hv
 case pos =>
 have hk1 : (k : Int) < (n : Int) := by omega
 obtain ⟨x, hx⟩ := get_of_lt (xs := xs) (k := k) (by rw [hn.out]; exact hlt)
 obtain ⟨ad, rfl, hab, c0, c1, c2, c3, c4, c5⟩ := Last.at_ (HA.out.below hv) hx
 have HC := fun w => l04One_c x (hs.out x (List.mem_of_getElem? hx)) w
 obtain ⟨b, hb⟩ : ∃ z, z = lastB x := ⟨_, rfl⟩
 rw [← hb] at HC
 replace HC := qH HC
 have HX := qH hx
 have HB := qH hb.symm
 clear hx hb
 cases b
 · skip
   have HN := qH (show lasGo none xs = false from hR.out.trans (las_bad HX.out HB.out))
   clear hR
   go_wp2_with fail
   refine wp_region_held_drew (S := fun w' => Below wr.heap.size wr w' ∧ True) (by as_aux_lemma => kernel_rfl) ?_ (fun hHeld => ?_)
   · exact ⟨(Below.refl _ _).drew, trivial⟩
   have hd9 := hHeld.1
   refine zU 0 10 rfl (by assumption) ?_
   try simp only [Act.put, zA, zB, zC]
   refine zU 1 11 rfl (by assumption) ?_
   try simp only [Act.put, zA, zB, zC]
   refine zT 2 12 ?_ rfl ?_ (by assumption) ?_
   rotate_left
   · intro w hSw
     try dsimp only at hSw
     have x_c0 := bl_cell hSw.1 c0
     have x_c1 := bl_cell hSw.1 c1
     have x_c2 := bl_cell hSw.1 c2
     have x_c3 := bl_cell hSw.1 c3
     have x_c4 := bl_cell hSw.1 c4
     have x_c5 := bl_cell hSw.1 c5
     go_simp
     try with_reducible rfl
   try simp only [Act.put, zA, zB, zC]
   refine zT 3 13 ?_ rfl ?_ (by assumption) ?_
   rotate_left
   · intro w hSw
     try dsimp only at hSw
     have x_c0 := bl_cell hSw.1 c0
     have x_c1 := bl_cell hSw.1 c1
     have x_c2 := bl_cell hSw.1 c2
     have x_c3 := bl_cell hSw.1 c3
     have x_c4 := bl_cell hSw.1 c4
     have x_c5 := bl_cell hSw.1 c5
     go_simp
     try with_reducible rfl
   try simp only [Act.put, zA, zB, zC]
   refine zR 4 (some 14) rfl (fun K hK => ?_)
   go_simp
   (try dsimp only at hHeld); go_split_ands
   refine (HC.out _).mono ?_
   rintro e V1 ⟨rfl, hb9⟩
   replace hd9 := bl_trans hd9 hb9
   clear hb9
   go_wp2_with fail
   refine hK.out _ _ ?_ (fun hHeld => ?_)
   · (try dsimp only); go_split_ands; exact ⟨hd9, trivial⟩
   clear hK K
   try simp only [Act.put, zA, zB, zC]
   refine zU 5 15 rfl (by assumption) ?_
   try simp only [Act.put, zA, zB, zC]
   refine zU 6 16 rfl (by assumption) ?_
   try simp only [Act.put, zA, zB, zC]
   refine zS 7 17 rfl (by assumption) ?_
   try simp only [Act.put, zA, zB, zC]
   refine zS 8 18 rfl (by assumption) ?_
   try simp only [Act.put, zA, zB, zC]
   refine zS 9 19 rfl (by assumption) ?_
   try simp only [Act.put, zA, zB, zC]
   refine zS 10 20 rfl (by assumption) ?_
   try simp only [Act.put, zA, zB, zC]
   refine zS 11 21 rfl (by assumption) ?_
   try simp only [Act.put, zA, zB, zC]
   refine zS 12 22 rfl (by assumption) ?_
   try simp only [Act.put, zA, zB, zC]
   refine zS 13 23 rfl (by assumption) ?_
   try simp only [Act.put, zA, zB, zC]
   refine zS 14 24 rfl (by assumption) ?_
   try simp only [Act.put, zA, zB, zC]
   refine zS 15 25 rfl (by assumption) ?_
   try simp only [Act.put, zA, zB, zC]
   refine zS 16 26 rfl (by assumption) ?_
   try simp only [Act.put, zA, zB, zC]
   refine zS 17 27 rfl (by assumption) ?_
   try simp only [Act.put, zA, zB, zC]
   refine zS 18 28 rfl (by assumption) ?_
   try simp only [Act.put, zA, zB, zC]
   refine zS 19 29 rfl (by assumption) ?_
   try simp only [Act.put, zA, zB, zC]
   refine zS 20 30 rfl (by assumption) ?_
   try simp only [Act.put, zA, zB, zC]
   refine zS 21 31 rfl (by assumption) ?_
   try simp only [Act.put, zA, zB, zC]
   refine zS 22 32 rfl (by assumption) ?_
   try simp only [Act.put, zA, zB, zC]
   refine zU 23 33 rfl (by assumption) ?_
   try simp only [Act.put, zA, zB, zC]
   refine wpAnyH_done (by as_aux_lemma => kernel_rfl) ?_ _
   clear hHeld
   replace hv := bl_trans hv hd9
   go_wp2_with fail
   go_returns
   exact Ret.mk (vb (by unfold lasB; rw [HN.out]; rfl)) hv
 by_cases hk9 : k = 0
 · have HN := qH (show lasGo none xs = lasGo (prevL xs (k + 1)) (xs.drop (k + 1)) from hR.out.trans (by have h := HX.out; rw [hk9] at h ⊢; rw [las_first h, HB.out]; rfl))
   have hg1 : decide ((0 : Int) < (k : Int)) = false := decide_eq_false (by omega)
   have hg2 : ¬ (0 : Int) < (k : Int) := by omega
   have hg3 : ¬ 0 < k := by omega
   clear hR hk9
   go_wp2_with fail
   refine wp_region_held_drew (S := fun w' => Below wr.heap.size wr w' ∧ True) (by as_aux_lemma => kernel_rfl) ?_ (fun hHeld => ?_)
   · exact ⟨(Below.refl _ _).drew, trivial⟩
   have hd9 := hHeld.1
   refine zU 0 10 rfl (by assumption) ?_
   try simp only [Act.put, zA, zB, zC]
   refine zU 1 11 rfl (by assumption) ?_
   try simp only [Act.put, zA, zB, zC]
   refine zT 2 12 ?_ rfl ?_ (by assumption) ?_
   rotate_left
   · intro w hSw
     try dsimp only at hSw
     have x_c0 := bl_cell hSw.1 c0
     have x_c1 := bl_cell hSw.1 c1
     have x_c2 := bl_cell hSw.1 c2
     have x_c3 := bl_cell hSw.1 c3
     have x_c4 := bl_cell hSw.1 c4
     have x_c5 := bl_cell hSw.1 c5
     go_simp
     try with_reducible rfl
   try simp only [Act.put, zA, zB, zC]
   refine zT 3 13 ?_ rfl ?_ (by assumption) ?_
   rotate_left
   · intro w hSw
     try dsimp only at hSw
     have x_c0 := bl_cell hSw.1 c0
     have x_c1 := bl_cell hSw.1 c1
     have x_c2 := bl_cell hSw.1 c2
     have x_c3 := bl_cell hSw.1 c3
     have x_c4 := bl_cell hSw.1 c4
     have x_c5 := bl_cell hSw.1 c5
     go_simp
     try with_reducible rfl
   try simp only [Act.put, zA, zB, zC]
   refine zR 4 (some 14) rfl (fun K hK => ?_)
   go_simp
   (try dsimp only at hHeld); go_split_ands
   refine (HC.out _).mono ?_
   rintro e V1 ⟨rfl, hb9⟩
   replace hd9 := bl_trans hd9 hb9
   clear hb9
   go_wp2_with fail
   refine hK.out _ _ ?_ (fun hHeld => ?_)
   · (try dsimp only); go_split_ands; exact ⟨hd9, trivial⟩
   clear hK K
   try simp only [Act.put, zA, zB, zC]
   refine zU 5 15 rfl (by assumption) ?_
   try simp only [Act.put, zA, zB, zC]
   refine zU 6 16 rfl (by assumption) ?_
   try simp only [Act.put, zA, zB, zC]
   refine zU 7 17 rfl (by assumption) ?_
   try simp only [Act.put, zA, zB, zC]
   refine zU 8 18 rfl (by assumption) ?_
   try simp only [Act.put, zA, zB, zC]
   refine zU 9 19 rfl (by assumption) ?_
   try simp only [Act.put, zA, zB, zC]
   refine zS 10 20 rfl (by assumption) ?_
   try simp only [Act.put, zA, zB, zC]
   refine zS 11 21 rfl (by assumption) ?_
   try simp only [Act.put, zA, zB, zC]
   refine zS 12 22 rfl (by assumption) ?_
   try simp only [Act.put, zA, zB, zC]
   refine zS 13 23 rfl (by assumption) ?_
   try simp only [Act.put, zA, zB, zC]
   refine zS 14 24 rfl (by assumption) ?_
   try simp only [Act.put, zA, zB, zC]
   refine zS 15 25 rfl (by assumption) ?_
   try simp only [Act.put, zA, zB, zC]
   refine zS 16 26 rfl (by assumption) ?_
   try simp only [Act.put, zA, zB, zC]
   refine zS 17 27 rfl (by assumption) ?_
   try simp only [Act.put, zA, zB, zC]
   refine zS 18 28 rfl (by assumption) ?_
   try simp only [Act.put, zA, zB, zC]
   refine zS 19 29 rfl (by assumption) ?_
   try simp only [Act.put, zA, zB, zC]
   refine zS 20 30 rfl (by assumption) ?_
   try simp only [Act.put, zA, zB, zC]
   refine zS 21 31 rfl (by assumption) ?_
   try simp only [Act.put, zA, zB, zC]
   refine zU 22 32 rfl (by assumption) ?_
   try simp only [Act.put, zA, zB, zC]
   refine zU 23 33 rfl (by assumption) ?_
   try simp only [Act.put, zA, zB, zC]
   refine wpAnyH_done (by as_aux_lemma => kernel_rfl) ?_ _
   clear hHeld
   replace hv := bl_trans hv hd9
   go_wp2_with fail
   exact ⟨⟨k + 1, by omega, by go_num, HN, hv⟩, by simp [intOf]; omega⟩
 obtain ⟨j, hj⟩ : ∃ j, k = j + 1 := ⟨k - 1, by omega⟩
 obtain ⟨y, hy⟩ := get_of_lt (xs := xs) (k := j) (by rw [hn.out]; omega)
 obtain ⟨ad', e', _, d0, _, _, _, _, _⟩ := Last.at_ (HA.out.below hv) hy
 injection e' with e'
 subst e'
 have hN : lasGo none xs = (lastB x && (lessB y.name x.name && lasGo (prevL xs (k + 1)) (xs.drop (k + 1)))) := by
   have h := HX.out
   rw [hR.out]
   rw [hj] at h ⊢
   exact las_next hy h
 rw [HB.out, Bool.true_and] at hN
 have hw1 : IntKind.i64.wrap ((k : Int) - 1) = (j : Int) := IntWalk.i64_in _ (by omega) |>.trans (by omega)
 have hw2 : IntKind.i64.wrap (j : Int) = (j : Int) := IntWalk.i64_in _ (by omega)
 have hj0 : (0 : Int) ≤ (j : Int) := by omega
 have hj1 : (j : Int) < (n : Int) := by omega
 have hj2 : ((j : Int)).toNat = j := by omega
 have hj3 : j < n := by omega
 have hjp : (0 : Int) < (k : Int) := by omega
 have hjq : 0 < k := by omega
 obtain ⟨lb, hlb⟩ : ∃ z, z = lessB y.name x.name := ⟨_, rfl⟩
 have hl : Op.bytesLess y.name.toList x.name.toList = lb := hlb.symm
 rw [← hlb] at hN
 have HN0 := qH hN
 clear hN hlb hR hy hk9 hj
 cases lb
 · skip
   have HN := qH (HN0.out.trans (Bool.false_and _))
   go_wp2_with fail
   refine wp_region_held_drew (S := fun w' => Below wr.heap.size wr w' ∧ True) (by as_aux_lemma => kernel_rfl) ?_ (fun hHeld => ?_)
   · exact ⟨(Below.refl _ _).drew, trivial⟩
   have hd9 := hHeld.1
   refine zU 0 10 rfl (by assumption) ?_
   try simp only [Act.put, zA, zB, zC]
   refine zU 1 11 rfl (by assumption) ?_
   try simp only [Act.put, zA, zB, zC]
   refine zT 2 12 ?_ rfl ?_ (by assumption) ?_
   rotate_left
   · intro w hSw
     try dsimp only at hSw
     have x_c0 := bl_cell hSw.1 c0
     have x_c1 := bl_cell hSw.1 c1
     have x_c2 := bl_cell hSw.1 c2
     have x_c3 := bl_cell hSw.1 c3
     have x_c4 := bl_cell hSw.1 c4
     have x_c5 := bl_cell hSw.1 c5
     go_simp
     try with_reducible rfl
   try simp only [Act.put, zA, zB, zC]
   refine zT 3 13 ?_ rfl ?_ (by assumption) ?_
   rotate_left
   · intro w hSw
     try dsimp only at hSw
     have x_c0 := bl_cell hSw.1 c0
     have x_c1 := bl_cell hSw.1 c1
     have x_c2 := bl_cell hSw.1 c2
     have x_c3 := bl_cell hSw.1 c3
     have x_c4 := bl_cell hSw.1 c4
     have x_c5 := bl_cell hSw.1 c5
     go_simp
     try with_reducible rfl
   try simp only [Act.put, zA, zB, zC]
   refine zR 4 (some 14) rfl (fun K hK => ?_)
   go_simp
   (try dsimp only at hHeld); go_split_ands
   refine (HC.out _).mono ?_
   rintro e V1 ⟨rfl, hb9⟩
   replace hd9 := bl_trans hd9 hb9
   clear hb9
   go_wp2_with fail
   refine hK.out _ _ ?_ (fun hHeld => ?_)
   · (try dsimp only); go_split_ands; exact ⟨hd9, trivial⟩
   clear hK K
   try simp only [Act.put, zA, zB, zC]
   refine zU 5 15 rfl (by assumption) ?_
   try simp only [Act.put, zA, zB, zC]
   refine zU 6 16 rfl (by assumption) ?_
   try simp only [Act.put, zA, zB, zC]
   refine zU 7 17 rfl (by assumption) ?_
   try simp only [Act.put, zA, zB, zC]
   refine zU 8 18 rfl (by assumption) ?_
   try simp only [Act.put, zA, zB, zC]
   refine zU 9 19 rfl (by assumption) ?_
   try simp only [Act.put, zA, zB, zC]
   refine zU 10 20 rfl (by assumption) ?_
   try simp only [Act.put, zA, zB, zC]
   refine zU 11 21 rfl (by assumption) ?_
   try simp only [Act.put, zA, zB, zC]
   refine zU 12 22 rfl (by assumption) ?_
   try simp only [Act.put, zA, zB, zC]
   refine zT 13 23 ?_ rfl ?_ (by assumption) ?_
   rotate_left
   · intro w hSw
     try dsimp only at hSw
     have x_d0 := bl_cell hSw.1 d0
     go_simp
     try with_reducible rfl
   try simp only [Act.put, zA, zB, zC]
   refine zT 14 24 ?_ rfl ?_ (by assumption) ?_
   rotate_left
   · intro w hSw
     try dsimp only at hSw
     have x_d0 := bl_cell hSw.1 d0
     go_simp
     try with_reducible rfl
   try simp only [Act.put, zA, zB, zC]
   refine zT 15 25 ?_ rfl ?_ (by assumption) ?_
   rotate_left
   · intro w hSw
     try dsimp only at hSw
     have x_d0 := bl_cell hSw.1 d0
     go_simp
     try with_reducible rfl
   try simp only [Act.put, zA, zB, zC]
   refine zU 16 26 rfl (by assumption) ?_
   try simp only [Act.put, zA, zB, zC]
   refine zU 17 27 rfl (by assumption) ?_
   try simp only [Act.put, zA, zB, zC]
   refine zT 18 28 ?_ rfl ?_ (by assumption) ?_
   rotate_left
   · intro w hSw
     try dsimp only at hSw
     have x_c0 := bl_cell hSw.1 c0
     go_simp
     try with_reducible rfl
   try simp only [Act.put, zA, zB, zC]
   refine zT 19 29 ?_ rfl ?_ (by assumption) ?_
   rotate_left
   · intro w hSw
     try dsimp only at hSw
     have x_c0 := bl_cell hSw.1 c0
     go_simp
     try with_reducible rfl
   try simp only [Act.put, zA, zB, zC]
   refine zT 20 30 ?_ rfl ?_ (by assumption) ?_
   rotate_left
   · intro w hSw
     try dsimp only at hSw
     have x_c0 := bl_cell hSw.1 c0
     go_simp
     try with_reducible rfl
   try simp only [Act.put, zA, zB, zC]
   refine zU 21 31 rfl (by assumption) ?_
   try simp only [Act.put, zA, zB, zC]
   refine zU 22 32 rfl (by assumption) ?_
   try simp only [Act.put, zA, zB, zC]
   refine zU 23 33 rfl (by assumption) ?_
   try simp only [Act.put, zA, zB, zC]
   refine wpAnyH_done (by as_aux_lemma => kernel_rfl) ?_ _
   clear hHeld
   replace hv := bl_trans hv hd9
   go_wp2_with fail
   go_returns
   exact Ret.mk (vb (by unfold lasB; rw [HN.out]; rfl)) hv
 · skip
   have HN := qH (HN0.out.trans (Bool.true_and _))
   go_wp2_with fail
   refine wp_region_held_drew (S := fun w' => Below wr.heap.size wr w' ∧ True) (by as_aux_lemma => kernel_rfl) ?_ (fun hHeld => ?_)
   · exact ⟨(Below.refl _ _).drew, trivial⟩
   have hd9 := hHeld.1
   refine zU 0 10 rfl (by assumption) ?_
   try simp only [Act.put, zA, zB, zC]
   refine zU 1 11 rfl (by assumption) ?_
   try simp only [Act.put, zA, zB, zC]
   refine zT 2 12 ?_ rfl ?_ (by assumption) ?_
   rotate_left
   · intro w hSw
     try dsimp only at hSw
     have x_c0 := bl_cell hSw.1 c0
     have x_c1 := bl_cell hSw.1 c1
     have x_c2 := bl_cell hSw.1 c2
     have x_c3 := bl_cell hSw.1 c3
     have x_c4 := bl_cell hSw.1 c4
     have x_c5 := bl_cell hSw.1 c5
     go_simp
     try with_reducible rfl
   try simp only [Act.put, zA, zB, zC]
   refine zT 3 13 ?_ rfl ?_ (by assumption) ?_
   rotate_left
   · intro w hSw
     try dsimp only at hSw
     have x_c0 := bl_cell hSw.1 c0
     have x_c1 := bl_cell hSw.1 c1
     have x_c2 := bl_cell hSw.1 c2
     have x_c3 := bl_cell hSw.1 c3
     have x_c4 := bl_cell hSw.1 c4
     have x_c5 := bl_cell hSw.1 c5
     go_simp
     try with_reducible rfl
   try simp only [Act.put, zA, zB, zC]
   refine zR 4 (some 14) rfl (fun K hK => ?_)
   go_simp
   (try dsimp only at hHeld); go_split_ands
   refine (HC.out _).mono ?_
   rintro e V1 ⟨rfl, hb9⟩
   replace hd9 := bl_trans hd9 hb9
   clear hb9
   go_wp2_with fail
   refine hK.out _ _ ?_ (fun hHeld => ?_)
   · (try dsimp only); go_split_ands; exact ⟨hd9, trivial⟩
   clear hK K
   try simp only [Act.put, zA, zB, zC]
   refine zU 5 15 rfl (by assumption) ?_
   try simp only [Act.put, zA, zB, zC]
   refine zU 6 16 rfl (by assumption) ?_
   try simp only [Act.put, zA, zB, zC]
   refine zU 7 17 rfl (by assumption) ?_
   try simp only [Act.put, zA, zB, zC]
   refine zU 8 18 rfl (by assumption) ?_
   try simp only [Act.put, zA, zB, zC]
   refine zU 9 19 rfl (by assumption) ?_
   try simp only [Act.put, zA, zB, zC]
   refine zU 10 20 rfl (by assumption) ?_
   try simp only [Act.put, zA, zB, zC]
   refine zU 11 21 rfl (by assumption) ?_
   try simp only [Act.put, zA, zB, zC]
   refine zU 12 22 rfl (by assumption) ?_
   try simp only [Act.put, zA, zB, zC]
   refine zT 13 23 ?_ rfl ?_ (by assumption) ?_
   rotate_left
   · intro w hSw
     try dsimp only at hSw
     have x_d0 := bl_cell hSw.1 d0
     go_simp
     try with_reducible rfl
   try simp only [Act.put, zA, zB, zC]
   refine zT 14 24 ?_ rfl ?_ (by assumption) ?_
   rotate_left
   · intro w hSw
     try dsimp only at hSw
     have x_d0 := bl_cell hSw.1 d0
     go_simp
     try with_reducible rfl
   try simp only [Act.put, zA, zB, zC]
   refine zT 15 25 ?_ rfl ?_ (by assumption) ?_
   rotate_left
   · intro w hSw
     try dsimp only at hSw
     have x_d0 := bl_cell hSw.1 d0
     go_simp
     try with_reducible rfl
   try simp only [Act.put, zA, zB, zC]
   refine zU 16 26 rfl (by assumption) ?_
   try simp only [Act.put, zA, zB, zC]
   refine zU 17 27 rfl (by assumption) ?_
   try simp only [Act.put, zA, zB, zC]
   refine zT 18 28 ?_ rfl ?_ (by assumption) ?_
   rotate_left
   · intro w hSw
     try dsimp only at hSw
     have x_c0 := bl_cell hSw.1 c0
     go_simp
     try with_reducible rfl
   try simp only [Act.put, zA, zB, zC]
   refine zT 19 29 ?_ rfl ?_ (by assumption) ?_
   rotate_left
   · intro w hSw
     try dsimp only at hSw
     have x_c0 := bl_cell hSw.1 c0
     go_simp
     try with_reducible rfl
   try simp only [Act.put, zA, zB, zC]
   refine zT 20 30 ?_ rfl ?_ (by assumption) ?_
   rotate_left
   · intro w hSw
     try dsimp only at hSw
     have x_c0 := bl_cell hSw.1 c0
     go_simp
     try with_reducible rfl
   try simp only [Act.put, zA, zB, zC]
   refine zU 21 31 rfl (by assumption) ?_
   try simp only [Act.put, zA, zB, zC]
   refine zU 22 32 rfl (by assumption) ?_
   try simp only [Act.put, zA, zB, zC]
   refine zU 23 33 rfl (by assumption) ?_
   try simp only [Act.put, zA, zB, zC]
   refine wpAnyH_done (by as_aux_lemma => kernel_rfl) ?_ _
   clear hHeld
   replace hv := bl_trans hv hd9
   go_wp2_with fail
   exact ⟨⟨k + 1, by omega, by go_num, HN, hv⟩, by simp [intOf]; omega⟩
def isDig (b : UInt8) : Bool := decide (48 ≤ b.toNat) && decide (b.toNat ≤ 57)
def dval : List UInt8 → Nat → Nat
 | [], a => a
 | c :: r, a => dval r (a * 10 + (c.toNat - 48))
def bare : List UInt8 → List UInt8
 | [] => []
 | c :: r => if c = 45 then r else c :: r
def sgn : List UInt8 → Nat → Int
 | [], n => n
 | c :: _, n => if c = 45 then -(n : Int) else n
def numL (l : List UInt8) : Int := sgn l (dval (bare l) 0)
def okN (l : List UInt8) : Bool := decide (1 ≤ (bare l).length) && decide ((bare l).length ≤ 18) && (bare l).all isDig && decide (Lib.itoa (numL l) = l)
theorem isDig_iff {b : UInt8} : isDig b = true ↔ 48 ≤ b.toNat ∧ b.toNat ≤ 57 := by simp [isDig]
theorem dval_lt : ∀ (l : List UInt8) (a : Nat), l.all isDig = true → dval l a + 1 ≤ (a + 1) * 10 ^ l.length := by
 intro l
 induction l with
 | nil => intro a _; simp [dval]
 | cons c r ih =>
   intro a h
   simp only [List.all_cons, Bool.and_eq_true] at h
   have hd := isDig_iff.1 h.1
   have h1 := ih (a * 10 + (c.toNat - 48)) h.2
   have h2 : (a * 10 + (c.toNat - 48) + 1) * 10 ^ r.length ≤ ((a + 1) * 10) * 10 ^ r.length := Nat.mul_le_mul_right _ (by omega)
   have h3 : (a + 1) * 10 ^ (r.length + 1) = (a + 1) * 10 * 10 ^ r.length := by rw [Nat.pow_succ, Nat.mul_comm (10 ^ r.length) 10, ← Nat.mul_assoc]
   simp only [dval, List.length_cons]
   omega
theorem pow_le {k : Nat} (h : k ≤ 18) : 10 ^ k ≤ 1000000000000000000 := by
 have : (10 : Nat) ^ k ≤ 10 ^ 18 := Nat.pow_le_pow_right (by omega) h
 simpa using this
theorem dval_bd {l : List UInt8} (h : l.all isDig = true) (hl : l.length ≤ 18) : dval l 0 < 1000000000000000000 := by
 have h1 := dval_lt l 0 h
 have h2 := pow_le hl
 omega
theorem parseM_ok : ∀ (l : List UInt8) (a : Nat), l.all isDig = true → (a + 1) * 10 ^ l.length ≤ 1000000000000000000 → Lib.parseUintM 18446744073709551615 a l = .ok (dval l a) := by
 intro l
 induction l with
 | nil => intro a _ _; rfl
 | cons c r ih =>
   intro a h hb
   simp only [List.all_cons, Bool.and_eq_true] at h
   have hd := isDig_iff.1 h.1
   have e : (a + 1) * 10 ^ (c :: r).length = ((a + 1) * 10) * 10 ^ r.length := by rw [List.length_cons, Nat.pow_succ, Nat.mul_assoc, Nat.mul_comm (10 ^ r.length)]
   rw [e] at hb
   have hp : 1 ≤ 10 ^ r.length := Nat.one_le_pow _ _ (by omega)
   have h2 : (a + 1) * 10 ≤ ((a + 1) * 10) * 10 ^ r.length := Nat.le_mul_of_pos_right _ hp
   have h3 : (a * 10 + (c.toNat - 48) + 1) * 10 ^ r.length ≤ ((a + 1) * 10) * 10 ^ r.length := Nat.mul_le_mul_right _ (by omega)
   unfold Lib.parseUintM
   rw [if_pos hd, if_neg (by omega), if_neg (by omega)]
   exact ih _ h.2 (by omega)
theorem parseM_dig : ∀ (l : List UInt8) (a u : Nat), Lib.parseUintM 18446744073709551615 a l = .ok u → l.all isDig = true ∧ u = dval l a := by
 intro l
 induction l with
 | nil => intro a u h; simp only [Lib.parseUintM, Lib.NumEnd.ok.injEq] at h; exact ⟨rfl, h.symm⟩
 | cons c r ih =>
   intro a u h
   unfold Lib.parseUintM at h
   split at h
   · rename_i hd
     split at h
     · cases h
     · split at h
       · cases h
       · have := ih _ _ h
         exact ⟨by simp only [List.all_cons, Bool.and_eq_true]; exact ⟨isDig_iff.2 hd, this.1⟩, this.2⟩
   · cases h
theorem u8_eq {c : UInt8} {k : Nat} (hk : k < 256) : c.toNat = k ↔ c = UInt8.ofNat k := by
 constructor
 · intro h
   apply UInt8.toNat_inj.1
   rw [h, UInt8.toNat_ofNat']
   omega
 · intro h
   rw [h, UInt8.toNat_ofNat']
   omega
theorem c45 {c : UInt8} : c.toNat = 45 ↔ c = 45 := u8_eq (by omega)
theorem parse_ok {l : List UInt8} (h1 : 1 ≤ (bare l).length) (h2 : (bare l).length ≤ 18) (h3 : (bare l).all isDig = true) : Lib.parseIntB 64 l = .ok (numL l) := by
 cases l with
 | nil => simp [bare] at h1
 | cons c r =>
   by_cases hc : c = 45
   · have hb : bare (c :: r) = r := by simp [bare, hc]
     rw [hb] at h1 h2 h3
     have hp := parseM_ok r 0 h3 (by have := pow_le h2; omega)
     have hv := dval_bd h3 h2
     have hr : r ≠ [] := by intro e; subst e; simp at h1
     unfold Lib.parseIntB
     simp only [c45, hc, or_true, if_true]
     unfold Lib.parseUintB
     rw [if_neg hr, show (2 ^ 64 - 1 : Nat) = 18446744073709551615 from rfl, hp]
     simp only []
     rw [if_neg (by simp), if_neg (by simp; omega)]
     simp [numL, sgn, bare]
   · have hb : bare (c :: r) = c :: r := by simp [bare, hc]
     rw [hb] at h1 h2 h3
     have hp := parseM_ok (c :: r) 0 h3 (by have := pow_le h2; omega)
     have hv := dval_bd h3 h2
     have hd : isDig c = true := by simp only [List.all_cons, Bool.and_eq_true] at h3; exact h3.1
     have hd' := isDig_iff.1 hd
     have hn : ¬ (c.toNat = 43 ∨ c.toNat = 45) := by omega
     have hn45 : ¬ c.toNat = 45 := by omega
     unfold Lib.parseIntB
     have hn43 : ¬ c.toNat = 43 := by omega
     simp only [hn43, hn45, or_false, if_false]
     unfold Lib.parseUintB
     rw [if_neg (by simp), show (2 ^ 64 - 1 : Nat) = 18446744073709551615 from rfl, hp]
     simp only []
     rw [if_neg (by simp; omega), if_neg (by simp)]
     simp [numL, sgn, bare, hc]
theorem okN_iff {l : List UInt8} : okN l = true ↔ (1 ≤ (bare l).length ∧ (bare l).length ≤ 18 ∧ (bare l).all isDig = true ∧ Lib.itoa (numL l) = l) := by
 simp only [okN, Bool.and_eq_true, decide_eq_true_eq, and_assoc]
theorem numL_bd {l : List UInt8} (h : (bare l).all isDig = true) (hl : (bare l).length ≤ 18) : -1000000000000000000 < numL l ∧ numL l < 1000000000000000000 := by
 have := dval_bd h hl
 unfold numL
 cases l with
 | nil => simp [sgn, bare, dval]
 | cons c r =>
   simp only [sgn]
   split <;> omega
theorem dig_all : ∀ u : Nat, (Lib.decDigits u).all isDig = true ∧ 1 ≤ (Lib.decDigits u).length := by
 intro u
 induction u using Nat.strongRecOn with
 | ind u ih =>
   rw [Lib.decDigits]
   split
   · rename_i h
     refine ⟨?_, by simp⟩
     simp only [List.all_cons, List.all_nil, Bool.and_true]
     rw [isDig_iff, UInt8.toNat_ofNat']
     omega
   · rename_i h
     refine ⟨?_, by simp⟩
     simp only [List.all_append, List.all_cons, List.all_nil, Bool.and_true, Bool.and_eq_true]
     refine ⟨(ih (u / 10) (by omega)).1, ?_⟩
     rw [isDig_iff, UInt8.toNat_ofNat']
     omega
theorem dval_app (l m : List UInt8) : ∀ a, dval (l ++ m) a = dval m (dval l a) := by
 induction l with
 | nil => intro a; rfl
 | cons c r ih => intro a; simp only [List.cons_append, dval]; exact ih _
theorem dval_dec : ∀ u : Nat, dval (Lib.decDigits u) 0 = u := by
 intro u
 induction u using Nat.strongRecOn with
 | ind u ih =>
   rw [Lib.decDigits]
   split
   · rename_i h
     simp only [dval, UInt8.toNat_ofNat']
     omega
   · rename_i h
     rw [dval_app, ih (u / 10) (by omega)]
     simp only [dval, UInt8.toNat_ofNat']
     omega
theorem bare_dig {l : List UInt8} (h : l.all isDig = true) : bare l = l := by
 cases l with
 | nil => rfl
 | cons c r =>
   simp only [List.all_cons, Bool.and_eq_true] at h
   have := isDig_iff.1 h.1
   have hc : ¬ c = 45 := fun e => by have := c45.2 e; omega
   simp [bare, hc]
theorem sgn_dig {l : List UInt8} (h : l.all isDig = true) (n : Nat) : sgn l n = n := by
 cases l with
 | nil => rfl
 | cons c r =>
   simp only [List.all_cons, Bool.and_eq_true] at h
   have := isDig_iff.1 h.1
   have hc : ¬ c = 45 := fun e => by have := c45.2 e; omega
   simp [sgn, hc]
theorem itoa_bare (v : Int) : bare (Lib.itoa v) = Lib.decDigits v.natAbs ∧ numL (Lib.itoa v) = v := by
 have hd := dig_all v.natAbs
 by_cases h : v < 0
 · obtain ⟨u, hu⟩ : ∃ u : Nat, v = -(u : Int) := ⟨v.natAbs, by omega⟩
   subst hu
   have hu1 : 1 ≤ u := by omega
   rw [show (-(u : Int)).natAbs = u from by omega] at hd ⊢
   rw [Lib.itoa_neg u hu1]
   refine ⟨by simp [bare], ?_⟩
   simp [numL, sgn, bare, dval_dec]
 · obtain ⟨u, hu⟩ : ∃ u : Nat, v = (u : Int) := ⟨v.natAbs, by omega⟩
   subst hu
   rw [show ((u : Int)).natAbs = u from by omega] at hd ⊢
   rw [Lib.itoa_nonneg u]
   refine ⟨bare_dig hd.1, ?_⟩
   unfold numL
   rw [sgn_dig hd.1, bare_dig hd.1, dval_dec]
theorem okN_itoa {v : Int} (h0 : -1000000000000000000 < v) (h1 : v < 1000000000000000000) : okN (Lib.itoa v) = true := by
 have h := itoa_bare v
 have hd := dig_all v.natAbs
 rw [okN_iff, h.1, h.2]
 refine ⟨hd.2, ?_, hd.1, rfl⟩
 rw [Lib.decDigits_length]
 have key : ∀ (k u : Nat), u < 10 ^ (k + 1) → Lib.nDigits u ≤ k + 1 := by
   intro k
   induction k with
   | zero => intro u hu; rw [Lib.nDigits_small (by simpa using hu)]; exact Nat.le_refl _
   | succ k ih =>
     intro u hu
     by_cases hs : u < 10
     · rw [Lib.nDigits_small hs]; omega
     · rw [Lib.nDigits_big hs]
       have := ih (u / 10) (by rw [Nat.pow_succ] at hu; exact Nat.div_lt_of_lt_mul (by omega))
       omega
 exact key 17 _ (by simp; omega)
theorem okN_no_parse {l : List UInt8} (h : ∀ v, Lib.parseIntB 64 l ≠ .ok v) : okN l = false := by
 cases ho : okN l
 · rfl
 · obtain ⟨h1, h2, h3, _⟩ := okN_iff.1 ho
   exact absurd (parse_ok h1 h2 h3) (h _)
theorem okN_ne {l : List UInt8} {v : Int} (h : Lib.parseIntB 64 l = .ok v) (hne : Lib.itoa v ≠ l) : okN l = false := by
 cases ho : okN l
 · rfl
 · obtain ⟨h1, h2, h3, h4⟩ := okN_iff.1 ho
   rw [parse_ok h1 h2 h3] at h
   injection h with h
   rw [h] at h4
   exact absurd h4 hne
theorem okN_eq {l : List UInt8} {v : Int} (hl : (bare l).length ≤ 18) (he : Lib.itoa v = l) : okN l = true ∧ numL l = v := by
 have h := itoa_bare v
 rw [he] at h
 refine ⟨?_, h.2⟩
 have hd := dig_all v.natAbs
 rw [okN_iff, h.2]
 exact ⟨by rw [h.1]; exact hd.2, hl, by rw [h.1]; exact hd.1, he⟩
theorem okN_long {l : List UInt8} (h : 18 < (bare l).length) : okN l = false := by
 cases ho : okN l
 · rfl
 · obtain ⟨_, h2, _⟩ := okN_iff.1 ho
   omega
theorem bare_len (l : List UInt8) : l.length ≤ (bare l).length + 1 := by
 cases l with
 | nil => simp [bare]
 | cons c r => simp only [bare]; split <;> simp
theorem parse_bd {l : List UInt8} {v : Int} (hl : (bare l).length ≤ 18) (h : Lib.parseIntB 64 l = .ok v) : -1000000000000000000 < v ∧ v < 1000000000000000000 := by
 cases l with
 | nil => simp [Lib.parseIntB] at h
 | cons c r =>
   unfold Lib.parseIntB at h
   simp only [] at h
   obtain ⟨t, ht⟩ : ∃ t, t = (if c.toNat = 43 ∨ c.toNat = 45 then r else c :: r) := ⟨_, rfl⟩
   rw [← ht] at h
   have htl : t.length ≤ 18 := by
     rw [ht]
     simp only [bare] at hl
     split
     · split at hl
       · exact hl
       · simp at hl; omega
     · rename_i hn
       rw [if_neg (fun e => hn (.inr (c45.2 e)))] at hl
       exact hl
   match hu : Lib.parseUintB 64 t with
   | Lib.NumEnd.syntax => rw [hu] at h; cases h
   | .range => rw [hu] at h; cases h
   | .ok u =>
     rw [hu] at h
     unfold Lib.parseUintB at hu
     split at hu
     · cases hu
     · have hd := parseM_dig t 0 u hu
       have hb := dval_bd hd.1 htl
       rw [← hd.2] at hb
       simp only [] at h
       split at h
       · cases h
       · split at h
         · cases h
         · injection h with h
           rw [← h]
           split <;> omega
theorem trim_bare (l : List UInt8) : Lib.trimPrefix l [45] = bare l := by
 cases l with
 | nil => simp [Lib.trimPrefix, Lib.hasPrefix, bare]
 | cons c r =>
   simp only [Lib.trimPrefix, Lib.hasPrefix, bare, List.isPrefixOf, Bool.and_true, beq_iff_eq, eq_comm (a := (45 : UInt8))]
   split <;> simp
def glue (p : List UInt8) : List (List UInt8) → List (List UInt8)
 | [] => [p]
 | h :: t => (p ++ h) :: t
def spl (c : UInt8) : List UInt8 → List (List UInt8)
 | [] => [[]]
 | b :: l => if b = c then [] :: spl c l else glue [b] (spl c l)
theorem glue_glue (p q : List UInt8) (L : List (List UInt8)) (h : L ≠ []) : glue p (glue q L) = glue (p ++ q) L := by
 cases L with
 | nil => exact absurd rfl h
 | cons a t => simp [glue]
theorem spl_ne (c : UInt8) (l : List UInt8) : spl c l ≠ [] := by
 cases l with
 | nil => simp [spl]
 | cons b r =>
   simp only [spl]
   split
   · simp
   · cases spl c r <;> simp [glue]
theorem spl_len (c : UInt8) : ∀ l : List UInt8, (spl c l).length = l.count c + 1 := by
 intro l
 induction l with
 | nil => rfl
 | cons b r ih =>
   simp only [spl]
   split
   · rename_i h
     subst h
     simp [ih]
   · rename_i h
     have hg : ∀ L : List (List UInt8), L ≠ [] → (glue [b] L).length = L.length := by intro L hL; cases L with | nil => exact absurd rfl hL | cons a t => simp [glue]
     rw [hg _ (spl_ne c r), ih, List.count_cons_of_ne h]
theorem splitK_spl (c : UInt8) : ∀ (l : List UInt8), Lib.splitK [c] 0 (Lib.count l [c]) l = spl c l := by
 intro l
 induction l with
 | nil => simp [Lib.count_one, Lib.splitK, spl]
 | cons b r ih =>
   rw [Lib.count_one] at ih ⊢
   simp only [spl]
   split
   · rename_i h
     subst h
     rw [List.count_cons_self]
     unfold Lib.splitK
     rw [Lib.index_one]
     simp [Lib.indexByte, ih]
   · rename_i h
     rw [List.count_cons_of_ne h]
     cases hk : r.count c with
     | zero =>
       rw [hk] at ih
       rw [← ih]
       simp [Lib.splitK, glue]
     | succ k =>
       rw [hk] at ih
       rw [← ih]
       have hb : (b == c) = false := by simpa using h
       unfold Lib.splitK
       rw [Lib.index_one, Lib.index_one]
       have hr : Lib.indexByte (b :: r) c = if Lib.indexByte r c == -1 then -1 else Lib.indexByte r c + 1 := by
         rw [Lib.indexByte, hb]; rfl
       rw [hr]
       by_cases hm : Lib.indexByte r c = -1
       · simp [hm, glue]
       · have hge := Lib.indexByte_ge r c
         obtain ⟨i, hi⟩ : ∃ i : Nat, Lib.indexByte r c = i := ⟨(Lib.indexByte r c).toNat, by omega⟩
         have h1 : ¬ ((i : Int) = -1) := by omega
         have h2 : ¬ ((i : Int) + 1 = -1) := by omega
         have h3 : ((i : Int) + 1).toNat = i + 1 := by omega
         simp [hi, h1, h2, h3, glue]
theorem spl_four {c : UInt8} {l x y z w : List UInt8} (h : spl c l = [x, y, z, w]) : l = x ++ c :: (y ++ c :: (z ++ c :: w)) := by
 have join : ∀ l : List UInt8, ∀ L, spl c l = L → l = [c].intercalate L := by
   intro l
   induction l with
   | nil => intro L h; subst h; simp [spl, List.intercalate]
   | cons b r ih =>
     intro L h
     have hr := ih _ rfl
     simp only [spl] at h
     split at h
     · rename_i hb
       subst h hb
       cases hs : spl b r with
       | nil => exact absurd hs (spl_ne b r)
       | cons a t =>
         rw [hs] at hr
         rw [hr]
         simp [List.intercalate]
     · subst h
       cases hs : spl c r with
       | nil => exact absurd hs (spl_ne c r)
       | cons a t =>
         rw [hs] at hr
         rw [hr]
         cases t <;> simp [List.intercalate, glue]
 have := join l _ h
 rw [this]
 simp [List.intercalate]
end Go.Proofs.YtpiehlfffjhoaaaGreatDoor
