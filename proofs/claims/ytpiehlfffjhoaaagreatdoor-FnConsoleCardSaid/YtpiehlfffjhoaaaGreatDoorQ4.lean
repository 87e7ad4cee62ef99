/- Valid lasts, the program's. -/
import Derived.Test.YtpiehlfffjhoaaaGreatDoorQ0
import Derived.Test.YtpiehlfffjhoaaaGreatDoorQ3
namespace Go.Proofs.YtpiehlfffjhoaaaGreatDoor
open Go.RowKit
set_option maxRecDepth 100000 in
set_option maxHeartbeats 8000000 in
theorem ValidLasts_c (A : Option Addr) (xs : List Last) (n c : Nat) (hn : Hid (xs.length = n)) (hm : (n : Int) ≤ 1048576) (hs : Hid (∀ x ∈ xs, x.name.size ≤ 9223372036854775807)) (w : World) (hA : Arr w A (flat Last.cells xs)) : Calls Tryz.prog 61 #[.slice A n c] w (Ret (.bool (lasB xs)) w) := by
 have HA := qH hA
 clear hA
 go_enter Tryz.func61, Tryz.ntmps61
 go_wp2_with fail
 have hR := qH (show lasGo none xs = lasGo (prevL xs 0) (xs.drop 0) from rfl)
 go_loopw [7] (fun i wr => ∃ k : Nat, k ≤ n ∧ i = .int .i64 k ∧ Hid (lasGo none xs = lasGo (prevL xs k) (xs.drop k)) ∧ Below w.heap.size w wr) (fun i _ => n - (intOf i).toNat)
 case atStart => exact ⟨0, by omega, rfl, hR, Below.refl _ _⟩
 case round =>
 clear hR
 obtain ⟨k, hk, rfl, hR, hv⟩ := hrel
 have hk0 : (0 : Int) ≤ (k : Int) := by omega
 by_cases hlt : k < n
 case neg =>
   have hkn : ¬ (k : Int) < (n : Int) := by omega
   have HE := qH (show lasB xs = decide ((n : Int) ≤ 30) by
     unfold lasB
     rw [hR.out, las_end (by rw [hn.out]; omega), hn.out, Bool.true_and, decide_eq_decide]
     omega)
   clear hR
   go_wp2_with fail
   go_returns
   exact Ret.mk (vb HE.out.symm) hv
 case pos =>
 have hk1 : (k : Int) < (n : Int) := by omega
 obtain ⟨x, hx⟩ := get_of_lt (xs := xs) (k := k) (by rw [hn.out]; exact hlt)
 obtain ⟨ad, rfl, hab, c0, c1, c2, c3, c4, c5⟩ := Last.at_ (HA.out.below hv) hx
 have HC := fun w => validLast_c x (hs.out x (List.mem_of_getElem? hx)) w
 obtain ⟨b, hb⟩ : ∃ z, z = lastB x := ⟨_, rfl⟩
 rw [← hb] at HC
 replace HC := qH HC
 have HX := qH hx
 have HB := qH hb.symm
 clear hx hb
 cases b
 · skip
   have HN := qH (show lasGo none xs = false from hR.out.trans (las_bad HX.out HB.out))
   clear hR
   go_upto_region 4 with fail
   obtain ⟨V, hV⟩ : ∃ z, z = World.alloc wr (Obj.cells #[.string x.name, .int .i64 x.length, .int .i64 x.ball, .int .i64 x.instep, .int .i64 x.heel, .int .i64 x.pitch] 100) := ⟨_, rfl⟩
   obtain ⟨gb, hgb⟩ : ∃ z, z = wr.heap.size := ⟨_, rfl⟩
   have hBX : Blk V gb 100 #[.string x.name, .int .i64 x.length, .int .i64 x.ball, .int .i64 x.instep, .int .i64 x.heel, .int .i64 x.pitch] := by rw [hV, hgb]; exact Blk.new _ _ _
   have hb0 : Below wr.heap.size wr V := by rw [hV]; exact bl_alloc (Below.refl _ _) _
   rw [← hV, ← hgb]
   clear hV hgb
   replace hv := bl_trans hv hb0
   replace c0 := bl_cell hb0 c0
   have q0 : V.cell? ⟨gb, 0, none⟩ = some (.string x.name) := hBX.cell 0
   replace c1 := bl_cell hb0 c1
   have q1 : V.cell? ⟨gb, 1, none⟩ = some (.int .i64 x.length) := hBX.cell 1
   replace c2 := bl_cell hb0 c2
   have q2 : V.cell? ⟨gb, 2, none⟩ = some (.int .i64 x.ball) := hBX.cell 2
   replace c3 := bl_cell hb0 c3
   have q3 : V.cell? ⟨gb, 3, none⟩ = some (.int .i64 x.instep) := hBX.cell 3
   replace c4 := bl_cell hb0 c4
   have q4 : V.cell? ⟨gb, 4, none⟩ = some (.int .i64 x.heel) := hBX.cell 4
   replace c5 := bl_cell hb0 c5
   have q5 : V.cell? ⟨gb, 5, none⟩ = some (.int .i64 x.pitch) := hBX.cell 5
   clear hb0 hBX
   refine wp_region_held_drew (S := fun w' => Below V.heap.size V w' ∧ True) (by as_aux_lemma => kernel_rfl) ?_ (fun hHeld => ?_)
   · exact ⟨(Below.refl _ _).drew, trivial⟩
   have hd9 := hHeld.1
   refine zT 0 12 ?_ rfl ?_ (by assumption) ?_
   rotate_left
   · intro w hSw
     try dsimp only at hSw
     have x_q0 := bl_cell hSw.1 q0
     have x_q1 := bl_cell hSw.1 q1
     have x_q2 := bl_cell hSw.1 q2
     have x_q3 := bl_cell hSw.1 q3
     have x_q4 := bl_cell hSw.1 q4
     have x_q5 := bl_cell hSw.1 q5
     go_simp
     try with_reducible rfl
   try simp only [Act.put, zA, zB, zC]
   refine zR 1 (some 13) rfl (fun K hK => ?_)
   go_simp
   (try dsimp only at hHeld); go_split_ands
   refine (HC.out _).mono ?_
   rintro e V1 ⟨rfl, hb9⟩
   replace hd9 := bl_trans hd9 hb9
   clear hb9
   go_wp2_with fail
   refine hK.out _ _ ?_ (fun hHeld => ?_)
   · (try dsimp only); go_split_ands; exact ⟨hd9, trivial⟩
   clear hK K
   try simp only [Act.put, zA, zB, zC]
   refine zU 2 14 rfl (by assumption) ?_
   try simp only [Act.put, zA, zB, zC]
   refine zU 3 15 rfl (by assumption) ?_
   try simp only [Act.put, zA, zB, zC]
   refine zS 4 16 rfl (by assumption) ?_
   try simp only [Act.put, zA, zB, zC]
   refine zS 5 17 rfl (by assumption) ?_
   try simp only [Act.put, zA, zB, zC]
   refine zS 6 18 rfl (by assumption) ?_
   try simp only [Act.put, zA, zB, zC]
   refine zS 7 19 rfl (by assumption) ?_
   try simp only [Act.put, zA, zB, zC]
   refine zS 8 20 rfl (by assumption) ?_
   try simp only [Act.put, zA, zB, zC]
   refine zS 9 21 rfl (by assumption) ?_
   try simp only [Act.put, zA, zB, zC]
   refine zS 10 22 rfl (by assumption) ?_
   try simp only [Act.put, zA, zB, zC]
   refine zS 11 23 rfl (by assumption) ?_
   try simp only [Act.put, zA, zB, zC]
   refine zS 12 24 rfl (by assumption) ?_
   try simp only [Act.put, zA, zB, zC]
   refine zS 13 25 rfl (by assumption) ?_
   try simp only [Act.put, zA, zB, zC]
   refine zS 14 26 rfl (by assumption) ?_
   try simp only [Act.put, zA, zB, zC]
   refine zS 15 27 rfl (by assumption) ?_
   try simp only [Act.put, zA, zB, zC]
   refine zS 16 28 rfl (by assumption) ?_
   try simp only [Act.put, zA, zB, zC]
   refine zU 17 29 rfl (by assumption) ?_
   try simp only [Act.put, zA, zB, zC]
   refine wpAnyH_done (by as_aux_lemma => kernel_rfl) ?_ _
   clear hHeld
   replace hv := bl_trans hv hd9
   go_wp2_with fail
   go_returns
   exact Ret.mk (vb (by unfold lasB; rw [HN.out]; rfl)) hv
 by_cases hk9 : k = 0
 · have HN := qH (show lasGo none xs = lasGo (prevL xs (k + 1)) (xs.drop (k + 1)) from hR.out.trans (by have h := HX.out; rw [hk9] at h ⊢; rw [las_first h, HB.out]; rfl))
   have hg1 : decide ((0 : Int) < (k : Int)) = false := decide_eq_false (by omega)
   have hg2 : ¬ (0 : Int) < (k : Int) := by omega
   have hg3 : ¬ 0 < k := by omega
   clear hR hk9
   go_upto_region 4 with fail
   obtain ⟨V, hV⟩ : ∃ z, z = World.alloc wr (Obj.cells #[.string x.name, .int .i64 x.length, .int .i64 x.ball, .int .i64 x.instep, .int .i64 x.heel, .int .i64 x.pitch] 100) := ⟨_, rfl⟩
   obtain ⟨gb, hgb⟩ : ∃ z, z = wr.heap.size := ⟨_, rfl⟩
   have hBX : Blk V gb 100 #[.string x.name, .int .i64 x.length, .int .i64 x.ball, .int .i64 x.instep, .int .i64 x.heel, .int .i64 x.pitch] := by rw [hV, hgb]; exact Blk.new _ _ _
   have hb0 : Below wr.heap.size wr V := by rw [hV]; exact bl_alloc (Below.refl _ _) _
   rw [← hV, ← hgb]
   clear hV hgb
   replace hv := bl_trans hv hb0
   replace c0 := bl_cell hb0 c0
   have q0 : V.cell? ⟨gb, 0, none⟩ = some (.string x.name) := hBX.cell 0
   replace c1 := bl_cell hb0 c1
   have q1 : V.cell? ⟨gb, 1, none⟩ = some (.int .i64 x.length) := hBX.cell 1
   replace c2 := bl_cell hb0 c2
   have q2 : V.cell? ⟨gb, 2, none⟩ = some (.int .i64 x.ball) := hBX.cell 2
   replace c3 := bl_cell hb0 c3
   have q3 : V.cell? ⟨gb, 3, none⟩ = some (.int .i64 x.instep) := hBX.cell 3
   replace c4 := bl_cell hb0 c4
   have q4 : V.cell? ⟨gb, 4, none⟩ = some (.int .i64 x.heel) := hBX.cell 4
   replace c5 := bl_cell hb0 c5
   have q5 : V.cell? ⟨gb, 5, none⟩ = some (.int .i64 x.pitch) := hBX.cell 5
   clear hb0 hBX
   refine wp_region_held_drew (S := fun w' => Below V.heap.size V w' ∧ True) (by as_aux_lemma => kernel_rfl) ?_ (fun hHeld => ?_)
   · exact ⟨(Below.refl _ _).drew, trivial⟩
   have hd9 := hHeld.1
   refine zT 0 12 ?_ rfl ?_ (by assumption) ?_
   rotate_left
   · intro w hSw
     try dsimp only at hSw
     have x_q0 := bl_cell hSw.1 q0
     have x_q1 := bl_cell hSw.1 q1
     have x_q2 := bl_cell hSw.1 q2
     have x_q3 := bl_cell hSw.1 q3
     have x_q4 := bl_cell hSw.1 q4
     have x_q5 := bl_cell hSw.1 q5
     go_simp
     try with_reducible rfl
   try simp only [Act.put, zA, zB, zC]
   refine zR 1 (some 13) rfl (fun K hK => ?_)
   go_simp
   (try dsimp only at hHeld); go_split_ands
   refine (HC.out _).mono ?_
   rintro e V1 ⟨rfl, hb9⟩
   replace hd9 := bl_trans hd9 hb9
   clear hb9
   go_wp2_with fail
   refine hK.out _ _ ?_ (fun hHeld => ?_)
   · (try dsimp only); go_split_ands; exact ⟨hd9, trivial⟩
   clear hK K
   try simp only [Act.put, zA, zB, zC]
   refine zU 2 14 rfl (by assumption) ?_
   try simp only [Act.put, zA, zB, zC]
   refine zU 3 15 rfl (by assumption) ?_
   try simp only [Act.put, zA, zB, zC]
   refine zU 4 16 rfl (by assumption) ?_
   try simp only [Act.put, zA, zB, zC]
   refine zU 5 17 rfl (by assumption) ?_
   try simp only [Act.put, zA, zB, zC]
   refine zU 6 18 rfl (by assumption) ?_
   try simp only [Act.put, zA, zB, zC]
   refine zS 7 19 rfl (by assumption) ?_
   try simp only [Act.put, zA, zB, zC]
   refine zS 8 20 rfl (by assumption) ?_
   try simp only [Act.put, zA, zB, zC]
   refine zS 9 21 rfl (by assumption) ?_
   try simp only [Act.put, zA, zB, zC]
   refine zS 10 22 rfl (by assumption) ?_
   try simp only [Act.put, zA, zB, zC]
   refine zS 11 23 rfl (by assumption) ?_
   try simp only [Act.put, zA, zB, zC]
   refine zS 12 24 rfl (by assumption) ?_
   try simp only [Act.put, zA, zB, zC]
   refine zS 13 25 rfl (by assumption) ?_
   try simp only [Act.put, zA, zB, zC]
   refine zS 14 26 rfl (by assumption) ?_
   try simp only [Act.put, zA, zB, zC]
   refine zS 15 27 rfl (by assumption) ?_
   try simp only [Act.put, zA, zB, zC]
   refine zU 16 28 rfl (by assumption) ?_
   try simp only [Act.put, zA, zB, zC]
   refine zU 17 29 rfl (by assumption) ?_
   try simp only [Act.put, zA, zB, zC]
   refine wpAnyH_done (by as_aux_lemma => kernel_rfl) ?_ _
   clear hHeld
   replace hv := bl_trans hv hd9
   go_wp2_with fail
   exact ⟨⟨k + 1, by omega, by go_num, HN, hv⟩, by simp [intOf]; omega⟩
 obtain ⟨j, hj⟩ : ∃ j, k = j + 1 := ⟨k - 1, by omega⟩
 obtain ⟨y, hy⟩ := get_of_lt (xs := xs) (k := j) (by rw [hn.out]; omega)
 obtain ⟨ad', e', _, d0, _, _, _, _, _⟩ := Last.at_ (HA.out.below hv) hy
 injection e' with e'
 subst e'
 have hN : lasGo none xs = (lastB x && (lessB y.name x.name && lasGo (prevL xs (k + 1)) (xs.drop (k + 1)))) := by
   have h := HX.out
   rw [hR.out]
   rw [hj] at h ⊢
   exact las_next hy h
 rw [HB.out, Bool.true_and] at hN
 have hw1 : IntKind.i64.wrap ((k : Int) - 1) = (j : Int) := IntWalk.i64_in _ (by omega) |>.trans (by omega)
 have hw2 : IntKind.i64.wrap (j : Int) = (j : Int) := IntWalk.i64_in _ (by omega)
 have hj0 : (0 : Int) ≤ (j : Int) := by omega
 have hj1 : (j : Int) < (n : Int) := by omega
 have hj2 : ((j : Int)).toNat = j := by omega
 have hj3 : j < n := by omega
 have hjp : (0 : Int) < (k : Int) := by omega
 have hjq : 0 < k := by omega
 obtain ⟨lb, hlb⟩ : ∃ z, z = lessB y.name x.name := ⟨_, rfl⟩
 have hl : Op.bytesLess y.name.toList x.name.toList = lb := hlb.symm
 rw [← hlb] at hN
 have HN0 := qH hN
 clear hN hlb hR hy hk9 hj
 cases lb
 · skip
   have HN := qH (HN0.out.trans (Bool.false_and _))
   go_upto_region 4 with fail
   obtain ⟨V, hV⟩ : ∃ z, z = World.alloc wr (Obj.cells #[.string x.name, .int .i64 x.length, .int .i64 x.ball, .int .i64 x.instep, .int .i64 x.heel, .int .i64 x.pitch] 100) := ⟨_, rfl⟩
   obtain ⟨gb, hgb⟩ : ∃ z, z = wr.heap.size := ⟨_, rfl⟩
   have hBX : Blk V gb 100 #[.string x.name, .int .i64 x.length, .int .i64 x.ball, .int .i64 x.instep, .int .i64 x.heel, .int .i64 x.pitch] := by rw [hV, hgb]; exact Blk.new _ _ _
   have hb0 : Below wr.heap.size wr V := by rw [hV]; exact bl_alloc (Below.refl _ _) _
   rw [← hV, ← hgb]
   clear hV hgb
   replace hv := bl_trans hv hb0
   replace c0 := bl_cell hb0 c0
   have q0 : V.cell? ⟨gb, 0, none⟩ = some (.string x.name) := hBX.cell 0
   replace c1 := bl_cell hb0 c1
   have q1 : V.cell? ⟨gb, 1, none⟩ = some (.int .i64 x.length) := hBX.cell 1
   replace c2 := bl_cell hb0 c2
   have q2 : V.cell? ⟨gb, 2, none⟩ = some (.int .i64 x.ball) := hBX.cell 2
   replace c3 := bl_cell hb0 c3
   have q3 : V.cell? ⟨gb, 3, none⟩ = some (.int .i64 x.instep) := hBX.cell 3
   replace c4 := bl_cell hb0 c4
   have q4 : V.cell? ⟨gb, 4, none⟩ = some (.int .i64 x.heel) := hBX.cell 4
   replace c5 := bl_cell hb0 c5
   have q5 : V.cell? ⟨gb, 5, none⟩ = some (.int .i64 x.pitch) := hBX.cell 5
   replace d0 := bl_cell hb0 d0
   clear hb0 hBX
   refine wp_region_held_drew (S := fun w' => Below V.heap.size V w' ∧ True) (by as_aux_lemma => kernel_rfl) ?_ (fun hHeld => ?_)
   · exact ⟨(Below.refl _ _).drew, trivial⟩
   have hd9 := hHeld.1
   refine zT 0 12 ?_ rfl ?_ (by assumption) ?_
   rotate_left
   · intro w hSw
     try dsimp only at hSw
     have x_q0 := bl_cell hSw.1 q0
     have x_q1 := bl_cell hSw.1 q1
     have x_q2 := bl_cell hSw.1 q2
     have x_q3 := bl_cell hSw.1 q3
     have x_q4 := bl_cell hSw.1 q4
     have x_q5 := bl_cell hSw.1 q5
     go_simp
     try with_reducible rfl
   try simp only [Act.put, zA, zB, zC]
   refine zR 1 (some 13) rfl (fun K hK => ?_)
   go_simp
   (try dsimp only at hHeld); go_split_ands
   refine (HC.out _).mono ?_
   rintro e V1 ⟨rfl, hb9⟩
   replace hd9 := bl_trans hd9 hb9
   clear hb9
   go_wp2_with fail
   refine hK.out _ _ ?_ (fun hHeld => ?_)
   · (try dsimp only); go_split_ands; exact ⟨hd9, trivial⟩
   clear hK K
   try simp only [Act.put, zA, zB, zC]
   refine zU 2 14 rfl (by assumption) ?_
   try simp only [Act.put, zA, zB, zC]
   refine zU 3 15 rfl (by assumption) ?_
   try simp only [Act.put, zA, zB, zC]
   refine zU 4 16 rfl (by assumption) ?_
   try simp only [Act.put, zA, zB, zC]
   refine zU 5 17 rfl (by assumption) ?_
   try simp only [Act.put, zA, zB, zC]
   refine zU 6 18 rfl (by assumption) ?_
   try simp only [Act.put, zA, zB, zC]
   refine zU 7 19 rfl (by assumption) ?_
   try simp only [Act.put, zA, zB, zC]
   refine zU 8 20 rfl (by assumption) ?_
   try simp only [Act.put, zA, zB, zC]
   refine zU 9 21 rfl (by assumption) ?_
   try simp only [Act.put, zA, zB, zC]
   refine zT 10 22 ?_ rfl ?_ (by assumption) ?_
   rotate_left
   · intro w hSw
     try dsimp only at hSw
     have x_d0 := bl_cell hSw.1 d0
     go_simp
     try with_reducible rfl
   try simp only [Act.put, zA, zB, zC]
   refine zT 11 23 ?_ rfl ?_ (by assumption) ?_
   rotate_left
   · intro w hSw
     try dsimp only at hSw
     have x_d0 := bl_cell hSw.1 d0
     go_simp
     try with_reducible rfl
   try simp only [Act.put, zA, zB, zC]
   refine zT 12 24 ?_ rfl ?_ (by assumption) ?_
   rotate_left
   · intro w hSw
     try dsimp only at hSw
     have x_d0 := bl_cell hSw.1 d0
     go_simp
     try with_reducible rfl
   try simp only [Act.put, zA, zB, zC]
   refine zT 13 25 ?_ rfl ?_ (by assumption) ?_
   rotate_left
   · intro w hSw
     try dsimp only at hSw
     have x_q0 := bl_cell hSw.1 q0
     go_simp
     try with_reducible rfl
   try simp only [Act.put, zA, zB, zC]
   refine zT 14 26 ?_ rfl ?_ (by assumption) ?_
   rotate_left
   · intro w hSw
     try dsimp only at hSw
     have x_q0 := bl_cell hSw.1 q0
     go_simp
     try with_reducible rfl
   try simp only [Act.put, zA, zB, zC]
   refine zU 15 27 rfl (by assumption) ?_
   try simp only [Act.put, zA, zB, zC]
   refine zU 16 28 rfl (by assumption) ?_
   try simp only [Act.put, zA, zB, zC]
   refine zU 17 29 rfl (by assumption) ?_
   try simp only [Act.put, zA, zB, zC]
   refine wpAnyH_done (by as_aux_lemma => kernel_rfl) ?_ _
   clear hHeld
   replace hv := bl_trans hv hd9
   go_wp2_with fail
   go_returns
   exact Ret.mk (vb (by unfold lasB; rw [HN.out]; rfl)) hv
 · skip
   have HN := qH (HN0.out.trans (Bool.true_and _))
   go_upto_region 4 with fail
   obtain ⟨V, hV⟩ : ∃ z, z = World.alloc wr (Obj.cells #[.string x.name, .int .i64 x.length, .int .i64 x.ball, .int .i64 x.instep, .int .i64 x.heel, .int .i64 x.pitch] 100) := ⟨_, rfl⟩
   obtain ⟨gb, hgb⟩ : ∃ z, z = wr.heap.size := ⟨_, rfl⟩
   have hBX : Blk V gb 100 #[.string x.name, .int .i64 x.length, .int .i64 x.ball, .int .i64 x.instep, .int .i64 x.heel, .int .i64 x.pitch] := by rw [hV, hgb]; exact Blk.new _ _ _
   have hb0 : Below wr.heap.size wr V := by rw [hV]; exact bl_alloc (Below.refl _ _) _
   rw [← hV, ← hgb]
   clear hV hgb
   replace hv := bl_trans hv hb0
   replace c0 := bl_cell hb0 c0
   have q0 : V.cell? ⟨gb, 0, none⟩ = some (.string x.name) := hBX.cell 0
   replace c1 := bl_cell hb0 c1
   have q1 : V.cell? ⟨gb, 1, none⟩ = some (.int .i64 x.length) := hBX.cell 1
   replace c2 := bl_cell hb0 c2
   have q2 : V.cell? ⟨gb, 2, none⟩ = some (.int .i64 x.ball) := hBX.cell 2
   replace c3 := bl_cell hb0 c3
   have q3 : V.cell? ⟨gb, 3, none⟩ = some (.int .i64 x.instep) := hBX.cell 3
   replace c4 := bl_cell hb0 c4
   have q4 : V.cell? ⟨gb, 4, none⟩ = some (.int .i64 x.heel) := hBX.cell 4
   replace c5 := bl_cell hb0 c5
   have q5 : V.cell? ⟨gb, 5, none⟩ = some (.int .i64 x.pitch) := hBX.cell 5
   replace d0 := bl_cell hb0 d0
   clear hb0 hBX
   refine wp_region_held_drew (S := fun w' => Below V.heap.size V w' ∧ True) (by as_aux_lemma => kernel_rfl) ?_ (fun hHeld => ?_)
   · exact ⟨(Below.refl _ _).drew, trivial⟩
   have hd9 := hHeld.1
   refine zT 0 12 ?_ rfl ?_ (by assumption) ?_
   rotate_left
   · intro w hSw
     try dsimp only at hSw
     have x_q0 := bl_cell hSw.1 q0
     have x_q1 := bl_cell hSw.1 q1
     have x_q2 := bl_cell hSw.1 q2
     have x_q3 := bl_cell hSw.1 q3
     have x_q4 := bl_cell hSw.1 q4
     have x_q5 := bl_cell hSw.1 q5
     go_simp
     try with_reducible rfl
   try simp only [Act.put, zA, zB, zC]
   refine zR 1 (some 13) rfl (fun K hK => ?_)
   go_simp
   (try dsimp only at hHeld); go_split_ands
   refine (HC.out _).mono ?_
   rintro e V1 ⟨rfl, hb9⟩
   replace hd9 := bl_trans hd9 hb9
   clear hb9
   go_wp2_with fail
   refine hK.out _ _ ?_ (fun hHeld => ?_)
   · (try dsimp only); go_split_ands; exact ⟨hd9, trivial⟩
   clear hK K
   try simp only [Act.put, zA, zB, zC]
   refine zU 2 14 rfl (by assumption) ?_
   try simp only [Act.put, zA, zB, zC]
   refine zU 3 15 rfl (by assumption) ?_
   try simp only [Act.put, zA, zB, zC]
   refine zU 4 16 rfl (by assumption) ?_
   try simp only [Act.put, zA, zB, zC]
   refine zU 5 17 rfl (by assumption) ?_
   try simp only [Act.put, zA, zB, zC]
   refine zU 6 18 rfl (by assumption) ?_
   try simp only [Act.put, zA, zB, zC]
   refine zU 7 19 rfl (by assumption) ?_
   try simp only [Act.put, zA, zB, zC]
   refine zU 8 20 rfl (by assumption) ?_
   try simp only [Act.put, zA, zB, zC]
   refine zU 9 21 rfl (by assumption) ?_
   try simp only [Act.put, zA, zB, zC]
   refine zT 10 22 ?_ rfl ?_ (by assumption) ?_
   rotate_left
   · intro w hSw
     try dsimp only at hSw
     have x_d0 := bl_cell hSw.1 d0
     go_simp
     try with_reducible rfl
   try simp only [Act.put, zA, zB, zC]
   refine zT 11 23 ?_ rfl ?_ (by assumption) ?_
   rotate_left
   · intro w hSw
     try dsimp only at hSw
     have x_d0 := bl_cell hSw.1 d0
     go_simp
     try with_reducible rfl
   try simp only [Act.put, zA, zB, zC]
   refine zT 12 24 ?_ rfl ?_ (by assumption) ?_
   rotate_left
   · intro w hSw
     try dsimp only at hSw
     have x_d0 := bl_cell hSw.1 d0
     go_simp
     try with_reducible rfl
   try simp only [Act.put, zA, zB, zC]
   refine zT 13 25 ?_ rfl ?_ (by assumption) ?_
   rotate_left
   · intro w hSw
     try dsimp only at hSw
     have x_q0 := bl_cell hSw.1 q0
     go_simp
     try with_reducible rfl
   try simp only [Act.put, zA, zB, zC]
   refine zT 14 26 ?_ rfl ?_ (by assumption) ?_
   rotate_left
   · intro w hSw
     try dsimp only at hSw
     have x_q0 := bl_cell hSw.1 q0
     go_simp
     try with_reducible rfl
   try simp only [Act.put, zA, zB, zC]
   refine zU 15 27 rfl (by assumption) ?_
   try simp only [Act.put, zA, zB, zC]
   refine zU 16 28 rfl (by assumption) ?_
   try simp only [Act.put, zA, zB, zC]
   refine zU 17 29 rfl (by assumption) ?_
   try simp only [Act.put, zA, zB, zC]
   refine wpAnyH_done (by as_aux_lemma => kernel_rfl) ?_ _
   clear hHeld
   replace hv := bl_trans hv hd9
   go_wp2_with fail
   exact ⟨⟨k + 1, by omega, by go_num, HN, hv⟩, by simp [intOf]; omega⟩
end Go.Proofs.YtpiehlfffjhoaaaGreatDoor
