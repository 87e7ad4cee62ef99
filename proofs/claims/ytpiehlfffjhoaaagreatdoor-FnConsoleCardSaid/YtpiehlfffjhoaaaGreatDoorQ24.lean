/- Lemmas for the law on the console: the parts LogF, LogH. -/
import Derived.Test.YtpiehlfffjhoaaaGreatDoorQ0
import Derived.Test.YtpiehlfffjhoaaaGreatDoorQ23
import Derived.Deep.RegionHeld3
namespace Go.Proofs.YtpiehlfffjhoaaaGreatDoor
open Go.RowKit
def addR (s : ByteArray) (es : List Entry) (st : Int) (x : Entry) : ByteArray × Int :=
 if entB x = true then (if x.day < lastD es then (⟨#[]⟩, 6) else (if 4000 < (s ++ lineE (stp st x) x).size then (⟨#[]⟩, 5) else (s ++ lineE (stp st x) x, 0))) else (⟨#[]⟩, 7)
def addV (s : ByteArray) (x : Entry) : ByteArray × Int := if cdL s = 0 then addR s (rdL s).1 (rdL s).2.1 x else (⟨#[]⟩, cdL s)
theorem addV_ok {s : ByteArray} {x : Entry} {es : List Entry} {st : Int} {n : Nat} (h : cdL s = 0) (hr : rdL s = (es, st, n)) : addV s x = addR s es st x := by unfold addV; rw [if_pos h, hr]
theorem addV_no {s : ByteArray} {x : Entry} (h : ¬ cdL s = 0) : addV s x = (⟨#[]⟩, cdL s) := by unfold addV; rw [if_neg h]
section
variable {s : ByteArray} {es : List Entry} {st : Int} {x : Entry}
theorem addR_ent (h : entB x = false) : addR s es st x = (⟨#[]⟩, 7) := by unfold addR; rw [if_neg (by simp [h])]
theorem addR_day (h : entB x = true) (h2 : x.day < lastD es) : addR s es st x = (⟨#[]⟩, 6) := by unfold addR; rw [if_pos h, if_pos h2]
theorem addR_big (h : entB x = true) (h2 : ¬ x.day < lastD es) (h3 : 4000 < (s ++ lineE (stp st x) x).size) : addR s es st x = (⟨#[]⟩, 5) := by unfold addR; rw [if_pos h, if_neg h2, if_pos h3]
theorem addR_yes (h : entB x = true) (h2 : ¬ x.day < lastD es) (h3 : ¬ 4000 < (s ++ lineE (stp st x) x).size) : addR s es st x = (s ++ lineE (stp st x) x, 0) := by unfold addR; rw [if_pos h, if_neg h2, if_neg h3]
end
set_option maxRecDepth 100000 in
set_option maxHeartbeats 4000000 in
theorem added_c (s : ByteArray) (hs : s.size ≤ 1048576) (A : Option Addr) (es : List Entry) (m c : Nat) (st : Int) (n : Nat) (x : Entry) (hxs : x.what.size ≤ 9223372036854775807) (hm : Hid (es.length = m)) (hmb : m ≤ 1048576) (hs0 : 0 ≤ st) (hs1 : st ≤ 65518) (w : World) (hA : Arr w A (flat Entry.cells es)) (hT : Tabs w) :
   Calls Tryz.prog 144 #[.string s, .agg #[.slice A m c, .int .i64 st, .int .i64 n], .agg #[.int .i64 x.day, .string x.what, .int .i64 x.value]] w (RetT #[.string (addR s es st x).1, .int .i64 (addR s es st x).2] w) := by
 have HT := qH hT
 clear hT
 obtain ⟨W0, hW0⟩ : ∃ W0, W0 = (w.alloc (Obj.cells #[.slice A m c, .int .i64 st, .int .i64 n] 146)).alloc (Obj.cells #[.int .i64 x.day, .string x.what, .int .i64 x.value] 141) := ⟨_, rfl⟩
 obtain ⟨gO, hgO⟩ : ∃ gO, gO = w.heap.size := ⟨_, rfl⟩
 obtain ⟨gX, hgX⟩ : ∃ gX, gX = w.heap.size + 1 := ⟨_, rfl⟩
 have hv : Below w.heap.size w W0 := by rw [hW0]; exact bl_alloc (bl_alloc (Below.refl _ _) _) _
 have hO : Blk W0 gO 146 #[.slice A m c, .int .i64 st, .int .i64 n] := by rw [hW0, hgO]; exact (Blk.new _ _ _).alloc _
 have hX : Blk W0 gX 141 #[.int .i64 x.day, .string x.what, .int .i64 x.value] := by
   rw [hW0, hgX, show w.heap.size + 1 = (w.alloc (Obj.cells #[.slice A m c, .int .i64 st, .int .i64 n] 146)).heap.size from by simp]
   exact Blk.new _ _ _
 have HW0 := qH hW0
 have HGO := qH hgO
 have HGX := qH hgX
 clear hW0 hgO hgX
 go_enter Tryz.func144, Tryz.ntmps144
 go_wp2_with fail
 rw [← HW0.out, ← HGX.out, ← HGO.out]
 refine (ValidEntry_c x hxs _).mono ?_
 rintro e W ⟨rfl, hb⟩
 replace hv := bl_trans hv hb
 replace hO := hO.below hb
 replace hX := hX.below hb
 clear hb
 cases hx : entB x
 · have HR := qH (addR_ent (s := s) (es := es) (st := st) hx)
   clear hx
   go_wp2_with fail
   go_returns
   exact RetT.mk (by rw [HR.out]; rfl) hv
 have HX := qH hx
 clear hx
 go_wp2_with fail
 replace hv : Below w.heap.size w W.drew := hv.drew
 replace hO := hO.below (Below.refl W.heap.size W).drew
 replace hX := hX.below (Below.refl W.heap.size W).drew
 by_cases hm0 : m = 0
 · have hd0 : decide (0 < (m : Int)) = false := decide_eq_false (by omega)
   have HD := qH (show ¬ x.day < lastD es by rw [show es = [] from List.eq_nil_of_length_eq_zero (by rw [hm.out]; exact hm0)]; have := (entB_bd HX.out).1; simp [lastD]; omega)
   have hm1 : ¬ 0 < m := by omega
   clear hm0
   refine wp_region_held_drew (S := fun w' => Blk w' gO 146 #[.slice A m c, .int .i64 st, .int .i64 n] ∧ Blk w' gX 141 #[Value.int .i64 x.day, Value.string x.what, Value.int .i64 x.value]) (by kernel_rfl) ?_ (fun hHeld => ?_)
   · exact ⟨hO, hX⟩
   refine zU 0 17 rfl (by assumption) ?_
   try simp only [Act.put, zA, zB, zC]
   refine zU 1 18 rfl (by assumption) ?_
   try simp only [Act.put, zA, zB, zC]
   refine zU 2 19 rfl (by assumption) ?_
   try simp only [Act.put, zA, zB, zC]
   refine zS 3 20 rfl (by assumption) ?_
   try simp only [Act.put, zA, zB, zC]
   refine zS 4 21 rfl (by assumption) ?_
   try simp only [Act.put, zA, zB, zC]
   refine zS 5 22 rfl (by assumption) ?_
   try simp only [Act.put, zA, zB, zC]
   refine zS 6 23 rfl (by assumption) ?_
   try simp only [Act.put, zA, zB, zC]
   refine zS 7 24 rfl (by assumption) ?_
   try simp only [Act.put, zA, zB, zC]
   refine zS 8 25 rfl (by assumption) ?_
   try simp only [Act.put, zA, zB, zC]
   refine zS 9 26 rfl (by assumption) ?_
   try simp only [Act.put, zA, zB, zC]
   refine zS 10 27 rfl (by assumption) ?_
   try simp only [Act.put, zA, zB, zC]
   refine zS 11 28 rfl (by assumption) ?_
   try simp only [Act.put, zA, zB, zC]
   refine zS 12 29 rfl (by assumption) ?_
   try simp only [Act.put, zA, zB, zC]
   refine zU 13 30 rfl (by assumption) ?_
   try simp only [Act.put, zA, zB, zC]
   refine zU 14 16 rfl (by assumption) ?_
   try simp only [Act.put, zA, zB, zC]
   refine wpAnyH_done (by kernel_rfl) ?_ _
   clear hHeld
   obtain ⟨t0, t1⟩ := stp_bd st x
   have z1 := wordsB_size HX.out
   have hlz := lineE_size HX.out (stp st x) t0 t1
   have hwd := qH (fun w hT => words_c x HX.out w hT)
   have hst : Hid (∀ w, Pow10 w → Calls Tryz.prog 146 #[.int .i64 st, .agg #[.int .i64 x.day, .string x.what, .int .i64 x.value]] w (Ret (.int .i64 (stp st x)) w)) := qH (fun w hT => stampOf_c st x hs0 hs1 HX.out w hT)
   have HB0 : s ++ lineE (stp st x) x = s ++ (wordsB x ++ ⟨#[32]⟩ ++ decI (stp st x) ++ ⟨#[10]⟩) := rfl
   obtain ⟨sv, hsv⟩ : ∃ sv, sv = stp st x := ⟨_, rfl⟩
   obtain ⟨wd, hwd2⟩ : ∃ wd, wd = wordsB x := ⟨_, rfl⟩
   rw [← hsv, ← hwd2] at HB0
   rw [← hsv] at hst t0 t1 hlz
   rw [← hwd2] at hwd z1
   have z2 := decI_size sv
   have z3 : (ByteArray.mk #[32]).size = 1 := rfl
   have z4 : (ByteArray.mk #[10]).size = 1 := rfl
   obtain ⟨b, hb0⟩ : ∃ b, b = s ++ (wd ++ ⟨#[32]⟩ ++ decI sv ++ ⟨#[10]⟩) := ⟨_, rfl⟩
   have hadd1 := fun (w : World) => run_string_add_sum (P := Tryz.prog) w wd ⟨#[32]⟩ (by omega)
   have hadd2 := fun (w : World) => run_string_add_sum (P := Tryz.prog) w (wd ++ ⟨#[32]⟩) (decI sv) (by rw [ByteArray.size_append']; omega)
   have hadd3 := fun (w : World) => run_string_add_sum (P := Tryz.prog) w (wd ++ ⟨#[32]⟩ ++ decI sv) ⟨#[10]⟩ (by rw [ByteArray.size_append', ByteArray.size_append']; omega)
   have hadd4 := fun (w : World) => run_string_add_sum (P := Tryz.prog) w s (wd ++ ⟨#[32]⟩ ++ decI sv ++ ⟨#[10]⟩) (by rw [ByteArray.size_append', ByteArray.size_append', ByteArray.size_append']; omega)
   have hbz : b.size ≤ 9223372036854775807 := by rw [hb0]; simp only [ByteArray.size_append']; omega
   rw [← hb0] at hadd4 HB0
   have HB : Hid (s ++ lineE (stp st x) x = b) := qH (by rw [← hsv]; exact HB0)
   have ht0 : -1000000000000000000 ≤ sv := by omega
   have ht1 : sv ≤ 1000000000000000000 := by omega
   clear hsv hwd2 HB0 hb0 z1 z2 z3 z4 hlz
   go_wp2_with fail
   replace hv : Below w.heap.size w W.drew.drew := hv.drew
   replace hO := hO.below (Below.refl W.drew.heap.size W.drew).drew
   replace hX := hX.below (Below.refl W.drew.heap.size W.drew).drew
   refine wp_region_held_drew (S := fun w' => Blk w' gO 146 #[.slice A m c, .int .i64 st, .int .i64 n] ∧ Blk w' gX 141 #[Value.int .i64 x.day, Value.string x.what, Value.int .i64 x.value]) (by kernel_rfl) ?_ (fun hHeld => ?_)
   · exact ⟨hO, hX⟩
   refine zU 0 31 rfl (by assumption) ?_
   try simp only [Act.put, zA, zB, zC]
   refine zT 1 32 ?_ rfl ?_ (by assumption) ?_
   rotate_left
   · intro w hSw
     try dsimp only at hSw
     have o0 : w.cell? ⟨gO, 0, none⟩ = some (.slice A m c) := hSw.1.cell 0
     have o1 : w.cell? ⟨gO, 1, none⟩ = some (.int .i64 st) := hSw.1.cell 1
     have o2 : w.cell? ⟨gO, 2, none⟩ = some (.int .i64 n) := hSw.1.cell 2
     have x0 : w.cell? ⟨gX, 0, none⟩ = some (.int .i64 x.day) := hSw.2.cell 0
     have x1 : w.cell? ⟨gX, 1, none⟩ = some (.string x.what) := hSw.2.cell 1
     have x2 : w.cell? ⟨gX, 2, none⟩ = some (.int .i64 x.value) := hSw.2.cell 2
     go_simp
     try with_reducible rfl
   try simp only [Act.put, zA, zB, zC]
   refine zU 4 35 rfl (by assumption) ?_
   try simp only [Act.put, zA, zB, zC]
   refine zT 5 36 ?_ rfl ?_ (by assumption) ?_
   rotate_left
   · intro w hSw
     try dsimp only at hSw
     have o0 : w.cell? ⟨gO, 0, none⟩ = some (.slice A m c) := hSw.1.cell 0
     have o1 : w.cell? ⟨gO, 1, none⟩ = some (.int .i64 st) := hSw.1.cell 1
     have o2 : w.cell? ⟨gO, 2, none⟩ = some (.int .i64 n) := hSw.1.cell 2
     have x0 : w.cell? ⟨gX, 0, none⟩ = some (.int .i64 x.day) := hSw.2.cell 0
     have x1 : w.cell? ⟨gX, 1, none⟩ = some (.string x.what) := hSw.2.cell 1
     have x2 : w.cell? ⟨gX, 2, none⟩ = some (.int .i64 x.value) := hSw.2.cell 2
     go_simp
     try with_reducible rfl
   try simp only [Act.put, zA, zB, zC]
   refine zT 6 37 ?_ rfl ?_ (by assumption) ?_
   rotate_left
   · intro w hSw
     try dsimp only at hSw
     have o0 : w.cell? ⟨gO, 0, none⟩ = some (.slice A m c) := hSw.1.cell 0
     have o1 : w.cell? ⟨gO, 1, none⟩ = some (.int .i64 st) := hSw.1.cell 1
     have o2 : w.cell? ⟨gO, 2, none⟩ = some (.int .i64 n) := hSw.1.cell 2
     have x0 : w.cell? ⟨gX, 0, none⟩ = some (.int .i64 x.day) := hSw.2.cell 0
     have x1 : w.cell? ⟨gX, 1, none⟩ = some (.string x.what) := hSw.2.cell 1
     have x2 : w.cell? ⟨gX, 2, none⟩ = some (.int .i64 x.value) := hSw.2.cell 2
     go_simp
     try with_reducible rfl
   try simp only [Act.put, zA, zB, zC]
   refine zR 2 (some 33) rfl (fun K hK => ?_)
   go_simp
   (try dsimp only at hHeld); go_split_ands
   refine (hwd.out _ (HT.out.below hv).pow).mono ?_
   rintro e W2 ⟨rfl, hb⟩
   replace hv := bl_trans hv hb
   replace hO := hO.below hb
   replace hX := hX.below hb
   clear hb
   go_wp2_with fail
   refine hK.out _ _ ?_ (fun hHeld => ?_)
   · (try dsimp only); go_split_ands; exact ⟨hO, hX⟩
   clear hK K
   try simp only [Act.put, zA, zB, zC]
   refine zU 3 34 rfl (by assumption) ?_
   try simp only [Act.put, zA, zB, zC]
   refine zR 7 (some 38) rfl (fun K hK => ?_)
   go_simp
   (try dsimp only at hHeld); go_split_ands
   refine (hst.out _ (HT.out.below hv).pow).mono ?_
   rintro e W3 ⟨rfl, hb⟩
   replace hv := bl_trans hv hb
   replace hO := hO.below hb
   replace hX := hX.below hb
   clear hb
   go_wp2_with fail
   refine hK.out _ _ ?_ (fun hHeld => ?_)
   · (try dsimp only); go_split_ands; exact ⟨hO, hX⟩
   clear hK K
   try simp only [Act.put, zA, zB, zC]
   refine zR 8 (some 39) rfl (fun K hK => ?_)
   go_simp
   (try dsimp only at hHeld); go_split_ands
   refine (DecimalI_c sv (by omega) (by omega) _ (HT.out.below hv).pow).mono ?_
   rintro e W4 ⟨rfl, hb⟩
   replace hv := bl_trans hv hb
   replace hO := hO.below hb
   replace hX := hX.below hb
   clear hb
   go_wp2_with fail
   refine hK.out _ _ ?_ (fun hHeld => ?_)
   · (try dsimp only); go_split_ands; exact ⟨hO, hX⟩
   clear hK K
   try simp only [Act.put, zA, zB, zC]
   refine zU 9 40 rfl (by assumption) ?_
   try simp only [Act.put, zA, zB, zC]
   refine zU 10 41 rfl (by assumption) ?_
   try simp only [Act.put, zA, zB, zC]
   refine zU 11 42 rfl (by assumption) ?_
   try simp only [Act.put, zA, zB, zC]
   refine zU 12 0 rfl (by assumption) ?_
   try simp only [Act.put, List.setIfInBounds_toArray, List.set_cons_zero]
   refine wpAnyH_done (by kernel_rfl) ?_ _
   clear hHeld hadd1 hadd2 hadd3 hadd4
   by_cases hbig : 4000 < (b.size : Int)
   · have HR := qH (addR_big (s := s) (es := es) (st := st) HX.out (by have h := HD.out; omega) (by rw [HB.out]; omega))
     go_wp2_with fail
     go_returns
     exact RetT.mk (by rw [HR.out]; rfl) hv
   · have HR := qH (addR_yes (s := s) (es := es) (st := st) HX.out (by have h := HD.out; omega) (by rw [HB.out]; omega))
     have hbd : decide (4000 < (b.size : Int)) = false := decide_eq_false hbig
     go_wp2_with fail
     go_returns
     exact RetT.mk (by rw [HR.out, HB.out]; rfl) hv
 obtain ⟨j, rfl⟩ : ∃ j, m = j + 1 := ⟨m - 1, by omega⟩
 obtain ⟨y, hy⟩ := get_of_lt (xs := es) (k := j) (by rw [hm.out]; omega)
 obtain ⟨ad, rfl, hab, hY, _, _⟩ := Entry.at_ (hA.below hv) hy
 have HLD := qH (lastD_at hm.out hy)
 have hd0 : decide (0 < ((j + 1 : Nat) : Int)) = true := decide_eq_true (by omega)
 have hm1 : 0 < j + 1 := by omega
 have hj0 : (0 : Int) ≤ (j : Int) := by omega
 have hj1 : (j : Int) < ((j + 1 : Nat) : Int) := by omega
 have hj2 : ((j : Int)).toNat = j := by omega
 have hj3 : (j : Int) < (j : Int) + 1 := by omega
 have HW2 := qH (show IntKind.i64.wrap (j : Int) = (j : Int) from IntWalk.i64_in _ (by omega))
 have HW1 := qH (show IntKind.i64.wrap (((j + 1 : Nat) : Int) - 1) = (j : Int) from IntWalk.i64_in _ (by omega) |>.trans (by omega))
 clear hm0 hy
 by_cases hyd : x.day < y.day
 · have hdd : decide (x.day < y.day) = true := decide_eq_true hyd
   have HR := qH (addR_day (s := s) (es := es) (st := st) HX.out (by rw [HLD.out]; exact hyd))
   have hw1 := HW1.out
   have hw2 := HW2.out
   refine wp_region_held_drew (S := fun w' => Blk w' gO 146 #[.slice (some ad) (j + 1) c, .int .i64 st, .int .i64 n] ∧ Blk w' gX 141 #[Value.int .i64 x.day, Value.string x.what, Value.int .i64 x.value] ∧ w'.cell? (ad.add (j * 3)) = some (.int .i64 y.day)) (by kernel_rfl) ?_ (fun hHeld => ?_)
   · exact ⟨hO, hX, hY⟩
   refine zU 0 17 rfl (by assumption) ?_
   try simp only [Act.put, zA, zB, zC]
   refine zU 1 18 rfl (by assumption) ?_
   try simp only [Act.put, zA, zB, zC]
   refine zU 2 19 rfl (by assumption) ?_
   try simp only [Act.put, zA, zB, zC]
   refine zU 3 20 rfl (by assumption) ?_
   try simp only [Act.put, zA, zB, zC]
   refine zT 4 21 ?_ rfl ?_ (by assumption) ?_
   rotate_left
   · intro w hSw
     try dsimp only at hSw
     have o0 : w.cell? ⟨gO, 0, none⟩ = some (.slice (some ad) (j + 1) c) := hSw.1.cell 0
     have o1 : w.cell? ⟨gO, 1, none⟩ = some (.int .i64 st) := hSw.1.cell 1
     have o2 : w.cell? ⟨gO, 2, none⟩ = some (.int .i64 n) := hSw.1.cell 2
     have x0 : w.cell? ⟨gX, 0, none⟩ = some (.int .i64 x.day) := hSw.2.1.cell 0
     have x1 : w.cell? ⟨gX, 1, none⟩ = some (.string x.what) := hSw.2.1.cell 1
     have x2 : w.cell? ⟨gX, 2, none⟩ = some (.int .i64 x.value) := hSw.2.1.cell 2
     have y0 := hSw.2.2
     go_simp
     try with_reducible rfl
   try simp only [Act.put, zA, zB, zC]
   refine zU 5 22 rfl (by assumption) ?_
   try simp only [Act.put, zA, zB, zC]
   refine zU 6 23 rfl (by assumption) ?_
   try simp only [Act.put, zA, zB, zC]
   refine zU 7 24 rfl (by assumption) ?_
   try simp only [Act.put, zA, zB, zC]
   refine zU 8 25 rfl (by assumption) ?_
   try simp only [Act.put, zA, zB, zC]
   refine zT 9 26 ?_ rfl ?_ (by assumption) ?_
   rotate_left
   · intro w hSw
     try dsimp only at hSw
     have o0 : w.cell? ⟨gO, 0, none⟩ = some (.slice (some ad) (j + 1) c) := hSw.1.cell 0
     have o1 : w.cell? ⟨gO, 1, none⟩ = some (.int .i64 st) := hSw.1.cell 1
     have o2 : w.cell? ⟨gO, 2, none⟩ = some (.int .i64 n) := hSw.1.cell 2
     have x0 : w.cell? ⟨gX, 0, none⟩ = some (.int .i64 x.day) := hSw.2.1.cell 0
     have x1 : w.cell? ⟨gX, 1, none⟩ = some (.string x.what) := hSw.2.1.cell 1
     have x2 : w.cell? ⟨gX, 2, none⟩ = some (.int .i64 x.value) := hSw.2.1.cell 2
     have y0 := hSw.2.2
     go_simp
     try with_reducible rfl
   try simp only [Act.put, zA, zB, zC]
   refine zU 10 27 rfl (by assumption) ?_
   try simp only [Act.put, zA, zB, zC]
   refine zT 11 28 ?_ rfl ?_ (by assumption) ?_
   rotate_left
   · intro w hSw
     try dsimp only at hSw
     have o0 : w.cell? ⟨gO, 0, none⟩ = some (.slice (some ad) (j + 1) c) := hSw.1.cell 0
     have o1 : w.cell? ⟨gO, 1, none⟩ = some (.int .i64 st) := hSw.1.cell 1
     have o2 : w.cell? ⟨gO, 2, none⟩ = some (.int .i64 n) := hSw.1.cell 2
     have x0 : w.cell? ⟨gX, 0, none⟩ = some (.int .i64 x.day) := hSw.2.1.cell 0
     have x1 : w.cell? ⟨gX, 1, none⟩ = some (.string x.what) := hSw.2.1.cell 1
     have x2 : w.cell? ⟨gX, 2, none⟩ = some (.int .i64 x.value) := hSw.2.1.cell 2
     have y0 := hSw.2.2
     go_simp
     try with_reducible rfl
   try simp only [Act.put, zA, zB, zC]
   refine zU 12 29 rfl (by assumption) ?_
   try simp only [Act.put, zA, zB, zC]
   refine zU 13 30 rfl (by assumption) ?_
   try simp only [Act.put, zA, zB, zC]
   refine zU 14 16 rfl (by assumption) ?_
   try simp only [Act.put, zA, zB, zC]
   refine wpAnyH_done (by kernel_rfl) ?_ _
   clear hHeld
   clear hw1 hw2
   go_wp2_with fail
   go_returns
   exact RetT.mk (by rw [HR.out]; rfl) hv
 have hdd : decide (x.day < y.day) = false := decide_eq_false hyd
 have HD := qH (show ¬ x.day < lastD es by rw [HLD.out]; exact hyd)
 have hw1 := HW1.out
 have hw2 := HW2.out
 refine wp_region_held_drew (S := fun w' => Blk w' gO 146 #[.slice (some ad) (j + 1) c, .int .i64 st, .int .i64 n] ∧ Blk w' gX 141 #[Value.int .i64 x.day, Value.string x.what, Value.int .i64 x.value] ∧ w'.cell? (ad.add (j * 3)) = some (.int .i64 y.day)) (by kernel_rfl) ?_ (fun hHeld => ?_)
 · exact ⟨hO, hX, hY⟩
 refine zU 0 17 rfl (by assumption) ?_
 try simp only [Act.put, zA, zB, zC]
 refine zU 1 18 rfl (by assumption) ?_
 try simp only [Act.put, zA, zB, zC]
 refine zU 2 19 rfl (by assumption) ?_
 try simp only [Act.put, zA, zB, zC]
 refine zU 3 20 rfl (by assumption) ?_
 try simp only [Act.put, zA, zB, zC]
 refine zT 4 21 ?_ rfl ?_ (by assumption) ?_
 rotate_left
 · intro w hSw
   try dsimp only at hSw
   have o0 : w.cell? ⟨gO, 0, none⟩ = some (.slice (some ad) (j + 1) c) := hSw.1.cell 0
   have o1 : w.cell? ⟨gO, 1, none⟩ = some (.int .i64 st) := hSw.1.cell 1
   have o2 : w.cell? ⟨gO, 2, none⟩ = some (.int .i64 n) := hSw.1.cell 2
   have x0 : w.cell? ⟨gX, 0, none⟩ = some (.int .i64 x.day) := hSw.2.1.cell 0
   have x1 : w.cell? ⟨gX, 1, none⟩ = some (.string x.what) := hSw.2.1.cell 1
   have x2 : w.cell? ⟨gX, 2, none⟩ = some (.int .i64 x.value) := hSw.2.1.cell 2
   have y0 := hSw.2.2
   go_simp
   try with_reducible rfl
 try simp only [Act.put, zA, zB, zC]
 refine zU 5 22 rfl (by assumption) ?_
 try simp only [Act.put, zA, zB, zC]
 refine zU 6 23 rfl (by assumption) ?_
 try simp only [Act.put, zA, zB, zC]
 refine zU 7 24 rfl (by assumption) ?_
 try simp only [Act.put, zA, zB, zC]
 refine zU 8 25 rfl (by assumption) ?_
 try simp only [Act.put, zA, zB, zC]
 refine zT 9 26 ?_ rfl ?_ (by assumption) ?_
 rotate_left
 · intro w hSw
   try dsimp only at hSw
   have o0 : w.cell? ⟨gO, 0, none⟩ = some (.slice (some ad) (j + 1) c) := hSw.1.cell 0
   have o1 : w.cell? ⟨gO, 1, none⟩ = some (.int .i64 st) := hSw.1.cell 1
   have o2 : w.cell? ⟨gO, 2, none⟩ = some (.int .i64 n) := hSw.1.cell 2
   have x0 : w.cell? ⟨gX, 0, none⟩ = some (.int .i64 x.day) := hSw.2.1.cell 0
   have x1 : w.cell? ⟨gX, 1, none⟩ = some (.string x.what) := hSw.2.1.cell 1
   have x2 : w.cell? ⟨gX, 2, none⟩ = some (.int .i64 x.value) := hSw.2.1.cell 2
   have y0 := hSw.2.2
   go_simp
   try with_reducible rfl
 try simp only [Act.put, zA, zB, zC]
 refine zU 10 27 rfl (by assumption) ?_
 try simp only [Act.put, zA, zB, zC]
 refine zT 11 28 ?_ rfl ?_ (by assumption) ?_
 rotate_left
 · intro w hSw
   try dsimp only at hSw
   have o0 : w.cell? ⟨gO, 0, none⟩ = some (.slice (some ad) (j + 1) c) := hSw.1.cell 0
   have o1 : w.cell? ⟨gO, 1, none⟩ = some (.int .i64 st) := hSw.1.cell 1
   have o2 : w.cell? ⟨gO, 2, none⟩ = some (.int .i64 n) := hSw.1.cell 2
   have x0 : w.cell? ⟨gX, 0, none⟩ = some (.int .i64 x.day) := hSw.2.1.cell 0
   have x1 : w.cell? ⟨gX, 1, none⟩ = some (.string x.what) := hSw.2.1.cell 1
   have x2 : w.cell? ⟨gX, 2, none⟩ = some (.int .i64 x.value) := hSw.2.1.cell 2
   have y0 := hSw.2.2
   go_simp
   try with_reducible rfl
 try simp only [Act.put, zA, zB, zC]
 refine zU 12 29 rfl (by assumption) ?_
 try simp only [Act.put, zA, zB, zC]
 refine zU 13 30 rfl (by assumption) ?_
 try simp only [Act.put, zA, zB, zC]
 refine zU 14 16 rfl (by assumption) ?_
 try simp only [Act.put, zA, zB, zC]
 refine wpAnyH_done (by kernel_rfl) ?_ _
 clear hHeld
 clear hw1 hw2
 obtain ⟨t0, t1⟩ := stp_bd st x
 have z1 := wordsB_size HX.out
 have hlz := lineE_size HX.out (stp st x) t0 t1
 have hwd := qH (fun w hT => words_c x HX.out w hT)
 have hst : Hid (∀ w, Pow10 w → Calls Tryz.prog 146 #[.int .i64 st, .agg #[.int .i64 x.day, .string x.what, .int .i64 x.value]] w (Ret (.int .i64 (stp st x)) w)) := qH (fun w hT => stampOf_c st x hs0 hs1 HX.out w hT)
 have HB0 : s ++ lineE (stp st x) x = s ++ (wordsB x ++ ⟨#[32]⟩ ++ decI (stp st x) ++ ⟨#[10]⟩) := rfl
 obtain ⟨sv, hsv⟩ : ∃ sv, sv = stp st x := ⟨_, rfl⟩
 obtain ⟨wd, hwd2⟩ : ∃ wd, wd = wordsB x := ⟨_, rfl⟩
 rw [← hsv, ← hwd2] at HB0
 rw [← hsv] at hst t0 t1 hlz
 rw [← hwd2] at hwd z1
 have z2 := decI_size sv
 have z3 : (ByteArray.mk #[32]).size = 1 := rfl
 have z4 : (ByteArray.mk #[10]).size = 1 := rfl
 obtain ⟨b, hb0⟩ : ∃ b, b = s ++ (wd ++ ⟨#[32]⟩ ++ decI sv ++ ⟨#[10]⟩) := ⟨_, rfl⟩
 have hadd1 := fun (w : World) => run_string_add_sum (P := Tryz.prog) w wd ⟨#[32]⟩ (by omega)
 have hadd2 := fun (w : World) => run_string_add_sum (P := Tryz.prog) w (wd ++ ⟨#[32]⟩) (decI sv) (by rw [ByteArray.size_append']; omega)
 have hadd3 := fun (w : World) => run_string_add_sum (P := Tryz.prog) w (wd ++ ⟨#[32]⟩ ++ decI sv) ⟨#[10]⟩ (by rw [ByteArray.size_append', ByteArray.size_append']; omega)
 have hadd4 := fun (w : World) => run_string_add_sum (P := Tryz.prog) w s (wd ++ ⟨#[32]⟩ ++ decI sv ++ ⟨#[10]⟩) (by rw [ByteArray.size_append', ByteArray.size_append', ByteArray.size_append']; omega)
 have hbz : b.size ≤ 9223372036854775807 := by rw [hb0]; simp only [ByteArray.size_append']; omega
 rw [← hb0] at hadd4 HB0
 have HB : Hid (s ++ lineE (stp st x) x = b) := qH (by rw [← hsv]; exact HB0)
 have ht0 : -1000000000000000000 ≤ sv := by omega
 have ht1 : sv ≤ 1000000000000000000 := by omega
 clear hsv hwd2 HB0 hb0 z1 z2 z3 z4 hlz
 go_wp2_with fail
 replace hv : Below w.heap.size w W.drew.drew := hv.drew
 replace hO := hO.below (Below.refl W.drew.heap.size W.drew).drew
 replace hX := hX.below (Below.refl W.drew.heap.size W.drew).drew
 refine wp_region_held_drew (S := fun w' => Blk w' gO 146 #[.slice (some ad) (j + 1) c, .int .i64 st, .int .i64 n] ∧ Blk w' gX 141 #[Value.int .i64 x.day, Value.string x.what, Value.int .i64 x.value]) (by kernel_rfl) ?_ (fun hHeld => ?_)
 · exact ⟨hO, hX⟩
 refine zU 0 31 rfl (by assumption) ?_
 try simp only [Act.put, zA, zB, zC]
 refine zT 1 32 ?_ rfl ?_ (by assumption) ?_
 rotate_left
 · intro w hSw
   try dsimp only at hSw
   have o0 : w.cell? ⟨gO, 0, none⟩ = some (.slice (some ad) (j + 1) c) := hSw.1.cell 0
   have o1 : w.cell? ⟨gO, 1, none⟩ = some (.int .i64 st) := hSw.1.cell 1
   have o2 : w.cell? ⟨gO, 2, none⟩ = some (.int .i64 n) := hSw.1.cell 2
   have x0 : w.cell? ⟨gX, 0, none⟩ = some (.int .i64 x.day) := hSw.2.cell 0
   have x1 : w.cell? ⟨gX, 1, none⟩ = some (.string x.what) := hSw.2.cell 1
   have x2 : w.cell? ⟨gX, 2, none⟩ = some (.int .i64 x.value) := hSw.2.cell 2
   go_simp
   try with_reducible rfl
 try simp only [Act.put, zA, zB, zC]
 refine zU 4 35 rfl (by assumption) ?_
 try simp only [Act.put, zA, zB, zC]
 refine zT 5 36 ?_ rfl ?_ (by assumption) ?_
 rotate_left
 · intro w hSw
   try dsimp only at hSw
   have o0 : w.cell? ⟨gO, 0, none⟩ = some (.slice (some ad) (j + 1) c) := hSw.1.cell 0
   have o1 : w.cell? ⟨gO, 1, none⟩ = some (.int .i64 st) := hSw.1.cell 1
   have o2 : w.cell? ⟨gO, 2, none⟩ = some (.int .i64 n) := hSw.1.cell 2
   have x0 : w.cell? ⟨gX, 0, none⟩ = some (.int .i64 x.day) := hSw.2.cell 0
   have x1 : w.cell? ⟨gX, 1, none⟩ = some (.string x.what) := hSw.2.cell 1
   have x2 : w.cell? ⟨gX, 2, none⟩ = some (.int .i64 x.value) := hSw.2.cell 2
   go_simp
   try with_reducible rfl
 try simp only [Act.put, zA, zB, zC]
 refine zT 6 37 ?_ rfl ?_ (by assumption) ?_
 rotate_left
 · intro w hSw
   try dsimp only at hSw
   have o0 : w.cell? ⟨gO, 0, none⟩ = some (.slice (some ad) (j + 1) c) := hSw.1.cell 0
   have o1 : w.cell? ⟨gO, 1, none⟩ = some (.int .i64 st) := hSw.1.cell 1
   have o2 : w.cell? ⟨gO, 2, none⟩ = some (.int .i64 n) := hSw.1.cell 2
   have x0 : w.cell? ⟨gX, 0, none⟩ = some (.int .i64 x.day) := hSw.2.cell 0
   have x1 : w.cell? ⟨gX, 1, none⟩ = some (.string x.what) := hSw.2.cell 1
   have x2 : w.cell? ⟨gX, 2, none⟩ = some (.int .i64 x.value) := hSw.2.cell 2
   go_simp
   try with_reducible rfl
 try simp only [Act.put, zA, zB, zC]
 refine zR 2 (some 33) rfl (fun K hK => ?_)
 go_simp
 (try dsimp only at hHeld); go_split_ands
 refine (hwd.out _ (HT.out.below hv).pow).mono ?_
 rintro e W2 ⟨rfl, hb⟩
 replace hv := bl_trans hv hb
 replace hO := hO.below hb
 replace hX := hX.below hb
 clear hb
 go_wp2_with fail
 refine hK.out _ _ ?_ (fun hHeld => ?_)
 · (try dsimp only); go_split_ands; exact ⟨hO, hX⟩
 clear hK K
 try simp only [Act.put, zA, zB, zC]
 refine zU 3 34 rfl (by assumption) ?_
 try simp only [Act.put, zA, zB, zC]
 refine zR 7 (some 38) rfl (fun K hK => ?_)
 go_simp
 (try dsimp only at hHeld); go_split_ands
 refine (hst.out _ (HT.out.below hv).pow).mono ?_
 rintro e W3 ⟨rfl, hb⟩
 replace hv := bl_trans hv hb
 replace hO := hO.below hb
 replace hX := hX.below hb
 clear hb
 go_wp2_with fail
 refine hK.out _ _ ?_ (fun hHeld => ?_)
 · (try dsimp only); go_split_ands; exact ⟨hO, hX⟩
 clear hK K
 try simp only [Act.put, zA, zB, zC]
 refine zR 8 (some 39) rfl (fun K hK => ?_)
 go_simp
 (try dsimp only at hHeld); go_split_ands
 refine (DecimalI_c sv (by omega) (by omega) _ (HT.out.below hv).pow).mono ?_
 rintro e W4 ⟨rfl, hb⟩
 replace hv := bl_trans hv hb
 replace hO := hO.below hb
 replace hX := hX.below hb
 clear hb
 go_wp2_with fail
 refine hK.out _ _ ?_ (fun hHeld => ?_)
 · (try dsimp only); go_split_ands; exact ⟨hO, hX⟩
 clear hK K
 try simp only [Act.put, zA, zB, zC]
 refine zU 9 40 rfl (by assumption) ?_
 try simp only [Act.put, zA, zB, zC]
 refine zU 10 41 rfl (by assumption) ?_
 try simp only [Act.put, zA, zB, zC]
 refine zU 11 42 rfl (by assumption) ?_
 try simp only [Act.put, zA, zB, zC]
 refine zU 12 0 rfl (by assumption) ?_
 try simp only [Act.put, List.setIfInBounds_toArray, List.set_cons_zero]
 refine wpAnyH_done (by kernel_rfl) ?_ _
 clear hHeld hadd1 hadd2 hadd3 hadd4
 by_cases hbig : 4000 < (b.size : Int)
 · have HR := qH (addR_big (s := s) (es := es) (st := st) HX.out (by have h := HD.out; omega) (by rw [HB.out]; omega))
   go_wp2_with fail
   go_returns
   exact RetT.mk (by rw [HR.out]; rfl) hv
 · have HR := qH (addR_yes (s := s) (es := es) (st := st) HX.out (by have h := HD.out; omega) (by rw [HB.out]; omega))
   have hbd : decide (4000 < (b.size : Int)) = false := decide_eq_false hbig
   go_wp2_with fail
   go_returns
   exact RetT.mk (by rw [HR.out, HB.out]; rfl) hv
def cdW (s t : ByteArray) : Int := if cdL s = 0 then (if nameB t = true then 0 else 2) else cdL s
theorem cdW_no {s t : ByteArray} (h : ¬ cdL s = 0) : cdW s t = cdL s := by unfold cdW; rw [if_neg h]
theorem cdW_name {s t : ByteArray} (h : cdL s = 0) (h2 : nameB t = false) : cdW s t = 2 := by unfold cdW; rw [if_pos h, if_neg (by simp [h2])]
theorem cdW_ok {s t : ByteArray} (h : cdL s = 0) (h2 : nameB t = true) : cdW s t = 0 := by unfold cdW; rw [if_pos h, if_pos h2]
theorem ent_val {es : List Entry} (h : ∀ e ∈ es, entB e = true) {k : Nat} {x : Entry} (hx : es[k]? = some x) : -1000000 ≤ x.value ∧ x.value ≤ 1000000 ∧ 0 ≤ x.day ∧ x.day ≤ 100000 ∧ x.what.size ≤ 12 := by
 have := entB_bd (h x (List.mem_of_getElem? hx))
 omega
end Go.Proofs.YtpiehlfffjhoaaaGreatDoor
