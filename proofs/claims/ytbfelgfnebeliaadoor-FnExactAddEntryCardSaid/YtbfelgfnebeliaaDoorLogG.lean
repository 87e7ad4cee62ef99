/- AddEntry: both sides; the law walked. -/
import Derived.Test.YtbfelgfnebeliaaDoorLogF
namespace Go.Proofs.YtbfelgfnebeliaaDoor
open Go.RowKit

set_option maxRecDepth 100000 in
set_option maxHeartbeats 4000000 in
theorem AddEntry_c (s : ByteArray) (hs : s.size ≤ 1048576) (x : Entry) (hxs : x.what.size ≤ 9223372036854775807) (w : World) (hT : Tabs w) :
    Calls Tryd.prog 23 #[.string s, .agg #[.int .i64 x.day, .string x.what, .int .i64 x.value]] w (RetT #[.string (addV s x).1, .int .i64 (addV s x).2] w) := by
  have HT := Lib.hid hT
  clear hT
  obtain ⟨W0, hW0⟩ : ∃ W0, W0 = w.alloc (Obj.cells #[Value.int IntKind.i64 x.day, Value.string x.what, Value.int IntKind.i64 x.value] 39) := ⟨_, rfl⟩
  obtain ⟨gX, hgX⟩ : ∃ gX, gX = w.heap.size := ⟨_, rfl⟩
  have hv : Below w.heap.size w W0 := by rw [hW0]; exact bl_alloc (Below.refl _ _) _
  have hX : Blk W0 gX 39 #[Value.int IntKind.i64 x.day, Value.string x.what, Value.int IntKind.i64 x.value] := by rw [hW0, hgX]; exact Blk.new _ _ _
  have HW0 := Lib.hid hW0
  have HGX := Lib.hid hgX
  clear hW0 hgX
  go_enter Tryd.func23, Tryd.ntmps23
  go_wp2_with fail
  rw [← HW0.out, ← HGX.out]
  refine (logCode_c s hs _ (HT.out.below hv)).mono ?_
  rintro e W ⟨A, c, m, es, st, n, rfl, hG, hm, hown, hok, hno, hb⟩
  replace hv := bl_trans hv hb
  replace hX := hX.below hb
  clear hb
  have x0 : ∀ O, (W.alloc O).cell? ⟨gX, 0, none⟩ = some (.int .i64 x.day) := fun O => (hX.alloc O).cell 0
  have x1 : ∀ O, (W.alloc O).cell? ⟨gX, 1, none⟩ = some (.string x.what) := fun O => (hX.alloc O).cell 1
  have x2 : ∀ O, (W.alloc O).cell? ⟨gX, 2, none⟩ = some (.int .i64 x.value) := fun O => (hX.alloc O).cell 2
  by_cases h0 : cdL s = 0
  · have HR := Lib.hid (addV_ok (x := x) h0 (hok h0))
    have hle := hG.le
    have hmb : m ≤ 1048576 := by have := hG.few; omega
    have HM := Lib.hid hm
    have hs0 := hG.s0
    have hs1 := hG.s1
    rw [h0]
    clear h0 hok hno hm
    go_wp2_with fail
    refine (added_c s hs A es m c st n x hxs HM hmb hs0 hs1 _ (Arr.own (hown.alloc _)) (HT.out.below (bl_alloc hv _))).mono ?_
    rintro e W2 ⟨rfl, hb⟩
    go_wp2_with fail
    go_returns
    exact RetT.mk (by rw [HR.out]; rfl) (bl_trans (bl_alloc hv _) hb)
  · have HR := Lib.hid (addV_no (x := x) h0)
    have hne : (cdL s != 0) = true := by rw [bne_iff_ne]; exact h0
    clear hok hno
    generalize cdL s = C at *
    clear h0
    go_wp2_with fail
    go_returns
    exact RetT.mk (by rw [HR.out]; rfl) (bl_alloc hv _)
set_option maxRecDepth 100000 in
set_option maxHeartbeats 4000000 in
theorem SAddEntry_c (s : ByteArray) (hs : s.size ≤ 1048576) (x : Entry) (hxs : x.what.size ≤ 9223372036854775807) (w : World) :
    Calls Tryd.prog 21 #[.string s, .agg #[.int .i64 x.day, .string x.what, .int .i64 x.value]] w (RetT #[.string (addV s x).1, .int .i64 (addV s x).2] w) := by
  obtain ⟨W0, hW0⟩ : ∃ W0, W0 = w.alloc (Obj.cells #[Value.int IntKind.i64 x.day, Value.string x.what, Value.int IntKind.i64 x.value] 39) := ⟨_, rfl⟩
  obtain ⟨gX, hgX⟩ : ∃ gX, gX = w.heap.size := ⟨_, rfl⟩
  have hv : Below w.heap.size w W0 := by rw [hW0]; exact bl_alloc (Below.refl _ _) _
  have hX : Blk W0 gX 39 #[Value.int IntKind.i64 x.day, Value.string x.what, Value.int IntKind.i64 x.value] := by rw [hW0, hgX]; exact Blk.new _ _ _
  have HW0 := Lib.hid hW0
  have HGX := Lib.hid hgX
  clear hW0 hgX
  go_enter Tryd.func21, Tryd.ntmps21
  go_wp2_with fail
  rw [← HW0.out, ← HGX.out]
  refine (l27Code_c s hs _).mono ?_
  rintro e W ⟨g, rfl, hg, hRS, hb⟩
  replace hv := bl_trans hv hb
  replace hX := hX.below hb
  clear hb
  by_cases h0 : cdL s = 0
  case neg =>
    have HR := Lib.hid (addV_no (x := x) h0)
    have hne : (cdL s != 0) = true := by rw [bne_iff_ne]; exact h0
    clear hRS
    generalize cdL s = C at *
    clear h0
    go_wp2_with fail
    go_returns
    exact RetT.mk (by rw [HR.out]; rfl) hv
  obtain ⟨A, c, hB, hown, _⟩ := hRS h0
  have hG := rdL_good s
  have HR0 := Lib.hid (addV_ok (x := x) (es := (rdL s).1) (st := (rdL s).2.1) (n := (rdL s).2.2) h0 rfl)
  rw [h0]
  clear hRS h0
  generalize (rdL s).1 = es at *
  generalize (rdL s).2.1 = st at *
  generalize (rdL s).2.2 = n at *
  obtain ⟨m, hm0⟩ : ∃ m, m = es.length := ⟨_, rfl⟩
  rw [← hm0] at hB hown
  have hm := Lib.hid hm0.symm
  have hmb : m ≤ 1048576 := by have := hG.few; have := hG.le; omega
  have hs0 := hG.s0
  have hs1 := hG.s1
  clear hm0
  go_wp2_with fail
  refine (l27Ok_c ⟨gX, 0, none⟩ x hxs _ (hX.cell 0) (hX.cell 1) (hX.cell 2)).mono ?_
  rintro e w' ⟨rfl, hq⟩
  rw [hq]
  clear hq w'
  cases hx : entB x
  · have HR := Lib.hid (HR0.out.trans (addR_ent (s := s) (es := es) (st := st) hx))
    clear hx
    go_wp2_with fail
    go_returns
    exact RetT.mk (by rw [HR.out]; rfl) hv
  have HX := Lib.hid hx
  clear hx
  go_wp2_with fail
  replace hv : Below w.heap.size w W.drew := hv.drew
  replace hB := hB.below (Below.refl W.heap.size W).drew
  replace hX := hX.below (Below.refl W.heap.size W).drew
  replace hown := own_below hown (Below.refl W.heap.size W).drew
  refine wp_region_held_drew (S := fun w' => Blk w' g 70 (RV s n st A m c) ∧ Blk w' gX 39 #[Value.int IntKind.i64 x.day, Value.string x.what, Value.int IntKind.i64 x.value]) (by kernel_rfl) ?_ (fun hHeld => ?_)
  · exact ⟨hB, hX⟩
  refine wpAnyH_take (i := 0) (oi := { dst := some 19, op := _, type := _, pos := _, after := _, guard := _ }) (v := ?_) rfl (by kernel_rfl) (by kernel_rfl) (by kernel_rfl) (fun _ _ _ h => h) (Or.inl ⟨by kernel_rfl, ?_⟩) (by assumption) ?_
  rotate_left
  · intro w hSw
    try dsimp only at hSw
    go_simp
    try with_reducible rfl
  try simp only [Act.put, List.setIfInBounds_toArray, List.set_cons_zero, List.set_cons_succ]
  refine wpAnyH_take (i := 1) (oi := { dst := some 20, op := _, type := _, pos := _, after := _, guard := _ }) (v := ?_) rfl (by kernel_rfl) (by kernel_rfl) (by kernel_rfl) (fun _ _ _ h => h) (Or.inl ⟨by kernel_rfl, ?_⟩) (by assumption) ?_
  rotate_left
  · intro w hSw
    try dsimp only at hSw
    have k0 : w.cell? ⟨g, 0, none⟩ = some (.string s) := hSw.1.cell 0
    have k1 : w.cell? ⟨g, 1, none⟩ = some (.int .i64 n) := hSw.1.cell 1
    have k2 : w.cell? ⟨g, 2, none⟩ = some (.int .i64 st) := hSw.1.cell 2
    have k3 : w.cell? ⟨g, 3, none⟩ = some (.slice A m c) := hSw.1.cell 3
    have x0 : w.cell? ⟨gX, 0, none⟩ = some (.int .i64 x.day) := hSw.2.cell 0
    have x1 : w.cell? ⟨gX, 1, none⟩ = some (.string x.what) := hSw.2.cell 1
    have x2 : w.cell? ⟨gX, 2, none⟩ = some (.int .i64 x.value) := hSw.2.cell 2
    go_simp
    try with_reducible rfl
  try simp only [Act.put, List.setIfInBounds_toArray, List.set_cons_zero, List.set_cons_succ]
  refine wpAnyH_take (i := 2) (oi := { dst := some 21, op := _, type := _, pos := _, after := _, guard := _ }) (v := ?_) rfl (by kernel_rfl) (by kernel_rfl) (by kernel_rfl) (fun _ _ _ h => h) (Or.inl ⟨by kernel_rfl, ?_⟩) (by assumption) ?_
  rotate_left
  · intro w hSw
    try dsimp only at hSw
    go_simp
    try with_reducible rfl
  try simp only [Act.put, List.setIfInBounds_toArray, List.set_cons_zero, List.set_cons_succ]
  refine wpAnyH_ready (rs := [3]) (by kernel_rfl) (by simp) ?_
  refine AllReadyH.cons (o := { dst := some 22, op := _, type := _, pos := _, after := _, guard := _ }) rfl (fun K hK => ?_) AllReadyH.nil
  go_simp
  (try dsimp only at hHeld); go_split_ands
  refine (day_c s g es st n m c A hm hmb _ hB (Arr.own hown)).mono ?_
  rintro e W2 ⟨rfl, hb⟩
  replace hv := bl_trans hv hb
  replace hB := hB.below hb
  replace hX := hX.below hb
  replace hown := own_below hown hb
  clear hb
  go_wp2_with fail
  refine hK.out _ _ ?_ (fun hHeld => ?_)
  · (try dsimp only); go_split_ands; exact ⟨hB, hX⟩
  clear hK K
  try simp only [Act.put, List.setIfInBounds_toArray, List.set_cons_zero, List.set_cons_succ]
  refine wpAnyH_take (i := 4) (oi := { dst := some 23, op := _, type := _, pos := _, after := _, guard := _ }) (v := ?_) rfl (by kernel_rfl) (by kernel_rfl) (by kernel_rfl) (fun _ _ _ h => h) (Or.inl ⟨by kernel_rfl, ?_⟩) (by assumption) ?_
  rotate_left
  · intro w hSw
    try dsimp only at hSw
    go_simp
    try with_reducible rfl
  try simp only [Act.put, List.setIfInBounds_toArray, List.set_cons_zero, List.set_cons_succ]
  refine wpAnyH_done (by kernel_rfl) ?_ _
  clear hHeld
  by_cases hday : x.day < lastD es
  · have hdd : decide (x.day < lastD es) = true := decide_eq_true hday
    have HR := Lib.hid (HR0.out.trans (addR_day (s := s) (es := es) (st := st) HX.out hday))
    go_wp2_with fail
    go_returns
    exact RetT.mk (by rw [HR.out]; rfl) hv
  have hdd : decide (x.day < lastD es) = false := decide_eq_false hday
  have HD := Lib.hid hday
  obtain ⟨t0, t1⟩ := stp_bd st x
  have hwz : (wordsB x).size ≤ 9223372036854775807 := by have := wordsB_size HX.out; omega
  have hlz := lineE_size HX.out (stp st x) t0 t1
  have hWD : Hid (∀ w c0 c1 c2, Calls Tryd.prog 61 #[.pointer (some ⟨gX, 0, none⟩)] w (Ret (.string (wordsB x)) w)) := Lib.hid (fun w c0 c1 c2 => l27Words_c ⟨gX, 0, none⟩ x HX.out w c0 c1 c2)
  have hST : Hid (∀ w, Calls Tryd.prog 60 #[.int .i64 st, .string (wordsB x)] w (RetQ (.int .i64 (stp st x)) w)) := Lib.hid (fun w => l27Stamp_c st _ hs0 hs1 hwz w)
  have hLN := Lib.hid (fun w c0 c1 c2 => l27Line_c (stp st x) ⟨gX, 0, none⟩ x HX.out t0 t1 w c0 c1 c2)
  obtain ⟨ln, hln⟩ : ∃ ln, ln = lineE (stp st x) x := ⟨_, rfl⟩
  obtain ⟨b, hb0⟩ : ∃ b, b = s ++ ln := ⟨_, rfl⟩
  rw [← hln] at hLN hlz
  have hadd := fun (w : World) => run_string_add_sum (P := Tryd.prog) w s ln (by omega)
  have hbz : b.size ≤ 9223372036854775807 := by rw [hb0, ByteArray.size_append']; omega
  rw [← hb0] at hadd
  have HB : Hid (s ++ lineE (stp st x) x = b) := Lib.hid (by rw [← hln]; exact hb0.symm)
  obtain ⟨sv, hsv⟩ : ∃ sv, sv = stp st x := ⟨_, rfl⟩
  rw [← hsv] at hLN hST
  obtain ⟨wd, hwd⟩ : ∃ wd, wd = wordsB x := ⟨_, rfl⟩
  rw [← hwd] at hWD hST
  clear hsv hwd hln hb0 hwz hlz t0 t1
  go_wp2_with fail
  replace hv : Below w.heap.size w W2.drew := hv.drew
  replace hB := hB.below (Below.refl W2.heap.size W2).drew
  replace hX := hX.below (Below.refl W2.heap.size W2).drew
  replace hown := own_below hown (Below.refl W2.heap.size W2).drew
  refine wp_region_held_drew (S := fun w' => Blk w' g 70 (RV s n st A m c) ∧ Blk w' gX 39 #[Value.int IntKind.i64 x.day, Value.string x.what, Value.int IntKind.i64 x.value]) (by kernel_rfl) ?_ (fun hHeld => ?_)
  · exact ⟨hB, hX⟩
  refine wpAnyH_take (i := 0) (oi := { dst := some 24, op := _, type := _, pos := _, after := _, guard := _ }) (v := ?_) rfl (by kernel_rfl) (by kernel_rfl) (by kernel_rfl) (fun _ _ _ h => h) (Or.inl ⟨by kernel_rfl, ?_⟩) (by assumption) ?_
  rotate_left
  · intro w hSw
    try dsimp only at hSw
    go_simp
    try with_reducible rfl
  try simp only [Act.put, List.setIfInBounds_toArray, List.set_cons_zero, List.set_cons_succ]
  refine wpAnyH_take (i := 1) (oi := { dst := some 25, op := _, type := _, pos := _, after := _, guard := _ }) (v := ?_) rfl (by kernel_rfl) (by kernel_rfl) (by kernel_rfl) (fun _ _ _ h => h) (Or.inl ⟨by kernel_rfl, ?_⟩) (by assumption) ?_
  rotate_left
  · intro w hSw
    try dsimp only at hSw
    go_simp
    try with_reducible rfl
  try simp only [Act.put, List.setIfInBounds_toArray, List.set_cons_zero, List.set_cons_succ]
  refine wpAnyH_take (i := 2) (oi := { dst := some 26, op := _, type := _, pos := _, after := _, guard := _ }) (v := ?_) rfl (by kernel_rfl) (by kernel_rfl) (by kernel_rfl) (fun _ _ _ h => h) (Or.inl ⟨by kernel_rfl, ?_⟩) (by assumption) ?_
  rotate_left
  · intro w hSw
    try dsimp only at hSw
    go_simp
    try with_reducible rfl
  try simp only [Act.put, List.setIfInBounds_toArray, List.set_cons_zero, List.set_cons_succ]
  refine wpAnyH_take (i := 3) (oi := { dst := some 27, op := _, type := _, pos := _, after := _, guard := _ }) (v := ?_) rfl (by kernel_rfl) (by kernel_rfl) (by kernel_rfl) (fun _ _ _ h => h) (Or.inl ⟨by kernel_rfl, ?_⟩) (by assumption) ?_
  rotate_left
  · intro w hSw
    try dsimp only at hSw
    go_simp
    try with_reducible rfl
  try simp only [Act.put, List.setIfInBounds_toArray, List.set_cons_zero, List.set_cons_succ]
  refine wpAnyH_take (i := 4) (oi := { dst := some 28, op := _, type := _, pos := _, after := _, guard := _ }) (v := ?_) rfl (by kernel_rfl) (by kernel_rfl) (by kernel_rfl) (fun _ _ _ h => h) (Or.inl ⟨by kernel_rfl, ?_⟩) (by assumption) ?_
  rotate_left
  · intro w hSw
    try dsimp only at hSw
    have k0 : w.cell? ⟨g, 0, none⟩ = some (.string s) := hSw.1.cell 0
    have k1 : w.cell? ⟨g, 1, none⟩ = some (.int .i64 n) := hSw.1.cell 1
    have k2 : w.cell? ⟨g, 2, none⟩ = some (.int .i64 st) := hSw.1.cell 2
    have k3 : w.cell? ⟨g, 3, none⟩ = some (.slice A m c) := hSw.1.cell 3
    have x0 : w.cell? ⟨gX, 0, none⟩ = some (.int .i64 x.day) := hSw.2.cell 0
    have x1 : w.cell? ⟨gX, 1, none⟩ = some (.string x.what) := hSw.2.cell 1
    have x2 : w.cell? ⟨gX, 2, none⟩ = some (.int .i64 x.value) := hSw.2.cell 2
    go_simp
    try with_reducible rfl
  try simp only [Act.put, List.setIfInBounds_toArray, List.set_cons_zero, List.set_cons_succ]
  refine wpAnyH_ready (rs := [5]) (by kernel_rfl) (by simp) ?_
  refine AllReadyH.cons (o := { dst := some 29, op := _, type := _, pos := _, after := _, guard := _ }) rfl (fun K hK => ?_) AllReadyH.nil
  go_simp
  (try dsimp only at hHeld); go_split_ands
  refine (hWD.out _ (hX.cell 0) (hX.cell 1) (hX.cell 2)).mono ?_
  rintro e W3 ⟨rfl, hb⟩
  replace hv := bl_trans hv hb
  replace hB := hB.below hb
  replace hX := hX.below hb
  replace hown := own_below hown hb
  clear hb
  go_wp2_with fail
  refine hK.out _ _ ?_ (fun hHeld => ?_)
  · (try dsimp only); go_split_ands; exact ⟨hB, hX⟩
  clear hK K
  try simp only [Act.put, List.setIfInBounds_toArray, List.set_cons_zero, List.set_cons_succ]
  refine wpAnyH_ready (rs := [6]) (by kernel_rfl) (by simp) ?_
  refine AllReadyH.cons (o := { dst := some 30, op := _, type := _, pos := _, after := _, guard := _ }) rfl (fun K hK => ?_) AllReadyH.nil
  go_simp
  (try dsimp only at hHeld); go_split_ands
  refine (hST.out _).mono ?_
  rintro e w' ⟨rfl, hq⟩
  rw [hq]
  clear hq w'
  go_wp2_with fail
  refine hK.out _ _ ?_ (fun hHeld => ?_)
  · (try dsimp only); go_split_ands; exact ⟨hB, hX⟩
  clear hK K
  try simp only [Act.put, List.setIfInBounds_toArray, List.set_cons_zero, List.set_cons_succ]
  refine wpAnyH_ready (rs := [7]) (by kernel_rfl) (by simp) ?_
  refine AllReadyH.cons (o := { dst := some 31, op := _, type := _, pos := _, after := _, guard := _ }) rfl (fun K hK => ?_) AllReadyH.nil
  go_simp
  (try dsimp only at hHeld); go_split_ands
  refine (hLN.out _ (hX.cell 0) (hX.cell 1) (hX.cell 2)).mono ?_
  rintro e W4 ⟨rfl, hb⟩
  replace hv := bl_trans hv hb
  replace hB := hB.below hb
  replace hX := hX.below hb
  replace hown := own_below hown hb
  clear hb
  go_wp2_with fail
  refine hK.out _ _ ?_ (fun hHeld => ?_)
  · (try dsimp only); go_split_ands; exact ⟨hB, hX⟩
  clear hK K
  try simp only [Act.put, List.setIfInBounds_toArray, List.set_cons_zero, List.set_cons_succ]
  refine wpAnyH_take (i := 8) (oi := { dst := some 32, op := _, type := _, pos := _, after := _, guard := _ }) (v := ?_) rfl (by kernel_rfl) (by kernel_rfl) (by kernel_rfl) (fun _ _ _ h => h) (Or.inl ⟨by kernel_rfl, ?_⟩) (by assumption) ?_
  rotate_left
  · intro w hSw
    try dsimp only at hSw
    go_simp
    try with_reducible rfl
  try simp only [Act.put, List.setIfInBounds_toArray, List.set_cons_zero, List.set_cons_succ]
  refine wpAnyH_take (i := 9) (oi := { dst := some 8, op := _, type := _, pos := _, after := _, guard := _ }) (v := ?_) rfl (by kernel_rfl) (by kernel_rfl) (by kernel_rfl) (fun _ _ _ h => h) (Or.inl ⟨by kernel_rfl, ?_⟩) (by assumption) ?_
  rotate_left
  · intro w hSw
    try dsimp only at hSw
    go_simp
    try with_reducible rfl
  try simp only [Act.put, List.setIfInBounds_toArray, List.set_cons_zero, List.set_cons_succ]
  refine wpAnyH_done (by kernel_rfl) ?_ _
  clear hHeld hadd
  by_cases hbig : 4000 < (b.size : Int)
  · have HR := Lib.hid (HR0.out.trans (addR_big (s := s) (es := es) (st := st) HX.out (by have h := HD.out; omega) (by rw [HB.out]; omega)))
    go_wp2_with fail
    go_returns
    exact RetT.mk (by rw [HR.out]; rfl) hv
  · have HR := Lib.hid (HR0.out.trans (addR_yes (s := s) (es := es) (st := st) HX.out (by have h := HD.out; omega) (by rw [HB.out]; omega)))
    have hbd : decide (4000 < (b.size : Int)) = false := decide_eq_false hbig
    go_wp2_with fail
    go_returns
    exact RetT.mk (by rw [HR.out, HB.out]; rfl) hv

set_option maxRecDepth 100000 in
set_option maxHeartbeats 4000000 in
theorem FnExactAddEntry_law (s : ByteArray) (hmax : s.size ≤ 9223372036854775807) (x : Entry) (hs : x.what.size ≤ 9223372036854775807) (w : World) (hT : Tabs w) :
    Calls Tryd.prog 7 #[.string s, .agg #[.int .i64 x.day, .string x.what, .int .i64 x.value]] w (Ret (.bool true) w) := by
  have hle := szGo_le x.sizes 1048576 (by omega)
  have HT := Lib.hid hT
  clear hT
  by_cases hbig : 1048576 < (s.size : Int)
  · go_enter Tryd.func7, Tryd.ntmps7
    go_wp2_with fail
    go_returns
    exact Ret.mk rfl (bl_alloc (Below.refl _ _) _)
  have hdb : decide (1048576 < (s.size : Int)) = false := decide_eq_false hbig
  have HS0 := fun (w : World) => SAddEntry_c s (by omega) x hs w
  have HI0 := fun (w : World) (hT : Tabs w) => AddEntry_c s (by omega) x hs w hT
  obtain ⟨V, hV⟩ : ∃ V, V = (addV s x).1 := ⟨_, rfl⟩
  obtain ⟨C, hC⟩ : ∃ C, C = (addV s x).2 := ⟨_, rfl⟩
  rw [← hV, ← hC] at HS0 HI0
  clear hV hC
  have q0 : (!V.toList == V.toList) = false := by simp
  have q1 : (C != C) = false := by simp
  replace HS0 := Lib.hid HS0
  replace HI0 := Lib.hid HI0
  go_enter Tryd.func7, Tryd.ntmps7
  go_wp2_with fail
  obtain ⟨W, hW⟩ : ∃ W, W = w.alloc (Obj.cells #[Value.int IntKind.i64 x.day, Value.string x.what, Value.int IntKind.i64 x.value] 35) := ⟨_, rfl⟩
  obtain ⟨g, hg⟩ : ∃ g, g = w.heap.size := ⟨_, rfl⟩
  have hv : Below w.heap.size w W := by rw [hW]; exact bl_alloc (Below.refl _ _) _
  have hB0 : Blk W g 35 #[Value.int IntKind.i64 x.day, Value.string x.what, Value.int IntKind.i64 x.value] := by rw [hW, hg]; exact Blk.new _ _ _
  rw [← hW]
  try rw [← hg]
  clear hW hg
  refine (szEntry_c x 1048576 hs (by omega) (by omega) _).mono ?_
  rintro e W ⟨rfl, hb⟩
  have z0 := Lib.hid hb.size
  replace hv := bl_trans hv hb
  replace hB0 := hB0.below hb
  clear hb
  have k0 : W.cell? ⟨g, 0, none⟩ = some (.int .i64 x.day) := hB0.cell 0
  have k1 : W.cell? ⟨g, 1, none⟩ = some (.string x.what) := hB0.cell 1
  have k2 : W.cell? ⟨g, 2, none⟩ = some (.int .i64 x.value) := hB0.cell 2
  obtain ⟨q, hq'⟩ : ∃ q, q = szGo x.sizes 1048576 := ⟨_, rfl⟩
  rw [← hq'] at hle ⊢
  clear hq'
  by_cases hq : q < 0
  · go_wp2_with fail
    go_returns
    exact Ret.mk rfl hv
  go_wp2_with fail
  refine (toEntry_c x _).mono ?_
  rintro e W ⟨rfl, hb⟩
  have z1 := Lib.hid hb.size
  replace hv := bl_trans hv hb
  replace hB0 := hB0.below hb
  clear hb
  have k0 : W.cell? ⟨g, 0, none⟩ = some (.int .i64 x.day) := hB0.cell 0
  have k1 : W.cell? ⟨g, 1, none⟩ = some (.string x.what) := hB0.cell 1
  have k2 : W.cell? ⟨g, 2, none⟩ = some (.int .i64 x.value) := hB0.cell 2
  go_wp2_with fail
  refine (HS0.out _).mono ?_
  rintro e W ⟨rfl, hb⟩
  have z2 := Lib.hid hb.size
  replace hv := bl_trans hv hb
  replace hB0 := hB0.below hb
  clear hb
  have k0 : W.cell? ⟨g, 0, none⟩ = some (.int .i64 x.day) := hB0.cell 0
  have k1 : W.cell? ⟨g, 1, none⟩ = some (.string x.what) := hB0.cell 1
  have k2 : W.cell? ⟨g, 2, none⟩ = some (.int .i64 x.value) := hB0.cell 2
  go_wp2_with fail
  refine (toEntry_c x _).mono ?_
  rintro e W ⟨rfl, hb⟩
  have z3 := Lib.hid hb.size
  replace hv := bl_trans hv hb
  replace hB0 := hB0.below hb
  clear hb
  have k0 : W.cell? ⟨g, 0, none⟩ = some (.int .i64 x.day) := hB0.cell 0
  have k1 : W.cell? ⟨g, 1, none⟩ = some (.string x.what) := hB0.cell 1
  have k2 : W.cell? ⟨g, 2, none⟩ = some (.int .i64 x.value) := hB0.cell 2
  go_wp2_with fail
  refine (HI0.out _ (HT.out.below hv)).mono ?_
  rintro e W ⟨rfl, hb⟩
  have z4 := Lib.hid hb.size
  replace hv := bl_trans hv hb
  replace hB0 := hB0.below hb
  clear hb
  have k0 : W.cell? ⟨g, 0, none⟩ = some (.int .i64 x.day) := hB0.cell 0
  have k1 : W.cell? ⟨g, 1, none⟩ = some (.string x.what) := hB0.cell 1
  have k2 : W.cell? ⟨g, 2, none⟩ = some (.int .i64 x.value) := hB0.cell 2
  go_wp2_with fail
  go_returns
  exact Ret.mk rfl hv

end Go.Proofs.YtbfelgfnebeliaaDoor
