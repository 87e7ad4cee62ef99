/- Soles: valid materials, valid soles, sums: the program's functions. -/
import Derived.Test.YtopbiihiogbhiaaSolA
import Derived.Test.YtopbiihiogbhiaaSolS
namespace Go.Proofs.Ytopbiihiogbhiaa
open Go.RowKit

theorem flat_take {α : Type} {f : α → List Value} {s : Nat} (hf : ∀ x, (f x).length = s) (xs : List α) (k : Nat) : flat f (xs.take k) = (flat f xs).take ((xs.take k).length * s) := by
  have h : flat f xs = flat f (xs.take k) ++ flat f (xs.drop k) := by rw [← flat_append, List.take_append_drop]
  rw [h, List.take_left' (flat_length hf _)]
set_option maxRecDepth 100000 in
set_option maxHeartbeats 2000000 in
theorem ValidStuffs_c (A : Option Addr) (xs : List Stuff) (n c : Nat) (hn : Hid (xs.length = n)) (hm : (n : Int) ≤ 1048576) (hs : Hid (∀ x ∈ xs, x.name.size ≤ 9223372036854775807)) (hnc : (n : Int) ≤ c) (w : World) (hA : Arr w A (flat Stuff.cells xs)) : Calls Try.prog 28 #[.slice A n c] w (Ret (.bool (stuffsB xs)) w) := by
  go_enter Try.func28, Try.ntmps28
  go_wp2_with fail
  have hR := Lib.hid (show stuffsGo xs 0 xs = stuffsGo xs 0 (xs.drop 0) from rfl)
  go_loopw [7] (fun i wr => ∃ k : Nat, k ≤ n ∧ i = .int .i64 k ∧ Hid (stuffsGo xs 0 xs = stuffsGo xs k (xs.drop k)) ∧ Below w.heap.size w wr) (fun i _ => n - (intOf i).toNat)
  case atStart => exact ⟨0, by omega, rfl, hR, Below.refl _ _⟩
  case round =>
    clear hR
    obtain ⟨k, hk, rfl, hR, hv⟩ := hrel
    by_cases hlt : k < n
    · obtain ⟨x, hx⟩ := get_of_lt (xs := xs) (k := k) (by rw [hn.out]; exact hlt)
      obtain ⟨ad, rfl, hab, c0, c1, c2, c3, c4⟩ := Stuff.at_ (hA.below hv) hx
      have hR2 := Lib.hid (hR.out.trans (stuffs_step hx))
      have hxs := hs.out x (List.mem_of_getElem? hx)
      have HX := Lib.hid hx
      clear hR hx
      cases h1 : nameB x.name
      case false =>
        have HQ := Lib.hid (show stuffOk x = false by simp [stuffOk, h1])
        go_wp2_with (first | (go_at_call 70; refine (IsName_c _ hxs _).mono ?_; rintro e w' ⟨rfl, rfl⟩) | (go_at_call 55; refine (within_c _ _ _ _).mono ?_; rintro e w' ⟨rfl, rfl⟩))
        go_returns
        refine Ret.mk (vb ?_) (bl_alloc hv _)
        unfold stuffsB
        rw [hR2.out, HQ.out]; rfl
      cases h2 : inB x.thick 1 200
      case false =>
        have HQ := Lib.hid (show stuffOk x = false by simp [stuffOk, h1, h2])
        go_wp2_with (first | (go_at_call 70; refine (IsName_c _ hxs _).mono ?_; rintro e w' ⟨rfl, rfl⟩) | (go_at_call 55; refine (within_c _ _ _ _).mono ?_; rintro e w' ⟨rfl, rfl⟩))
        go_returns
        refine Ret.mk (vb ?_) (bl_alloc hv _)
        unfold stuffsB
        rw [hR2.out, HQ.out]; rfl
      cases h3 : inB x.gram 1 1000
      case false =>
        have HQ := Lib.hid (show stuffOk x = false by simp [stuffOk, h1, h2, h3])
        go_wp2_with (first | (go_at_call 70; refine (IsName_c _ hxs _).mono ?_; rintro e w' ⟨rfl, rfl⟩) | (go_at_call 55; refine (within_c _ _ _ _).mono ?_; rintro e w' ⟨rfl, rfl⟩))
        go_returns
        refine Ret.mk (vb ?_) (bl_alloc hv _)
        unfold stuffsB
        rw [hR2.out, HQ.out]; rfl
      cases h4 : inB x.stiff 0 1000
      case false =>
        have HQ := Lib.hid (show stuffOk x = false by simp [stuffOk, h1, h2, h3, h4])
        go_wp2_with (first | (go_at_call 70; refine (IsName_c _ hxs _).mono ?_; rintro e w' ⟨rfl, rfl⟩) | (go_at_call 55; refine (within_c _ _ _ _).mono ?_; rintro e w' ⟨rfl, rfl⟩))
        go_returns
        refine Ret.mk (vb ?_) (bl_alloc hv _)
        unfold stuffsB
        rw [hR2.out, HQ.out]; rfl
      cases h5 : inB x.price 0 10000
      case false =>
        have HQ := Lib.hid (show stuffOk x = false by simp [stuffOk, h1, h2, h3, h4, h5])
        go_wp2_with (first | (go_at_call 70; refine (IsName_c _ hxs _).mono ?_; rintro e w' ⟨rfl, rfl⟩) | (go_at_call 55; refine (within_c _ _ _ _).mono ?_; rintro e w' ⟨rfl, rfl⟩))
        go_returns
        refine Ret.mk (vb ?_) (bl_alloc hv _)
        unfold stuffsB
        rw [hR2.out, HQ.out]; rfl
      have HQ := Lib.hid (show stuffOk x = true by simp [stuffOk, h1, h2, h3, h4, h5])
      have hkc : (k : Int) ≤ (c : Int) := by omega
      have hX : Blk (wr.alloc (Obj.cells #[Value.string x.name, Value.int IntKind.i64 x.thick, Value.int IntKind.i64 x.gram, Value.int IntKind.i64 x.stiff, Value.int IntKind.i64 x.price] 46)) wr.heap.size 46 #[Value.string x.name, Value.int IntKind.i64 x.thick, Value.int IntKind.i64 x.gram, Value.int IntKind.i64 x.stiff, Value.int IntKind.i64 x.price] := Blk.new _ _ _
      have HXB := Lib.hid hX
      clear hX
      have HAk := Lib.hid (show Arr wr (some ad) (flat Stuff.cells (xs.take k)) by rw [flat_take Stuff.cells_length]; exact (hA.below hv).take _)
      have HLk := Lib.hid (show (xs.take k).length = k by rw [List.length_take, hn.out]; omega)
      go_wp2_with (first | (go_at_call 70; refine (IsName_c _ hxs _).mono ?_; rintro e w' ⟨rfl, rfl⟩) | (go_at_call 55; refine (within_c _ _ _ _).mono ?_; rintro e w' ⟨rfl, rfl⟩))
      refine (containsStuffs_c (some ad) (xs.take k) k c x wr.heap.size HLk (by omega) _ HXB.out (HAk.out.alloc _)).mono ?_
      rintro e W ⟨rfl, hb⟩
      cases hd : dupB x (xs.take k)
      · have HD := Lib.hid hd
        clear hd
        go_wp2_with fail
        go_roundw
        case rel => exact ⟨k + 1, by omega, by go_num, Lib.hid (hR2.out.trans (by rw [HQ.out, HD.out]; rfl)), bl_trans (bl_alloc hv _) hb⟩
        case measure => simp [intOf]; omega
      · have HD := Lib.hid hd
        clear hd
        go_wp2_with fail
        go_returns
        refine Ret.mk (vb ?_) (bl_trans (bl_alloc hv _) hb)
        unfold stuffsB
        rw [hR2.out, HQ.out, HD.out]; rfl
    · have hR2 := Lib.hid (hR.out.trans (by rw [List.drop_eq_nil_of_le (by rw [hn.out]; omega)]; rfl : _ = true))
      clear hR
      go_wp2_with fail
      go_returns
      refine Ret.mk (vb ?_) hv
      unfold stuffsB
      rw [hR2.out, hn.out, Bool.eq_iff_iff]; simp <;> omega

def rSole (f : Stuff → Int) (xs : List Stuff) (ps : List Int) : Array Value := if soleB xs ps = true then #[.int .i64 (sumR f xs ps), .int .i64 0] else #[.int .i64 0, .int .i64 1]
theorem soleB_form {xs : List Stuff} {ps : List Int} {n m : Nat} (hn : xs.length = n) (hp : ps.length = m) : soleB xs ps = (stuffsB xs && inB (m : Int) 1 6 && inAll n ps) := by
  unfold soleB inAll
  rw [hn, hp]
  congr 2
  rw [Bool.eq_iff_iff]; simp [inB_iff]; omega
set_option maxRecDepth 100000 in
set_option maxHeartbeats 1600000 in
theorem ValidSole_c (A : Option Addr) (xs : List Stuff) (n c : Nat) (hn : Hid (xs.length = n)) (hm : (n : Int) ≤ 1048576) (hs : Hid (∀ x ∈ xs, x.name.size ≤ 9223372036854775807)) (hnc : (n : Int) ≤ c) (B : Option Addr) (ps : List Int) (m d : Nat) (hp : Hid (ps.length = m)) (hm' : (m : Int) ≤ 1048576) (w : World) (hA : Arr w A (flat Stuff.cells xs)) (hB : Arr w B (flat icell ps)) : Calls Try.prog 26 #[.slice A n c, .agg #[.slice B m d]] w (Ret (.bool (soleB xs ps)) w) := by
  have HF := Lib.hid (soleB_form hn.out hp.out)
  go_enter Try.func26, Try.ntmps26
  go_wp2_with fail
  refine (ValidStuffs_c A xs n c hn hm hs hnc _ (hA.alloc _)).mono ?_
  rintro e W ⟨rfl, hb⟩
  have hv : Below w.heap.size w W := bl_trans (bl_alloc (Below.refl _ _) _) hb
  have k0 : W.cell? ⟨w.heap.size, 0, none⟩ = some (.slice B m d) := ((Blk.new w 27 #[Value.slice B m d]).below hb).cell 0
  cases ho : stuffsB xs
  · have HF2 := Lib.hid (HF.out.trans (by rw [ho]; rfl : _ = false))
    clear ho HF
    go_wp2_with fail
    go_returns
    exact Ret.mk (vb HF2.out.symm) hv
  · cases hi : inB (m : Int) 1 6
    · have HF2 := Lib.hid (HF.out.trans (by rw [ho, hi]; rfl : _ = false))
      have hin := fun w => within_c (m : Int) 1 6 w
      rw [hi] at hin
      replace hin := Lib.hid hin
      clear ho hi HF
      go_wp2_with fail
      refine (hin.out _).mono ?_
      rintro e w' ⟨rfl, rfl⟩
      go_wp2_with fail
      go_returns
      exact Ret.mk (vb HF2.out.symm) hv
    · have HF2 := Lib.hid (HF.out.trans (by rw [ho, hi]; rfl : _ = inAll n ps))
      have hin := fun w => within_c (m : Int) 1 6 w
      rw [hi] at hin
      replace hin := Lib.hid hin
      clear ho hi HF
      go_wp2_with fail
      refine (hin.out _).mono ?_
      rintro e w' ⟨rfl, rfl⟩
      go_wp2_with fail
      refine (outside_c B ps m d 0 ((n : Int) - 1) hp (by omega) _ (hB.below hv)).mono ?_
      rintro e W2 ⟨rfl, hb2⟩
      rw [show (ps.all fun k => inB k 0 ((n : Int) - 1)) = soleB xs ps from HF2.out.symm]
      cases hso : soleB xs ps
      · have HS := Lib.hid hso
        clear hso
        go_wp2_with fail
        go_returns
        exact Ret.mk (vb HS.out.symm) (bl_trans hv hb2)
      · have HS := Lib.hid hso
        clear hso
        go_wp2_with fail
        go_returns
        exact Ret.mk (vb HS.out.symm) (bl_trans hv hb2)
set_option maxRecDepth 100000 in
set_option maxHeartbeats 1000000 in
theorem total_thick_c (A : Option Addr) (xs : List Stuff) (n c : Nat) (hn : Hid (xs.length = n)) (_hm : (n : Int) ≤ 1048576) (_hs : Hid (∀ x ∈ xs, x.name.size ≤ 9223372036854775807)) (B : Option Addr) (ps : List Int) (m d : Nat) (hp : Hid (ps.length = m)) (hm' : (m : Int) ≤ 1048576) (hso : Hid (soleB xs ps = true)) (w : World) (hA : Arr w A (flat Stuff.cells xs)) (hB : Arr w B (flat icell ps)) :
    Calls Try.prog 95 #[.agg #[.slice B m d], .slice A n c, .func (.func 62) #[] #[]] w (Ret (.int .i64 (sumR Stuff.thick xs ps)) w) := by
  have h6 : (m : Int) ≤ 6 := by have := (sole_parts hso.out).2.2.1; have := hp.out; omega
  go_enter Try.func95, Try.ntmps95
  go_wp2_with fail
  have hR := Lib.hid (show sumR Stuff.thick xs ps = sumS Stuff.thick xs (ps.drop 0) 0 from rfl)
  have hb0 : Below w.heap.size w (w.alloc (Obj.cells #[Value.slice B m d] 27)) := bl_alloc (Below.refl _ _) _
  go_loopw [7, 13] (fun s i wr => ∃ j : Nat, ∃ a : Int, j ≤ m ∧ i = .int .i64 j ∧ s = .int .i64 a ∧ 0 ≤ a ∧ a ≤ j * 10000 ∧ Hid (sumR Stuff.thick xs ps = sumS Stuff.thick xs (ps.drop j) a) ∧ Below w.heap.size w wr) (fun _ i _ => m - (intOf i).toNat)
  case atStart => exact ⟨0, 0, by omega, rfl, rfl, by omega, by omega, hR, hb0⟩
  case round =>
    clear hR hb0
    obtain ⟨j, a, hj, rfl, rfl, ha0, ha1, hR, hv⟩ := hrel
    by_cases hlt : j < m
    · obtain ⟨k, hkj⟩ := get_of_lt (xs := ps) (k := j) (by rw [hp.out]; exact hlt)
      obtain ⟨bd, rfl, hbb, d0⟩ := icell_at (hB.below hv) hkj
      obtain ⟨hk0, hk1⟩ := (sole_parts hso.out).2.2.2 k (List.mem_of_getElem? hkj)
      obtain ⟨kk, rfl⟩ := Int.eq_ofNat_of_zero_le hk0
      rw [hn.out] at hk1
      obtain ⟨x, hx⟩ := get_of_lt (xs := xs) (k := kk) (by rw [hn.out]; omega)
      obtain ⟨ad, rfl, hab, c0, c1, c2, c3, c4⟩ := Stuff.at_ (hA.below hv) hx
      have few := few_stuff (sole_parts hso.out).1
      obtain ⟨hf0, hf1⟩ := few.1 x (List.mem_of_getElem? hx)
      have hR2 := Lib.hid (hR.out.trans (sumS_step a hkj (by simpa using hx)))
      clear hR hkj hx few
      go_wp2_with fail
      refine (thick_c x _).mono ?_
      rintro e W ⟨rfl, hb⟩
      go_wp2_with fail
      exact ⟨⟨j + 1, _, by omega, by go_num, rfl, by omega, by omega, hR2, bl_trans hv hb⟩, by simp [intOf]; omega⟩
    · have hR2 := Lib.hid (hR.out.trans (by rw [List.drop_eq_nil_of_le (by rw [hp.out]; omega)]; rfl : _ = a))
      clear hR
      go_wp2_with fail
      go_returns
      exact Ret.mk (vi hR2.out.symm) hv
set_option maxHeartbeats 1000000 in
theorem soleTotal_thick_c (A : Option Addr) (xs : List Stuff) (n c : Nat) (hn : Hid (xs.length = n)) (hm : (n : Int) ≤ 1048576) (hs : Hid (∀ x ∈ xs, x.name.size ≤ 9223372036854775807)) (hnc : (n : Int) ≤ c) (B : Option Addr) (ps : List Int) (m d : Nat) (hp : Hid (ps.length = m)) (hm' : (m : Int) ≤ 1048576) (w : World) (hA : Arr w A (flat Stuff.cells xs)) (hB : Arr w B (flat icell ps)) :
    Calls Try.prog 61 #[.slice A n c, .agg #[.slice B m d], .func (.func 62) #[] #[]] w (RetT (rSole Stuff.thick xs ps) w) := by
  go_enter Try.func61, Try.ntmps61
  go_wp2_with fail
  refine (ValidSole_c A xs n c hn hm hs hnc B ps m d hp hm' _ (hA.alloc _) (hB.alloc _)).mono ?_
  rintro e W ⟨rfl, hb⟩
  have hv : Below w.heap.size w W := bl_trans (bl_alloc (Below.refl _ _) _) hb
  have k0 : W.cell? ⟨w.heap.size, 0, none⟩ = some (.slice B m d) := ((Blk.new w 27 #[Value.slice B m d]).below hb).cell 0
  cases hso : soleB xs ps
  · have HS := Lib.hid hso
    clear hso
    go_wp2_with fail
    go_returns
    exact RetT.mk (by rw [rSole, HS.out]; rfl) hv
  · have HS := Lib.hid hso
    clear hso
    go_wp2_with fail
    refine (total_thick_c A xs n c hn hm hs B ps m d hp hm' HS _ (hA.below hv) (hB.below hv)).mono ?_
    rintro e W2 ⟨rfl, hb2⟩
    go_wp2_with fail
    go_returns
    exact RetT.mk (by rw [rSole, HS.out]; rfl) (bl_trans hv hb2)

set_option maxRecDepth 100000 in
set_option maxHeartbeats 1000000 in
theorem total_gram_c (A : Option Addr) (xs : List Stuff) (n c : Nat) (hn : Hid (xs.length = n)) (_hm : (n : Int) ≤ 1048576) (_hs : Hid (∀ x ∈ xs, x.name.size ≤ 9223372036854775807)) (B : Option Addr) (ps : List Int) (m d : Nat) (hp : Hid (ps.length = m)) (hm' : (m : Int) ≤ 1048576) (hso : Hid (soleB xs ps = true)) (w : World) (hA : Arr w A (flat Stuff.cells xs)) (hB : Arr w B (flat icell ps)) :
    Calls Try.prog 95 #[.agg #[.slice B m d], .slice A n c, .func (.func 65) #[] #[]] w (Ret (.int .i64 (sumR Stuff.gram xs ps)) w) := by
  have h6 : (m : Int) ≤ 6 := by have := (sole_parts hso.out).2.2.1; have := hp.out; omega
  go_enter Try.func95, Try.ntmps95
  go_wp2_with fail
  have hR := Lib.hid (show sumR Stuff.gram xs ps = sumS Stuff.gram xs (ps.drop 0) 0 from rfl)
  have hb0 : Below w.heap.size w (w.alloc (Obj.cells #[Value.slice B m d] 27)) := bl_alloc (Below.refl _ _) _
  go_loopw [7, 13] (fun s i wr => ∃ j : Nat, ∃ a : Int, j ≤ m ∧ i = .int .i64 j ∧ s = .int .i64 a ∧ 0 ≤ a ∧ a ≤ j * 10000 ∧ Hid (sumR Stuff.gram xs ps = sumS Stuff.gram xs (ps.drop j) a) ∧ Below w.heap.size w wr) (fun _ i _ => m - (intOf i).toNat)
  case atStart => exact ⟨0, 0, by omega, rfl, rfl, by omega, by omega, hR, hb0⟩
  case round =>
    clear hR hb0
    obtain ⟨j, a, hj, rfl, rfl, ha0, ha1, hR, hv⟩ := hrel
    by_cases hlt : j < m
    · obtain ⟨k, hkj⟩ := get_of_lt (xs := ps) (k := j) (by rw [hp.out]; exact hlt)
      obtain ⟨bd, rfl, hbb, d0⟩ := icell_at (hB.below hv) hkj
      obtain ⟨hk0, hk1⟩ := (sole_parts hso.out).2.2.2 k (List.mem_of_getElem? hkj)
      obtain ⟨kk, rfl⟩ := Int.eq_ofNat_of_zero_le hk0
      rw [hn.out] at hk1
      obtain ⟨x, hx⟩ := get_of_lt (xs := xs) (k := kk) (by rw [hn.out]; omega)
      obtain ⟨ad, rfl, hab, c0, c1, c2, c3, c4⟩ := Stuff.at_ (hA.below hv) hx
      have few := few_stuff (sole_parts hso.out).1
      obtain ⟨hf0, hf1⟩ := few.2.1 x (List.mem_of_getElem? hx)
      have hR2 := Lib.hid (hR.out.trans (sumS_step a hkj (by simpa using hx)))
      clear hR hkj hx few
      go_wp2_with fail
      refine (gram_c x _).mono ?_
      rintro e W ⟨rfl, hb⟩
      go_wp2_with fail
      exact ⟨⟨j + 1, _, by omega, by go_num, rfl, by omega, by omega, hR2, bl_trans hv hb⟩, by simp [intOf]; omega⟩
    · have hR2 := Lib.hid (hR.out.trans (by rw [List.drop_eq_nil_of_le (by rw [hp.out]; omega)]; rfl : _ = a))
      clear hR
      go_wp2_with fail
      go_returns
      exact Ret.mk (vi hR2.out.symm) hv
set_option maxHeartbeats 1000000 in
theorem soleTotal_gram_c (A : Option Addr) (xs : List Stuff) (n c : Nat) (hn : Hid (xs.length = n)) (hm : (n : Int) ≤ 1048576) (hs : Hid (∀ x ∈ xs, x.name.size ≤ 9223372036854775807)) (hnc : (n : Int) ≤ c) (B : Option Addr) (ps : List Int) (m d : Nat) (hp : Hid (ps.length = m)) (hm' : (m : Int) ≤ 1048576) (w : World) (hA : Arr w A (flat Stuff.cells xs)) (hB : Arr w B (flat icell ps)) :
    Calls Try.prog 61 #[.slice A n c, .agg #[.slice B m d], .func (.func 65) #[] #[]] w (RetT (rSole Stuff.gram xs ps) w) := by
  go_enter Try.func61, Try.ntmps61
  go_wp2_with fail
  refine (ValidSole_c A xs n c hn hm hs hnc B ps m d hp hm' _ (hA.alloc _) (hB.alloc _)).mono ?_
  rintro e W ⟨rfl, hb⟩
  have hv : Below w.heap.size w W := bl_trans (bl_alloc (Below.refl _ _) _) hb
  have k0 : W.cell? ⟨w.heap.size, 0, none⟩ = some (.slice B m d) := ((Blk.new w 27 #[Value.slice B m d]).below hb).cell 0
  cases hso : soleB xs ps
  · have HS := Lib.hid hso
    clear hso
    go_wp2_with fail
    go_returns
    exact RetT.mk (by rw [rSole, HS.out]; rfl) hv
  · have HS := Lib.hid hso
    clear hso
    go_wp2_with fail
    refine (total_gram_c A xs n c hn hm hs B ps m d hp hm' HS _ (hA.below hv) (hB.below hv)).mono ?_
    rintro e W2 ⟨rfl, hb2⟩
    go_wp2_with fail
    go_returns
    exact RetT.mk (by rw [rSole, HS.out]; rfl) (bl_trans hv hb2)

set_option maxRecDepth 100000 in
set_option maxHeartbeats 1000000 in
theorem total_stiff_c (A : Option Addr) (xs : List Stuff) (n c : Nat) (hn : Hid (xs.length = n)) (_hm : (n : Int) ≤ 1048576) (_hs : Hid (∀ x ∈ xs, x.name.size ≤ 9223372036854775807)) (B : Option Addr) (ps : List Int) (m d : Nat) (hp : Hid (ps.length = m)) (hm' : (m : Int) ≤ 1048576) (hso : Hid (soleB xs ps = true)) (w : World) (hA : Arr w A (flat Stuff.cells xs)) (hB : Arr w B (flat icell ps)) :
    Calls Try.prog 95 #[.agg #[.slice B m d], .slice A n c, .func (.func 63) #[] #[]] w (Ret (.int .i64 (sumR Stuff.stiff xs ps)) w) := by
  have h6 : (m : Int) ≤ 6 := by have := (sole_parts hso.out).2.2.1; have := hp.out; omega
  go_enter Try.func95, Try.ntmps95
  go_wp2_with fail
  have hR := Lib.hid (show sumR Stuff.stiff xs ps = sumS Stuff.stiff xs (ps.drop 0) 0 from rfl)
  have hb0 : Below w.heap.size w (w.alloc (Obj.cells #[Value.slice B m d] 27)) := bl_alloc (Below.refl _ _) _
  go_loopw [7, 13] (fun s i wr => ∃ j : Nat, ∃ a : Int, j ≤ m ∧ i = .int .i64 j ∧ s = .int .i64 a ∧ 0 ≤ a ∧ a ≤ j * 10000 ∧ Hid (sumR Stuff.stiff xs ps = sumS Stuff.stiff xs (ps.drop j) a) ∧ Below w.heap.size w wr) (fun _ i _ => m - (intOf i).toNat)
  case atStart => exact ⟨0, 0, by omega, rfl, rfl, by omega, by omega, hR, hb0⟩
  case round =>
    clear hR hb0
    obtain ⟨j, a, hj, rfl, rfl, ha0, ha1, hR, hv⟩ := hrel
    by_cases hlt : j < m
    · obtain ⟨k, hkj⟩ := get_of_lt (xs := ps) (k := j) (by rw [hp.out]; exact hlt)
      obtain ⟨bd, rfl, hbb, d0⟩ := icell_at (hB.below hv) hkj
      obtain ⟨hk0, hk1⟩ := (sole_parts hso.out).2.2.2 k (List.mem_of_getElem? hkj)
      obtain ⟨kk, rfl⟩ := Int.eq_ofNat_of_zero_le hk0
      rw [hn.out] at hk1
      obtain ⟨x, hx⟩ := get_of_lt (xs := xs) (k := kk) (by rw [hn.out]; omega)
      obtain ⟨ad, rfl, hab, c0, c1, c2, c3, c4⟩ := Stuff.at_ (hA.below hv) hx
      have few := few_stuff (sole_parts hso.out).1
      obtain ⟨hf0, hf1⟩ := few.2.2.1 x (List.mem_of_getElem? hx)
      have hR2 := Lib.hid (hR.out.trans (sumS_step a hkj (by simpa using hx)))
      clear hR hkj hx few
      go_wp2_with fail
      refine (stiff_c x _).mono ?_
      rintro e W ⟨rfl, hb⟩
      go_wp2_with fail
      exact ⟨⟨j + 1, _, by omega, by go_num, rfl, by omega, by omega, hR2, bl_trans hv hb⟩, by simp [intOf]; omega⟩
    · have hR2 := Lib.hid (hR.out.trans (by rw [List.drop_eq_nil_of_le (by rw [hp.out]; omega)]; rfl : _ = a))
      clear hR
      go_wp2_with fail
      go_returns
      exact Ret.mk (vi hR2.out.symm) hv
set_option maxHeartbeats 1000000 in
theorem soleTotal_stiff_c (A : Option Addr) (xs : List Stuff) (n c : Nat) (hn : Hid (xs.length = n)) (hm : (n : Int) ≤ 1048576) (hs : Hid (∀ x ∈ xs, x.name.size ≤ 9223372036854775807)) (hnc : (n : Int) ≤ c) (B : Option Addr) (ps : List Int) (m d : Nat) (hp : Hid (ps.length = m)) (hm' : (m : Int) ≤ 1048576) (w : World) (hA : Arr w A (flat Stuff.cells xs)) (hB : Arr w B (flat icell ps)) :
    Calls Try.prog 61 #[.slice A n c, .agg #[.slice B m d], .func (.func 63) #[] #[]] w (RetT (rSole Stuff.stiff xs ps) w) := by
  go_enter Try.func61, Try.ntmps61
  go_wp2_with fail
  refine (ValidSole_c A xs n c hn hm hs hnc B ps m d hp hm' _ (hA.alloc _) (hB.alloc _)).mono ?_
  rintro e W ⟨rfl, hb⟩
  have hv : Below w.heap.size w W := bl_trans (bl_alloc (Below.refl _ _) _) hb
  have k0 : W.cell? ⟨w.heap.size, 0, none⟩ = some (.slice B m d) := ((Blk.new w 27 #[Value.slice B m d]).below hb).cell 0
  cases hso : soleB xs ps
  · have HS := Lib.hid hso
    clear hso
    go_wp2_with fail
    go_returns
    exact RetT.mk (by rw [rSole, HS.out]; rfl) hv
  · have HS := Lib.hid hso
    clear hso
    go_wp2_with fail
    refine (total_stiff_c A xs n c hn hm hs B ps m d hp hm' HS _ (hA.below hv) (hB.below hv)).mono ?_
    rintro e W2 ⟨rfl, hb2⟩
    go_wp2_with fail
    go_returns
    exact RetT.mk (by rw [rSole, HS.out]; rfl) (bl_trans hv hb2)

set_option maxRecDepth 100000 in
set_option maxHeartbeats 1000000 in
theorem total_price_c (A : Option Addr) (xs : List Stuff) (n c : Nat) (hn : Hid (xs.length = n)) (_hm : (n : Int) ≤ 1048576) (_hs : Hid (∀ x ∈ xs, x.name.size ≤ 9223372036854775807)) (B : Option Addr) (ps : List Int) (m d : Nat) (hp : Hid (ps.length = m)) (hm' : (m : Int) ≤ 1048576) (hso : Hid (soleB xs ps = true)) (w : World) (hA : Arr w A (flat Stuff.cells xs)) (hB : Arr w B (flat icell ps)) :
    Calls Try.prog 95 #[.agg #[.slice B m d], .slice A n c, .func (.func 64) #[] #[]] w (Ret (.int .i64 (sumR Stuff.price xs ps)) w) := by
  have h6 : (m : Int) ≤ 6 := by have := (sole_parts hso.out).2.2.1; have := hp.out; omega
  go_enter Try.func95, Try.ntmps95
  go_wp2_with fail
  have hR := Lib.hid (show sumR Stuff.price xs ps = sumS Stuff.price xs (ps.drop 0) 0 from rfl)
  have hb0 : Below w.heap.size w (w.alloc (Obj.cells #[Value.slice B m d] 27)) := bl_alloc (Below.refl _ _) _
  go_loopw [7, 13] (fun s i wr => ∃ j : Nat, ∃ a : Int, j ≤ m ∧ i = .int .i64 j ∧ s = .int .i64 a ∧ 0 ≤ a ∧ a ≤ j * 10000 ∧ Hid (sumR Stuff.price xs ps = sumS Stuff.price xs (ps.drop j) a) ∧ Below w.heap.size w wr) (fun _ i _ => m - (intOf i).toNat)
  case atStart => exact ⟨0, 0, by omega, rfl, rfl, by omega, by omega, hR, hb0⟩
  case round =>
    clear hR hb0
    obtain ⟨j, a, hj, rfl, rfl, ha0, ha1, hR, hv⟩ := hrel
    by_cases hlt : j < m
    · obtain ⟨k, hkj⟩ := get_of_lt (xs := ps) (k := j) (by rw [hp.out]; exact hlt)
      obtain ⟨bd, rfl, hbb, d0⟩ := icell_at (hB.below hv) hkj
      obtain ⟨hk0, hk1⟩ := (sole_parts hso.out).2.2.2 k (List.mem_of_getElem? hkj)
      obtain ⟨kk, rfl⟩ := Int.eq_ofNat_of_zero_le hk0
      rw [hn.out] at hk1
      obtain ⟨x, hx⟩ := get_of_lt (xs := xs) (k := kk) (by rw [hn.out]; omega)
      obtain ⟨ad, rfl, hab, c0, c1, c2, c3, c4⟩ := Stuff.at_ (hA.below hv) hx
      have few := few_stuff (sole_parts hso.out).1
      obtain ⟨hf0, hf1⟩ := few.2.2.2 x (List.mem_of_getElem? hx)
      have hR2 := Lib.hid (hR.out.trans (sumS_step a hkj (by simpa using hx)))
      clear hR hkj hx few
      go_wp2_with fail
      refine (price_c x _).mono ?_
      rintro e W ⟨rfl, hb⟩
      go_wp2_with fail
      exact ⟨⟨j + 1, _, by omega, by go_num, rfl, by omega, by omega, hR2, bl_trans hv hb⟩, by simp [intOf]; omega⟩
    · have hR2 := Lib.hid (hR.out.trans (by rw [List.drop_eq_nil_of_le (by rw [hp.out]; omega)]; rfl : _ = a))
      clear hR
      go_wp2_with fail
      go_returns
      exact Ret.mk (vi hR2.out.symm) hv
set_option maxHeartbeats 1000000 in
theorem soleTotal_price_c (A : Option Addr) (xs : List Stuff) (n c : Nat) (hn : Hid (xs.length = n)) (hm : (n : Int) ≤ 1048576) (hs : Hid (∀ x ∈ xs, x.name.size ≤ 9223372036854775807)) (hnc : (n : Int) ≤ c) (B : Option Addr) (ps : List Int) (m d : Nat) (hp : Hid (ps.length = m)) (hm' : (m : Int) ≤ 1048576) (w : World) (hA : Arr w A (flat Stuff.cells xs)) (hB : Arr w B (flat icell ps)) :
    Calls Try.prog 61 #[.slice A n c, .agg #[.slice B m d], .func (.func 64) #[] #[]] w (RetT (rSole Stuff.price xs ps) w) := by
  go_enter Try.func61, Try.ntmps61
  go_wp2_with fail
  refine (ValidSole_c A xs n c hn hm hs hnc B ps m d hp hm' _ (hA.alloc _) (hB.alloc _)).mono ?_
  rintro e W ⟨rfl, hb⟩
  have hv : Below w.heap.size w W := bl_trans (bl_alloc (Below.refl _ _) _) hb
  have k0 : W.cell? ⟨w.heap.size, 0, none⟩ = some (.slice B m d) := ((Blk.new w 27 #[Value.slice B m d]).below hb).cell 0
  cases hso : soleB xs ps
  · have HS := Lib.hid hso
    clear hso
    go_wp2_with fail
    go_returns
    exact RetT.mk (by rw [rSole, HS.out]; rfl) hv
  · have HS := Lib.hid hso
    clear hso
    go_wp2_with fail
    refine (total_price_c A xs n c hn hm hs B ps m d hp hm' HS _ (hA.below hv) (hB.below hv)).mono ?_
    rintro e W2 ⟨rfl, hb2⟩
    go_wp2_with fail
    go_returns
    exact RetT.mk (by rw [rSole, HS.out]; rfl) (bl_trans hv hb2)

end Go.Proofs.Ytopbiihiogbhiaa
