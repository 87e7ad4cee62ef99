/- Soles: what the reference's own functions compute. -/
import Derived.Test.YtopbiihiogbhiaaSolP
import Derived.Laws.ResultCell
namespace Go.Proofs.Ytopbiihiogbhiaa
open Go.RowKit

set_option maxRecDepth 100000 in
set_option maxHeartbeats 2000000 in
theorem l17One_c (g : Addr) (x : Stuff) (hs : x.name.size ≤ 9223372036854775807) (w : World) (c0 : w.cell? g = some (.string x.name)) (c1 : w.cell? ⟨g.block, g.off + 1, none⟩ = some (.int .i64 x.thick)) (c2 : w.cell? ⟨g.block, g.off + 2, none⟩ = some (.int .i64 x.gram)) (c3 : w.cell? ⟨g.block, g.off + 3, none⟩ = some (.int .i64 x.stiff)) (c4 : w.cell? ⟨g.block, g.off + 4, none⟩ = some (.int .i64 x.price)) :
    Calls Try.prog 105 #[.pointer (some g)] w (RetQ (.bool (stuffOk x)) w) := by
  cases h1 : nameB x.name
  · go_enter Try.func105, Try.ntmps105
    go_wp2_with (first | (go_at_call 107; refine (SIsName_c _ hs _).mono ?_; rintro e w' ⟨rfl, rfl⟩) | (go_at_call 57; refine (l00In_c _ _ _ _).mono ?_; rintro e w' ⟨rfl, rfl⟩))
    all_goals first | (exfalso; omega) | (go_returns; refine RetQ.mk (vb ?_); simp [stuffOk, h1])
  cases h2 : inB x.thick 1 200
  · go_enter Try.func105, Try.ntmps105
    go_wp2_with (first | (go_at_call 107; refine (SIsName_c _ hs _).mono ?_; rintro e w' ⟨rfl, rfl⟩) | (go_at_call 57; refine (l00In_c _ _ _ _).mono ?_; rintro e w' ⟨rfl, rfl⟩))
    all_goals first | (exfalso; omega) | (go_returns; refine RetQ.mk (vb ?_); simp [stuffOk, h1, h2])
  cases h3 : inB x.gram 1 1000
  · go_enter Try.func105, Try.ntmps105
    go_wp2_with (first | (go_at_call 107; refine (SIsName_c _ hs _).mono ?_; rintro e w' ⟨rfl, rfl⟩) | (go_at_call 57; refine (l00In_c _ _ _ _).mono ?_; rintro e w' ⟨rfl, rfl⟩))
    all_goals first | (exfalso; omega) | (go_returns; refine RetQ.mk (vb ?_); simp [stuffOk, h1, h2, h3])
  cases h4 : inB x.stiff 0 1000
  · go_enter Try.func105, Try.ntmps105
    go_wp2_with (first | (go_at_call 107; refine (SIsName_c _ hs _).mono ?_; rintro e w' ⟨rfl, rfl⟩) | (go_at_call 57; refine (l00In_c _ _ _ _).mono ?_; rintro e w' ⟨rfl, rfl⟩))
    all_goals first | (exfalso; omega) | (go_returns; refine RetQ.mk (vb ?_); simp [stuffOk, h1, h2, h3, h4])
  cases h5 : inB x.price 0 10000
  · go_enter Try.func105, Try.ntmps105
    go_wp2_with (first | (go_at_call 107; refine (SIsName_c _ hs _).mono ?_; rintro e w' ⟨rfl, rfl⟩) | (go_at_call 57; refine (l00In_c _ _ _ _).mono ?_; rintro e w' ⟨rfl, rfl⟩))
    all_goals first | (exfalso; omega) | (go_returns; refine RetQ.mk (vb ?_); simp [stuffOk, h1, h2, h3, h4, h5])
  go_enter Try.func105, Try.ntmps105
  go_wp2_with (first | (go_at_call 107; refine (SIsName_c _ hs _).mono ?_; rintro e w' ⟨rfl, rfl⟩) | (go_at_call 57; refine (l00In_c _ _ _ _).mono ?_; rintro e w' ⟨rfl, rfl⟩))
  all_goals first | (exfalso; omega) | (go_returns; refine RetQ.mk (vb ?_); simp [stuffOk, h1, h2, h3, h4, h5])

theorem dup_step {x y : Stuff} {pre : List Stuff} {j : Nat} (hy : pre[j]? = some y) : dupB x (pre.drop j) = (decide (y.name = x.name) || dupB x (pre.drop (j + 1))) := by
  rw [drop_at hy]; rfl
theorem stuffs_step {xs : List Stuff} {k : Nat} {x : Stuff} (hx : xs[k]? = some x) : stuffsGo xs k (xs.drop k) = (stuffOk x && !dupB x (xs.take k) && stuffsGo xs (k + 1) (xs.drop (k + 1))) := by
  rw [drop_at hx]; rfl
set_option maxRecDepth 100000 in
set_option maxHeartbeats 2000000 in
theorem l17Ok_c (A : Option Addr) (xs : List Stuff) (n c : Nat) (hn : Hid (xs.length = n)) (hm : (n : Int) ≤ 1048576) (hs : Hid (∀ x ∈ xs, x.name.size ≤ 9223372036854775807)) (w : World) (hA : Arr w A (flat Stuff.cells xs)) : Calls Try.prog 73 #[.slice A n c] w (Ret (.bool (stuffsB xs)) w) := by
  go_enter Try.func73, Try.ntmps73
  go_wp2_with fail
  have hR := Lib.hid (show stuffsGo xs 0 xs = stuffsGo xs 0 (xs.drop 0) from rfl)
  go_loopw [3] (fun i wr => ∃ k : Nat, k ≤ n ∧ i = .int .i64 k ∧ Hid (stuffsGo xs 0 xs = stuffsGo xs k (xs.drop k)) ∧ Below w.heap.size w wr) (fun i _ => n - (intOf i).toNat)
  case atStart => exact ⟨0, by omega, rfl, hR, Below.refl _ _⟩
  case round =>
    clear hR
    obtain ⟨k, hk, rfl, hR, hv⟩ := hrel
    by_cases hlt : k < n
    · obtain ⟨x, hx⟩ := get_of_lt (xs := xs) (k := k) (by rw [hn.out]; exact hlt)
      obtain ⟨ad, rfl, hab, c0, c1, c2, c3, c4⟩ := Stuff.at_ (hA.below hv) hx
      have hR2 := Lib.hid (hR.out.trans (stuffs_step hx))
      have hxs := hs.out x (List.mem_of_getElem? hx)
      have HX := Lib.hid hx
      clear hR hx
      go_wp2_with fail
      refine (l17One_c _ x hxs _ c0 c1 c2 c3 c4).mono ?_
      rintro e w' ⟨rfl, rfl⟩
      cases hq : stuffOk x
      · have HQ := Lib.hid hq
        clear hq
        go_wp2_with fail
        go_returns
        refine Ret.mk (vb ?_) hv
        unfold stuffsB
        rw [hR2.out, HQ.out]; rfl
      · have HQ := Lib.hid hq
        clear hq
        go_wp2_with fail
        have hI := Lib.hid (show dupB x (xs.take k) = dupB x ((xs.take k).drop 0) from rfl)
        obtain ⟨wo, rfl⟩ : ∃ wo : World, wo = w' := ⟨_, rfl⟩
        go_loopw [4] (fun i wr => ∃ j : Nat, j ≤ k ∧ i = .int .i64 j ∧ Hid (dupB x (xs.take k) = dupB x ((xs.take k).drop j)) ∧ Below w.heap.size w wr) (fun i _ => k - (intOf i).toNat)
        case atStart => exact ⟨0, by omega, rfl, hI, hv⟩
        case round =>
          clear hI
          obtain ⟨j, hj, rfl, hI, hvj⟩ := hrel
          by_cases hjk : j < k
          · obtain ⟨y, hy⟩ := get_of_lt (xs := xs) (k := j) (by rw [hn.out]; omega)
            obtain ⟨ad', e', hab', d0, _⟩ := Stuff.at_ (hA.below hvj) hy
            injection e' with e'
            subst e'
            obtain ⟨ad', e', hab2, c0', _⟩ := Stuff.at_ (hA.below hvj) HX.out
            injection e' with e'
            subst e'
            have hyt : (xs.take k)[j]? = some y := by rw [List.getElem?_take, if_pos hjk]; exact hy
            have hI2 := Lib.hid (hI.out.trans (dup_step hyt))
            have hj0 : (0 : Int) ≤ (j : Int) := by omega
            have hj1 : (j : Int) < (n : Int) := by omega
            have hk0 : (0 : Int) ≤ (k : Int) := by omega
            have hk1 : (k : Int) < (n : Int) := by omega
            have hbe := Lib.hid (bytes_beq y.name x.name)
            clear hI hy hyt c0 c1 c2 c3 c4
            cases hq : (y.name.toList == x.name.toList)
            · have hI3 := Lib.hid (hI2.out.trans (by rw [← hbe.out, hq]; rfl : _ = dupB x ((xs.take k).drop (j + 1))))
              go_wp2_with fail
              go_quiet (fail)
              go_wp2_with fail
              go_roundw
              case rel => exact ⟨j + 1, by omega, by go_num, hI3, below_drewN hvj _⟩
              case measure => simp [intOf]; omega
            · have hI3 := Lib.hid (hI2.out.trans (by rw [← hbe.out, hq]; rfl : _ = true))
              go_wp2_with fail
              go_quiet (fail)
              go_wp2_with fail
              go_returns
              refine Ret.mk (vb ?_) (below_drewN hvj _)
              unfold stuffsB
              rw [hR2.out, hI3.out]; simp
          · have hI2 := Lib.hid (hI.out.trans (by rw [List.drop_eq_nil_of_le (by simp; omega)]; rfl : _ = false))
            clear hI
            go_wp2_with fail
            go_roundw
            case rel => exact ⟨k + 1, by omega, by go_num, Lib.hid (hR2.out.trans (by rw [HQ.out, hI2.out]; rfl)), hvj⟩
            case measure => simp [intOf]; omega
    · have hR2 := Lib.hid (hR.out.trans (by rw [List.drop_eq_nil_of_le (by rw [hn.out]; omega)]; rfl : _ = true))
      clear hR
      go_wp2_with fail
      go_returns
      refine Ret.mk (vb ?_) hv
      unfold stuffsB
      rw [hR2.out, hn.out, Bool.eq_iff_iff]; simp <;> omega

def inAll (n : Int) (ps : List Int) : Bool := ps.all (fun k => inB k 0 (n - 1))
set_option maxRecDepth 100000 in
set_option maxHeartbeats 1600000 in
theorem l17Sole_c (A : Option Addr) (xs : List Stuff) (n c : Nat) (hn : Hid (xs.length = n)) (hm : (n : Int) ≤ 1048576) (hs : Hid (∀ x ∈ xs, x.name.size ≤ 9223372036854775807)) (g : Nat) (B : Option Addr) (ps : List Int) (m d : Nat) (hp : Hid (ps.length = m)) (hm' : (m : Int) ≤ 1048576) (w : World) (hG : Blk w g 27 #[Value.slice B m d]) (hA : Arr w A (flat Stuff.cells xs)) (hB : Arr w B (flat icell ps)) :
    Calls Try.prog 56 #[.slice A n c, .pointer (some ⟨g, 0, none⟩)] w (Ret (.bool (soleB xs ps)) w) := by
  have k0 : w.cell? ⟨g, 0, none⟩ = some (.slice B m d) := hG.cell 0
  go_enter Try.func56, Try.ntmps56
  go_wp2_with fail
  have hR := Lib.hid (show inAll n ps = inAll n (ps.drop 0) from rfl)
  go_loopw [5] (fun i wr => ∃ j : Nat, j ≤ m ∧ i = .int .i64 j ∧ Hid (inAll n ps = inAll n (ps.drop j)) ∧ Below w.heap.size w wr) (fun i _ => m - (intOf i).toNat)
  case atStart => exact ⟨0, by omega, rfl, hR, Below.refl _ _⟩
  case round =>
    clear hR k0
    obtain ⟨j, hj, rfl, hR, hv⟩ := hrel
    have k0 : wr.cell? ⟨g, 0, none⟩ = some (.slice B m d) := (hG.below hv).cell 0
    by_cases hlt : j < m
    · obtain ⟨k, hk⟩ := get_of_lt (xs := ps) (k := j) (by rw [hp.out]; exact hlt)
      obtain ⟨bd, rfl, hbb, d0⟩ := icell_at (hB.below hv) hk
      have hR2 := Lib.hid (hR.out.trans (by rw [drop_at hk]; rfl : _ = (inB k 0 ((n : Int) - 1) && inAll n (ps.drop (j + 1)))))
      clear hR hk
      have hj0 : (0 : Int) ≤ (j : Int) := by omega
      have hj1 : (j : Int) < (m : Int) := by omega
      cases hq : inB k 0 ((n : Int) - 1)
      · have hR3 := Lib.hid (hR2.out.trans (by rw [hq]; rfl : _ = false))
        have hin := fun w => l00In_c k 0 ((n : Int) - 1) w
        rw [hq] at hin
        replace hin := Lib.hid hin
        clear hq
        go_wp2_with fail
        refine (hin.out _).mono ?_
        rintro e w' ⟨rfl, rfl⟩
        go_wp2_with fail
        go_returns
        refine Ret.mk (vb ?_) hv
        unfold soleB
        rw [hn.out]
        rw [show (ps.all fun k => inB k 0 ((n : Int) - 1)) = false from hR3.out]; simp
      · have hR3 := Lib.hid (hR2.out.trans (by rw [hq]; rfl : _ = inAll n (ps.drop (j + 1))))
        have hin := fun w => l00In_c k 0 ((n : Int) - 1) w
        rw [hq] at hin
        replace hin := Lib.hid hin
        clear hq
        go_wp2_with fail
        refine (hin.out _).mono ?_
        rintro e w' ⟨rfl, rfl⟩
        go_wp2_with fail
        exact ⟨⟨j + 1, by omega, by go_num, hR3, hv⟩, by simp [intOf]; omega⟩
    · have hR2 := Lib.hid (hR.out.trans (by rw [List.drop_eq_nil_of_le (by rw [hp.out]; omega)]; rfl : _ = true))
      clear hR
      go_wp2_with fail
      refine (l17Ok_c A xs n c hn hm hs _ (hA.below hv)).mono ?_
      rintro e W ⟨rfl, hb⟩
      have k1 : W.cell? ⟨g, 0, none⟩ = some (.slice B m d) := bl_cell hb k0
      have hfin : soleB xs ps = (stuffsB xs && (decide (1 ≤ m) && decide (m ≤ 6))) := by
        unfold soleB
        rw [hn.out, hp.out, show (ps.all fun k => inB k 0 ((n : Int) - 1)) = true from hR2.out]; simp
      have HF := Lib.hid hfin
      clear hfin
      cases ho : stuffsB xs
      · have HF2 := Lib.hid (HF.out.trans (by rw [ho]; rfl : _ = false))
        clear ho HF
        go_wp2_with fail
        go_returns
        exact Ret.mk (vb HF2.out.symm) (bl_trans hv hb)
      · have HF2 := Lib.hid (HF.out.trans (by rw [ho, Bool.eq_iff_iff]; simp [inB_iff]; omega : _ = inB (m : Int) 1 6))
        clear ho HF
        go_wp2_with (go_at_call 57; refine (l00In_c _ _ _ _).mono ?_; rintro e w' ⟨rfl, rfl⟩)
        go_returns
        exact Ret.mk (vb HF2.out.symm) (bl_trans hv hb)
end Go.Proofs.Ytopbiihiogbhiaa
