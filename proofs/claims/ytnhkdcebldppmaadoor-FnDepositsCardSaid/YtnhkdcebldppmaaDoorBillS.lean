/- Bills: what the reference's own functions compute. -/
import Derived.Test.YtnhkdcebldppmaaDoorBillA
namespace Go.Proofs.YtnhkdcebldppmaaDoor
open Go.RowKit

theorem l26Percent_c (n : Int) (w : World) : Calls Tryd.prog 46 #[.int .i64 n] w (RetQ (.bool (inB n 0 100)) w) := by
  go_enter Tryd.func46, Tryd.ntmps46
  go_wp2_with (go_at_call 47; refine (l00In_c _ _ _ _).mono ?_; rintro e w' ⟨rfl, rfl⟩)
  go_returns
  exact RetQ.mk rfl
theorem l26Money_c (n : Int) (w : World) : Calls Tryd.prog 51 #[.int .i64 n] w (RetQ (.bool (inB n 0 100000000000)) w) := by
  go_enter Tryd.func51, Tryd.ntmps51
  go_wp2_with (go_at_call 47; refine (l00In_c _ _ _ _).mono ?_; rintro e w' ⟨rfl, rfl⟩)
  go_returns
  exact RetQ.mk rfl

set_option maxHeartbeats 400000 in
theorem l02Round_c (n : Int) (h0 : 0 ≤ n) (h1 : n ≤ 2000000000000) (w : World) : Calls Tryd.prog 80 #[.int .i64 n, .int .i64 100] w (RetQ (.int .i64 (rnd n 100)) w) := by
  go_enter Tryd.func80, Tryd.ntmps80
  go_wp2
  all_goals
    go_returns
    refine RetQ.mk (vi ?_)
    unfold rnd
    omega

set_option maxRecDepth 100000 in
set_option maxHeartbeats 1000000 in
theorem l26Sum_c (g : Nat) (A : Option Addr) (xs : List Item) (n c : Nat) (o t p : Int) (hn : Hid (xs.length = n)) (S : Int) (hx : Hid (fewOk xs)) (hS : Hid (S = sumGo xs 0)) (w : World) (hB : Blk w g 26 #[Value.slice A n c, Value.int IntKind.i64 o, Value.int IntKind.i64 t, Value.int IntKind.i64 p]) (hA : Arr w A (flat Item.cells xs)) :
    Calls Tryd.prog 79 #[.pointer (some ⟨g, 0, none⟩)] w (Ret (.int .i64 S) w) := by
  go_enter Tryd.func79, Tryd.ntmps79
  go_wp2_with fail
  have hR := Lib.hid (show sumGo xs 0 = sumGo (xs.drop 0) 0 from rfl)
  have hn20 : n ≤ 20 := by rw [← hn.out]; exact hx.out.1
  go_loopw [3, 4] (fun s i wr => ∃ k : Nat, ∃ a : Int, k ≤ n ∧ i = .int .i64 k ∧ s = .int .i64 a ∧ 0 ≤ a ∧ a ≤ k * 1000000000 ∧ Hid (sumGo xs 0 = sumGo (xs.drop k) a) ∧ Below w.heap.size w wr) (fun _ i _ => n - (intOf i).toNat)
  case atStart => exact ⟨0, 0, by omega, rfl, rfl, by omega, by omega, hR, Below.refl _ _⟩
  case round =>
    clear hR
    obtain ⟨k, a, hk, rfl, rfl, ha0, ha1, hR, hbel⟩ := hrel
    have k0 : wr.cell? ⟨g, 0, none⟩ = some (.slice A n c) := (hB.below hbel).cell 0
    by_cases hlt : k < n
    · obtain ⟨x, hx'⟩ := get_of_lt (xs := xs) (k := k) (by rw [hn.out]; exact hlt)
      obtain ⟨ad, rfl, hab, c0, c1, c2⟩ := Item.at_ (hA.below hbel) hx'
      have hR2 := Lib.hid (hR.out.trans (by rw [drop_at hx']; rfl : _ = sumGo (xs.drop (k + 1)) (a + x.many * x.cents)))
      obtain ⟨hp0, hp1⟩ := prod_bd (hx.out.2 x (List.mem_of_getElem? hx'))
      clear hR hx'
      have i0 : (0 : Int) ≤ (k : Int) := by omega
      have i1 : (k : Int) < (n : Int) := by omega
      have hw1 := Lib.hid (IntWalk.i64_in (x.many * x.cents) (by omega))
      have hw2 := Lib.hid (IntWalk.i64_in (a + x.many * x.cents) (by omega))
      go_wp2_with fail
      have hv1 := hw1.out
      have hv2 := hw2.out
      go_quiet (fail)
      clear hv1 hv2
      go_wp2_with fail
      exact ⟨⟨k + 1, _, by omega, by go_num, rfl, by omega, by omega, hR2, below_drewN hbel _⟩, by simp [intOf]; omega⟩
    · have hR2 := Lib.hid (hR.out.trans (by rw [List.drop_eq_nil_of_le (by rw [hn.out]; omega)]; rfl : _ = a))
      clear hR
      go_wp2_with fail
      go_returns
      exact Ret.mk (vi (hS.out.trans hR2.out).symm) hbel

set_option maxRecDepth 100000 in
set_option maxHeartbeats 1000000 in
theorem l26Total_c (g : Nat) (A : Option Addr) (xs : List Item) (n c : Nat) (o t p : Int) (hn : Hid (xs.length = n)) (S : Int) (hx : Hid (fewOk xs)) (hS : Hid (S = sumGo xs 0)) (ho0 : 0 ≤ o) (ho1 : o ≤ 100) (ht0 : 0 ≤ t) (ht1 : t ≤ 100) (w : World) (hB : Blk w g 26 #[Value.slice A n c, Value.int IntKind.i64 o, Value.int IntKind.i64 t, Value.int IntKind.i64 p]) (hA : Arr w A (flat Item.cells xs)) :
    Calls Tryd.prog 48 #[.pointer (some ⟨g, 0, none⟩)] w (RetT #[.int .i64 (totOf S o t), .int .i64 (taxOf S o t)] w) := by
  obtain ⟨hs0, hs1⟩ := sum_bd hx.out
  rw [← hS.out] at hs0 hs1
  obtain ⟨hm0, hm1⟩ := mul_bd hs0 hs1 ho0 ho1
  obtain ⟨hnb0, hnb1⟩ := net_bd hs0 ho0 ho1
  obtain ⟨htb0, htb1⟩ := mul_bd hnb0 (Int.le_trans hnb1 hs1) ht0 ht1
  obtain ⟨hxb0, hxb1⟩ := tax_bd hs0 ho0 ho1 ht0 ht1
  have hm2 : S * o ≤ 2000000000000 := by omega
  have htb2 : netOf S o * t ≤ 2000000000000 := by omega
  have hr := Lib.hid (show 0 ≤ S - rnd (S * o) 100 ∧ S - rnd (S * o) 100 ≤ S from ⟨hnb0, hnb1⟩)
  go_enter Tryd.func48, Tryd.ntmps48
  go_wp2_with fail
  refine (l26Sum_c g A xs n c o t p hn S hx hS w hB hA).mono ?_
  rintro e w1 ⟨rfl, hb1⟩
  have k1 : w1.cell? ⟨g, 1, none⟩ = some (.int .i64 o) := (hB.below hb1).cell 1
  have k2 : w1.cell? ⟨g, 2, none⟩ = some (.int .i64 t) := (hB.below hb1).cell 2
  have hr1 := hr.out.1
  have hr2 := hr.out.2
  have hr3 := Lib.hid (show 0 ≤ (S - rnd (S * o) 100) * t ∧ (S - rnd (S * o) 100) * t ≤ 2000000000000 from ⟨htb0, htb2⟩)
  go_wp2_with fail
  refine (l02Round_c _ hm0 hm2 _).mono ?_
  rintro e w' ⟨rfl, rfl⟩
  have hr4 := hr3.out.1
  have hr5 := hr3.out.2
  go_wp2_with fail
  refine (l02Round_c _ hr4 hr5 _).mono ?_
  rintro e w' ⟨rfl, rfl⟩
  rw [show rnd ((S - rnd (S * o) 100) * t) 100 = taxOf S o t from rfl]
  go_wp2_with fail
  go_returns
  exact ⟨rfl, hb1⟩

set_option maxRecDepth 100000 in
set_option maxHeartbeats 1000000 in
theorem l26Left_c (g : Nat) (A : Option Addr) (xs : List Item) (n c : Nat) (o t p : Int) (hn : Hid (xs.length = n)) (S : Int) (hx : Hid (fewOk xs)) (hS : Hid (S = sumGo xs 0)) (ho0 : 0 ≤ o) (ho1 : o ≤ 100) (ht0 : 0 ≤ t) (ht1 : t ≤ 100) (hp0 : 0 ≤ p) (hp1 : p ≤ totOf S o t) (w : World) (hB : Blk w g 26 #[Value.slice A n c, Value.int IntKind.i64 o, Value.int IntKind.i64 t, Value.int IntKind.i64 p]) (hA : Arr w A (flat Item.cells xs)) :
    Calls Tryd.prog 58 #[.pointer (some ⟨g, 0, none⟩)] w (Ret (.int .i64 (totOf S o t - p)) w) := by
  obtain ⟨hs0, hs1⟩ := sum_bd hx.out
  rw [← hS.out] at hs0 hs1
  obtain ⟨hnb0, hnb1⟩ := net_bd hs0 ho0 ho1
  obtain ⟨hxb0, hxb1⟩ := tax_bd hs0 ho0 ho1 ht0 ht1
  have hT0 : 0 ≤ totOf S o t := by unfold totOf; omega
  have hT1 : totOf S o t ≤ 40000000000 := by unfold totOf; omega
  go_enter Tryd.func58, Tryd.ntmps58
  go_wp2_with fail
  refine (l26Total_c g A xs n c o t p hn S hx hS ho0 ho1 ht0 ht1 w hB hA).mono ?_
  rintro e w1 ⟨rfl, hb1⟩
  have k3 : w1.cell? ⟨g, 3, none⟩ = some (.int .i64 p) := (hB.below hb1).cell 3
  go_wp2_with fail
  go_returns
  exact Ret.mk rfl hb1

set_option maxRecDepth 100000 in
set_option maxHeartbeats 1600000 in
theorem l26Ok_c (g : Nat) (A : Option Addr) (xs : List Item) (n c : Nat) (o t p : Int) (hn : Hid (xs.length = n)) (hm : (n : Int) ≤ 1048576) (hs : Hid (∀ x ∈ xs, x.name.size ≤ 9223372036854775807)) (w : World) (hB : Blk w g 26 #[Value.slice A n c, Value.int IntKind.i64 o, Value.int IntKind.i64 t, Value.int IntKind.i64 p]) (hA : Arr w A (flat Item.cells xs)) :
    Calls Tryd.prog 45 #[.pointer (some ⟨g, 0, none⟩)] w (Ret (.bool (billB xs o t p)) w) := by
  have k0 : w.cell? ⟨g, 0, none⟩ = some (.slice A n c) := hB.cell 0
  have k1 : w.cell? ⟨g, 1, none⟩ = some (.int .i64 o) := hB.cell 1
  have k2 : w.cell? ⟨g, 2, none⟩ = some (.int .i64 t) := hB.cell 2
  have k3 : w.cell? ⟨g, 3, none⟩ = some (.int .i64 p) := hB.cell 3
  go_enter Tryd.func45, Tryd.ntmps45
  go_wp2_with fail
  have hR := Lib.hid (show xs.all itemOk = (xs.drop 0).all itemOk from rfl)
  go_loop [3] (fun i => ∃ k : Nat, k ≤ n ∧ i = .int .i64 k ∧ Hid (xs.all itemOk = (xs.drop k).all itemOk)) (fun i => n - (intOf i).toNat)
  case atStart => exact ⟨0, by omega, rfl, hR⟩
  case round =>
    clear hR
    obtain ⟨k, hk, rfl, hR⟩ := hrel
    by_cases hlt : k < n
    · obtain ⟨x, hx'⟩ := get_of_lt (xs := xs) (k := k) (by rw [hn.out]; exact hlt)
      obtain ⟨ad, rfl, hab, c0, c1, c2⟩ := Item.at_ hA hx'
      have hR2 := Lib.hid (hR.out.trans (by rw [drop_at hx', List.all_cons] : _ = (itemOk x && (xs.drop (k + 1)).all itemOk)))
      have hxs := hs.out x (List.mem_of_getElem? hx')
      clear hR hx'
      have no : itemOk x = false → billB xs o t p = false := fun h => by simp only [billB, hR2.out, h]; simp
      have NO := Lib.hid no
      clear no
      cases h1 : nameB x.name
      · go_wp2_with (first | (go_at_call 78; refine (SIsName_c _ hxs _).mono ?_; rintro e w' ⟨rfl, rfl⟩) | (go_at_call 47; refine (l00In_c _ _ _ _).mono ?_; rintro e w' ⟨rfl, rfl⟩) | (go_at_call 46; refine (l26Percent_c _ _).mono ?_; rintro e w' ⟨rfl, rfl⟩))
        go_returns
        exact Ret.mk (vb (NO.out (by simp [itemOk, h1])).symm) (Below.refl _ _)
      cases h2 : inB x.many 1 1000
      · go_wp2_with (first | (go_at_call 78; refine (SIsName_c _ hxs _).mono ?_; rintro e w' ⟨rfl, rfl⟩) | (go_at_call 47; refine (l00In_c _ _ _ _).mono ?_; rintro e w' ⟨rfl, rfl⟩) | (go_at_call 46; refine (l26Percent_c _ _).mono ?_; rintro e w' ⟨rfl, rfl⟩))
        go_returns
        exact Ret.mk (vb (NO.out (by simp [itemOk, h2])).symm) (Below.refl _ _)
      cases h3 : inB x.cents 0 1000000
      · go_wp2_with (first | (go_at_call 78; refine (SIsName_c _ hxs _).mono ?_; rintro e w' ⟨rfl, rfl⟩) | (go_at_call 47; refine (l00In_c _ _ _ _).mono ?_; rintro e w' ⟨rfl, rfl⟩) | (go_at_call 46; refine (l26Percent_c _ _).mono ?_; rintro e w' ⟨rfl, rfl⟩))
        go_returns
        exact Ret.mk (vb (NO.out (by simp [itemOk, h3])).symm) (Below.refl _ _)
      go_wp2_with (first | (go_at_call 78; refine (SIsName_c _ hxs _).mono ?_; rintro e w' ⟨rfl, rfl⟩) | (go_at_call 47; refine (l00In_c _ _ _ _).mono ?_; rintro e w' ⟨rfl, rfl⟩) | (go_at_call 46; refine (l26Percent_c _ _).mono ?_; rintro e w' ⟨rfl, rfl⟩))
      exact ⟨⟨k + 1, by omega, by go_num, Lib.hid (hR2.out.trans (by simp [itemOk, h1, h2, h3]))⟩, by simp [intOf]; omega⟩
    · have ha := hR.out.trans (by rw [List.drop_eq_nil_of_le (by rw [hn.out]; omega)]; rfl : _ = true)
      have HA := Lib.hid ha
      clear ha hR
      by_cases hl : n ≤ 20
      case neg =>
        have hd : decide (20 < (n : Int)) = true := decide_eq_true (by omega)
        have HF := Lib.hid (show billB xs o t p = false by simp only [billB, hn.out]; rw [decide_eq_false hl]; rfl)
        go_wp2_with fail
        go_returns
        exact Ret.mk (vb HF.out.symm) (Below.refl _ _)
      have hd : decide (20 < (n : Int)) = false := decide_eq_false (by omega)
      cases ho : inB o 0 100
      case false =>
        have HF := Lib.hid (show billB xs o t p = false by simp only [billB, ho]; simp)
        go_wp2_with (first | (go_at_call 78; refine (SIsName_c _ hxs _).mono ?_; rintro e w' ⟨rfl, rfl⟩) | (go_at_call 47; refine (l00In_c _ _ _ _).mono ?_; rintro e w' ⟨rfl, rfl⟩) | (go_at_call 46; refine (l26Percent_c _ _).mono ?_; rintro e w' ⟨rfl, rfl⟩))
        go_returns
        exact Ret.mk (vb HF.out.symm) (Below.refl _ _)
      cases ht : inB t 0 100
      case false =>
        have HF := Lib.hid (show billB xs o t p = false by simp only [billB, ht]; simp)
        go_wp2_with (first | (go_at_call 78; refine (SIsName_c _ hxs _).mono ?_; rintro e w' ⟨rfl, rfl⟩) | (go_at_call 47; refine (l00In_c _ _ _ _).mono ?_; rintro e w' ⟨rfl, rfl⟩) | (go_at_call 46; refine (l26Percent_c _ _).mono ?_; rintro e w' ⟨rfl, rfl⟩))
        go_returns
        exact Ret.mk (vb HF.out.symm) (Below.refl _ _)
      have ho' := inB_iff.1 ho
      have ht' := inB_iff.1 ht
      have hf : billB xs o t p = inB p 0 (totOf (sumGo xs 0) o t) := by simp only [billB, HA.out, ho, ht, hn.out]; rw [decide_eq_true hl]; simp
      have hx := Lib.hid (few_of_all (by rw [hn.out]; exact hl) HA.out)
      have HF := Lib.hid hf
      clear hf
      go_wp2_with (first | (go_at_call 78; refine (SIsName_c _ hxs _).mono ?_; rintro e w' ⟨rfl, rfl⟩) | (go_at_call 47; refine (l00In_c _ _ _ _).mono ?_; rintro e w' ⟨rfl, rfl⟩) | (go_at_call 46; refine (l26Percent_c _ _).mono ?_; rintro e w' ⟨rfl, rfl⟩))
      refine (l26Total_c g A xs n c o t p hn _ hx (Lib.hid rfl) ho'.1 ho'.2 ht'.1 ht'.2 _ hB hA).mono ?_
      rintro e w2 ⟨rfl, hb2⟩
      replace k3 := bl_cell hb2 k3
      generalize totOf (sumGo xs 0) o t = TT at HF ⊢
      generalize taxOf (sumGo xs 0) o t = TX at HF ⊢
      go_wp2_with (first | (go_at_call 78; refine (SIsName_c _ hxs _).mono ?_; rintro e w' ⟨rfl, rfl⟩) | (go_at_call 47; refine (l00In_c _ _ _ _).mono ?_; rintro e w' ⟨rfl, rfl⟩) | (go_at_call 46; refine (l26Percent_c _ _).mono ?_; rintro e w' ⟨rfl, rfl⟩))
      go_returns
      exact Ret.mk (vb HF.out.symm) hb2
end Go.Proofs.YtnhkdcebldppmaaDoor
