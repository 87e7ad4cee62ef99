/- The library's stable sort on places: merging where one of the two parts is a single place. -/
import Derived.Test.YtggficacnmddiaaSrtB
namespace Go.Proofs.Ytggficacnmddiaa
open Go.RowKit

theorem at_A {P A R : List Int} {a t : Nat} {x : Int} (hP : P.length = a) (h : A[t]? = some x) : (P ++ A ++ R)[a + t]? = some x := by
  subst hP
  have ht := (List.getElem?_eq_some_iff.1 h).1
  rw [List.append_assoc, List.getElem?_append_right (by omega), show P.length + t - P.length = t by omega, List.getElem?_append_left ht]
  exact h
theorem lx_cons_le {key : Int → Int} {x : Int} {l : List Int} (h : Lx key l) (h1 : ∀ y ∈ l, key x ≤ key y) (h2 : ∀ y ∈ l, key x = key y → x < y) : Lx key (x :: l) :=
  List.pairwise_cons.2 ⟨fun y hy => by have := h1 y hy; have := h2 y hy; unfold lexL; omega, h⟩
theorem lx_snoc_le {key : Int → Int} {x : Int} {l : List Int} (h : Lx key l) (h1 : ∀ y ∈ l, key y ≤ key x) (h2 : ∀ y ∈ l, key y = key x → y < x) : Lx key (l ++ [x]) :=
  lx_append.2 ⟨h, lx_one x, fun y hy z hz => by rw [List.mem_singleton.1 hz]; have := h1 y hy; have := h2 y hy; unfold lexL; omega⟩
/-- The parts of a list at a place, with what stands there. -/
theorem parts_at (B : List Int) (s : Nat) (h : s ≤ B.length) : ∃ B1 B2, B = B1 ++ B2 ∧ B1.length = s ∧ (∀ y, 0 < s → B[s - 1]? = some y → B1.getLast? = some y) ∧ (∀ y, B[s]? = some y → B2.head? = some y) ∧ (s = 0 → B1 = []) ∧ (s = B.length → B2 = []) := by
  refine ⟨B.take s, B.drop s, (List.take_append_drop _ _).symm, by simp; omega, fun y h0 hy => ?_, fun y hy => ?_, fun h0 => by subst h0; rfl, fun h1 => by subst h1; simp⟩
  · rw [List.getLast?_eq_getElem?, List.length_take, Nat.min_eq_left h, List.getElem?_take, if_pos (by omega)]; exact hy
  · rw [List.head?_eq_getElem?, List.getElem?_drop]; simpa using hy
theorem merge1_a {key : Int → Int} {x : Int} {B1 B2 : List Int} (hb : Lx key (B1 ++ B2)) (hc : Crs key [x] (B1 ++ B2)) (h1 : B1 = [] ∨ ∃ y, B1.getLast? = some y ∧ key y < key x) (h2 : B2 = [] ∨ ∃ y, B2.head? = some y ∧ key x ≤ key y) :
    Lx key (B1 ++ x :: B2) ∧ (B1 ++ x :: B2).Perm ([x] ++ (B1 ++ B2)) := by
  have h3 := cut_lt (key := key) (a1 := []) (a2 := [x]) (lx_one x) hb (by
    rcases h1 with h | ⟨y, h, h'⟩
    · exact .inl h
    · exact .inr (.inr ⟨x, y, h, rfl, h'⟩))
  have h4 := cut_le (key := key) (a1 := [x]) (a2 := []) (lx_one x) hb (by
    rcases h2 with h | ⟨y, h, h'⟩
    · exact .inr (.inl h)
    · exact .inr (.inr ⟨x, y, rfl, h, h'⟩))
  obtain ⟨k1, k2, k3⟩ := lx_append.1 hb
  refine ⟨lx_append.2 ⟨k1, lx_cons_le k2 (fun y hy => h4 x (by simp) y hy) (fun y hy => hc x (by simp) y (List.mem_append_right _ hy)), fun y hy z hz => ?_⟩, List.perm_middle⟩
  rcases List.mem_cons.1 hz with rfl | hz
  · exact .inl (h3 z (by simp) y hy)
  · exact k3 y hy z hz
theorem merge1_b {key : Int → Int} {y : Int} {A1 A2 : List Int} (ha : Lx key (A1 ++ A2)) (hc : Crs key (A1 ++ A2) [y]) (h1 : A1 = [] ∨ ∃ x, A1.getLast? = some x ∧ key x ≤ key y) (h2 : A2 = [] ∨ ∃ x, A2.head? = some x ∧ key y < key x) :
    Lx key (A1 ++ y :: A2) ∧ (A1 ++ y :: A2).Perm ((A1 ++ A2) ++ [y]) := by
  have h3 := cut_le (key := key) (b1 := []) (b2 := [y]) ha (lx_one y) (by
    rcases h1 with h | ⟨x, h, h'⟩
    · exact .inl h
    · exact .inr (.inr ⟨x, y, h, rfl, h'⟩))
  have h4 := cut_lt (key := key) (b1 := [y]) (b2 := []) ha (lx_one y) (by
    rcases h2 with h | ⟨x, h, h'⟩
    · exact .inr (.inl h)
    · exact .inr (.inr ⟨x, y, rfl, h, h'⟩))
  obtain ⟨k1, k2, k3⟩ := lx_append.1 ha
  refine ⟨lx_append.2 ⟨k1, List.pairwise_cons.2 ⟨fun z hz => .inl (h4 z hz y (by simp)), k2⟩, fun x hx z hz => ?_⟩, ?_⟩
  · rcases List.mem_cons.1 hz with rfl | hz
    · have := h3 x hx z (by simp)
      have := hc x (List.mem_append_left _ hx) z (by simp)
      unfold lexL; omega
    · exact k3 x hx z hz
  · exact List.perm_middle.trans (List.perm_append_singleton y (A1 ++ A2)).symm
set_option maxRecDepth 100000 in
set_option maxHeartbeats 3200000 in
theorem symA_c {gb nn cc g : Nat} {A0 : Option Addr} {xs : List Order} (base n c : Nat) (P B R : List Int) (x : Int) (a m b lb : Nat) (hP : Hid (P.length = a)) (hm : Hid (m = a + 1)) (hB : Hid (B.length = lb)) (hbm : Hid (b = m + lb)) (hlx : Hid (Lx (dueK xs) B)) (hcr : Hid (Crs (dueK xs) [x] B)) (hi : Hid (InR xs (x :: B))) (hb : b ≤ n) (hz : (n : Int) ≤ 1048576) (w : World) (hC : Cx gb A0 xs nn cc g w) (hD : Dat base g n c w (P ++ [x] ++ B ++ R)) :
    Calls Try.prog 51 #[.slice (some ⟨g, 0, none⟩) n c, .int .i64 a, .int .i64 m, .int .i64 b, (.func (.func 38) #[] #[.pointer (some ⟨gb, 0, none⟩)])] w (TurnedS base g n c (fun l => ∃ M, l = P ++ M ++ R ∧ M.Perm ([x] ++ B) ∧ Lx (dueK xs) M) w) := by
  have d1 : (m : Int) - (a : Int) = 1 := by have := hm.out; omega
  have hmb : m ≤ b := by have := hbm.out; omega
  have ham : a < m := by have := hm.out; omega
  go_enter Try.func51, Try.ntmps51
  go_wp2_with fail
  go_loopw [10, 11] (fun iv jv wr => ∃ i j : Nat, iv = .int .i64 i ∧ jv = .int .i64 j ∧ m ≤ i ∧ i ≤ j ∧ j ≤ b ∧ Hid (i = m ∨ ∃ y, B[i - m - 1]? = some y ∧ dueK xs y < dueK xs x) ∧ Hid (j = b ∨ ∃ y, B[j - m]? = some y ∧ dueK xs x ≤ dueK xs y) ∧ Dat base g n c wr (P ++ [x] ++ B ++ R) ∧ w.grownBy wr (some g)) (fun iv jv _ => (intOf jv - intOf iv).toNat)
  case atStart => exact ⟨m, b, rfl, rfl, by omega, by omega, by omega, Lib.hid (.inl rfl), Lib.hid (.inl rfl), hD, World.grownBy.refl _ _⟩
  case round =>
    clear hD
    obtain ⟨i, j, rfl, rfl, hmi, hij, hjb, hI, hJ, hD, hg⟩ := hrel
    have hCq := hC.grown hg
    by_cases hlt : i < j
    · obtain ⟨h, hh⟩ : ∃ h : Nat, ((i : Int) + (j : Int)) / 2 = (h : Int) := ⟨(i + j) / 2, by omega⟩
      have hih : i ≤ h := by omega
      have hhj : h < j := by omega
      obtain ⟨t, ht⟩ : ∃ t, h = m + t := ⟨h - m, by omega⟩
      obtain ⟨y, hy⟩ := get_of_lt (xs := B) (k := t) (by rw [hB.out]; have := hbm.out; omega)
      obtain ⟨c1, f1⟩ := hD.at_ (k := h) (x := y) (by rw [ht]; exact at_A (by have := hP.out; have := hm.out; simp; omega) hy)
      obtain ⟨c2, f2⟩ := hD.at_ (k := a) (x := x) (by rw [List.append_assoc, List.append_assoc, List.cons_append]; exact at_mid _ _ _ hP.out)
      have hmy : y ∈ x :: B := List.mem_cons_of_mem _ (List.mem_of_getElem? hy)
      have hc := fun q => cmp_c y x (x :: B) hi.out hmy (by simp) hCq q
      obtain ⟨r, hr⟩ : ∃ r, r = cmpI (dueK xs y) (dueK xs x) := ⟨_, rfl⟩
      rw [← hr] at hc
      have hcl := Lib.hid (show r < 0 ↔ dueK xs y < dueK xs x by rw [hr]; exact cmpI_lt)
      have HY := Lib.hid hy
      have HT := Lib.hid ht
      have b1 : h < n := by omega
      have b2 : a < n := by omega
      clear hr hy ht hmy
      by_cases hr0 : r < 0
      · go_wp2_with fail
        go_quiet (first | (go_at_call 38; exact Calls.quiet_of (hc _)))
        go_wp2_with fail
        refine ⟨⟨h + 1, j, by go_num, rfl, by omega, by omega, by omega, Lib.hid (.inr ⟨y, ?_, hcl.out.1 hr0⟩), hJ, hD.drewN _, grown_drewN hg _⟩, by simp [intOf]; omega⟩
        have := HT.out
        rw [show h + 1 - m - 1 = t by omega]; exact HY.out
      · have hge : dueK xs x ≤ dueK xs y := by
          have h3 : ¬ dueK xs y < dueK xs x := fun h => hr0 (hcl.out.2 h)
          omega
        have HGE := Lib.hid hge
        clear hge
        go_wp2_with fail
        go_quiet (first | (go_at_call 38; exact Calls.quiet_of (hc _)))
        go_wp2_with fail
        refine ⟨⟨i, h, rfl, by go_num, by omega, by omega, by omega, hI, Lib.hid (.inr ⟨y, ?_, HGE.out⟩), hD.drewN _, grown_drewN hg _⟩, by simp [intOf]; omega⟩
        have := HT.out
        rw [show h - m = t by omega]; exact HY.out
    · obtain rfl : i = j := by omega
      obtain ⟨s, hs⟩ : ∃ s, s = i - m := ⟨_, rfl⟩
      obtain ⟨ie, hie⟩ : ∃ ie, ie = a + s := ⟨_, rfl⟩
      obtain ⟨B1, B2, hB12, hl1, q1, q2, q3, q4⟩ := parts_at B s (by have := hB.out; have := hbm.out; omega)
      have hfin : Lx (dueK xs) (B1 ++ x :: B2) ∧ (B1 ++ x :: B2).Perm ([x] ++ B) := by
        have h1 := hlx.out
        have h2 := hcr.out
        rw [hB12] at h1 h2
        have h5 := merge1_a (key := dueK xs) h1 h2 (by
          rcases hI.out with h | ⟨y, h, h'⟩
          · exact .inl (q3 (by omega))
          · by_cases h0 : 0 < s
            · exact .inr ⟨y, q1 y h0 (by rw [hs]; exact h), h'⟩
            · exact .inl (q3 (by omega))) (by
          rcases hJ.out with h | ⟨y, h, h'⟩
          · exact .inl (q4 (by have := hB.out; have := hbm.out; omega))
          · exact .inr ⟨y, q2 y (by rw [hs]; exact h), h'⟩)
        rw [hB12]
        exact h5
      have HF := Lib.hid hfin
      have hdd : (i : Int) - 1 = (ie : Int) := by have := hm.out; omega
      have hien : ie < n := by have := hm.out; omega
      have haie : a ≤ ie := by omega
      have HIE := Lib.hid (show P.length + B1.length = ie by rw [hP.out, hl1, hie])
      rw [hB12] at hD
      have HB12 := Lib.hid hB12
      clear hfin q1 q2 q3 q4 hI hJ hs hie hl1 hB12 hlt hij
      go_wp2_with fail
      obtain ⟨wo, rfl⟩ : ∃ wo : World, wo = wr := ⟨_, rfl⟩
      go_loopw [13] (fun kv wq => ∃ k : Nat, ∃ U V : List Int, kv = .int .i64 k ∧ a ≤ k ∧ k ≤ ie ∧ Hid (P.length + U.length = k) ∧ Hid (B1 = U ++ V) ∧ Dat base g n c wq (P ++ U ++ x :: (V ++ B2 ++ R)) ∧ w.grownBy wq (some g)) (fun kv _ => ie - (intOf kv).toNat)
      case atStart => exact ⟨a, [], B1, rfl, by omega, by omega, Lib.hid (by rw [hP.out]; rfl), Lib.hid rfl, by simpa using hD, hg⟩
      case round =>
        clear hD hg
        obtain ⟨k, U, V, rfl, hak, hki, hU, hUV, hD, hg⟩ := hrel
        by_cases hlt : k < ie
        · obtain ⟨v, V', hV⟩ : ∃ v V', V = v :: V' := by
            cases V with
            | cons v V' => exact ⟨v, V', rfl⟩
            | nil => exfalso; have h1 := hUV.out; have h2 := HIE.out; have h3 := hU.out; rw [h1] at h2; simp at h2; omega
          subst hV
          have l1 : (P ++ U).length = k := by have := hU.out; simp; omega
          obtain ⟨k1, hk1⟩ : ∃ k1, k1 = k + 1 := ⟨_, rfl⟩
          have e1 : P ++ U ++ x :: (v :: V' ++ B2 ++ R) = (P ++ U) ++ x :: ([] ++ v :: (V' ++ B2 ++ R)) := by simp
          rw [e1] at hD
          have hSW := Lib.hid (swapped (x := x) (y := v) (Q := []) (R := V' ++ B2 ++ R) l1 (j := k1) (by rw [l1]; simp; omega))
          obtain ⟨c1, f1⟩ := hD.at_ (at_mid _ _ _ l1)
          obtain ⟨c2, f2⟩ := hD.at_ (k := k1) (x := v) (by rw [show (P ++ U) ++ x :: ([] ++ v :: (V' ++ B2 ++ R)) = (P ++ U ++ [x]) ++ v :: (V' ++ B2 ++ R) by simp]; exact at_mid _ _ _ (by have := l1; simp at this ⊢; omega))
          have ek : (k : Int) + 1 = (k1 : Int) := by omega
          have b1 : k1 < n := by omega
          have b2 : k < n := by omega
          have b3 : k1 ≤ ie := by omega
          have b4 : a ≤ k1 := by omega
          have K1 := Lib.hid hk1
          have HD := Lib.hid hD
          clear l1 e1 hD hk1
          go_wp2_with fail
          go_region
          go_wp2_with fail
          refine ⟨⟨k1, U ++ [v], V', rfl, by omega, by omega, Lib.hid (by have := hU.out; have := K1.out; simp; omega), Lib.hid (by rw [hUV.out]; simp), ?_, ?_⟩, by have := K1.out; simp [intOf]; omega⟩
          · have h3 := ((HD.out.set_ k v).set_ k1 x).below (Below.refl _ _).drew
            rw [hSW.out] at h3
            simpa using h3
          · exact grown_below (grown_setCell (grown_setCell hg (.inl rfl) _) (.inl rfl) _) (Below.refl _ _).drew
        · have hV : V = [] := by
            have h1 := hUV.out; have h2 := HIE.out; have h3 := hU.out
            rw [h1] at h2; simp at h2
            exact List.eq_nil_of_length_eq_zero (by omega)
          subst hV
          go_wp2_with fail
          go_end0
          refine ⟨_, ⟨B1 ++ x :: B2, rfl, HF.out.2, HF.out.1⟩, rfl, ?_, hg⟩
          rw [hUV.out]
          simpa using hD
end Go.Proofs.Ytggficacnmddiaa
