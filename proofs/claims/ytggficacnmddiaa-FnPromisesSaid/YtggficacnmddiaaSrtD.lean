/- The library's stable sort on places: merging where the right part is a single place. -/
import Derived.Test.YtggficacnmddiaaSrtC
namespace Go.Proofs.Ytggficacnmddiaa
open Go.RowKit

set_option maxRecDepth 100000 in
set_option maxHeartbeats 3200000 in
theorem symB_c {gb nn cc g : Nat} {A0 : Option Addr} {xs : List Order} (base n c : Nat) (P A R : List Int) (y : Int) (a m b la : Nat) (hP : Hid (P.length = a)) (hA : Hid (A.length = la)) (hla : 2 ≤ la) (hm : Hid (m = a + la)) (hbm : Hid (b = m + 1)) (hlx : Hid (Lx (dueK xs) A)) (hcr : Hid (Crs (dueK xs) A [y])) (hi : Hid (InR xs (y :: A))) (hb : b ≤ n) (hz : (n : Int) ≤ 1048576) (w : World) (hC : Cx gb A0 xs nn cc g w) (hD : Dat base g n c w (P ++ A ++ [y] ++ R)) :
    Calls Try.prog 51 #[.slice (some ⟨g, 0, none⟩) n c, .int .i64 a, .int .i64 m, .int .i64 b, (.func (.func 38) #[] #[.pointer (some ⟨gb, 0, none⟩)])] w (TurnedS base g n c (fun l => ∃ M, l = P ++ M ++ R ∧ M.Perm (A ++ [y]) ∧ Lx (dueK xs) M) w) := by
  have d1 : (m : Int) - (a : Int) = (la : Int) := by have := hm.out; omega
  have d2 : (b : Int) - (m : Int) = 1 := by have := hbm.out; omega
  have d3 : ((la : Int) == 1) = false := by simp; omega
  have hmb : m < b := by have := hbm.out; omega
  have ham : a ≤ m := by have := hm.out; omega
  go_enter Try.func51, Try.ntmps51
  go_wp2_with fail
  go_loopw [14, 15] (fun iv jv wr => ∃ i j : Nat, iv = .int .i64 i ∧ jv = .int .i64 j ∧ a ≤ i ∧ i ≤ j ∧ j ≤ m ∧ Hid (i = a ∨ ∃ x, A[i - a - 1]? = some x ∧ dueK xs x ≤ dueK xs y) ∧ Hid (j = m ∨ ∃ x, A[j - a]? = some x ∧ dueK xs y < dueK xs x) ∧ Dat base g n c wr (P ++ A ++ [y] ++ R) ∧ w.grownBy wr (some g)) (fun iv jv _ => (intOf jv - intOf iv).toNat)
  case atStart => exact ⟨a, m, rfl, rfl, by omega, by omega, by omega, Lib.hid (.inl rfl), Lib.hid (.inl rfl), hD, World.grownBy.refl _ _⟩
  case round =>
    clear hD
    obtain ⟨i, j, rfl, rfl, hmi, hij, hjb, hI, hJ, hD, hg⟩ := hrel
    have hCq := hC.grown hg
    by_cases hlt : i < j
    · obtain ⟨h, hh⟩ : ∃ h : Nat, ((i : Int) + (j : Int)) / 2 = (h : Int) := ⟨(i + j) / 2, by omega⟩
      have hih : i ≤ h := by omega
      have hhj : h < j := by omega
      obtain ⟨t, ht⟩ : ∃ t, h = a + t := ⟨h - a, by omega⟩
      obtain ⟨x, hx⟩ := get_of_lt (xs := A) (k := t) (by rw [hA.out]; have := hm.out; omega)
      obtain ⟨c1, f1⟩ := hD.at_ (k := h) (x := x) (by rw [ht, List.append_assoc (P ++ A)]; exact at_A hP.out hx)
      obtain ⟨c2, f2⟩ := hD.at_ (k := m) (x := y) (by rw [List.append_assoc, List.cons_append]; exact at_mid _ _ _ (by have := hP.out; have := hA.out; have := hm.out; simp; omega))
      have hmx : x ∈ y :: A := List.mem_cons_of_mem _ (List.mem_of_getElem? hx)
      have hc := fun q => cmp_c y x (y :: A) hi.out (by simp) hmx hCq q
      obtain ⟨r, hr⟩ : ∃ r, r = cmpI (dueK xs y) (dueK xs x) := ⟨_, rfl⟩
      rw [← hr] at hc
      have hcl := Lib.hid (show r < 0 ↔ dueK xs y < dueK xs x by rw [hr]; exact cmpI_lt)
      have HX := Lib.hid hx
      have HT := Lib.hid ht
      have b1 : h < n := by omega
      have b2 : m < n := by omega
      clear hr hx ht hmx
      by_cases hr0 : r < 0
      · have HLT := Lib.hid (hcl.out.1 hr0)
        have hnb : (!decide (r < 0)) = false := by simp; omega
        go_wp2_with fail
        go_quiet (first | (go_at_call 38; exact Calls.quiet_of (hc _)))
        go_wp2_with fail
        refine ⟨⟨i, h, rfl, by go_num, by omega, by omega, by omega, hI, Lib.hid (.inr ⟨x, ?_, HLT.out⟩), hD.drewN _, grown_drewN hg _⟩, by simp [intOf]; omega⟩
        have := HT.out
        rw [show h - a = t by omega]; exact HX.out
      · have hge : dueK xs x ≤ dueK xs y := by
          have h3 : ¬ dueK xs y < dueK xs x := fun h => hr0 (hcl.out.2 h)
          omega
        have HGE := Lib.hid hge
        have hnb : (!decide (r < 0)) = true := by simp; omega
        clear hge
        go_wp2_with fail
        go_quiet (first | (go_at_call 38; exact Calls.quiet_of (hc _)))
        go_wp2_with fail
        refine ⟨⟨h + 1, j, by go_num, rfl, by omega, by omega, by omega, Lib.hid (.inr ⟨x, ?_, HGE.out⟩), hJ, hD.drewN _, grown_drewN hg _⟩, by simp [intOf]; omega⟩
        have := HT.out
        rw [show h + 1 - a - 1 = t by omega]; exact HX.out
    · obtain rfl : i = j := by omega
      obtain ⟨s, hs⟩ : ∃ s, s = i - a := ⟨_, rfl⟩
      obtain ⟨A1, A2, hA12, hl1, q1, q2, q3, q4⟩ := parts_at A s (by have := hA.out; have := hm.out; omega)
      have hfin : Lx (dueK xs) (A1 ++ y :: A2) ∧ (A1 ++ y :: A2).Perm (A ++ [y]) := by
        have h1 := hlx.out
        have h2 := hcr.out
        rw [hA12] at h1 h2
        have h5 := merge1_b (key := dueK xs) h1 h2 (by
          rcases hI.out with h | ⟨x, h, h'⟩
          · exact .inl (q3 (by omega))
          · by_cases h0 : 0 < s
            · exact .inr ⟨x, q1 x h0 (by rw [hs]; exact h), h'⟩
            · exact .inl (q3 (by omega))) (by
          rcases hJ.out with h | ⟨x, h, h'⟩
          · exact .inl (q4 (by have := hA.out; have := hm.out; omega))
          · exact .inr ⟨x, q2 x (by rw [hs]; exact h), h'⟩)
        rw [hA12]
        exact h5
      have HF := Lib.hid hfin
      have HI1 := Lib.hid (show P.length + A1.length = i by rw [hP.out, hl1]; omega)
      have HM1 := Lib.hid (show P.length + A1.length + A2.length = m by have h1 := hA.out; rw [hA12] at h1; simp at h1; have := hP.out; have := hm.out; omega)
      rw [hA12] at hD
      clear hfin q1 q2 q3 q4 hI hJ hs hl1 hA12 hlt hij
      go_wp2_with fail
      obtain ⟨wo, rfl⟩ : ∃ wo : World, wo = wr := ⟨_, rfl⟩
      go_loopw [17] (fun kv wq => ∃ k : Nat, ∃ U V : List Int, kv = .int .i64 k ∧ i ≤ k ∧ k ≤ m ∧ Hid (P.length + A1.length + U.length = k) ∧ Hid (A2 = U ++ V) ∧ Dat base g n c wq (P ++ A1 ++ U ++ y :: (V ++ R)) ∧ w.grownBy wq (some g)) (fun kv _ => (intOf kv).toNat)
      case atStart => exact ⟨m, A2, [], rfl, by omega, by omega, HM1, Lib.hid (by simp), by simpa using hD, hg⟩
      case round =>
        clear hD hg
        obtain ⟨k, U, V, rfl, hak, hki, hU, hUV, hD, hg⟩ := hrel
        by_cases hlt : i < k
        · obtain ⟨U', z, hUz⟩ : ∃ U' z, U = U' ++ [z] := by
            cases hU' : U.getLast? with
            | none => exfalso; have h1 := hU.out; have h2 := HI1.out; rw [List.getLast?_eq_none_iff.1 hU', List.length_nil] at h1; omega
            | some z => obtain ⟨U', h⟩ := List.getLast?_eq_some_iff.1 hU'; exact ⟨U', z, h⟩
          subst hUz
          obtain ⟨kp, hkp⟩ : ∃ kp, k = kp + 1 := ⟨k - 1, by omega⟩
          have l1 : (P ++ A1 ++ U').length = kp := by have := hU.out; simp at this ⊢; omega
          have e1 : P ++ A1 ++ (U' ++ [z]) ++ y :: (V ++ R) = (P ++ A1 ++ U') ++ z :: ([] ++ y :: (V ++ R)) := by simp
          rw [e1] at hD
          have hSW := Lib.hid (swapped (x := z) (y := y) (Q := []) (R := V ++ R) l1 (j := k) (by rw [l1]; simp; omega))
          obtain ⟨c1, f1⟩ := hD.at_ (at_mid _ _ _ l1)
          obtain ⟨c2, f2⟩ := hD.at_ (k := k) (x := y) (by rw [show (P ++ A1 ++ U') ++ z :: ([] ++ y :: (V ++ R)) = (P ++ A1 ++ U' ++ [z]) ++ y :: (V ++ R) by simp]; exact at_mid _ _ _ (by have := l1; simp at this ⊢; omega))
          have ek : (k : Int) - 1 = (kp : Int) := by omega
          have b1 : kp < n := by omega
          have b2 : k < n := by omega
          have b3 : kp ≤ m := by omega
          have b4 : i ≤ kp := by omega
          have K1 := Lib.hid hkp
          have HD := Lib.hid hD
          clear l1 e1 hD hkp
          go_wp2_with fail
          go_region
          go_wp2_with fail
          refine ⟨⟨kp, U', z :: V, rfl, by omega, by omega, Lib.hid (by have h9 := hU.out; have := K1.out; simp at h9; omega), Lib.hid (by rw [hUV.out]; simp), ?_, ?_⟩, by have := K1.out; simp [intOf]; omega⟩
          · have h3 := ((HD.out.set_ k z).set_ kp y).below (Below.refl _ _).drew
            rw [List.set_comm _ _ (by have := K1.out; omega), hSW.out] at h3
            simpa using h3
          · exact grown_below (grown_setCell (grown_setCell hg (.inl rfl) _) (.inl rfl) _) (Below.refl _ _).drew
        · have hUn : U = [] := by
            have h1 := hU.out; have h2 := HI1.out
            exact List.eq_nil_of_length_eq_zero (by omega)
          subst hUn
          go_wp2_with fail
          go_end0
          refine ⟨_, ⟨A1 ++ y :: A2, rfl, HF.out.2, HF.out.1⟩, rfl, ?_, hg⟩
          rw [hUV.out]
          simpa using hD
end Go.Proofs.Ytggficacnmddiaa
