/- The library's stable sort on places: merging. -/
import Derived.Test.YtggficacnmddiaaSrtD
namespace Go.Proofs.Ytggficacnmddiaa
open Go.RowKit

theorem lx_or {key : Int → Int} {a b : List Int} (ha : Lx key a) (hb : Lx key b) (h : a = [] ∨ b = []) : Lx key (a ++ b) := by
  rcases h with rfl | rfl
  · simpa using hb
  · simpa using ha
theorem InR.sub {xs : List Order} {l m : List Int} (h : InR xs l) (hs : ∀ x ∈ m, x ∈ l) : InR xs m := fun x hx => h x (hs x hx)
set_option maxRecDepth 100000 in
set_option maxHeartbeats 6400000 in
theorem sym_c {gb nn cc g : Nat} {A0 : Option Addr} {xs : List Order} (base n c : Nat) (hz : (n : Int) ≤ 1048576) (N : Nat) : ∀ (P A B R : List Int) (a m b : Nat), A.length + B.length ≤ N → 0 < A.length → 0 < B.length → Hid (P.length = a) → Hid (a + A.length = m) → Hid (m + B.length = b) → Hid (Lx (dueK xs) A) → Hid (Lx (dueK xs) B) → Hid (Crs (dueK xs) A B) → Hid (InR xs (A ++ B)) → b ≤ n → ∀ w : World, Cx gb A0 xs nn cc g w → Dat base g n c w (P ++ A ++ B ++ R) →
    Calls Try.prog 51 #[.slice (some ⟨g, 0, none⟩) n c, .int .i64 a, .int .i64 m, .int .i64 b, (.func (.func 38) #[] #[.pointer (some ⟨gb, 0, none⟩)])] w (TurnedS base g n c (fun l => ∃ M, l = P ++ M ++ R ∧ M.Perm (A ++ B) ∧ Lx (dueK xs) M) w) := by
  induction N with
  | zero => intro P A B R a m b hN h1; omega
  | succ N ih =>
  intro P A B R a m b hN hA0 hB0 hP hm hbm hlA hlB hcr hi hb w hC hD
  by_cases hA1 : A.length = 1
  · obtain ⟨x, rfl⟩ := List.length_eq_one_iff.1 hA1
    exact symA_c base n c P B R x a m b B.length hP (Lib.hid (by have := hm.out; simp at this; omega)) (Lib.hid rfl) (Lib.hid (by have := hbm.out; omega)) hlB hcr (Lib.hid (by simpa using hi.out)) hb hz w hC hD
  by_cases hB1 : B.length = 1
  · obtain ⟨y, rfl⟩ := List.length_eq_one_iff.1 hB1
    exact symB_c base n c P A R y a m b A.length hP (Lib.hid rfl) (by omega) (Lib.hid (by have := hm.out; omega)) (Lib.hid (by have := hbm.out; simp at this; omega)) hlA hcr (Lib.hid (hi.out.sub (by intro z hz; rcases List.mem_cons.1 hz with h | h <;> simp [h]))) hb hz w hC hD
  obtain ⟨la, hla⟩ : ∃ la, la = A.length := ⟨_, rfl⟩
  obtain ⟨lb, hlb⟩ : ∃ lb, lb = B.length := ⟨_, rfl⟩
  rw [← hla] at hN hA0 hA1
  rw [← hlb] at hN hB0 hB1
  have e1 := hm.out
  have e2 := hbm.out
  rw [← hla] at e1
  rw [← hlb] at e2
  have LA := Lib.hid hla.symm
  have LB := Lib.hid hlb.symm
  clear hla hlb hm hbm
  have d1 : (m : Int) - (a : Int) = (la : Int) := by omega
  have d2 : (b : Int) - (m : Int) = (lb : Int) := by omega
  have d3 : ((la : Int) == 1) = false := by simp; omega
  have d4 : ((lb : Int) == 1) = false := by simp; omega
  obtain ⟨mid, hmid⟩ : ∃ mid : Nat, ((a : Int) + (b : Int)) / 2 = (mid : Int) := ⟨(a + b) / 2, by omega⟩
  obtain ⟨nm, hnm⟩ : ∃ nm : Nat, (mid : Int) + (m : Int) = (nm : Int) := ⟨mid + m, by omega⟩
  obtain ⟨pp, hpp⟩ : ∃ pp : Nat, (nm : Int) - 1 = (pp : Int) := ⟨nm - 1, by omega⟩
  have o1 : 2 * mid ≤ a + b := by omega
  have o2 : a + b ≤ 2 * mid + 1 := by omega
  have o3 : nm = mid + m := by omega
  have o4 : nm = pp + 1 := by omega
  have o5 : a + 2 ≤ m := by omega
  have o6 : m + 2 ≤ b := by omega
  have o7 : b ≤ a + N + 1 := by omega
  have O3 := Lib.hid o3
  have O4 := Lib.hid o4
  have E1 := Lib.hid e1
  have E2 := Lib.hid e2
  clear e1 e2 hA1 hB1 hA0 hB0 hN
  by_cases hmm : mid < m
  · obtain ⟨lo, hlo⟩ : ∃ lo : Nat, (nm : Int) - (b : Int) = (lo : Int) := ⟨nm - b, by omega⟩
    have l0 := hlo
    have a1 : a ≤ lo := by omega
    have a2 : lo ≤ mid := by omega
    have a3 : mid ≤ m := by omega
    have a4 : nm ≤ lo + b := by omega
    have a5 : mid + m ≤ nm := by omega
    have HLO := Lib.hid (show lo = a ∨ nm = lo + b by omega)
    have HHI := Lib.hid (show mid = m ∨ nm = mid + m by omega)
    clear o3 o4 hlo
    go_enter Try.func51, Try.ntmps51
    go_wp2_with fail
    go_loopw [20, 21] (fun iv jv wr => ∃ s r : Nat, iv = .int .i64 s ∧ jv = .int .i64 r ∧ lo ≤ s ∧ s ≤ r ∧ r ≤ mid ∧ Hid (s = lo ∨ ∃ x y, A[s - 1 - a]? = some x ∧ B[nm - s - m]? = some y ∧ dueK xs x ≤ dueK xs y) ∧ Hid (r = mid ∨ ∃ x y, A[r - a]? = some x ∧ B[nm - 1 - r - m]? = some y ∧ dueK xs y < dueK xs x) ∧ Dat base g n c wr (P ++ A ++ B ++ R) ∧ w.grownBy wr (some g)) (fun iv jv _ => (intOf jv - intOf iv).toNat)
    case atStart => exact ⟨lo, mid, by first | rfl | (congr 1), by first | rfl | (congr 1), by omega, by omega, by omega, Lib.hid (.inl rfl), Lib.hid (.inl rfl), hD, World.grownBy.refl _ _⟩
    case round =>
      clear hD
      obtain ⟨s, r, rfl, rfl, hls, hsr, hrh, hI, hJ, hD, hg⟩ := hrel
      have hCq := hC.grown hg
      by_cases hlt : s < r
      · obtain ⟨h, hh⟩ : ∃ h : Nat, ((s : Int) + (r : Int)) / 2 = (h : Int) := ⟨(s + r) / 2, by omega⟩
        have hih : s ≤ h := by omega
        have hhj : h < r := by omega
        have o3 := O3.out
        have o4 := O4.out
        have e1 := E1.out
        have e2 := E2.out
        obtain ⟨o, ho⟩ : ∃ o : Nat, (pp : Int) - (h : Int) = (o : Int) := ⟨pp - h, by omega⟩
        obtain ⟨t, ht⟩ : ∃ t, h = a + t := ⟨h - a, by omega⟩
        obtain ⟨u, hu⟩ : ∃ u, o = m + u := ⟨o - m, by omega⟩
        obtain ⟨x, hx⟩ := get_of_lt (xs := A) (k := t) (by rw [LA.out]; omega)
        obtain ⟨y, hy⟩ := get_of_lt (xs := B) (k := u) (by rw [LB.out]; omega)
        obtain ⟨c1, f1⟩ := hD.at_ (k := h) (x := x) (by rw [ht, List.append_assoc (P ++ A)]; exact at_A hP.out hx)
        obtain ⟨c2, f2⟩ := hD.at_ (k := o) (x := y) (by rw [hu]; exact at_A (by have := hP.out; have := LA.out; simp; omega) hy)
        have hmx : x ∈ A ++ B := List.mem_append_left _ (List.mem_of_getElem? hx)
        have hmy : y ∈ A ++ B := List.mem_append_right _ (List.mem_of_getElem? hy)
        have hc := fun q => cmp_c y x (A ++ B) hi.out hmy hmx hCq q
        obtain ⟨r0, hr⟩ : ∃ r, r = cmpI (dueK xs y) (dueK xs x) := ⟨_, rfl⟩
        rw [← hr] at hc
        have hcl := Lib.hid (show r0 < 0 ↔ dueK xs y < dueK xs x by rw [hr]; exact cmpI_lt)
        have HX := Lib.hid hx
        have HY := Lib.hid hy
        have HT := Lib.hid ht
        have HU := Lib.hid (show nm - 1 - h - m = u by omega)
        have b1 : h < n := by omega
        have b2 : o < n := by omega
        clear hr hx hy ht hu hmx hmy o3 o4 e1 e2
        by_cases hr0 : r0 < 0
        · have HLT := Lib.hid (hcl.out.1 hr0)
          have hnb : (!decide (r0 < 0)) = false := by simp; omega
          go_wp2_with fail
          go_quiet (first | (go_at_call 38; exact Calls.quiet_of (hc _)))
          go_wp2_with fail
          refine ⟨⟨s, h, rfl, by go_num, by omega, by omega, by omega, hI, Lib.hid (.inr ⟨x, y, ?_, ?_, HLT.out⟩), hD.drewN _, grown_drewN hg _⟩, by simp [intOf]; omega⟩
          · have := HT.out
            rw [show h - a = t by omega]; exact HX.out
          · rw [HU.out]; exact HY.out
        · have hge : dueK xs x ≤ dueK xs y := by
            have h3 : ¬ dueK xs y < dueK xs x := fun h => hr0 (hcl.out.2 h)
            omega
          have HGE := Lib.hid hge
          have hnb : (!decide (r0 < 0)) = true := by simp; omega
          clear hge
          go_wp2_with fail
          go_quiet (first | (go_at_call 38; exact Calls.quiet_of (hc _)))
          go_wp2_with fail
          refine ⟨⟨h + 1, r, by go_num, rfl, by omega, by omega, by omega, Lib.hid (.inr ⟨x, y, ?_, ?_, HGE.out⟩), hJ, hD.drewN _, grown_drewN hg _⟩, by simp [intOf]; omega⟩
          · have := HT.out
            rw [show h + 1 - 1 - a = t by omega]; exact HX.out
          · rw [show nm - (h + 1) - m = nm - 1 - h - m by omega, HU.out]; exact HY.out
      · obtain rfl : s = r := by omega
        have o3 := O3.out
        have e1 := E1.out
        have e2 := E2.out
        have la1 := LA.out
        have lb1 := LB.out
        obtain ⟨e, he⟩ : ∃ e : Nat, (nm : Int) - (s : Int) = (e : Int) := ⟨nm - s, by omega⟩
        have he' : nm = s + e := by omega
        obtain ⟨A1, A2, hA12, hl1, q1, q2, q3, q4⟩ := parts_at A (s - a) (by omega)
        obtain ⟨B1, B2, hB12, hl2, p1, p2, p3, p4⟩ := parts_at B (e - m) (by omega)
        have SA := hlA.out
        have SB := hlB.out
        have SC := hcr.out
        have SI := hi.out
        rw [hA12] at SA SC SI
        rw [hB12] at SB SC SI
        have K1 : ∀ x ∈ A1, ∀ y ∈ B2, dueK xs x ≤ dueK xs y := cut_le SA SB (by
          rcases hI.out with h | ⟨x, y, h, h', h''⟩
          · rcases HLO.out with k | k
            · exact .inl (q3 (by omega))
            · exact .inr (.inl (p4 (by omega)))
          · by_cases h0 : 0 < s - a
            · exact .inr (.inr ⟨x, y, q1 x h0 (by rw [← h]; congr 1; omega), p2 y (by rw [← h']; congr 1; omega), h''⟩)
            · exact .inl (q3 (by omega)))
        have K2 : ∀ x ∈ A2, ∀ y ∈ B1, dueK xs y < dueK xs x := cut_lt SA SB (by
          rcases hJ.out with h | ⟨x, y, h, h', h''⟩
          · rcases HHI.out with k | k
            · exact .inr (.inl (q4 (by omega)))
            · exact .inl (p3 (by omega))
          · by_cases h0 : 0 < e - m
            · exact .inr (.inr ⟨x, y, p1 y h0 (by rw [← h']; congr 1; omega), q2 x h, h''⟩)
            · exact .inl (p3 (by omega)))
        have LA1 : A1.length + a = s := by omega
        have LA2 : A2.length + s = m := by rw [hA12] at la1; simp at la1; omega
        have LB1 : B1.length + m = e := by omega
        have LB2 : B2.length + e = b := by rw [hB12] at lb1; simp at lb1; omega
        subst hA12
        subst hB12
        replace SA := Lib.hid SA
        replace SB := Lib.hid SB
        replace SC := Lib.hid SC
        replace SI := Lib.hid SI
        replace K1 := Lib.hid K1
        replace K2 := Lib.hid K2
        have g1 : s + e = mid + m := by omega
        have g2 : s ≤ m := by omega
        have g3 : m ≤ e := by omega
        have g4 : a ≤ s := by omega
        have g5 : e ≤ b := by omega
        have g6 : mid < b := by omega
        have g7 : a < mid := by omega
        clear la1 lb1 e1 e2 o3 he' hl1 hl2 q1 q2 q3 q4 p1 p2 p3 p4 hI hJ HLO HHI hlA hlB hcr hi hlt hsr hls hrh LA LB E1 E2 O3 O4 hpp hnm o1 o2
        by_cases h1 : a < s
        · by_cases h2 : s < m
          · by_cases h3 : m < e
            · by_cases h4 : e < b
              · have N1 : A1 ≠ [] := fun h => by rw [h] at LA1; simp at LA1; omega
                have N2 : 0 < A2.length := by omega
                have N3 : 0 < B1.length := by omega
                have N4 : 0 < B2.length := by omega
                have h5 : s < mid := by omega
                have h6 : mid < e := by omega
                clear N1
                have N1 : 0 < A1.length := by omega
                replace LA1 := Lib.hid LA1
                replace LA2 := Lib.hid LA2
                replace LB1 := Lib.hid LB1
                replace LB2 := Lib.hid LB2
                replace N1 := Lib.hid N1
                replace N2 := Lib.hid N2
                replace N3 := Lib.hid N3
                replace N4 := Lib.hid N4
                go_wp2_with fail
                refine (rotate_c base g n c _ (P ++ A1) A2 B1 (B2 ++ R) s m e (Lib.hid (by have := hP.out; have := LA1.out; simp; omega)) (Lib.hid (by have := LA2.out; omega)) (Lib.hid (by have := LB1.out; omega)) N2.out N3.out (by omega) hz _ (by simpa using hD)).mono ?_
                rintro e' W1 ⟨rfl, hD1, hg1⟩
                replace hg := grown_trans hg hg1
                clear hD hg1
                have hD : Dat base g n c W1 (P ++ (A1 ++ (B1 ++ (A2 ++ (B2 ++ R))))) := by simpa using hD1
                clear hD1
                go_wp2_with fail
                refine (ih P A1 B1 (A2 ++ (B2 ++ R)) a s mid (by have := LA1.out; have := LB1.out; omega) N1.out N3.out hP (Lib.hid (by have := LA1.out; omega)) (Lib.hid (by have := LB1.out; omega)) (Lib.hid (lx_append.1 SA.out).1) (Lib.hid (lx_append.1 SB.out).1) (Lib.hid (crs_parts SC.out).1) (Lib.hid (SI.out.sub (by intro x hx; rcases List.mem_append.1 hx with h | h <;> simp [h]))) (by omega) _ (hC.grown hg) (by simpa using hD)).mono ?_
                rintro e' W2 ⟨l, ⟨M1, rfl, hp1, hs1⟩, rfl, hD1, hg1⟩
                replace hg := grown_trans hg hg1
                clear hD hg1
                have hD : Dat base g n c W2 (P ++ (M1 ++ (A2 ++ (B2 ++ R)))) := by simpa using hD1
                clear hD1
                replace hp1 := Lib.hid hp1
                replace hs1 := Lib.hid hs1
                go_wp2_with fail
                refine (ih (P ++ M1) A2 B2 R mid e b (by have := LA2.out; have := LB2.out; omega) N2.out N4.out (Lib.hid (by have := hP.out; have := hp1.out.length_eq; have := LA1.out; have := LB1.out; simp at *; omega)) (Lib.hid (by have := LA2.out; omega)) (Lib.hid (by have := LB2.out; omega)) (Lib.hid (lx_append.1 SA.out).2.1) (Lib.hid (lx_append.1 SB.out).2.1) (Lib.hid (crs_parts SC.out).2) (Lib.hid (SI.out.sub (by intro x hx; rcases List.mem_append.1 hx with h | h <;> simp [h]))) (by omega) _ (hC.grown hg) (by simpa using hD)).mono ?_
                rintro e' W3 ⟨l, ⟨M2, rfl, hp2, hs2⟩, rfl, hD1, hg1⟩
                replace hg := grown_trans hg hg1
                clear hD hg1
                have hD : Dat base g n c W3 (P ++ (M1 ++ (M2 ++ R))) := by simpa using hD1
                clear hD1
                replace hp2 := Lib.hid hp2
                replace hs2 := Lib.hid hs2
                go_wp2_with fail
                go_end0
                obtain ⟨f1, f2⟩ := lx_join SC.out SA.out SB.out K1.out K2.out hp1.out hp2.out hs1.out hs2.out
                exact ⟨_, ⟨M1 ++ M2, rfl, f2, f1⟩, rfl, by simpa using hD, hg⟩
              · have N1 : A1 ≠ [] := fun h => by rw [h] at LA1; simp at LA1; omega
                have N2 : 0 < A2.length := by omega
                have N3 : 0 < B1.length := by omega
                have N4 : B2 = [] := List.eq_nil_of_length_eq_zero (by omega)
                have h5 : s < mid := by omega
                have h6 : mid < e := by omega
                clear N1
                have N1 : 0 < A1.length := by omega
                replace LA1 := Lib.hid LA1
                replace LA2 := Lib.hid LA2
                replace LB1 := Lib.hid LB1
                replace LB2 := Lib.hid LB2
                replace N1 := Lib.hid N1
                replace N2 := Lib.hid N2
                replace N3 := Lib.hid N3
                replace N4 := Lib.hid N4
                go_wp2_with fail
                refine (rotate_c base g n c _ (P ++ A1) A2 B1 (B2 ++ R) s m e (Lib.hid (by have := hP.out; have := LA1.out; simp; omega)) (Lib.hid (by have := LA2.out; omega)) (Lib.hid (by have := LB1.out; omega)) N2.out N3.out (by omega) hz _ (by simpa using hD)).mono ?_
                rintro e' W1 ⟨rfl, hD1, hg1⟩
                replace hg := grown_trans hg hg1
                clear hD hg1
                have hD : Dat base g n c W1 (P ++ (A1 ++ (B1 ++ (A2 ++ (B2 ++ R))))) := by simpa using hD1
                clear hD1
                go_wp2_with fail
                refine (ih P A1 B1 (A2 ++ (B2 ++ R)) a s mid (by have := LA1.out; have := LB1.out; omega) N1.out N3.out hP (Lib.hid (by have := LA1.out; omega)) (Lib.hid (by have := LB1.out; omega)) (Lib.hid (lx_append.1 SA.out).1) (Lib.hid (lx_append.1 SB.out).1) (Lib.hid (crs_parts SC.out).1) (Lib.hid (SI.out.sub (by intro x hx; rcases List.mem_append.1 hx with h | h <;> simp [h]))) (by omega) _ (hC.grown hg) (by simpa using hD)).mono ?_
                rintro e' W2 ⟨l, ⟨M1, rfl, hp1, hs1⟩, rfl, hD1, hg1⟩
                replace hg := grown_trans hg hg1
                clear hD hg1
                have hD : Dat base g n c W2 (P ++ (M1 ++ (A2 ++ (B2 ++ R)))) := by simpa using hD1
                clear hD1
                replace hp1 := Lib.hid hp1
                replace hs1 := Lib.hid hs1
                go_wp2_with fail
                obtain ⟨M2, hM2⟩ : ∃ M2, M2 = A2 ++ B2 := ⟨_, rfl⟩
                have hp2 := Lib.hid (show M2.Perm (A2 ++ B2) by rw [hM2])
                have hs2 := Lib.hid (show Lx (dueK xs) M2 by rw [hM2]; exact lx_or (lx_append.1 SA.out).2.1 (lx_append.1 SB.out).2.1 (.inr N4.out))
                have hD1 : Dat base g n c W2 (P ++ (M1 ++ (M2 ++ R))) := by rw [hM2]; simpa using hD
                clear hD hM2
                have hD := hD1
                clear hD1
                go_end0
                obtain ⟨f1, f2⟩ := lx_join SC.out SA.out SB.out K1.out K2.out hp1.out hp2.out hs1.out hs2.out
                exact ⟨_, ⟨M1 ++ M2, rfl, f2, f1⟩, rfl, by simpa using hD, hg⟩
            · by_cases h4 : e < b
              · have N1 : A1 ≠ [] := fun h => by rw [h] at LA1; simp at LA1; omega
                have N2 : 0 < A2.length := by omega
                have N3 : B1 = [] := List.eq_nil_of_length_eq_zero (by omega)
                have N4 : 0 < B2.length := by omega
                have h5 : ¬ s < mid := by omega
                have h6 : mid < e := by omega
                clear N1
                have N1 : 0 < A1.length := by omega
                replace LA1 := Lib.hid LA1
                replace LA2 := Lib.hid LA2
                replace LB1 := Lib.hid LB1
                replace LB2 := Lib.hid LB2
                replace N1 := Lib.hid N1
                replace N2 := Lib.hid N2
                replace N3 := Lib.hid N3
                replace N4 := Lib.hid N4
                go_wp2_with fail
                have hD1 : Dat base g n c wr (P ++ (A1 ++ (B1 ++ (A2 ++ (B2 ++ R))))) := by rw [N3.out] at hD ⊢; simpa using hD
                clear hD
                have hD := hD1
                clear hD1
                obtain ⟨M1, hM1⟩ : ∃ M1, M1 = A1 ++ B1 := ⟨_, rfl⟩
                have hp1 := Lib.hid (show M1.Perm (A1 ++ B1) by rw [hM1])
                have hs1 := Lib.hid (show Lx (dueK xs) M1 by rw [hM1]; exact lx_or (lx_append.1 SA.out).1 (lx_append.1 SB.out).1 (.inr N3.out))
                have hD1 : Dat base g n c wr (P ++ (M1 ++ (A2 ++ (B2 ++ R)))) := by rw [hM1]; simpa using hD
                clear hD hM1
                have hD := hD1
                clear hD1
                refine (ih (P ++ M1) A2 B2 R mid e b (by have := LA2.out; have := LB2.out; omega) N2.out N4.out (Lib.hid (by have := hP.out; have := hp1.out.length_eq; have := LA1.out; have := LB1.out; simp at *; omega)) (Lib.hid (by have := LA2.out; omega)) (Lib.hid (by have := LB2.out; omega)) (Lib.hid (lx_append.1 SA.out).2.1) (Lib.hid (lx_append.1 SB.out).2.1) (Lib.hid (crs_parts SC.out).2) (Lib.hid (SI.out.sub (by intro x hx; rcases List.mem_append.1 hx with h | h <;> simp [h]))) (by omega) _ (hC.grown hg) (by simpa using hD)).mono ?_
                rintro e' W3 ⟨l, ⟨M2, rfl, hp2, hs2⟩, rfl, hD1, hg1⟩
                replace hg := grown_trans hg hg1
                clear hD hg1
                have hD : Dat base g n c W3 (P ++ (M1 ++ (M2 ++ R))) := by simpa using hD1
                clear hD1
                replace hp2 := Lib.hid hp2
                replace hs2 := Lib.hid hs2
                go_wp2_with fail
                go_end0
                obtain ⟨f1, f2⟩ := lx_join SC.out SA.out SB.out K1.out K2.out hp1.out hp2.out hs1.out hs2.out
                exact ⟨_, ⟨M1 ++ M2, rfl, f2, f1⟩, rfl, by simpa using hD, hg⟩
              · exfalso; omega
          · by_cases h3 : m < e
            · by_cases h4 : e < b
              · have N1 : A1 ≠ [] := fun h => by rw [h] at LA1; simp at LA1; omega
                have N2 : A2 = [] := List.eq_nil_of_length_eq_zero (by omega)
                have N3 : 0 < B1.length := by omega
                have N4 : 0 < B2.length := by omega
                have h5 : s < mid := by omega
                have h6 : ¬ mid < e := by omega
                clear N1
                have N1 : 0 < A1.length := by omega
                replace LA1 := Lib.hid LA1
                replace LA2 := Lib.hid LA2
                replace LB1 := Lib.hid LB1
                replace LB2 := Lib.hid LB2
                replace N1 := Lib.hid N1
                replace N2 := Lib.hid N2
                replace N3 := Lib.hid N3
                replace N4 := Lib.hid N4
                go_wp2_with fail
                have hD1 : Dat base g n c wr (P ++ (A1 ++ (B1 ++ (A2 ++ (B2 ++ R))))) := by rw [N2.out] at hD ⊢; simpa using hD
                clear hD
                have hD := hD1
                clear hD1
                refine (ih P A1 B1 (A2 ++ (B2 ++ R)) a s mid (by have := LA1.out; have := LB1.out; omega) N1.out N3.out hP (Lib.hid (by have := LA1.out; omega)) (Lib.hid (by have := LB1.out; omega)) (Lib.hid (lx_append.1 SA.out).1) (Lib.hid (lx_append.1 SB.out).1) (Lib.hid (crs_parts SC.out).1) (Lib.hid (SI.out.sub (by intro x hx; rcases List.mem_append.1 hx with h | h <;> simp [h]))) (by omega) _ (hC.grown hg) (by simpa using hD)).mono ?_
                rintro e' W2 ⟨l, ⟨M1, rfl, hp1, hs1⟩, rfl, hD1, hg1⟩
                replace hg := grown_trans hg hg1
                clear hD hg1
                have hD : Dat base g n c W2 (P ++ (M1 ++ (A2 ++ (B2 ++ R)))) := by simpa using hD1
                clear hD1
                replace hp1 := Lib.hid hp1
                replace hs1 := Lib.hid hs1
                go_wp2_with fail
                obtain ⟨M2, hM2⟩ : ∃ M2, M2 = A2 ++ B2 := ⟨_, rfl⟩
                have hp2 := Lib.hid (show M2.Perm (A2 ++ B2) by rw [hM2])
                have hs2 := Lib.hid (show Lx (dueK xs) M2 by rw [hM2]; exact lx_or (lx_append.1 SA.out).2.1 (lx_append.1 SB.out).2.1 (.inl N2.out))
                have hD1 : Dat base g n c W2 (P ++ (M1 ++ (M2 ++ R))) := by rw [hM2]; simpa using hD
                clear hD hM2
                have hD := hD1
                clear hD1
                go_end0
                obtain ⟨f1, f2⟩ := lx_join SC.out SA.out SB.out K1.out K2.out hp1.out hp2.out hs1.out hs2.out
                exact ⟨_, ⟨M1 ++ M2, rfl, f2, f1⟩, rfl, by simpa using hD, hg⟩
              · have N1 : A1 ≠ [] := fun h => by rw [h] at LA1; simp at LA1; omega
                have N2 : A2 = [] := List.eq_nil_of_length_eq_zero (by omega)
                have N3 : 0 < B1.length := by omega
                have N4 : B2 = [] := List.eq_nil_of_length_eq_zero (by omega)
                have h5 : s < mid := by omega
                have h6 : ¬ mid < e := by omega
                clear N1
                have N1 : 0 < A1.length := by omega
                replace LA1 := Lib.hid LA1
                replace LA2 := Lib.hid LA2
                replace LB1 := Lib.hid LB1
                replace LB2 := Lib.hid LB2
                replace N1 := Lib.hid N1
                replace N2 := Lib.hid N2
                replace N3 := Lib.hid N3
                replace N4 := Lib.hid N4
                go_wp2_with fail
                have hD1 : Dat base g n c wr (P ++ (A1 ++ (B1 ++ (A2 ++ (B2 ++ R))))) := by rw [N2.out] at hD ⊢; simpa using hD
                clear hD
                have hD := hD1
                clear hD1
                refine (ih P A1 B1 (A2 ++ (B2 ++ R)) a s mid (by have := LA1.out; have := LB1.out; omega) N1.out N3.out hP (Lib.hid (by have := LA1.out; omega)) (Lib.hid (by have := LB1.out; omega)) (Lib.hid (lx_append.1 SA.out).1) (Lib.hid (lx_append.1 SB.out).1) (Lib.hid (crs_parts SC.out).1) (Lib.hid (SI.out.sub (by intro x hx; rcases List.mem_append.1 hx with h | h <;> simp [h]))) (by omega) _ (hC.grown hg) (by simpa using hD)).mono ?_
                rintro e' W2 ⟨l, ⟨M1, rfl, hp1, hs1⟩, rfl, hD1, hg1⟩
                replace hg := grown_trans hg hg1
                clear hD hg1
                have hD : Dat base g n c W2 (P ++ (M1 ++ (A2 ++ (B2 ++ R)))) := by simpa using hD1
                clear hD1
                replace hp1 := Lib.hid hp1
                replace hs1 := Lib.hid hs1
                go_wp2_with fail
                obtain ⟨M2, hM2⟩ : ∃ M2, M2 = A2 ++ B2 := ⟨_, rfl⟩
                have hp2 := Lib.hid (show M2.Perm (A2 ++ B2) by rw [hM2])
                have hs2 := Lib.hid (show Lx (dueK xs) M2 by rw [hM2]; exact lx_or (lx_append.1 SA.out).2.1 (lx_append.1 SB.out).2.1 (.inl N2.out))
                have hD1 : Dat base g n c W2 (P ++ (M1 ++ (M2 ++ R))) := by rw [hM2]; simpa using hD
                clear hD hM2
                have hD := hD1
                clear hD1
                go_end0
                obtain ⟨f1, f2⟩ := lx_join SC.out SA.out SB.out K1.out K2.out hp1.out hp2.out hs1.out hs2.out
                exact ⟨_, ⟨M1 ++ M2, rfl, f2, f1⟩, rfl, by simpa using hD, hg⟩
            · by_cases h4 : e < b
              · have N1 : A1 ≠ [] := fun h => by rw [h] at LA1; simp at LA1; omega
                have N2 : A2 = [] := List.eq_nil_of_length_eq_zero (by omega)
                have N3 : B1 = [] := List.eq_nil_of_length_eq_zero (by omega)
                have N4 : 0 < B2.length := by omega
                have h5 : ¬ s < mid := by omega
                have h6 : ¬ mid < e := by omega
                clear N1
                have N1 : 0 < A1.length := by omega
                replace LA1 := Lib.hid LA1
                replace LA2 := Lib.hid LA2
                replace LB1 := Lib.hid LB1
                replace LB2 := Lib.hid LB2
                replace N1 := Lib.hid N1
                replace N2 := Lib.hid N2
                replace N3 := Lib.hid N3
                replace N4 := Lib.hid N4
                go_wp2_with fail
                have hD1 : Dat base g n c wr (P ++ (A1 ++ (B1 ++ (A2 ++ (B2 ++ R))))) := by rw [N2.out] at hD ⊢; simpa using hD
                clear hD
                have hD := hD1
                clear hD1
                obtain ⟨M1, hM1⟩ : ∃ M1, M1 = A1 ++ B1 := ⟨_, rfl⟩
                have hp1 := Lib.hid (show M1.Perm (A1 ++ B1) by rw [hM1])
                have hs1 := Lib.hid (show Lx (dueK xs) M1 by rw [hM1]; exact lx_or (lx_append.1 SA.out).1 (lx_append.1 SB.out).1 (.inr N3.out))
                have hD1 : Dat base g n c wr (P ++ (M1 ++ (A2 ++ (B2 ++ R)))) := by rw [hM1]; simpa using hD
                clear hD hM1
                have hD := hD1
                clear hD1
                obtain ⟨M2, hM2⟩ : ∃ M2, M2 = A2 ++ B2 := ⟨_, rfl⟩
                have hp2 := Lib.hid (show M2.Perm (A2 ++ B2) by rw [hM2])
                have hs2 := Lib.hid (show Lx (dueK xs) M2 by rw [hM2]; exact lx_or (lx_append.1 SA.out).2.1 (lx_append.1 SB.out).2.1 (.inl N2.out))
                have hD1 : Dat base g n c wr (P ++ (M1 ++ (M2 ++ R))) := by rw [hM2]; simpa using hD
                clear hD hM2
                have hD := hD1
                clear hD1
                go_end0
                obtain ⟨f1, f2⟩ := lx_join SC.out SA.out SB.out K1.out K2.out hp1.out hp2.out hs1.out hs2.out
                exact ⟨_, ⟨M1 ++ M2, rfl, f2, f1⟩, rfl, by simpa using hD, hg⟩
              · exfalso; omega
        · by_cases h2 : s < m
          · by_cases h3 : m < e
            · by_cases h4 : e < b
              · have N1 : A1 = [] := List.eq_nil_of_length_eq_zero (by omega)
                have N2 : 0 < A2.length := by omega
                have N3 : 0 < B1.length := by omega
                have N4 : 0 < B2.length := by omega
                have h5 : s < mid := by omega
                have h6 : mid < e := by omega
                replace LA1 := Lib.hid LA1
                replace LA2 := Lib.hid LA2
                replace LB1 := Lib.hid LB1
                replace LB2 := Lib.hid LB2
                replace N1 := Lib.hid N1
                replace N2 := Lib.hid N2
                replace N3 := Lib.hid N3
                replace N4 := Lib.hid N4
                go_wp2_with fail
                refine (rotate_c base g n c _ (P ++ A1) A2 B1 (B2 ++ R) s m e (Lib.hid (by have := hP.out; have := LA1.out; simp; omega)) (Lib.hid (by have := LA2.out; omega)) (Lib.hid (by have := LB1.out; omega)) N2.out N3.out (by omega) hz _ (by simpa using hD)).mono ?_
                rintro e' W1 ⟨rfl, hD1, hg1⟩
                replace hg := grown_trans hg hg1
                clear hD hg1
                have hD : Dat base g n c W1 (P ++ (A1 ++ (B1 ++ (A2 ++ (B2 ++ R))))) := by simpa using hD1
                clear hD1
                go_wp2_with fail
                obtain ⟨M1, hM1⟩ : ∃ M1, M1 = A1 ++ B1 := ⟨_, rfl⟩
                have hp1 := Lib.hid (show M1.Perm (A1 ++ B1) by rw [hM1])
                have hs1 := Lib.hid (show Lx (dueK xs) M1 by rw [hM1]; exact lx_or (lx_append.1 SA.out).1 (lx_append.1 SB.out).1 (.inl N1.out))
                have hD1 : Dat base g n c W1 (P ++ (M1 ++ (A2 ++ (B2 ++ R)))) := by rw [hM1]; simpa using hD
                clear hD hM1
                have hD := hD1
                clear hD1
                refine (ih (P ++ M1) A2 B2 R mid e b (by have := LA2.out; have := LB2.out; omega) N2.out N4.out (Lib.hid (by have := hP.out; have := hp1.out.length_eq; have := LA1.out; have := LB1.out; simp at *; omega)) (Lib.hid (by have := LA2.out; omega)) (Lib.hid (by have := LB2.out; omega)) (Lib.hid (lx_append.1 SA.out).2.1) (Lib.hid (lx_append.1 SB.out).2.1) (Lib.hid (crs_parts SC.out).2) (Lib.hid (SI.out.sub (by intro x hx; rcases List.mem_append.1 hx with h | h <;> simp [h]))) (by omega) _ (hC.grown hg) (by simpa using hD)).mono ?_
                rintro e' W3 ⟨l, ⟨M2, rfl, hp2, hs2⟩, rfl, hD1, hg1⟩
                replace hg := grown_trans hg hg1
                clear hD hg1
                have hD : Dat base g n c W3 (P ++ (M1 ++ (M2 ++ R))) := by simpa using hD1
                clear hD1
                replace hp2 := Lib.hid hp2
                replace hs2 := Lib.hid hs2
                go_wp2_with fail
                go_end0
                obtain ⟨f1, f2⟩ := lx_join SC.out SA.out SB.out K1.out K2.out hp1.out hp2.out hs1.out hs2.out
                exact ⟨_, ⟨M1 ++ M2, rfl, f2, f1⟩, rfl, by simpa using hD, hg⟩
              · have N1 : A1 = [] := List.eq_nil_of_length_eq_zero (by omega)
                have N2 : 0 < A2.length := by omega
                have N3 : 0 < B1.length := by omega
                have N4 : B2 = [] := List.eq_nil_of_length_eq_zero (by omega)
                have h5 : s < mid := by omega
                have h6 : mid < e := by omega
                replace LA1 := Lib.hid LA1
                replace LA2 := Lib.hid LA2
                replace LB1 := Lib.hid LB1
                replace LB2 := Lib.hid LB2
                replace N1 := Lib.hid N1
                replace N2 := Lib.hid N2
                replace N3 := Lib.hid N3
                replace N4 := Lib.hid N4
                go_wp2_with fail
                refine (rotate_c base g n c _ (P ++ A1) A2 B1 (B2 ++ R) s m e (Lib.hid (by have := hP.out; have := LA1.out; simp; omega)) (Lib.hid (by have := LA2.out; omega)) (Lib.hid (by have := LB1.out; omega)) N2.out N3.out (by omega) hz _ (by simpa using hD)).mono ?_
                rintro e' W1 ⟨rfl, hD1, hg1⟩
                replace hg := grown_trans hg hg1
                clear hD hg1
                have hD : Dat base g n c W1 (P ++ (A1 ++ (B1 ++ (A2 ++ (B2 ++ R))))) := by simpa using hD1
                clear hD1
                go_wp2_with fail
                obtain ⟨M1, hM1⟩ : ∃ M1, M1 = A1 ++ B1 := ⟨_, rfl⟩
                have hp1 := Lib.hid (show M1.Perm (A1 ++ B1) by rw [hM1])
                have hs1 := Lib.hid (show Lx (dueK xs) M1 by rw [hM1]; exact lx_or (lx_append.1 SA.out).1 (lx_append.1 SB.out).1 (.inl N1.out))
                have hD1 : Dat base g n c W1 (P ++ (M1 ++ (A2 ++ (B2 ++ R)))) := by rw [hM1]; simpa using hD
                clear hD hM1
                have hD := hD1
                clear hD1
                obtain ⟨M2, hM2⟩ : ∃ M2, M2 = A2 ++ B2 := ⟨_, rfl⟩
                have hp2 := Lib.hid (show M2.Perm (A2 ++ B2) by rw [hM2])
                have hs2 := Lib.hid (show Lx (dueK xs) M2 by rw [hM2]; exact lx_or (lx_append.1 SA.out).2.1 (lx_append.1 SB.out).2.1 (.inr N4.out))
                have hD1 : Dat base g n c W1 (P ++ (M1 ++ (M2 ++ R))) := by rw [hM2]; simpa using hD
                clear hD hM2
                have hD := hD1
                clear hD1
                go_end0
                obtain ⟨f1, f2⟩ := lx_join SC.out SA.out SB.out K1.out K2.out hp1.out hp2.out hs1.out hs2.out
                exact ⟨_, ⟨M1 ++ M2, rfl, f2, f1⟩, rfl, by simpa using hD, hg⟩
            · by_cases h4 : e < b
              · have N1 : A1 = [] := List.eq_nil_of_length_eq_zero (by omega)
                have N2 : 0 < A2.length := by omega
                have N3 : B1 = [] := List.eq_nil_of_length_eq_zero (by omega)
                have N4 : 0 < B2.length := by omega
                have h5 : ¬ s < mid := by omega
                have h6 : mid < e := by omega
                replace LA1 := Lib.hid LA1
                replace LA2 := Lib.hid LA2
                replace LB1 := Lib.hid LB1
                replace LB2 := Lib.hid LB2
                replace N1 := Lib.hid N1
                replace N2 := Lib.hid N2
                replace N3 := Lib.hid N3
                replace N4 := Lib.hid N4
                go_wp2_with fail
                have hD1 : Dat base g n c wr (P ++ (A1 ++ (B1 ++ (A2 ++ (B2 ++ R))))) := by rw [N3.out] at hD ⊢; simpa using hD
                clear hD
                have hD := hD1
                clear hD1
                obtain ⟨M1, hM1⟩ : ∃ M1, M1 = A1 ++ B1 := ⟨_, rfl⟩
                have hp1 := Lib.hid (show M1.Perm (A1 ++ B1) by rw [hM1])
                have hs1 := Lib.hid (show Lx (dueK xs) M1 by rw [hM1]; exact lx_or (lx_append.1 SA.out).1 (lx_append.1 SB.out).1 (.inl N1.out))
                have hD1 : Dat base g n c wr (P ++ (M1 ++ (A2 ++ (B2 ++ R)))) := by rw [hM1]; simpa using hD
                clear hD hM1
                have hD := hD1
                clear hD1
                refine (ih (P ++ M1) A2 B2 R mid e b (by have := LA2.out; have := LB2.out; omega) N2.out N4.out (Lib.hid (by have := hP.out; have := hp1.out.length_eq; have := LA1.out; have := LB1.out; simp at *; omega)) (Lib.hid (by have := LA2.out; omega)) (Lib.hid (by have := LB2.out; omega)) (Lib.hid (lx_append.1 SA.out).2.1) (Lib.hid (lx_append.1 SB.out).2.1) (Lib.hid (crs_parts SC.out).2) (Lib.hid (SI.out.sub (by intro x hx; rcases List.mem_append.1 hx with h | h <;> simp [h]))) (by omega) _ (hC.grown hg) (by simpa using hD)).mono ?_
                rintro e' W3 ⟨l, ⟨M2, rfl, hp2, hs2⟩, rfl, hD1, hg1⟩
                replace hg := grown_trans hg hg1
                clear hD hg1
                have hD : Dat base g n c W3 (P ++ (M1 ++ (M2 ++ R))) := by simpa using hD1
                clear hD1
                replace hp2 := Lib.hid hp2
                replace hs2 := Lib.hid hs2
                go_wp2_with fail
                go_end0
                obtain ⟨f1, f2⟩ := lx_join SC.out SA.out SB.out K1.out K2.out hp1.out hp2.out hs1.out hs2.out
                exact ⟨_, ⟨M1 ++ M2, rfl, f2, f1⟩, rfl, by simpa using hD, hg⟩
              · exfalso; omega
          · by_cases h3 : m < e
            · by_cases h4 : e < b
              · exfalso; omega
              · exfalso; omega
            · by_cases h4 : e < b
              · exfalso; omega
              · exfalso; omega
  · have a1 : a ≤ a := by omega
    have a2 : a ≤ m := by omega
    have a3 : m ≤ m := by omega
    have a4 : nm ≤ a + b := by omega
    have a5 : m + m ≤ nm := by omega
    have HLO := Lib.hid (show a = a ∨ nm = a + b by omega)
    have HHI := Lib.hid (show m = m ∨ nm = m + m by omega)
    clear o3 o4
    go_enter Try.func51, Try.ntmps51
    go_wp2_with fail
    go_loopw [20, 21] (fun iv jv wr => ∃ s r : Nat, iv = .int .i64 s ∧ jv = .int .i64 r ∧ a ≤ s ∧ s ≤ r ∧ r ≤ m ∧ Hid (s = a ∨ ∃ x y, A[s - 1 - a]? = some x ∧ B[nm - s - m]? = some y ∧ dueK xs x ≤ dueK xs y) ∧ Hid (r = m ∨ ∃ x y, A[r - a]? = some x ∧ B[nm - 1 - r - m]? = some y ∧ dueK xs y < dueK xs x) ∧ Dat base g n c wr (P ++ A ++ B ++ R) ∧ w.grownBy wr (some g)) (fun iv jv _ => (intOf jv - intOf iv).toNat)
    case atStart => exact ⟨a, m, by first | rfl | (congr 1), by first | rfl | (congr 1), by omega, by omega, by omega, Lib.hid (.inl rfl), Lib.hid (.inl rfl), hD, World.grownBy.refl _ _⟩
    case round =>
      clear hD
      obtain ⟨s, r, rfl, rfl, hls, hsr, hrh, hI, hJ, hD, hg⟩ := hrel
      have hCq := hC.grown hg
      by_cases hlt : s < r
      · obtain ⟨h, hh⟩ : ∃ h : Nat, ((s : Int) + (r : Int)) / 2 = (h : Int) := ⟨(s + r) / 2, by omega⟩
        have hih : s ≤ h := by omega
        have hhj : h < r := by omega
        have o3 := O3.out
        have o4 := O4.out
        have e1 := E1.out
        have e2 := E2.out
        obtain ⟨o, ho⟩ : ∃ o : Nat, (pp : Int) - (h : Int) = (o : Int) := ⟨pp - h, by omega⟩
        obtain ⟨t, ht⟩ : ∃ t, h = a + t := ⟨h - a, by omega⟩
        obtain ⟨u, hu⟩ : ∃ u, o = m + u := ⟨o - m, by omega⟩
        obtain ⟨x, hx⟩ := get_of_lt (xs := A) (k := t) (by rw [LA.out]; omega)
        obtain ⟨y, hy⟩ := get_of_lt (xs := B) (k := u) (by rw [LB.out]; omega)
        obtain ⟨c1, f1⟩ := hD.at_ (k := h) (x := x) (by rw [ht, List.append_assoc (P ++ A)]; exact at_A hP.out hx)
        obtain ⟨c2, f2⟩ := hD.at_ (k := o) (x := y) (by rw [hu]; exact at_A (by have := hP.out; have := LA.out; simp; omega) hy)
        have hmx : x ∈ A ++ B := List.mem_append_left _ (List.mem_of_getElem? hx)
        have hmy : y ∈ A ++ B := List.mem_append_right _ (List.mem_of_getElem? hy)
        have hc := fun q => cmp_c y x (A ++ B) hi.out hmy hmx hCq q
        obtain ⟨r0, hr⟩ : ∃ r, r = cmpI (dueK xs y) (dueK xs x) := ⟨_, rfl⟩
        rw [← hr] at hc
        have hcl := Lib.hid (show r0 < 0 ↔ dueK xs y < dueK xs x by rw [hr]; exact cmpI_lt)
        have HX := Lib.hid hx
        have HY := Lib.hid hy
        have HT := Lib.hid ht
        have HU := Lib.hid (show nm - 1 - h - m = u by omega)
        have b1 : h < n := by omega
        have b2 : o < n := by omega
        clear hr hx hy ht hu hmx hmy o3 o4 e1 e2
        by_cases hr0 : r0 < 0
        · have HLT := Lib.hid (hcl.out.1 hr0)
          have hnb : (!decide (r0 < 0)) = false := by simp; omega
          go_wp2_with fail
          go_quiet (first | (go_at_call 38; exact Calls.quiet_of (hc _)))
          go_wp2_with fail
          refine ⟨⟨s, h, rfl, by go_num, by omega, by omega, by omega, hI, Lib.hid (.inr ⟨x, y, ?_, ?_, HLT.out⟩), hD.drewN _, grown_drewN hg _⟩, by simp [intOf]; omega⟩
          · have := HT.out
            rw [show h - a = t by omega]; exact HX.out
          · rw [HU.out]; exact HY.out
        · have hge : dueK xs x ≤ dueK xs y := by
            have h3 : ¬ dueK xs y < dueK xs x := fun h => hr0 (hcl.out.2 h)
            omega
          have HGE := Lib.hid hge
          have hnb : (!decide (r0 < 0)) = true := by simp; omega
          clear hge
          go_wp2_with fail
          go_quiet (first | (go_at_call 38; exact Calls.quiet_of (hc _)))
          go_wp2_with fail
          refine ⟨⟨h + 1, r, by go_num, rfl, by omega, by omega, by omega, Lib.hid (.inr ⟨x, y, ?_, ?_, HGE.out⟩), hJ, hD.drewN _, grown_drewN hg _⟩, by simp [intOf]; omega⟩
          · have := HT.out
            rw [show h + 1 - 1 - a = t by omega]; exact HX.out
          · rw [show nm - (h + 1) - m = nm - 1 - h - m by omega, HU.out]; exact HY.out
      · obtain rfl : s = r := by omega
        have o3 := O3.out
        have e1 := E1.out
        have e2 := E2.out
        have la1 := LA.out
        have lb1 := LB.out
        obtain ⟨e, he⟩ : ∃ e : Nat, (nm : Int) - (s : Int) = (e : Int) := ⟨nm - s, by omega⟩
        have he' : nm = s + e := by omega
        obtain ⟨A1, A2, hA12, hl1, q1, q2, q3, q4⟩ := parts_at A (s - a) (by omega)
        obtain ⟨B1, B2, hB12, hl2, p1, p2, p3, p4⟩ := parts_at B (e - m) (by omega)
        have SA := hlA.out
        have SB := hlB.out
        have SC := hcr.out
        have SI := hi.out
        rw [hA12] at SA SC SI
        rw [hB12] at SB SC SI
        have K1 : ∀ x ∈ A1, ∀ y ∈ B2, dueK xs x ≤ dueK xs y := cut_le SA SB (by
          rcases hI.out with h | ⟨x, y, h, h', h''⟩
          · rcases HLO.out with k | k
            · exact .inl (q3 (by omega))
            · exact .inr (.inl (p4 (by omega)))
          · by_cases h0 : 0 < s - a
            · exact .inr (.inr ⟨x, y, q1 x h0 (by rw [← h]; congr 1; omega), p2 y (by rw [← h']; congr 1; omega), h''⟩)
            · exact .inl (q3 (by omega)))
        have K2 : ∀ x ∈ A2, ∀ y ∈ B1, dueK xs y < dueK xs x := cut_lt SA SB (by
          rcases hJ.out with h | ⟨x, y, h, h', h''⟩
          · rcases HHI.out with k | k
            · exact .inr (.inl (q4 (by omega)))
            · exact .inl (p3 (by omega))
          · by_cases h0 : 0 < e - m
            · exact .inr (.inr ⟨x, y, p1 y h0 (by rw [← h']; congr 1; omega), q2 x h, h''⟩)
            · exact .inl (p3 (by omega)))
        have LA1 : A1.length + a = s := by omega
        have LA2 : A2.length + s = m := by rw [hA12] at la1; simp at la1; omega
        have LB1 : B1.length + m = e := by omega
        have LB2 : B2.length + e = b := by rw [hB12] at lb1; simp at lb1; omega
        subst hA12
        subst hB12
        replace SA := Lib.hid SA
        replace SB := Lib.hid SB
        replace SC := Lib.hid SC
        replace SI := Lib.hid SI
        replace K1 := Lib.hid K1
        replace K2 := Lib.hid K2
        have g1 : s + e = mid + m := by omega
        have g2 : s ≤ m := by omega
        have g3 : m ≤ e := by omega
        have g4 : a ≤ s := by omega
        have g5 : e ≤ b := by omega
        have g6 : mid < b := by omega
        have g7 : a < mid := by omega
        clear la1 lb1 e1 e2 o3 he' hl1 hl2 q1 q2 q3 q4 p1 p2 p3 p4 hI hJ HLO HHI hlA hlB hcr hi hlt hsr hls hrh LA LB E1 E2 O3 O4 hpp hnm o1 o2
        by_cases h1 : a < s
        · by_cases h2 : s < m
          · by_cases h3 : m < e
            · by_cases h4 : e < b
              · have N1 : A1 ≠ [] := fun h => by rw [h] at LA1; simp at LA1; omega
                have N2 : 0 < A2.length := by omega
                have N3 : 0 < B1.length := by omega
                have N4 : 0 < B2.length := by omega
                have h5 : s < mid := by omega
                have h6 : mid < e := by omega
                clear N1
                have N1 : 0 < A1.length := by omega
                replace LA1 := Lib.hid LA1
                replace LA2 := Lib.hid LA2
                replace LB1 := Lib.hid LB1
                replace LB2 := Lib.hid LB2
                replace N1 := Lib.hid N1
                replace N2 := Lib.hid N2
                replace N3 := Lib.hid N3
                replace N4 := Lib.hid N4
                go_wp2_with fail
                refine (rotate_c base g n c _ (P ++ A1) A2 B1 (B2 ++ R) s m e (Lib.hid (by have := hP.out; have := LA1.out; simp; omega)) (Lib.hid (by have := LA2.out; omega)) (Lib.hid (by have := LB1.out; omega)) N2.out N3.out (by omega) hz _ (by simpa using hD)).mono ?_
                rintro e' W1 ⟨rfl, hD1, hg1⟩
                replace hg := grown_trans hg hg1
                clear hD hg1
                have hD : Dat base g n c W1 (P ++ (A1 ++ (B1 ++ (A2 ++ (B2 ++ R))))) := by simpa using hD1
                clear hD1
                go_wp2_with fail
                refine (ih P A1 B1 (A2 ++ (B2 ++ R)) a s mid (by have := LA1.out; have := LB1.out; omega) N1.out N3.out hP (Lib.hid (by have := LA1.out; omega)) (Lib.hid (by have := LB1.out; omega)) (Lib.hid (lx_append.1 SA.out).1) (Lib.hid (lx_append.1 SB.out).1) (Lib.hid (crs_parts SC.out).1) (Lib.hid (SI.out.sub (by intro x hx; rcases List.mem_append.1 hx with h | h <;> simp [h]))) (by omega) _ (hC.grown hg) (by simpa using hD)).mono ?_
                rintro e' W2 ⟨l, ⟨M1, rfl, hp1, hs1⟩, rfl, hD1, hg1⟩
                replace hg := grown_trans hg hg1
                clear hD hg1
                have hD : Dat base g n c W2 (P ++ (M1 ++ (A2 ++ (B2 ++ R)))) := by simpa using hD1
                clear hD1
                replace hp1 := Lib.hid hp1
                replace hs1 := Lib.hid hs1
                go_wp2_with fail
                refine (ih (P ++ M1) A2 B2 R mid e b (by have := LA2.out; have := LB2.out; omega) N2.out N4.out (Lib.hid (by have := hP.out; have := hp1.out.length_eq; have := LA1.out; have := LB1.out; simp at *; omega)) (Lib.hid (by have := LA2.out; omega)) (Lib.hid (by have := LB2.out; omega)) (Lib.hid (lx_append.1 SA.out).2.1) (Lib.hid (lx_append.1 SB.out).2.1) (Lib.hid (crs_parts SC.out).2) (Lib.hid (SI.out.sub (by intro x hx; rcases List.mem_append.1 hx with h | h <;> simp [h]))) (by omega) _ (hC.grown hg) (by simpa using hD)).mono ?_
                rintro e' W3 ⟨l, ⟨M2, rfl, hp2, hs2⟩, rfl, hD1, hg1⟩
                replace hg := grown_trans hg hg1
                clear hD hg1
                have hD : Dat base g n c W3 (P ++ (M1 ++ (M2 ++ R))) := by simpa using hD1
                clear hD1
                replace hp2 := Lib.hid hp2
                replace hs2 := Lib.hid hs2
                go_wp2_with fail
                go_end0
                obtain ⟨f1, f2⟩ := lx_join SC.out SA.out SB.out K1.out K2.out hp1.out hp2.out hs1.out hs2.out
                exact ⟨_, ⟨M1 ++ M2, rfl, f2, f1⟩, rfl, by simpa using hD, hg⟩
              · have N1 : A1 ≠ [] := fun h => by rw [h] at LA1; simp at LA1; omega
                have N2 : 0 < A2.length := by omega
                have N3 : 0 < B1.length := by omega
                have N4 : B2 = [] := List.eq_nil_of_length_eq_zero (by omega)
                have h5 : s < mid := by omega
                have h6 : mid < e := by omega
                clear N1
                have N1 : 0 < A1.length := by omega
                replace LA1 := Lib.hid LA1
                replace LA2 := Lib.hid LA2
                replace LB1 := Lib.hid LB1
                replace LB2 := Lib.hid LB2
                replace N1 := Lib.hid N1
                replace N2 := Lib.hid N2
                replace N3 := Lib.hid N3
                replace N4 := Lib.hid N4
                go_wp2_with fail
                refine (rotate_c base g n c _ (P ++ A1) A2 B1 (B2 ++ R) s m e (Lib.hid (by have := hP.out; have := LA1.out; simp; omega)) (Lib.hid (by have := LA2.out; omega)) (Lib.hid (by have := LB1.out; omega)) N2.out N3.out (by omega) hz _ (by simpa using hD)).mono ?_
                rintro e' W1 ⟨rfl, hD1, hg1⟩
                replace hg := grown_trans hg hg1
                clear hD hg1
                have hD : Dat base g n c W1 (P ++ (A1 ++ (B1 ++ (A2 ++ (B2 ++ R))))) := by simpa using hD1
                clear hD1
                go_wp2_with fail
                refine (ih P A1 B1 (A2 ++ (B2 ++ R)) a s mid (by have := LA1.out; have := LB1.out; omega) N1.out N3.out hP (Lib.hid (by have := LA1.out; omega)) (Lib.hid (by have := LB1.out; omega)) (Lib.hid (lx_append.1 SA.out).1) (Lib.hid (lx_append.1 SB.out).1) (Lib.hid (crs_parts SC.out).1) (Lib.hid (SI.out.sub (by intro x hx; rcases List.mem_append.1 hx with h | h <;> simp [h]))) (by omega) _ (hC.grown hg) (by simpa using hD)).mono ?_
                rintro e' W2 ⟨l, ⟨M1, rfl, hp1, hs1⟩, rfl, hD1, hg1⟩
                replace hg := grown_trans hg hg1
                clear hD hg1
                have hD : Dat base g n c W2 (P ++ (M1 ++ (A2 ++ (B2 ++ R)))) := by simpa using hD1
                clear hD1
                replace hp1 := Lib.hid hp1
                replace hs1 := Lib.hid hs1
                go_wp2_with fail
                obtain ⟨M2, hM2⟩ : ∃ M2, M2 = A2 ++ B2 := ⟨_, rfl⟩
                have hp2 := Lib.hid (show M2.Perm (A2 ++ B2) by rw [hM2])
                have hs2 := Lib.hid (show Lx (dueK xs) M2 by rw [hM2]; exact lx_or (lx_append.1 SA.out).2.1 (lx_append.1 SB.out).2.1 (.inr N4.out))
                have hD1 : Dat base g n c W2 (P ++ (M1 ++ (M2 ++ R))) := by rw [hM2]; simpa using hD
                clear hD hM2
                have hD := hD1
                clear hD1
                go_end0
                obtain ⟨f1, f2⟩ := lx_join SC.out SA.out SB.out K1.out K2.out hp1.out hp2.out hs1.out hs2.out
                exact ⟨_, ⟨M1 ++ M2, rfl, f2, f1⟩, rfl, by simpa using hD, hg⟩
            · by_cases h4 : e < b
              · have N1 : A1 ≠ [] := fun h => by rw [h] at LA1; simp at LA1; omega
                have N2 : 0 < A2.length := by omega
                have N3 : B1 = [] := List.eq_nil_of_length_eq_zero (by omega)
                have N4 : 0 < B2.length := by omega
                have h5 : ¬ s < mid := by omega
                have h6 : mid < e := by omega
                clear N1
                have N1 : 0 < A1.length := by omega
                replace LA1 := Lib.hid LA1
                replace LA2 := Lib.hid LA2
                replace LB1 := Lib.hid LB1
                replace LB2 := Lib.hid LB2
                replace N1 := Lib.hid N1
                replace N2 := Lib.hid N2
                replace N3 := Lib.hid N3
                replace N4 := Lib.hid N4
                go_wp2_with fail
                have hD1 : Dat base g n c wr (P ++ (A1 ++ (B1 ++ (A2 ++ (B2 ++ R))))) := by rw [N3.out] at hD ⊢; simpa using hD
                clear hD
                have hD := hD1
                clear hD1
                obtain ⟨M1, hM1⟩ : ∃ M1, M1 = A1 ++ B1 := ⟨_, rfl⟩
                have hp1 := Lib.hid (show M1.Perm (A1 ++ B1) by rw [hM1])
                have hs1 := Lib.hid (show Lx (dueK xs) M1 by rw [hM1]; exact lx_or (lx_append.1 SA.out).1 (lx_append.1 SB.out).1 (.inr N3.out))
                have hD1 : Dat base g n c wr (P ++ (M1 ++ (A2 ++ (B2 ++ R)))) := by rw [hM1]; simpa using hD
                clear hD hM1
                have hD := hD1
                clear hD1
                refine (ih (P ++ M1) A2 B2 R mid e b (by have := LA2.out; have := LB2.out; omega) N2.out N4.out (Lib.hid (by have := hP.out; have := hp1.out.length_eq; have := LA1.out; have := LB1.out; simp at *; omega)) (Lib.hid (by have := LA2.out; omega)) (Lib.hid (by have := LB2.out; omega)) (Lib.hid (lx_append.1 SA.out).2.1) (Lib.hid (lx_append.1 SB.out).2.1) (Lib.hid (crs_parts SC.out).2) (Lib.hid (SI.out.sub (by intro x hx; rcases List.mem_append.1 hx with h | h <;> simp [h]))) (by omega) _ (hC.grown hg) (by simpa using hD)).mono ?_
                rintro e' W3 ⟨l, ⟨M2, rfl, hp2, hs2⟩, rfl, hD1, hg1⟩
                replace hg := grown_trans hg hg1
                clear hD hg1
                have hD : Dat base g n c W3 (P ++ (M1 ++ (M2 ++ R))) := by simpa using hD1
                clear hD1
                replace hp2 := Lib.hid hp2
                replace hs2 := Lib.hid hs2
                go_wp2_with fail
                go_end0
                obtain ⟨f1, f2⟩ := lx_join SC.out SA.out SB.out K1.out K2.out hp1.out hp2.out hs1.out hs2.out
                exact ⟨_, ⟨M1 ++ M2, rfl, f2, f1⟩, rfl, by simpa using hD, hg⟩
              · exfalso; omega
          · by_cases h3 : m < e
            · by_cases h4 : e < b
              · have N1 : A1 ≠ [] := fun h => by rw [h] at LA1; simp at LA1; omega
                have N2 : A2 = [] := List.eq_nil_of_length_eq_zero (by omega)
                have N3 : 0 < B1.length := by omega
                have N4 : 0 < B2.length := by omega
                have h5 : s < mid := by omega
                have h6 : ¬ mid < e := by omega
                clear N1
                have N1 : 0 < A1.length := by omega
                replace LA1 := Lib.hid LA1
                replace LA2 := Lib.hid LA2
                replace LB1 := Lib.hid LB1
                replace LB2 := Lib.hid LB2
                replace N1 := Lib.hid N1
                replace N2 := Lib.hid N2
                replace N3 := Lib.hid N3
                replace N4 := Lib.hid N4
                go_wp2_with fail
                have hD1 : Dat base g n c wr (P ++ (A1 ++ (B1 ++ (A2 ++ (B2 ++ R))))) := by rw [N2.out] at hD ⊢; simpa using hD
                clear hD
                have hD := hD1
                clear hD1
                refine (ih P A1 B1 (A2 ++ (B2 ++ R)) a s mid (by have := LA1.out; have := LB1.out; omega) N1.out N3.out hP (Lib.hid (by have := LA1.out; omega)) (Lib.hid (by have := LB1.out; omega)) (Lib.hid (lx_append.1 SA.out).1) (Lib.hid (lx_append.1 SB.out).1) (Lib.hid (crs_parts SC.out).1) (Lib.hid (SI.out.sub (by intro x hx; rcases List.mem_append.1 hx with h | h <;> simp [h]))) (by omega) _ (hC.grown hg) (by simpa using hD)).mono ?_
                rintro e' W2 ⟨l, ⟨M1, rfl, hp1, hs1⟩, rfl, hD1, hg1⟩
                replace hg := grown_trans hg hg1
                clear hD hg1
                have hD : Dat base g n c W2 (P ++ (M1 ++ (A2 ++ (B2 ++ R)))) := by simpa using hD1
                clear hD1
                replace hp1 := Lib.hid hp1
                replace hs1 := Lib.hid hs1
                go_wp2_with fail
                obtain ⟨M2, hM2⟩ : ∃ M2, M2 = A2 ++ B2 := ⟨_, rfl⟩
                have hp2 := Lib.hid (show M2.Perm (A2 ++ B2) by rw [hM2])
                have hs2 := Lib.hid (show Lx (dueK xs) M2 by rw [hM2]; exact lx_or (lx_append.1 SA.out).2.1 (lx_append.1 SB.out).2.1 (.inl N2.out))
                have hD1 : Dat base g n c W2 (P ++ (M1 ++ (M2 ++ R))) := by rw [hM2]; simpa using hD
                clear hD hM2
                have hD := hD1
                clear hD1
                go_end0
                obtain ⟨f1, f2⟩ := lx_join SC.out SA.out SB.out K1.out K2.out hp1.out hp2.out hs1.out hs2.out
                exact ⟨_, ⟨M1 ++ M2, rfl, f2, f1⟩, rfl, by simpa using hD, hg⟩
              · have N1 : A1 ≠ [] := fun h => by rw [h] at LA1; simp at LA1; omega
                have N2 : A2 = [] := List.eq_nil_of_length_eq_zero (by omega)
                have N3 : 0 < B1.length := by omega
                have N4 : B2 = [] := List.eq_nil_of_length_eq_zero (by omega)
                have h5 : s < mid := by omega
                have h6 : ¬ mid < e := by omega
                clear N1
                have N1 : 0 < A1.length := by omega
                replace LA1 := Lib.hid LA1
                replace LA2 := Lib.hid LA2
                replace LB1 := Lib.hid LB1
                replace LB2 := Lib.hid LB2
                replace N1 := Lib.hid N1
                replace N2 := Lib.hid N2
                replace N3 := Lib.hid N3
                replace N4 := Lib.hid N4
                go_wp2_with fail
                have hD1 : Dat base g n c wr (P ++ (A1 ++ (B1 ++ (A2 ++ (B2 ++ R))))) := by rw [N2.out] at hD ⊢; simpa using hD
                clear hD
                have hD := hD1
                clear hD1
                refine (ih P A1 B1 (A2 ++ (B2 ++ R)) a s mid (by have := LA1.out; have := LB1.out; omega) N1.out N3.out hP (Lib.hid (by have := LA1.out; omega)) (Lib.hid (by have := LB1.out; omega)) (Lib.hid (lx_append.1 SA.out).1) (Lib.hid (lx_append.1 SB.out).1) (Lib.hid (crs_parts SC.out).1) (Lib.hid (SI.out.sub (by intro x hx; rcases List.mem_append.1 hx with h | h <;> simp [h]))) (by omega) _ (hC.grown hg) (by simpa using hD)).mono ?_
                rintro e' W2 ⟨l, ⟨M1, rfl, hp1, hs1⟩, rfl, hD1, hg1⟩
                replace hg := grown_trans hg hg1
                clear hD hg1
                have hD : Dat base g n c W2 (P ++ (M1 ++ (A2 ++ (B2 ++ R)))) := by simpa using hD1
                clear hD1
                replace hp1 := Lib.hid hp1
                replace hs1 := Lib.hid hs1
                go_wp2_with fail
                obtain ⟨M2, hM2⟩ : ∃ M2, M2 = A2 ++ B2 := ⟨_, rfl⟩
                have hp2 := Lib.hid (show M2.Perm (A2 ++ B2) by rw [hM2])
                have hs2 := Lib.hid (show Lx (dueK xs) M2 by rw [hM2]; exact lx_or (lx_append.1 SA.out).2.1 (lx_append.1 SB.out).2.1 (.inl N2.out))
                have hD1 : Dat base g n c W2 (P ++ (M1 ++ (M2 ++ R))) := by rw [hM2]; simpa using hD
                clear hD hM2
                have hD := hD1
                clear hD1
                go_end0
                obtain ⟨f1, f2⟩ := lx_join SC.out SA.out SB.out K1.out K2.out hp1.out hp2.out hs1.out hs2.out
                exact ⟨_, ⟨M1 ++ M2, rfl, f2, f1⟩, rfl, by simpa using hD, hg⟩
            · by_cases h4 : e < b
              · have N1 : A1 ≠ [] := fun h => by rw [h] at LA1; simp at LA1; omega
                have N2 : A2 = [] := List.eq_nil_of_length_eq_zero (by omega)
                have N3 : B1 = [] := List.eq_nil_of_length_eq_zero (by omega)
                have N4 : 0 < B2.length := by omega
                have h5 : ¬ s < mid := by omega
                have h6 : ¬ mid < e := by omega
                clear N1
                have N1 : 0 < A1.length := by omega
                replace LA1 := Lib.hid LA1
                replace LA2 := Lib.hid LA2
                replace LB1 := Lib.hid LB1
                replace LB2 := Lib.hid LB2
                replace N1 := Lib.hid N1
                replace N2 := Lib.hid N2
                replace N3 := Lib.hid N3
                replace N4 := Lib.hid N4
                go_wp2_with fail
                have hD1 : Dat base g n c wr (P ++ (A1 ++ (B1 ++ (A2 ++ (B2 ++ R))))) := by rw [N2.out] at hD ⊢; simpa using hD
                clear hD
                have hD := hD1
                clear hD1
                obtain ⟨M1, hM1⟩ : ∃ M1, M1 = A1 ++ B1 := ⟨_, rfl⟩
                have hp1 := Lib.hid (show M1.Perm (A1 ++ B1) by rw [hM1])
                have hs1 := Lib.hid (show Lx (dueK xs) M1 by rw [hM1]; exact lx_or (lx_append.1 SA.out).1 (lx_append.1 SB.out).1 (.inr N3.out))
                have hD1 : Dat base g n c wr (P ++ (M1 ++ (A2 ++ (B2 ++ R)))) := by rw [hM1]; simpa using hD
                clear hD hM1
                have hD := hD1
                clear hD1
                obtain ⟨M2, hM2⟩ : ∃ M2, M2 = A2 ++ B2 := ⟨_, rfl⟩
                have hp2 := Lib.hid (show M2.Perm (A2 ++ B2) by rw [hM2])
                have hs2 := Lib.hid (show Lx (dueK xs) M2 by rw [hM2]; exact lx_or (lx_append.1 SA.out).2.1 (lx_append.1 SB.out).2.1 (.inl N2.out))
                have hD1 : Dat base g n c wr (P ++ (M1 ++ (M2 ++ R))) := by rw [hM2]; simpa using hD
                clear hD hM2
                have hD := hD1
                clear hD1
                go_end0
                obtain ⟨f1, f2⟩ := lx_join SC.out SA.out SB.out K1.out K2.out hp1.out hp2.out hs1.out hs2.out
                exact ⟨_, ⟨M1 ++ M2, rfl, f2, f1⟩, rfl, by simpa using hD, hg⟩
              · exfalso; omega
        · by_cases h2 : s < m
          · by_cases h3 : m < e
            · by_cases h4 : e < b
              · have N1 : A1 = [] := List.eq_nil_of_length_eq_zero (by omega)
                have N2 : 0 < A2.length := by omega
                have N3 : 0 < B1.length := by omega
                have N4 : 0 < B2.length := by omega
                have h5 : s < mid := by omega
                have h6 : mid < e := by omega
                replace LA1 := Lib.hid LA1
                replace LA2 := Lib.hid LA2
                replace LB1 := Lib.hid LB1
                replace LB2 := Lib.hid LB2
                replace N1 := Lib.hid N1
                replace N2 := Lib.hid N2
                replace N3 := Lib.hid N3
                replace N4 := Lib.hid N4
                go_wp2_with fail
                refine (rotate_c base g n c _ (P ++ A1) A2 B1 (B2 ++ R) s m e (Lib.hid (by have := hP.out; have := LA1.out; simp; omega)) (Lib.hid (by have := LA2.out; omega)) (Lib.hid (by have := LB1.out; omega)) N2.out N3.out (by omega) hz _ (by simpa using hD)).mono ?_
                rintro e' W1 ⟨rfl, hD1, hg1⟩
                replace hg := grown_trans hg hg1
                clear hD hg1
                have hD : Dat base g n c W1 (P ++ (A1 ++ (B1 ++ (A2 ++ (B2 ++ R))))) := by simpa using hD1
                clear hD1
                go_wp2_with fail
                obtain ⟨M1, hM1⟩ : ∃ M1, M1 = A1 ++ B1 := ⟨_, rfl⟩
                have hp1 := Lib.hid (show M1.Perm (A1 ++ B1) by rw [hM1])
                have hs1 := Lib.hid (show Lx (dueK xs) M1 by rw [hM1]; exact lx_or (lx_append.1 SA.out).1 (lx_append.1 SB.out).1 (.inl N1.out))
                have hD1 : Dat base g n c W1 (P ++ (M1 ++ (A2 ++ (B2 ++ R)))) := by rw [hM1]; simpa using hD
                clear hD hM1
                have hD := hD1
                clear hD1
                refine (ih (P ++ M1) A2 B2 R mid e b (by have := LA2.out; have := LB2.out; omega) N2.out N4.out (Lib.hid (by have := hP.out; have := hp1.out.length_eq; have := LA1.out; have := LB1.out; simp at *; omega)) (Lib.hid (by have := LA2.out; omega)) (Lib.hid (by have := LB2.out; omega)) (Lib.hid (lx_append.1 SA.out).2.1) (Lib.hid (lx_append.1 SB.out).2.1) (Lib.hid (crs_parts SC.out).2) (Lib.hid (SI.out.sub (by intro x hx; rcases List.mem_append.1 hx with h | h <;> simp [h]))) (by omega) _ (hC.grown hg) (by simpa using hD)).mono ?_
                rintro e' W3 ⟨l, ⟨M2, rfl, hp2, hs2⟩, rfl, hD1, hg1⟩
                replace hg := grown_trans hg hg1
                clear hD hg1
                have hD : Dat base g n c W3 (P ++ (M1 ++ (M2 ++ R))) := by simpa using hD1
                clear hD1
                replace hp2 := Lib.hid hp2
                replace hs2 := Lib.hid hs2
                go_wp2_with fail
                go_end0
                obtain ⟨f1, f2⟩ := lx_join SC.out SA.out SB.out K1.out K2.out hp1.out hp2.out hs1.out hs2.out
                exact ⟨_, ⟨M1 ++ M2, rfl, f2, f1⟩, rfl, by simpa using hD, hg⟩
              · have N1 : A1 = [] := List.eq_nil_of_length_eq_zero (by omega)
                have N2 : 0 < A2.length := by omega
                have N3 : 0 < B1.length := by omega
                have N4 : B2 = [] := List.eq_nil_of_length_eq_zero (by omega)
                have h5 : s < mid := by omega
                have h6 : mid < e := by omega
                replace LA1 := Lib.hid LA1
                replace LA2 := Lib.hid LA2
                replace LB1 := Lib.hid LB1
                replace LB2 := Lib.hid LB2
                replace N1 := Lib.hid N1
                replace N2 := Lib.hid N2
                replace N3 := Lib.hid N3
                replace N4 := Lib.hid N4
                go_wp2_with fail
                refine (rotate_c base g n c _ (P ++ A1) A2 B1 (B2 ++ R) s m e (Lib.hid (by have := hP.out; have := LA1.out; simp; omega)) (Lib.hid (by have := LA2.out; omega)) (Lib.hid (by have := LB1.out; omega)) N2.out N3.out (by omega) hz _ (by simpa using hD)).mono ?_
                rintro e' W1 ⟨rfl, hD1, hg1⟩
                replace hg := grown_trans hg hg1
                clear hD hg1
                have hD : Dat base g n c W1 (P ++ (A1 ++ (B1 ++ (A2 ++ (B2 ++ R))))) := by simpa using hD1
                clear hD1
                go_wp2_with fail
                obtain ⟨M1, hM1⟩ : ∃ M1, M1 = A1 ++ B1 := ⟨_, rfl⟩
                have hp1 := Lib.hid (show M1.Perm (A1 ++ B1) by rw [hM1])
                have hs1 := Lib.hid (show Lx (dueK xs) M1 by rw [hM1]; exact lx_or (lx_append.1 SA.out).1 (lx_append.1 SB.out).1 (.inl N1.out))
                have hD1 : Dat base g n c W1 (P ++ (M1 ++ (A2 ++ (B2 ++ R)))) := by rw [hM1]; simpa using hD
                clear hD hM1
                have hD := hD1
                clear hD1
                obtain ⟨M2, hM2⟩ : ∃ M2, M2 = A2 ++ B2 := ⟨_, rfl⟩
                have hp2 := Lib.hid (show M2.Perm (A2 ++ B2) by rw [hM2])
                have hs2 := Lib.hid (show Lx (dueK xs) M2 by rw [hM2]; exact lx_or (lx_append.1 SA.out).2.1 (lx_append.1 SB.out).2.1 (.inr N4.out))
                have hD1 : Dat base g n c W1 (P ++ (M1 ++ (M2 ++ R))) := by rw [hM2]; simpa using hD
                clear hD hM2
                have hD := hD1
                clear hD1
                go_end0
                obtain ⟨f1, f2⟩ := lx_join SC.out SA.out SB.out K1.out K2.out hp1.out hp2.out hs1.out hs2.out
                exact ⟨_, ⟨M1 ++ M2, rfl, f2, f1⟩, rfl, by simpa using hD, hg⟩
            · by_cases h4 : e < b
              · have N1 : A1 = [] := List.eq_nil_of_length_eq_zero (by omega)
                have N2 : 0 < A2.length := by omega
                have N3 : B1 = [] := List.eq_nil_of_length_eq_zero (by omega)
                have N4 : 0 < B2.length := by omega
                have h5 : ¬ s < mid := by omega
                have h6 : mid < e := by omega
                replace LA1 := Lib.hid LA1
                replace LA2 := Lib.hid LA2
                replace LB1 := Lib.hid LB1
                replace LB2 := Lib.hid LB2
                replace N1 := Lib.hid N1
                replace N2 := Lib.hid N2
                replace N3 := Lib.hid N3
                replace N4 := Lib.hid N4
                go_wp2_with fail
                have hD1 : Dat base g n c wr (P ++ (A1 ++ (B1 ++ (A2 ++ (B2 ++ R))))) := by rw [N3.out] at hD ⊢; simpa using hD
                clear hD
                have hD := hD1
                clear hD1
                obtain ⟨M1, hM1⟩ : ∃ M1, M1 = A1 ++ B1 := ⟨_, rfl⟩
                have hp1 := Lib.hid (show M1.Perm (A1 ++ B1) by rw [hM1])
                have hs1 := Lib.hid (show Lx (dueK xs) M1 by rw [hM1]; exact lx_or (lx_append.1 SA.out).1 (lx_append.1 SB.out).1 (.inl N1.out))
                have hD1 : Dat base g n c wr (P ++ (M1 ++ (A2 ++ (B2 ++ R)))) := by rw [hM1]; simpa using hD
                clear hD hM1
                have hD := hD1
                clear hD1
                refine (ih (P ++ M1) A2 B2 R mid e b (by have := LA2.out; have := LB2.out; omega) N2.out N4.out (Lib.hid (by have := hP.out; have := hp1.out.length_eq; have := LA1.out; have := LB1.out; simp at *; omega)) (Lib.hid (by have := LA2.out; omega)) (Lib.hid (by have := LB2.out; omega)) (Lib.hid (lx_append.1 SA.out).2.1) (Lib.hid (lx_append.1 SB.out).2.1) (Lib.hid (crs_parts SC.out).2) (Lib.hid (SI.out.sub (by intro x hx; rcases List.mem_append.1 hx with h | h <;> simp [h]))) (by omega) _ (hC.grown hg) (by simpa using hD)).mono ?_
                rintro e' W3 ⟨l, ⟨M2, rfl, hp2, hs2⟩, rfl, hD1, hg1⟩
                replace hg := grown_trans hg hg1
                clear hD hg1
                have hD : Dat base g n c W3 (P ++ (M1 ++ (M2 ++ R))) := by simpa using hD1
                clear hD1
                replace hp2 := Lib.hid hp2
                replace hs2 := Lib.hid hs2
                go_wp2_with fail
                go_end0
                obtain ⟨f1, f2⟩ := lx_join SC.out SA.out SB.out K1.out K2.out hp1.out hp2.out hs1.out hs2.out
                exact ⟨_, ⟨M1 ++ M2, rfl, f2, f1⟩, rfl, by simpa using hD, hg⟩
              · exfalso; omega
          · by_cases h3 : m < e
            · by_cases h4 : e < b
              · exfalso; omega
              · exfalso; omega
            · by_cases h4 : e < b
              · exfalso; omega
              · exfalso; omega

end Go.Proofs.Ytggficacnmddiaa
