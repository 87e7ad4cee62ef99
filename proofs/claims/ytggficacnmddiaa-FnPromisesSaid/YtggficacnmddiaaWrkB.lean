/- The orders that are worked on, by the days on which they are promised: the reference's. -/
import Derived.Test.YtggficacnmddiaaWrkA
namespace Go.Proofs.Ytggficacnmddiaa
open Go.RowKit

theorem Arr.drop_ {w : World} {ad : Addr} {cs : List Value} (h : Arr w (some ad) cs) (k : Nat) : Arr w (some (ad.add k)) (cs.drop k) := fun hn => by
  obtain ⟨ad', e, hb, hc⟩ := h (by simp at hn; omega)
  injection e with e
  subst e
  refine ⟨_, rfl, by rw [block_of_add]; exact hb, fun j u hu => ?_⟩
  rw [add_of_add]
  exact hc (k + j) u (by rw [List.getElem?_drop] at hu; exact hu)
theorem flat_icell_take (l : List Int) (k : Nat) : (flat icell l).take k = flat icell (l.take k) := by
  refine List.ext_getElem? fun i => ?_
  rw [List.getElem?_take, flat_icell_get, flat_icell_get, List.getElem?_take]
  split <;> rfl
theorem flat_icell_drop (l : List Int) (k : Nat) : (flat icell l).drop k = flat icell (l.drop k) := by
  refine List.ext_getElem? fun i => ?_
  rw [List.getElem?_drop, flat_icell_get, flat_icell_get, List.getElem?_drop]
theorem icell_ones (l : List Int) : ∀ u ∈ flat icell l, u.oneCell' = true := by
  intro u hu
  simp only [flat, List.mem_flatMap, icell, List.mem_singleton] at hu
  obtain ⟨x, _, rfl⟩ := hu
  rfl
set_option maxRecDepth 100000 in
set_option maxHeartbeats 800000 in
theorem l00Own_c (ad : Addr) (l : List Int) (n c : Nat) (hn : Hid (l.length = n)) (hm : (n : Int) ≤ 1048576) (w : World) (hA : Arr w (some ad) (flat icell l)) :
    Calls Try.prog 36 #[.slice (some ad) n c] w (OutC 2 1 n (flat icell l) w) := by
  obtain ⟨i0, hi0, hz0, hz1, hz2⟩ := info_parts (P := Try.prog) (e := 2) (z := .int .i64 0) (size := 1) (bytes := 8) info_i64W
  have hlen : (flat icell l).length = n * 1 := by rw [flat_icell_len, Nat.mul_one]; exact hn.out
  go_enter Try.func36, Try.ntmps36
  go_wp2_with (at_builtin; refine app_many _ rfl _ _ 31 2 rfl i0 _ 1 8 Try.underlying31 hi0 hz0 hz1 hz2 rfl (by omega) w.heap.size _ 0 [] rfl (own_empty w _ _ _ (Nat.le_refl _)) ad n c (flat icell l) rfl (hA.alloc _) hlen (icell_ones l) (by unfold maxLen; omega) (by omega) (by simp) ?_; intro A2 c2 w2 hown2 hg2)
  go_returns
  simp only [Nat.zero_add, List.nil_append] at hown2 ⊢
  exact ⟨A2, c2, rfl, hown2, bl_grown (bl_alloc (Below.refl _ _) _) hg2 (own_at (own_empty w w.heap.size 2 1 (Nat.le_refl _)))⟩
def codeD (xs : List Order) (day : Int) : Int := if ordsB xs = true then (if inB day 0 10000 = true then 0 else 2) else 1
set_option maxHeartbeats 800000 in
theorem ordersCode_c (A : Option Addr) (xs : List Order) (n c : Nat) (day : Int) (hn : Hid (xs.length = n)) (hm : (n : Int) ≤ 1048576) (hs : Hid (∀ x ∈ xs, x.customer.size ≤ 9223372036854775807)) (w : World) (hA : Arr w A (flat Order.cells xs)) : Calls Try.prog 22 #[.slice A n c, .int .i64 day] w (Ret (.int .i64 (codeD xs day)) w) := by
  go_enter Try.func22, Try.ntmps22
  go_wp2_with fail
  refine (ValidOrders_c A xs n c hn hm hs _ hA).mono ?_
  rintro e W ⟨rfl, hv⟩
  cases ho : ordsB xs
  · have HO := Lib.hid ho
    clear ho
    go_wp2_with fail
    go_returns
    exact Ret.mk (vi (by rw [codeD, HO.out]; rfl)) hv
  · have HO := Lib.hid ho
    clear ho
    cases hi : inB day 0 10000
    · have HI := Lib.hid hi
      have hin := fun w => within_c day 0 10000 w
      rw [hi] at hin
      replace hin := Lib.hid hin
      clear hi
      go_wp2_with fail
      refine (hin.out _).mono ?_
      rintro e w' ⟨rfl, rfl⟩
      go_wp2_with fail
      go_returns
      exact Ret.mk (vi (by rw [codeD, HO.out, HI.out]; rfl)) hv
    · have HI := Lib.hid hi
      have hin := fun w => within_c day 0 10000 w
      rw [hi] at hin
      replace hin := Lib.hid hin
      clear hi
      go_wp2_with fail
      refine (hin.out _).mono ?_
      rintro e w' ⟨rfl, rfl⟩
      go_wp2_with fail
      go_returns
      exact Ret.mk (vi (by rw [codeD, HO.out, HI.out]; rfl)) hv
set_option maxHeartbeats 800000 in
theorem l25Code_c (A : Option Addr) (xs : List Order) (n c : Nat) (day : Int) (hn : Hid (xs.length = n)) (hm : (n : Int) ≤ 1048576) (hs : Hid (∀ x ∈ xs, x.customer.size ≤ 9223372036854775807)) (w : World) (hA : Arr w A (flat Order.cells xs)) : Calls Try.prog 25 #[.slice A n c, .int .i64 day] w (Ret (.int .i64 (codeD xs day)) w) := by
  go_enter Try.func25, Try.ntmps25
  go_wp2_with fail
  refine (l25Ok_c A xs n c hn hm hs _ hA).mono ?_
  rintro e W ⟨rfl, hv⟩
  cases ho : ordsB xs
  · have HO := Lib.hid ho
    clear ho
    go_wp2_with fail
    go_returns
    exact Ret.mk (vi (by rw [codeD, HO.out]; rfl)) hv
  · have HO := Lib.hid ho
    clear ho
    cases hi : inB day 0 10000
    · have HI := Lib.hid hi
      have hin := fun w => l25Day_c day w
      rw [hi] at hin
      replace hin := Lib.hid hin
      clear hi
      go_wp2_with fail
      refine (hin.out _).mono ?_
      rintro e w' ⟨rfl, rfl⟩
      go_wp2_with fail
      go_returns
      exact Ret.mk (vi (by rw [codeD, HO.out, HI.out]; rfl)) hv
    · have HI := Lib.hid hi
      have hin := fun w => l25Day_c day w
      rw [hi] at hin
      replace hin := Lib.hid hin
      clear hi
      go_wp2_with fail
      refine (hin.out _).mono ?_
      rintro e w' ⟨rfl, rfl⟩
      go_wp2_with fail
      go_returns
      exact Ret.mk (vi (by rw [codeD, HO.out, HI.out]; rfl)) hv

set_option maxRecDepth 100000 in
set_option maxHeartbeats 3200000 in
theorem l25Work_c (A : Option Addr) (xs : List Order) (n c : Nat) (hn : Hid (xs.length = n)) (hm : n ≤ 30) (hl : Hid (∀ x ∈ xs, 0 ≤ x.left)) (w : World) (hA : Arr w A (flat Order.cells xs)) :
    Calls Try.prog 27 #[.slice A n c] w (OutC 2 1 (workL xs).length (flat icell (workL xs)) w) := by
  obtain ⟨i0, hi0, hz0, hz1, hz2⟩ := info_parts (P := Try.prog) (e := 2) (z := .int .i64 0) (size := 1) (bytes := 8) info_i64W
  go_enter Try.func27, Try.ntmps27
  go_wp2_with fail
  obtain ⟨W1, hW1⟩ : ∃ W1, W1 = w.alloc (Obj.cells #[] 2) := ⟨_, rfl⟩
  obtain ⟨g1, hg1⟩ : ∃ g1, g1 = w.heap.size := ⟨_, rfl⟩
  have hb1 : Below w.heap.size w W1 := by rw [hW1]; exact bl_alloc (Below.refl _ _) _
  have hown : W1.ownsRow w.heap.size 2 1 (.slice (some ⟨g1, 0, none⟩) 0 0) 0 [] := by rw [hW1, hg1]; exact own_empty w _ _ _ (Nat.le_refl _)
  rw [← hW1, ← hg1]
  clear hW1 hg1
  go_loopw [3, 4] (fun v i wr => ∃ (k j g' c' : Nat) (l : List Int), k ≤ n ∧ j ≤ k ∧ i = .int .i64 k ∧ v = .slice (some ⟨g', 0, none⟩) j c' ∧ wr.ownsRow w.heap.size 2 1 (.slice (some ⟨g', 0, none⟩) j c') j (flat icell l) ∧ Hid (l.Perm (idxL (xs.take k))) ∧ Hid (Lx (dueK xs) l) ∧ Below w.heap.size w wr) (fun _ i _ => n - (intOf i).toNat)
  case atStart => exact ⟨0, 0, g1, 0, [], by omega, by omega, rfl, rfl, by simpa [flat] using hown, Lib.hid (List.Perm.refl _), Lib.hid lx_nil, hb1⟩
  case round =>
    clear hown hb1
    obtain ⟨k, j, g', c', l, hk, hjk, rfl, rfl, hown, hp, hx0, hv⟩ := hrel
    by_cases hlt : k < n
    · obtain ⟨x, hx⟩ := get_of_lt (xs := xs) (k := k) (by rw [hn.out]; exact hlt)
      obtain ⟨ad, rfl, hab, c0, c1, c2, c3, c4, c5⟩ := Order.at_ (hA.below hv) hx
      have HS := Lib.hid (idxL_step hx)
      have hx1 := hl.out x (List.mem_of_getElem? hx)
      have HX := Lib.hid hx
      have HDX := Lib.hid (show dueK xs k = x.due by unfold dueK; simp [hx])
      clear hx
      by_cases hl0 : x.left = 0
      · have HS2 := Lib.hid (HS.out.trans (by rw [if_neg (by omega)]; simp : _ = idxL (xs.take k)))
        have hbe : (x.left == 0) = true := by simpa using hl0
        go_wp2_with fail
        exact ⟨⟨k + 1, j, g', c', l, by omega, by omega, by go_num, rfl, hown, Lib.hid (by rw [HS2.out]; exact hp.out), hx0, hv⟩, by simp [intOf]; omega⟩
      · have HS2 := Lib.hid (HS.out.trans (by rw [if_pos (by omega)] : _ = idxL (xs.take k) ++ [(k : Int)]))
        have hbe : (x.left == 0) = false := by simpa using hl0
        have hlj : Hid (l.length = j) := Lib.hid (by have := hown.1; rw [flat_icell_len, Nat.mul_one] at this; exact this)
        have hiR : Hid (∀ z ∈ l, ∃ q y, z = ((q : Nat) : Int) ∧ xs[q]? = some y ∧ q < n ∧ z < (k : Int)) := Lib.hid (by
          intro z hz
          obtain ⟨q, y, h1, h2, _⟩ := idxGo_mem _ 0 z (hp.out.mem_iff.1 hz)
          have h3 := (List.getElem?_eq_some_iff.1 h2).1
          simp at h3
          refine ⟨q, y, by rw [h1]; congr 1; omega, ?_, by have := hn.out; omega, by rw [h1]; omega⟩
          rw [List.getElem?_take, if_pos (by omega)] at h2
          exact h2)
        go_wp2_with fail
        go_loopw [5] (fun kv wq => ∃ kk : Nat, kk ≤ j ∧ kv = .int .i64 kk ∧ Hid (∀ z ∈ l.drop kk, x.due < dueK xs z) ∧ wq.ownsRow w.heap.size 2 1 (.slice (some ⟨g', 0, none⟩) j c') j (flat icell l) ∧ Below w.heap.size w wq) (fun kv _ => (intOf kv).toNat)
        case atStart => exact ⟨j, by omega, rfl, Lib.hid (by rw [List.drop_eq_nil_of_le (by rw [hlj.out]; exact Nat.le_refl _)]; simp), hown, hv⟩
        case round =>
          clear hown hv c0 c1 c2 c3 c4 c5 hab
          obtain ⟨kk, hkk, rfl, hdr, hown, hv⟩ := hrel
          obtain ⟨ad', e', hab, c0, c1, c2, c3, c4, c5⟩ := Order.at_ (hA.below hv) HX.out
          injection e' with e'
          subst e'
          have hjc : j ≤ c' := by
            obtain ⟨A', cc, e, h1, _⟩ := own_form hown
            simp only [Value.slice.injEq] at e
            omega
          have hkc : kk ≤ c' := by omega
          have hq0 : (0 : Int) ≤ (k : Int) := by omega
          have hq1 : (k : Int) < (n : Int) := by omega
          by_cases hkz : kk = 0
          · subst hkz
            have hle : Hid (∀ z ∈ l.take 0, dueK xs z ≤ x.due) := Lib.hid (by simp)
            have hgz : decide ((0 : Int) > 0) = false := by simp
            by_cases hkc2 : c' = 0
            · go_wp2_with fail
              go_quiet (fail)
              go_wp2_with fail
              have hvq := below_drewN hv nq
              have hownq := own_below hown (below_drewN (Below.refl _ _) nq)
              have hAq := Arr.own hownq
              have hA1 : Arr (wr.drewN nq) (some ⟨g', 0, none⟩) (flat icell (l.take 0)) := by rw [← flat_icell_take]; exact hAq.take 0
              have l1 := Lib.hid (show (l.take 0).length = 0 by simp)
              have hgq := own_lt hownq g' rfl
              refine (l00Own_c ⟨g', 0, none⟩ (l.take 0) 0 0 l1 (by omega) _ hA1).mono ?_
              rintro e W2 ⟨A2, c2', rfl, hown2', hb2⟩
              have hfar := own_at hown2'
              have hv2 := bl_trans hvq hb2
              have hown2 := own_base hown2' hvq.size
              have hown3 := own_below hownq hb2
              clear hvq hownq hAq hA1 hown2' hown hv c0 c1 c2 c3 c4 c5
              have hA3 : Arr W2 (some ⟨g', 0, none⟩) (flat icell (l.drop 0)) := by rw [List.drop_eq_nil_of_le (by have := hlj.out; omega)]; exact Arr.nil _ _
              have l2 := Lib.hid (show (flat icell (l.drop 0)).length = (j - 0) * 1 by rw [flat_icell_len]; have := hlj.out; simp; omega)
              go_wp2_with (at_builtin; first | (refine app_own _ _ rfl _ _ 31 2 rfl i0 _ 1 8 Try.underlying31 hi0 hz0 hz1 hz2 rfl (by omega) _ (.slice A2 0 c2') 0 _ rfl rfl hown2 rfl (by simp [Value.oneCell']) (by unfold maxLen; omega) (by omega) hv2.size ?_; intro A4 c4 w4 hown4 hg4; have hA4 := hA3.grown hg4 (fun ad e => by injection e with e; subst e; intro h; exact absurd (hfar g' h.symm) (by omega)); have hv4 := bl_grown hv2 hg4 (own_at hown2)) | (refine app_many _ rfl _ _ 31 2 rfl i0 _ 1 8 Try.underlying31 hi0 hz0 hz1 hz2 rfl (by omega) _ (.slice A4 (0 + 1) c4) (0 + 1) _ rfl hown4 _ (j - 0) _ (flat icell (l.drop 0)) rfl hA4 l2.out (icell_ones _) (by unfold maxLen; omega) (by omega) hv4.size ?_; intro A6 c6 w6 hown6 hg6))
              obtain ⟨g6, hA6⟩ := own_addr hown6 (by omega)
              subst hA6
              have e6 : flat icell (l.take 0 ++ (k : Int) :: l.drop 0) = flat icell (l.take 0) ++ #[Value.int IntKind.i64 ↑k].toList ++ flat icell (l.drop 0) := by simp [flat, icell]
              refine ⟨⟨k + 1, 0 + 1 + (j - 0), g6, c6, l.take 0 ++ (k : Int) :: l.drop 0, by omega, by omega, by go_num, by first | rfl | simp, ?_, Lib.hid ?_, Lib.hid ?_, bl_grown hv4 hg6 (own_at hown4)⟩, by simp [intOf]; omega⟩
              · rw [e6]; first | exact hown6 | simpa using hown6
              · rw [HS2.out]
                have h1 := hp.out
                rw [← List.take_append_drop 0 l] at h1
                exact (List.perm_middle.trans (h1.cons (k : Int))).trans (List.perm_append_singleton _ _).symm
              · have h1 := hx0.out
                rw [← List.take_append_drop 0 l] at h1
                refine lx_insert h1 (fun z hz => ?_) (fun z hz => by rw [HDX.out]; exact hle.out z hz) (fun z hz => by rw [HDX.out]; exact hdr.out z hz)
                rw [List.take_append_drop] at hz
                obtain ⟨_, _, _, _, _, h⟩ := hiR.out z hz
                exact h
            · go_wp2_with fail
              go_quiet (fail)
              go_wp2_with fail
              have hvq := below_drewN hv nq
              have hownq := own_below hown (below_drewN (Below.refl _ _) nq)
              have hAq := Arr.own hownq
              have hA1 : Arr (wr.drewN nq) (some ⟨g', 0, none⟩) (flat icell (l.take 0)) := by rw [← flat_icell_take]; exact hAq.take 0
              have l1 := Lib.hid (show (l.take 0).length = 0 by simp)
              have hgq := own_lt hownq g' rfl
              refine (l00Own_c ⟨g', 0, none⟩ (l.take 0) 0 c' l1 (by omega) _ hA1).mono ?_
              rintro e W2 ⟨A2, c2', rfl, hown2', hb2⟩
              have hfar := own_at hown2'
              have hv2 := bl_trans hvq hb2
              have hown2 := own_base hown2' hvq.size
              have hown3 := own_below hownq hb2
              clear hvq hownq hAq hA1 hown2' hown hv c0 c1 c2 c3 c4 c5
              have hA3 : Arr W2 (some ⟨g', 0, none⟩) (flat icell (l.drop 0)) := by
                    have h := (Arr.own hown3).drop_ 0
                    rw [flat_icell_drop] at h
                    have e : (⟨g', 0, none⟩ : Addr).add 0 = ⟨g', 0, none⟩ := by unfold Addr.add; split <;> simp_all
                    rw [e] at h
                    exact h
              have l2 := Lib.hid (show (flat icell (l.drop 0)).length = (j - 0) * 1 by rw [flat_icell_len]; have := hlj.out; simp; omega)
              go_wp2_with (at_builtin; first | (refine app_own _ _ rfl _ _ 31 2 rfl i0 _ 1 8 Try.underlying31 hi0 hz0 hz1 hz2 rfl (by omega) _ (.slice A2 0 c2') 0 _ rfl rfl hown2 rfl (by simp [Value.oneCell']) (by unfold maxLen; omega) (by omega) hv2.size ?_; intro A4 c4 w4 hown4 hg4; have hA4 := hA3.grown hg4 (fun ad e => by injection e with e; subst e; intro h; exact absurd (hfar g' h.symm) (by omega)); have hv4 := bl_grown hv2 hg4 (own_at hown2)) | (refine app_many _ rfl _ _ 31 2 rfl i0 _ 1 8 Try.underlying31 hi0 hz0 hz1 hz2 rfl (by omega) _ (.slice A4 (0 + 1) c4) (0 + 1) _ rfl hown4 _ (j - 0) _ (flat icell (l.drop 0)) rfl hA4 l2.out (icell_ones _) (by unfold maxLen; omega) (by omega) hv4.size ?_; intro A6 c6 w6 hown6 hg6))
              obtain ⟨g6, hA6⟩ := own_addr hown6 (by omega)
              subst hA6
              have e6 : flat icell (l.take 0 ++ (k : Int) :: l.drop 0) = flat icell (l.take 0) ++ #[Value.int IntKind.i64 ↑k].toList ++ flat icell (l.drop 0) := by simp [flat, icell]
              refine ⟨⟨k + 1, 0 + 1 + (j - 0), g6, c6, l.take 0 ++ (k : Int) :: l.drop 0, by omega, by omega, by go_num, by first | rfl | simp, ?_, Lib.hid ?_, Lib.hid ?_, bl_grown hv4 hg6 (own_at hown4)⟩, by simp [intOf]; omega⟩
              · rw [e6]; first | exact hown6 | simpa using hown6
              · rw [HS2.out]
                have h1 := hp.out
                rw [← List.take_append_drop 0 l] at h1
                exact (List.perm_middle.trans (h1.cons (k : Int))).trans (List.perm_append_singleton _ _).symm
              · have h1 := hx0.out
                rw [← List.take_append_drop 0 l] at h1
                refine lx_insert h1 (fun z hz => ?_) (fun z hz => by rw [HDX.out]; exact hle.out z hz) (fun z hz => by rw [HDX.out]; exact hdr.out z hz)
                rw [List.take_append_drop] at hz
                obtain ⟨_, _, _, _, _, h⟩ := hiR.out z hz
                exact h
          · obtain ⟨kp, hkp⟩ : ∃ kp, kk = kp + 1 := ⟨kk - 1, by omega⟩
            obtain ⟨z, hz⟩ := get_of_lt (xs := l) (k := kp) (by rw [hlj.out]; omega)
            obtain ⟨q, y, hzq, hy, hqn, hqk⟩ := hiR.out z (List.mem_of_getElem? hz)
            obtain ⟨ad', e', hab', d0, d1, d2, d3, d4, d5⟩ := Order.at_ (hA.below hv) hy
            injection e' with e'
            subst e'
            obtain ⟨z0, z1⟩ := Dat.at_ hown hz
            rw [hzq] at z0
            have hdz : dueK xs z = y.due := by unfold dueK; rw [hzq]; simp [hy]
            have hdrop := drop_at hz
            have HZ := Lib.hid hz
            have HDZ := Lib.hid hdz
            have HDR := Lib.hid hdrop
            have ek : (kk : Int) - 1 = (kp : Int) := by omega
            have HKP := Lib.hid hkp
            have b0 : 0 < kk := by omega
            have b1 : kp < j := by omega
            have b2 : kp ≤ j := by omega
            have b3 : (0 : Int) ≤ (q : Int) := by omega
            have b4 : (q : Int) < (n : Int) := by omega
            clear hz hzq hy hdz hdrop hkp hkz hqk
            by_cases hgt : x.due < y.due
            · go_wp2_with fail
              go_quiet (fail)
              go_wp2_with fail
              refine ⟨⟨kp, by omega, by go_num, Lib.hid ?_, own_below hown (below_drewN (Below.refl _ _) nq), below_drewN hv _⟩, by have := HKP.out; simp [intOf]; omega⟩
              rw [HDR.out]
              intro t ht
              rcases List.mem_cons.1 ht with rfl | ht
              · rw [HDZ.out]; exact hgt
              · exact hdr.out t (by rw [HKP.out]; exact ht)
            · have hle : Hid (∀ t ∈ l.take kk, dueK xs t ≤ x.due) := Lib.hid (by
                have h1 := hx0.out
                rw [← List.take_append_drop kk l] at h1
                have h2 := (lx_append.1 h1).1
                rw [HKP.out, take_at HZ.out] at h2 ⊢
                intro t ht
                have := lx_last h2 t ht
                rw [HDZ.out] at this
                omega)
              by_cases hkc2 : c' = kk
              · go_wp2_with fail
                go_quiet (fail)
                go_wp2_with fail
                have hvq := below_drewN hv nq
                have hownq := own_below hown (below_drewN (Below.refl _ _) nq)
                have hAq := Arr.own hownq
                have hA1 : Arr (wr.drewN nq) (some ⟨g', 0, none⟩) (flat icell (l.take kk)) := by rw [← flat_icell_take]; exact hAq.take kk
                have l1 := Lib.hid (show (l.take kk).length = kk by have := hlj.out; simp; omega)
                have hgq := own_lt hownq g' rfl
                refine (l00Own_c ⟨g', 0, none⟩ (l.take kk) kk kk l1 (by omega) _ hA1).mono ?_
                rintro e W2 ⟨A2, c2', rfl, hown2', hb2⟩
                have hfar := own_at hown2'
                have hv2 := bl_trans hvq hb2
                have hown2 := own_base hown2' hvq.size
                have hown3 := own_below hownq hb2
                clear hvq hownq hAq hA1 hown2' hown hv c0 c1 c2 c3 c4 c5
                have hA3 : Arr W2 (some ⟨g', 0, none⟩) (flat icell (l.drop kk)) := by rw [List.drop_eq_nil_of_le (by have := hlj.out; omega)]; exact Arr.nil _ _
                have l2 := Lib.hid (show (flat icell (l.drop kk)).length = (j - kk) * 1 by rw [flat_icell_len]; have := hlj.out; simp; omega)
                go_wp2_with (at_builtin; first | (refine app_own _ _ rfl _ _ 31 2 rfl i0 _ 1 8 Try.underlying31 hi0 hz0 hz1 hz2 rfl (by omega) _ (.slice A2 kk c2') kk _ rfl rfl hown2 rfl (by simp [Value.oneCell']) (by unfold maxLen; omega) (by omega) hv2.size ?_; intro A4 c4 w4 hown4 hg4; have hA4 := hA3.grown hg4 (fun ad e => by injection e with e; subst e; intro h; exact absurd (hfar g' h.symm) (by omega)); have hv4 := bl_grown hv2 hg4 (own_at hown2)) | (refine app_many _ rfl _ _ 31 2 rfl i0 _ 1 8 Try.underlying31 hi0 hz0 hz1 hz2 rfl (by omega) _ (.slice A4 (kk + 1) c4) (kk + 1) _ rfl hown4 _ (j - kk) _ (flat icell (l.drop kk)) rfl hA4 l2.out (icell_ones _) (by unfold maxLen; omega) (by omega) hv4.size ?_; intro A6 c6 w6 hown6 hg6))
                obtain ⟨g6, hA6⟩ := own_addr hown6 (by omega)
                subst hA6
                have e6 : flat icell (l.take kk ++ (k : Int) :: l.drop kk) = flat icell (l.take kk) ++ #[Value.int IntKind.i64 ↑k].toList ++ flat icell (l.drop kk) := by simp [flat, icell]
                refine ⟨⟨k + 1, kk + 1 + (j - kk), g6, c6, l.take kk ++ (k : Int) :: l.drop kk, by omega, by omega, by go_num, by first | rfl | simp, ?_, Lib.hid ?_, Lib.hid ?_, bl_grown hv4 hg6 (own_at hown4)⟩, by simp [intOf]; omega⟩
                · rw [e6]; first | exact hown6 | simpa using hown6
                · rw [HS2.out]
                  have h1 := hp.out
                  rw [← List.take_append_drop kk l] at h1
                  exact (List.perm_middle.trans (h1.cons (k : Int))).trans (List.perm_append_singleton _ _).symm
                · have h1 := hx0.out
                  rw [← List.take_append_drop kk l] at h1
                  refine lx_insert h1 (fun z hz => ?_) (fun z hz => by rw [HDX.out]; exact hle.out z hz) (fun z hz => by rw [HDX.out]; exact hdr.out z hz)
                  rw [List.take_append_drop] at hz
                  obtain ⟨_, _, _, _, _, h⟩ := hiR.out z hz
                  exact h
              · go_wp2_with fail
                go_quiet (fail)
                go_wp2_with fail
                have hvq := below_drewN hv nq
                have hownq := own_below hown (below_drewN (Below.refl _ _) nq)
                have hAq := Arr.own hownq
                have hA1 : Arr (wr.drewN nq) (some ⟨g', 0, none⟩) (flat icell (l.take kk)) := by rw [← flat_icell_take]; exact hAq.take kk
                have l1 := Lib.hid (show (l.take kk).length = kk by have := hlj.out; simp; omega)
                have hgq := own_lt hownq g' rfl
                refine (l00Own_c ⟨g', 0, none⟩ (l.take kk) kk c' l1 (by omega) _ hA1).mono ?_
                rintro e W2 ⟨A2, c2', rfl, hown2', hb2⟩
                have hfar := own_at hown2'
                have hv2 := bl_trans hvq hb2
                have hown2 := own_base hown2' hvq.size
                have hown3 := own_below hownq hb2
                clear hvq hownq hAq hA1 hown2' hown hv c0 c1 c2 c3 c4 c5
                have hA3 : Arr W2 (some ⟨g', kk, none⟩) (flat icell (l.drop kk)) := by
                      have h := (Arr.own hown3).drop_ kk
                      rw [flat_icell_drop] at h
                      have e : (⟨g', 0, none⟩ : Addr).add kk = ⟨g', kk, none⟩ := by unfold Addr.add; split <;> simp_all
                      rw [e] at h
                      exact h
                have l2 := Lib.hid (show (flat icell (l.drop kk)).length = (j - kk) * 1 by rw [flat_icell_len]; have := hlj.out; simp; omega)
                go_wp2_with (at_builtin; first | (refine app_own _ _ rfl _ _ 31 2 rfl i0 _ 1 8 Try.underlying31 hi0 hz0 hz1 hz2 rfl (by omega) _ (.slice A2 kk c2') kk _ rfl rfl hown2 rfl (by simp [Value.oneCell']) (by unfold maxLen; omega) (by omega) hv2.size ?_; intro A4 c4 w4 hown4 hg4; have hA4 := hA3.grown hg4 (fun ad e => by injection e with e; subst e; intro h; exact absurd (hfar g' h.symm) (by omega)); have hv4 := bl_grown hv2 hg4 (own_at hown2)) | (refine app_many _ rfl _ _ 31 2 rfl i0 _ 1 8 Try.underlying31 hi0 hz0 hz1 hz2 rfl (by omega) _ (.slice A4 (kk + 1) c4) (kk + 1) _ rfl hown4 _ (j - kk) _ (flat icell (l.drop kk)) rfl hA4 l2.out (icell_ones _) (by unfold maxLen; omega) (by omega) hv4.size ?_; intro A6 c6 w6 hown6 hg6))
                obtain ⟨g6, hA6⟩ := own_addr hown6 (by omega)
                subst hA6
                have e6 : flat icell (l.take kk ++ (k : Int) :: l.drop kk) = flat icell (l.take kk) ++ #[Value.int IntKind.i64 ↑k].toList ++ flat icell (l.drop kk) := by simp [flat, icell]
                refine ⟨⟨k + 1, kk + 1 + (j - kk), g6, c6, l.take kk ++ (k : Int) :: l.drop kk, by omega, by omega, by go_num, by first | rfl | simp, ?_, Lib.hid ?_, Lib.hid ?_, bl_grown hv4 hg6 (own_at hown4)⟩, by simp [intOf]; omega⟩
                · rw [e6]; first | exact hown6 | simpa using hown6
                · rw [HS2.out]
                  have h1 := hp.out
                  rw [← List.take_append_drop kk l] at h1
                  exact (List.perm_middle.trans (h1.cons (k : Int))).trans (List.perm_append_singleton _ _).symm
                · have h1 := hx0.out
                  rw [← List.take_append_drop kk l] at h1
                  refine lx_insert h1 (fun z hz => ?_) (fun z hz => by rw [HDX.out]; exact hle.out z hz) (fun z hz => by rw [HDX.out]; exact hdr.out z hz)
                  rw [List.take_append_drop] at hz
                  obtain ⟨_, _, _, _, _, h⟩ := hiR.out z hz
                  exact h
    · have hkn : k = n := by omega
      subst hkn
      have h1 := hp.out
      rw [List.take_of_length_le (by have := hn.out; omega)] at h1
      have hw := workL_of h1 hx0.out
      subst hw
      have hj := hown.1
      rw [flat_icell_len, Nat.mul_one] at hj
      have HJ := Lib.hid hj
      have HO := Lib.hid hown
      clear h1 hj hown hp hx0
      go_wp2_with fail
      go_returns
      refine ⟨some ⟨g', 0, none⟩, c', by rw [HJ.out]; rfl, ?_, hv⟩
      rw [HJ.out]
      exact HO.out
end Go.Proofs.Ytggficacnmddiaa
