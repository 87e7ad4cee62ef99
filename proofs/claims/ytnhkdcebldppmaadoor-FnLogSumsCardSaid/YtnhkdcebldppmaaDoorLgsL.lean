/- The law on sums of a log, walked. builds. -/
import Derived.Test.YtnhkdcebldppmaaDoorDrwA
import Derived.Test.YtnhkdcebldppmaaDoorLogI
import Derived.Test.YtnhkdcebldppmaaDoorLogJ
import Derived.Test.YtnhkdcebldppmaaDoorLogH
import Derived.Test.YtnhkdcebldppmaaDoorLogS
namespace Go.Proofs.YtnhkdcebldppmaaDoor
open Go.RowKit

theorem sum_takeM {N : List ByteArray} {k : Nat} {t : ByteArray} (f : ByteArray → Int) (h : N[k]? = some t) : ((N.take (k + 1)).map f).sum = ((N.take k).map f).sum + f t := by
  rw [take_at h, List.map_append, List.sum_append]; simp
theorem sum_takeE {N : List Entry} {k : Nat} {t : Entry} (f : Entry → Int) (h : N[k]? = some t) : ((N.take (k + 1)).map f).sum = ((N.take k).map f).sum + f t := by
  rw [take_at h, List.map_append, List.sum_append]; simp
set_option maxRecDepth 100000 in
set_option maxHeartbeats 4000000 in
theorem FnLogSums_law (C : Option Addr) (nn cc : Nat) (cs : List UInt8) (hnn : Hid (cs.length = nn)) (w : World) (hA : Arr w C (cs.map bvS)) (hlt : ∀ ad, C = some ad → ad.block < w.heap.size) (hT : Tabs w) :
    Calls Tryd.prog 4 #[.slice C nn cc] w (Ret (.bool true) w) := by
  have hA0 := Lib.hid hA
  have hL0 := Lib.hid hlt
  have hT0 := Lib.hid hT
  clear hA hlt hT
  go_enter Tryd.func4, Tryd.ntmps4
  go_wp2_with fail
  refine (a2Long_c C nn cc w).mono ?_
  rintro e W ⟨rfl, hv⟩
  by_cases hb4 : 3000 < nn
  · go_wp2_with fail
    go_returns
    exact Ret.mk rfl hv
  go_wp2_with fail
  refine (A2Entries_c C nn cc cs hnn (by omega) _ (hA0.out.below hv) (fun ad e => Nat.lt_of_lt_of_le (hL0.out ad e) hv.size)).mono ?_
  rintro e W ⟨A, xs, n, c, rfl, hn', hn7, he', hu', hox, hb⟩
  have hn := Lib.hid hn'
  have hl : xs.length ≤ 7 := by omega
  obtain ⟨Lg, hLg⟩ : ∃ z, z = logV xs := ⟨_, rfl⟩
  obtain ⟨N, hN⟩ : ∃ z, z = namG xs := ⟨_, rfl⟩
  obtain ⟨m, hm⟩ : ∃ z, z = N.length := ⟨_, rfl⟩
  obtain ⟨hc0, hz0, hcd, _⟩ := log_reads he' hu' hl
  have hnv := log_names he' hu' hl
  have hm7 : m ≤ 7 := by rw [hm, hN]; exact namG_few hl
  have hnil := namG_nil xs
  have HLO := fun w h => SLogOf_c A xs n c hn (by omega) (Lib.hid (fun x hx => by have := (entB_bd (he' x hx)).2.2.2.2; omega)) w h
  rw [hc0, ← hLg] at HLO
  rw [← hLg] at hz0 hcd hnv
  have HNI := fun w h => NamesIn_c Lg (by omega) w h
  rw [hnv, hcd, ← hN, ← hm] at HNI
  rw [← hN, ← hm, hn'] at hnil
  have hnm : ((m : Int) == 0) = ((n : Int) == 0) := by
    by_cases h0 : n = 0
    · rw [hnil.2 h0, h0]
    · have h1 : m ≠ 0 := fun h => h0 (hnil.1 h)
      have e1 : ((m : Int) == 0) = false := by rw [beq_eq_false_iff_ne]; omega
      have e2 : ((n : Int) == 0) = false := by rw [beq_eq_false_iff_ne]; omega
      rw [e1, e2]
  have HNM := Lib.hid hnm
  have HNA := Lib.hid (fun (t : ByteArray) (ht : t ∈ N) => by
    have h := log_name he' hu' hl (t := t) (by rw [← hN]; exact ht)
    have h2 := valG_some (t := t) (xs := xs) (by rw [← hN]; exact ht)
    have h3 := namG_name he' (by rw [← hN]; exact ht)
    rw [← hLg] at h
    exact And.intro h (And.intro h2 h3))
  have HVB := Lib.hid (val_bd he')
  have HVL := Lib.hid (fun t => Nat.le_trans (valG_len t xs) hl)
  have HEV := Lib.hid (fun (x : Entry) (hx : x ∈ xs) => by have h := entB_bd (he' x hx); exact And.intro h.2.2.1 h.2.2.2.1)
  have HS1 := Lib.hid (log_sum xs)
  have HS2 := Lib.hid (log_many xs)
  rw [← hN] at HS1 HS2
  have HM := Lib.hid hm.symm
  replace HLO := Lib.hid HLO
  replace HNI := Lib.hid HNI
  clear hn' he' hu' hLg hN hm hc0 hcd hnv hnil hnm
  obtain ⟨lx, ux, h_own, z0, z1⟩ := Own.named hox hb
  replace hox := h_own
  clear h_own
  have z2 := Lib.hid hb.size
  replace hv := bl_trans hv hb
  clear hb
  go_wp2_with fail
  refine (HLO.out _ hox.arr).mono ?_
  rintro e W ⟨rfl, hb⟩
  have z3 := Lib.hid hb.size
  replace hv := bl_trans hv hb
  replace hox := hox.below hb
  clear hb
  go_wp2_with fail
  refine (HNI.out _ (hT0.out.below hv)).mono ?_
  rintro e W ⟨B, d, rfl, hon, hb⟩
  obtain ⟨ln, un, h_own, z4, z5⟩ := Own.named hon hb
  replace hon := h_own
  clear h_own
  have z6 := Lib.hid hb.size
  replace hv := bl_trans hv hb
  replace hox := hox.below hb
  clear hb
  have hnm := HNM.out
  go_wp2_with fail
  clear hnm
  have hR1 := Lib.hid (show (0 : Int) = ((N.take 0).map fun t => (valG t xs).sum).sum from rfl)
  have hR2 := Lib.hid (show (0 : Int) = ((N.take 0).map fun t => ((valG t xs).length : Int)).sum from rfl)
  rename World => wA
  go_loopw [8, 9, 10] (fun s y i wr => ∃ (k : Nat) (a b : Int), k ≤ m ∧ i = .int .i64 k ∧ s = .int .i64 a ∧ y = .int .i64 b ∧ -7000000 * (k : Int) ≤ a ∧ a ≤ 7000000 * (k : Int) ∧ 0 ≤ b ∧ b ≤ 7 * (k : Int) ∧ Hid (a = ((N.take k).map fun t => (valG t xs).sum).sum) ∧ Hid (b = ((N.take k).map fun t => ((valG t xs).length : Int)).sum) ∧ Below wA.heap.size wA wr) (fun _ _ i _ => m - (intOf i).toNat)
  case atStart => exact ⟨0, 0, 0, by omega, rfl, rfl, rfl, by omega, by omega, by omega, by omega, hR1, hR2, Below.refl _ _⟩
  case round =>
  clear hR1 hR2
  obtain ⟨k, a, b, hk, rfl, rfl, rfl, ha0, ha1, hb0, hb1, hR1, hR2, hbel⟩ := hrel
  have hk0 : (0 : Int) ≤ (k : Int) := by omega
  by_cases hlt : k < m
  case pos =>
    have hlt1 : (k : Int) < (m : Int) := by omega
    obtain ⟨t, ht⟩ := get_of_lt (xs := N) (k := k) (by rw [HM.out]; exact hlt)
    obtain ⟨ad, had, _, c0⟩ := scell_at (hon.arr.below hbel) ht
    subst had
    obtain ⟨⟨hw0, hvv, hs0, hsw⟩, hpos, hnb⟩ := HNA.out t (List.mem_of_getElem? ht)
    have hts : t.size ≤ 9223372036854775807 := by
      by_cases h12 : 12 < t.size
      · rw [nameB_long (.inl h12)] at hnb; cases hnb
      · omega
    have h1 := sum_takeM (fun t => (valG t xs).sum) ht
    have h2 := sum_takeM (fun t => ((valG t xs).length : Int)) ht
    obtain ⟨V, hV⟩ : ∃ z, z = valG t xs := ⟨_, rfl⟩
    have hVB : Hid (∀ x ∈ V, -1000000 ≤ x ∧ x ≤ 1000000) := Lib.hid (by rw [hV]; exact HVB.out t)
    have hv7 : V.length ≤ 7 := by rw [hV]; exact HVL.out t
    have hib := ints_bd V hVB.out
    have HSW := fun w h => SumOfWhat_c Lg t 0 100000 (by omega) hts w h
    have HVO := fun w h => ValuesOf_c Lg t (by omega) hts w h
    rw [hsw, hs0, ← hV] at HSW
    rw [hvv, hw0, ← hV] at HVO
    rw [← hV] at h1 h2 hpos
    obtain ⟨v, hvl⟩ : ∃ z, z = V.length := ⟨_, rfl⟩
    obtain ⟨S, hS⟩ : ∃ z, z = V.sum := ⟨_, rfl⟩
    rw [← hvl] at HVO h2 hpos hv7 hib
    rw [← hS] at HSW h1 hib
    have HVN := Lib.hid hvl.symm
    have HSN := Lib.hid hS.symm
    have hR3 := Lib.hid (show a + S = _ from (by rw [hR1.out] : a + S = _ + S).trans h1.symm)
    have hR4 := Lib.hid (show b + (v : Int) = _ from (by rw [hR2.out] : b + (v : Int) = _ + (v : Int)).trans h2.symm)
    replace HSW := Lib.hid HSW
    replace HVO := Lib.hid HVO
    have hvz : ((v : Int) == 0) = false := by rw [beq_eq_false_iff_ne]; omega
    have hvp : (0 : Int) < (v : Int) := by omega
    obtain ⟨s0, s1⟩ : -7000000 ≤ S ∧ S ≤ 7000000 := by omega
    clear hR1 hR2 h1 h2 hS hvl hV ht hw0 hvv hs0 hsw hnb hib hts
    go_wp2_with fail
    refine (HSW.out _ (hT0.out.below (bl_trans hv hbel))).mono ?_
    rintro e W1 ⟨rfl, hb1'⟩
    replace hbel := bl_trans hbel hb1'
    replace c0 := bl_cell hb1' c0
    clear hb1'
    go_wp2_with fail
    refine (HVO.out _ (hT0.out.below (bl_trans hv hbel))).mono ?_
    rintro e W2 ⟨Bv, dv, rfl, hov, hb2'⟩
    replace hbel := bl_trans hbel hb2'
    clear hb2' c0
    go_wp2_with fail
    refine (a2Sum_c Bv V v dv HVN (by omega) hVB _ (Arr.own hov)).mono ?_
    rintro e W3 ⟨rfl, hb3'⟩
    replace hbel := bl_trans hbel hb3'
    rw [HSN.out]
    clear hb3' hov
    have hss : (S != S) = false := by simp
    go_wp2_with fail
    exact ⟨⟨k + 1, a + S, b + v, by omega, by go_num, rfl, rfl, by omega, by omega, by omega, by omega, hR3, hR4, hbel⟩, by simp [intOf]; omega⟩
  have hkm : k = m := by omega
  subst hkm
  have hE1 := Lib.hid (hR1.out.trans (by rw [List.take_of_length_le (by rw [HM.out]; exact Nat.le_refl _)]; exact HS1.out : _ = (xs.map (·.value)).sum))
  have hE2 := Lib.hid (hR2.out.trans (by rw [List.take_of_length_le (by rw [HM.out]; exact Nat.le_refl _)]; exact HS2.out : _ = (xs.length : Int)))
  rename World => wB
  clear hR1 hR2 HS1 HS2 HLO HNI HNA
  go_wp2_with fail
  have hR1 := Lib.hid (show (0 : Int) = ((xs.take 0).map (·.value)).sum from rfl)
  go_loopw [15, 16] (fun s i wr => ∃ (j : Nat) (u : Int), j ≤ n ∧ i = .int .i64 j ∧ s = .int .i64 u ∧ -1000000 * (j : Int) ≤ u ∧ u ≤ 1000000 * (j : Int) ∧ Hid (u = ((xs.take j).map (·.value)).sum) ∧ Below wA.heap.size wA wr) (fun _ i _ => n - (intOf i).toNat)
  case atStart => exact ⟨0, 0, by omega, rfl, rfl, by omega, by omega, hR1, hbel⟩
  case round =>
  clear hR1
  obtain ⟨j, u, hj, rfl, rfl, hu0, hu1, hR, hbel2⟩ := hrel
  by_cases hlt2 : j < n
  case pos =>
    obtain ⟨x, hx⟩ := get_of_lt (xs := xs) (k := j) (by rw [hn.out]; exact hlt2)
    obtain ⟨ad, had, _, c0, c1, c2⟩ := Entry.at_ (hox.arr.below hbel2) hx
    subst had
    obtain ⟨x0, x1⟩ := HEV.out x (List.mem_of_getElem? hx)
    have hR3 := Lib.hid (show u + x.value = ((xs.take (j + 1)).map (·.value)).sum by rw [sum_takeE _ hx, hR.out])
    clear hR hx
    go_wp2_with fail
    exact ⟨⟨j + 1, u + x.value, by omega, by go_num, rfl, by omega, by omega, hR3, hbel2⟩, by simp [intOf]; omega⟩
  have hjn : j = n := by omega
  subst hjn
  have hau : a = u := hE1.out.trans (hR.out.trans (by rw [List.take_of_length_le (by rw [hn.out]; exact Nat.le_refl _)])).symm
  have hbn : b = (j : Int) := hE2.out.trans (by rw [hn.out])
  subst hau
  subst hbn
  clear hR hE1 hE2
  go_wp2_with fail
  go_returns
  exact Ret.mk (by first | rfl | simp) (bl_trans hv hbel2)

end Go.Proofs.YtnhkdcebldppmaaDoor
