/- The law on logs, walked. builds. -/
import Derived.Test.YtnhkdcebldppmaaDoorDrwA
import Derived.Test.YtnhkdcebldppmaaDoorLgsT
import Derived.Test.YtnhkdcebldppmaaDoorLogA
import Derived.Test.YtnhkdcebldppmaaDoorLogG
import Derived.Test.YtnhkdcebldppmaaDoorLogE
import Derived.Test.YtnhkdcebldppmaaDoorNeq
namespace Go.Proofs.YtnhkdcebldppmaaDoor
open Go.RowKit

theorem a2Long2_c (C D : Option Addr) (n c m d : Nat) (w : World) : Calls Tryd.prog 23 #[.slice C n c, .slice D m d] w (Ret (.bool (decide (3000 < n) || decide (3000 < m))) w) := by
  go_enter Tryd.func23, Tryd.ntmps23
  by_cases h : 3000 < n
  · have h1 : (3000 : Int) < (n : Int) := by omega
    go_wp2_with fail
    go_returns
    exact Ret.mk (vb (by simp [h])) (Below.refl _ _)
  · have h1 : ¬ (3000 : Int) < (n : Int) := by omega
    by_cases h' : 3000 < m
    · have h2 : (3000 : Int) < (m : Int) := by omega
      go_wp2_with fail
      go_returns
      exact Ret.mk (vb (by simp)) (Below.refl _ _)
    · have h2 : ¬ (3000 : Int) < (m : Int) := by omega
      go_wp2_with fail
      go_returns
      exact Ret.mk (vb (by simp)) (Below.refl _ _)
def OutAt (w : World) (e : Ending) (w' : World) : Prop := ∃ r : Int, e = .returned (.int .i64 r) ∧ 0 ≤ r ∧ r ≤ 255 ∧ Below w.heap.size w w'
set_option maxHeartbeats 800000 in
theorem a2At_c (C : Option Addr) (n c k : Nat) (cs : List UInt8) (hnn : Hid (cs.length = n)) (w : World) (hA : Arr w C (cs.map bvS)) : Calls Tryd.prog 33 #[.slice C n c, .int .i64 k, .int .i64 256] w (OutAt w) := by
  by_cases hlt : k < n
  · obtain ⟨b, hb⟩ := get_of_lt (xs := cs) (k := k) (by rw [hnn.out]; exact hlt)
    obtain ⟨ad, rfl, _, hc⟩ := hA.at_ (j := k) (by rw [List.length_map, hnn.out]; exact hlt)
    have c0 : w.cell? (ad.add k) = some (.int .u8 b.toNat) := hc k _ (by rw [List.getElem?_map, hb]; rfl)
    obtain ⟨v, hv⟩ : ∃ v : Int, v = (b.toNat : Int) := ⟨_, rfl⟩
    have hv0 : 0 ≤ v := by omega
    have hv1 : v ≤ 255 := by have := b.toNat_lt; omega
    rw [← hv] at c0
    have hk1 : (k : Int) < (n : Int) := by omega
    clear hc hb hv hA
    go_enter Tryd.func33, Tryd.ntmps33
    go_wp2_with fail
    go_returns
    exact ⟨v % 256, rfl, by omega, by omega, Below.refl _ _⟩
  · have hk1 : ¬ (k : Int) < (n : Int) := by omega
    have hk2 : (n : Int) ≤ (k : Int) := by omega
    go_enter Tryd.func33, Tryd.ntmps33
    go_wp2_with fail
    go_returns
    exact ⟨0, rfl, by omega, by omega, Below.refl _ _⟩
set_option maxRecDepth 100000 in
set_option maxHeartbeats 1000000 in
theorem Entry.run_neq (x y : Entry) (w : World) : (binOp .neq 54 (.agg #[.int .i64 x.day, .string x.what, .int .i64 x.value]) (.agg #[.int .i64 y.day, .string y.what, .int .i64 y.value])).run Tryd.prog w = .ok (.bool (!(x.beq y))) w := by
  rw [run_neq_struct, run_equalIn_struct w 9999 54 _ _ (by kernel_rfl) (by kernel_rfl)]
  rw [show (Tryd.prog.fieldsOf 54) = _ from by simp [Program.fieldsOf, Tryd.underlying54]; rfl]
  simp [go_sem, bytes_beq, Entry.beq]
  repeat' split
  all_goals simp_all

theorem same_s (s : ByteArray) : (!s.toList == s.toList) = false := by simp
set_option maxRecDepth 100000 in
set_option maxHeartbeats 8000000 in
theorem FnLogs_law (C : Option Addr) (nn cc : Nat) (cs : List UInt8) (hnn : Hid (cs.length = nn)) (D : Option Addr) (mm dd : Nat) (ds : List UInt8) (hmm : Hid (ds.length = mm)) (w : World) (hA : Arr w C (cs.map bvS)) (hlt : ∀ ad, C = some ad → ad.block < w.heap.size) (hD : Arr w D (ds.map bvS)) (hT : Tabs w) :
    Calls Tryd.prog 5 #[.slice C nn cc, .slice D mm dd] w (Ret (.bool true) w) := by
  have hA0 := Lib.hid hA
  have hD0 := Lib.hid hD
  have hL0 := Lib.hid hlt
  have hT0 := Lib.hid hT
  clear hA hlt hT hD
  go_enter Tryd.func5, Tryd.ntmps5
  go_wp2_with fail
  refine (a2Long2_c C D nn cc mm dd w).mono ?_
  rintro e W ⟨rfl, hv⟩
  cases hb4 : (decide (3000 < nn) || decide (3000 < mm))
  case true =>
    go_wp2_with fail
    go_returns
    exact Ret.mk rfl hv
  rw [Bool.or_eq_false_iff, decide_eq_false_iff_not, decide_eq_false_iff_not] at hb4
  obtain ⟨hb5, hb6⟩ := hb4
  have hmb : (mm : Int) ≤ 3000 := by omega
  go_wp2_with fail
  refine (A2Entries_c C nn cc cs hnn (by omega) _ (hA0.out.below hv) (fun ad e => Nat.lt_of_lt_of_le (hL0.out ad e) hv.size)).mono ?_
  rintro e W ⟨A, xs, n, c, rfl, hn', hn7, he', hu', hox, hb⟩
  have hn := Lib.hid hn'
  have hl : xs.length ≤ 7 := by omega
  obtain ⟨Lg, hLg⟩ : ∃ z, z = logV xs := ⟨_, rfl⟩
  obtain ⟨hc0, hz0, hcd, hrd⟩ := log_reads he' hu' hl
  have hent : entV (logV xs) = xs := by rw [entV_ok hcd, hrd]
  have HLO := fun w h ht => LogOf_c A xs n c hn (by omega) (Lib.hid (fun x hx => by have := (entB_bd (he' x hx)).2.2.2.2; omega)) w h ht
  rw [hc0, ← hLg] at HLO
  rw [← hLg] at hz0 hcd hent
  have HEO := fun w h => EntriesOf_c Lg (by omega) w h
  unfold OutL at HEO
  rw [hent, hcd, hn'] at HEO
  have HST := Lib.hid (fun (k : Nat) (x : Entry) (hx : xs[k]? = some x) => And.intro (log_step he' hu' hl hx) (And.intro (log_pre he' hu' hl (k + 1)) (And.intro (logK_size he' hl k) (logK_size he' hl (k + 1)))))
  have HSZ := Lib.hid (fun (x : Entry) (hx : x ∈ xs) => by have := (entB_bd (he' x hx)).2.2.2.2; exact (by omega : x.what.size ≤ 9223372036854775807))
  have HAL := Lib.hid (logK_all he' hu' hl)
  have HCU := Lib.hid (fun (cut : Nat) (h : cut ≤ (logV xs).size) => log_cut he' hu' hl h)
  rw [← hLg] at HST HAL HCU
  rw [hn'] at HAL HCU
  replace HLO := Lib.hid HLO
  replace HEO := Lib.hid HEO
  clear hn' he' hu' hLg hc0 hcd hrd hent hl
  obtain ⟨lx, ux, h_own, z0, z1⟩ := Own.named hox hb
  replace hox := h_own
  clear h_own
  have z2 := Lib.hid hb.size
  replace hv := bl_trans hv hb
  clear hb
  go_wp2_with fail
  refine (HLO.out _ hox.arr (hT0.out.pow.below hv)).mono ?_
  rintro e W ⟨rfl, hb⟩
  have z3 := Lib.hid hb.size
  replace hv := bl_trans hv hb
  replace hox := hox.below hb
  clear hb
  go_wp2_with fail
  refine (HEO.out _ (hT0.out.below hv)).mono ?_
  rintro e W ⟨B, d, rfl, hob, hb⟩
  obtain ⟨lb, ub, h_own, z4, z5⟩ := Own.named hob hb
  replace hob := h_own
  clear h_own
  have z6 := Lib.hid hb.size
  replace hv := bl_trans hv hb
  replace hox := hox.below hb
  clear hb
  have hnn2 : ((n : Int) != (n : Int)) = false := by simp
  go_wp2_with fail
  clear hnn2
  have hR1 := Lib.hid (logK_zero xs).symm
  rename World => wA
  go_loopw [10, 11] (fun s i wr => ∃ (k : Nat) (t : ByteArray), k ≤ n ∧ i = .int .i64 k ∧ s = .string t ∧ Hid (t = logK xs k) ∧ Below wA.heap.size wA wr) (fun _ i _ => n - (intOf i).toNat)
  case atStart => exact ⟨0, _, by omega, rfl, rfl, hR1, Below.refl _ _⟩
  case round =>
  clear hR1
  obtain ⟨k, t, hk, rfl, rfl, hR1, hbel⟩ := hrel
  by_cases hlt : k < n
  case pos =>
   as_aux_lemma =>
    have hk0 : (0 : Int) ≤ (k : Int) := by omega
    have hlt1 : (k : Int) < (n : Int) := by omega
    obtain ⟨x, hx⟩ := get_of_lt (xs := xs) (k := k) (by rw [hn.out]; exact hlt)
    obtain ⟨ad, had, _, c0, c1, c2⟩ := Entry.at_ (hox.arr.below hbel) hx
    obtain ⟨bd, hbd, _, d0, d1, d2⟩ := Entry.at_ (hob.arr.below hbel) hx
    subst had
    subst hbd
    obtain ⟨hst, ⟨hp1, hp2⟩, hz1, hz2⟩ := HST.out k x hx
    rw [← hR1.out] at hst hz1
    obtain ⟨u, hu⟩ : ∃ z, z = logK xs (k + 1) := ⟨_, rfl⟩
    rw [← hu] at hst hp1 hp2 hz2
    have HAE := fun w h => AddEntry_c t (by omega) x (HSZ.out x (List.mem_of_getElem? hx)) w h
    rw [hst] at HAE
    replace HAE := Lib.hid HAE
    have HU := Lib.hid hu
    have HP2 := Lib.hid hp2
    have hp3 : (u.size : Int) ≤ (Lg.size : Int) := by omega
    have hp4 : ¬ (Lg.size : Int) < (u.size : Int) := by omega
    have hq := Entry.run_neq x x
    rw [Entry.beq_self] at hq
    clear hst hp2 hu hR1 hx
    go_wp2_with fail
    go_quiet (fail)
    obtain ⟨V, hV⟩ : ∃ V, V = World.drewN wr nq := ⟨_, rfl⟩
    rw [← hV]
    have hb5 : Below wr.heap.size wr V := by rw [hV]; exact below_drewN (Below.refl _ _) nq
    clear hV hq
    replace hbel := bl_trans hbel hb5
    replace c0 := bl_cell hb5 c0
    replace c1 := bl_cell hb5 c1
    replace c2 := bl_cell hb5 c2
    clear hb5 d0 d1 d2
    go_wp2_with fail
    refine (HAE.out _ (hT0.out.below (bl_trans hv hbel))).mono ?_
    rintro e W1 ⟨rfl, hb1'⟩
    replace hbel := bl_trans hbel hb1'
    clear hb1' c0 c1 c2
    have hss : (!u.toList == (Lg.extract 0 u.size).toList) = false := by rw [HP2.out]; exact same_s u
    go_wp2_with fail
    exact ⟨⟨k + 1, u, by omega, by go_num, rfl, HU, hbel⟩, by simp [intOf]; omega⟩
  have hkn : k = n := by omega
  subst hkn
  have htL : t = Lg := hR1.out.trans HAL.out
  subst htL
  rename World => wB
  as_aux_lemma =>
  clear hR1 HST HAL HSZ HLO HEO
  replace hv := bl_trans hv hbel
  clear hbel hox hob
  go_wp2_with fail
  refine (a2At_c D mm dd 0 ds hmm _ (hD0.out.below hv)).mono ?_
  rintro e W ⟨r0, rfl, p0, p1, hb⟩
  replace hv := bl_trans hv hb
  clear hb
  go_wp2_with fail
  refine (a2At_c D mm dd 1 ds hmm _ (hD0.out.below hv)).mono ?_
  rintro e W ⟨r1, rfl, q0, q1, hb⟩
  replace hv := bl_trans hv hb
  clear hb
  go_wp2_with fail
  obtain ⟨ct, hct⟩ : ∃ ct : Nat, min (r0 + r1) (t.size : Int) = (ct : Int) := ⟨_, (Int.toNat_of_nonneg (by omega)).symm⟩
  have hcz : ct ≤ t.size := by omega
  obtain ⟨N, e0, hN, e1, e2, e3, e4, e5, e6, e7⟩ := HCU.out ct hcz
  obtain ⟨s1, hs1⟩ : ∃ z, z = t.extract 0 ct := ⟨_, rfl⟩
  rw [← hs1] at e0 e1 e2 e3 e4
  obtain ⟨kp, hkp⟩ : ∃ z, z = t.extract 0 N := ⟨_, rfl⟩
  rw [← hkp] at e3 e5 e6 e7
  have HRL := fun w h => RecoverLog_c s1 (by omega) w h
  have HCL := fun w h => CheckLog_c s1 (by omega) w h
  have HSE := fun w => SEntriesOf_c kp (by omega) w
  rw [e2, e3, e4] at HRL
  rw [e1, e2] at HCL
  unfold OutL at HSE
  rw [e6] at HSE
  obtain ⟨ps, hps⟩ : ∃ z, z = entV kp := ⟨_, rfl⟩
  rw [← hps] at HSE e7
  replace HRL := Lib.hid HRL
  replace HCL := Lib.hid HCL
  replace HSE := Lib.hid HSE
  have HKP := Lib.hid hkp
  have HS1 := Lib.hid hs1
  have hN0 : (0 : Int) ≤ (N : Int) := by omega
  have hN1 : (N : Int) ≤ (ct : Int) := by omega
  have hN2 : (ct : Int) ≤ (t.size : Int) := by omega
  have hz1 : (t.size : Int) ≤ 280 := by omega
  rw [hct]
  simp only [Int.toNat_natCast]
  rw [← hs1]
  clear e0 e1 e2 e3 e4 e6 hct hkp hps HCU p0 p1 q0 q1
  refine (HRL.out _ (hT0.out.below hv)).mono ?_
  rintro e W ⟨rfl, hb⟩
  replace hv := bl_trans hv hb
  clear hb
  go_wp2_with fail
  rw [← HS1.out]
  refine (HCL.out _ (hT0.out.below hv)).mono ?_
  rintro e W ⟨rfl, hb⟩
  replace hv := bl_trans hv hb
  clear hb HRL HCL
  have g1 := same_s t
  have g2 : ((N : Int) != (kp.size : Int)) = false := by rw [e5]; simp
  have g3 : ¬ (ct : Int) < (N : Int) := by omega
  have g4 : (!kp.toList == (t.extract 0 N).toList) = false := by rw [← HKP.out]; exact same_s kp
  have g5 : ((ct : Int) - (N : Int) != (ct : Int) - (N : Int)) = false := by simp
  have g6 : (N : Int) ≤ (t.size : Int) := by omega
  go_wp2_with fail
  clear g1 g2 g3 g4 g5
  refine (HSE.out _).mono ?_
  rintro e W ⟨P, pc, rfl, _, hb⟩
  have g7 : (ps.length : Int) ≤ (k : Int) := by omega
  go_wp2_with fail
  go_returns
  exact Ret.mk (by first | rfl | simp) (bl_trans hv hb)

end Go.Proofs.YtnhkdcebldppmaaDoor
