/- Worn soles: the program's and the reference's functions; the law walked. -/
import Derived.Test.YtopbiihiogbhiaaSolLaw
namespace Go.Proofs.Ytopbiihiogbhiaa
open Go.RowKit

def thAt (xs : List Stuff) (ps : List Int) (i : Nat) : Int := match ps[i]? with | some k => (match xs[k.toNat]? with | some x => x.thick | none => 0) | none => 0
def wearAt (xs : List Stuff) (ps : List Int) : Nat → Int → Int → Array Value
  | 0, _, n => #[.int .i64 n, .int .i64 0, .int .i64 0]
  | i + 1, wo, n => if wo < thAt xs ps i then #[.int .i64 n, .int .i64 (thAt xs ps i - wo), .int .i64 0] else wearAt xs ps i (wo - thAt xs ps i) (n + 1)
def rWear (xs : List Stuff) (ps : List Int) (wo : Int) : Array Value :=
  if soleB xs ps = true then (if inB wo 0 (sumR Stuff.thick xs ps) = true then wearAt xs ps ps.length wo 0 else #[.int .i64 0, .int .i64 0, .int .i64 2]) else #[.int .i64 0, .int .i64 0, .int .i64 1]
theorem wearAt_form (xs : List Stuff) (ps : List Int) : ∀ (i : Nat) (wo n : Int), ∃ ra rb rc : Int, wearAt xs ps i wo n = #[.int .i64 ra, .int .i64 rb, .int .i64 rc]
  | 0, _, _ => ⟨_, _, _, rfl⟩
  | i + 1, wo, n => by
    simp only [wearAt]
    split
    · exact ⟨_, _, _, rfl⟩
    · exact wearAt_form xs ps i _ _
theorem rWear_form (xs : List Stuff) (ps : List Int) (wo : Int) : ∃ ra rb rc : Int, rWear xs ps wo = #[.int .i64 ra, .int .i64 rb, .int .i64 rc] := by
  unfold rWear
  split
  · split
    · exact wearAt_form _ _ _ _ _
    · exact ⟨_, _, _, rfl⟩
  · exact ⟨_, _, _, rfl⟩
set_option maxRecDepth 100000 in
set_option maxHeartbeats 2000000 in
theorem WearLayers_c (A : Option Addr) (xs : List Stuff) (n c : Nat) (hn : Hid (xs.length = n)) (hm : (n : Int) ≤ 1048576) (hs : Hid (∀ x ∈ xs, x.name.size ≤ 9223372036854775807)) (hnc : (n : Int) ≤ c) (B : Option Addr) (ps : List Int) (m d : Nat) (hp : Hid (ps.length = m)) (hm' : (m : Int) ≤ 1048576) (wo : Int) (w : World) (hA : Arr w A (flat Stuff.cells xs)) (hB : Arr w B (flat icell ps)) :
    Calls Try.prog 7 #[.slice A n c, .agg #[.slice B m d], .int .i64 wo] w (RetT (rWear xs ps wo) w) := by
  go_enter Try.func7, Try.ntmps7
  go_wp2_with fail
  refine (ThickOf_c A xs n c hn hm hs hnc B ps m d hp hm' _ (hA.alloc _) (hB.alloc _)).mono ?_
  rintro e W ⟨rfl, hb⟩
  have hv : Below w.heap.size w W := bl_trans (bl_alloc (Below.refl _ _) _) hb
  have k0 : W.cell? ⟨w.heap.size, 0, none⟩ = some (.slice B m d) := ((Blk.new w 27 #[Value.slice B m d]).below hb).cell 0
  cases hso : soleB xs ps
  · have HS := Lib.hid hso
    rw [show rSole Stuff.thick xs ps = #[.int .i64 0, .int .i64 1] from by rw [rSole, hso]; rfl]
    clear hso
    go_wp2_with fail
    go_returns
    exact RetT.mk (by rw [rWear, HS.out]; rfl) hv
  · have HS := Lib.hid hso
    rw [show rSole Stuff.thick xs ps = #[.int .i64 (sumR Stuff.thick xs ps), .int .i64 0] from by rw [rSole, hso]; rfl]
    replace hso := HS
    obtain ⟨h1, h2⟩ := sumS_bd (few_stuff (sole_parts HS.out).1).1 ps 0
    obtain ⟨T, hT⟩ : ∃ T, T = sumR Stuff.thick xs ps := ⟨_, rfl⟩
    have h6 : (m : Int) ≤ 6 ∧ 1 ≤ (m : Int) := by have := (sole_parts HS.out).2.2.1; have := (sole_parts HS.out).2.1; have := hp.out; omega
    have hT1 : 0 ≤ T ∧ T ≤ 60000 := by
      have h3 := hp.out
      rw [hT]; unfold sumR; omega
    have HT := Lib.hid hT
    rw [← hT]
    clear hT h1 h2
    cases hi : inB wo 0 T
    · have HI := Lib.hid hi
      have hin := fun w => within_c wo 0 T w
      rw [hi] at hin
      replace hin := Lib.hid hin
      clear hi
      go_wp2_with fail
      refine (hin.out _).mono ?_
      rintro e w' ⟨rfl, rfl⟩
      go_wp2_with fail
      go_returns
      exact RetT.mk (by rw [rWear, HS.out, ← HT.out, HI.out]; rfl) hv
    · have HI := Lib.hid hi
      obtain ⟨hw0, hw1⟩ := inB_iff.1 hi
      have hin := fun w => within_c wo 0 T w
      rw [hi] at hin
      replace hin := Lib.hid hin
      clear hi
      go_wp2_with fail
      refine (hin.out _).mono ?_
      rintro e w' ⟨rfl, rfl⟩
      have HW := Lib.hid (show rWear xs ps wo = wearAt xs ps m wo 0 by rw [rWear, HS.out, ← HT.out, HI.out, hp.out]; rfl)
      go_wp2_with fail
      have hR := Lib.hid (show wearAt xs ps m wo 0 = wearAt xs ps (((m : Int) - 1) + 1).toNat wo 0 by rw [show (((m : Int) - 1) + 1).toNat = m from by omega])
      go_loopw [2, 11, 12] (fun wn ct i wr => ∃ wn' cn qi : Int, wn = .int .i64 wn' ∧ ct = .int .i64 cn ∧ i = .int .i64 qi ∧ -1 ≤ qi ∧ qi < m ∧ 0 ≤ wn' ∧ wn' ≤ 60000 ∧ 0 ≤ cn ∧ cn + qi ≤ 10 ∧ Hid (wearAt xs ps m wo 0 = wearAt xs ps (qi + 1).toNat wn' cn) ∧ wr.cell? ⟨w.heap.size, 0, none⟩ = some (.slice B m d) ∧ Below w.heap.size w wr) (fun _ _ i _ => (intOf i + 1).toNat)
      case atStart => exact ⟨wo, 0, (m : Int) - 1, rfl, rfl, rfl, by omega, by omega, by omega, by omega, by omega, by omega, hR, k0, hv⟩
      case round =>
        clear hR k0 hv
        obtain ⟨wn, cn, qi, rfl, rfl, rfl, hq0, hq1, hwn0, hwn1, hc0, hc1, hR, k0, hv⟩ := hrel
        by_cases hlt : 0 ≤ qi
        · skip
          obtain ⟨q, rfl⟩ := Int.eq_ofNat_of_zero_le (show 0 ≤ qi by omega)
          have hqm : q < m := by omega
          obtain ⟨k, hkj⟩ := get_of_lt (xs := ps) (k := q) (by rw [hp.out]; exact hqm)
          obtain ⟨bd, rfl, hbb, d0⟩ := icell_at (hB.below hv) hkj
          obtain ⟨hk0, hk1⟩ := (sole_parts hso.out).2.2.2 k (List.mem_of_getElem? hkj)
          obtain ⟨kk, rfl⟩ := Int.eq_ofNat_of_zero_le hk0
          rw [hn.out] at hk1
          obtain ⟨x, hx⟩ := get_of_lt (xs := xs) (k := kk) (by rw [hn.out]; omega)
          obtain ⟨ad, rfl, hab, c0, c1, c2, c3, c4⟩ := Stuff.at_ (hA.below hv) hx
          have few := few_stuff (sole_parts hso.out).1
          obtain ⟨t0, t1⟩ := few.1 x (List.mem_of_getElem? hx)
          have hth : thAt xs ps q = x.thick := by unfold thAt; rw [hkj]; simp only [Int.toNat_natCast]; rw [hx]
          have hR2 := Lib.hid (hR.out.trans (by rw [show ((q : Int) + 1).toNat = q + 1 from by omega, wearAt, hth] : _ = if wn < x.thick then #[.int .i64 cn, .int .i64 (x.thick - wn), .int .i64 0] else wearAt xs ps q (wn - x.thick) (cn + 1)))
          have hi0 : (0 : Int) ≤ (q : Int) := by omega
          have hi1 : (q : Int) < (m : Int) := by omega
          have hj0 : (0 : Int) ≤ (kk : Int) := by omega
          have hj1 : (kk : Int) < (n : Int) := by omega
          clear hR hkj hx few hth
          by_cases hw : wn < x.thick
          · have hR3 := Lib.hid (hR2.out.trans (if_pos hw))
            go_wp2_with fail
            go_returns
            exact RetT.mk (by rw [HW.out, hR3.out]; rfl) hv
          · have hR3 := Lib.hid (hR2.out.trans (if_neg hw))
            go_wp2_with fail
            exact ⟨⟨_, _, (q : Int) - 1, rfl, rfl, rfl, by omega, by omega, by omega, by omega, by omega, by omega, Lib.hid (hR3.out.trans (by rw [show ((q : Int) - 1 + 1).toNat = q from by omega])), k0, hv⟩, by simp [intOf] <;> omega⟩
        · obtain rfl : qi = -1 := by omega
          have hR2 := Lib.hid (show wearAt xs ps m wo 0 = #[Value.int IntKind.i64 cn, Value.int IntKind.i64 0, Value.int IntKind.i64 0] from hR.out.trans rfl)
          clear hR
          go_wp2_with fail
          go_returns
          exact RetT.mk (by rw [HW.out, hR2.out]; rfl) hv

set_option maxRecDepth 100000 in
set_option maxHeartbeats 2000000 in
theorem SWearLayers_c (A : Option Addr) (xs : List Stuff) (n c : Nat) (hn : Hid (xs.length = n)) (hm : (n : Int) ≤ 1048576) (hs : Hid (∀ x ∈ xs, x.name.size ≤ 9223372036854775807)) (B : Option Addr) (ps : List Int) (m d : Nat) (hp : Hid (ps.length = m)) (hm' : (m : Int) ≤ 1048576) (wo : Int) (w : World) (hA : Arr w A (flat Stuff.cells xs)) (hB : Arr w B (flat icell ps)) :
    Calls Try.prog 8 #[.slice A n c, .agg #[.slice B m d], .int .i64 wo] w (RetT (rWear xs ps wo) w) := by
  have hfd : ∀ (a b e f : Int) (w : World), (Instr.field 46 (.agg #[.string ⟨#[]⟩, .int .i64 a, .int .i64 b, .int .i64 e, .int .i64 f]) 1).run Try.prog w = .ok (.int .i64 a) w := fun _ _ _ _ _ => by kernel_rfl
  go_enter Try.func8, Try.ntmps8
  go_wp2_with fail
  refine (l17Sole_c A xs n c hn hm hs w.heap.size B ps m d hp hm' _ (Blk.new _ _ _) (hA.alloc _) (hB.alloc _)).mono ?_
  rintro e W ⟨rfl, hb⟩
  have hv : Below w.heap.size w W := bl_trans (bl_alloc (Below.refl _ _) _) hb
  have hK := (Blk.new w 27 #[Value.slice B m d]).below hb
  have k0 : W.cell? ⟨w.heap.size, 0, none⟩ = some (.slice B m d) := hK.cell 0
  cases hso : soleB xs ps
  · have HS := Lib.hid hso
    clear hso
    go_wp2_with fail
    go_returns
    exact RetT.mk (by rw [rWear, HS.out]; rfl) hv
  · have HS := Lib.hid hso
    replace hso := HS
    obtain ⟨h1, h2⟩ := sumS_bd (few_stuff (sole_parts HS.out).1).1 ps 0
    obtain ⟨T, hT⟩ : ∃ T, T = sumR Stuff.thick xs ps := ⟨_, rfl⟩
    have h6 : (m : Int) ≤ 6 ∧ 1 ≤ (m : Int) := by have := (sole_parts HS.out).2.2.1; have := (sole_parts HS.out).2.1; have := hp.out; omega
    have hT1 : 0 ≤ T ∧ T ≤ 60000 := by
      have h3 := hp.out
      rw [hT]; unfold sumR; omega
    have HT := Lib.hid hT
    clear hT h1 h2
    go_wp2_with fail
    refine (l17Sum_c A xs n c hn hm hs B ps m d hp hm' HS _ (hA.below hv) (hB.below hv)).mono ?_
    rintro e W2 ⟨rfl, hb2⟩
    replace hv := bl_trans hv hb2
    replace k0 : W2.cell? ⟨w.heap.size, 0, none⟩ = some (.slice B m d) := (hK.below hb2).cell 0
    clear hK
    rw [← HT.out]
    cases hi : inB wo 0 T
    · have HI := Lib.hid hi
      have hin := fun w => l00In_c wo 0 T w
      rw [hi] at hin
      replace hin := Lib.hid hin
      clear hi
      go_wp2_with fail
      refine (hin.out _).mono ?_
      rintro e w' ⟨rfl, rfl⟩
      go_wp2_with fail
      go_returns
      exact RetT.mk (by rw [rWear, HS.out, ← HT.out, HI.out]; rfl) hv
    · have HI := Lib.hid hi
      obtain ⟨hw0, hw1⟩ := inB_iff.1 hi
      have hin := fun w => l00In_c wo 0 T w
      rw [hi] at hin
      replace hin := Lib.hid hin
      clear hi
      go_wp2_with fail
      refine (hin.out _).mono ?_
      rintro e w' ⟨rfl, rfl⟩
      have HW := Lib.hid (show rWear xs ps wo = wearAt xs ps m wo 0 by rw [rWear, HS.out, ← HT.out, HI.out, hp.out]; rfl)
      go_wp2_with fail
      have hR := Lib.hid (show wearAt xs ps m wo 0 = wearAt xs ps (((m : Int) - 1) + 1).toNat wo 0 by rw [show (((m : Int) - 1) + 1).toNat = m from by omega])
      go_loopw [2, 9, 10] (fun wn ct i wr => ∃ wn' cn qi : Int, wn = .int .i64 wn' ∧ ct = .int .i64 cn ∧ i = .int .i64 qi ∧ -1 ≤ qi ∧ qi < m ∧ 0 ≤ wn' ∧ wn' ≤ 60000 ∧ 0 ≤ cn ∧ cn + qi ≤ 10 ∧ Hid (wearAt xs ps m wo 0 = wearAt xs ps (qi + 1).toNat wn' cn) ∧ wr.cell? ⟨w.heap.size, 0, none⟩ = some (.slice B m d) ∧ Below w.heap.size w wr) (fun _ _ i _ => (intOf i + 1).toNat)
      case atStart => exact ⟨wo, 0, (m : Int) - 1, rfl, rfl, rfl, by omega, by omega, by omega, by omega, by omega, by omega, hR, k0, hv⟩
      case round =>
        clear hR k0 hv
        obtain ⟨wn, cn, qi, rfl, rfl, rfl, hq0, hq1, hwn0, hwn1, hc0, hc1, hR, k0, hv⟩ := hrel
        by_cases hlt : 0 ≤ qi
        · skip
          obtain ⟨q, rfl⟩ := Int.eq_ofNat_of_zero_le (show 0 ≤ qi by omega)
          have hqm : q < m := by omega
          obtain ⟨k, hkj⟩ := get_of_lt (xs := ps) (k := q) (by rw [hp.out]; exact hqm)
          obtain ⟨bd, rfl, hbb, d0⟩ := icell_at (hB.below hv) hkj
          obtain ⟨hk0, hk1⟩ := (sole_parts hso.out).2.2.2 k (List.mem_of_getElem? hkj)
          obtain ⟨kk, rfl⟩ := Int.eq_ofNat_of_zero_le hk0
          rw [hn.out] at hk1
          obtain ⟨x, hx⟩ := get_of_lt (xs := xs) (k := kk) (by rw [hn.out]; omega)
          obtain ⟨ad, rfl, hab, c0, c1, c2, c3, c4⟩ := Stuff.at_ (hA.below hv) hx
          have few := few_stuff (sole_parts hso.out).1
          obtain ⟨t0, t1⟩ := few.1 x (List.mem_of_getElem? hx)
          have hth : thAt xs ps q = x.thick := by unfold thAt; rw [hkj]; simp only [Int.toNat_natCast]; rw [hx]
          have hR2 := Lib.hid (hR.out.trans (by rw [show ((q : Int) + 1).toNat = q + 1 from by omega, wearAt, hth] : _ = if wn < x.thick then #[.int .i64 cn, .int .i64 (x.thick - wn), .int .i64 0] else wearAt xs ps q (wn - x.thick) (cn + 1)))
          have hi0 : (0 : Int) ≤ (q : Int) := by omega
          have hi1 : (q : Int) < (m : Int) := by omega
          have hj0 : (0 : Int) ≤ (kk : Int) := by omega
          have hj1 : (kk : Int) < (n : Int) := by omega
          clear hR hkj hx few hth
          by_cases hw : wn < x.thick
          · have hR3 := Lib.hid (hR2.out.trans (if_pos hw))
            have hwr : IntKind.i64.wrap (x.thick - wn) = x.thick - wn := IntWalk.i64_in _ (by omega)
            have HWR := Lib.hid hwr
            clear hwr
            go_wp2_with fail
            have hwr := HWR.out
            go_quiet (fail)
            clear hwr
            go_wp2_with fail
            go_returns
            exact RetT.mk (by rw [HW.out, hR3.out]; rfl) (below_drewN hv _)
          · have hR3 := Lib.hid (hR2.out.trans (if_neg hw))
            go_wp2_with fail
            exact ⟨⟨_, _, (q : Int) - 1, rfl, rfl, rfl, by omega, by omega, by omega, by omega, by omega, by omega, Lib.hid (hR3.out.trans (by rw [show ((q : Int) - 1 + 1).toNat = q from by omega])), k0, hv⟩, by simp [intOf] <;> omega⟩
        · obtain rfl : qi = -1 := by omega
          have hR2 := Lib.hid (show wearAt xs ps m wo 0 = #[Value.int IntKind.i64 cn, Value.int IntKind.i64 0, Value.int IntKind.i64 0] from hR.out.trans rfl)
          clear hR
          go_wp2_with fail
          go_returns
          exact RetT.mk (by rw [HW.out, hR2.out]; rfl) hv

end Go.Proofs.Ytopbiihiogbhiaa
