/- Worn soles: the program's and the reference's functions; the law walked. -/
import Derived.Test.YtiplnpbeoaefaaaSolLaw
namespace Go.Proofs.Ytiplnpbeoaefaaa
open Go.RowKit

def thAt (xs : List Stuff) (ps : List Int) (i : Nat) : Int := match ps[i]? with | some k => (match xs[k.toNat]? with | some x => x.thick | none => 0) | none => 0
def wearAt (xs : List Stuff) (ps : List Int) : Nat → Int → Int → Array Value
  | 0, _, n => #[.int .i64 n, .int .i64 0, .int .i64 0]
  | i + 1, wo, n => if wo < thAt xs ps i then #[.int .i64 n, .int .i64 (thAt xs ps i - wo), .int .i64 0] else wearAt xs ps i (wo - thAt xs ps i) (n + 1)
def rWear (xs : List Stuff) (ps : List Int) (wo : Int) : Array Value :=
  if soleB xs ps = true then (if inB wo 0 (sumR Stuff.thick xs ps) = true then wearAt xs ps ps.length wo 0 else #[.int .i64 0, .int .i64 0, .int .i64 2]) else #[.int .i64 0, .int .i64 0, .int .i64 1]
theorem wearAt_form (xs : List Stuff) (ps : List Int) : ∀ (i : Nat) (wo n : Int), ∃ ra rb rc : Int, wearAt xs ps i wo n = #[.int .i64 ra, .int .i64 rb, .int .i64 rc]
  | 0, _, _ => ⟨_, _, _, rfl⟩
  | i + 1, wo, n => by
    simp only [wearAt]
    split
    · exact ⟨_, _, _, rfl⟩
    · exact wearAt_form xs ps i _ _
theorem rWear_form (xs : List Stuff) (ps : List Int) (wo : Int) : ∃ ra rb rc : Int, rWear xs ps wo = #[.int .i64 ra, .int .i64 rb, .int .i64 rc] := by
  unfold rWear
  split
  · split
    · exact wearAt_form _ _ _ _ _
    · exact ⟨_, _, _, rfl⟩
  · exact ⟨_, _, _, rfl⟩
set_option maxRecDepth 100000 in
set_option maxHeartbeats 2000000 in
theorem WearLayers_c (A : Option Addr) (xs : List Stuff) (n c : Nat) (hn : Hid (xs.length = n)) (hm : (n : Int) ≤ 1048576) (hs : Hid (∀ x ∈ xs, x.name.size ≤ 9223372036854775807)) (hnc : (n : Int) ≤ c) (B : Option Addr) (ps : List Int) (m d : Nat) (hp : Hid (ps.length = m)) (hm' : (m : Int) ≤ 1048576) (wo : Int) (w : World) (hA : Arr w A (flat Stuff.cells xs)) (hB : Arr w B (flat icell ps)) :
    Calls Try.prog 25 #[.slice A n c, .agg #[.slice B m d], .int .i64 wo] w (RetT (rWear xs ps wo) w) := by
  go_enter Try.func25, Try.ntmps25
  go_wp2_with fail
  refine (ThickOf_c A xs n c hn hm hs hnc B ps m d hp hm' _ (hA.alloc _) (hB.alloc _)).mono ?_
  rintro e W ⟨rfl, hb⟩
  have hv : Below w.heap.size w W := bl_trans (bl_alloc (Below.refl _ _) _) hb
  have k0 : W.cell? ⟨w.heap.size, 0, none⟩ = some (.slice B m d) := ((Blk.new w 32 #[Value.slice B m d]).below hb).cell 0
  cases hso : soleB xs ps
  · have HS := Lib.hid hso
    rw [show rSole Stuff.thick xs ps = #[.int .i64 0, .int .i64 1] from by rw [rSole, hso]; rfl]
    clear hso
    go_wp2_with fail
    go_returns
    exact RetT.mk (by rw [rWear, HS.out]; rfl) hv
  · have HS := Lib.hid hso
    rw [show rSole Stuff.thick xs ps = #[.int .i64 (sumR Stuff.thick xs ps), .int .i64 0] from by rw [rSole, hso]; rfl]
    replace hso := HS
    obtain ⟨h1, h2⟩ := sumS_bd (few_stuff (sole_parts HS.out).1).1 ps 0
    obtain ⟨T, hT⟩ : ∃ T, T = sumR Stuff.thick xs ps := ⟨_, rfl⟩
    have h6 : (m : Int) ≤ 6 ∧ 1 ≤ (m : Int) := by have := (sole_parts HS.out).2.2.1; have := (sole_parts HS.out).2.1; have := hp.out; omega
    have hT1 : 0 ≤ T ∧ T ≤ 60000 := by
      have h3 := hp.out
      rw [hT]; unfold sumR; omega
    have HT := Lib.hid hT
    rw [← hT]
    clear hT h1 h2
    cases hi : inB wo 0 T
    · have HI := Lib.hid hi
      have hin := fun w => within_c wo 0 T w
      rw [hi] at hin
      replace hin := Lib.hid hin
      clear hi
      go_wp2_with fail
      refine (hin.out _).mono ?_
      rintro e w' ⟨rfl, rfl⟩
      go_wp2_with fail
      go_returns
      exact RetT.mk (by rw [rWear, HS.out, ← HT.out, HI.out]; rfl) hv
    · have HI := Lib.hid hi
      obtain ⟨hw0, hw1⟩ := inB_iff.1 hi
      have hin := fun w => within_c wo 0 T w
      rw [hi] at hin
      replace hin := Lib.hid hin
      clear hi
      go_wp2_with fail
      refine (hin.out _).mono ?_
      rintro e w' ⟨rfl, rfl⟩
      have HW := Lib.hid (show rWear xs ps wo = wearAt xs ps m wo 0 by rw [rWear, HS.out, ← HT.out, HI.out, hp.out]; rfl)
      go_wp2_with fail
      have hR := Lib.hid (show wearAt xs ps m wo 0 = wearAt xs ps (((m : Int) - 1) + 1).toNat wo 0 by rw [show (((m : Int) - 1) + 1).toNat = m from by omega])
      go_loopw [2, 11, 12] (fun wn ct i wr => ∃ wn' cn qi : Int, wn = .int .i64 wn' ∧ ct = .int .i64 cn ∧ i = .int .i64 qi ∧ -1 ≤ qi ∧ qi < m ∧ 0 ≤ wn' ∧ wn' ≤ 60000 ∧ 0 ≤ cn ∧ cn + qi ≤ 10 ∧ Hid (wearAt xs ps m wo 0 = wearAt xs ps (qi + 1).toNat wn' cn) ∧ wr.cell? ⟨w.heap.size, 0, none⟩ = some (.slice B m d) ∧ Below w.heap.size w wr) (fun _ _ i _ => (intOf i + 1).toNat)
      case atStart => exact ⟨wo, 0, (m : Int) - 1, rfl, rfl, rfl, by omega, by omega, by omega, by omega, by omega, by omega, hR, k0, hv⟩
      case round =>
        clear hR k0 hv
        obtain ⟨wn, cn, qi, rfl, rfl, rfl, hq0, hq1, hwn0, hwn1, hc0, hc1, hR, k0, hv⟩ := hrel
        by_cases hlt : 0 ≤ qi
        · skip
          obtain ⟨q, rfl⟩ := Int.eq_ofNat_of_zero_le (show 0 ≤ qi by omega)
          have hqm : q < m := by omega
          obtain ⟨k, hkj⟩ := get_of_lt (xs := ps) (k := q) (by rw [hp.out]; exact hqm)
          obtain ⟨bd, rfl, hbb, d0⟩ := icell_at (hB.below hv) hkj
          obtain ⟨hk0, hk1⟩ := (sole_parts hso.out).2.2.2 k (List.mem_of_getElem? hkj)
          obtain ⟨kk, rfl⟩ := Int.eq_ofNat_of_zero_le hk0
          rw [hn.out] at hk1
          obtain ⟨x, hx⟩ := get_of_lt (xs := xs) (k := kk) (by rw [hn.out]; omega)
          obtain ⟨ad, rfl, hab, c0, c1, c2, c3, c4⟩ := Stuff.at_ (hA.below hv) hx
          have few := few_stuff (sole_parts hso.out).1
          obtain ⟨t0, t1⟩ := few.1 x (List.mem_of_getElem? hx)
          have hth : thAt xs ps q = x.thick := by unfold thAt; rw [hkj]; simp only [Int.toNat_natCast]; rw [hx]
          have hR2 := Lib.hid (hR.out.trans (by rw [show ((q : Int) + 1).toNat = q + 1 from by omega, wearAt, hth] : _ = if wn < x.thick then #[.int .i64 cn, .int .i64 (x.thick - wn), .int .i64 0] else wearAt xs ps q (wn - x.thick) (cn + 1)))
          have hi0 : (0 : Int) ≤ (q : Int) := by omega
          have hi1 : (q : Int) < (m : Int) := by omega
          have hj0 : (0 : Int) ≤ (kk : Int) := by omega
          have hj1 : (kk : Int) < (n : Int) := by omega
          clear hR hkj hx few hth
          by_cases hw : wn < x.thick
          · have hR3 := Lib.hid (hR2.out.trans (if_pos hw))
            go_wp2_with fail
            go_returns
            exact RetT.mk (by rw [HW.out, hR3.out]; rfl) hv
          · have hR3 := Lib.hid (hR2.out.trans (if_neg hw))
            go_wp2_with fail
            exact ⟨⟨_, _, (q : Int) - 1, rfl, rfl, rfl, by omega, by omega, by omega, by omega, by omega, by omega, Lib.hid (hR3.out.trans (by rw [show ((q : Int) - 1 + 1).toNat = q from by omega])), k0, hv⟩, by simp [intOf] <;> omega⟩
        · obtain rfl : qi = -1 := by omega
          have hR2 := Lib.hid (show wearAt xs ps m wo 0 = #[Value.int IntKind.i64 cn, Value.int IntKind.i64 0, Value.int IntKind.i64 0] from hR.out.trans rfl)
          clear hR
          go_wp2_with fail
          go_returns
          exact RetT.mk (by rw [HW.out, hR2.out]; rfl) hv

set_option maxRecDepth 100000 in
set_option maxHeartbeats 2000000 in
theorem SWearLayers_c (A : Option Addr) (xs : List Stuff) (n c : Nat) (hn : Hid (xs.length = n)) (hm : (n : Int) ≤ 1048576) (hs : Hid (∀ x ∈ xs, x.name.size ≤ 9223372036854775807)) (B : Option Addr) (ps : List Int) (m d : Nat) (hp : Hid (ps.length = m)) (hm' : (m : Int) ≤ 1048576) (wo : Int) (w : World) (hA : Arr w A (flat Stuff.cells xs)) (hB : Arr w B (flat icell ps)) :
    Calls Try.prog 24 #[.slice A n c, .agg #[.slice B m d], .int .i64 wo] w (RetT (rWear xs ps wo) w) := by
  have hfd : ∀ (a b e f : Int) (w : World), (Instr.field 81 (.agg #[.string ⟨#[]⟩, .int .i64 a, .int .i64 b, .int .i64 e, .int .i64 f]) 1).run Try.prog w = .ok (.int .i64 a) w := fun _ _ _ _ _ => by kernel_rfl
  go_enter Try.func24, Try.ntmps24
  go_wp2_with fail
  refine (l17Sole_c A xs n c hn hm hs w.heap.size B ps m d hp hm' _ (Blk.new _ _ _) (hA.alloc _) (hB.alloc _)).mono ?_
  rintro e W ⟨rfl, hb⟩
  have hv : Below w.heap.size w W := bl_trans (bl_alloc (Below.refl _ _) _) hb
  have hK := (Blk.new w 32 #[Value.slice B m d]).below hb
  have k0 : W.cell? ⟨w.heap.size, 0, none⟩ = some (.slice B m d) := hK.cell 0
  cases hso : soleB xs ps
  · have HS := Lib.hid hso
    clear hso
    go_wp2_with fail
    go_returns
    exact RetT.mk (by rw [rWear, HS.out]; rfl) hv
  · have HS := Lib.hid hso
    replace hso := HS
    obtain ⟨h1, h2⟩ := sumS_bd (few_stuff (sole_parts HS.out).1).1 ps 0
    obtain ⟨T, hT⟩ : ∃ T, T = sumR Stuff.thick xs ps := ⟨_, rfl⟩
    have h6 : (m : Int) ≤ 6 ∧ 1 ≤ (m : Int) := by have := (sole_parts HS.out).2.2.1; have := (sole_parts HS.out).2.1; have := hp.out; omega
    have hT1 : 0 ≤ T ∧ T ≤ 60000 := by
      have h3 := hp.out
      rw [hT]; unfold sumR; omega
    have HT := Lib.hid hT
    clear hT h1 h2
    go_wp2_with fail
    refine (l17Sum_c A xs n c hn hm hs B ps m d hp hm' HS _ (hA.below hv) (hB.below hv)).mono ?_
    rintro e W2 ⟨rfl, hb2⟩
    replace hv := bl_trans hv hb2
    replace k0 : W2.cell? ⟨w.heap.size, 0, none⟩ = some (.slice B m d) := (hK.below hb2).cell 0
    clear hK
    rw [← HT.out]
    cases hi : inB wo 0 T
    · have HI := Lib.hid hi
      have hin := fun w => l00In_c wo 0 T w
      rw [hi] at hin
      replace hin := Lib.hid hin
      clear hi
      go_wp2_with fail
      refine (hin.out _).mono ?_
      rintro e w' ⟨rfl, rfl⟩
      go_wp2_with fail
      go_returns
      exact RetT.mk (by rw [rWear, HS.out, ← HT.out, HI.out]; rfl) hv
    · have HI := Lib.hid hi
      obtain ⟨hw0, hw1⟩ := inB_iff.1 hi
      have hin := fun w => l00In_c wo 0 T w
      rw [hi] at hin
      replace hin := Lib.hid hin
      clear hi
      go_wp2_with fail
      refine (hin.out _).mono ?_
      rintro e w' ⟨rfl, rfl⟩
      have HW := Lib.hid (show rWear xs ps wo = wearAt xs ps m wo 0 by rw [rWear, HS.out, ← HT.out, HI.out, hp.out]; rfl)
      go_wp2_with fail
      have hR := Lib.hid (show wearAt xs ps m wo 0 = wearAt xs ps (((m : Int) - 1) + 1).toNat wo 0 by rw [show (((m : Int) - 1) + 1).toNat = m from by omega])
      go_loopw [2, 9, 10] (fun wn ct i wr => ∃ wn' cn qi : Int, wn = .int .i64 wn' ∧ ct = .int .i64 cn ∧ i = .int .i64 qi ∧ -1 ≤ qi ∧ qi < m ∧ 0 ≤ wn' ∧ wn' ≤ 60000 ∧ 0 ≤ cn ∧ cn + qi ≤ 10 ∧ Hid (wearAt xs ps m wo 0 = wearAt xs ps (qi + 1).toNat wn' cn) ∧ wr.cell? ⟨w.heap.size, 0, none⟩ = some (.slice B m d) ∧ Below w.heap.size w wr) (fun _ _ i _ => (intOf i + 1).toNat)
      case atStart => exact ⟨wo, 0, (m : Int) - 1, rfl, rfl, rfl, by omega, by omega, by omega, by omega, by omega, by omega, hR, k0, hv⟩
      case round =>
        clear hR k0 hv
        obtain ⟨wn, cn, qi, rfl, rfl, rfl, hq0, hq1, hwn0, hwn1, hc0, hc1, hR, k0, hv⟩ := hrel
        by_cases hlt : 0 ≤ qi
        · skip
          obtain ⟨q, rfl⟩ := Int.eq_ofNat_of_zero_le (show 0 ≤ qi by omega)
          have hqm : q < m := by omega
          obtain ⟨k, hkj⟩ := get_of_lt (xs := ps) (k := q) (by rw [hp.out]; exact hqm)
          obtain ⟨bd, rfl, hbb, d0⟩ := icell_at (hB.below hv) hkj
          obtain ⟨hk0, hk1⟩ := (sole_parts hso.out).2.2.2 k (List.mem_of_getElem? hkj)
          obtain ⟨kk, rfl⟩ := Int.eq_ofNat_of_zero_le hk0
          rw [hn.out] at hk1
          obtain ⟨x, hx⟩ := get_of_lt (xs := xs) (k := kk) (by rw [hn.out]; omega)
          obtain ⟨ad, rfl, hab, c0, c1, c2, c3, c4⟩ := Stuff.at_ (hA.below hv) hx
          have few := few_stuff (sole_parts hso.out).1
          obtain ⟨t0, t1⟩ := few.1 x (List.mem_of_getElem? hx)
          have hth : thAt xs ps q = x.thick := by unfold thAt; rw [hkj]; simp only [Int.toNat_natCast]; rw [hx]
          have hR2 := Lib.hid (hR.out.trans (by rw [show ((q : Int) + 1).toNat = q + 1 from by omega, wearAt, hth] : _ = if wn < x.thick then #[.int .i64 cn, .int .i64 (x.thick - wn), .int .i64 0] else wearAt xs ps q (wn - x.thick) (cn + 1)))
          have hi0 : (0 : Int) ≤ (q : Int) := by omega
          have hi1 : (q : Int) < (m : Int) := by omega
          have hj0 : (0 : Int) ≤ (kk : Int) := by omega
          have hj1 : (kk : Int) < (n : Int) := by omega
          clear hR hkj hx few hth
          by_cases hw : wn < x.thick
          · have hR3 := Lib.hid (hR2.out.trans (if_pos hw))
            have hwr : IntKind.i64.wrap (x.thick - wn) = x.thick - wn := IntWalk.i64_in _ (by omega)
            have HWR := Lib.hid hwr
            clear hwr
            go_wp2_with fail
            have hwr := HWR.out
            go_quiet (fail)
            clear hwr
            go_wp2_with fail
            go_returns
            exact RetT.mk (by rw [HW.out, hR3.out]; rfl) (below_drewN hv _)
          · have hR3 := Lib.hid (hR2.out.trans (if_neg hw))
            go_wp2_with fail
            exact ⟨⟨_, _, (q : Int) - 1, rfl, rfl, rfl, by omega, by omega, by omega, by omega, by omega, by omega, Lib.hid (hR3.out.trans (by rw [show ((q : Int) - 1 + 1).toNat = q from by omega])), k0, hv⟩, by simp [intOf] <;> omega⟩
        · obtain rfl : qi = -1 := by omega
          have hR2 := Lib.hid (show wearAt xs ps m wo 0 = #[Value.int IntKind.i64 cn, Value.int IntKind.i64 0, Value.int IntKind.i64 0] from hR.out.trans rfl)
          clear hR
          go_wp2_with fail
          go_returns
          exact RetT.mk (by rw [HW.out, hR2.out]; rfl) hv
set_option maxRecDepth 100000 in
set_option maxHeartbeats 2000000 in
theorem FnExactWearLayers_law (A : Option Addr) (xs : List Stuff) (n c : Nat) (B : Option Addr) (ps : List Int) (m d : Nat) (wo : Int) (hn : Hid (xs.length = n)) (hmax : n ≤ 9223372036854775807) (hs : Hid (∀ x ∈ xs, x.name.size ≤ 9223372036854775807)) (hp : Hid (ps.length = m)) (hmax' : m ≤ 9223372036854775807) (w : World) (hA : Arr w A (flat Stuff.cells xs)) (hB : Arr w B (flat icell ps)) :
    Calls Try.prog 6 #[.slice A n c, .agg #[.slice B m d], .int .i64 wo] w (Ret (.bool true) w) := by
  have hle := szS_le Stuff.sizes xs 1048576 (by omega)
  go_enter Try.func6, Try.ntmps6
  go_wp2_with fail
  obtain ⟨W, hW⟩ : ∃ W, W = w.alloc (Obj.cells #[Value.slice B m d] 25) := ⟨_, rfl⟩
  obtain ⟨g, hg⟩ : ∃ g, g = w.heap.size := ⟨_, rfl⟩
  have hv : Below w.heap.size w W := by rw [hW]; exact bl_alloc (Below.refl _ _) _
  have hB0 : Blk W g 25 #[Value.slice B m d] := by rw [hW, hg]; exact Blk.new _ _ _
  rw [← hW, ← hg]
  clear hW hg
  have k0 : W.cell? ⟨g, 0, none⟩ = some (.slice B m d) := hB0.cell 0
  refine (szStuffS_c A xs n c 1048576 hn hmax hs (by omega) (by omega) _ (hA.below hv)).mono ?_
  rintro e W ⟨rfl, hb⟩
  have z0 := Lib.hid hb.size
  replace hv := bl_trans hv hb
  replace hB0 := hB0.below hb
  clear hb
  have k0 : W.cell? ⟨g, 0, none⟩ = some (.slice B m d) := hB0.cell 0
  obtain ⟨q, hq'⟩ : ∃ q, q = szS Stuff.sizes xs 1048576 := ⟨_, rfl⟩
  rw [← hq'] at hle ⊢
  by_cases hq : q < 0
  · clear hq'
    go_wp2_with fail
    go_returns
    exact Ret.mk rfl hv
  have hz : (n : Int) ≤ 1048576 := by rw [← hn.out]; exact szS_len (by rw [← hq']; omega) (by omega)
  clear hq'
  have hle2 := szGo_le [m] q (by omega)
  go_wp2_with fail
  refine (szSole_c B m d q hmax' (by omega) (by omega) _).mono ?_
  rintro e W ⟨rfl, hb⟩
  have z1 := Lib.hid hb.size
  replace hv := bl_trans hv hb
  replace hB0 := hB0.below hb
  clear hb
  have k0 : W.cell? ⟨g, 0, none⟩ = some (.slice B m d) := hB0.cell 0
  obtain ⟨q2, hq2'⟩ : ∃ q2, q2 = szGo [m] q := ⟨_, rfl⟩
  have hz2 : 0 ≤ q2 → (m : Int) ≤ 1048576 := by
    intro h0
    have h1 := szGo_sum [m] q (by rw [← hq2']; exact h0)
    rw [← hq2'] at h1
    simp at h1
    omega
  rw [← hq2'] at hle2 ⊢
  by_cases hq2 : q2 < 0
  · clear hq2'
    go_wp2_with fail
    go_returns
    exact Ret.mk rfl hv
  have hz' : (m : Int) ≤ 1048576 := hz2 (by omega)
  clear hq2' hz2
  obtain ⟨ra, rb, rc, hform⟩ := rWear_form xs ps wo
  have HW := fun (a b : Option Addr) (w : World) (h : Arr w a (flat Stuff.cells xs)) (h' : Arr w b (flat icell ps)) => SWearLayers_c a xs n n hn hz hs b ps m m hp hz' wo w h h'
  have HG' := fun (a b : Option Addr) (w : World) (h : Arr w a (flat Stuff.cells xs)) (h' : Arr w b (flat icell ps)) => WearLayers_c a xs n n hn hz hs (Int.le_refl _) b ps m m hp hz' wo w h h'
  rw [hform] at HW HG'
  clear hform
  replace HW := Lib.hid HW
  replace HG' := Lib.hid HG'
  go_wp2_with fail
  have HS := Lib.hid (show (fun w' : World => (Below w.heap.size w w') ∧ (Blk w' g 25 #[.slice B m d]) ∧ (World.cell? w' ⟨g, 0, none⟩ = some (.slice B m d))) W.drew from ⟨hv.drew, hB0.below (Below.refl _ _).drew, k0⟩)
  clear k0 hB0 hv
  go_region_held3 (fun w' => (Below w.heap.size w w') ∧ (Blk w' g 25 #[.slice B m d]) ∧ (World.cell? w' ⟨g, 0, none⟩ = some (.slice B m d)))
    (first | exact HS.out | (go_split_ands; exact ⟨bl_trans (by assumption) hb, Blk.below (by assumption) hb, bl_cell hb (by assumption)⟩))
    (first | (go_at_call 15; go_split_ands; refine (toStuffS_c A xs n c hn hz _ (hA.below (by assumption))).mono ?_; rintro e W ⟨g1, rfl, ha, hb⟩) | (go_at_call 16; go_split_ands; refine (toSole_c B ps m d hp hz' _ (hB.below (by assumption))).mono ?_; rintro e W ⟨g2, rfl, hb1, hb⟩; have ha' := own_below ha hb) | (go_at_call 24; go_split_ands; refine (HW.out _ _ _ (Arr.own ha') (Arr.own hb1)).mono ?_; rintro e W ⟨rfl, hb⟩))
  go_split_ands
  have hv := (by assumption : Below w.heap.size w _)
  have hB0 := (by assumption : Blk _ g 25 #[.slice B m d])
  have k0 := (by assumption : World.cell? _ ⟨g, 0, none⟩ = some (.slice B m d))
  go_wp2_with fail
  refine (toStuffS_c A xs n c hn hz _ (hA.below hv)).mono ?_
  rintro e W ⟨g3, rfl, hx, hb⟩
  obtain ⟨lx, ux, h_own, z2, z3⟩ := Own.named hx hb
  replace hx := h_own
  clear h_own
  have z4 := Lib.hid hb.size
  replace hv := bl_trans hv hb
  replace hB0 := hB0.below hb
  clear hb
  have k0 : W.cell? ⟨g, 0, none⟩ = some (.slice B m d) := hB0.cell 0
  go_wp2_with fail
  refine (toSole_c B ps m d hp hz' _ (hB.below hv)).mono ?_
  rintro e W ⟨g4, rfl, hy, hb⟩
  obtain ⟨ly, uy, h_own, z5, z6⟩ := Own.named hy hb
  replace hy := h_own
  clear h_own
  have z7 := Lib.hid hb.size
  replace hv := bl_trans hv hb
  replace hB0 := hB0.below hb
  replace hx := hx.below hb
  clear hb
  have k0 : W.cell? ⟨g, 0, none⟩ = some (.slice B m d) := hB0.cell 0
  obtain ⟨W0, hW0⟩ : ∃ W0, W0 = W.alloc (Obj.cells #[Value.slice (some ⟨g4, 0, none⟩) m m] 32) := ⟨_, rfl⟩
  obtain ⟨gx, hgx⟩ : ∃ gx, gx = W.heap.size := ⟨_, rfl⟩
  have hb : Below W.heap.size W W0 := by rw [hW0]; exact bl_alloc (Below.refl _ _) _
  have hX : Blk W0 gx 32 #[Value.slice (some ⟨g4, 0, none⟩) m m] := by rw [hW0, hgx]; exact Blk.new _ _ _
  have a_k0 := bl_cell hb k0
  rw [hW0] at a_k0
  go_wp2_with fail
  rw [← hW0, ← hgx]
  clear hW0 hgx a_k0
  have z8 := Lib.hid hb.size
  replace hv := bl_trans hv hb
  replace hB0 := hB0.below hb
  replace hx := hx.below hb
  replace hy := hy.below hb
  clear hb
  have k0 : W0.cell? ⟨g, 0, none⟩ = some (.slice B m d) := hB0.cell 0
  have x0 : W0.cell? ⟨gx, 0, none⟩ = some (Value.slice (some ⟨g4, 0, none⟩) m m) := hX.cell 0
  refine (HG'.out _ _ _ hx.arr hy.arr).mono ?_
  rintro e W ⟨rfl, hb⟩
  have z9 := Lib.hid hb.size
  replace hv := bl_trans hv hb
  replace hB0 := hB0.below hb
  replace hX := hX.below hb
  replace hx := hx.below hb
  replace hy := hy.below hb
  clear hb
  have k0 : W.cell? ⟨g, 0, none⟩ = some (.slice B m d) := hB0.cell 0
  have x0 : W.cell? ⟨gx, 0, none⟩ = some (Value.slice (some ⟨g4, 0, none⟩) m m) := hX.cell 0
  go_wp2_with fail
  refine (toStuffS_c A xs n c hn hz _ (hA.below hv)).mono ?_
  rintro e W ⟨g5, rfl, hc, hb⟩
  obtain ⟨lc, uc, h_own, z10, z11⟩ := Own.named hc hb
  replace hc := h_own
  clear h_own
  have z12 := Lib.hid hb.size
  replace hv := bl_trans hv hb
  replace hB0 := hB0.below hb
  replace hX := hX.below hb
  replace hx := hx.below hb
  replace hy := hy.below hb
  clear hb
  have k0 : W.cell? ⟨g, 0, none⟩ = some (.slice B m d) := hB0.cell 0
  have x0 : W.cell? ⟨gx, 0, none⟩ = some (Value.slice (some ⟨g4, 0, none⟩) m m) := hX.cell 0
  go_wp2_with fail
  refine (eqStuffS_same _ _ xs n n n hn hz _ hx.arr hc.arr).mono ?_
  rintro e W ⟨rfl, hb⟩
  have z13 := Lib.hid hb.size
  replace hv := bl_trans hv hb
  replace hB0 := hB0.below hb
  replace hX := hX.below hb
  replace hx := hx.below hb
  replace hy := hy.below hb
  replace hc := hc.below hb
  clear hb
  have k0 : W.cell? ⟨g, 0, none⟩ = some (.slice B m d) := hB0.cell 0
  have x0 : W.cell? ⟨gx, 0, none⟩ = some (Value.slice (some ⟨g4, 0, none⟩) m m) := hX.cell 0
  go_wp2_with fail
  clear hx hc
  have HS := Lib.hid (show (fun w' : World => (Below w.heap.size w w') ∧ (Blk w' g 25 #[.slice B m d]) ∧ (Blk w' gx 32 #[Value.slice (some ⟨g4, 0, none⟩) m m]) ∧ (Own w' ly uy 2 1 m (.slice (some ⟨g4, 0, none⟩) m m) (flat icell ps)) ∧ (World.cell? w' ⟨g, 0, none⟩ = some (.slice B m d)) ∧ (World.cell? w' ⟨gx, 0, none⟩ = some (Value.slice (some ⟨g4, 0, none⟩) m m))) W.drew from ⟨hv.drew, hB0.below (Below.refl _ _).drew, hX.below (Below.refl _ _).drew, hy.drew, k0, x0⟩)
  clear x0 k0 hy hX hB0 hv
  go_region_held3 (fun w' => (Below w.heap.size w w') ∧ (Blk w' g 25 #[.slice B m d]) ∧ (Blk w' gx 32 #[Value.slice (some ⟨g4, 0, none⟩) m m]) ∧ (Own w' ly uy 2 1 m (.slice (some ⟨g4, 0, none⟩) m m) (flat icell ps)) ∧ (World.cell? w' ⟨g, 0, none⟩ = some (.slice B m d)) ∧ (World.cell? w' ⟨gx, 0, none⟩ = some (Value.slice (some ⟨g4, 0, none⟩) m m)))
    (first | exact HS.out | (go_split_ands; exact ⟨bl_trans (by assumption) hb, Blk.below (by assumption) hb, Blk.below (by assumption) hb, Own.below (by assumption) hb, bl_cell hb (by assumption), bl_cell hb (by assumption)⟩))
    (first | (go_at_call 16; go_split_ands; refine (toSole_c B ps m d hp hz' _ (hB.below (by assumption))).mono ?_; rintro e W ⟨g6, rfl, hown3, hb⟩) | (go_at_call 19; go_split_ands; refine (eqSole_c _ _ ps m m m hp hz' _ (Own.arr (lo := ly) (hi := uy) (e := 2) (size := 1) (by assumption)) (Arr.own hown3)).mono ?_; rintro e W ⟨rfl, hb⟩))
  go_split_ands
  have hv := (by assumption : Below w.heap.size w _)
  have hB0 := (by assumption : Blk _ g 25 #[.slice B m d])
  have hX := (by assumption : Blk _ gx 32 #[Value.slice (some ⟨g4, 0, none⟩) m m])
  have hy := (by assumption : Own _ ly uy 2 1 m (.slice (some ⟨g4, 0, none⟩) m m) (flat icell ps))
  have k0 := (by assumption : World.cell? _ ⟨g, 0, none⟩ = some (.slice B m d))
  have x0 := (by assumption : World.cell? _ ⟨gx, 0, none⟩ = some (Value.slice (some ⟨g4, 0, none⟩) m m))
  go_wp2_with fail
  go_returns
  exact Ret.mk rfl hv

end Go.Proofs.Ytiplnpbeoaefaaa
