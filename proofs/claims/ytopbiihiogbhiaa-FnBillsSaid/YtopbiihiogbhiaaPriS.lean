/- The reference's PricePerItem. -/
import Derived.Test.YtopbiihiogbhiaaPriP
import Derived.Test.YtopbiihiogbhiaaBillX
namespace Go.Proofs.Ytopbiihiogbhiaa
open Go.RowKit

set_option maxRecDepth 100000 in
set_option maxHeartbeats 4000000 in
theorem SPricePerItem_c (A : Option Addr) (xs : List Item) (n c : Nat) (o t p : Int) (hn : Hid (xs.length = n)) (hm : (n : Int) ≤ 1048576) (hs : Hid (∀ x ∈ xs, x.name.size ≤ 9223372036854775807)) (w : World) (hA : Arr w A (flat Item.cells xs)) : Calls Try.prog 35 #[.agg #[.slice A n c, .int .i64 o, .int .i64 t, .int .i64 p]] w (OutL 2 1 (iPrice xs o t p).length (flat icell (iPrice xs o t p)) (cPrice xs o t p) w) := by
  obtain ⟨i0, hi0, hz0, hz1, hz2⟩ := info_parts (P := Try.prog) (e := 2) (z := .int .i64 0) (size := 1) (bytes := 8) info_int64'
  go_enter Try.func35, Try.ntmps35
  go_wp2_with fail
  obtain ⟨w0, hw0⟩ : ∃ w0, w0 = w.alloc (Obj.cells #[Value.slice A n c, Value.int IntKind.i64 o, Value.int IntKind.i64 t, Value.int IntKind.i64 p] 49) := ⟨_, rfl⟩
  obtain ⟨g, hg⟩ : ∃ g, g = w.heap.size := ⟨_, rfl⟩
  have hv : Below w.heap.size w w0 := by rw [hw0]; exact bl_alloc (Below.refl _ _) _
  have hB : Blk w0 g 49 #[Value.slice A n c, Value.int IntKind.i64 o, Value.int IntKind.i64 t, Value.int IntKind.i64 p] := by rw [hw0, hg]; exact Blk.new _ _ _
  rw [← hw0, ← hg]
  clear hw0
  have HG := Lib.hid hg
  clear hg
  have k0 : w0.cell? ⟨g, 0, none⟩ = some (.slice A n c) := hB.cell 0
  have k1 : w0.cell? ⟨g, 1, none⟩ = some (.int .i64 o) := hB.cell 1
  have k2 : w0.cell? ⟨g, 2, none⟩ = some (.int .i64 t) := hB.cell 2
  have k3 : w0.cell? ⟨g, 3, none⟩ = some (.int .i64 p) := hB.cell 3
  refine (l26Ok_c g A xs n c o t p hn hm hs _ hB (hA.below hv)).mono ?_
  rintro e W ⟨rfl, hb⟩
  replace hv := bl_trans hv hb
  replace hB := hB.below hb
  have k0 : W.cell? ⟨g, 0, none⟩ = some (.slice A n c) := hB.cell 0
  have k1 : W.cell? ⟨g, 1, none⟩ = some (.int .i64 o) := hB.cell 1
  have k2 : W.cell? ⟨g, 2, none⟩ = some (.int .i64 t) := hB.cell 2
  have k3 : W.cell? ⟨g, 3, none⟩ = some (.int .i64 p) := hB.cell 3
  rcases bill_cases xs o t p with HB | ⟨HB, hx, ho0, ho1, ht0, ht1, hp0, hp1, hs0, hs1, hT0, hT1⟩
  · rw [HB.out]
    have HC := Lib.hid (show cPrice xs o t p = 1 from by rw [cPrice, HB.out]; rfl)
    have HI := Lib.hid (show iPrice xs o t p = [] from by rw [iPrice, HB.out]; rfl)
    go_wp2_with fail
    go_returns
    exact OutL.nil' HI.out HC.out hv
  · rw [HB.out]
    have hx0 := hx
    obtain ⟨S, hS⟩ : ∃ S, S = sumGo xs 0 := ⟨_, rfl⟩
    have HI0 := Lib.hid (show iPrice xs o t p = if S = 0 then [] else prL xs (totOf S o t) S from by rw [iPrice, HB.out, hS]; rfl)
    have HC0 := Lib.hid (show cPrice xs o t p = if S = 0 then 6 else 0 from by rw [cPrice, HB.out, hS]; rfl)
    rw [← hS] at hs0 hs1 hT0 hT1
    have HS0 := Lib.hid hS
    clear hp1 hS
    go_wp2_with fail
    refine (l26Sum_c g A xs n c o t p hn S hx0 HS0 _ hB (hA.below hv)).mono ?_
    rintro e W ⟨rfl, hb⟩
    replace hv := bl_trans hv hb
    replace hB := hB.below hb
    clear hb k0 k1 k2 k3
    have k0 : W.cell? ⟨g, 0, none⟩ = some (.slice A n c) := hB.cell 0
    have k1 : W.cell? ⟨g, 1, none⟩ = some (.int .i64 o) := hB.cell 1
    have k2 : W.cell? ⟨g, 2, none⟩ = some (.int .i64 t) := hB.cell 2
    have k3 : W.cell? ⟨g, 3, none⟩ = some (.int .i64 p) := hB.cell 3
    by_cases hz : S = 0
    · have HC := Lib.hid (HC0.out.trans (if_pos hz))
      have HI := Lib.hid (HI0.out.trans (if_pos hz))
      go_wp2_with fail
      go_returns
      exact OutL.nil' HI.out HC.out hv
    have HC := Lib.hid (HC0.out.trans (if_neg hz))
    have HI := Lib.hid (HI0.out.trans (if_neg hz))
    clear HC0 HI0
    have hSp : 0 < S := by omega
    go_wp2_with fail
    refine (l26Total_c g A xs n c o t p hn S hx0 HS0 ho0 ho1 ht0 ht1 _ hB (hA.below hv)).mono ?_
    rintro e W ⟨rfl, hb⟩
    replace hv := bl_trans hv hb
    replace hB := hB.below hb
    clear hb k0 k1 k2 k3
    obtain ⟨T0, hT0'⟩ : ∃ T0, T0 = totOf S o t := ⟨_, rfl⟩
    rw [← hT0'] at HI hT0 hT1 ⊢
    clear hT0'
    obtain ⟨W1, hW1⟩ : ∃ W1, W1 = W.alloc (Obj.cells #[] 2) := ⟨_, rfl⟩
    obtain ⟨g1, hg1⟩ : ∃ g1, g1 = W.heap.size := ⟨_, rfl⟩
    have hb1 : Below W.heap.size W W1 := by rw [hW1]; exact bl_alloc (Below.refl _ _) _
    have hown : W1.ownsRow (g + 1) 2 1 (.slice (some ⟨g1, 0, none⟩) 0 0) 0 [] := by rw [hW1, hg1]; exact own_empty W _ _ _ hB.lt
    have k0 : W.cell? ⟨g, 0, none⟩ = some (.slice A n c) := hB.cell 0
    have k1 : W.cell? ⟨g, 1, none⟩ = some (.int .i64 o) := hB.cell 1
    have k2 : W.cell? ⟨g, 2, none⟩ = some (.int .i64 t) := hB.cell 2
    have k3 : W.cell? ⟨g, 3, none⟩ = some (.int .i64 p) := hB.cell 3
    have a0 := bl_cell hb1 k0
    have a1 := bl_cell hb1 k1
    have a2 := bl_cell hb1 k2
    have a3 := bl_cell hb1 k3
    rw [hW1] at a0 a1 a2 a3
    go_wp2_with fail
    rw [← hW1, ← hg1]
    clear hW1 hg1 a0 a1 a2 a3
    replace hv := bl_trans hv hb1
    replace hB := hB.below hb1
    clear hb1 k0 k1 k2 k3
    go_loopw [7, 8, 9, 10] (fun v bv dv i wr => ∃ (j : Nat) (A' : Option Addr) (c' : Nat), j ≤ n ∧ i = .int .i64 j ∧ v = .slice A' j c' ∧ bv = .int .i64 (psum xs j) ∧ dv = .int .i64 (shV T0 (psum xs j) S) ∧ wr.ownsRow (g + 1) 2 1 (.slice A' j c') j (flat icell ((prL xs T0 S).take j)) ∧ Blk wr g 49 #[Value.slice A n c, Value.int IntKind.i64 o, Value.int IntKind.i64 t, Value.int IntKind.i64 p] ∧ Below w.heap.size w wr) (fun _ _ _ i _ => n - (intOf i).toNat)
    case atStart => exact ⟨0, _, _, by omega, rfl, rfl, by simp [psum, sumGo], by rw [show psum xs 0 = 0 from rfl, shV_zero], by simpa [flat] using hown, hB, hv⟩
    case round =>
      clear hown hv hB
      obtain ⟨j, A', c', hj, rfl, rfl, rfl, rfl, hown, hB, hv⟩ := hrel
      by_cases hlt : j < n
      · obtain ⟨x, hx⟩ := get_of_lt (xs := xs) (k := j) (by rw [hn.out]; exact hlt)
        obtain ⟨ad, rfl, hab, c0, c1, c2⟩ := Item.at_ (hA.below hv) hx
        have HS := Lib.hid (pr_step xs T0 S j (by rw [hn.out]; exact hlt))
        obtain ⟨m0, m1, q0, q1⟩ := few_item hx0.out hx
        obtain ⟨u0, u1⟩ := psum_bd hx0.out j
        obtain ⟨v0, v1⟩ := psum_bd hx0.out (j + 1)
        rw [← HS0.out] at u1 v1
        have hps := psum_step hx
        obtain ⟨b1, hb1⟩ : ∃ b, b = psum xs j := ⟨_, rfl⟩
        obtain ⟨b2, hb2⟩ : ∃ b, b = psum xs (j + 1) := ⟨_, rfl⟩
        have hprF : prF xs T0 S j = shV T0 b2 S - shV T0 b1 S := by rw [prF, hb1, hb2]
        rw [← hb1] at u0 u1 hps
        rw [← hb2] at v0 v1 hps
        rw [← hb1]
        have HP := Lib.hid hb2
        obtain ⟨z0, z1⟩ := shV_bd (T := T0) (P := b1) hT0 hSp u1
        obtain ⟨z2, z3⟩ := shV_bd (T := T0) (P := b2) hT0 hSp v1
        have H2 := Lib.hid (fun w => SShareI_c T0 b2 S hT0 hT1 hSp hs1 v0 v1 w)
        obtain ⟨s1, hs1'⟩ : ∃ s, s = shV T0 b1 S := ⟨_, rfl⟩
        obtain ⟨s2, hs2'⟩ : ∃ s, s = shV T0 b2 S := ⟨_, rfl⟩
        rw [← hs1'] at z0 z1 hprF ⊢
        rw [← hs2'] at z2 z3 H2 hprF
        obtain ⟨pr0, pr1⟩ := prod_bd ⟨m0, m1, q0, q1⟩
        obtain ⟨pm, hpm⟩ : ∃ pm, pm = x.many * x.cents := ⟨_, rfl⟩
        rw [← hpm] at pr0 pr1 hps
        have w1 : IntKind.i64.wrap (x.many * x.cents) = pm := by rw [← hpm]; exact IntWalk.i64_in _ (by omega)
        have w2 : IntKind.i64.wrap (b1 + pm) = b2 := by rw [← hps]; exact IntWalk.i64_in _ (by omega)
        obtain ⟨df, hdf⟩ : ∃ df, df = s2 - s1 := ⟨_, rfl⟩
        have w3 : IntKind.i64.wrap (s2 - s1) = df := by rw [← hdf]; exact IntWalk.i64_in _ (by omega)
        have HD := Lib.hid (hprF.trans hdf.symm)
        have HZ := Lib.hid hs2'.symm
        clear hx hps hb1 hb2 hprF hs1' hs2' hpm hdf
        have k0 : wr.cell? ⟨g, 0, none⟩ = some (.slice (some ad) n c) := hB.cell 0
        have hj0 : (0 : Int) ≤ (j : Int) := by omega
        have hj1 : (j : Int) < (n : Int) := by omega
        go_wp2_with fail
        go_region
        go_wp2_with fail
        refine (H2.out _).mono ?_
        rintro e W ⟨rfl, hb⟩
        replace hv := bl_transd hv hb
        replace hB := (hB.below (Below.refl _ _).drew).below hb
        replace hown := own_below (own_below hown (Below.refl _ _).drew) hb
        clear hb c0 c1 c2 k0
        go_wp2_with (at_builtin; refine app_own _ _ rfl _ _ 25 2 rfl i0 _ 1 8 Try.underlying25 hi0 hz0 hz1 hz2 rfl (by omega) (g + 1) (.slice A' j c') j _ rfl rfl hown rfl (by simp [Value.oneCell']) (by unfold maxLen; omega) (by omega) hB.lt ?_; intro A2 c2 w2 hown2 hg2)
        exact ⟨⟨j + 1, A2, c2, by omega, by go_num, rfl, by rw [HP.out], by rw [← HP.out, HZ.out], by rw [HS.out, HD.out]; exact hown2, hB.grown hg2 (fun e => by have h1 := own_at hown _ e.symm; omega), bl_grown hv hg2 (fun k e => by have h1 := own_at hown k e; have h2 := HG.out; omega)⟩, by simp [intOf]; omega⟩
      · have hjn : j = n := by omega
        rw [List.take_of_length_le (by rw [prL_length, hn.out]; omega)] at hown
        have k0 : wr.cell? ⟨g, 0, none⟩ = some (.slice A n c) := hB.cell 0
        go_wp2_with fail
        go_returns
        exact OutL.mk (own_base hown (by have := HG.out; omega)) (by rw [HI.out, prL_length, hn.out]; omega) (by rw [HI.out]) HC.out.symm hv

end Go.Proofs.Ytopbiihiogbhiaa
