/- Where the drawn inputs come from: bytes, then a simple sequence. What is drawn lies in its bounds; of memory nothing older turns but the source's own block. -/
import Derived.Test.YtapnllbbdfoaaaaGreatDoorMCore
import Derived.Deep.QuietTactic
import Derived.BigQuiet
import Derived.Laws.Bits64b
namespace Go.Proofs.YtapnllbbdfoaaaaGreatDoor
open Go.RowKit

def bvS (b : UInt8) : Value := .int .u8 b.toNat
def Src (w : World) (g q : Nat) : Prop :=
  ∃ (C : Option Addr) (n c : Nat) (cs : List UInt8) (k : Nat) (sd : Int), Blk w g 83 #[.slice C n c, .int .i64 k, .int .u64 sd] ∧ Arr w C (cs.map bvS) ∧ cs.length = n ∧ n ≤ 1048576 ∧ k ≤ q ∧ 0 ≤ sd ∧ sd ≤ 18446744073709551615 ∧ ∀ ad, C = some ad → ad.block < g
def OutNx (g q : Nat) (w : World) (e : Ending) (w' : World) : Prop := ∃ r : Int, e = .returned (.int .i64 r) ∧ 0 ≤ r ∧ r ≤ 255 ∧ Src w' g (q + 1) ∧ w.grownBy w' (some g)
theorem u64_bd (n : Int) : 0 ≤ IntKind.u64.wrap n ∧ IntKind.u64.wrap n ≤ 18446744073709551615 := by
  rw [IntKind.wrap_u64]; omega
theorem Src.step {w w0 w' : World} {g q n c k : Nat} {C : Option Addr} {cs : List UInt8} {sd sd' : Int} (hB : Blk w g 83 #[.slice C n c, .int .i64 k, .int .u64 sd]) (hA : Arr w C (cs.map bvS)) (hn : cs.length = n) (hnb : n ≤ 1048576) (hk : k ≤ q) (h0 : 0 ≤ sd') (h1 : sd' ≤ 18446744073709551615) (hC : ∀ ad, C = some ad → ad.block < g)
    (hw0 : Below w.heap.size w w0) (hw : Below ((w0.setCell ⟨g, 1, none⟩ (.int .i64 ((k : Int) + 1))).setCell ⟨g, 2, none⟩ (.int .u64 sd')).heap.size ((w0.setCell ⟨g, 1, none⟩ (.int .i64 ((k : Int) + 1))).setCell ⟨g, 2, none⟩ (.int .u64 sd')) w') :
    Src w' g (q + 1) ∧ w.grownBy w' (some g) := by
  have hB1 := (((hB.below hw0).set_ 1 (.int .i64 ((k : Int) + 1))).set_ 2 (.int .u64 sd')).below hw
  have hg : w.grownBy ((w0.setCell ⟨g, 1, none⟩ (.int .i64 ((k : Int) + 1))).setCell ⟨g, 2, none⟩ (.int .u64 sd')) (some g) := grown_setCell (grown_setCell (grown_of_below hw0 (some g)) (.inl rfl) _) (.inl rfl) _
  have hg2 := grown_below hg hw
  refine ⟨⟨C, n, c, cs, k + 1, sd', ?_, hA.grown hg2 (fun ad e h => absurd (Option.some.inj h) (Nat.ne_of_lt (hC ad e))), hn, hnb, by omega, h0, h1, hC⟩, hg2⟩
  have e : ((k + 1 : Nat) : Int) = (k : Int) + 1 := by omega
  rw [e]
  exact hB1
theorem and255 {x : Int} (h0 : 0 ≤ x) (h1 : x ≤ 18446744073709551615) : 0 ≤ wrap64 (bits .and .u64 (x / 1099511627776) 255) ∧ wrap64 (bits .and .u64 (x / 1099511627776) 255) ≤ 255 := by
  obtain ⟨a, ha⟩ : ∃ a : Nat, x / 1099511627776 = (a : Int) := ⟨(x / 1099511627776).toNat, by omega⟩
  have ha2 : a < 18446744073709551616 := by omega
  have hb : bits .and .u64 (a : Int) ((255 : Nat) : Int) = ((a &&& 255 : Nat) : Int) := bits_and_u64_nat a 255 ha2 (by omega)
  have hle : a &&& 255 ≤ 255 := Nat.and_le_right
  rw [ha, show (255 : Int) = ((255 : Nat) : Int) from rfl, hb]
  unfold wrap64
  omega
set_option maxRecDepth 100000 in
set_option maxHeartbeats 2000000 in
theorem next_c (g q : Nat) (hq : q ≤ 1000000000000) (w : World) (hS : Src w g q) : Calls Tryz.prog 63 #[.pointer (some ⟨g, 0, none⟩)] w (OutNx g q w) := by
  obtain ⟨C, n, c, cs, k, sd, hB, hA, hn, hnb, hk, s0, s1, hC⟩ := hS
  have k0 : w.cell? ⟨g, 0, none⟩ = some (.slice C n c) := hB.cell 0
  have k1 : w.cell? ⟨g, 1, none⟩ = some (.int .i64 k) := hB.cell 1
  have k2 : w.cell? ⟨g, 2, none⟩ = some (.int .u64 sd) := hB.cell 2
  have hv := Below.refl w.heap.size w
  have HA := Lib.hid hA
  have HB := Lib.hid hB
  have HN := Lib.hid hn
  have HC := Lib.hid hC
  by_cases hlt : k < n
  · obtain ⟨b, hb⟩ := get_of_lt (xs := cs) (k := k) (by omega)
    obtain ⟨ad, rfl, _, hc⟩ := hA.at_ (j := k) (by rw [List.length_map]; omega)
    have c0 : w.cell? (ad.add k) = some (.int .u8 b.toNat) := hc k _ (by rw [List.getElem?_map, hb]; rfl)
    have hk0 : (0 : Int) ≤ (k : Int) := by omega
    have hk1 : (k : Int) < (n : Int) := by omega
    have hk2 : (k : Int) + 1 ≤ (n : Int) := by omega
    have hb255 : (b.toNat : Int) ≤ 255 := by have := b.toNat_lt; omega
    have hb0 : 0 ≤ (b.toNat : Int) := by omega
    clear hc hb hA hB hn hC
    go_enter Tryz.func63, Tryz.ntmps63
    go_wp2_with fail
    go_quiet (fail)
    obtain ⟨w1, hx⟩ : ∃ w1, w1 = World.drewN w nq := ⟨_, rfl⟩
    rw [← hx]
    have hb : Below w.heap.size w w1 := by rw [hx]; exact below_drewN (Below.refl _ _) nq
    clear hx
    replace k0 := bl_cell hb k0
    replace k1 := bl_cell hb k1
    replace k2 := bl_cell hb k2
    have f1 := (HB.out.below (bl_trans hv hb)).frozen 1
    have f2 := (HB.out.below (bl_trans hv hb)).frozen 2
    replace hv := bl_trans hv hb
    clear hb
    replace c0 : w1.cell? (ad.add k) = some (.int .u8 b.toNat) := (hv.cell (block_lt_of_cell c0)).trans c0
    go_wp2_with fail
    go_quiet (fail)
    obtain ⟨w2, hx⟩ : ∃ w2, w2 = World.drewN w1 nq := ⟨_, rfl⟩
    rw [← hx]
    have hb : Below w1.heap.size w1 w2 := by rw [hx]; exact below_drewN (Below.refl _ _) nq
    clear hx
    replace k0 := bl_cell hb k0
    replace k1 := bl_cell hb k1
    replace k2 := bl_cell hb k2
    have f1 := (HB.out.below (bl_trans hv hb)).frozen 1
    have f2 := (HB.out.below (bl_trans hv hb)).frozen 2
    replace hv := bl_trans hv hb
    clear hb
    go_wp2_with fail
    generalize hsd : IntKind.u64.wrap (_ + 1442695040888963407) = sd'
    have HSD := Lib.hid (show 0 ≤ sd' ∧ sd' ≤ 18446744073709551615 by rw [← hsd]; exact u64_bd _)
    have HST := Lib.hid (fun w' hw => Src.step (w' := w') (sd' := sd') HB.out HA.out HN.out hnb hk HSD.out.1 HSD.out.2 HC.out hv hw)
    clear hsd
    go_quiet (fail)
    go_wp2_with fail
    go_returns
    exact ⟨_, rfl, hb0, hb255, HST.out _ (below_drewN (Below.refl _ _) _)⟩
  · have hk1 : ¬ (k : Int) < (n : Int) := by omega
    have hk2 : ¬ (k : Int) + 1 ≤ (n : Int) := by omega
    have hk3 : decide ((k : Int) < (n : Int)) = false := decide_eq_false hk1
    clear hA hB hn hC
    go_enter Tryz.func63, Tryz.ntmps63
    go_wp2_with fail
    go_quiet (fail)
    obtain ⟨w1, hx⟩ : ∃ w1, w1 = World.drewN w nq := ⟨_, rfl⟩
    rw [← hx]
    have hb : Below w.heap.size w w1 := by rw [hx]; exact below_drewN (Below.refl _ _) nq
    clear hx
    replace k0 := bl_cell hb k0
    replace k1 := bl_cell hb k1
    replace k2 := bl_cell hb k2
    have f1 := (HB.out.below (bl_trans hv hb)).frozen 1
    have f2 := (HB.out.below (bl_trans hv hb)).frozen 2
    replace hv := bl_trans hv hb
    clear hb
    go_wp2_with fail
    generalize hsd : IntKind.u64.wrap (_ + 1442695040888963407) = sd'
    have HSD := Lib.hid (show 0 ≤ sd' ∧ sd' ≤ 18446744073709551615 by rw [← hsd]; exact u64_bd _)
    have HST := Lib.hid (fun w' hw => Src.step (w' := w') (sd' := sd') HB.out HA.out HN.out hnb hk HSD.out.1 HSD.out.2 HC.out hv hw)
    clear hsd
    go_quiet (fail)
    go_wp2_with fail
    go_returns
    exact ⟨_, rfl, (and255 HSD.out.1 HSD.out.2).1, (and255 HSD.out.1 HSD.out.2).2, HST.out _ (below_drewN (Below.refl _ _) _)⟩
theorem Src.more {w : World} {g q q' : Nat} (h : Src w g q) (hq : q ≤ q') : Src w g q' := by
  obtain ⟨C, n, c, cs, k, sd, hB, hA, hn, hnb, hk, s0, s1, hC⟩ := h
  exact ⟨C, n, c, cs, k, sd, hB, hA, hn, hnb, by omega, s0, s1, hC⟩
theorem Src.lt {w : World} {g q : Nat} (h : Src w g q) : g < w.heap.size := by
  obtain ⟨C, n, c, cs, k, sd, hB, _⟩ := h
  exact hB.lt
theorem Src.below {w w' : World} {g q : Nat} (h : Src w g q) (hb : Below w.heap.size w w') : Src w' g q := by
  obtain ⟨C, n, c, cs, k, sd, hB, hA, hn, hnb, hk, s0, s1, hC⟩ := h
  exact ⟨C, n, c, cs, k, sd, hB.below hb, hA.below hb, hn, hnb, hk, s0, s1, hC⟩
/-- kept where a younger block was written -/
theorem Src.far {w : World} {g q : Nat} (h : Src w g q) {p : Addr} (hp : g < p.block) (u : Value) : Src (w.setCell p u) g q := by
  obtain ⟨C, n, c, cs, k, sd, hB, hA, hn, hnb, hk, s0, s1, hC⟩ := h
  exact ⟨C, n, c, cs, k, sd, hB.far (by omega) u, hA.grown (grown_setCell (g := p.block) (World.grownBy.refl w _) (.inl rfl) u) (fun ad e h => by have := hC ad e; injection h; omega), hn, hnb, hk, s0, s1, hC⟩
theorem Src.kept {w w' : World} {g q k : Nat} (h : Src w g q) (hb : w.grownBy w' (some k)) (hk : g < k) : Src w' g q := by
  obtain ⟨C, n, c, cs, j, sd, hB, hA, hn, hnb, hj, s0, s1, hC⟩ := h
  exact ⟨C, n, c, cs, j, sd, hB.grown hb (by intro e; injection e; omega), hA.grown hb (fun ad e h => by have := hC ad e; injection h; omega), hn, hnb, hj, s0, s1, hC⟩
def OutPk (g q : Nat) (n : Int) (w : World) (e : Ending) (w' : World) : Prop := ∃ r : Int, e = .returned (.int .i64 r) ∧ 0 ≤ r ∧ (r = 0 ∨ r < n) ∧ Src w' g (q + 2) ∧ w.grownBy w' (some g)
set_option maxRecDepth 100000 in
set_option maxHeartbeats 2000000 in
theorem pick_c (g q : Nat) (n : Int) (hq : q ≤ 900000000000) (hn : n ≤ 9223372036854775807) (w : World) (hS : Src w g q) : Calls Tryz.prog 33 #[.pointer (some ⟨g, 0, none⟩), .int .i64 n] w (OutPk g q n w) := by
  have HS := Lib.hid hS
  clear hS
  by_cases h1 : n ≤ 1
  · go_enter Tryz.func33, Tryz.ntmps33
    go_wp2_with fail
    go_returns
    exact ⟨0, rfl, by omega, .inl rfl, HS.out.more (by omega), World.grownBy.refl w _⟩
  · have h2 : 0 < n := by omega
    have h3 : ¬ n = 0 := by omega
    go_enter Tryz.func33, Tryz.ntmps33
    go_wp2_with fail
    refine (next_c g q (by omega) _ HS.out).mono ?_
    rintro e W ⟨x, rfl, x0, x1, hS1, hg1⟩
    have HS1 := Lib.hid hS1
    clear hS1
    by_cases h200 : 200 < n
    · go_wp2_with fail
      refine (next_c g (q + 1) (by omega) _ HS1.out).mono ?_
      rintro e W2 ⟨y, rfl, y0, y1, hS2, hg2⟩
      have HS2 := Lib.hid hS2
      clear hS2
      go_wp2_with fail
      go_returns
      exact ⟨_, rfl, Int.emod_nonneg _ h3, .inr (Int.emod_lt_of_pos _ h2), HS2.out, grown_trans hg1 hg2⟩
    · go_wp2_with fail
      go_returns
      exact ⟨_, rfl, Int.emod_nonneg _ h3, .inr (Int.emod_lt_of_pos _ h2), HS1.out.more (by omega), hg1⟩
def OutOne (g q : Nat) (w : World) (e : Ending) (w' : World) : Prop := ∃ b : Bool, e = .returned (.bool b) ∧ Src w' g (q + 2) ∧ w.grownBy w' (some g)
set_option maxRecDepth 100000 in
set_option maxHeartbeats 2000000 in
theorem one_c (g q : Nat) (n : Int) (hq : q ≤ 900000000000) (hn : n ≤ 9223372036854775807) (w : World) (hS : Src w g q) : Calls Tryz.prog 35 #[.pointer (some ⟨g, 0, none⟩), .int .i64 n] w (OutOne g q w) := by
  have HS := Lib.hid hS
  clear hS
  go_enter Tryz.func35, Tryz.ntmps35
  go_wp2_with fail
  refine (pick_c g q n hq hn _ HS.out).mono ?_
  rintro e W ⟨r, rfl, r0, r1, hS1, hg1⟩
  have HS1 := Lib.hid hS1
  clear hS1 r1
  go_wp2_with fail
  go_returns
  exact ⟨_, rfl, HS1.out, hg1⟩
def OutAmong (xs : List Int) (g q : Nat) (w : World) (e : Ending) (w' : World) : Prop := ∃ x ∈ xs, e = .returned (.int .i64 x) ∧ Src w' g (q + 2) ∧ w.grownBy w' (some g)
set_option maxRecDepth 100000 in
set_option maxHeartbeats 2000000 in
theorem among_c (g q : Nat) (A : Option Addr) (xs : List Int) (m c : Nat) (hm : Hid (xs.length = m)) (h0 : 0 < m) (hmb : m ≤ 1000) (hq : q ≤ 900000000000) (w : World) (hS : Src w g q) (hA : Arr w A (flat icell xs)) (hne : ∀ ad, A = some ad → ad.block ≠ g) :
    Calls Tryz.prog 49 #[.pointer (some ⟨g, 0, none⟩), .slice A m c] w (OutAmong xs g q w) := by
  have HS := Lib.hid hS
  have HA := Lib.hid hA
  have HNE := Lib.hid hne
  clear hS hA hne
  go_enter Tryz.func49, Tryz.ntmps49
  go_wp2_with fail
  refine (pick_c g q (m : Int) hq (by omega) _ HS.out).mono ?_
  rintro e W ⟨r, rfl, r0, r1, hS1, hg1⟩
  obtain ⟨k, rfl⟩ := Int.eq_ofNat_of_zero_le r0
  have hk : k < m := by omega
  have HS1 := Lib.hid hS1
  have HG1 := Lib.hid hg1
  obtain ⟨x, hx⟩ := get_of_lt (xs := xs) (k := k) (by rw [hm.out]; exact hk)
  have hA2 := HA.out.grown hg1 (fun ad e h => HNE.out ad e (Option.some.inj h))
  obtain ⟨ad, rfl, hab, hc0, _⟩ := Arr.elem (f := icell) (s := 1) (fun _ => rfl) hA2 hx (by omega)
  have c0 : W.cell? (ad.add k) = some (.int .i64 x) := by rw [Nat.mul_one] at hc0; exact hc0
  have HX := Lib.hid hx
  have hk0 : (0 : Int) ≤ (k : Int) := by omega
  have hk1 : (k : Int) < (m : Int) := by omega
  clear hS1 hg1 r1 hx hA2 hc0
  go_wp2_with fail
  go_returns
  exact ⟨x, List.mem_of_getElem? HX.out, rfl, HS1.out, HG1.out⟩

def OutText (xs : List ByteArray) (g q : Nat) (w : World) (e : Ending) (w' : World) : Prop := ∃ x ∈ xs, e = .returned (.string x) ∧ Src w' g (q + 2) ∧ w.grownBy w' (some g)
set_option maxRecDepth 100000 in
set_option maxHeartbeats 2000000 in
theorem text_c (g q : Nat) (A : Option Addr) (xs : List ByteArray) (m c : Nat) (hm : Hid (xs.length = m)) (h0 : 0 < m) (hmb : m ≤ 1000) (hq : q ≤ 900000000000) (w : World) (hS : Src w g q) (hA : Arr w A (flat scell xs)) (hne : ∀ ad, A = some ad → ad.block ≠ g) :
    Calls Tryz.prog 64 #[.pointer (some ⟨g, 0, none⟩), .slice A m c] w (OutText xs g q w) := by
  have HS := Lib.hid hS
  have HA := Lib.hid hA
  have HNE := Lib.hid hne
  clear hS hA hne
  go_enter Tryz.func64, Tryz.ntmps64
  go_wp2_with fail
  refine (pick_c g q (m : Int) hq (by omega) _ HS.out).mono ?_
  rintro e W ⟨r, rfl, r0, r1, hS1, hg1⟩
  obtain ⟨k, rfl⟩ := Int.eq_ofNat_of_zero_le r0
  have hk : k < m := by omega
  have HS1 := Lib.hid hS1
  have HG1 := Lib.hid hg1
  obtain ⟨x, hx⟩ := get_of_lt (xs := xs) (k := k) (by rw [hm.out]; exact hk)
  have hA2 := HA.out.grown hg1 (fun ad e h => HNE.out ad e (Option.some.inj h))
  obtain ⟨ad, rfl, hab, hc0, _⟩ := Arr.elem (f := scell) (s := 1) (fun _ => rfl) hA2 hx (by omega)
  have c0 : W.cell? (ad.add k) = some (.string x) := by rw [Nat.mul_one] at hc0; exact hc0
  have HX := Lib.hid hx
  have hk0 : (0 : Int) ≤ (k : Int) := by omega
  have hk1 : (k : Int) < (m : Int) := by omega
  clear hS1 hg1 r1 hx hA2 hc0
  go_wp2_with fail
  go_returns
  exact ⟨x, List.mem_of_getElem? HX.out, rfl, HS1.out, HG1.out⟩

set_option maxRecDepth 100000 in
set_option maxHeartbeats 2000000 in
theorem l00From_c (C : Option Addr) (n c : Nat) (cs : List UInt8) (hn : Hid (cs.length = n)) (hnb : n ≤ 1048576) (w : World) (hA : Arr w C (cs.map bvS)) (hlt : ∀ ad, C = some ad → ad.block < w.heap.size) :
    Calls Tryz.prog 31 #[.slice C n c] w (fun e w' => e = .returned (.pointer (some ⟨w.heap.size, 0, none⟩)) ∧ Src w' w.heap.size 0 ∧ Below w.heap.size w w') := by
  have HA := Lib.hid hA
  have HL := Lib.hid hlt
  clear hA hlt
  go_enter Tryz.func31, Tryz.ntmps31
  go_wp2_with fail
  go_returns
  exact ⟨rfl, ⟨C, n, c, cs, 0, 0, Blk.new _ _ _, HA.out.alloc _, hn.out, hnb, by omega, by omega, by omega, HL.out⟩, bl_alloc (Below.refl _ _) _⟩
theorem grown_over {a b c : World} {g : Nat} {row : Option Nat} (h : a.grownBy b (some g)) (k : b.grownBy c row) (hr : ∀ i, row = some i → a.heap.size ≤ i) : a.grownBy c (some g) :=
  ⟨k.os.trans h.os, k.tape.trans h.tape, k.output.trans h.output, Nat.le_trans h.size k.size, fun i hi hne => (k.block i (Nat.lt_of_lt_of_le hi h.size) (fun e => by have := hr i e.symm; omega)).trans (h.block i hi hne)⟩
theorem Src.over {w w' : World} {g q : Nat} {row : Option Nat} (h : Src w g q) (hb : w.grownBy w' row) (hr : ∀ i, row = some i → g < i) : Src w' g q := by
  obtain ⟨C, n, c, cs, j, sd, hB, hA, hn, hnb, hj, s0, s1, hC⟩ := h
  exact ⟨C, n, c, cs, j, sd, hB.grown hb (fun e => by have := hr g e.symm; omega), hA.grown hb (fun ad e h => by have := hC ad e; have := hr ad.block h.symm; omega), hn, hnb, hj, s0, s1, hC⟩
end Go.Proofs.YtapnllbbdfoaaaaGreatDoor
