/- Lemmas for the law on the console: the parts Money, DecI, Tabs, TabsR, Src, Byt, Own. -/
import Derived.Test.YtpiehlfffjhoaaaGreatDoorQ0
import Derived.Test.YtpiehlfffjhoaaaGreatDoorQ1
import Derived.Test.YtpiehlfffjhoaaaGreatDoorShelf
import Derived.Lib.AppendIntMem
import Derived.WalkSmall
import Derived.Test.YtpiehlfffjhoaaaGreatDoorCards
import Derived.Test.YtpiehlfffjhoaaaGreatDoorTie
import Derived.Lib.LaidTab
import Derived.ChangeVars
import Derived.LaidMore
import Derived.LaidLaws
import Derived.Stop.Joined
import Derived.SevenTiedAt
import Derived.HandedShaped
import Derived.Lay
import Derived.Shelf.Vars
import Derived.Deep.QuietTactic
import Derived.BigQuiet
import Derived.Laws.Bits64b
namespace Go.Proofs.YtpiehlfffjhoaaaGreatDoor
open Go.RowKit
def Pow10 (w : World) : Prop := Lib.TabIs Tryz.prog w "internal/strconv.uint64pow10" .u64 Lib.pow10Tab
theorem g_pow10 : Tryz.prog.globalNamed "internal/strconv.uint64pow10" = some 5 := by kernel_rfl
theorem Pow10.lt {w : World} (h : Pow10 w) : 5 < w.heap.size := by
 have h1 := Lib.TabIs.cell h g_pow10 0 (by rw [Lib.pow10Tab_length]; omega)
 exact block_lt_of_cell h1
theorem Pow10.below {w w' : World} (h : Pow10 w) (hb : Below w.heap.size w w') : Pow10 w' := var?_below hb g_pow10 h.lt h
theorem nDigits_le : ∀ u : Nat, Lib.nDigits u ≤ u + 1 := by
 intro u
 induction u using Nat.strongRecOn with
 | ind u ih =>
   by_cases h : u < 10
   · rw [Lib.nDigits_small h]; omega
   · rw [Lib.nDigits_big h]; have := ih (u / 10) (by omega); omega
theorem DecimalI_c (n : Int) (h0 : -1000000000000000000 ≤ n) (h1 : n ≤ 1000000000000000000) (w : World) (hT : Pow10 w) : Calls Tryz.prog 38 #[.int .i64 n] w (Ret (.string (decI n)) w) := by
 have HT := qH hT
 clear hT
 go_enter Tryz.func38, Tryz.ntmps38
 go_wp2_with fail
 refine (Tryz.strconv_FormatInt_10 n (by omega) (by omega) _ HT.out).mono ?_
 rintro e W ⟨rfl, k, os, rfl⟩
 go_wp2_with fail
 go_returns
 exact Ret.mk rfl (Lib.below_grow _ w (Nat.le_refl _) k os)
def IfaceAt (w : World) (g : Nat) : Prop := ∃ ev, w.cell? ⟨g, 0, none⟩ = some ev ∧ (ev = .nilIface ∨ ∃ te pe, ev = .iface te pe)
theorem IfaceAt.below {w w' : World} {g : Nat} (h : IfaceAt w g) (hb : Below w.heap.size w w') : IfaceAt w' g := by
 obtain ⟨ev, hc, he⟩ := h
 exact ⟨ev, bl_cell hb hc, he⟩
structure Tabs (w : World) : Prop where
 pow : Pow10 w
 len : ∃ m, w.cell? ⟨2, 0, none⟩ = some (.int .i64 m)
 syn : IfaceAt w 3
 rng : IfaceAt w 4
theorem Tabs.below {w w' : World} (h : Tabs w) (hb : Below w.heap.size w w') : Tabs w' := by
 obtain ⟨m, hm⟩ := h.len
 exact ⟨h.pow.below hb, ⟨m, bl_cell hb hm⟩, h.syn.below hb, h.rng.below hb⟩
end Go.Proofs.YtpiehlfffjhoaaaGreatDoor
namespace Go.Proofs.YtpiehlfffjhoaaaGreatDoor
open Go.ChangeShapes Go.WideShapes Go.ChangeAt Go.RowKit Go.Deep Go.Joins
theorem handed_and_shaped {H : Type} {enc : TypeId × Value → H} {a : Assume} {C : Checked} {os : Os} {f : FuncId} {fn : Func} {s : ChangeSpec} {conds : List PathCond} {apart fresh handsOn again : Bool} {X : World → Array Value → Prop}
   (hX : ∀ (w w' : World) (args : Array Value), w.heap = w'.heap → X w args → X w' args)
   (own : ownKnob C.prog.godebug = none) (started : os.Started) (noInit : C.prog.inits.idxOf? f = none) (hfn : C.prog.funcs[f]? = some fn)
   (witness : ∃ (w : World) (tape : Tape) (i : Input), w.os = os ∧ (w.forCall tape i).Shaped C.prog ∧ i.vars = [] ∧ Input.okWide C.prog (w.forCall tape i) .any w.heap.size f i ∧
     ((s.pre enc C.prog fn conds apart (w.forCall tape i).memory i.args ∧ X (w.forCall tape i).memory i.args) ∧ sizedMet enc C.prog fn (OpenSpec.ofChange s) apart (w.forCall tape i).memory i.args) ∧ a.holds C.prog (lone (Frame.enter C.prog f i.args .normal) [] (w.forCall tape i)))
   (contract : ∀ (W : World) (base : Nat) (args : Array Value) (ds gs : List (DataW H)) (before : List MemPlace),
     (∀ (j : Nat) t v, fn.params[j]? = some t → args[j]? = some v → Value.okWide C.prog W .any base t v) →
     DataW.Whole enc C.prog fn.params.toList s.vars apart W args.toList ds gs before →
     X W args → W.ShapedOpen C.prog →
     Calls C.prog f args W fun e W' => ∃ v, e = .returned v ∧ s.post enc C.prog fn apart fresh handsOn again W args v W') :
   ReturnsInHanded a C os f .any (fun w args => (s.pre enc C.prog fn conds apart w args ∧ X w args) ∧ sizedMet enc C.prog fn (OpenSpec.ofChange s) apart w args) (s.post enc C.prog fn apart fresh handsOn again) := by
 refine returnsInHanded_of_calls own started noInit witness fun w tape i _ hsh _ hok hpre _ => ?_
 obtain ⟨_, _, _, g, hg, _, _, _, _, hval⟩ := hok
 obtain rfl := Option.some.inj (hg.symm.trans hfn)
 obtain ⟨⟨⟨ds, gs, before, hw, _⟩, hx⟩, _⟩ := hpre
 refine (contract (w.forCall tape i) w.heap.size i.args ds gs before hval (DataW.Whole.of_heap (w' := w.forCall tape i) (by rfl) hw) (hX _ _ _ (by rfl) hx) hsh).mono fun e W' ⟨v, he, hp⟩ => ?_
 subst he
 exact ChangeSpec.post_blind hp
theorem t_pow10 : (Tryz.prog.globals[5]?).map (·.type) = some 273 := by kernel_rfl
theorem c_u64 : Tryz.prog.cellsOf 89 = 1 := by kernel_rfl
theorem c_pow10 : Tryz.prog.cellsOf 273 = 20 := by kernel_rfl
theorem pow10_data : (Rows.laid_internal_strconv_uint64pow10 : DataW Unit) = Lib.tabData .u64 Lib.pow10Tab := by kernel_rfl
theorem g_syn : Tryz.prog.globalNamed "strconv.ErrSyntax" = some 3 := by kernel_rfl
theorem g_rng : Tryz.prog.globalNamed "strconv.ErrRange" = some 4 := by kernel_rfl
theorem t_syn : (Tryz.prog.globals[3]?).map (·.type) = some 103 := by kernel_rfl
theorem t_rng : (Tryz.prog.globals[4]?).map (·.type) = some 103 := by kernel_rfl
theorem len_of {W : World} (hsh : W.ShapedOpen Tryz.prog) : ∃ m, W.cell? ⟨2, 0, none⟩ = some (.int .i64 m) := Go.Proofs.cell_of_shapedOpen_int (zero := #[.int .i64 0]) (t := 3) hsh (of_decide_eq_true (by kernel_rfl)) (by kernel_rfl) rfl (by kernel_rfl) (by kernel_rfl) Tryz.underlying3
def bvS (b : UInt8) : Value := .int .u8 b.toNat
def Src (w : World) (g q : Nat) : Prop :=
 ∃ (C : Option Addr) (n c : Nat) (cs : List UInt8) (k : Nat) (sd : Int), Blk w g 91 #[.slice C n c, .int .i64 k, .int .u64 sd] ∧ Arr w C (cs.map bvS) ∧ cs.length = n ∧ n ≤ 1048576 ∧ k ≤ q ∧ 0 ≤ sd ∧ sd ≤ 18446744073709551615 ∧ ∀ ad, C = some ad → ad.block < g
def OutNx (g q : Nat) (w : World) (e : Ending) (w' : World) : Prop := ∃ r : Int, e = .returned (.int .i64 r) ∧ 0 ≤ r ∧ r ≤ 255 ∧ Src w' g (q + 1) ∧ w.grownBy w' (some g)
theorem u64_bd (n : Int) : 0 ≤ IntKind.u64.wrap n ∧ IntKind.u64.wrap n ≤ 18446744073709551615 := by
 rw [IntKind.wrap_u64]; omega
theorem Src.step {w w0 w' : World} {g q n c k : Nat} {C : Option Addr} {cs : List UInt8} {sd sd' : Int} (hB : Blk w g 91 #[.slice C n c, .int .i64 k, .int .u64 sd]) (hA : Arr w C (cs.map bvS)) (hn : cs.length = n) (hnb : n ≤ 1048576) (hk : k ≤ q) (h0 : 0 ≤ sd') (h1 : sd' ≤ 18446744073709551615) (hC : ∀ ad, C = some ad → ad.block < g)
   (hw0 : Below w.heap.size w w0) (hw : Below ((w0.setCell ⟨g, 1, none⟩ (.int .i64 ((k : Int) + 1))).setCell ⟨g, 2, none⟩ (.int .u64 sd')).heap.size ((w0.setCell ⟨g, 1, none⟩ (.int .i64 ((k : Int) + 1))).setCell ⟨g, 2, none⟩ (.int .u64 sd')) w') :
   Src w' g (q + 1) ∧ w.grownBy w' (some g) := by
 have hB1 := (((hB.below hw0).set_ 1 (.int .i64 ((k : Int) + 1))).set_ 2 (.int .u64 sd')).below hw
 have hg : w.grownBy ((w0.setCell ⟨g, 1, none⟩ (.int .i64 ((k : Int) + 1))).setCell ⟨g, 2, none⟩ (.int .u64 sd')) (some g) := grown_setCell (grown_setCell (grown_of_below hw0 (some g)) (.inl rfl) _) (.inl rfl) _
 have hg2 := grown_below hg hw
 refine ⟨⟨C, n, c, cs, k + 1, sd', ?_, hA.grown hg2 (fun ad e h => absurd (Option.some.inj h) (Nat.ne_of_lt (hC ad e))), hn, hnb, by omega, h0, h1, hC⟩, hg2⟩
 have e : ((k + 1 : Nat) : Int) = (k : Int) + 1 := by omega
 rw [e]
 exact hB1
theorem and255 {x : Int} (h0 : 0 ≤ x) (h1 : x ≤ 18446744073709551615) : 0 ≤ wrap64 (bits .and .u64 (x / 1099511627776) 255) ∧ wrap64 (bits .and .u64 (x / 1099511627776) 255) ≤ 255 := by
 obtain ⟨a, ha⟩ : ∃ a : Nat, x / 1099511627776 = (a : Int) := ⟨(x / 1099511627776).toNat, by omega⟩
 have ha2 : a < 18446744073709551616 := by omega
 have hb : bits .and .u64 (a : Int) ((255 : Nat) : Int) = ((a &&& 255 : Nat) : Int) := bits_and_u64_nat a 255 ha2 (by omega)
 have hle : a &&& 255 ≤ 255 := Nat.and_le_right
 rw [ha, show (255 : Int) = ((255 : Nat) : Int) from rfl, hb]
 unfold wrap64
 omega
set_option maxRecDepth 100000 in
set_option maxHeartbeats 2000000 in
theorem next_c (g q : Nat) (hq : q ≤ 1000000000000) (w : World) (hS : Src w g q) : Calls Tryz.prog 57 #[.pointer (some ⟨g, 0, none⟩)] w (OutNx g q w) := by
 obtain ⟨C, n, c, cs, k, sd, hB, hA, hn, hnb, hk, s0, s1, hC⟩ := hS
 obtain ⟨k0, k1, k2⟩ := qC3 hB
 have hv := Below.refl w.heap.size w
 have HA := qH hA
 have HB := qH hB
 have HN := qH hn
 have HC := qH hC
 by_cases hlt : k < n
 · obtain ⟨b, hb⟩ := get_of_lt (xs := cs) (k := k) (by omega)
   obtain ⟨ad, rfl, _, hc⟩ := hA.at_ (j := k) (by rw [List.length_map]; omega)
   have c0 : w.cell? (ad.add k) = some (.int .u8 b.toNat) := hc k _ (by rw [List.getElem?_map, hb]; rfl)
   have hk0 : (0 : Int) ≤ (k : Int) := by omega
   have hk1 : (k : Int) < (n : Int) := by omega
   have hk2 : (k : Int) + 1 ≤ (n : Int) := by omega
   have hb255 : (b.toNat : Int) ≤ 255 := by have := b.toNat_lt; omega
   have hb0 : 0 ≤ (b.toNat : Int) := by omega
   clear hc hb hA hB hn hC
   go_enter Tryz.func57, Tryz.ntmps57
   go_wp2_with fail
   go_quiet (fail)
   obtain ⟨w1, hx⟩ : ∃ w1, w1 = World.drewN w nq := ⟨_, rfl⟩
   rw [← hx]
   have hb : Below w.heap.size w w1 := by rw [hx]; exact below_drewN (Below.refl _ _) nq
   clear hx
   replace k0 := bl_cell hb k0
   replace k1 := bl_cell hb k1
   replace k2 := bl_cell hb k2
   have f1 := (HB.out.below (bl_trans hv hb)).frozen 1
   have f2 := (HB.out.below (bl_trans hv hb)).frozen 2
   replace hv := bl_trans hv hb
   clear hb
   replace c0 : w1.cell? (ad.add k) = some (.int .u8 b.toNat) := (hv.cell (block_lt_of_cell c0)).trans c0
   go_wp2_with fail
   go_quiet (fail)
   obtain ⟨w2, hx⟩ : ∃ w2, w2 = World.drewN w1 nq := ⟨_, rfl⟩
   rw [← hx]
   have hb : Below w1.heap.size w1 w2 := by rw [hx]; exact below_drewN (Below.refl _ _) nq
   clear hx
   replace k0 := bl_cell hb k0
   replace k1 := bl_cell hb k1
   replace k2 := bl_cell hb k2
   have f1 := (HB.out.below (bl_trans hv hb)).frozen 1
   have f2 := (HB.out.below (bl_trans hv hb)).frozen 2
   replace hv := bl_trans hv hb
   clear hb
   go_wp2_with fail
   generalize hsd : IntKind.u64.wrap (_ + 1442695040888963407) = sd'
   have HSD := qH (show 0 ≤ sd' ∧ sd' ≤ 18446744073709551615 by rw [← hsd]; exact u64_bd _)
   have HST := qH (fun w' hw => Src.step (w' := w') (sd' := sd') HB.out HA.out HN.out hnb hk HSD.out.1 HSD.out.2 HC.out hv hw)
   clear hsd
   go_quiet (fail)
   go_wp2_with fail
   go_returns
   exact ⟨_, rfl, hb0, hb255, HST.out _ (below_drewN (Below.refl _ _) _)⟩
 · have hk1 : ¬ (k : Int) < (n : Int) := by omega
   have hk2 : ¬ (k : Int) + 1 ≤ (n : Int) := by omega
   have hk3 : decide ((k : Int) < (n : Int)) = false := decide_eq_false hk1
   clear hA hB hn hC
   go_enter Tryz.func57, Tryz.ntmps57
   go_wp2_with fail
   go_quiet (fail)
   obtain ⟨w1, hx⟩ : ∃ w1, w1 = World.drewN w nq := ⟨_, rfl⟩
   rw [← hx]
   have hb : Below w.heap.size w w1 := by rw [hx]; exact below_drewN (Below.refl _ _) nq
   clear hx
   replace k0 := bl_cell hb k0
   replace k1 := bl_cell hb k1
   replace k2 := bl_cell hb k2
   have f1 := (HB.out.below (bl_trans hv hb)).frozen 1
   have f2 := (HB.out.below (bl_trans hv hb)).frozen 2
   replace hv := bl_trans hv hb
   clear hb
   go_wp2_with fail
   generalize hsd : IntKind.u64.wrap (_ + 1442695040888963407) = sd'
   have HSD := qH (show 0 ≤ sd' ∧ sd' ≤ 18446744073709551615 by rw [← hsd]; exact u64_bd _)
   have HST := qH (fun w' hw => Src.step (w' := w') (sd' := sd') HB.out HA.out HN.out hnb hk HSD.out.1 HSD.out.2 HC.out hv hw)
   clear hsd
   go_quiet (fail)
   go_wp2_with fail
   go_returns
   exact ⟨_, rfl, (and255 HSD.out.1 HSD.out.2).1, (and255 HSD.out.1 HSD.out.2).2, HST.out _ (below_drewN (Below.refl _ _) _)⟩
theorem Src.more {w : World} {g q q' : Nat} (h : Src w g q) (hq : q ≤ q') : Src w g q' := by
 obtain ⟨C, n, c, cs, k, sd, hB, hA, hn, hnb, hk, s0, s1, hC⟩ := h
 exact ⟨C, n, c, cs, k, sd, hB, hA, hn, hnb, by omega, s0, s1, hC⟩
theorem Src.lt {w : World} {g q : Nat} (h : Src w g q) : g < w.heap.size := by
 obtain ⟨C, n, c, cs, k, sd, hB, _⟩ := h
 exact hB.lt
theorem Src.below {w w' : World} {g q : Nat} (h : Src w g q) (hb : Below w.heap.size w w') : Src w' g q := by
 obtain ⟨C, n, c, cs, k, sd, hB, hA, hn, hnb, hk, s0, s1, hC⟩ := h
 exact ⟨C, n, c, cs, k, sd, hB.below hb, hA.below hb, hn, hnb, hk, s0, s1, hC⟩
theorem Src.far {w : World} {g q : Nat} (h : Src w g q) {p : Addr} (hp : g < p.block) (u : Value) : Src (w.setCell p u) g q := by
 obtain ⟨C, n, c, cs, k, sd, hB, hA, hn, hnb, hk, s0, s1, hC⟩ := h
 exact ⟨C, n, c, cs, k, sd, hB.far (by omega) u, hA.grown (grown_setCell (g := p.block) (World.grownBy.refl w _) (.inl rfl) u) (fun ad e h => by have := hC ad e; injection h; omega), hn, hnb, hk, s0, s1, hC⟩
theorem Src.kept {w w' : World} {g q k : Nat} (h : Src w g q) (hb : w.grownBy w' (some k)) (hk : g < k) : Src w' g q := by
 obtain ⟨C, n, c, cs, j, sd, hB, hA, hn, hnb, hj, s0, s1, hC⟩ := h
 exact ⟨C, n, c, cs, j, sd, hB.grown hb (by intro e; injection e; omega), hA.grown hb (fun ad e h => by have := hC ad e; injection h; omega), hn, hnb, hj, s0, s1, hC⟩
def OutPk (g q : Nat) (n : Int) (w : World) (e : Ending) (w' : World) : Prop := ∃ r : Int, e = .returned (.int .i64 r) ∧ 0 ≤ r ∧ (r = 0 ∨ r < n) ∧ Src w' g (q + 2) ∧ w.grownBy w' (some g)
set_option maxRecDepth 100000 in
set_option maxHeartbeats 2000000 in
theorem pick_c (g q : Nat) (n : Int) (hq : q ≤ 900000000000) (hn : n ≤ 9223372036854775807) (w : World) (hS : Src w g q) : Calls Tryz.prog 24 #[.pointer (some ⟨g, 0, none⟩), .int .i64 n] w (OutPk g q n w) := by
 have HS := qH hS
 clear hS
 by_cases h1 : n ≤ 1
 · go_enter Tryz.func24, Tryz.ntmps24
   go_wp2_with fail
   go_returns
   exact ⟨0, rfl, by omega, .inl rfl, HS.out.more (by omega), World.grownBy.refl w _⟩
 · have h2 : 0 < n := by omega
   have h3 : ¬ n = 0 := by omega
   go_enter Tryz.func24, Tryz.ntmps24
   go_wp2_with fail
   refine (next_c g q (by omega) _ HS.out).mono ?_
   rintro e W ⟨x, rfl, x0, x1, hS1, hg1⟩
   have HS1 := qH hS1
   clear hS1
   by_cases h200 : 200 < n
   · go_wp2_with fail
     refine (next_c g (q + 1) (by omega) _ HS1.out).mono ?_
     rintro e W2 ⟨y, rfl, y0, y1, hS2, hg2⟩
     have HS2 := qH hS2
     clear hS2
     go_wp2_with fail
     go_returns
     exact ⟨_, rfl, Int.emod_nonneg _ h3, .inr (Int.emod_lt_of_pos _ h2), HS2.out, grown_trans hg1 hg2⟩
   · go_wp2_with fail
     go_returns
     exact ⟨_, rfl, Int.emod_nonneg _ h3, .inr (Int.emod_lt_of_pos _ h2), HS1.out.more (by omega), hg1⟩
def OutText (xs : List ByteArray) (g q : Nat) (w : World) (e : Ending) (w' : World) : Prop := ∃ x ∈ xs, e = .returned (.string x) ∧ Src w' g (q + 2) ∧ w.grownBy w' (some g)
set_option maxRecDepth 100000 in
set_option maxHeartbeats 2000000 in
theorem text_c (g q : Nat) (A : Option Addr) (xs : List ByteArray) (m c : Nat) (hm : Hid (xs.length = m)) (h0 : 0 < m) (hmb : m ≤ 1000) (hq : q ≤ 900000000000) (w : World) (hS : Src w g q) (hA : Arr w A (flat scell xs)) (hne : ∀ ad, A = some ad → ad.block ≠ g) :
   Calls Tryz.prog 58 #[.pointer (some ⟨g, 0, none⟩), .slice A m c] w (OutText xs g q w) := by
 have HS := qH hS
 have HA := qH hA
 have HNE := qH hne
 clear hS hA hne
 go_enter Tryz.func58, Tryz.ntmps58
 go_wp2_with fail
 refine (pick_c g q (m : Int) hq (by omega) _ HS.out).mono ?_
 rintro e W ⟨r, rfl, r0, r1, hS1, hg1⟩
 obtain ⟨k, rfl⟩ := Int.eq_ofNat_of_zero_le r0
 have hk : k < m := by omega
 have HS1 := qH hS1
 have HG1 := qH hg1
 obtain ⟨x, hx⟩ := get_of_lt (xs := xs) (k := k) (by rw [hm.out]; exact hk)
 have hA2 := HA.out.grown hg1 (fun ad e h => HNE.out ad e (Option.some.inj h))
 obtain ⟨ad, rfl, hab, hc0, _⟩ := Arr.elem (f := scell) (s := 1) (fun _ => rfl) hA2 hx (by omega)
 have c0 : W.cell? (ad.add k) = some (.string x) := by rw [Nat.mul_one] at hc0; exact hc0
 have HX := qH hx
 have hk0 : (0 : Int) ≤ (k : Int) := by omega
 have hk1 : (k : Int) < (m : Int) := by omega
 clear hS1 hg1 r1 hx hA2 hc0
 go_wp2_with fail
 go_returns
 exact ⟨x, List.mem_of_getElem? HX.out, rfl, HS1.out, HG1.out⟩
set_option maxRecDepth 100000 in
set_option maxHeartbeats 2000000 in
theorem l00From_c (C : Option Addr) (n c : Nat) (cs : List UInt8) (hn : Hid (cs.length = n)) (hnb : n ≤ 1048576) (w : World) (hA : Arr w C (cs.map bvS)) (hlt : ∀ ad, C = some ad → ad.block < w.heap.size) :
   Calls Tryz.prog 23 #[.slice C n c] w (fun e w' => e = .returned (.pointer (some ⟨w.heap.size, 0, none⟩)) ∧ Src w' w.heap.size 0 ∧ Below w.heap.size w w') := by
 have HA := qH hA
 have HL := qH hlt
 clear hA hlt
 go_enter Tryz.func23, Tryz.ntmps23
 go_wp2_with fail
 go_returns
 exact ⟨rfl, ⟨C, n, c, cs, 0, 0, Blk.new _ _ _, HA.out.alloc _, hn.out, hnb, by omega, by omega, by omega, HL.out⟩, bl_alloc (Below.refl _ _) _⟩
theorem Src.over {w w' : World} {g q : Nat} {row : Option Nat} (h : Src w g q) (hb : w.grownBy w' row) (hr : ∀ i, row = some i → g < i) : Src w' g q := by
 obtain ⟨C, n, c, cs, j, sd, hB, hA, hn, hnb, hj, s0, s1, hC⟩ := h
 exact ⟨C, n, c, cs, j, sd, hB.grown hb (fun e => by have := hr g e.symm; omega), hA.grown hb (fun ad e h => by have := hC ad e; have := hr ad.block h.symm; omega), hn, hnb, hj, s0, s1, hC⟩
end Go.Proofs.YtpiehlfffjhoaaaGreatDoor
namespace Go.Proofs.YtpiehlfffjhoaaaGreatDoor
open Go.ChangeShapes Go.WideShapes Go.ChangeAt Go.RowKit Go.Deep Go.Joins
theorem cells_uint8 : Tryz.prog.cellsOf 5 = 1 := by kernel_rfl
theorem flat_bv (cs : List UInt8) : flat (fun b => [bvS b]) cs = cs.map bvS := by
 induction cs with
 | nil => rfl
 | cons a l ih => simp only [flat, List.flatMap_cons, List.map_cons] at ih ⊢; rw [ih]; rfl
set_option maxRecDepth 100000 in
theorem open_bytes_in {H : Type} {enc : TypeId × Value → H} {W : World} {fuel : Nat} {v : Value} {x : DataW H × List MemPlace} (hf : DataW.trod enc Tryz.prog W 0 (fun _ => true) true fuel 22 [v] = some x) :
   ∃ (A : Option Addr) (n c : Nat) (ps : List UInt8), v = .slice A n c ∧ ps.length = n ∧ n ≤ 9223372036854775807 ∧ Arr W A (ps.map bvS) := by
 rcases open_slice Tryz.underlying22 hf with ⟨hcs, _⟩ | ⟨a, len, cap, m, n', D, Pl, hcs, hb, hl, hm, hmm, hx, hi⟩
 · simp only [List.cons.injEq, and_true] at hcs
   subst hcs
   exact ⟨_, _, _, [], rfl, rfl, by omega, Arr.nil _ _⟩
 · simp only [List.cons.injEq, and_true] at hcs
   subst hcs
   simp only [if_true] at hmm
   subst hmm
   have key : ∀ i, i < len → ∃ k : UInt8, True ∧ ∀ j u, ([bvS k] : List Value)[j]? = some u → W.cell? (a.add (i * 1 + j)) = some u := by
     intro i hi'
     obtain ⟨cs', hc, ht'⟩ := hi i (by omega)
     rw [cells_uint8] at hc
     obtain ⟨_, hcl, hat⟩ := World.cells?_some hc
     obtain ⟨z, e, _, q⟩ := DataW.trod_int Tryz.underlying5 ht'
     subst e
     have h0 := hat 0 (by omega)
     have hz : 0 ≤ z ∧ z ≤ 255 := by
       simp [Lit.wf] at q
       exact q
     refine ⟨UInt8.ofNat z.toNat, trivial, fun j u hu => ?_⟩
     match j, hu with
     | 0, hu =>
       have hu' : bvS (UInt8.ofNat z.toNat) = u := Option.some.inj hu
       subst hu'
       rw [Go.Deep.add_add] at h0
       have e : ((UInt8.ofNat z.toNat).toNat : Int) = z := by simp; omega
       unfold bvS
       rw [e]
       simpa using h0
     | j + 1, hu => simp at hu
   obtain ⟨ps, hpl, hp⟩ := list_of len _ key
   refine ⟨_, _, _, ps, rfl, hpl, by unfold maxLen at hm; omega, ?_⟩
   intro hn
   rw [← flat_bv] at hn ⊢
   have h0 := List.getElem?_eq_getElem (l := flat (fun b => [bvS b]) ps) hn
   have hc := fun j u => arr_of_rows (f := fun b => [bvS b]) (s := 1) (fun _ => rfl) (xs := ps) (W := W) (a := a) (fun i x hi' => (hp i x hi').2) j u
   refine ⟨a, rfl, ?_, hc⟩
   have := block_lt_of_cell (hc 0 _ h0)
   rwa [block_of_add] at this
set_option maxRecDepth 100000 in
theorem open_bytes {H : Type} {enc : TypeId × Value → H} {W : World} {base : Nat} {v : Value} {d : DataW H} {p : List MemPlace} (hval : Value.okWide Tryz.prog W .any base 22 v)
   (h : DataW.Trod enc Tryz.prog W 0 (fun _ => true) true 22 v d p) :
   ∃ (A : Option Addr) (n c : Nat) (ps : List UInt8), v = .slice A n c ∧ ps.length = n ∧ n ≤ 9223372036854775807 ∧ (∀ ad, A = some ad → ad.block < W.heap.size) ∧ Arr W A (ps.map bvS) := by
 obtain ⟨fuel, hf⟩ := h
 have h2 := hval
 obtain ⟨a0, len, cap, rfl⟩ := okWide_slice Tryz.underlying22 hval
 obtain ⟨A, n, c, ps, e, h3, h4, h5⟩ := open_bytes_in (by simpa [Value.cells] using hf)
 injection e with e1 e2 e3
 subst e1 e2 e3
 refine ⟨a0, len, cap, ps, rfl, h3, h4, ?_, h5⟩
 intro ad e
 subst e
 simp only [Value.okWide, Tryz.underlying22, Cell.okWide, Cell.ok] at h2
 obtain ⟨_, _, _, _, row, cells, h6, _⟩ := h2
 unfold World.shape? at h6
 by_cases hb : ad.block < W.heap.size
 · exact hb
 · rw [Array.getElem?_eq_none (by omega)] at h6
   simp at h6
def Own (w : World) (lo hi E size n : Nat) (v : Value) (cs : List Value) : Prop := w.ownsRow lo E size v n cs ∧ lo ≤ hi ∧ hi ≤ w.heap.size ∧ ∀ k, v.ownBlock = some k → k < hi
theorem own_lt {w : World} {base e size n : Nat} {v : Value} {cs : List Value} (h : w.ownsRow base e size v n cs) : ∀ k, v.ownBlock = some k → k < w.heap.size := by
 intro k hk
 rcases own_form h with ⟨A, c, hv, _⟩
 subst hv
 rcases h.2 with ⟨hv, _⟩ | ⟨g, cap, cur, hv, _, hh⟩
 · rw [hv] at hk; simp [Value.ownBlock] at hk
 · rw [hv] at hk
   have hgk : g = k := by simpa [Value.ownBlock] using hk
   subst hgk
   simp only [World.ownsRow, hv] at h
   cases Nat.lt_or_ge g w.heap.size with
   | inl hlt => exact hlt
   | inr hge => exfalso; simp_all
theorem Own.of {w w' : World} {e size n : Nat} {v : Value} {cs : List Value} (h : w'.ownsRow w.heap.size e size v n cs) (hb : Below w.heap.size w w') : Own w' w.heap.size w'.heap.size e size n v cs :=
 ⟨h, hb.size, Nat.le_refl _, own_lt h⟩
theorem Own.named {w w' : World} {e size n : Nat} {v : Value} {cs : List Value} (h : w'.ownsRow w.heap.size e size v n cs) (hb : Below w.heap.size w w') : ∃ lo hi, Own w' lo hi e size n v cs ∧ Hid (lo = w.heap.size) ∧ Hid (hi = w'.heap.size) :=
 ⟨_, _, Own.of h hb, qH rfl, qH rfl⟩
theorem Own.below {w w' : World} {lo hi e size n : Nat} {v : Value} {cs : List Value} (h : Own w lo hi e size n v cs) (hb : Below w.heap.size w w') : Own w' lo hi e size n v cs :=
 ⟨own_below h.1 hb, h.2.1, Nat.le_trans h.2.2.1 hb.size, h.2.2.2⟩
theorem Own.drew {w : World} {lo hi e size n : Nat} {v : Value} {cs : List Value} (h : Own w lo hi e size n v cs) : Own w.drew lo hi e size n v cs := h.below (Below.refl _ _).drew
theorem Own.grown {w w' : World} {lo hi e size n : Nat} {v : Value} {cs : List Value} {row : Option Nat} (h : Own w lo hi e size n v cs) (hg : w.grownBy w' row) (hr : ∀ k, row = some k → hi ≤ k ∨ k < lo) : Own w' lo hi e size n v cs :=
 ⟨h.1.kept hg (by
   cases hv : v.ownBlock with
   | none => exact .inl rfl
   | some g =>
     refine .inr (fun e => ?_)
     have h1 := h.2.2.2 g hv
     have h2 := own_at h.1 g hv
     rcases hr g e.symm with h3 | h3 <;> omega), h.2.1, Nat.le_trans h.2.2.1 hg.size, h.2.2.2⟩
theorem Own.row {w : World} {lo hi e size n c : Nat} {A : Option Addr} {cs : List Value} (h : Own w lo hi e size n (.slice A n c) cs) : ∀ k, A.map (·.block) = some k → lo ≤ k ∧ k < hi := by
 intro k hk
 cases A with
 | none => simp at hk
 | some a =>
   have : (Value.slice (some a) n c).ownBlock = some k := by simpa [Value.ownBlock] using hk
   exact ⟨own_at h.1 k this, h.2.2.2 k this⟩
theorem Own.arr {w : World} {lo hi e size n c : Nat} {A : Option Addr} {cs : List Value} (h : Own w lo hi e size n (.slice A n c) cs) : Arr w A cs := Arr.own h.1
theorem Own.marked {w w' : World} {lo hi e size n c : Nat} {A : Option Addr} {cs cs' : List Value} (h : Own w lo hi e size n (.slice A n c) cs) (hg : w.grownBy w' (A.map (·.block))) (ho : w'.ownsRow lo e size (.slice A n c) n cs') : Own w' lo hi e size n (.slice A n c) cs' :=
 ⟨ho, h.2.1, Nat.le_trans h.2.2.1 hg.size, h.2.2.2⟩
end Go.Proofs.YtpiehlfffjhoaaaGreatDoor
