/- Lemmas for the law on the console: the parts StyV, DkV. -/
import Derived.Test.YtpiehlfffjhoaaaGreatDoorQ0
import Derived.Test.YtpiehlfffjhoaaaGreatDoorQ16
import Derived.Test.YtpiehlfffjhoaaaGreatDoorQ4
import Derived.Test.YtpiehlfffjhoaaaGreatDoorQ5
import Derived.Test.YtpiehlfffjhoaaaGreatDoorQ11
import Derived.Test.YtpiehlfffjhoaaaGreatDoorQ15
namespace Go.Proofs.YtpiehlfffjhoaaaGreatDoor
open Go.RowKit
theorem txts_small {x : Style} (h : x.fits) : ∀ t ∈ txts x, t.size ≤ 4194304 := by
 obtain ⟨⟨z0, z1, z2, z3⟩, i4, i5, i6, i7⟩ := h
 have d4 := dec21 i4.1 i4.2
 have d5 := dec21 i5.1 i5.2
 have d6 := dec21 i6.1 i6.2
 have d7 := dec21 i7.1 i7.2
 have l0 : (⟨#[117, 112, 112, 101, 114, 32]⟩ : ByteArray).size = 6 := rfl
 have l1 : (⟨#[108, 105, 110, 105, 110, 103, 32]⟩ : ByteArray).size = 7 := rfl
 have l2 : (⟨#[115, 111, 108, 101, 32]⟩ : ByteArray).size = 5 := rfl
 have l3 : (⟨#[104, 101, 101, 108, 32]⟩ : ByteArray).size = 5 := rfl
 have l4 : (⟨#[101, 121, 101, 108, 101, 116, 115, 32]⟩ : ByteArray).size = 8 := rfl
 have l5 : (⟨#[115, 116, 105, 116, 99, 104, 32]⟩ : ByteArray).size = 7 := rfl
 have l6 : (⟨#[32, 100, 111, 117, 98, 108, 101]⟩ : ByteArray).size = 7 := rfl
 have ls : spB.size = 1 := rfl
 have z : (⟨#[]⟩ : ByteArray).size = 0 := rfl
 intro t ht
 simp only [txts, List.mem_cons, List.not_mem_nil, or_false] at ht
 rcases ht with rfl | rfl | rfl | rfl | rfl | rfl
 · unfold txt0; simp only [app_size]; omega
 · unfold txt1; split
   · omega
   · simp only [app_size]; omega
 · unfold txt2; simp only [app_size]; omega
 · unfold txt3; split
   · omega
   · simp only [app_size]; omega
 · unfold txt4; split
   · omega
   · simp only [app_size]; omega
 · unfold txt5 txt5a
   split <;> split <;> (try simp only [app_size]) <;> omega
theorem fine_step {l : List ByteArray} {k : Nat} {t : ByteArray} (h : l[k]? = some t) : (l.take (k + 1)).all fineT = ((l.take k).all fineT && fineT t) := by
 rw [take_at h, List.all_append]; simp
theorem ok_bad {x : Style} {k : Nat} {t : ByteArray} (h : (txts x)[k]? = some t) (hf : fineT t = false) : styB x = false := by
 rw [← okL_styB]
 unfold okL
 have : (txts x).all fineT = false := by
   rw [List.all_eq_false]
   exact ⟨t, List.mem_of_getElem? h, by rw [hf]; simp⟩
 rw [this, Bool.false_and]
theorem ok_good {x : Style} (h : (txts x).all fineT = true) : styB x = (nameB x.upper && nameB x.color && nameB x.sole && (decide (x.lining.size = 0) || nameB x.lining)) := by
 rw [← okL_styB]
 unfold okL
 rw [h, Bool.true_and]
set_option maxRecDepth 100000 in
set_option maxHeartbeats 8000000 in
theorem l24Ok_o (x : Style) (hx : Hid x.fits) (g o : Nat) (w : World) (hB : StyC w g o #[Value.string x.upper, Value.string x.color, Value.string x.lining, Value.string x.sole, Value.int .i64 x.thick, Value.int .i64 x.heel, Value.int .i64 x.eyelets, Value.int .i64 x.density, Value.bool x.double]) : Calls Tryz.prog 93 #[.pointer (some ⟨g, o, none⟩)] w (Ret (.bool (styB x)) w) := by
 have HB := qH hB
 have HTX := fun w h => l24Texts_o x hx g o w h
 unfold OutTx at HTX
 have HZ := qH (txts_small hx.out)
 have HG := qH (fun h => ok_good (x := x) h)
 have HBD := qH (fun (k : Nat) (t : ByteArray) (h : (txts x)[k]? = some t) (hf : fineT t = false) => ok_bad h hf)
 obtain ⟨TS, hTS⟩ : ∃ z, z = txts x := ⟨_, rfl⟩
 have hl6 : TS.length = 6 := by rw [hTS]; rfl
 rw [← hTS] at HTX HZ HG HBD
 replace HTX := qH HTX
 have HL6 := qH hl6
 have hsz : x.upper.size ≤ 9223372036854775807 ∧ x.color.size ≤ 9223372036854775807 ∧ x.lining.size ≤ 9223372036854775807 ∧ x.sole.size ≤ 9223372036854775807 := by
   obtain ⟨⟨z0, z1, z2, z3⟩, _⟩ := hx.out
   omega
 have HSZ := qH hsz
 clear hB hTS hl6 hsz
 go_enter Tryz.func93, Tryz.ntmps93
 go_wp2_with fail
 refine (HTX.out _ HB.out).mono ?_
 rintro e W ⟨gl, rfl, hge, hT, hv⟩
 have HT := qH hT
 replace HB := qH (HB.out.below hv)
 clear hT HTX
 go_wp2_with fail
 have hR := qH (show (TS.take 0).all fineT = true from rfl)
 go_loopw [4] (fun i wr => ∃ k : Nat, k ≤ 6 ∧ i = .int .i64 k ∧ Hid ((TS.take k).all fineT = true) ∧ Below W.heap.size W wr) (fun i _ => 6 - (intOf i).toNat)
 case atStart => exact ⟨0, by omega, rfl, hR, Below.refl _ _⟩
 case round =>
 clear hR
 obtain ⟨k, hk, rfl, hR, hb⟩ := hrel
 have hk0 : (0 : Int) ≤ (k : Int) := by omega
 by_cases hlt : k < 6
 case pos =>
  as_aux_lemma =>
   obtain ⟨t, ht⟩ := get_of_lt (xs := TS) (k := k) (by rw [HL6.out]; exact hlt)
   have c0 : wr.cell? ⟨gl, k, none⟩ = some (.string t) := by
     rw [(HT.out.below hb).cell k]
     simp [ht]
   have hk1 : (k : Int) < 6 := by omega
   have hS := fine_step ht
   rw [hR.out, Bool.true_and] at hS
   have hz := HZ.out t (List.mem_of_getElem? ht)
   by_cases h0 : t.size = 0
   · have he : t.toList.isEmpty = true := by rw [empty_beq]; exact decide_eq_true h0
     have HS := qH (hS.trans (by unfold fineT; rw [decide_eq_true h0]; rfl : _ = true))
     clear hS ht h0 hR
     go_wp2_with fail
     exact ⟨⟨k + 1, by omega, by go_num, HS, hb⟩, by simp [intOf]; omega⟩
   · have he : t.toList.isEmpty = false := by rw [empty_beq]; exact decide_eq_false h0
     have hf : fineT t = decide (prob (wrds t) = 0) := by unfold fineT; rw [decide_eq_false h0, Bool.false_or]
     have hle := wrds_le t
     have HPT := qH (fun y (hy : y ∈ wrds t) => Nat.le_trans (wrds_part hy) hz)
     have HSW := fun w => SSplitWords_c t hz w
     unfold OutWd at HSW
     obtain ⟨ws, hws⟩ : ∃ z, z = wrds t := ⟨_, rfl⟩
     rw [← hws] at HSW hf hle HPT
     obtain ⟨pp, hpp⟩ : ∃ z, z = prob ws := ⟨_, rfl⟩
     have HLP := fun A n c hn hz w hA => l24Problem_c A ws n c hn hz HPT w hA
     rw [← hpp] at hf HLP
     rw [hf] at hS
     replace HSW := qH HSW
     replace HLP := qH HLP
     have HS := qH hS
     have HF := qH hf
     have HTT := qH ht
     clear hS hf ht h0 hR hws hpp
     go_wp2_with fail
     refine (HSW.out _).mono ?_
     rintro e W2 ⟨A, n, c, rfl, hn', hA2, hb2⟩
     have hn := qH hn'
     replace hb := bl_trans hb hb2
     clear hn' hb2 c0
     go_wp2_with fail
     refine (HLP.out A n c hn (by have := hn.out; omega) _ hA2).mono ?_
     rintro e W3 ⟨rfl, hb3⟩
     replace hb := bl_trans hb hb3
     clear hb3 hA2
     by_cases hp : pp = 0
     · have hq : (pp != 0) = false := by rw [hp]; rfl
       have HS2 := qH (HS.out.trans (decide_eq_true hp))
       clear hp HS
       go_wp2_with fail
       exact ⟨⟨k + 1, by omega, by go_num, HS2, hb⟩, by simp [intOf]; omega⟩
     · have hq : (pp != 0) = true := by rw [bne_iff_ne]; exact hp
       have HN := qH (HBD.out k t HTT.out (by rw [HF.out]; exact decide_eq_false hp))
       clear hp HS
       go_wp2_with fail
       go_returns
       exact Ret.mk (vb (by rw [HN.out])) (bl_trans hv hb)
 rename World => V
 as_aux_lemma =>
 have hP := HG.out (by have h := hR.out; rwa [List.take_of_length_le (by rw [HL6.out]; omega)] at h)
 replace hv := bl_trans hv hb
 have HXW := HB.out.below hb
 obtain ⟨z1, z2, z3, z4⟩ := HSZ.out
 have H1 := fun w => SIsName_c x.upper z1 w
 have H2 := fun w => SIsName_c x.color z2 w
 have H3 := fun w => SIsName_c x.sole z4 w
 have H4 := fun w => SIsName_c x.lining z3 w
 have hE := empty_beq x.lining
 obtain ⟨b1, e1⟩ : ∃ z, z = nameB x.upper := ⟨_, rfl⟩
 obtain ⟨b2, e2⟩ : ∃ z, z = nameB x.color := ⟨_, rfl⟩
 obtain ⟨b3, e3⟩ : ∃ z, z = nameB x.sole := ⟨_, rfl⟩
 obtain ⟨b4, e4⟩ : ∃ z, z = nameB x.lining := ⟨_, rfl⟩
 obtain ⟨q3, f3⟩ : ∃ z, z = decide (x.lining.size = 0) := ⟨_, rfl⟩
 rw [← e1] at H1 hP
 rw [← e2] at H2 hP
 rw [← e3] at H3 hP
 rw [← e4] at H4 hP
 rw [← f3] at hE hP
 replace H1 := qH H1
 replace H2 := qH H2
 replace H3 := qH H3
 replace H4 := qH H4
 have HP := qH hP
 clear hP e1 e2 e3 e4 f3 z1 z2 z3 z4 hR hb HB HT HZ HG HBD
 have k0 : V.cell? ⟨g, o, none⟩ = some (.string x.upper) := HXW.cell 0 rfl
 have k1 : V.cell? ⟨g, o + 1, none⟩ = some (.string x.color) := HXW.cell 1 rfl
 have k2 : V.cell? ⟨g, o + 2, none⟩ = some (.string x.lining) := HXW.cell 2 rfl
 have k3 : V.cell? ⟨g, o + 3, none⟩ = some (.string x.sole) := HXW.cell 3 rfl
 clear HXW
 cases b1
 · skip
   go_wp2_with fail
   refine (H1.out _).mono ?_
   rintro e w' ⟨rfl, hq⟩
   rw [hq]
   clear hq w'
   go_wp2_with fail
   go_returns
   exact Ret.mk (vb (by rw [HP.out]; rfl)) hv
 cases b2
 · skip
   go_wp2_with fail
   refine (H1.out _).mono ?_
   rintro e w' ⟨rfl, hq⟩
   rw [hq]
   clear hq w'
   go_wp2_with fail
   refine (H2.out _).mono ?_
   rintro e w' ⟨rfl, hq⟩
   rw [hq]
   clear hq w'
   go_wp2_with fail
   go_returns
   exact Ret.mk (vb (by rw [HP.out]; rfl)) hv
 cases b3
 · skip
   go_wp2_with fail
   refine (H1.out _).mono ?_
   rintro e w' ⟨rfl, hq⟩
   rw [hq]
   clear hq w'
   go_wp2_with fail
   refine (H2.out _).mono ?_
   rintro e w' ⟨rfl, hq⟩
   rw [hq]
   clear hq w'
   go_wp2_with fail
   refine (H3.out _).mono ?_
   rintro e w' ⟨rfl, hq⟩
   rw [hq]
   clear hq w'
   go_wp2_with fail
   go_returns
   exact Ret.mk (vb (by rw [HP.out]; rfl)) hv
 cases q3
 · skip
   cases b4
   · skip
     go_wp2_with fail
     refine (H1.out _).mono ?_
     rintro e w' ⟨rfl, hq⟩
     rw [hq]
     clear hq w'
     go_wp2_with fail
     refine (H2.out _).mono ?_
     rintro e w' ⟨rfl, hq⟩
     rw [hq]
     clear hq w'
     go_wp2_with fail
     refine (H3.out _).mono ?_
     rintro e w' ⟨rfl, hq⟩
     rw [hq]
     clear hq w'
     go_wp2_with fail
     refine (H4.out _).mono ?_
     rintro e w' ⟨rfl, hq⟩
     rw [hq]
     clear hq w'
     go_wp2_with fail
     go_returns
     exact Ret.mk (vb (by rw [HP.out]; rfl)) hv
   · skip
     go_wp2_with fail
     refine (H1.out _).mono ?_
     rintro e w' ⟨rfl, hq⟩
     rw [hq]
     clear hq w'
     go_wp2_with fail
     refine (H2.out _).mono ?_
     rintro e w' ⟨rfl, hq⟩
     rw [hq]
     clear hq w'
     go_wp2_with fail
     refine (H3.out _).mono ?_
     rintro e w' ⟨rfl, hq⟩
     rw [hq]
     clear hq w'
     go_wp2_with fail
     refine (H4.out _).mono ?_
     rintro e w' ⟨rfl, hq⟩
     rw [hq]
     clear hq w'
     go_wp2_with fail
     go_returns
     exact Ret.mk (vb (by rw [HP.out]; rfl)) hv
 · skip
   go_wp2_with fail
   refine (H1.out _).mono ?_
   rintro e w' ⟨rfl, hq⟩
   rw [hq]
   clear hq w'
   go_wp2_with fail
   refine (H2.out _).mono ?_
   rintro e w' ⟨rfl, hq⟩
   rw [hq]
   clear hq w'
   go_wp2_with fail
   refine (H3.out _).mono ?_
   rintro e w' ⟨rfl, hq⟩
   rw [hq]
   clear hq w'
   go_wp2_with fail
   go_returns
   exact Ret.mk (vb (by rw [HP.out]; rfl)) hv
def deskB (f : Foot) (xs : List Last) (s : Style) (lg : ByteArray) : Bool := footB f && lasB xs && styB s && decide (cdL lg = 0)
set_option maxHeartbeats 1000000 in
theorem isLog_c (s : ByteArray) (hs : s.size ≤ 1048576) (w : World) (hT : Tabs w) : Calls Tryz.prog 63 #[.string s] w (Ret (.bool (decide (cdL s = 0))) w) := by
 have HC := logCode_c s hs w hT
 unfold OutLc at HC
 obtain ⟨K, hK⟩ : ∃ z, z = cdL s := ⟨_, rfl⟩
 rw [← hK] at HC ⊢
 replace HC := qH HC
 clear hK
 go_enter Tryz.func63, Tryz.ntmps63
 go_wp2_with fail
 refine HC.out.mono ?_
 rintro e W ⟨A, c, m, es, st, n, rfl, _, _, _, _, _, hb⟩
 go_wp2_with fail
 go_returns
 exact Ret.mk (vb (by rfl)) (bl_alloc hb _)
set_option maxRecDepth 100000 in
set_option maxHeartbeats 8000000 in
theorem ValidDesk_c (f : Foot) (s : Style) (lg : ByteArray) (A : Option Addr) (xs : List Last) (n c : Nat) (hn : Hid (xs.length = n)) (hm : (n : Int) ≤ 1048576) (hs : Hid (∀ x ∈ xs, x.name.size ≤ 9223372036854775807)) (hx : Hid s.fits) (hl : lg.size ≤ 1048576) (w : World) (hA : Arr w A (flat Last.cells xs)) (hT : Tabs w) : Calls Tryz.prog 29 #[Value.agg #[.int .i64 f.length, .int .i64 f.ball, .int .i64 f.instep, .int .i64 f.heel, .slice A n c, .string s.upper, .string s.color, .string s.lining, .string s.sole, .int .i64 s.thick, .int .i64 s.heel, .int .i64 s.eyelets, .int .i64 s.density, .bool s.double, .string lg]] w (Ret (.bool (deskB f xs s lg)) w) := by
 have HA := qH hA
 have HT := qH hT
 clear hA hT
 have H1 := fun w => ValidFoot_c f w
 have H2 := fun w h => ValidLasts_c A xs n c hn hm hs w h
 have H3 := fun w => ValidStyle_c s (qH (by have h := hx.out.1; omega)) w
 have H4 := fun w h => isLog_c lg hl w h
 have hP : deskB f xs s lg = (footB f && lasB xs && styB s && decide (cdL lg = 0)) := rfl
 obtain ⟨b1, e1⟩ : ∃ z, z = footB f := ⟨_, rfl⟩
 rw [← e1] at H1 hP
 obtain ⟨b2, e2⟩ : ∃ z, z = lasB xs := ⟨_, rfl⟩
 rw [← e2] at H2 hP
 obtain ⟨b3, e3⟩ : ∃ z, z = styB s := ⟨_, rfl⟩
 rw [← e3] at H3 hP
 obtain ⟨b4, e4⟩ : ∃ z, z = decide (cdL lg = 0) := ⟨_, rfl⟩
 rw [← e4] at H4 hP
 clear e4
 have HP := qH hP
 clear hP e1 e2 e3 hx hl
 replace H1 := qH H1
 replace H2 := qH H2
 replace H3 := qH H3
 replace H4 := qH H4
 obtain ⟨W, hW⟩ : ∃ W, W = w.alloc (Obj.cells #[.int .i64 f.length, .int .i64 f.ball, .int .i64 f.instep, .int .i64 f.heel, .slice A n c, .string s.upper, .string s.color, .string s.lining, .string s.sole, .int .i64 s.thick, .int .i64 s.heel, .int .i64 s.eyelets, .int .i64 s.density, .bool s.double, .string lg] 32) := ⟨_, rfl⟩
 obtain ⟨g, hg⟩ : ∃ g, g = w.heap.size := ⟨_, rfl⟩
 have hv : Below w.heap.size w W := by rw [hW]; exact bl_alloc (Below.refl _ _) _
 have hB : Hid (Blk W g 32 #[.int .i64 f.length, .int .i64 f.ball, .int .i64 f.instep, .int .i64 f.heel, .slice A n c, .string s.upper, .string s.color, .string s.lining, .string s.sole, .int .i64 s.thick, .int .i64 s.heel, .int .i64 s.eyelets, .int .i64 s.density, .bool s.double, .string lg]) := qH (by rw [hW, hg]; exact Blk.new _ _ _)
 have HW := qH hW
 have HG := qH hg
 clear hW hg
 obtain ⟨k0, k1, k2, k3, k4, k5, k6, k7, k8, k9, k10, k11, k12, k13, k14⟩ := qC15 hB.out
 go_enter Tryz.func29, Tryz.ntmps29
 go_upto_region 1 with fail
 rw [← HW.out, ← HG.out]
 clear HW HG
 cases b1
 · skip
   go_wp2_with fail
   refine (H1.out _).mono ?_
   rintro e W1 ⟨rfl, hb⟩
   replace hv := bl_trans hv hb
   replace hB := qH (hB.out.below hb)
   clear hb
   clear k0 k1 k2 k3 k4 k5 k6 k7 k8 k9 k10 k11 k12 k13 k14
   obtain ⟨k0, k1, k2, k3, k4, k5, k6, k7, k8, k9, k10, k11, k12, k13, k14⟩ := qC15 hB.out
   go_wp2_with fail
   go_returns
   exact Ret.mk (vb (by rw [HP.out]; rfl)) hv
 cases b2
 · skip
   go_wp2_with fail
   refine (H1.out _).mono ?_
   rintro e W1 ⟨rfl, hb⟩
   replace hv := bl_trans hv hb
   replace hB := qH (hB.out.below hb)
   clear hb
   clear k0 k1 k2 k3 k4 k5 k6 k7 k8 k9 k10 k11 k12 k13 k14
   obtain ⟨k0, k1, k2, k3, k4, k5, k6, k7, k8, k9, k10, k11, k12, k13, k14⟩ := qC15 hB.out
   go_wp2_with fail
   refine (H2.out _ (HA.out.below hv)).mono ?_
   rintro e W2 ⟨rfl, hb⟩
   replace hv := bl_trans hv hb
   replace hB := qH (hB.out.below hb)
   clear hb
   clear k0 k1 k2 k3 k4 k5 k6 k7 k8 k9 k10 k11 k12 k13 k14
   obtain ⟨k0, k1, k2, k3, k4, k5, k6, k7, k8, k9, k10, k11, k12, k13, k14⟩ := qC15 hB.out
   go_wp2_with fail
   go_returns
   exact Ret.mk (vb (by rw [HP.out]; rfl)) hv
 cases b3
 · skip
   go_wp2_with fail
   refine (H1.out _).mono ?_
   rintro e W1 ⟨rfl, hb⟩
   replace hv := bl_trans hv hb
   replace hB := qH (hB.out.below hb)
   clear hb
   clear k0 k1 k2 k3 k4 k5 k6 k7 k8 k9 k10 k11 k12 k13 k14
   obtain ⟨k0, k1, k2, k3, k4, k5, k6, k7, k8, k9, k10, k11, k12, k13, k14⟩ := qC15 hB.out
   go_wp2_with fail
   refine (H2.out _ (HA.out.below hv)).mono ?_
   rintro e W2 ⟨rfl, hb⟩
   replace hv := bl_trans hv hb
   replace hB := qH (hB.out.below hb)
   clear hb
   clear k0 k1 k2 k3 k4 k5 k6 k7 k8 k9 k10 k11 k12 k13 k14
   obtain ⟨k0, k1, k2, k3, k4, k5, k6, k7, k8, k9, k10, k11, k12, k13, k14⟩ := qC15 hB.out
   go_wp2_with fail
   refine (H3.out _).mono ?_
   rintro e W3 ⟨rfl, hb⟩
   replace hv := bl_trans hv hb
   replace hB := qH (hB.out.below hb)
   clear hb
   clear k0 k1 k2 k3 k4 k5 k6 k7 k8 k9 k10 k11 k12 k13 k14
   obtain ⟨k0, k1, k2, k3, k4, k5, k6, k7, k8, k9, k10, k11, k12, k13, k14⟩ := qC15 hB.out
   go_wp2_with fail
   go_returns
   exact Ret.mk (vb (by rw [HP.out]; rfl)) hv
 cases b4
 · skip
   go_wp2_with fail
   refine (H1.out _).mono ?_
   rintro e W1 ⟨rfl, hb⟩
   replace hv := bl_trans hv hb
   replace hB := qH (hB.out.below hb)
   clear hb
   clear k0 k1 k2 k3 k4 k5 k6 k7 k8 k9 k10 k11 k12 k13 k14
   obtain ⟨k0, k1, k2, k3, k4, k5, k6, k7, k8, k9, k10, k11, k12, k13, k14⟩ := qC15 hB.out
   go_wp2_with fail
   refine (H2.out _ (HA.out.below hv)).mono ?_
   rintro e W2 ⟨rfl, hb⟩
   replace hv := bl_trans hv hb
   replace hB := qH (hB.out.below hb)
   clear hb
   clear k0 k1 k2 k3 k4 k5 k6 k7 k8 k9 k10 k11 k12 k13 k14
   obtain ⟨k0, k1, k2, k3, k4, k5, k6, k7, k8, k9, k10, k11, k12, k13, k14⟩ := qC15 hB.out
   go_wp2_with fail
   refine (H3.out _).mono ?_
   rintro e W3 ⟨rfl, hb⟩
   replace hv := bl_trans hv hb
   replace hB := qH (hB.out.below hb)
   clear hb
   clear k0 k1 k2 k3 k4 k5 k6 k7 k8 k9 k10 k11 k12 k13 k14
   obtain ⟨k0, k1, k2, k3, k4, k5, k6, k7, k8, k9, k10, k11, k12, k13, k14⟩ := qC15 hB.out
   go_wp2_with fail
   refine (H4.out _ (HT.out.below hv)).mono ?_
   rintro e W4 ⟨rfl, hb⟩
   replace hv := bl_trans hv hb
   replace hB := qH (hB.out.below hb)
   clear hb
   clear k0 k1 k2 k3 k4 k5 k6 k7 k8 k9 k10 k11 k12 k13 k14
   obtain ⟨k0, k1, k2, k3, k4, k5, k6, k7, k8, k9, k10, k11, k12, k13, k14⟩ := qC15 hB.out
   go_wp2_with fail
   go_returns
   exact Ret.mk (vb (by rw [HP.out]; rfl)) hv
 · skip
   go_wp2_with fail
   refine (H1.out _).mono ?_
   rintro e W1 ⟨rfl, hb⟩
   replace hv := bl_trans hv hb
   replace hB := qH (hB.out.below hb)
   clear hb
   clear k0 k1 k2 k3 k4 k5 k6 k7 k8 k9 k10 k11 k12 k13 k14
   obtain ⟨k0, k1, k2, k3, k4, k5, k6, k7, k8, k9, k10, k11, k12, k13, k14⟩ := qC15 hB.out
   go_wp2_with fail
   refine (H2.out _ (HA.out.below hv)).mono ?_
   rintro e W2 ⟨rfl, hb⟩
   replace hv := bl_trans hv hb
   replace hB := qH (hB.out.below hb)
   clear hb
   clear k0 k1 k2 k3 k4 k5 k6 k7 k8 k9 k10 k11 k12 k13 k14
   obtain ⟨k0, k1, k2, k3, k4, k5, k6, k7, k8, k9, k10, k11, k12, k13, k14⟩ := qC15 hB.out
   go_wp2_with fail
   refine (H3.out _).mono ?_
   rintro e W3 ⟨rfl, hb⟩
   replace hv := bl_trans hv hb
   replace hB := qH (hB.out.below hb)
   clear hb
   clear k0 k1 k2 k3 k4 k5 k6 k7 k8 k9 k10 k11 k12 k13 k14
   obtain ⟨k0, k1, k2, k3, k4, k5, k6, k7, k8, k9, k10, k11, k12, k13, k14⟩ := qC15 hB.out
   go_wp2_with fail
   refine (H4.out _ (HT.out.below hv)).mono ?_
   rintro e W4 ⟨rfl, hb⟩
   replace hv := bl_trans hv hb
   replace hB := qH (hB.out.below hb)
   clear hb
   clear k0 k1 k2 k3 k4 k5 k6 k7 k8 k9 k10 k11 k12 k13 k14
   obtain ⟨k0, k1, k2, k3, k4, k5, k6, k7, k8, k9, k10, k11, k12, k13, k14⟩ := qC15 hB.out
   go_wp2_with fail
   go_returns
   exact Ret.mk (vb (by rw [HP.out]; rfl)) hv
theorem sty_in {f : Foot} {s : Style} {lg : ByteArray} {A : Option Addr} {n c g : Nat} {w : World} (h : Blk w g 32 #[.int .i64 f.length, .int .i64 f.ball, .int .i64 f.instep, .int .i64 f.heel, .slice A n c, .string s.upper, .string s.color, .string s.lining, .string s.sole, .int .i64 s.thick, .int .i64 s.heel, .int .i64 s.eyelets, .int .i64 s.density, .bool s.double, .string lg]) : StyC w g 5 #[Value.string s.upper, Value.string s.color, Value.string s.lining, Value.string s.sole, Value.int .i64 s.thick, Value.int .i64 s.heel, Value.int .i64 s.eyelets, Value.int .i64 s.density, Value.bool s.double] := ⟨h.lt, fun i v e => by
 rw [h.cell (5 + i)]
 rcases i with _ | _ | _ | _ | _ | _ | _ | _ | _ | i
 all_goals first | exact e | (simp at e)⟩
set_option maxRecDepth 100000 in
set_option maxHeartbeats 8000000 in
theorem l28Ok_c (f : Foot) (s : Style) (lg : ByteArray) (A : Option Addr) (xs : List Last) (n c : Nat) (hn : Hid (xs.length = n)) (hm : (n : Int) ≤ 1048576) (hs : Hid (∀ x ∈ xs, x.name.size ≤ 9223372036854775807)) (hx : Hid s.fits) (hl : lg.size ≤ 1048576) (g : Nat) (w : World) (hB0 : Blk w g 32 #[.int .i64 f.length, .int .i64 f.ball, .int .i64 f.instep, .int .i64 f.heel, .slice A n c, .string s.upper, .string s.color, .string s.lining, .string s.sole, .int .i64 s.thick, .int .i64 s.heel, .int .i64 s.eyelets, .int .i64 s.density, .bool s.double, .string lg]) (hA : Arr w A (flat Last.cells xs)) : Calls Tryz.prog 36 #[.pointer (some ⟨g, 0, none⟩)] w (Ret (.bool (deskB f xs s lg)) w) := by
 have HA := qH hA
 have hB := qH hB0
 clear hA hB0
 have H1 := fun w => l02Foot_c f w
 have H2 := fun w h => l04Ok_c A xs n c hn hm hs w h
 have H3 := fun w h => l24Ok_o s hx g 5 w h
 have H4 := fun w => l27Code_c lg hl w
 unfold OutCd at H4
 have hP : deskB f xs s lg = (footB f && lasB xs && styB s && decide (cdL lg = 0)) := rfl
 obtain ⟨b1, e1⟩ : ∃ z, z = footB f := ⟨_, rfl⟩
 rw [← e1] at H1 hP
 obtain ⟨b2, e2⟩ : ∃ z, z = lasB xs := ⟨_, rfl⟩
 rw [← e2] at H2 hP
 obtain ⟨b3, e3⟩ : ∃ z, z = styB s := ⟨_, rfl⟩
 rw [← e3] at H3 hP
 obtain ⟨K, e4⟩ : ∃ z, z = cdL lg := ⟨_, rfl⟩
 rw [← e4] at H4 hP
 clear e4
 have HP := qH hP
 clear hP e1 e2 e3 hx hl
 replace H1 := qH H1
 replace H2 := qH H2
 replace H3 := qH H3
 replace H4 := qH H4
 have hv := Below.refl w.heap.size w
 obtain ⟨k0, k1, k2, k3, k4, k5, k6, k7, k8, k9, k10, k11, k12, k13, k14⟩ := qC15 hB.out
 go_enter Tryz.func36, Tryz.ntmps36
 go_wp2_with fail
 refine (H4.out _).mono ?_
 rintro e W0 ⟨g4, rfl, _, _, hb⟩
 replace hv := bl_trans hv hb
 replace hB := qH (hB.out.below hb)
 clear hb H4
 clear k0 k1 k2 k3 k4 k5 k6 k7 k8 k9 k10 k11 k12 k13 k14
 obtain ⟨k0, k1, k2, k3, k4, k5, k6, k7, k8, k9, k10, k11, k12, k13, k14⟩ := qC15 hB.out
 cases b1
 · skip
   go_wp2_with fail
   refine (H1.out _).mono ?_
   rintro e W1 ⟨rfl, hb⟩
   replace hv := bl_trans hv hb
   replace hB := qH (hB.out.below hb)
   clear hb
   clear k0 k1 k2 k3 k4 k5 k6 k7 k8 k9 k10 k11 k12 k13 k14
   obtain ⟨k0, k1, k2, k3, k4, k5, k6, k7, k8, k9, k10, k11, k12, k13, k14⟩ := qC15 hB.out
   go_wp2_with fail
   go_returns
   exact Ret.mk (vb (by rw [HP.out]; rfl)) hv
 cases b2
 · skip
   go_wp2_with fail
   refine (H1.out _).mono ?_
   rintro e W1 ⟨rfl, hb⟩
   replace hv := bl_trans hv hb
   replace hB := qH (hB.out.below hb)
   clear hb
   clear k0 k1 k2 k3 k4 k5 k6 k7 k8 k9 k10 k11 k12 k13 k14
   obtain ⟨k0, k1, k2, k3, k4, k5, k6, k7, k8, k9, k10, k11, k12, k13, k14⟩ := qC15 hB.out
   go_wp2_with fail
   refine (H2.out _ (HA.out.below hv)).mono ?_
   rintro e W2 ⟨rfl, hb⟩
   replace hv := bl_trans hv hb
   replace hB := qH (hB.out.below hb)
   clear hb
   clear k0 k1 k2 k3 k4 k5 k6 k7 k8 k9 k10 k11 k12 k13 k14
   obtain ⟨k0, k1, k2, k3, k4, k5, k6, k7, k8, k9, k10, k11, k12, k13, k14⟩ := qC15 hB.out
   go_wp2_with fail
   go_returns
   exact Ret.mk (vb (by rw [HP.out]; rfl)) hv
 cases b3
 · skip
   go_wp2_with fail
   refine (H1.out _).mono ?_
   rintro e W1 ⟨rfl, hb⟩
   replace hv := bl_trans hv hb
   replace hB := qH (hB.out.below hb)
   clear hb
   clear k0 k1 k2 k3 k4 k5 k6 k7 k8 k9 k10 k11 k12 k13 k14
   obtain ⟨k0, k1, k2, k3, k4, k5, k6, k7, k8, k9, k10, k11, k12, k13, k14⟩ := qC15 hB.out
   go_wp2_with fail
   refine (H2.out _ (HA.out.below hv)).mono ?_
   rintro e W2 ⟨rfl, hb⟩
   replace hv := bl_trans hv hb
   replace hB := qH (hB.out.below hb)
   clear hb
   clear k0 k1 k2 k3 k4 k5 k6 k7 k8 k9 k10 k11 k12 k13 k14
   obtain ⟨k0, k1, k2, k3, k4, k5, k6, k7, k8, k9, k10, k11, k12, k13, k14⟩ := qC15 hB.out
   go_wp2_with fail
   refine (H3.out _ (sty_in hB.out)).mono ?_
   rintro e W3 ⟨rfl, hb⟩
   replace hv := bl_trans hv hb
   replace hB := qH (hB.out.below hb)
   clear hb
   clear k0 k1 k2 k3 k4 k5 k6 k7 k8 k9 k10 k11 k12 k13 k14
   obtain ⟨k0, k1, k2, k3, k4, k5, k6, k7, k8, k9, k10, k11, k12, k13, k14⟩ := qC15 hB.out
   go_wp2_with fail
   go_returns
   exact Ret.mk (vb (by rw [HP.out]; rfl)) hv
 by_cases hk : K = 0
 · subst hk
   go_wp2_with fail
   refine (H1.out _).mono ?_
   rintro e W1 ⟨rfl, hb⟩
   replace hv := bl_trans hv hb
   replace hB := qH (hB.out.below hb)
   clear hb
   clear k0 k1 k2 k3 k4 k5 k6 k7 k8 k9 k10 k11 k12 k13 k14
   obtain ⟨k0, k1, k2, k3, k4, k5, k6, k7, k8, k9, k10, k11, k12, k13, k14⟩ := qC15 hB.out
   go_wp2_with fail
   refine (H2.out _ (HA.out.below hv)).mono ?_
   rintro e W2 ⟨rfl, hb⟩
   replace hv := bl_trans hv hb
   replace hB := qH (hB.out.below hb)
   clear hb
   clear k0 k1 k2 k3 k4 k5 k6 k7 k8 k9 k10 k11 k12 k13 k14
   obtain ⟨k0, k1, k2, k3, k4, k5, k6, k7, k8, k9, k10, k11, k12, k13, k14⟩ := qC15 hB.out
   go_wp2_with fail
   refine (H3.out _ (sty_in hB.out)).mono ?_
   rintro e W3 ⟨rfl, hb⟩
   replace hv := bl_trans hv hb
   replace hB := qH (hB.out.below hb)
   clear hb
   clear k0 k1 k2 k3 k4 k5 k6 k7 k8 k9 k10 k11 k12 k13 k14
   obtain ⟨k0, k1, k2, k3, k4, k5, k6, k7, k8, k9, k10, k11, k12, k13, k14⟩ := qC15 hB.out
   go_wp2_with fail
   go_returns
   exact Ret.mk (vb (by rw [HP.out]; rfl)) hv
 · have hk2 : (K == 0) = false := by rw [beq_eq_false_iff_ne]; exact hk
   have hk3 : decide (K = 0) = false := decide_eq_false hk
   go_wp2_with fail
   refine (H1.out _).mono ?_
   rintro e W1 ⟨rfl, hb⟩
   replace hv := bl_trans hv hb
   replace hB := qH (hB.out.below hb)
   clear hb
   clear k0 k1 k2 k3 k4 k5 k6 k7 k8 k9 k10 k11 k12 k13 k14
   obtain ⟨k0, k1, k2, k3, k4, k5, k6, k7, k8, k9, k10, k11, k12, k13, k14⟩ := qC15 hB.out
   go_wp2_with fail
   refine (H2.out _ (HA.out.below hv)).mono ?_
   rintro e W2 ⟨rfl, hb⟩
   replace hv := bl_trans hv hb
   replace hB := qH (hB.out.below hb)
   clear hb
   clear k0 k1 k2 k3 k4 k5 k6 k7 k8 k9 k10 k11 k12 k13 k14
   obtain ⟨k0, k1, k2, k3, k4, k5, k6, k7, k8, k9, k10, k11, k12, k13, k14⟩ := qC15 hB.out
   go_wp2_with fail
   refine (H3.out _ (sty_in hB.out)).mono ?_
   rintro e W3 ⟨rfl, hb⟩
   replace hv := bl_trans hv hb
   replace hB := qH (hB.out.below hb)
   clear hb
   clear k0 k1 k2 k3 k4 k5 k6 k7 k8 k9 k10 k11 k12 k13 k14
   obtain ⟨k0, k1, k2, k3, k4, k5, k6, k7, k8, k9, k10, k11, k12, k13, k14⟩ := qC15 hB.out
   go_wp2_with fail
   go_returns
   exact Ret.mk (vb (by rw [HP.out, hk3]; rfl)) hv
set_option maxHeartbeats 2000000 in
theorem SValidDesk_c (f : Foot) (s : Style) (lg : ByteArray) (A : Option Addr) (xs : List Last) (n c : Nat) (hn : Hid (xs.length = n)) (hm : (n : Int) ≤ 1048576) (hs : Hid (∀ x ∈ xs, x.name.size ≤ 9223372036854775807)) (hx : Hid s.fits) (hl : lg.size ≤ 1048576) (w : World) (hA : Arr w A (flat Last.cells xs)) : Calls Tryz.prog 10 #[Value.agg #[.int .i64 f.length, .int .i64 f.ball, .int .i64 f.instep, .int .i64 f.heel, .slice A n c, .string s.upper, .string s.color, .string s.lining, .string s.sole, .int .i64 s.thick, .int .i64 s.heel, .int .i64 s.eyelets, .int .i64 s.density, .bool s.double, .string lg]] w (Ret (.bool (deskB f xs s lg)) w) := by
 obtain ⟨W, hW⟩ : ∃ W, W = w.alloc (Obj.cells #[.int .i64 f.length, .int .i64 f.ball, .int .i64 f.instep, .int .i64 f.heel, .slice A n c, .string s.upper, .string s.color, .string s.lining, .string s.sole, .int .i64 s.thick, .int .i64 s.heel, .int .i64 s.eyelets, .int .i64 s.density, .bool s.double, .string lg] 32) := ⟨_, rfl⟩
 obtain ⟨g, hg⟩ : ∃ g, g = w.heap.size := ⟨_, rfl⟩
 have hv : Below w.heap.size w W := by rw [hW]; exact bl_alloc (Below.refl _ _) _
 have HC := qH (l28Ok_c f s lg A xs n c hn hm hs hx hl g W (by rw [hW, hg]; exact Blk.new _ _ _) (hA.below hv))
 have HW := qH hW
 have HG := qH hg
 clear hW hg hA
 go_enter Tryz.func10, Tryz.ntmps10
 go_wp2_with fail
 rw [← HW.out, ← HG.out]
 refine HC.out.mono ?_
 rintro e W1 ⟨rfl, hb⟩
 go_wp2_with fail
 go_returns
 exact Ret.mk rfl (bl_trans hv hb)
end Go.Proofs.YtpiehlfffjhoaaaGreatDoor
