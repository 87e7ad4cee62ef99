/- Styles: the reference's six texts. builds (26 s). -/
import Derived.Test.YtpiehlfffjhoaaaGreatDoorQ0
import Derived.Test.YtpiehlfffjhoaaaGreatDoorQ14
import Derived.Test.YtpiehlfffjhoaaaGreatDoorQ15
import Derived.Laws.Concat
import Derived.Deep.DeepCutAuto
namespace Go.Proofs.YtpiehlfffjhoaaaGreatDoor
open Go.RowKit
theorem itoa_len21 {v : Int} (h0 : -9223372036854775808 ≤ v) (h1 : v ≤ 9223372036854775807) : (Lib.itoa v).length ≤ 21 := by
 unfold Lib.itoa
 split
 · have := dec_lenS 19 v.natAbs (by omega)
   simp only [List.length_cons]; omega
 · have := dec_lenS 19 v.toNat (by omega)
   omega
theorem dec21 {v : Int} (h0 : -9223372036854775808 ≤ v) (h1 : v ≤ 9223372036854775807) : (decI v).size ≤ 21 := by
 rw [← bytes_len]
 simpa [decI] using itoa_len21 h0 h1
def Style.fits (x : Style) : Prop := (x.upper.size ≤ 1048576 ∧ x.color.size ≤ 1048576 ∧ x.lining.size ≤ 1048576 ∧ x.sole.size ≤ 1048576) ∧ (-9223372036854775808 ≤ x.thick ∧ x.thick ≤ 9223372036854775807) ∧ (-9223372036854775808 ≤ x.heel ∧ x.heel ≤ 9223372036854775807) ∧ (-9223372036854775808 ≤ x.eyelets ∧ x.eyelets ≤ 9223372036854775807) ∧ (-9223372036854775808 ≤ x.density ∧ x.density ≤ 9223372036854775807)
def StyC (w : World) (g o : Nat) (C : Array Value) : Prop := g < w.heap.size ∧ ∀ i v, C[i]? = some v → w.cell? ⟨g, o + i, none⟩ = some v
theorem StyC.of {w : World} {g : Nat} {t : TypeId} {C : Array Value} (h : Blk w g t C) : StyC w g 0 C := ⟨h.lt, fun i v e => by rw [Nat.zero_add, h.cell i]; exact e⟩
theorem StyC.below {w w' : World} {g o : Nat} {C : Array Value} (h : StyC w g o C) (hb : Below w.heap.size w w') : StyC w' g o C := ⟨Nat.lt_of_lt_of_le h.1 hb.size, fun i v e => (hb.cell h.1).trans (h.2 i v e)⟩
theorem StyC.cell {w : World} {g o : Nat} {C : Array Value} (h : StyC w g o C) (i : Nat) {v : Value} (e : C[i]? = some v) : w.cell? ⟨g, o + i, none⟩ = some v := h.2 i v e
def OutTx (x : Style) (w : World) (e : Ending) (w' : World) : Prop := ∃ g, e = .returned (.slice (some ⟨g, 0, none⟩) 6 6) ∧ w.heap.size ≤ g ∧ Blk w' g 9 ((txts x).map Value.string).toArray ∧ Below w.heap.size w w'
set_option maxRecDepth 100000 in
set_option maxHeartbeats 8000000 in
theorem l24Texts_o (x : Style) (hx : Hid x.fits) (g o : Nat) (w : World) (hB : StyC w g o #[Value.string x.upper, Value.string x.color, Value.string x.lining, Value.string x.sole, Value.int .i64 x.thick, Value.int .i64 x.heel, Value.int .i64 x.eyelets, Value.int .i64 x.density, Value.bool x.double]) : Calls Tryz.prog 150 #[.pointer (some ⟨g, o, none⟩)] w (OutTx x w) := by
 obtain ⟨⟨z0, z1, z2, z3⟩, i4, i5, i6, i7⟩ := hx.out
 obtain ⟨d4, e4⟩ : ∃ z, z = decI x.thick := ⟨_, rfl⟩
 obtain ⟨d5, e5⟩ : ∃ z, z = decI x.heel := ⟨_, rfl⟩
 obtain ⟨d6, e6⟩ : ∃ z, z = decI x.eyelets := ⟨_, rfl⟩
 obtain ⟨d7, e7⟩ : ∃ z, z = decI x.density := ⟨_, rfl⟩
 have y4 : d4.size ≤ 21 := by rw [e4]; exact dec21 i4.1 i4.2
 have y5 : d5.size ≤ 21 := by rw [e5]; exact dec21 i5.1 i5.2
 have y6 : d6.size ≤ 21 := by rw [e6]; exact dec21 i6.1 i6.2
 have y7 : d7.size ≤ 21 := by rw [e7]; exact dec21 i7.1 i7.2
 have D4 := fun w => l01DecI_c x.thick i4.1 i4.2 w
 have D5 := fun w => l01DecI_c x.heel i5.1 i5.2 w
 have D6 := fun w => l01DecI_c x.eyelets i6.1 i6.2 w
 have D7 := fun w => l01DecI_c x.density i7.1 i7.2 w
 rw [← e4] at D4
 rw [← e5] at D5
 rw [← e6] at D6
 rw [← e7] at D7
 replace D4 := qH D4
 replace D5 := qH D5
 replace D6 := qH D6
 replace D7 := qH D7
 have l0 : (⟨#[117, 112, 112, 101, 114, 32]⟩ : ByteArray).size = 6 := rfl
 have l1 : (⟨#[32]⟩ : ByteArray).size = 1 := rfl
 have l2 : (⟨#[115, 111, 108, 101, 32]⟩ : ByteArray).size = 5 := rfl
 have l3 : (⟨#[108, 105, 110, 105, 110, 103, 32]⟩ : ByteArray).size = 7 := rfl
 have l4 : (⟨#[104, 101, 101, 108, 32]⟩ : ByteArray).size = 5 := rfl
 have l5 : (⟨#[101, 121, 101, 108, 101, 116, 115, 32]⟩ : ByteArray).size = 8 := rfl
 have l6 : (⟨#[115, 116, 105, 116, 99, 104, 32]⟩ : ByteArray).size = 7 := rfl
 have l7 : (⟨#[32, 100, 111, 117, 98, 108, 101]⟩ : ByteArray).size = 7 := rfl
 have a0 := fun (w : World) => run_string_add_sum (P := Tryz.prog) w (⟨#[117, 112, 112, 101, 114, 32]⟩ : ByteArray) x.upper (by omega)
 have a1 := fun (w : World) => run_string_add_sum (P := Tryz.prog) w ((⟨#[117, 112, 112, 101, 114, 32]⟩ : ByteArray) ++ x.upper) (⟨#[32]⟩ : ByteArray) (by simp only [app_size]; omega)
 have a2 := fun (w : World) => run_string_add_sum (P := Tryz.prog) w (((⟨#[117, 112, 112, 101, 114, 32]⟩ : ByteArray) ++ x.upper) ++ (⟨#[32]⟩ : ByteArray)) x.color (by simp only [app_size]; omega)
 have b0 := fun (w : World) => run_string_add_sum (P := Tryz.prog) w (⟨#[115, 111, 108, 101, 32]⟩ : ByteArray) x.sole (by omega)
 have b1 := fun (w : World) => run_string_add_sum (P := Tryz.prog) w ((⟨#[115, 111, 108, 101, 32]⟩ : ByteArray) ++ x.sole) (⟨#[32]⟩ : ByteArray) (by simp only [app_size]; omega)
 have b2 := fun (w : World) => run_string_add_sum (P := Tryz.prog) w (((⟨#[115, 111, 108, 101, 32]⟩ : ByteArray) ++ x.sole) ++ (⟨#[32]⟩ : ByteArray)) d4 (by simp only [app_size]; omega)
 have c2 := fun (w : World) => run_string_add_sum (P := Tryz.prog) w (⟨#[108, 105, 110, 105, 110, 103, 32]⟩ : ByteArray) x.lining (by omega)
 have c3 := fun (w : World) => run_string_add_sum (P := Tryz.prog) w (⟨#[104, 101, 101, 108, 32]⟩ : ByteArray) d5 (by omega)
 have c4 := fun (w : World) => run_string_add_sum (P := Tryz.prog) w (⟨#[101, 121, 101, 108, 101, 116, 115, 32]⟩ : ByteArray) d6 (by omega)
 have c5 := fun (w : World) => run_string_add_sum (P := Tryz.prog) w (⟨#[115, 116, 105, 116, 99, 104, 32]⟩ : ByteArray) d7 (by omega)
 obtain ⟨T0, t0⟩ : ∃ z, z = (((⟨#[117, 112, 112, 101, 114, 32]⟩ : ByteArray) ++ x.upper) ++ (⟨#[32]⟩ : ByteArray)) ++ x.color := ⟨_, rfl⟩
 obtain ⟨T2, t2⟩ : ∃ z, z = (((⟨#[115, 111, 108, 101, 32]⟩ : ByteArray) ++ x.sole) ++ (⟨#[32]⟩ : ByteArray)) ++ d4 := ⟨_, rfl⟩
 rw [← t0] at a2
 rw [← t2] at b2
 obtain ⟨T1, t1⟩ : ∃ z, z = txt1 x := ⟨_, rfl⟩
 obtain ⟨T3, t3⟩ : ∃ z, z = txt3 x := ⟨_, rfl⟩
 obtain ⟨T4, t4⟩ : ∃ z, z = txt4 x := ⟨_, rfl⟩
 obtain ⟨T5a, t5⟩ : ∃ z, z = txt5a x := ⟨_, rfl⟩
 obtain ⟨T5, t6⟩ : ∃ z, z = txt5 x := ⟨_, rfl⟩
 have hz5 : T5a.size ≤ 100 := by
   rw [t5]; unfold txt5a; split
   · exact Nat.zero_le _
   · rw [← e7, app_size]; omega
 have c6 := fun (w : World) => run_string_add_sum (P := Tryz.prog) w T5a (⟨#[32, 100, 111, 117, 98, 108, 101]⟩ : ByteArray) (by omega)
 have HTX : Hid (txts x = [T0, T1, T2, T3, T4, T5]) := qH (by rw [t0, t1, t2, t3, t4, t6, e4]; rfl)
 have H1 : Hid (T1 = if x.lining.size = 0 then ⟨#[]⟩ else (⟨#[108, 105, 110, 105, 110, 103, 32]⟩ : ByteArray) ++ x.lining) := qH t1
 have H3 : Hid (T3 = if x.heel = 0 then ⟨#[]⟩ else (⟨#[104, 101, 101, 108, 32]⟩ : ByteArray) ++ d5) := qH (by rw [t3, e5]; rfl)
 have H4 : Hid (T4 = if x.eyelets = 0 then ⟨#[]⟩ else (⟨#[101, 121, 101, 108, 101, 116, 115, 32]⟩ : ByteArray) ++ d6) := qH (by rw [t4, e6]; rfl)
 have H5 : Hid (T5a = if x.density = 0 ∧ x.double = false then ⟨#[]⟩ else (⟨#[115, 116, 105, 116, 99, 104, 32]⟩ : ByteArray) ++ d7) := qH (by rw [t5, e7]; rfl)
 have H6 : Hid (T5 = if x.double = true then T5a ++ (⟨#[32, 100, 111, 117, 98, 108, 101]⟩ : ByteArray) else T5a) := qH (by rw [t6, t5]; rfl)
 clear t0 t1 t2 t3 t4 t5 t6 e4 e5 e6 e7 y4 y5 y6 y7 z0 z1 z2 z3 i4 i5 i6 i7 hz5 l0 l1 l2 l3 l4 l5 l6 l7 hx
 have HE := qH (empty_beq x.lining)
 have hv := Below.refl w.heap.size w
 have HX := qH hB
 have hgl := hB.1
 have k0 : w.cell? ⟨g, o, none⟩ = some (.string x.upper) := hB.cell 0 rfl
 have k1 : w.cell? ⟨g, o + 1, none⟩ = some (.string x.color) := hB.cell 1 rfl
 have k2 : w.cell? ⟨g, o + 2, none⟩ = some (.string x.lining) := hB.cell 2 rfl
 have k3 : w.cell? ⟨g, o + 3, none⟩ = some (.string x.sole) := hB.cell 3 rfl
 have k4 : w.cell? ⟨g, o + 4, none⟩ = some (.int .i64 x.thick) := hB.cell 4 rfl
 have k5 : w.cell? ⟨g, o + 5, none⟩ = some (.int .i64 x.heel) := hB.cell 5 rfl
 have k6 : w.cell? ⟨g, o + 6, none⟩ = some (.int .i64 x.eyelets) := hB.cell 6 rfl
 have k7 : w.cell? ⟨g, o + 7, none⟩ = some (.int .i64 x.density) := hB.cell 7 rfl
 have k8 : w.cell? ⟨g, o + 8, none⟩ = some (.bool x.double) := hB.cell 8 rfl
 clear hB
 go_enter Tryz.func150, Tryz.ntmps150
 go_upto_region 1 with fail
 refine wp_region_held_drew (S := fun w' => Below w.heap.size w w' ∧ True) (by as_aux_lemma => kernel_rfl) ?_ (fun hHeld => ?_)
 · exact ⟨(Below.refl _ _).drew, trivial⟩
 obtain ⟨Wd, hWd⟩ : ∃ z, z = w.drew := ⟨_, rfl⟩
 rw [← hWd] at hHeld ⊢
 replace hv := hHeld.1
 clear hWd
 refine zU 0 4 rfl (by assumption) ?_
 try simp only [Act.put, zA, zB, zC]
 refine zU 1 5 rfl (by assumption) ?_
 try simp only [Act.put, zA, zB, zC]
 refine zU 2 6 rfl (by assumption) ?_
 try simp only [Act.put, zA, zB, zC]
 refine zT 3 7 ?_ rfl ?_ (by assumption) ?_
 rotate_left
 · intro w hSw
   try dsimp only at hSw
   have x_k0 := bl_cell hSw.1 k0
   go_simp
   try with_reducible rfl
 try simp only [Act.put, zA, zB, zC]
 refine zU 4 8 rfl (by assumption) ?_
 try simp only [Act.put, zA, zB, zC]
 refine zU 5 9 rfl (by assumption) ?_
 try simp only [Act.put, zA, zB, zC]
 refine zU 6 10 rfl (by assumption) ?_
 try simp only [Act.put, zA, zB, zC]
 refine zU 7 11 rfl (by assumption) ?_
 try simp only [Act.put, zA, zB, zC]
 refine zU 8 12 rfl (by assumption) ?_
 try simp only [Act.put, zA, zB, zC]
 refine zT 9 13 ?_ rfl ?_ (by assumption) ?_
 rotate_left
 · intro w hSw
   try dsimp only at hSw
   have x_k1 := bl_cell hSw.1 k1
   go_simp
   try with_reducible rfl
 try simp only [Act.put, zA, zB, zC]
 refine zU 10 14 rfl (by assumption) ?_
 try simp only [Act.put, zA, zB, zC]
 refine zU 11 15 rfl (by assumption) ?_
 try simp only [Act.put, zA, zB, zC]
 refine zU 12 16 rfl (by assumption) ?_
 try simp only [Act.put, zA, zB, zC]
 refine zU 13 17 rfl (by assumption) ?_
 try simp only [Act.put, zA, zB, zC]
 refine zT 14 18 ?_ rfl ?_ (by assumption) ?_
 rotate_left
 · intro w hSw
   try dsimp only at hSw
   have x_k3 := bl_cell hSw.1 k3
   go_simp
   try with_reducible rfl
 try simp only [Act.put, zA, zB, zC]
 refine zU 15 19 rfl (by assumption) ?_
 try simp only [Act.put, zA, zB, zC]
 refine zU 16 20 rfl (by assumption) ?_
 try simp only [Act.put, zA, zB, zC]
 refine zU 17 21 rfl (by assumption) ?_
 try simp only [Act.put, zA, zB, zC]
 refine zU 18 22 rfl (by assumption) ?_
 try simp only [Act.put, zA, zB, zC]
 refine zU 19 23 rfl (by assumption) ?_
 try simp only [Act.put, zA, zB, zC]
 refine zT 20 24 ?_ rfl ?_ (by assumption) ?_
 rotate_left
 · intro w hSw
   try dsimp only at hSw
   have x_k4 := bl_cell hSw.1 k4
   go_simp
   try with_reducible rfl
 try simp only [Act.put, zA, zB, zC]
 refine zR 21 (some 25) rfl (fun K hK => ?_)
 go_simp
 (try dsimp only at hHeld); go_split_ands
 refine (D4.out _).mono ?_
 rintro e W1 ⟨rfl, hb9⟩
 replace hv := bl_trans hv hb9
 go_wp2_with fail
 refine hK.out _ _ ?_ (fun hHeld => ?_)
 · (try dsimp only); go_split_ands; exact ⟨bl_trans (by assumption) hb9, trivial⟩
 clear hK K
 try simp only [Act.put, zA, zB, zC]
 refine zU 22 26 rfl (by assumption) ?_
 try simp only [Act.put, zA, zB, zC]
 refine zR 23 (some 27) rfl (fun K hK => ?_)
 go_simp
 obtain ⟨W2, hW2⟩ : ∃ z, z = World.alloc W1 (Obj.cells #[.string T0, .string ⟨#[]⟩, .string T2, .string ⟨#[]⟩, .string ⟨#[]⟩, .string ⟨#[]⟩] 9) := ⟨_, rfl⟩
 obtain ⟨gl, hgl2⟩ : ∃ z, z = W1.heap.size := ⟨_, rfl⟩
 have HL : Hid (Blk W2 gl 9 #[.string T0, .string ⟨#[]⟩, .string T2, .string ⟨#[]⟩, .string ⟨#[]⟩, .string ⟨#[]⟩]) := qH (by rw [hW2, hgl2]; exact Blk.new _ _ _)
 have hb9 : Below W1.heap.size W1 W2 := by rw [hW2]; exact bl_alloc (Below.refl _ _) _
 have hge : w.heap.size ≤ gl := by rw [hgl2]; exact hv.size
 replace hv := bl_trans hv hb9
 rw [← hW2, ← hgl2]
 clear hW2 hgl2 hb9 hHeld
 refine hK.out _ _ ⟨hv, trivial⟩ (fun hHeld => ?_)
 clear hK K
 try simp only [Act.put, zA, zB, zC]
 refine zU 24 3 rfl (by assumption) ?_
 try simp only [Act.put, zA, zB, zC]
 refine wpAnyH_done (by as_aux_lemma => kernel_rfl) ?_ _
 clear hHeld a0 a1 a2 b0 b1 b2 D4
 have HXW := HX.out.below hv
 replace k0 : W2.cell? ⟨g, o, none⟩ = some (.string x.upper) := HXW.cell 0 rfl
 replace k1 : W2.cell? ⟨g, o + 1, none⟩ = some (.string x.color) := HXW.cell 1 rfl
 replace k2 : W2.cell? ⟨g, o + 2, none⟩ = some (.string x.lining) := HXW.cell 2 rfl
 replace k3 : W2.cell? ⟨g, o + 3, none⟩ = some (.string x.sole) := HXW.cell 3 rfl
 replace k4 : W2.cell? ⟨g, o + 4, none⟩ = some (.int .i64 x.thick) := HXW.cell 4 rfl
 replace k5 : W2.cell? ⟨g, o + 5, none⟩ = some (.int .i64 x.heel) := HXW.cell 5 rfl
 replace k6 : W2.cell? ⟨g, o + 6, none⟩ = some (.int .i64 x.eyelets) := HXW.cell 6 rfl
 replace k7 : W2.cell? ⟨g, o + 7, none⟩ = some (.int .i64 x.density) := HXW.cell 7 rfl
 replace k8 : W2.cell? ⟨g, o + 8, none⟩ = some (.bool x.double) := HXW.cell 8 rfl
 clear HXW
 go_upto_if 32 with fail
 go_cut [] (fun wx => Hid (Blk wx gl 9 #[.string T0, .string T1, .string T2, .string ⟨#[]⟩, .string ⟨#[]⟩, .string ⟨#[]⟩]) ∧ Below w.heap.size w wx)
 case first =>
  as_aux_lemma =>
   have hE := HE.out
   clear HE
   by_cases h0 : x.lining.size = 0
   · rw [decide_eq_true h0] at hE
     have ht := H1.out
     rw [if_pos h0] at ht
     clear h0
     rw [hE, Bool.not_true]
     go_wp2_with fail
     go_meet
     exact ⟨by rw [ht]; exact HL, hv⟩
   · rw [decide_eq_false h0] at hE
     have ht := H1.out
     rw [if_neg h0] at ht
     have HT := qH ht
     clear h0 ht
     rw [hE, Bool.not_false]
     have jj : W2.cell? ⟨gl, 1, none⟩ = some (.string ⟨#[]⟩) := HL.out.cell 1
     have ff := HL.out.frozen 1
     go_wp2_with fail
     go_meet
     exact ⟨by rw [HT.out]; exact qH (HL.out.set_ 1 (.string ((⟨#[108, 105, 110, 105, 110, 103, 32]⟩ : ByteArray) ++ x.lining))), bl_set hv (p := ⟨gl, 1, none⟩) hge _⟩
 case rest =>
 as_aux_lemma =>
 obtain ⟨HL2, hv2⟩ := hcut
 replace HL := HL2
 replace hv := hv2
 clear HL2 hv2 c2 H1 HE
 rename World => W3
 have HXW := HX.out.below hv
 replace k0 : W3.cell? ⟨g, o, none⟩ = some (.string x.upper) := HXW.cell 0 rfl
 replace k1 : W3.cell? ⟨g, o + 1, none⟩ = some (.string x.color) := HXW.cell 1 rfl
 replace k2 : W3.cell? ⟨g, o + 2, none⟩ = some (.string x.lining) := HXW.cell 2 rfl
 replace k3 : W3.cell? ⟨g, o + 3, none⟩ = some (.string x.sole) := HXW.cell 3 rfl
 replace k4 : W3.cell? ⟨g, o + 4, none⟩ = some (.int .i64 x.thick) := HXW.cell 4 rfl
 replace k5 : W3.cell? ⟨g, o + 5, none⟩ = some (.int .i64 x.heel) := HXW.cell 5 rfl
 replace k6 : W3.cell? ⟨g, o + 6, none⟩ = some (.int .i64 x.eyelets) := HXW.cell 6 rfl
 replace k7 : W3.cell? ⟨g, o + 7, none⟩ = some (.int .i64 x.density) := HXW.cell 7 rfl
 replace k8 : W3.cell? ⟨g, o + 8, none⟩ = some (.bool x.double) := HXW.cell 8 rfl
 clear HXW
 go_upto_if 44 with fail
 go_cut [] (fun wx => Hid (Blk wx gl 9 #[.string T0, .string T1, .string T2, .string T3, .string ⟨#[]⟩, .string ⟨#[]⟩]) ∧ Below w.heap.size w wx)
 case first =>
  as_aux_lemma =>
   by_cases h0 : x.heel = 0
   · have hq : (x.heel != 0) = false := by rw [h0]; rfl
     have ht := H3.out
     rw [if_pos h0] at ht
     clear h0
     go_wp2_with fail
     go_meet
     exact ⟨by rw [ht]; exact HL, hv⟩
   · have hq : (x.heel != 0) = true := by rw [bne_iff_ne]; exact h0
     have ht := H3.out
     rw [if_neg h0] at ht
     have HT := qH ht
     clear h0 ht
     go_wp2_with fail
     refine (D5.out _).mono ?_
     rintro e V ⟨rfl, hb9⟩
     replace hv := bl_trans hv hb9
     replace HL := qH (HL.out.below hb9)
     clear hb9
     have jj : V.cell? ⟨gl, 3, none⟩ = some (.string ⟨#[]⟩) := HL.out.cell 3
     have ff := HL.out.frozen 3
     go_wp2_with fail
     go_meet
     exact ⟨by rw [HT.out]; exact qH (HL.out.set_ 3 (.string ((⟨#[104, 101, 101, 108, 32]⟩ : ByteArray) ++ d5))), bl_set hv (p := ⟨gl, 3, none⟩) hge _⟩
 case rest =>
 as_aux_lemma =>
 obtain ⟨HL2, hv2⟩ := hcut
 replace HL := HL2
 replace hv := hv2
 clear HL2 hv2 c3 H3 D5
 rename World => W4
 have HXW := HX.out.below hv
 replace k0 : W4.cell? ⟨g, o, none⟩ = some (.string x.upper) := HXW.cell 0 rfl
 replace k1 : W4.cell? ⟨g, o + 1, none⟩ = some (.string x.color) := HXW.cell 1 rfl
 replace k2 : W4.cell? ⟨g, o + 2, none⟩ = some (.string x.lining) := HXW.cell 2 rfl
 replace k3 : W4.cell? ⟨g, o + 3, none⟩ = some (.string x.sole) := HXW.cell 3 rfl
 replace k4 : W4.cell? ⟨g, o + 4, none⟩ = some (.int .i64 x.thick) := HXW.cell 4 rfl
 replace k5 : W4.cell? ⟨g, o + 5, none⟩ = some (.int .i64 x.heel) := HXW.cell 5 rfl
 replace k6 : W4.cell? ⟨g, o + 6, none⟩ = some (.int .i64 x.eyelets) := HXW.cell 6 rfl
 replace k7 : W4.cell? ⟨g, o + 7, none⟩ = some (.int .i64 x.density) := HXW.cell 7 rfl
 replace k8 : W4.cell? ⟨g, o + 8, none⟩ = some (.bool x.double) := HXW.cell 8 rfl
 clear HXW
 go_upto_if 57 with fail
 go_cut [] (fun wx => Hid (Blk wx gl 9 #[.string T0, .string T1, .string T2, .string T3, .string T4, .string ⟨#[]⟩]) ∧ Below w.heap.size w wx)
 case first =>
  as_aux_lemma =>
   by_cases h0 : x.eyelets = 0
   · have hq : (x.eyelets != 0) = false := by rw [h0]; rfl
     have ht := H4.out
     rw [if_pos h0] at ht
     clear h0
     go_wp2_with fail
     go_meet
     exact ⟨by rw [ht]; exact HL, hv⟩
   · have hq : (x.eyelets != 0) = true := by rw [bne_iff_ne]; exact h0
     have ht := H4.out
     rw [if_neg h0] at ht
     have HT := qH ht
     clear h0 ht
     go_wp2_with fail
     refine (D6.out _).mono ?_
     rintro e V ⟨rfl, hb9⟩
     replace hv := bl_trans hv hb9
     replace HL := qH (HL.out.below hb9)
     clear hb9
     have jj : V.cell? ⟨gl, 4, none⟩ = some (.string ⟨#[]⟩) := HL.out.cell 4
     have ff := HL.out.frozen 4
     go_wp2_with fail
     go_meet
     exact ⟨by rw [HT.out]; exact qH (HL.out.set_ 4 (.string ((⟨#[101, 121, 101, 108, 101, 116, 115, 32]⟩ : ByteArray) ++ d6))), bl_set hv (p := ⟨gl, 4, none⟩) hge _⟩
 case rest =>
 as_aux_lemma =>
 obtain ⟨HL2, hv2⟩ := hcut
 replace HL := HL2
 replace hv := hv2
 clear HL2 hv2 c4 H4 D6
 rename World => W5
 have HXW := HX.out.below hv
 replace k0 : W5.cell? ⟨g, o, none⟩ = some (.string x.upper) := HXW.cell 0 rfl
 replace k1 : W5.cell? ⟨g, o + 1, none⟩ = some (.string x.color) := HXW.cell 1 rfl
 replace k2 : W5.cell? ⟨g, o + 2, none⟩ = some (.string x.lining) := HXW.cell 2 rfl
 replace k3 : W5.cell? ⟨g, o + 3, none⟩ = some (.string x.sole) := HXW.cell 3 rfl
 replace k4 : W5.cell? ⟨g, o + 4, none⟩ = some (.int .i64 x.thick) := HXW.cell 4 rfl
 replace k5 : W5.cell? ⟨g, o + 5, none⟩ = some (.int .i64 x.heel) := HXW.cell 5 rfl
 replace k6 : W5.cell? ⟨g, o + 6, none⟩ = some (.int .i64 x.eyelets) := HXW.cell 6 rfl
 replace k7 : W5.cell? ⟨g, o + 7, none⟩ = some (.int .i64 x.density) := HXW.cell 7 rfl
 replace k8 : W5.cell? ⟨g, o + 8, none⟩ = some (.bool x.double) := HXW.cell 8 rfl
 clear HXW
 obtain ⟨bb, hbb⟩ : ∃ z, z = (!decide (x.density = 0) || x.double) := ⟨_, rfl⟩
 have HBB := qH hbb
 clear hbb
 go_upto_region 8 with fail
 go_cut [76] (fun s wx => s = .bool bb ∧ Hid (Blk wx gl 9 #[.string T0, .string T1, .string T2, .string T3, .string T4, .string ⟨#[]⟩]) ∧ Below w.heap.size w wx)
 case first =>
  as_aux_lemma =>
   by_cases h0 : x.density = 0
   · have hq : (x.density != 0) = false := by rw [h0]; rfl
     have hb := HBB.out
     rw [decide_eq_true h0, Bool.not_true, Bool.false_or] at hb
     rw [← hb] at k8
     clear h0 hb HBB
     go_wp2_with fail
     go_meet
     exact ⟨rfl, HL, hv⟩
   · have hq : (x.density != 0) = true := by rw [bne_iff_ne]; exact h0
     have hb := HBB.out
     rw [decide_eq_false h0, Bool.not_false, Bool.true_or] at hb
     subst hb
     clear h0 HBB
     go_wp2_with fail
     go_meet
     exact ⟨rfl, HL, hv⟩
 case rest =>
 as_aux_lemma =>
 obtain ⟨rfl, HL2, hv2⟩ := hcut
 replace HL := HL2
 replace hv := hv2
 clear HL2 hv2
 rename World => W55
 have HXW := HX.out.below hv
 replace k0 : W55.cell? ⟨g, o, none⟩ = some (.string x.upper) := HXW.cell 0 rfl
 replace k1 : W55.cell? ⟨g, o + 1, none⟩ = some (.string x.color) := HXW.cell 1 rfl
 replace k2 : W55.cell? ⟨g, o + 2, none⟩ = some (.string x.lining) := HXW.cell 2 rfl
 replace k3 : W55.cell? ⟨g, o + 3, none⟩ = some (.string x.sole) := HXW.cell 3 rfl
 replace k4 : W55.cell? ⟨g, o + 4, none⟩ = some (.int .i64 x.thick) := HXW.cell 4 rfl
 replace k5 : W55.cell? ⟨g, o + 5, none⟩ = some (.int .i64 x.heel) := HXW.cell 5 rfl
 replace k6 : W55.cell? ⟨g, o + 6, none⟩ = some (.int .i64 x.eyelets) := HXW.cell 6 rfl
 replace k7 : W55.cell? ⟨g, o + 7, none⟩ = some (.int .i64 x.density) := HXW.cell 7 rfl
 replace k8 : W55.cell? ⟨g, o + 8, none⟩ = some (.bool x.double) := HXW.cell 8 rfl
 clear HXW
 go_upto_if 76 with fail
 go_cut [] (fun wx => Hid (Blk wx gl 9 #[.string T0, .string T1, .string T2, .string T3, .string T4, .string T5a]) ∧ Below w.heap.size w wx)
 case first =>
  as_aux_lemma =>
   cases bb
   · have hb := HBB.out
     have hc : x.density = 0 ∧ x.double = false := by
       rw [eq_comm, Bool.or_eq_false_iff, Bool.not_eq_false', decide_eq_true_eq] at hb
       exact hb
     have ht := H5.out
     rw [if_pos hc] at ht
     clear hb hc HBB
     go_wp2_with fail
     go_meet
     exact ⟨by rw [ht]; exact HL, hv⟩
   · have hb := HBB.out
     have hc : ¬ (x.density = 0 ∧ x.double = false) := by
       rintro ⟨h1, h2⟩
       rw [decide_eq_true h1, h2] at hb
       exact absurd hb (by decide)
     have ht := H5.out
     rw [if_neg hc] at ht
     have HT := qH ht
     clear hb hc ht HBB
     go_wp2_with fail
     refine (D7.out _).mono ?_
     rintro e V ⟨rfl, hb9⟩
     replace hv := bl_trans hv hb9
     replace HL := qH (HL.out.below hb9)
     clear hb9
     have jj : V.cell? ⟨gl, 5, none⟩ = some (.string ⟨#[]⟩) := HL.out.cell 5
     have ff := HL.out.frozen 5
     go_wp2_with fail
     go_meet
     exact ⟨by rw [HT.out]; exact qH (HL.out.set_ 5 (.string ((⟨#[115, 116, 105, 116, 99, 104, 32]⟩ : ByteArray) ++ d7))), bl_set hv (p := ⟨gl, 5, none⟩) hge _⟩
 case rest =>
 as_aux_lemma =>
 obtain ⟨HL2, hv2⟩ := hcut
 replace HL := HL2
 replace hv := hv2
 clear HL2 hv2 c5 H5 D7 HBB
 rename World => W6
 have HXW := HX.out.below hv
 replace k0 : W6.cell? ⟨g, o, none⟩ = some (.string x.upper) := HXW.cell 0 rfl
 replace k1 : W6.cell? ⟨g, o + 1, none⟩ = some (.string x.color) := HXW.cell 1 rfl
 replace k2 : W6.cell? ⟨g, o + 2, none⟩ = some (.string x.lining) := HXW.cell 2 rfl
 replace k3 : W6.cell? ⟨g, o + 3, none⟩ = some (.string x.sole) := HXW.cell 3 rfl
 replace k4 : W6.cell? ⟨g, o + 4, none⟩ = some (.int .i64 x.thick) := HXW.cell 4 rfl
 replace k5 : W6.cell? ⟨g, o + 5, none⟩ = some (.int .i64 x.heel) := HXW.cell 5 rfl
 replace k6 : W6.cell? ⟨g, o + 6, none⟩ = some (.int .i64 x.eyelets) := HXW.cell 6 rfl
 replace k7 : W6.cell? ⟨g, o + 7, none⟩ = some (.int .i64 x.density) := HXW.cell 7 rfl
 replace k8 : W6.cell? ⟨g, o + 8, none⟩ = some (.bool x.double) := HXW.cell 8 rfl
 clear HXW
 go_upto_if 88 with fail
 go_cut [] (fun wx => Hid (Blk wx gl 9 #[.string T0, .string T1, .string T2, .string T3, .string T4, .string T5]) ∧ Below w.heap.size w wx)
 case first =>
  as_aux_lemma =>
   cases hd : x.double
   · rw [hd] at k8
     have ht := H6.out
     rw [hd, if_neg (by simp)] at ht
     clear hd
     go_wp2_with fail
     go_meet
     exact ⟨by rw [ht]; exact HL, hv⟩
   · rw [hd] at k8
     have ht := H6.out
     rw [hd, if_pos rfl] at ht
     have HT := qH ht
     clear hd ht
     have j5 : W6.cell? ⟨gl, 5, none⟩ = some (.string T5a) := HL.out.cell 5
     have ff := HL.out.frozen 5
     go_wp2_with fail
     go_meet
     exact ⟨by rw [HT.out]; exact qH (HL.out.set_ 5 (.string (T5a ++ (⟨#[32, 100, 111, 117, 98, 108, 101]⟩ : ByteArray)))), bl_set hv (p := ⟨gl, 5, none⟩) hge _⟩
 case rest =>
 as_aux_lemma =>
 obtain ⟨HL2, hv2⟩ := hcut
 replace HL := HL2
 replace hv := hv2
 clear HL2 hv2 c6 H6
 rename World => W7
 go_wp2_with fail
 go_returns
 exact ⟨gl, rfl, hge, by rw [HTX.out]; exact HL.out, hv⟩
end Go.Proofs.YtpiehlfffjhoaaaGreatDoor
