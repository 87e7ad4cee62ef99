/- The law on the console, walked. -/
import Derived.Test.YtpiehlfffjhoaaaGreatDoorQ0
import Derived.Test.YtpiehlfffjhoaaaGreatDoorQ44
import Derived.Test.YtpiehlfffjhoaaaGreatDoorQ47
namespace Go.Proofs.YtpiehlfffjhoaaaGreatDoor
open Go.RowKit
theorem a2Long_c (C : Option Addr) (n c : Nat) (w : World) : Calls Tryz.prog 6 #[.slice C n c, .slice none 0 0] w (Ret (.bool (decide (3000 < n))) w) := by
 go_enter Tryz.func6, Tryz.ntmps6
 by_cases h : 3000 < n
 · have h1 : (3000 : Int) < (n : Int) := by omega
   go_wp2_with fail
   go_returns
   exact Ret.mk (vb (by simp [h])) (Below.refl _ _)
 · have h1 : ¬ (3000 : Int) < (n : Int) := by omega
   go_wp2_with fail
   go_returns
   exact Ret.mk (vb (by simp)) (Below.refl _ _)
theorem lineB_ok {y : ByteArray} (h : lineB y = true) : y.size ≤ 60 ∧ (10 : UInt8) ∉ y.data.toList := by
 unfold lineB at h
 rw [Bool.and_eq_true, decide_eq_true_eq, Bool.not_eq_true'] at h
 refine ⟨h.1, fun hm => ?_⟩
 have h2 : y.data.toList.contains 10 = true := List.contains_iff_mem.2 hm
 rw [h.2] at h2
 cases h2
theorem runT_lnT {L : List ByteArray} (h : ∀ y ∈ L, lineB y = true) : runT (lnT L) = lnT (runG 60 newDk L) := by
 unfold runT
 rw [dropE_lnT (fun y hy => (lineB_ok (h y hy)).2)]
theorem ask_nl : (⟨#[63, 10]⟩ : ByteArray) = askW ++ ⟨#[10]⟩ := by decide
theorem deskT_ne (f : Foot) (n : Nat) : (deskT f n).toList.isEmpty = false := by
 rw [empty_beq]
 have h : (deskT f n).size = (((footT f ++ ⟨#[32]⟩) ++ decI n) : ByteArray).size + 6 := by
   unfold deskT
   rw [app_size]; rfl
 exact decide_eq_false (by omega)
set_option maxRecDepth 100000 in
set_option maxHeartbeats 16000000 in
theorem FnConsole_law (C : Option Addr) (nn cc : Nat) (cs : List UInt8) (hnn : Hid (cs.length = nn)) (w : World) (hA : Arr w C (cs.map bvS)) (hlt : ∀ ad, C = some ad → ad.block < w.heap.size) (hT : Tabs w) (hC : ChgN w) (hE : CdN w) :
   Calls Tryz.prog 3 #[.slice C nn cc] w (Ret (.bool true) w) := by
 have HA0 := qH hA
 have HL0 := qH hlt
 have HT := qH hT
 have HC := qH hC
 have HE := qH hE
 clear hA hlt hT hC hE
 go_enter Tryz.func3, Tryz.ntmps3
 go_wp2_with fail
 refine (a2Long_c C nn cc w).mono ?_
 rintro e W ⟨rfl, hv⟩
 by_cases hb4 : 3000 < nn
 case pos =>
   rw [decide_eq_true hb4]
   go_wp2_with fail
   go_returns
   exact Ret.mk rfl hv
 rw [decide_eq_false hb4]
 go_wp2_with fail
 refine (A2Lines_c C nn cc cs hnn (by omega) _ (HA0.out.below hv) (fun ad e => Nat.lt_of_lt_of_le (HL0.out ad e) hv.size)).mono ?_
 rintro e W1 ⟨AL, L, m, cL, rfl, hLm, hm8, hLB, hown, hb⟩
 have HOL := qH hown
 have HLM := qH hLm
 have HLB := qH hLB
 replace hv := bl_trans hv hb
 clear hown hLm hLB hb HA0 HL0
 go_wp2_with fail
 refine (NewDesk_c _).mono ?_
 rintro e W2 ⟨rfl, hb⟩
 have HAL := qH (Arr.own (own_below HOL.out hb))
 have HLD : Hid (∀ ad, AL = some ad → ad.block < W2.heap.size) := qH (fun ad e => by subst e; exact own_lt (own_below HOL.out hb) _ rfl)
 have HAD := qH (fun (h : 0 < m) => own_addr HOL.out h)
 replace hv := bl_trans hv hb
 clear hb HOL
 obtain ⟨gD, hgD⟩ : ∃ z, z = W2.heap.size := ⟨_, rfl⟩
 obtain ⟨W3, hW3⟩ : ∃ z, z = W2.alloc (Obj.cells #[.int .i64 0, .int .i64 0, .int .i64 0, .int .i64 0, .slice none 0 0, .string ⟨#[]⟩, .string ⟨#[]⟩, .string ⟨#[]⟩, .string ⟨#[]⟩, .int .i64 0, .int .i64 0, .int .i64 0, .int .i64 0, .bool false, .string ⟨#[]⟩] 32) := ⟨_, rfl⟩
 have HK3 : Hid (Blk W3 gD 32 #[.int .i64 0, .int .i64 0, .int .i64 0, .int .i64 0, .slice none 0 0, .string ⟨#[]⟩, .string ⟨#[]⟩, .string ⟨#[]⟩, .string ⟨#[]⟩, .int .i64 0, .int .i64 0, .int .i64 0, .int .i64 0, .bool false, .string ⟨#[]⟩]) := qH (by rw [hW3, hgD]; exact Blk.new _ _ _)
 have hb : Below W2.heap.size W2 W3 := by rw [hW3]; exact bl_alloc (Below.refl _ _) _
 have hgDw : w.heap.size ≤ gD := by rw [hgD]; exact hv.size
 have HLD2 : Hid (∀ ad, AL = some ad → ad.block ≠ gD) := qH (fun ad e => by have := HLD.out ad e; omega)
 replace HAL := qH (HAL.out.below hb)
 replace hv := bl_trans hv hb
 have HE1 := qH hgD
 have HE2 := qH hW3
 clear hgD hW3 hb HLD
 go_upto_region 5 with (rw [← HE2.out, ← HE1.out]; refine wpList_store_row rfl 32 _ _ rfl gD #[.int .i64 2500, .int .i64 2400, .int .i64 2500, .int .i64 3200, .slice none 0 0, .string ⟨#[99, 97, 108, 102]⟩, .string ⟨#[98, 108, 97, 99, 107]⟩, .string ⟨#[]⟩, .string ⟨#[108, 101, 97, 116, 104, 101, 114]⟩, .int .i64 40, .int .i64 0, .int .i64 0, .int .i64 0, .bool false, .string ⟨#[]⟩] rfl rfl 32 _ HK3.out (by kernel_rfl) rfl (by simp [Value.oneCell']) ?_)
 have HK4 : Hid (Blk (World.setRow W3 gD #[Value.int .i64 2500, Value.int .i64 2400, Value.int .i64 2500, Value.int .i64 3200, Value.slice none 0 0, Value.string ⟨#[99, 97, 108, 102]⟩, Value.string ⟨#[98, 108, 97, 99, 107]⟩, Value.string ⟨#[]⟩, Value.string ⟨#[108, 101, 97, 116, 104, 101, 114]⟩, Value.int .i64 40, Value.int .i64 0, Value.int .i64 0, Value.int .i64 0, Value.bool false, Value.string ⟨#[]⟩]) gD 32 #[.int .i64 2500, .int .i64 2400, .int .i64 2500, .int .i64 3200, .slice none 0 0, .string ⟨#[99, 97, 108, 102]⟩, .string ⟨#[98, 108, 97, 99, 107]⟩, .string ⟨#[]⟩, .string ⟨#[108, 101, 97, 116, 104, 101, 114]⟩, .int .i64 40, .int .i64 0, .int .i64 0, .int .i64 0, .bool false, .string ⟨#[]⟩]) := qH (setRow_heap _ _ _ _ _ _ HK3.out)
 have hg4 := grown_rowX W3 gD #[Value.int .i64 2500, Value.int .i64 2400, Value.int .i64 2500, Value.int .i64 3200, Value.slice none 0 0, Value.string ⟨#[99, 97, 108, 102]⟩, Value.string ⟨#[98, 108, 97, 99, 107]⟩, Value.string ⟨#[]⟩, Value.string ⟨#[108, 101, 97, 116, 104, 101, 114]⟩, Value.int .i64 40, Value.int .i64 0, Value.int .i64 0, Value.int .i64 0, Value.bool false, Value.string ⟨#[]⟩]
 have HA4 := qH (HAL.out.grown hg4 (fun ad e => by have := HLD2.out ad e; intro e2; injection e2 with e2; exact this e2))
 have hv4 := below_rowX hv hgDw #[Value.int .i64 2500, Value.int .i64 2400, Value.int .i64 2500, Value.int .i64 3200, Value.slice none 0 0, Value.string ⟨#[99, 97, 108, 102]⟩, Value.string ⟨#[98, 108, 97, 99, 107]⟩, Value.string ⟨#[]⟩, Value.string ⟨#[108, 101, 97, 116, 104, 101, 114]⟩, Value.int .i64 40, Value.int .i64 0, Value.int .i64 0, Value.int .i64 0, Value.bool false, Value.string ⟨#[]⟩]
 obtain ⟨W4, hW4⟩ : ∃ z, z = World.setRow W3 gD #[Value.int .i64 2500, Value.int .i64 2400, Value.int .i64 2500, Value.int .i64 3200, Value.slice none 0 0, Value.string ⟨#[99, 97, 108, 102]⟩, Value.string ⟨#[98, 108, 97, 99, 107]⟩, Value.string ⟨#[]⟩, Value.string ⟨#[108, 101, 97, 116, 104, 101, 114]⟩, Value.int .i64 40, Value.int .i64 0, Value.int .i64 0, Value.int .i64 0, Value.bool false, Value.string ⟨#[]⟩] := ⟨_, rfl⟩
 rw [← hW4] at HK4 HA4 hv4 ⊢
 clear hW4 HK3 HAL hv hg4 HE1 HE2
 have HG0 : Hid (runG 60 newDk L = [] ++ runG (60 - 0) newDk (L.drop 0)) := qH rfl
 go_wp2_with fail
 go_loopw [5, 6, 7] (fun v u i wr => ∃ (j n c : Nat) (a b : ByteArray) (f : Foot) (xs : List Last) (s : Style) (lg : ByteArray) (A : Option Addr) (O : List ByteArray), i = .int .i64 j ∧ v = .string a ∧ u = .string b ∧ j ≤ m ∧ a.size ≤ 61 * j ∧ b.size ≤ 10000010000 * j ∧ Hid (a = lnT (L.take j)) ∧ Hid (b = lnT O) ∧ Hid (runG 60 newDk L = O ++ runG (60 - j) ⟨f, xs, s, lg⟩ (L.drop j)) ∧ Hid ((⟨f, xs, s, lg⟩ : Dk).ok = true) ∧ Hid (xs.length = n) ∧ Hid (Blk wr gD 32 #[.int .i64 f.length, .int .i64 f.ball, .int .i64 f.instep, .int .i64 f.heel, .slice A n c, .string s.upper, .string s.color, .string s.lining, .string s.sole, .int .i64 s.thick, .int .i64 s.heel, .int .i64 s.eyelets, .int .i64 s.density, .bool s.double, .string lg]) ∧ Hid (Arr wr A (flat Last.cells xs)) ∧ Hid (∀ ad, A = some ad → ad.block ≠ gD) ∧ Hid (Arr wr AL (flat scell L)) ∧ Hid (Below w.heap.size w wr)) (fun _ _ i _ => m - (intOf i).toNat)
 case atStart => exact ⟨0, 0, 0, ⟨#[]⟩, ⟨#[]⟩, ⟨2500, 2400, 2500, 3200⟩, [], newDk.s, ⟨#[]⟩, none, [], rfl, rfl, rfl, by omega, by decide, by decide, qH rfl, qH rfl, HG0, qH newDk_ok, qH rfl, HK4, qH (Arr.nil _ _), qH (fun ad e => by cases e), HA4, qH hv4⟩
 case round =>
 clear HG0 HK4 HA4 hv4
 obtain ⟨j, n, c, a, b, f, xs, s, lg, A, O, rfl, rfl, rfl, hj, haz, hbz, HAE, HBE, HRG, HOK, hn, HK, HA, HAN, HAL, HV⟩ := hrel
 have hi0 : (0 : Int) ≤ (j : Int) := by omega
 by_cases hlt : j < m
 case neg =>
   have hi1 : ¬ (j : Int) < (m : Int) := by omega
   obtain rfl : j = m := by omega
   have hae := HAE.out
   rw [List.take_of_length_le (by rw [HLM.out]; exact Nat.le_refl _)] at hae
   have HRR : Hid (runT a = b) := qH (by
     rw [hae, runT_lnT HLB.out, HRG.out, List.drop_eq_nil_of_le (by rw [HLM.out]; exact Nat.le_refl _), runG_nil, List.append_nil, HBE.out])
   have HRD := RunDesk_c a (by omega) wr (HT.out.below HV.out) (HC.out.below HV.out) (HE.out.below HV.out)
   rw [HRR.out] at HRD
   have HRD2 := qH HRD
   clear HRD hae HRG HK HA HAL
   go_wp2_with fail
   refine HRD2.out.mono ?_
   rintro e W9 ⟨rfl, hb⟩
   have hbb : (b.toList == b.toList) = true := by simp
   go_wp2_with fail
   go_returns
   exact Ret.mk (vb (by simp)) (bl_trans HV.out hb)
 have hi1 : (j : Int) < (m : Int) := by omega
 obtain ⟨gl, rfl⟩ := HAD.out (by omega)
 obtain ⟨line, hline⟩ := get_of_lt (xs := L) (k := j) (by rw [HLM.out]; exact hlt)
 have hlz := (lineB_ok (HLB.out line (List.mem_of_getElem? hline))).1
 have x1 := scell_lit HAL.out hline
 have HDR := qH (drop_at hline)
 have l1 : (⟨#[10]⟩ : ByteArray).size = 1 := rfl
 have z2 : (line ++ ⟨#[10]⟩ : ByteArray).size = line.size + 1 := by rw [app_size, l1]
 have a0 := fun (w : World) => run_string_add_sum (P := Tryz.prog) w line ⟨#[10]⟩ (by omega)
 have a1 := fun (w : World) => run_string_add_sum (P := Tryz.prog) w a (line ++ ⟨#[10]⟩) (by omega)
 have HAE2 := qH (show a ++ (line ++ ⟨#[10]⟩) = lnT (L.take (j + 1)) by rw [take_at hline, lnT_snoc, HAE.out])
 have hasz : (a ++ (line ++ ⟨#[10]⟩) : ByteArray).size ≤ 61 * (j + 1) := by rw [app_size, z2]; omega
 obtain ⟨a', ha'⟩ : ∃ z, z = a ++ (line ++ ⟨#[10]⟩) := ⟨_, rfl⟩
 rw [← ha'] at HAE2 a1 hasz
 clear hline ha' HAE
 go_upto_region 11 with fail
 clear a0 a1 z2
 obtain ⟨hfB, hlB, hsB, hcB⟩ := ok_parts HOK.out
 dsimp only at hfB hlB hsB hcB
 have hn30 : n ≤ 30 := by
   have h := las_len hlB
   rw [hn.out] at h
   exact h
 have hlg := cdL_small hcB
 have HDM := qH (fun w h1 h2 h3 h4 => DeskCommand_c f s lg A xs n c hn (by omega) (qH (fun x hx => Nat.le_trans (lastB_name (las_mem hlB x hx)) (by omega))) (qH (sty_fits hsB)) (by omega) line (by omega) w h1 h2 h3 h4)
 have HSL := qH (cmd_small HOK.out line)
 have HCO := qH (cmdD_ok HOK.out line)
 have HYE := qH (fun (h : (cmdD ⟨f, xs, s, lg⟩ line).2.2 = 0) => runG_cons_yes (k := 59 - j) (r := L.drop (j + 1)) h)
 have HNN := qH (fun (h : ¬ (cmdD ⟨f, xs, s, lg⟩ line).2.2 = 0) => runG_cons_no (k := 59 - j) (r := L.drop (j + 1)) h)
 have HRG2 := HRG.out
 rw [HDR.out, show 60 - j = (59 - j) + 1 by omega] at HRG2
 have HG2 := qH HRG2
 have HE61 : Hid (60 - (j + 1) = 59 - j) := qH (by omega)
 clear HRG2 HRG HDR hfB hlB hsB hcB
 have hgDl := HK.out.lt
 obtain ⟨k0, k1, k2, k3, k4, k5, k6, k7, k8, k9, k10, k11, k12, k13, k14⟩ := qC15 HK.out
 go_cut [8, 9, 10] (fun p l q wx => ∃ (g8 n2 c2 kb cb : Nat) (f2 : Foot) (xs2 : List Last) (s2 : Style) (lg2 : ByteArray) (A2 B : Option Addr) (Lb : List ByteArray) (co : Int), p = .pointer (some ⟨g8, 0, none⟩) ∧ l = .slice B kb cb ∧ q = .int .i64 co ∧ wr.heap.size ≤ g8 ∧ Hid (cmdD ⟨f, xs, s, lg⟩ line = ((⟨f2, xs2, s2, lg2⟩, Lb, co) : ResD)) ∧ xs2.length = n2 ∧ Lb.length = kb ∧ Hid (Blk wx g8 32 #[.int .i64 f2.length, .int .i64 f2.ball, .int .i64 f2.instep, .int .i64 f2.heel, .slice A2 n2 c2, .string s2.upper, .string s2.color, .string s2.lining, .string s2.sole, .int .i64 s2.thick, .int .i64 s2.heel, .int .i64 s2.eyelets, .int .i64 s2.density, .bool s2.double, .string lg2]) ∧ Hid (Arr wx A2 (flat Last.cells xs2)) ∧ Hid (∀ ad, A2 = some ad → ad.block ≠ gD) ∧ Hid (Arr wx B (flat scell Lb)) ∧ Below wr.heap.size wr wx)
 case first =>
   obtain ⟨r, hr⟩ : ∃ z, z = cmdD ⟨f, xs, s, lg⟩ line := ⟨_, rfl⟩
   rw [← hr] at HDM
   have HRE := qH hr.symm
   clear hr
   refine wp_region_held_drew (S := fun w' => w'.cell? ⟨gD, 0, none⟩ = some (.int .i64 f.length) ∧ w'.cell? ⟨gD, 1, none⟩ = some (.int .i64 f.ball) ∧ w'.cell? ⟨gD, 2, none⟩ = some (.int .i64 f.instep) ∧ w'.cell? ⟨gD, 3, none⟩ = some (.int .i64 f.heel) ∧ w'.cell? ⟨gD, 4, none⟩ = some (.slice A n c) ∧ w'.cell? ⟨gD, 5, none⟩ = some (.string s.upper) ∧ w'.cell? ⟨gD, 6, none⟩ = some (.string s.color) ∧ w'.cell? ⟨gD, 7, none⟩ = some (.string s.lining) ∧ w'.cell? ⟨gD, 8, none⟩ = some (.string s.sole) ∧ w'.cell? ⟨gD, 9, none⟩ = some (.int .i64 s.thick) ∧ w'.cell? ⟨gD, 10, none⟩ = some (.int .i64 s.heel) ∧ w'.cell? ⟨gD, 11, none⟩ = some (.int .i64 s.eyelets) ∧ w'.cell? ⟨gD, 12, none⟩ = some (.int .i64 s.density) ∧ w'.cell? ⟨gD, 13, none⟩ = some (.bool s.double) ∧ w'.cell? ⟨gD, 14, none⟩ = some (.string lg) ∧ w'.cell? ⟨gl, j, none⟩ = some (.string line)) (by as_aux_lemma => kernel_rfl) ?_ (fun hHeld => ?_)
   · exact ⟨bl_cell (Below.refl _ _).drew k0, bl_cell (Below.refl _ _).drew k1, bl_cell (Below.refl _ _).drew k2, bl_cell (Below.refl _ _).drew k3, bl_cell (Below.refl _ _).drew k4, bl_cell (Below.refl _ _).drew k5, bl_cell (Below.refl _ _).drew k6, bl_cell (Below.refl _ _).drew k7, bl_cell (Below.refl _ _).drew k8, bl_cell (Below.refl _ _).drew k9, bl_cell (Below.refl _ _).drew k10, bl_cell (Below.refl _ _).drew k11, bl_cell (Below.refl _ _).drew k12, bl_cell (Below.refl _ _).drew k13, bl_cell (Below.refl _ _).drew k14, bl_cell (Below.refl _ _).drew x1⟩
   have hd9 : Below wr.heap.size wr wr.drew := (Below.refl _ _).drew
   refine zT 0 31 ?_ rfl ?_ (by assumption) ?_
   rotate_left
   · intro w hSw
     try dsimp only at hSw
     obtain ⟨s0, s1, s2, s3, s4, s5, s6, s7, s8, s9, s10, s11, s12, s13, s14, s15⟩ := hSw
     go_simp
     try with_reducible rfl
   try simp only [Act.put, zA, zB, zC]
   refine zT 1 32 ?_ rfl ?_ (by assumption) ?_
   rotate_left
   · intro w hSw
     try dsimp only at hSw
     clear hSw
     go_simp
     try with_reducible rfl
   try simp only [Act.put, zA, zB, zC]
   refine zT 2 33 ?_ rfl ?_ (by assumption) ?_
   rotate_left
   · intro w hSw
     try dsimp only at hSw
     clear hSw
     go_simp
     try with_reducible rfl
   try simp only [Act.put, zA, zB, zC]
   refine zT 3 34 ?_ rfl ?_ (by assumption) ?_
   rotate_left
   · intro w hSw
     try dsimp only at hSw
     clear hSw
     go_simp
     try with_reducible rfl
   try simp only [Act.put, zA, zB, zC]
   refine zT 4 35 ?_ rfl ?_ (by assumption) ?_
   rotate_left
   · intro w hSw
     try dsimp only at hSw
     obtain ⟨s0, s1, s2, s3, s4, s5, s6, s7, s8, s9, s10, s11, s12, s13, s14, s15⟩ := hSw
     clear s0 s1 s2 s3 s4 s5 s6 s7 s8 s9 s10 s11 s12 s13 s14
     go_simp
     try with_reducible rfl
   try simp only [Act.put, zA, zB, zC]
   refine wpAnyH_ready (rs := [5, 10]) (by as_aux_lemma => kernel_rfl) (by simp) ?_
   refine AllReadyH.cons (o := { dst := some 36, op := _, type := _, pos := _, after := _, guard := _ }) rfl (fun K hK => ?_) (AllReadyH.cons (o := { dst := some 8, op := _, type := _, pos := _, after := _, guard := _ }) rfl (fun K hK => ?_) AllReadyH.nil)
   · skip
     go_simp
     (try dsimp only at hHeld); go_split_ands
     refine (HDM.out _ (HA.out.below hd9) (HT.out.below (bl_trans HV.out hd9)) (HC.out.below (bl_trans HV.out hd9)) (HE.out.below (bl_trans HV.out hd9))).mono ?_
     rintro e V ⟨A2, n2, c2, B, kb, cb, rfl, hb9, hn2, hkb, lo, mid, hlo, hO2, hB2⟩
     have HO2 := qH hO2
     have HB2 := qH hB2
     have HLO : Hid (∀ ad, A2 = some ad → ad.block ≠ gD) := qH (fun ad e => by
       have h := hO2.row ad.block (by rw [e]; rfl)
       have hs9 := hd9.size
       omega)
     have hs9 := hd9.size
     replace hd9 := bl_trans hd9 hb9
     clear hb9 hO2 hB2
     go_wp2_with fail
     refine hK.out _ _ ?_ (fun hHeld => ?_)
     · (try dsimp only); exact ⟨bl_cell hd9 k0, bl_cell hd9 k1, bl_cell hd9 k2, bl_cell hd9 k3, bl_cell hd9 k4, bl_cell hd9 k5, bl_cell hd9 k6, bl_cell hd9 k7, bl_cell hd9 k8, bl_cell hd9 k9, bl_cell hd9 k10, bl_cell hd9 k11, bl_cell hd9 k12, bl_cell hd9 k13, bl_cell hd9 k14, bl_cell hd9 x1⟩
     clear hK K
     try simp only [Act.put, zA, zB, zC]
     refine zT 6 30 ?_ rfl ?_ (by assumption) ?_
     rotate_left
     · intro w hSw
       try dsimp only at hSw
       clear hSw
       go_simp
       try with_reducible rfl
     try simp only [Act.put, zA, zB, zC]
     refine zT 7 37 ?_ rfl ?_ (by assumption) ?_
     rotate_left
     · intro w hSw
       try dsimp only at hSw
       clear hSw
       go_simp
       try with_reducible rfl
     try simp only [Act.put, zA, zB, zC]
     refine zT 8 38 ?_ rfl ?_ (by assumption) ?_
     rotate_left
     · intro w hSw
       try dsimp only at hSw
       clear hSw
       go_simp
       try with_reducible rfl
     try simp only [Act.put, zA, zB, zC]
     refine zT 9 39 ?_ rfl ?_ (by assumption) ?_
     rotate_left
     · intro w hSw
       try dsimp only at hSw
       clear hSw
       go_simp
       try with_reducible rfl
     try simp only [Act.put, zA, zB, zC]
     refine zR 10 (some 8) rfl (fun K hK => ?_)
     go_simp
     (try dsimp only at hHeld); go_split_ands
     obtain ⟨V5, hV5⟩ : ∃ z, z = World.alloc V (Obj.cells #[.int .i64 0, .int .i64 0, .int .i64 0, .int .i64 0, .slice none 0 0, .string ⟨#[]⟩, .string ⟨#[]⟩, .string ⟨#[]⟩, .string ⟨#[]⟩, .int .i64 0, .int .i64 0, .int .i64 0, .int .i64 0, .bool false, .string ⟨#[]⟩] 32) := ⟨_, rfl⟩
     obtain ⟨g8, hg8⟩ : ∃ z, z = V.heap.size := ⟨_, rfl⟩
     have HZ : Hid (Blk V5 g8 32 #[.int .i64 0, .int .i64 0, .int .i64 0, .int .i64 0, .slice none 0 0, .string ⟨#[]⟩, .string ⟨#[]⟩, .string ⟨#[]⟩, .string ⟨#[]⟩, .int .i64 0, .int .i64 0, .int .i64 0, .int .i64 0, .bool false, .string ⟨#[]⟩]) := qH (by rw [hV5, hg8]; exact Blk.new V _ _)
     have hz8 : wr.heap.size ≤ g8 := by rw [hg8]; exact hd9.size
     have hb9 : Below (V).heap.size (V) V5 := by rw [hV5]; exact bl_alloc (Below.refl _ _) _
     have HNE : Hid (∀ ad, A2 = some ad → ad.block ≠ g8) := qH (fun ad e => by have h := HO2.out.row ad.block (by rw [e]; rfl); have h3 := HO2.out.2.2.1; omega)
     have HNB : Hid (∀ ad, B = some ad → ad.block ≠ g8) := qH (fun ad e => by subst e; have h := own_lt HB2.out ad.block rfl; omega)
     replace HO2 := qH (HO2.out.below hb9)
     replace HB2 := qH (own_below HB2.out hb9)
     replace hd9 := bl_trans hd9 hb9
     rw [← hV5, ← hg8]
     clear hV5 hg8 hb9
     refine hK.out _ _ ?_ (fun hHeld => ?_)
     · (try dsimp only); exact ⟨bl_cell hd9 k0, bl_cell hd9 k1, bl_cell hd9 k2, bl_cell hd9 k3, bl_cell hd9 k4, bl_cell hd9 k5, bl_cell hd9 k6, bl_cell hd9 k7, bl_cell hd9 k8, bl_cell hd9 k9, bl_cell hd9 k10, bl_cell hd9 k11, bl_cell hd9 k12, bl_cell hd9 k13, bl_cell hd9 k14, bl_cell hd9 x1⟩
     clear hK K
     try simp only [Act.put, zA, zB, zC]
     refine zR 11 none rfl (fun K hK => ?_)
     skip
     (try dsimp only at hHeld); go_split_ands
     refine wp_store_row 32 _ _ rfl g8 #[.int .i64 r.1.f.length, .int .i64 r.1.f.ball, .int .i64 r.1.f.instep, .int .i64 r.1.f.heel, .slice A2 n2 c2, .string r.1.s.upper, .string r.1.s.color, .string r.1.s.lining, .string r.1.s.sole, .int .i64 r.1.s.thick, .int .i64 r.1.s.heel, .int .i64 r.1.s.eyelets, .int .i64 r.1.s.density, .bool r.1.s.double, .string r.1.lg] rfl rfl 32 #[Value.int .i64 0, Value.int .i64 0, Value.int .i64 0, Value.int .i64 0, Value.slice none 0 0, Value.string ⟨#[]⟩, Value.string ⟨#[]⟩, Value.string ⟨#[]⟩, Value.string ⟨#[]⟩, Value.int .i64 0, Value.int .i64 0, Value.int .i64 0, Value.int .i64 0, Value.bool false, Value.string ⟨#[]⟩] HZ.out (by kernel_rfl) rfl (by simp [Value.oneCell']) ?_
     have hgs := grown_rowX V5 g8 #[Value.int .i64 r.1.f.length, Value.int .i64 r.1.f.ball, Value.int .i64 r.1.f.instep, Value.int .i64 r.1.f.heel, Value.slice A2 n2 c2, Value.string r.1.s.upper, Value.string r.1.s.color, Value.string r.1.s.lining, Value.string r.1.s.sole, Value.int .i64 r.1.s.thick, Value.int .i64 r.1.s.heel, Value.int .i64 r.1.s.eyelets, Value.int .i64 r.1.s.density, Value.bool r.1.s.double, Value.string r.1.lg]
     have HK8 : Blk (World.setRow V5 g8 #[Value.int .i64 r.1.f.length, Value.int .i64 r.1.f.ball, Value.int .i64 r.1.f.instep, Value.int .i64 r.1.f.heel, Value.slice A2 n2 c2, Value.string r.1.s.upper, Value.string r.1.s.color, Value.string r.1.s.lining, Value.string r.1.s.sole, Value.int .i64 r.1.s.thick, Value.int .i64 r.1.s.heel, Value.int .i64 r.1.s.eyelets, Value.int .i64 r.1.s.density, Value.bool r.1.s.double, Value.string r.1.lg]) g8 32 #[.int .i64 r.1.f.length, .int .i64 r.1.f.ball, .int .i64 r.1.f.instep, .int .i64 r.1.f.heel, .slice A2 n2 c2, .string r.1.s.upper, .string r.1.s.color, .string r.1.s.lining, .string r.1.s.sole, .int .i64 r.1.s.thick, .int .i64 r.1.s.heel, .int .i64 r.1.s.eyelets, .int .i64 r.1.s.density, .bool r.1.s.double, .string r.1.lg] := setRow_heap _ _ _ _ _ _ HZ.out
     have hd8 := below_rowX hd9 hz8 #[Value.int .i64 r.1.f.length, Value.int .i64 r.1.f.ball, Value.int .i64 r.1.f.instep, Value.int .i64 r.1.f.heel, Value.slice A2 n2 c2, Value.string r.1.s.upper, Value.string r.1.s.color, Value.string r.1.s.lining, Value.string r.1.s.sole, Value.int .i64 r.1.s.thick, Value.int .i64 r.1.s.heel, Value.int .i64 r.1.s.eyelets, Value.int .i64 r.1.s.density, Value.bool r.1.s.double, Value.string r.1.lg]
     have HA8 := HO2.out.arr.grown hgs (fun ad e => by have h := HO2.out.row ad.block (by rw [e]; rfl); have h9 := HNE.out; intro e2; injection e2 with e2; exact h9 ad e e2)
     have HB8 := (Arr.own HB2.out).grown hgs (fun ad e => by intro e2; injection e2 with e2; exact HNB.out ad e e2)
     obtain ⟨V6, hV6⟩ : ∃ z, z = World.setRow V5 g8 #[Value.int .i64 r.1.f.length, Value.int .i64 r.1.f.ball, Value.int .i64 r.1.f.instep, Value.int .i64 r.1.f.heel, Value.slice A2 n2 c2, Value.string r.1.s.upper, Value.string r.1.s.color, Value.string r.1.s.lining, Value.string r.1.s.sole, Value.int .i64 r.1.s.thick, Value.int .i64 r.1.s.heel, Value.int .i64 r.1.s.eyelets, Value.int .i64 r.1.s.density, Value.bool r.1.s.double, Value.string r.1.lg] := ⟨_, rfl⟩
     rw [← hV6] at HK8 hd8 HA8 HB8 ⊢
     clear hV6 hgs
     refine hK.out _ _ ?_ (fun hHeld => ?_)
     · (try dsimp only); exact ⟨bl_cell hd8 k0, bl_cell hd8 k1, bl_cell hd8 k2, bl_cell hd8 k3, bl_cell hd8 k4, bl_cell hd8 k5, bl_cell hd8 k6, bl_cell hd8 k7, bl_cell hd8 k8, bl_cell hd8 k9, bl_cell hd8 k10, bl_cell hd8 k11, bl_cell hd8 k12, bl_cell hd8 k13, bl_cell hd8 k14, bl_cell hd8 x1⟩
     clear hK K
     try simp only [Act.put]
     refine zT 12 9 ?_ rfl ?_ (by assumption) ?_
     rotate_left
     · intro w hSw
       try dsimp only at hSw
       clear hSw
       go_simp
       try with_reducible rfl
     try simp only [Act.put, zA, zB, zC]
     refine zT 13 10 ?_ rfl ?_ (by assumption) ?_
     rotate_left
     · intro w hSw
       try dsimp only at hSw
       clear hSw
       go_simp
       try with_reducible rfl
     try simp only [Act.put, zA, zB, zC]
     refine wpAnyH_done (by as_aux_lemma => kernel_rfl) ?_ _
     clear hHeld
     go_wp2_with fail
     go_meet
     obtain ⟨⟨f2, xs2, s2, lg2⟩, Lb, co⟩ := r
     exact ⟨g8, n2, c2, kb, cb, f2, xs2, s2, lg2, A2, B, Lb, co, rfl, rfl, rfl, hz8, HRE, hn2, hkb, qH HK8, qH HA8, HLO, qH HB8, hd8⟩
   · skip
     go_simp
     (try dsimp only at hHeld); go_split_ands
     obtain ⟨V5, hV5⟩ : ∃ z, z = World.drew (World.alloc wr (Obj.cells #[.int .i64 0, .int .i64 0, .int .i64 0, .int .i64 0, .slice none 0 0, .string ⟨#[]⟩, .string ⟨#[]⟩, .string ⟨#[]⟩, .string ⟨#[]⟩, .int .i64 0, .int .i64 0, .int .i64 0, .int .i64 0, .bool false, .string ⟨#[]⟩] 32)) := ⟨_, rfl⟩
     obtain ⟨g8, hg8⟩ : ∃ z, z = wr.heap.size := ⟨_, rfl⟩
     have HZ : Hid (Blk V5 g8 32 #[.int .i64 0, .int .i64 0, .int .i64 0, .int .i64 0, .slice none 0 0, .string ⟨#[]⟩, .string ⟨#[]⟩, .string ⟨#[]⟩, .string ⟨#[]⟩, .int .i64 0, .int .i64 0, .int .i64 0, .int .i64 0, .bool false, .string ⟨#[]⟩]) := qH (by rw [hV5, hg8]; exact Blk.new wr _ _)
     have hz8 : wr.heap.size ≤ g8 := by rw [hg8]; exact hd9.size
     have hb9 : Below (wr.drew).heap.size (wr.drew) V5 := by rw [hV5]; exact bl_alloc (Below.refl _ _) _
     replace hd9 := bl_trans hd9 hb9
     rw [← hV5, ← hg8]
     clear hV5 hg8 hb9
     refine hK.out _ _ ?_ (fun hHeld => ?_)
     · (try dsimp only); exact ⟨bl_cell hd9 k0, bl_cell hd9 k1, bl_cell hd9 k2, bl_cell hd9 k3, bl_cell hd9 k4, bl_cell hd9 k5, bl_cell hd9 k6, bl_cell hd9 k7, bl_cell hd9 k8, bl_cell hd9 k9, bl_cell hd9 k10, bl_cell hd9 k11, bl_cell hd9 k12, bl_cell hd9 k13, bl_cell hd9 k14, bl_cell hd9 x1⟩
     clear hK K
     try simp only [Act.put, zA, zB, zC]
     refine zR 5 (some 36) rfl (fun K hK => ?_)
     go_simp
     (try dsimp only at hHeld); go_split_ands
     refine (HDM.out _ (HA.out.below hd9) (HT.out.below (bl_trans HV.out hd9)) (HC.out.below (bl_trans HV.out hd9)) (HE.out.below (bl_trans HV.out hd9))).mono ?_
     rintro e V ⟨A2, n2, c2, B, kb, cb, rfl, hb9, hn2, hkb, lo, mid, hlo, hO2, hB2⟩
     have HO2 := qH hO2
     have HB2 := qH hB2
     have HLO : Hid (∀ ad, A2 = some ad → ad.block ≠ gD) := qH (fun ad e => by
       have h := hO2.row ad.block (by rw [e]; rfl)
       have hs9 := hd9.size
       omega)
     have hs9 := hd9.size
     have h8l := HZ.out.lt
     replace HZ := qH (HZ.out.below hb9)
     have HNE : Hid (∀ ad, A2 = some ad → ad.block ≠ g8) := qH (fun ad e => by have h := hO2.row ad.block (by rw [e]; rfl); omega)
     have HNB : Hid (∀ ad, B = some ad → ad.block ≠ g8) := qH (fun ad e => by subst e; have h := own_at hB2 ad.block rfl; have h3 := hO2.2.1; omega)
     replace hd9 := bl_trans hd9 hb9
     clear hb9 hO2 hB2
     go_wp2_with fail
     refine hK.out _ _ ?_ (fun hHeld => ?_)
     · (try dsimp only); exact ⟨bl_cell hd9 k0, bl_cell hd9 k1, bl_cell hd9 k2, bl_cell hd9 k3, bl_cell hd9 k4, bl_cell hd9 k5, bl_cell hd9 k6, bl_cell hd9 k7, bl_cell hd9 k8, bl_cell hd9 k9, bl_cell hd9 k10, bl_cell hd9 k11, bl_cell hd9 k12, bl_cell hd9 k13, bl_cell hd9 k14, bl_cell hd9 x1⟩
     clear hK K
     try simp only [Act.put, zA, zB, zC]
     refine zT 6 30 ?_ rfl ?_ (by assumption) ?_
     rotate_left
     · intro w hSw
       try dsimp only at hSw
       clear hSw
       go_simp
       try with_reducible rfl
     try simp only [Act.put, zA, zB, zC]
     refine zT 7 37 ?_ rfl ?_ (by assumption) ?_
     rotate_left
     · intro w hSw
       try dsimp only at hSw
       clear hSw
       go_simp
       try with_reducible rfl
     try simp only [Act.put, zA, zB, zC]
     refine zT 8 38 ?_ rfl ?_ (by assumption) ?_
     rotate_left
     · intro w hSw
       try dsimp only at hSw
       clear hSw
       go_simp
       try with_reducible rfl
     try simp only [Act.put, zA, zB, zC]
     refine zT 9 39 ?_ rfl ?_ (by assumption) ?_
     rotate_left
     · intro w hSw
       try dsimp only at hSw
       clear hSw
       go_simp
       try with_reducible rfl
     try simp only [Act.put, zA, zB, zC]
     refine zR 11 none rfl (fun K hK => ?_)
     skip
     (try dsimp only at hHeld); go_split_ands
     refine wp_store_row 32 _ _ rfl g8 #[.int .i64 r.1.f.length, .int .i64 r.1.f.ball, .int .i64 r.1.f.instep, .int .i64 r.1.f.heel, .slice A2 n2 c2, .string r.1.s.upper, .string r.1.s.color, .string r.1.s.lining, .string r.1.s.sole, .int .i64 r.1.s.thick, .int .i64 r.1.s.heel, .int .i64 r.1.s.eyelets, .int .i64 r.1.s.density, .bool r.1.s.double, .string r.1.lg] rfl rfl 32 #[Value.int .i64 0, Value.int .i64 0, Value.int .i64 0, Value.int .i64 0, Value.slice none 0 0, Value.string ⟨#[]⟩, Value.string ⟨#[]⟩, Value.string ⟨#[]⟩, Value.string ⟨#[]⟩, Value.int .i64 0, Value.int .i64 0, Value.int .i64 0, Value.int .i64 0, Value.bool false, Value.string ⟨#[]⟩] HZ.out (by kernel_rfl) rfl (by simp [Value.oneCell']) ?_
     have hgs := grown_rowX V g8 #[Value.int .i64 r.1.f.length, Value.int .i64 r.1.f.ball, Value.int .i64 r.1.f.instep, Value.int .i64 r.1.f.heel, Value.slice A2 n2 c2, Value.string r.1.s.upper, Value.string r.1.s.color, Value.string r.1.s.lining, Value.string r.1.s.sole, Value.int .i64 r.1.s.thick, Value.int .i64 r.1.s.heel, Value.int .i64 r.1.s.eyelets, Value.int .i64 r.1.s.density, Value.bool r.1.s.double, Value.string r.1.lg]
     have HK8 : Blk (World.setRow V g8 #[Value.int .i64 r.1.f.length, Value.int .i64 r.1.f.ball, Value.int .i64 r.1.f.instep, Value.int .i64 r.1.f.heel, Value.slice A2 n2 c2, Value.string r.1.s.upper, Value.string r.1.s.color, Value.string r.1.s.lining, Value.string r.1.s.sole, Value.int .i64 r.1.s.thick, Value.int .i64 r.1.s.heel, Value.int .i64 r.1.s.eyelets, Value.int .i64 r.1.s.density, Value.bool r.1.s.double, Value.string r.1.lg]) g8 32 #[.int .i64 r.1.f.length, .int .i64 r.1.f.ball, .int .i64 r.1.f.instep, .int .i64 r.1.f.heel, .slice A2 n2 c2, .string r.1.s.upper, .string r.1.s.color, .string r.1.s.lining, .string r.1.s.sole, .int .i64 r.1.s.thick, .int .i64 r.1.s.heel, .int .i64 r.1.s.eyelets, .int .i64 r.1.s.density, .bool r.1.s.double, .string r.1.lg] := setRow_heap _ _ _ _ _ _ HZ.out
     have hd8 := below_rowX hd9 hz8 #[Value.int .i64 r.1.f.length, Value.int .i64 r.1.f.ball, Value.int .i64 r.1.f.instep, Value.int .i64 r.1.f.heel, Value.slice A2 n2 c2, Value.string r.1.s.upper, Value.string r.1.s.color, Value.string r.1.s.lining, Value.string r.1.s.sole, Value.int .i64 r.1.s.thick, Value.int .i64 r.1.s.heel, Value.int .i64 r.1.s.eyelets, Value.int .i64 r.1.s.density, Value.bool r.1.s.double, Value.string r.1.lg]
     have HA8 := HO2.out.arr.grown hgs (fun ad e => by have h := HO2.out.row ad.block (by rw [e]; rfl); have h9 := HNE.out; intro e2; injection e2 with e2; exact h9 ad e e2)
     have HB8 := (Arr.own HB2.out).grown hgs (fun ad e => by intro e2; injection e2 with e2; exact HNB.out ad e e2)
     obtain ⟨V6, hV6⟩ : ∃ z, z = World.setRow V g8 #[Value.int .i64 r.1.f.length, Value.int .i64 r.1.f.ball, Value.int .i64 r.1.f.instep, Value.int .i64 r.1.f.heel, Value.slice A2 n2 c2, Value.string r.1.s.upper, Value.string r.1.s.color, Value.string r.1.s.lining, Value.string r.1.s.sole, Value.int .i64 r.1.s.thick, Value.int .i64 r.1.s.heel, Value.int .i64 r.1.s.eyelets, Value.int .i64 r.1.s.density, Value.bool r.1.s.double, Value.string r.1.lg] := ⟨_, rfl⟩
     rw [← hV6] at HK8 hd8 HA8 HB8 ⊢
     clear hV6 hgs
     refine hK.out _ _ ?_ (fun hHeld => ?_)
     · (try dsimp only); exact ⟨bl_cell hd8 k0, bl_cell hd8 k1, bl_cell hd8 k2, bl_cell hd8 k3, bl_cell hd8 k4, bl_cell hd8 k5, bl_cell hd8 k6, bl_cell hd8 k7, bl_cell hd8 k8, bl_cell hd8 k9, bl_cell hd8 k10, bl_cell hd8 k11, bl_cell hd8 k12, bl_cell hd8 k13, bl_cell hd8 k14, bl_cell hd8 x1⟩
     clear hK K
     try simp only [Act.put]
     refine zT 12 9 ?_ rfl ?_ (by assumption) ?_
     rotate_left
     · intro w hSw
       try dsimp only at hSw
       clear hSw
       go_simp
       try with_reducible rfl
     try simp only [Act.put, zA, zB, zC]
     refine zT 13 10 ?_ rfl ?_ (by assumption) ?_
     rotate_left
     · intro w hSw
       try dsimp only at hSw
       clear hSw
       go_simp
       try with_reducible rfl
     try simp only [Act.put, zA, zB, zC]
     refine wpAnyH_done (by as_aux_lemma => kernel_rfl) ?_ _
     clear hHeld
     go_wp2_with fail
     go_meet
     obtain ⟨⟨f2, xs2, s2, lg2⟩, Lb, co⟩ := r
     exact ⟨g8, n2, c2, kb, cb, f2, xs2, s2, lg2, A2, B, Lb, co, rfl, rfl, rfl, hz8, HRE, hn2, hkb, qH HK8, qH HA8, HLO, qH HB8, hd8⟩
 case rest =>
 obtain ⟨g8, n2, c2, kb, cb, f2, xs2, s2, lg2, A2, B, Lb, co, rfl, rfl, rfl, hg8, HRE, hn2, hkb, HK8, HA2, HAN2, HB2, hb⟩ := hcut
 rename World => W5
 clear x1 HDM k0 k1 k2 k3 k4 k5 k6 k7 k8 k9 k10 k11 k12 k13 k14
 replace HK := qH (HK.out.below hb)
 replace HA := qH (HA.out.below hb)
 replace HAL := qH (HAL.out.below hb)
 replace HV := qH (bl_trans HV.out hb)
 clear hb
 have HSL2 := HSL.out
 have HCO2 := HCO.out
 have HYE2 := HYE.out
 have HNN2 := HNN.out
 rw [HRE.out] at HSL2 HCO2 HYE2 HNN2
 dsimp only at HSL2 HCO2 HYE2 HNN2
 have HS3 := qH HSL2
 have HC3 : Hid ((co = 7) ∨ (co = 0 ∧ (⟨f2, xs2, s2, lg2⟩ : Dk).ok = true ∧ Lb ≠ [])) := qH (by
   rcases HCO2 with ⟨h7, _⟩ | ⟨h0, _, _, h1, h2⟩
   · exact .inl h7
   · exact .inr ⟨h0, h1, h2⟩)
 have HY3 := qH HYE2
 have HN3 := qH HNN2
 have HN2' := qH hn2
 have HKB := qH hkb
 clear HSL HCO HYE HNN HSL2 HCO2 HYE2 HNN2 HRE hn2 hkb
 by_cases h7 : co = 7
 case pos =>
   subst h7
   have HGN := qH (show runG 60 newDk L = (O ++ [askW]) ++ runG (60 - (j + 1)) ⟨f, xs, s, lg⟩ (L.drop (j + 1)) by
     rw [HG2.out, HN3.out (by decide), HE61.out, List.append_assoc])
   have l2 : (⟨#[63, 10]⟩ : ByteArray).size = 2 := rfl
   have a2 := fun (w : World) => run_string_add_sum (P := Tryz.prog) w b ⟨#[63, 10]⟩ (by omega)
   have HBE2 := qH (show b ++ ⟨#[63, 10]⟩ = lnT (O ++ [askW]) by rw [lnT_snoc, HBE.out, ask_nl])
   have hbs : (b ++ ⟨#[63, 10]⟩ : ByteArray).size ≤ 10000010000 * (j + 1) := by rw [app_size]; omega
   clear HG2 HN3 HY3 HC3 HS3 HB2 HA2 HK8 HBE
   go_wp2_with fail
   exact ⟨⟨j + 1, n, c, a', _, f, xs, s, lg, A, O ++ [askW], by go_num, rfl, rfl, by omega, hasz, hbs, HAE2, HBE2, HGN, HOK, hn, HK, HA, HAN, HAL, HV⟩, by simp [intOf]; omega⟩
 obtain ⟨rfl, hok2, hne2⟩ : co = 0 ∧ (⟨f2, xs2, s2, lg2⟩ : Dk).ok = true ∧ Lb ≠ [] := by
   rcases HC3.out with h | h
   · exact absurd h h7
   · exact h
 have HGY := qH (show runG 60 newDk L = (O ++ Lb) ++ runG (60 - (j + 1)) ⟨f2, xs2, s2, lg2⟩ (L.drop (j + 1)) by
   rw [HG2.out, HY3.out rfl, HE61.out, List.append_assoc])
 obtain ⟨hs1, hs2⟩ := HS3.out
 have HSB := qH hs2
 have HOK2 := qH hok2
 have hkb5 : kb ≤ 5000 := by rw [← HKB.out]; exact hs1
 have hkb0 : 0 < kb := by rw [← HKB.out]; exact List.length_pos_iff.2 hne2
 have hkb1 : ¬ (kb : Int) < 1 := by omega
 obtain ⟨hfB, hlB, hsB, hcB⟩ := ok_parts HOK2.out
 dsimp only at hfB hlB hsB hcB
 have hn230 : n2 ≤ 30 := by
   have h := las_len hlB
   rw [HN2'.out] at h
   exact h
 have hlg2 := cdL_small hcB
 have hok3 : deskB f2 xs2 s2 lg2 = true := HOK2.out
 have HVD := fun w h => SValidDesk_c f2 s2 lg2 A2 xs2 n2 c2 HN2' (by omega) (qH (fun x hx => Nat.le_trans (lastB_name (las_mem hlB x hx)) (by omega))) (qH (sty_fits hsB)) (by omega) w h
 have HDT := fun w h t => DeskText_c f2 s2 lg2 A2 xs2 n2 c2 HN2' (by omega) (qH (fun x hx => Nat.le_trans (lastB_name (las_mem hlB x hx)) (by omega))) (qH (sty_fits hsB)) (by omega) w h t
 rw [hok3] at HVD
 rw [show deskX f2 xs2 s2 lg2 n2 = deskT f2 n2 by unfold deskX; exact if_pos hok3] at HDT
 have htx := deskT_ne f2 n2
 obtain ⟨tx, htxe⟩ : ∃ z, z = deskT f2 n2 := ⟨_, rfl⟩
 rw [← htxe] at HDT htx
 replace HVD := qH HVD
 replace HDT := qH HDT
 clear HG2 HY3 HN3 HC3 HS3 hs1 hs2 hok2 hne2 HOK HA HAN hfB hlB hsB hcB hok3 htxe h7
 have HKG := HK
 clear HK
 obtain ⟨q0, q1, q2, q3, q4, q5, q6, q7, q8, q9, q10, q11, q12, q13, q14⟩ := qC15 HK8.out
 go_wp2_with fail
 refine (HVD.out _ HA2.out).mono ?_
 rintro e W6 ⟨rfl, hb⟩
 clear HVD q0 q1 q2 q3 q4 q5 q6 q7 q8 q9 q10 q11 q12 q13 q14
 replace HA2 := qH (HA2.out.below hb)
 replace HAL := qH (HAL.out.below hb)
 replace HB2 := qH (HB2.out.below hb)
 replace HK8 := qH (HK8.out.below hb)
 have hz6 := hb.size
 replace HV := qH (bl_trans HV.out hb)
 replace HKG := qH (HKG.out.below hb)
 clear hb
 obtain ⟨q0, q1, q2, q3, q4, q5, q6, q7, q8, q9, q10, q11, q12, q13, q14⟩ := qC15 HK8.out
 go_wp2_with fail
 refine (HDT.out _ HA2.out (HT.out.below HV.out)).mono ?_
 rintro e W7 ⟨rfl, hb⟩
 clear HDT q0 q1 q2 q3 q4 q5 q6 q7 q8 q9 q10 q11 q12 q13 q14
 replace HA2 := qH (HA2.out.below hb)
 replace HAL := qH (HAL.out.below hb)
 replace HB2 := qH (HB2.out.below hb)
 replace HK8 := qH (HK8.out.below hb)
 replace HV := qH (bl_trans HV.out hb)
 replace HKG := qH (HKG.out.below hb)
 clear hb
 go_wp2_with fail
 go_loopw [6, 11] (fun v i wq => ∃ (q : Nat) (b' : ByteArray), i = .int .i64 q ∧ v = .string b' ∧ q ≤ kb ∧ b'.size ≤ b.size + 2000001 * q ∧ Hid (b' = lnT (O ++ Lb.take q)) ∧ wq = W7) (fun _ i _ => kb - (intOf i).toNat)
 case atStart => exact ⟨0, b, rfl, rfl, by omega, by omega, qH (by rw [List.take_zero, List.append_nil]; exact HBE.out), rfl⟩
 case round =>
 obtain ⟨q, b', rfl, rfl, hq, hbq, HBQ, hwq⟩ := hrel
 rw [hwq]
 clear hwq
 have hq0 : (0 : Int) ≤ (q : Int) := by omega
 by_cases hlq : q < kb
 case pos =>
   have hq1 : (q : Int) < (kb : Int) := by omega
   obtain ⟨y, hy⟩ := get_of_lt (xs := Lb) (k := q) (by rw [HKB.out]; exact hlq)
   have hyz := HSB.out y (List.mem_of_getElem? hy)
   obtain ⟨bd, hbd, hbb, y0⟩ := scell_at HB2.out hy
   have z3 : (y ++ ⟨#[10]⟩ : ByteArray).size = y.size + 1 := by rw [app_size, l1]
   have a2 := fun (w : World) => run_string_add_sum (P := Tryz.prog) w y ⟨#[10]⟩ (by omega)
   have a3 := fun (w : World) => run_string_add_sum (P := Tryz.prog) w b' (y ++ ⟨#[10]⟩) (by omega)
   have HBQ2 := qH (show b' ++ (y ++ ⟨#[10]⟩) = lnT (O ++ Lb.take (q + 1)) by rw [take_at hy, ← List.append_assoc, lnT_snoc, HBQ.out])
   subst hbd
   clear hy HBQ
   go_wp2_with fail
   exact ⟨⟨q + 1, _, by go_num, rfl, by omega, by rw [app_size, z3]; omega, HBQ2, trivial⟩, by simp [intOf]; omega⟩
 have hq1 : ¬ (q : Int) < (kb : Int) := by omega
 obtain rfl : q = kb := by omega
 have HBF := HBQ.out
 rw [List.take_of_length_le (by rw [HKB.out]; exact Nat.le_refl _)] at HBF
 have HBF2 := qH HBF
 clear HBF HBQ
 go_upto_region 9 with (first | (refine wpList_load_row rfl 32 _ rfl g8 rfl 32 _ (0, 0) _ HK8.out Tryz.underlying32 rfl (by kernel_rfl) ?_) | (refine wpList_store_row rfl 32 _ _ rfl gD #[.int .i64 f2.length, .int .i64 f2.ball, .int .i64 f2.instep, .int .i64 f2.heel, .slice A2 n2 c2, .string s2.upper, .string s2.color, .string s2.lining, .string s2.sole, .int .i64 s2.thick, .int .i64 s2.heel, .int .i64 s2.eyelets, .int .i64 s2.density, .bool s2.double, .string lg2] rfl rfl 32 _ HKG.out (by kernel_rfl) rfl (by simp [Value.oneCell']) ?_))
 have HKN : Hid (Blk (World.setRow W7 gD #[Value.int .i64 f2.length, Value.int .i64 f2.ball, Value.int .i64 f2.instep, Value.int .i64 f2.heel, Value.slice A2 n2 c2, Value.string s2.upper, Value.string s2.color, Value.string s2.lining, Value.string s2.sole, Value.int .i64 s2.thick, Value.int .i64 s2.heel, Value.int .i64 s2.eyelets, Value.int .i64 s2.density, Value.bool s2.double, Value.string lg2]) gD 32 #[.int .i64 f2.length, .int .i64 f2.ball, .int .i64 f2.instep, .int .i64 f2.heel, .slice A2 n2 c2, .string s2.upper, .string s2.color, .string s2.lining, .string s2.sole, .int .i64 s2.thick, .int .i64 s2.heel, .int .i64 s2.eyelets, .int .i64 s2.density, .bool s2.double, .string lg2]) := qH (setRow_heap _ _ _ _ _ _ HKG.out)
 have hg9 := grown_rowX W7 gD #[Value.int .i64 f2.length, Value.int .i64 f2.ball, Value.int .i64 f2.instep, Value.int .i64 f2.heel, Value.slice A2 n2 c2, Value.string s2.upper, Value.string s2.color, Value.string s2.lining, Value.string s2.sole, Value.int .i64 s2.thick, Value.int .i64 s2.heel, Value.int .i64 s2.eyelets, Value.int .i64 s2.density, Value.bool s2.double, Value.string lg2]
 have HAN9 := qH (HA2.out.grown hg9 (fun ad e => by have h9 := HAN2.out ad e; intro e2; injection e2 with e2; exact h9 e2))
 have HAL9 := qH (HAL.out.grown hg9 (fun ad e => by have h9 := HLD2.out ad e; intro e2; injection e2 with e2; exact h9 e2))
 have HV9 := qH (below_rowX HV.out hgDw #[Value.int .i64 f2.length, Value.int .i64 f2.ball, Value.int .i64 f2.instep, Value.int .i64 f2.heel, Value.slice A2 n2 c2, Value.string s2.upper, Value.string s2.color, Value.string s2.lining, Value.string s2.sole, Value.int .i64 s2.thick, Value.int .i64 s2.heel, Value.int .i64 s2.eyelets, Value.int .i64 s2.density, Value.bool s2.double, Value.string lg2])
 obtain ⟨W9, hW9⟩ : ∃ z, z = World.setRow W7 gD #[Value.int .i64 f2.length, Value.int .i64 f2.ball, Value.int .i64 f2.instep, Value.int .i64 f2.heel, Value.slice A2 n2 c2, Value.string s2.upper, Value.string s2.color, Value.string s2.lining, Value.string s2.sole, Value.int .i64 s2.thick, Value.int .i64 s2.heel, Value.int .i64 s2.eyelets, Value.int .i64 s2.density, Value.bool s2.double, Value.string lg2] := ⟨_, rfl⟩
 rw [← hW9] at HKN HAN9 HAL9 HV9 ⊢
 clear hW9 hg9
 go_wp2_with fail
 exact ⟨⟨j + 1, n2, c2, a', b', f2, xs2, s2, lg2, A2, O ++ Lb, by go_num, rfl, rfl, by omega, hasz, by omega, HAE2, HBF2, HGY, HOK2, HN2', HKN, HAN9, HAN2, HAL9, HV9⟩, by simp [intOf]; omega⟩
end Go.Proofs.YtpiehlfffjhoaaaGreatDoor
