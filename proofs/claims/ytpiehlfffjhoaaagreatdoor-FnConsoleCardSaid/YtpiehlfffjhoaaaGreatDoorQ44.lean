/- RunDesk: the program's function. -/
import Derived.Test.YtpiehlfffjhoaaaGreatDoorQ0
import Derived.Test.YtpiehlfffjhoaaaGreatDoorQ43
import Derived.Test.YtpiehlfffjhoaaaGreatDoorQ38
import Derived.Test.YtpiehlfffjhoaaaGreatDoorQ22
import Derived.Deep.CutBlock
import Derived.Deep.DeepCutAuto
namespace Go.Proofs.YtpiehlfffjhoaaaGreatDoor
open Go.RowKit
theorem errW5 : errW 5 = ⟨#[101, 114, 114, 111, 114, 32, 102, 117, 108, 108]⟩ := by decide
theorem dropE_cases (L : List ByteArray) (h : 0 < L.length) : (L[L.length - 1]? = some ⟨#[]⟩ ∧ dropE L = L.take (L.length - 1)) ∨ (∃ y, L[L.length - 1]? = some y ∧ y ≠ ⟨#[]⟩ ∧ dropE L = L) := by
 unfold dropE
 rw [List.getLast?_eq_getElem?]
 by_cases hy : L[L.length - 1]? = some ⟨#[]⟩
 · exact .inl ⟨hy, by rw [if_pos hy, List.dropLast_eq_take]⟩
 · refine .inr ⟨L[L.length - 1]'(by omega), List.getElem?_eq_getElem (by omega), fun e => hy ?_, by rw [if_neg hy]⟩
   rw [List.getElem?_eq_getElem (by omega), e]
theorem app_freshO {P : Program} {o : Oper} {a : Act} {K : Act → World → Prop} {Q : Exit → Act → World → Prop} (w : World) (s x : Operand) (t e : TypeId)
   (ho : o.op = .call { callee := .builtin .append, args := #[s, x], argTypes := #[t, t] })
   (i : TypeInfo) (z : Value) (size bytes : Nat) (ht : P.underlying t = some (.slice e)) (hi : P.info? e = some i) (hz : i.zero = some z)
   (hsize : i.size = size) (hby : i.bytes = bytes) (hzs : z.cells.size = size) (hsz : 0 < size)
   (base : Nat) (A : Option Addr) (n cp : Nat) (cs : List Value) (hs : a.eval s = .slice A n cp) (hown : w.ownsRow base e size (.slice A n cp) n cs)
   (ad : Addr) (m c : Nat) (C : List Value) (hm : 0 < m) (hx : a.eval x = .slice (some ad) m c) (hA : Arr w (some ad) C)
   (hl : C.length = m * size) (h1 : ∀ u ∈ C, u.oneCell' = true) (h63 : n + m ≤ maxLen) (hbytes : (n + m) * bytes ≤ 140737488355328) (hbase : base ≤ w.heap.size)
   (h : ∀ g c' w', w'.ownsRow base e size (.slice (some ⟨g, 0, none⟩) (n + m) c') (n + m) (cs ++ C) → w.grownBy w' (A.map (·.block)) → (A = some ⟨g, 0, none⟩ ∨ g = w.heap.size) → K (a.put o.dst (.slice (some ⟨g, 0, none⟩) (n + m) c')) w') :
   o.wp P a w K Q := by
 obtain ⟨g, c', w', hr, h2, h3, h4⟩ := run_append_fresh (P := P) w base t o.type e i z size bytes ht hi hz hsize hby hzs hsz A n cp cs hown ad m c C hm hl (fun j u hu => by
   obtain ⟨ad', e', _, hc⟩ := hA (by have := (List.getElem?_eq_some_iff.1 hu).1; omega)
   injection e' with e'
   subst e'
   exact hc j u hu) h1 h63 hbytes hbase
 unfold Oper.wp execOp
 simp only [ho, resolve, invoke, builtin, Sem.run_bind, Sem.run_pure, Result.andThen_ok, List.map_toArray, List.map_cons, List.map_nil, hs, hx, hr]
 exact h g c' w' h2 h3 h4
theorem scells_one (L : List ByteArray) : ∀ u ∈ flat scell L, u.oneCell' = true := by
 intro u hu
 rw [flat_str] at hu
 obtain ⟨y, _, rfl⟩ := List.mem_map.1 hu
 rfl
set_option maxRecDepth 100000 in
set_option maxHeartbeats 16000000 in
theorem RunDesk_c (t : ByteArray) (hz : t.size ≤ 1048576) (w : World) (hT : Tabs w) (hC : ChgN w) (hE : CdN w) : Calls Tryz.prog 12 #[.string t] w (Ret (.string (runT t)) w) := by
 obtain ⟨i0, hi0, hz0, hz1, hz2⟩ := info_parts (P := Tryz.prog) (e := 9) (z := .string ByteArray.empty) (size := 1) (bytes := 16) infoStrT
 have HT := qH hT
 have HC := qH hC
 have HE := qH hE
 have HSP := fun w h => SplitC_c 10 t (by omega) w h
 have hm0 := splC_pos 10 t
 have hm1 := Nat.le_trans (splC_le 10 t) (Nat.succ_le_succ hz)
 have hls := fun y (h : y ∈ splC 10 t) => Nat.le_trans (splC_part h) hz
 have hdc := dropE_cases (splC 10 t) hm0
 have hrt : runT t = lnT (runG 60 newDk (dropE (splC 10 t))) := rfl
 obtain ⟨L, hL⟩ : ∃ z, z = splC 10 t := ⟨_, rfl⟩
 rw [← hL] at HSP hm0 hm1 hls hdc hrt
 obtain ⟨m, hm⟩ : ∃ z, z = L.length := ⟨_, rfl⟩
 rw [← hm] at HSP hm0 hm1 hdc
 have HML : Hid (L.length = m) := qH hm.symm
 replace HSP := qH HSP
 have HLS := qH hls
 have HDC := qH hdc
 have HRT := qH hrt
 clear hT hC hE hL hm hls hdc hrt
 go_enter Tryz.func12, Tryz.ntmps12
 go_wp2_with fail
 refine (HSP.out _ HT.out).mono ?_
 rintro e W1 ⟨rfl, hW1⟩
 obtain ⟨g1, hg1⟩ : ∃ z, z = w.heap.size := ⟨_, rfl⟩
 have HAL : Hid (Arr W1 (some ⟨g1, 0, none⟩) (flat scell L)) := qH (by rw [hW1, hg1, flat_str]; exact arr_new_cells _ _ _)
 have hv : Below w.heap.size w W1 := by rw [hW1]; exact bl_alloc (Below.refl _ _) _
 have hg1w : w.heap.size ≤ g1 := by omega
 have hg1l : g1 < W1.heap.size := by rw [hW1, hg1, World.size_alloc]; omega
 rw [← hg1]
 clear hW1 hg1 HSP
 obtain ⟨mp, hmp⟩ : ∃ z, z = m - 1 := ⟨_, rfl⟩
 have hmp1 : (m : Int) - 1 = (mp : Int) := by omega
 have hmp2 : (mp : Int) < (m : Int) := by omega
 have hmp3 : (0 : Int) ≤ (mp : Int) := by omega
 have hmp4 : (mp : Int) ≤ (m : Int) := by omega
 have hmp5 : mp ≤ m := by omega
 have HMP := qH hmp
 have HDC2 := HDC.out
 rw [← hmp] at HDC2
 have HDC3 := qH HDC2
 clear HDC HDC2 hmp
 obtain ⟨yl, hyl⟩ := get_of_lt (xs := L) (k := mp) (by rw [HML.out]; omega)
 have x0 := scell_lit HAL.out hyl
 have HYL := qH hyl
 clear hyl
 go_upto_if 24 with fail
 go_cut [3] (fun v wx => ∃ (m2 : Nat) (M : List ByteArray), v = .slice (some ⟨g1, 0, none⟩) m2 m ∧ M.length = m2 ∧ m2 ≤ m ∧ Hid (M = dropE L) ∧ Hid (∀ y ∈ M, y ∈ L) ∧ Hid (Arr wx (some ⟨g1, 0, none⟩) (flat scell M)) ∧ wx = W1)
 case first =>
   have HYE : yl.toList.isEmpty = decide (yl.size = 0) := empty_beq yl
   rcases HDC3.out with ⟨h1, h2⟩ | ⟨y, h1, h2, h3⟩
   · rw [HYL.out] at h1
     injection h1 with h1
     subst h1
     have HM : Hid (dropE L = L.take mp) := qH h2
     have hye : (⟨#[]⟩ : ByteArray).toList.isEmpty = true := HYE.trans (by decide)
     clear HYL HYE h2
     try rw [hye]
     go_wp2_with fail
     go_meet
     exact ⟨mp, L.take mp, rfl, by rw [List.length_take, HML.out]; omega, hmp5, qH HM.out.symm, qH (fun y hy => List.mem_of_mem_take hy), qH (by rw [flat_str, List.map_take, ← flat_str]; exact HAL.out.take mp), rfl⟩
   · rw [HYL.out] at h1
     injection h1 with h1
     subst h1
     rw [decide_eq_false (fun e => h2 (size_zeroB e))] at HYE
     have HM : Hid (dropE L = L) := qH h3
     clear HYL h2 h3
     try rw [HYE]
     go_wp2_with fail
     go_meet
     exact ⟨m, L, rfl, HML.out, Nat.le_refl _, qH HM.out.symm, qH (fun y hy => hy), HAL, rfl⟩
 case rest =>
 obtain ⟨m2, M, rfl, hM2, hm2, HM, HMS, HAM, hw⟩ := hcut
 rw [hw] at HAM ⊢
 clear hw x0 HYL HDC3 HAL
 have HM2 := qH hM2
 clear hM2
 go_wp2_with fail
 refine (NewDesk_c _).mono ?_
 rintro e W2 ⟨rfl, hb⟩
 replace HAM := qH (HAM.out.below hb)
 have hg1l2 := Nat.lt_of_lt_of_le hg1l hb.size
 replace hv := bl_trans hv hb
 clear hb
 obtain ⟨b0, hb0⟩ : ∃ z, z = W2.heap.size := ⟨_, rfl⟩
 obtain ⟨gD, hgD⟩ : ∃ z, z = W2.heap.size + 1 := ⟨_, rfl⟩
 obtain ⟨W3, hW3⟩ : ∃ z, z = (W2.alloc (Obj.cells #[] 9)).alloc (Obj.cells #[.int .i64 0, .int .i64 0, .int .i64 0, .int .i64 0, .slice none 0 0, .string ⟨#[]⟩, .string ⟨#[]⟩, .string ⟨#[]⟩, .string ⟨#[]⟩, .int .i64 0, .int .i64 0, .int .i64 0, .int .i64 0, .bool false, .string ⟨#[]⟩] 32) := ⟨_, rfl⟩
 have HR3 : Hid (W3.ownsRow b0 9 1 (.slice (some ⟨b0, 0, none⟩) 0 0) 0 (flat scell [])) := qH (by rw [hW3, hb0]; exact (own_empty W2 W2.heap.size 9 1 (Nat.le_refl _)).alloc _)
 have HK3 : Hid (Blk W3 gD 32 #[.int .i64 0, .int .i64 0, .int .i64 0, .int .i64 0, .slice none 0 0, .string ⟨#[]⟩, .string ⟨#[]⟩, .string ⟨#[]⟩, .string ⟨#[]⟩, .int .i64 0, .int .i64 0, .int .i64 0, .int .i64 0, .bool false, .string ⟨#[]⟩]) := qH (by
   have h := Blk.new (W2.alloc (Obj.cells #[] 9)) 32 #[Value.int .i64 0, Value.int .i64 0, Value.int .i64 0, Value.int .i64 0, Value.slice none 0 0, Value.string ⟨#[]⟩, Value.string ⟨#[]⟩, Value.string ⟨#[]⟩, Value.string ⟨#[]⟩, Value.int .i64 0, Value.int .i64 0, Value.int .i64 0, Value.int .i64 0, Value.bool false, Value.string ⟨#[]⟩]
   rw [World.size_alloc] at h
   rw [hW3, hgD]; exact h)
 have hb : Below W2.heap.size W2 W3 := by rw [hW3]; exact bl_alloc (bl_alloc (Below.refl _ _) _) _
 have hgDb : b0 ≠ gD := by omega
 have hgDw : w.heap.size ≤ gD := by have := hv.size; omega
 have hg1D : g1 < gD := by omega
 have hg1b : g1 < b0 := by omega
 have hb0w : w.heap.size ≤ b0 := by have := hv.size; omega
 have hb03 : b0 ≤ W3.heap.size := by have := hb.size; omega
 replace HAM := qH (HAM.out.below hb)
 replace hv := bl_trans hv hb
 have HE1 := qH hb0
 have HE2 := qH hgD
 have HE3 := qH hW3
 clear hb0 hgD hW3 hb hg1l hg1l2
 go_upto_region 6 with (rw [← HE3.out, ← HE2.out, ← HE1.out]; refine wpList_store_row rfl 32 _ _ rfl gD #[.int .i64 2500, .int .i64 2400, .int .i64 2500, .int .i64 3200, .slice none 0 0, .string ⟨#[99, 97, 108, 102]⟩, .string ⟨#[98, 108, 97, 99, 107]⟩, .string ⟨#[]⟩, .string ⟨#[108, 101, 97, 116, 104, 101, 114]⟩, .int .i64 40, .int .i64 0, .int .i64 0, .int .i64 0, .bool false, .string ⟨#[]⟩] rfl rfl 32 _ HK3.out (by kernel_rfl) rfl (by simp [Value.oneCell']) ?_)
 have HK4 : Hid (Blk (World.setRow W3 gD #[Value.int .i64 2500, Value.int .i64 2400, Value.int .i64 2500, Value.int .i64 3200, Value.slice none 0 0, Value.string ⟨#[99, 97, 108, 102]⟩, Value.string ⟨#[98, 108, 97, 99, 107]⟩, Value.string ⟨#[]⟩, Value.string ⟨#[108, 101, 97, 116, 104, 101, 114]⟩, Value.int .i64 40, Value.int .i64 0, Value.int .i64 0, Value.int .i64 0, Value.bool false, Value.string ⟨#[]⟩]) gD 32 #[.int .i64 2500, .int .i64 2400, .int .i64 2500, .int .i64 3200, .slice none 0 0, .string ⟨#[99, 97, 108, 102]⟩, .string ⟨#[98, 108, 97, 99, 107]⟩, .string ⟨#[]⟩, .string ⟨#[108, 101, 97, 116, 104, 101, 114]⟩, .int .i64 40, .int .i64 0, .int .i64 0, .int .i64 0, .bool false, .string ⟨#[]⟩]) := qH (setRow_heap _ _ _ _ _ _ HK3.out)
 have hg4 := grown_rowX W3 gD #[Value.int .i64 2500, Value.int .i64 2400, Value.int .i64 2500, Value.int .i64 3200, Value.slice none 0 0, Value.string ⟨#[99, 97, 108, 102]⟩, Value.string ⟨#[98, 108, 97, 99, 107]⟩, Value.string ⟨#[]⟩, Value.string ⟨#[108, 101, 97, 116, 104, 101, 114]⟩, Value.int .i64 40, Value.int .i64 0, Value.int .i64 0, Value.int .i64 0, Value.bool false, Value.string ⟨#[]⟩]
 have HR4 := qH (own_row (g := gD) HR3.out (fun k e => by have e2 : b0 = k := (by simpa [Value.ownBlock] using e); omega) #[Value.int .i64 2500, Value.int .i64 2400, Value.int .i64 2500, Value.int .i64 3200, Value.slice none 0 0, Value.string ⟨#[99, 97, 108, 102]⟩, Value.string ⟨#[98, 108, 97, 99, 107]⟩, Value.string ⟨#[]⟩, Value.string ⟨#[108, 101, 97, 116, 104, 101, 114]⟩, Value.int .i64 40, Value.int .i64 0, Value.int .i64 0, Value.int .i64 0, Value.bool false, Value.string ⟨#[]⟩])
 have HA4 := qH (HAM.out.grown hg4 (fun ad e => by injection e with e; subst e; intro e2; injection e2 with e2; dsimp only at e2; omega))
 have hv4 := below_rowX hv hgDw #[Value.int .i64 2500, Value.int .i64 2400, Value.int .i64 2500, Value.int .i64 3200, Value.slice none 0 0, Value.string ⟨#[99, 97, 108, 102]⟩, Value.string ⟨#[98, 108, 97, 99, 107]⟩, Value.string ⟨#[]⟩, Value.string ⟨#[108, 101, 97, 116, 104, 101, 114]⟩, Value.int .i64 40, Value.int .i64 0, Value.int .i64 0, Value.int .i64 0, Value.bool false, Value.string ⟨#[]⟩]
 have hb04 : b0 ≤ (World.setRow W3 gD #[Value.int .i64 2500, Value.int .i64 2400, Value.int .i64 2500, Value.int .i64 3200, Value.slice none 0 0, Value.string ⟨#[99, 97, 108, 102]⟩, Value.string ⟨#[98, 108, 97, 99, 107]⟩, Value.string ⟨#[]⟩, Value.string ⟨#[108, 101, 97, 116, 104, 101, 114]⟩, Value.int .i64 40, Value.int .i64 0, Value.int .i64 0, Value.int .i64 0, Value.bool false, Value.string ⟨#[]⟩]).heap.size := by have := hg4.size; omega
 obtain ⟨W4, hW4⟩ : ∃ z, z = World.setRow W3 gD #[Value.int .i64 2500, Value.int .i64 2400, Value.int .i64 2500, Value.int .i64 3200, Value.slice none 0 0, Value.string ⟨#[99, 97, 108, 102]⟩, Value.string ⟨#[98, 108, 97, 99, 107]⟩, Value.string ⟨#[]⟩, Value.string ⟨#[108, 101, 97, 116, 104, 101, 114]⟩, Value.int .i64 40, Value.int .i64 0, Value.int .i64 0, Value.int .i64 0, Value.bool false, Value.string ⟨#[]⟩] := ⟨_, rfl⟩
 rw [← hW4] at HK4 HR4 HA4 hv4 hb04 ⊢
 clear hW4 HK3 HR3 HAM hv hg4 HE1 HE2 HE3 hb03
 have HG0 : Hid (runG 60 newDk M = [] ++ runG (60 - 0) newDk (M.drop 0)) := qH rfl
 have HRT2 : Hid (runT t = lnT (runG 60 newDk M)) := qH (by rw [HRT.out, HM.out])
 clear HRT HM
 go_wp2_with fail
 go_loopw [6, 32] (fun v i wr => ∃ (j k gr c' n c : Nat) (f : Foot) (xs : List Last) (s : Style) (lg : ByteArray) (A : Option Addr) (O : List ByteArray), i = .int .i64 j ∧ v = .slice (some ⟨gr, 0, none⟩) k c' ∧ j ≤ m2 ∧ j ≤ 60 ∧ k ≤ 5000 * j ∧ gr ≠ gD ∧ Hid (O.length = k) ∧ Hid (∀ y ∈ O, y.size ≤ 2000000) ∧ Hid (runG 60 newDk M = O ++ runG (60 - j) ⟨f, xs, s, lg⟩ (M.drop j)) ∧ Hid ((⟨f, xs, s, lg⟩ : Dk).ok = true) ∧ Hid (xs.length = n) ∧ Hid (Blk wr gD 32 #[.int .i64 f.length, .int .i64 f.ball, .int .i64 f.instep, .int .i64 f.heel, .slice A n c, .string s.upper, .string s.color, .string s.lining, .string s.sole, .int .i64 s.thick, .int .i64 s.heel, .int .i64 s.eyelets, .int .i64 s.density, .bool s.double, .string lg]) ∧ Hid (Arr wr A (flat Last.cells xs)) ∧ Hid (∀ ad, A = some ad → ad.block ≠ gr ∧ ad.block ≠ gD ∧ ad.block < wr.heap.size) ∧ Hid (Arr wr (some ⟨g1, 0, none⟩) (flat scell M)) ∧ Hid (wr.ownsRow b0 9 1 (.slice (some ⟨gr, 0, none⟩) k c') k (flat scell O)) ∧ b0 ≤ wr.heap.size ∧ Hid (Below w.heap.size w wr)) (fun _ i _ => m2 - (intOf i).toNat)
 case atStart => exact ⟨0, 0, b0, 0, 0, 0, ⟨2500, 2400, 2500, 3200⟩, [], newDk.s, ⟨#[]⟩, none, [], rfl, rfl, by omega, by omega, by omega, hgDb, qH rfl, qH (fun y hy => by cases hy), HG0, qH newDk_ok, qH rfl, HK4, qH (Arr.nil _ _), qH (fun ad e => by cases e), HA4, HR4, hb04, qH hv4⟩
 case round =>
 clear HG0 HK4 HR4 HA4 hv4 hb04 hgDb
 obtain ⟨j, k, gr, c', n, c, f, xs, s, lg, A, O, rfl, rfl, hj, hj60, hk, hgr, HKL, HSM, HRG, HOK, hn, HK, HA, HAN, HAM, HR, hbw, HV⟩ := hrel
 have hi0' : (0 : Int) ≤ (j : Int) := by omega
 by_cases hlt : j < m2
 case neg =>
   have hi1 : ¬ (j : Int) < (m2 : Int) := by omega
   have HRES := qH (show runT t = lnT O by
     rw [HRT2.out, HRG.out, List.drop_eq_nil_of_le (by rw [HM2.out]; omega), runG_nil, List.append_nil])
   have HVV := HV.out
   clear HRG HOK HK HA HAN HAM HV
   have hlz := HKL.out
   go_wp2_with fail
   rename World => wz
   go_loopw [12, 61] (fun v i wq => ∃ (q : Nat) (a : ByteArray), i = .int .i64 q ∧ v = .string a ∧ q ≤ k ∧ a.size ≤ 2000001 * q ∧ Hid (a = lnT (O.take q)) ∧ wq = wz) (fun _ i _ => k - (intOf i).toNat)
   case atStart => exact ⟨0, ⟨#[]⟩, rfl, rfl, by omega, by decide, qH rfl, rfl⟩
   case round =>
   obtain ⟨q, a, rfl, rfl, hq, haz, HAQ, rfl⟩ := hrel
   have hq0 : (0 : Int) ≤ (q : Int) := by omega
   by_cases hlq : q < k
   case neg =>
     have hq1 : ¬ (q : Int) < (k : Int) := by omega
     obtain rfl : q = k := by omega
     have HF := HAQ.out
     rw [List.take_of_length_le (by rw [hlz]; exact Nat.le_refl _)] at HF
     have HFF := qH HF
     clear HF
     go_wp2_with fail
     go_returns
     exact Ret.mk (vs (by rw [HFF.out, HRES.out])) HVV
   have hq1 : (q : Int) < (k : Int) := by omega
   obtain ⟨y, hy⟩ := get_of_lt (xs := O) (k := q) (by rw [hlz]; exact hlq)
   have hyz := HSM.out y (List.mem_of_getElem? hy)
   have y0 := scell_lit (Arr.own HR.out) hy
   have l1 : (⟨#[10]⟩ : ByteArray).size = 1 := rfl
   have z2 : (y ++ ⟨#[10]⟩ : ByteArray).size = y.size + 1 := by rw [app_size, l1]
   have a0 := fun (w : World) => run_string_add_sum (P := Tryz.prog) w y ⟨#[10]⟩ (by omega)
   have a1 := fun (w : World) => run_string_add_sum (P := Tryz.prog) w a (y ++ ⟨#[10]⟩) (by omega)
   have HA2 := qH (show a ++ (y ++ ⟨#[10]⟩) = lnT (O.take (q + 1)) by rw [take_at hy, lnT_snoc, HAQ.out])
   clear hy HAQ
   go_wp2_with fail
   exact ⟨⟨q + 1, _, by go_num, rfl, by omega, by rw [app_size, z2]; omega, HA2, trivial⟩, by simp [intOf]; omega⟩
 have hi1 : (j : Int) < (m2 : Int) := by omega
 obtain ⟨line, hline⟩ := get_of_lt (xs := M) (k := j) (by rw [HM2.out]; exact hlt)
 have hlz := HLS.out line (HMS.out line (List.mem_of_getElem? hline))
 have x1 := scell_lit HAM.out hline
 have HDR := qH (drop_at hline)
 clear hline
 by_cases h60 : j = 60
 case pos =>
   subst h60
   have hat := own_at HR.out
   have HG2 := qH (show runG 60 newDk M = O ++ [errW 5] by rw [HRG.out, HDR.out]; rfl)
   clear HRG HDR HOK HK HA HAN HAM
   have hbz := HV.out.size
   go_upto_region 16 with (at_builtin; refine app_own wr #[.string ⟨#[101, 114, 114, 111, 114, 32, 102, 117, 108, 108]⟩] rfl _ _ 24 9 rfl i0 _ 1 16 Tryz.underlying24 hi0 hz0 hz1 hz2 rfl (by omega) b0 (.slice (some ⟨gr, 0, none⟩) k c') k _ rfl rfl HR.out rfl (by simp [Value.oneCell']) (by unfold maxLen; omega) (by omega) hbw ?_; intro A5 c5 w5 hown5 hg5)
   have HVV := bl_grown HV.out hg5 (fun k e => Nat.le_trans hb0w (hat k e))
   have e9 : flat scell (O ++ [errW 5]) = flat scell O ++ #[Value.string ⟨#[101, 114, 114, 111, 114, 32, 102, 117, 108, 108]⟩].toList := by rw [errW5]; simp [flat, scell]
   rw [← e9] at hown5
   obtain ⟨g5, rfl⟩ := own_addr hown5 (by omega)
   obtain ⟨k5, hk5⟩ : ∃ z, z = k + 1 := ⟨_, rfl⟩
   rw [← hk5] at hown5 ⊢
   obtain ⟨O5, hO5⟩ : ∃ z, z = O ++ [errW 5] := ⟨_, rfl⟩
   rw [← hO5] at hown5
   have HR5 := qH hown5
   have HKL5 : Hid (O5.length = k5) := qH (by rw [hO5, hk5, List.length_append, HKL.out]; rfl)
   have HSM5 : Hid (∀ y ∈ O5, y.size ≤ 2000000) := qH (fun y hy => by
     rw [hO5] at hy
     rcases List.mem_append.1 hy with hy | hy
     · exact HSM.out y hy
     · obtain rfl : y = errW 5 := by simpa using hy
       decide)
   have HRES := qH (show runT t = lnT O5 by rw [HRT2.out, HG2.out, hO5])
   have hk6 : k5 ≤ 300001 := by omega
   clear hown5 hg5 hO5 hk5 e9 HG2 HR HKL HSM x1 hk hat HV
   have hlz := HKL5.out
   go_wp2_with fail
   rename World => wz
   go_loopw [12, 61] (fun v i wq => ∃ (q : Nat) (a : ByteArray), i = .int .i64 q ∧ v = .string a ∧ q ≤ k5 ∧ a.size ≤ 2000001 * q ∧ Hid (a = lnT (O5.take q)) ∧ wq = wz) (fun _ i _ => k5 - (intOf i).toNat)
   case atStart => exact ⟨0, ⟨#[]⟩, rfl, rfl, by omega, by decide, qH rfl, rfl⟩
   case round =>
   obtain ⟨q, a, rfl, rfl, hq, haz, HAQ, rfl⟩ := hrel
   have hq0 : (0 : Int) ≤ (q : Int) := by omega
   by_cases hlq : q < k5
   case neg =>
     have hq1 : ¬ (q : Int) < (k5 : Int) := by omega
     obtain rfl : q = k5 := by omega
     have HF := HAQ.out
     rw [List.take_of_length_le (by rw [hlz]; exact Nat.le_refl _)] at HF
     have HFF := qH HF
     clear HF
     go_wp2_with fail
     go_returns
     exact Ret.mk (vs (by rw [HFF.out, HRES.out])) HVV
   have hq1 : (q : Int) < (k5 : Int) := by omega
   obtain ⟨y, hy⟩ := get_of_lt (xs := O5) (k := q) (by rw [hlz]; exact hlq)
   have hyz := HSM5.out y (List.mem_of_getElem? hy)
   have y0 := scell_lit (Arr.own HR5.out) hy
   have l1 : (⟨#[10]⟩ : ByteArray).size = 1 := rfl
   have z2 : (y ++ ⟨#[10]⟩ : ByteArray).size = y.size + 1 := by rw [app_size, l1]
   have a0 := fun (w : World) => run_string_add_sum (P := Tryz.prog) w y ⟨#[10]⟩ (by omega)
   have a1 := fun (w : World) => run_string_add_sum (P := Tryz.prog) w a (y ++ ⟨#[10]⟩) (by omega)
   have HA2 := qH (show a ++ (y ++ ⟨#[10]⟩) = lnT (O5.take (q + 1)) by rw [take_at hy, lnT_snoc, HAQ.out])
   clear hy HAQ
   go_wp2_with fail
   exact ⟨⟨q + 1, _, by go_num, rfl, by omega, by rw [app_size, z2]; omega, HA2, trivial⟩, by simp [intOf]; omega⟩
 have hn60 : ¬ (j : Int) = 60 := by omega
 obtain ⟨hfB, hlB, hsB, hcB⟩ := ok_parts HOK.out
 dsimp only at hfB hlB hsB hcB
 have hn30 : n ≤ 30 := by
   have h := las_len hlB
   rw [hn.out] at h
   exact h
 have hlg := cdL_small hcB
 have HDCm := DeskCommand_c f s lg A xs n c hn (by omega) (qH (fun x hx => Nat.le_trans (lastB_name (las_mem hlB x hx)) (by omega))) (qH (sty_fits hsB)) (by omega) line hlz wr HA.out (HT.out.below HV.out) (HC.out.below HV.out) (HE.out.below HV.out)
 have HCO : (cmdD ⟨f, xs, s, lg⟩ line).2.2 = 0 → (cmdD ⟨f, xs, s, lg⟩ line).1.ok = true ∧ (cmdD ⟨f, xs, s, lg⟩ line).2.1 ≠ [] := fun h => by
   rcases cmdD_ok HOK.out line with ⟨h7, _⟩ | ⟨_, _, _, h1, h2⟩
   · rw [h7] at h; cases h
   · exact ⟨h1, h2⟩
 have HSL := cmd_small HOK.out line
 have HYE := fun (h : (cmdD ⟨f, xs, s, lg⟩ line).2.2 = 0) => runG_cons_yes (k := 59 - j) (r := M.drop (j + 1)) h
 have HNN := fun (h : ¬ (cmdD ⟨f, xs, s, lg⟩ line).2.2 = 0) => runG_cons_no (k := 59 - j) (r := M.drop (j + 1)) h
 have e60 : 60 - j = (59 - j) + 1 := by omega
 have e61 : 60 - (j + 1) = 59 - j := by omega
 have HRG2 := HRG.out
 rw [HDR.out, e60] at HRG2
 obtain ⟨r, hr⟩ : ∃ z, z = cmdD ⟨f, xs, s, lg⟩ line := ⟨_, rfl⟩
 rw [← hr] at HDCm HCO HSL HYE HNN
 clear hr
 obtain ⟨⟨f2, xs2, s2, lg2⟩, Lb, co⟩ := r
 dsimp only at HCO HSL HYE HNN
 have HC2 := qH HCO
 have HS2 := qH HSL
 have HY2 := qH HYE
 have HN2 := qH HNN
 have HG2 := qH HRG2
 have HDM := qH HDCm
 have HE61 := qH e61
 clear HCO HSL HYE HNN HRG2 HDCm hfB hlB hsB hcB e60 e61 HRG HDR
 go_wp2_with (refine wpList_load_row rfl 32 _ rfl gD rfl 32 _ (0, 0) _ HK.out Tryz.underlying32 rfl (by kernel_rfl) ?_)
 refine HDM.out.mono ?_
 rintro e W5 ⟨A2, n2, c2, B, kb, cb, rfl, hb, hn2, hkb, lo, mid, hlo, hO2, hB2⟩
 dsimp only at hn2 hkb hO2 hB2
 have hgrl := own_lt HR.out gr rfl
 have hgDl := HK.out.lt
 clear HDM x1
 have hz5 := hb.size
 obtain ⟨g9, hg9⟩ : ∃ z, z = W5.heap.size := ⟨_, rfl⟩
 obtain ⟨W6, hW6⟩ : ∃ z, z = W5.alloc (Obj.cells #[.int .i64 0, .int .i64 0, .int .i64 0, .int .i64 0, .slice none 0 0, .string ⟨#[]⟩, .string ⟨#[]⟩, .string ⟨#[]⟩, .string ⟨#[]⟩, .int .i64 0, .int .i64 0, .int .i64 0, .int .i64 0, .bool false, .string ⟨#[]⟩] 32) := ⟨_, rfl⟩
 have HK0 : Hid (Blk W6 g9 32 #[.int .i64 0, .int .i64 0, .int .i64 0, .int .i64 0, .slice none 0 0, .string ⟨#[]⟩, .string ⟨#[]⟩, .string ⟨#[]⟩, .string ⟨#[]⟩, .int .i64 0, .int .i64 0, .int .i64 0, .int .i64 0, .bool false, .string ⟨#[]⟩]) := qH (by rw [hW6, hg9]; exact Blk.new _ _ _)
 have hb6 : Below W5.heap.size W5 W6 := by rw [hW6]; exact bl_alloc (Below.refl _ _) _
 have hg95 : W5.heap.size ≤ g9 := by omega
 have HE1 := qH hg9
 have HE2 := qH hW6
 clear hg9 hW6
 go_upto_region 12 with (rw [← HE2.out, ← HE1.out]; refine wpList_store_row rfl 32 _ _ rfl g9 #[.int .i64 f2.length, .int .i64 f2.ball, .int .i64 f2.instep, .int .i64 f2.heel, .slice A2 n2 c2, .string s2.upper, .string s2.color, .string s2.lining, .string s2.sole, .int .i64 s2.thick, .int .i64 s2.heel, .int .i64 s2.eyelets, .int .i64 s2.density, .bool s2.double, .string lg2] rfl rfl 32 _ HK0.out (by kernel_rfl) rfl (by simp [Value.oneCell']) ?_)
 have HK9 : Hid (Blk (World.setRow W6 g9 #[Value.int .i64 f2.length, Value.int .i64 f2.ball, Value.int .i64 f2.instep, Value.int .i64 f2.heel, Value.slice A2 n2 c2, Value.string s2.upper, Value.string s2.color, Value.string s2.lining, Value.string s2.sole, Value.int .i64 s2.thick, Value.int .i64 s2.heel, Value.int .i64 s2.eyelets, Value.int .i64 s2.density, Value.bool s2.double, Value.string lg2]) g9 32 #[.int .i64 f2.length, .int .i64 f2.ball, .int .i64 f2.instep, .int .i64 f2.heel, .slice A2 n2 c2, .string s2.upper, .string s2.color, .string s2.lining, .string s2.sole, .int .i64 s2.thick, .int .i64 s2.heel, .int .i64 s2.eyelets, .int .i64 s2.density, .bool s2.double, .string lg2]) := qH (setRow_heap _ _ _ _ _ _ HK0.out)
 have hb57 := below_rowX hb6 hg95 #[Value.int .i64 f2.length, Value.int .i64 f2.ball, Value.int .i64 f2.instep, Value.int .i64 f2.heel, Value.slice A2 n2 c2, Value.string s2.upper, Value.string s2.color, Value.string s2.lining, Value.string s2.sole, Value.int .i64 s2.thick, Value.int .i64 s2.heel, Value.int .i64 s2.eyelets, Value.int .i64 s2.density, Value.bool s2.double, Value.string lg2]
 obtain ⟨W7, hW7⟩ : ∃ z, z = World.setRow W6 g9 #[Value.int .i64 f2.length, Value.int .i64 f2.ball, Value.int .i64 f2.instep, Value.int .i64 f2.heel, Value.slice A2 n2 c2, Value.string s2.upper, Value.string s2.color, Value.string s2.lining, Value.string s2.sole, Value.int .i64 s2.thick, Value.int .i64 s2.heel, Value.int .i64 s2.eyelets, Value.int .i64 s2.density, Value.bool s2.double, Value.string lg2] := ⟨_, rfl⟩
 rw [← hW7] at HK9 hb57 ⊢
 clear hW7 HK0 hb6 HE1 HE2
 have hbb := bl_trans hb hb57
 have hz7 := hb57.size
 replace HK := qH (HK.out.below hbb)
 replace HA := qH (HA.out.below hbb)
 replace HAM := qH (HAM.out.below hbb)
 replace HR := qH (own_below HR.out hbb)
 replace HV := qH (bl_trans HV.out hbb)
 have HO2 := qH (hO2.below hb57)
 have HB2 := qH (own_below hB2 hb57)
 have HN3 := qH hn2
 have HKB := qH hkb
 have hlm := hO2.2.1
 clear hb hb57 hbb hO2 hB2 hn2 hkb
 have hat := own_at HR.out
 have hrow : ∀ p : Nat, p ≠ gr → some p ≠ Option.map (·.block) (some (⟨gr, 0, none⟩ : Addr)) := fun p h e => by
   injection e with e
   exact h e
 by_cases hc : co = 0
 case neg =>
   have hGN : runG 60 newDk M = (O ++ [askW]) ++ runG (60 - (j + 1)) ⟨f, xs, s, lg⟩ (M.drop (j + 1)) := by
     rw [HG2.out, HN2.out hc, HE61.out, List.append_assoc]
   have HGN := qH hGN
   clear hGN HG2 HN2 HY2 HC2 HS2 HB2 HO2
   go_wp2_with (at_builtin; refine app_fresh1 W7 #[.string ⟨#[63]⟩] rfl _ _ 24 9 rfl i0 _ 1 16 Tryz.underlying24 hi0 hz0 hz1 hz2 rfl (by omega) b0 (some ⟨gr, 0, none⟩) k c' _ rfl _ rfl rfl HR.out rfl (by simp [Value.oneCell']) (by unfold maxLen; omega) (by omega) (by omega) ?_; intro g7 c7 w7 hown7 hg7 hfr7)
   have e9 : flat scell (O ++ [askW]) = flat scell O ++ #[Value.string ⟨#[63]⟩].toList := by simp [flat, scell, askW]
   rw [← e9] at hown7
   have hr7 : ∀ p, p < W7.heap.size → p ≠ gr → p ≠ g7 := fun p h1 h2 => by
     rcases hfr7 with e7 | e7
     · injection e7 with e7
       injection e7 with e7
       omega
     · omega
   have hz8 := hg7.size
   refine ⟨⟨j + 1, k + 1, g7, c7, n, c, f, xs, s, lg, A, O ++ [askW], by go_num, rfl, by omega, by omega, by omega, fun e => hr7 gD HK.out.lt (fun e2 => hgr e2.symm) e.symm, qH (by rw [List.length_append, HKL.out]; rfl), qH (fun y hy => ?_), HGN, HOK, hn, qH (HK.out.grown hg7 (hrow gD (fun e2 => hgr e2.symm))), qH (HA.out.grown hg7 (fun ad e => hrow _ (HAN.out ad e).1)), qH (fun ad e => ⟨hr7 _ (by have := (HAN.out ad e).2.2; omega) (HAN.out ad e).1, (HAN.out ad e).2.1, by have := (HAN.out ad e).2.2; omega⟩), qH (HAM.out.grown hg7 (fun ad e => by injection e with e; subst e; exact hrow _ (by dsimp only; have := hat gr rfl; omega))), qH hown7, by omega, qH (bl_grown HV.out hg7 (fun p e => Nat.le_trans hb0w (hat p e)))⟩, by simp [intOf]; omega⟩
   · rcases List.mem_append.1 hy with hy | hy
     · exact HSM.out y hy
     · obtain rfl : y = askW := by simpa using hy
       decide
 subst hc
 obtain ⟨hok2, hne2⟩ := HC2.out rfl
 have HGY := qH (show runG 60 newDk M = (O ++ Lb) ++ runG (60 - (j + 1)) ⟨f2, xs2, s2, lg2⟩ (M.drop (j + 1)) by
   rw [HG2.out, HY2.out rfl, HE61.out, List.append_assoc])
 obtain ⟨hs1, hs2⟩ := HS2.out
 have HSB := qH hs2
 have HOK2 := qH hok2
 have hkb5 : kb ≤ 5000 := by rw [← HKB.out]; exact hs1
 have hkb0 : 0 < kb := by rw [← HKB.out]; exact List.length_pos_iff.2 hne2
 clear HG2 HY2 HN2 HC2 HS2 hs1 hs2 hok2 hne2 HOK HA HAN
 obtain ⟨gb, rfl⟩ := own_addr HB2.out hkb0
 have hgb := own_at HB2.out gb rfl
 have HLB : Hid ((flat scell Lb).length = kb * 1) := qH (by rw [flat_str, List.length_map, HKB.out]; omega)
 have HAB := qH (Arr.own HB2.out)
 have HL2 : Hid (∀ ad, A2 = some ad → lo ≤ ad.block ∧ ad.block < W7.heap.size) := qH (fun ad e => by
   have h := HO2.out.row ad.block (by rw [e]; rfl)
   have h3 := HO2.out.2.2.1
   omega)
 have HA2 := qH (HO2.out.arr)
 have hgr9 : gr ≠ g9 := by omega
 have hD9 : gD ≠ g9 := by omega
 have hgbr : gb ≠ gr := by omega
 have hgbD : gb ≠ gD := by omega
 have hg1r : g1 ≠ gr := by have := hat gr rfl; omega
 have hg1D' : g1 ≠ gD := by omega
 have hd0 : Below W7.heap.size W7 W7.drew := (Below.refl _ _).drew
 obtain ⟨k0, k1, k2, k3, k4, k5, k6, k7, k8, k9, k10, k11, k12, k13, k14⟩ := qC15 HK9.out
 go_upto_region 14 with fail
 refine wp_region_held_drew (S := fun w' => w'.cell? ⟨g9, 0, none⟩ = some (.int .i64 f2.length) ∧ w'.cell? ⟨g9, 1, none⟩ = some (.int .i64 f2.ball) ∧ w'.cell? ⟨g9, 2, none⟩ = some (.int .i64 f2.instep) ∧ w'.cell? ⟨g9, 3, none⟩ = some (.int .i64 f2.heel) ∧ w'.cell? ⟨g9, 4, none⟩ = some (.slice A2 n2 c2) ∧ w'.cell? ⟨g9, 5, none⟩ = some (.string s2.upper) ∧ w'.cell? ⟨g9, 6, none⟩ = some (.string s2.color) ∧ w'.cell? ⟨g9, 7, none⟩ = some (.string s2.lining) ∧ w'.cell? ⟨g9, 8, none⟩ = some (.string s2.sole) ∧ w'.cell? ⟨g9, 9, none⟩ = some (.int .i64 s2.thick) ∧ w'.cell? ⟨g9, 10, none⟩ = some (.int .i64 s2.heel) ∧ w'.cell? ⟨g9, 11, none⟩ = some (.int .i64 s2.eyelets) ∧ w'.cell? ⟨g9, 12, none⟩ = some (.int .i64 s2.density) ∧ w'.cell? ⟨g9, 13, none⟩ = some (.bool s2.double) ∧ w'.cell? ⟨g9, 14, none⟩ = some (.string lg2)) (by as_aux_lemma => kernel_rfl) ?_ (fun hHeld => ?_)
 · exact ⟨bl_cell hd0 k0, bl_cell hd0 k1, bl_cell hd0 k2, bl_cell hd0 k3, bl_cell hd0 k4, bl_cell hd0 k5, bl_cell hd0 k6, bl_cell hd0 k7, bl_cell hd0 k8, bl_cell hd0 k9, bl_cell hd0 k10, bl_cell hd0 k11, bl_cell hd0 k12, bl_cell hd0 k13, bl_cell hd0 k14⟩
 have HKd := HK.out.below hd0
 have HA2d := HA2.out.below hd0
 have HAMd := HAM.out.below hd0
 have HK9d := HK9.out.below hd0
 have HRd := own_below HR.out hd0
 have HABd := HAB.out.below hd0
 have HVd := HV.out.drew
 have hzd : W7.drew.heap.size = W7.heap.size := rfl
 refine zT 0 54 ?_ rfl ?_ (by assumption) ?_
 rotate_left
 · intro w hSw
   try dsimp only at hSw
   obtain ⟨s0, s1, s2, s3, s4, s5, s6, s7, s8, s9, s10, s11, s12, s13, s14⟩ := hSw
   go_simp
   try with_reducible rfl
 try simp only [Act.put, zA, zB, zC]
 refine zT 1 55 ?_ rfl ?_ (by assumption) ?_
 rotate_left
 · intro w hSw
   try dsimp only at hSw
   clear hSw
   go_simp
   try with_reducible rfl
 try simp only [Act.put, zA, zB, zC]
 refine zT 2 56 ?_ rfl ?_ (by assumption) ?_
 rotate_left
 · intro w hSw
   try dsimp only at hSw
   clear hSw
   go_simp
   try with_reducible rfl
 try simp only [Act.put, zA, zB, zC]
 refine zR 3 (some 57) rfl (fun K hK => ?_)
 (try dsimp only at hHeld); go_split_ands
 refine app_freshO W7.drew _ _ 24 9 rfl i0 _ 1 16 Tryz.underlying24 hi0 hz0 hz1 hz2 rfl (by omega) b0 (some ⟨gr, 0, none⟩) k c' (flat scell O) rfl HRd ⟨gb, 0, none⟩ kb cb (flat scell Lb) hkb0 rfl HABd HLB.out (scells_one Lb) (by unfold maxLen; omega) (by omega) (by omega) ?_
 intro g7 c7 V1 hown7 hg7 hfr7
 have hf7 : g7 = gr ∨ W7.drew.heap.size ≤ g7 := hfr7.elim (fun e => .inl (by injection e with e; injection e with e; exact e.symm)) (fun e => .inr (by omega))
 have hz1' := hg7.size
 have HKa := HKd.grown hg7 (hrow gD (by omega))
 have HA2a := HA2d.grown hg7 (fun ad e => by have h9 := HL2.out ad e; exact hrow ad.block (by omega))
 have HAMa := HAMd.grown hg7 (fun ad e => by injection e with e; subst e; exact hrow g1 (by omega))
 have HK9a := HK9d.grown hg7 (hrow g9 (by omega))
 have HVa := bl_grown HVd hg7 (fun p e => Nat.le_trans hb0w (own_at HRd p e))
 refine hK.out _ _ ?_ (fun hHeld => ?_)
 · (try dsimp only); exact ⟨HK9a.cell 0, HK9a.cell 1, HK9a.cell 2, HK9a.cell 3, HK9a.cell 4, HK9a.cell 5, HK9a.cell 6, HK9a.cell 7, HK9a.cell 8, HK9a.cell 9, HK9a.cell 10, HK9a.cell 11, HK9a.cell 12, HK9a.cell 13, HK9a.cell 14⟩
 clear hK K
 try simp only [Act.put, zA, zB, zC]
 refine zR 4 none rfl (fun K hK => ?_)
 (try dsimp only at hHeld); go_split_ands
 refine wp_store_row 32 _ _ rfl gD #[.int .i64 f2.length, .int .i64 f2.ball, .int .i64 f2.instep, .int .i64 f2.heel, .slice A2 n2 c2, .string s2.upper, .string s2.color, .string s2.lining, .string s2.sole, .int .i64 s2.thick, .int .i64 s2.heel, .int .i64 s2.eyelets, .int .i64 s2.density, .bool s2.double, .string lg2] rfl rfl 32 #[Value.int .i64 f.length, Value.int .i64 f.ball, Value.int .i64 f.instep, Value.int .i64 f.heel, Value.slice A n c, Value.string s.upper, Value.string s.color, Value.string s.lining, Value.string s.sole, Value.int .i64 s.thick, Value.int .i64 s.heel, Value.int .i64 s.eyelets, Value.int .i64 s.density, Value.bool s.double, Value.string lg] HKa (by kernel_rfl) rfl (by simp [Value.oneCell']) ?_
 have hgs := grown_rowX V1 gD #[Value.int .i64 f2.length, Value.int .i64 f2.ball, Value.int .i64 f2.instep, Value.int .i64 f2.heel, Value.slice A2 n2 c2, Value.string s2.upper, Value.string s2.color, Value.string s2.lining, Value.string s2.sole, Value.int .i64 s2.thick, Value.int .i64 s2.heel, Value.int .i64 s2.eyelets, Value.int .i64 s2.density, Value.bool s2.double, Value.string lg2]
 have hzs := hgs.size
 have HKb : Blk (World.setRow V1 gD #[Value.int .i64 f2.length, Value.int .i64 f2.ball, Value.int .i64 f2.instep, Value.int .i64 f2.heel, Value.slice A2 n2 c2, Value.string s2.upper, Value.string s2.color, Value.string s2.lining, Value.string s2.sole, Value.int .i64 s2.thick, Value.int .i64 s2.heel, Value.int .i64 s2.eyelets, Value.int .i64 s2.density, Value.bool s2.double, Value.string lg2]) gD 32 #[.int .i64 f2.length, .int .i64 f2.ball, .int .i64 f2.instep, .int .i64 f2.heel, .slice A2 n2 c2, .string s2.upper, .string s2.color, .string s2.lining, .string s2.sole, .int .i64 s2.thick, .int .i64 s2.heel, .int .i64 s2.eyelets, .int .i64 s2.density, .bool s2.double, .string lg2] := setRow_heap _ _ _ _ _ _ HKa
 have HA2b := HA2a.grown hgs (fun ad e => by have h9 := HL2.out ad e; exact (fun e9 => by injection e9 with e9; (try dsimp only at e9); omega))
 have HAMb := HAMa.grown hgs (fun ad e => by injection e with e; subst e; exact (fun e9 => by injection e9 with e9; (try dsimp only at e9); omega))
 have HK9b := HK9a.grown hgs ((fun e9 => by injection e9 with e9; (try dsimp only at e9); omega))
 have HRb := own_row (g := gD) hown7 (fun p e => by have e2 : g7 = p := (by simpa [Value.ownBlock] using e); omega) #[Value.int .i64 f2.length, Value.int .i64 f2.ball, Value.int .i64 f2.instep, Value.int .i64 f2.heel, Value.slice A2 n2 c2, Value.string s2.upper, Value.string s2.color, Value.string s2.lining, Value.string s2.sole, Value.int .i64 s2.thick, Value.int .i64 s2.heel, Value.int .i64 s2.eyelets, Value.int .i64 s2.density, Value.bool s2.double, Value.string lg2]
 have HVb := below_rowX HVa hgDw #[Value.int .i64 f2.length, Value.int .i64 f2.ball, Value.int .i64 f2.instep, Value.int .i64 f2.heel, Value.slice A2 n2 c2, Value.string s2.upper, Value.string s2.color, Value.string s2.lining, Value.string s2.sole, Value.int .i64 s2.thick, Value.int .i64 s2.heel, Value.int .i64 s2.eyelets, Value.int .i64 s2.density, Value.bool s2.double, Value.string lg2]
 obtain ⟨V2, hV2⟩ : ∃ z, z = World.setRow V1 gD #[Value.int .i64 f2.length, Value.int .i64 f2.ball, Value.int .i64 f2.instep, Value.int .i64 f2.heel, Value.slice A2 n2 c2, Value.string s2.upper, Value.string s2.color, Value.string s2.lining, Value.string s2.sole, Value.int .i64 s2.thick, Value.int .i64 s2.heel, Value.int .i64 s2.eyelets, Value.int .i64 s2.density, Value.bool s2.double, Value.string lg2] := ⟨_, rfl⟩
 rw [← hV2] at HKb HA2b HAMb HK9b HRb HVb hzs ⊢
 clear hV2
 refine hK.out _ _ ?_ (fun hHeld => ?_)
 · (try dsimp only); exact ⟨HK9b.cell 0, HK9b.cell 1, HK9b.cell 2, HK9b.cell 3, HK9b.cell 4, HK9b.cell 5, HK9b.cell 6, HK9b.cell 7, HK9b.cell 8, HK9b.cell 9, HK9b.cell 10, HK9b.cell 11, HK9b.cell 12, HK9b.cell 13, HK9b.cell 14⟩
 clear hK K
 try simp only [Act.put]
 refine zT 5 6 ?_ rfl ?_ (by assumption) ?_
 rotate_left
 · intro w hSw
   try dsimp only at hSw
   clear hSw
   go_simp
   try with_reducible rfl
 try simp only [Act.put, zA, zB, zC]
 refine wpAnyH_done (by as_aux_lemma => kernel_rfl) ?_ _
 clear hHeld
 have e9 : flat scell (O ++ Lb) = flat scell O ++ flat scell Lb := flat_append _ _ _
 have HRf := qH HRb
 rw [← e9] at HRf
 have HKf := qH HKb
 have HAf := qH HA2b
 have HAMf := qH HAMb
 have HVf := qH HVb
 clear HKd HA2d HAMd HK9d HRd HABd HVd HKb HA2b HAMb HK9b HVb hg7 hgs e9 k0 k1 k2 k3 k4 k5 k6 k7 k8 k9 k10 k11 k12 k13 k14
 go_wp2_with fail
 exact ⟨⟨j + 1, k + kb, g7, c7, n2, c2, f2, xs2, s2, lg2, A2, O ++ Lb, by go_num, rfl, by omega, by omega, by omega, by omega, qH (by rw [List.length_append, HKL.out, HKB.out]), qH (fun y hy => (List.mem_append.1 hy).elim (HSM.out y) (HSB.out y)), HGY, HOK2, HN3, HKf, HAf, qH (fun ad e => by have := HL2.out ad e; omega), HAMf, HRf, by omega, HVf⟩, by simp [intOf]; omega⟩
end Go.Proofs.YtpiehlfffjhoaaaGreatDoor
