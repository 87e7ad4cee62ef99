/- Lemmas for the law on the console: the parts StyS, StyT. -/
import Derived.Test.YtpiehlfffjhoaaaGreatDoorQ0
import Derived.Test.YtpiehlfffjhoaaaGreatDoorQ13
namespace Go.Proofs.YtpiehlfffjhoaaaGreatDoor
open Go.RowKit
theorem infoStrS : (Tryz.prog.info? 9).map (fun i => (i.zero, i.size, i.bytes)) = some (some (.string ByteArray.empty), 1, 16) := by kernel_rfl
def fullW (l : List ByteArray) : List ByteArray := l.filter fun t => decide (0 < t.size)
theorem fullW_step {L : List ByteArray} {k : Nat} {x : ByteArray} (h : L[k]? = some x) : fullW (L.take (k + 1)) = fullW (L.take k) ++ (if 0 < x.size then [x] else []) := by
 unfold fullW
 rw [take_at h, List.filter_append]
 by_cases h0 : 0 < x.size
 · rw [if_pos h0, List.filter_cons_of_pos (by simp only [decide_eq_true_eq]; exact h0)]; rfl
 · rw [if_neg h0, List.filter_cons_of_neg (by simp only [decide_eq_true_eq]; exact h0)]; rfl
def OutWn (s : ByteArray) (w : World) (e : Ending) (w' : World) : Prop := ∃ A n c, e = .returned (.slice A n c) ∧ (wrds s).length = n ∧ Arr w' A (flat scell (wrds s)) ∧ (∀ ad, A = some ad → w.heap.size ≤ ad.block) ∧ Below w.heap.size w w'
set_option maxRecDepth 100000 in
set_option maxHeartbeats 2000000 in
theorem SSplitWordsN_c (s : ByteArray) (hs : s.size ≤ 4194304) (w : World) : Calls Tryz.prog 152 #[.string s] w (OutWn s w) := by
 obtain ⟨i0, hi0, hz0, hz1, hz2⟩ := info_parts (P := Tryz.prog) (e := 9) (z := .string ByteArray.empty) (size := 1) (bytes := 16) infoStrS
 have HSP := fun w => l01SplitW_c 32 s hs w
 have hle := splC_le 32 s
 have hF : fullW (splC 32 s) = wrds s := rfl
 obtain ⟨L, hL⟩ : ∃ z, z = splC 32 s := ⟨_, rfl⟩
 obtain ⟨n, hn'⟩ : ∃ z, z = L.length := ⟨_, rfl⟩
 unfold OutC at HSP
 rw [← hL, ← hn', ← flat_str] at HSP
 rw [← hL] at hF hle
 rw [← hn'] at hle
 have hn := qH hn'.symm
 replace HSP := qH HSP
 have HF := qH hF
 clear hL hF hn'
 go_enter Tryz.func152, Tryz.ntmps152
 go_wp2_with fail
 refine (HSP.out _).mono ?_
 rintro e W ⟨A, c, rfl, ho, hv⟩
 have hA := Arr.own ho
 clear ho
 go_wp2_with fail
 have hW0 := hv.size
 have hown := own_empty W W.heap.size 9 1 (Nat.le_refl _)
 have hb0 := bl_alloc (Below.refl W.heap.size W) (Obj.cells #[] 9)
 go_loopw [4, 5] (fun o i wr => ∃ (k m : Nat) (A' : Option Addr) (c' : Nat), k ≤ n ∧ m ≤ k ∧ i = .int .i64 k ∧ o = .slice A' m c' ∧ Hid ((fullW (L.take k)).length = m) ∧ wr.ownsRow W.heap.size 9 1 (.slice A' m c') m ((fullW (L.take k)).map Value.string) ∧ Below W.heap.size W wr) (fun _ i _ => n - (intOf i).toNat)
 case atStart => exact ⟨0, 0, _, _, by omega, by omega, rfl, rfl, qH rfl, hown, hb0⟩
 case round =>
   clear hown hb0
   obtain ⟨k, m, A', c', hk, hmk, rfl, rfl, hm, hown, hb⟩ := hrel
   by_cases hlt : k < n
   · obtain ⟨x, hx⟩ := get_of_lt (xs := L) (k := k) (by rw [hn.out]; exact hlt)
     obtain ⟨ad, had, _, c0⟩ := scell_at (hA.below hb) hx
     subst had
     have hS := fullW_step hx
     have hk0 : (0 : Int) ≤ (k : Int) := by omega
     have hk1 : (k : Int) < (n : Int) := by omega
     by_cases h0 : x.size = 0
     · have he : x.toList.isEmpty = true := by rw [empty_beq]; exact decide_eq_true h0
       rw [if_neg (by omega), List.append_nil] at hS
       have HS := qH hS
       clear hS hx h0
       go_wp2_with fail
       exact ⟨⟨k + 1, m, A', c', by omega, by omega, by go_num, rfl, by rw [HS.out]; exact hm, by rw [HS.out]; exact hown, hb⟩, by simp [intOf]; omega⟩
     · have he : x.toList.isEmpty = false := by rw [empty_beq]; exact decide_eq_false h0
       rw [if_pos (by omega)] at hS
       have HS := qH hS
       clear hS hx h0
       go_wp2_with (at_builtin; refine app_own _ _ rfl _ _ 24 9 rfl i0 _ 1 16 Tryz.underlying24 hi0 hz0 hz1 hz2 rfl (by omega) _ (.slice A' m c') m _ rfl rfl hown rfl (by simp [Value.oneCell']) (by unfold maxLen; omega) (by omega) hb.size ?_; intro A2 c2 w2 hown2 hg2)
       refine ⟨⟨k + 1, m + 1, A2, c2, by omega, by omega, by go_num, rfl, ?_, ?_, bl_grown hb hg2 (own_at hown)⟩, by simp [intOf]; omega⟩
       · rw [HS.out]; exact qH (by rw [List.length_append, hm.out]; rfl)
       · rw [HS.out, List.map_append]; exact hown2
   · have hkn : k = n := by omega
     have hT : L.take k = L := List.take_of_length_le (by rw [hn.out]; omega)
     rw [hT, HF.out] at hm hown
     have HO := qH hown
     clear hown hT
     go_wp2_with fail
     go_returns
     exact ⟨A', m, c', rfl, hm.out, by rw [flat_str]; exact Arr.own HO.out, fun ad e => by subst e; have := own_at HO.out ad.block (by simp [Value.ownBlock]); omega, bl_trans hv hb⟩
theorem SSplitWords_c (s : ByteArray) (hs : s.size ≤ 4194304) (w : World) : Calls Tryz.prog 152 #[.string s] w (OutWd s w) :=
 (SSplitWordsN_c s hs w).mono fun _ _ ⟨A, n, c, he, hn, hA, _, hb⟩ => ⟨A, n, c, he, hn, hA, hb⟩
theorem SStyleWords_c (w : World) : Calls Tryz.prog 262 #[] w fun e w' => e = .returned (.slice (some ⟨w.heap.size, 0, none⟩) 6 6) ∧ w' = w.alloc (.cells (styW.map Value.string).toArray 9) := by
 go_enter Tryz.func262, Tryz.ntmps262
 go_wp2_with fail
 go_returns
 exact ⟨rfl, rfl⟩
theorem styW_kind {t u : ByteArray} {k : Nat} (h : styW[k]? = some u) : (u = t ↔ kindW t = k) := by
 have hk : k < 6 := (List.getElem?_eq_some_iff.1 h).1
 have hd : wUpper ≠ wLining ∧ wUpper ≠ wSole ∧ wUpper ≠ wHeel ∧ wUpper ≠ wEyelets ∧ wUpper ≠ wStitch ∧ wLining ≠ wSole ∧ wLining ≠ wHeel ∧ wLining ≠ wEyelets ∧ wLining ≠ wStitch ∧ wSole ≠ wHeel ∧ wSole ≠ wEyelets ∧ wSole ≠ wStitch ∧ wHeel ≠ wEyelets ∧ wHeel ≠ wStitch ∧ wEyelets ≠ wStitch := by decide
 constructor
 · rintro rfl
   rcases k with _ | _ | _ | _ | _ | _ | k <;> first | omega | (simp only [styW, List.getElem?_cons_zero, List.getElem?_cons_succ, Option.some.injEq] at h; subst h; decide)
 · intro e
   rcases kind_cases t with ⟨rfl, hk'⟩ | ⟨rfl, hk'⟩ | ⟨rfl, hk'⟩ | ⟨rfl, hk'⟩ | ⟨rfl, hk'⟩ | ⟨rfl, hk'⟩ | ⟨_, hk'⟩ <;> rw [hk'] at e
   all_goals first | omega | skip
   · obtain rfl : k = 0 := by omega
     simpa [styW] using h.symm
   · obtain rfl : k = 1 := by omega
     simpa [styW] using h.symm
   · obtain rfl : k = 2 := by omega
     simpa [styW] using h.symm
   · obtain rfl : k = 3 := by omega
     simpa [styW] using h.symm
   · obtain rfl : k = 4 := by omega
     simpa [styW] using h.symm
   · obtain rfl : k = 5 := by omega
     simpa [styW] using h.symm
theorem kind_bd (t : ByteArray) : -1 ≤ kindW t ∧ kindW t ≤ 5 := by
 rcases kind_cases t with ⟨_, hk⟩ | ⟨_, hk⟩ | ⟨_, hk⟩ | ⟨_, hk⟩ | ⟨_, hk⟩ | ⟨_, hk⟩ | ⟨_, hk⟩ <;> omega
set_option maxRecDepth 100000 in
set_option maxHeartbeats 1600000 in
theorem l24Word_c (t : ByteArray) (w : World) : Calls Tryz.prog 214 #[.string t] w (Ret (.int .i64 (kindW t)) w) := by
 go_enter Tryz.func214, Tryz.ntmps214
 go_wp2_with fail
 refine (SStyleWords_c _).mono ?_
 rintro e W ⟨rfl, hq⟩
 obtain ⟨g, hg⟩ : ∃ z, z = w.heap.size := ⟨_, rfl⟩
 have hA : Arr W (some ⟨g, 0, none⟩) (flat scell styW) := by
   have h := World.ownsRow_lit (base := w.heap.size) (e := 9) (size := 1) w (styW.map Value.string).toArray 6 (Nat.le_refl _) (by unfold maxLen; omega) (by rfl)
   rw [flat_str, hq, hg]
   exact Arr.own h
 have hv : Below w.heap.size w W := by rw [hq]; exact bl_alloc (Below.refl _ _) _
 rw [← hg]
 clear hq hg
 obtain ⟨kk, hkk⟩ : ∃ z, z = kindW t := ⟨_, rfl⟩
 have hbd := kind_bd t
 rw [← hkk] at hbd ⊢
 have HK := qH hkk.symm
 clear hkk
 go_wp2_with fail
 go_loopw [4] (fun i wr => ∃ k : Nat, k ≤ 6 ∧ i = .int .i64 k ∧ (kk = -1 ∨ (k : Int) ≤ kk) ∧ Below W.heap.size W wr) (fun i _ => 6 - (intOf i).toNat)
 case atStart => exact ⟨0, by omega, rfl, by omega, Below.refl _ _⟩
 case round =>
   obtain ⟨k, hk, rfl, hor, hb⟩ := hrel
   have hk0 : (0 : Int) ≤ (k : Int) := by omega
   by_cases hlt : k < 6
   · obtain ⟨u, hu⟩ := get_of_lt (xs := styW) (k := k) (by exact hlt)
     obtain ⟨ad, had, _, c0⟩ := scell_at (hA.below hb) hu
     injection had with had
     subst had
     have hadd : (⟨g, 0, none⟩ : Addr).add k = ⟨g, k, none⟩ := by unfold Addr.add; split <;> simp_all
     rw [hadd] at c0
     clear hadd
     have hi := styW_kind (t := t) hu
     rw [HK.out] at hi
     have hk1 : (k : Int) < 6 := by omega
     by_cases he : u = t
     · have hkv := hi.1 he
       have hq : (u.toList == t.toList) = true := by rw [bytes_beq]; exact decide_eq_true he
       have HKV := qH hkv
       clear hi he hkv hu hor
       go_wp2_with fail
       go_returns
       exact Ret.mk (vi (by rw [HK.out, HKV.out])) (bl_trans hv hb)
     · have hkv : kk ≠ (k : Int) := fun h => he (hi.2 h)
       have hq : (u.toList == t.toList) = false := by rw [bytes_beq]; exact decide_eq_false he
       have hor2 : kk = -1 ∨ ((k + 1 : Nat) : Int) ≤ kk := by omega
       clear hi he hkv hu hor
       go_wp2_with fail
       exact ⟨⟨k + 1, by omega, by go_num, hor2, hb⟩, by simp [intOf]; omega⟩
   · have hkv : kk = -1 := by omega
     have HKV := qH hkv
     clear hkv hor
     go_wp2_with fail
     go_returns
     exact Ret.mk (vi (by rw [HK.out, HKV.out])) (bl_trans hv hb)
theorem l24Number_c (s : ByteArray) (hs : s.size ≤ 9223372036854775807) (lo hi : Int) (w : World) : Calls Tryz.prog 216 #[.string s, .int .i64 lo, .int .i64 hi] w (Ret (.bool (numOk s lo hi)) w) := by
 have HRD := qH (l01Number_c s hs w)
 obtain ⟨v, hv⟩ : ∃ z, z = numV s := ⟨_, rfl⟩
 obtain ⟨b, hb⟩ : ∃ z, z = okN s.data.toList := ⟨_, rfl⟩
 have hN : numOk s lo hi = (b && inB v lo hi) := by rw [hv, hb]; rfl
 rw [← hv, ← hb] at HRD
 have HNN := qH hN
 clear hv hb hN
 go_enter Tryz.func216, Tryz.ntmps216
 go_wp2_with fail
 refine HRD.out.mono ?_
 rintro e W ⟨rfl, hb⟩
 cases b
 · go_wp2_with fail
   go_returns
   exact Ret.mk (vb (by rw [HNN.out]; rfl)) hb
 · go_wp2_with (go_at_call 155; refine (l00In_c _ _ _ _).mono ?_; rintro e w' ⟨rfl, rfl⟩)
   go_returns
   exact Ret.mk (vb (by rw [HNN.out]; rfl)) hb
def cntB (k : Int) (n : Nat) : Bool := if k = 0 ∨ k = 2 then decide (n = 3) else if k = 5 then decide (n = 2) || decide (n = 3) else decide (n = 2)
set_option maxHeartbeats 1600000 in
theorem l24Count_c (k : Int) (n : Nat) (w : World) : Calls Tryz.prog 215 #[.int .i64 k, .int .i64 n] w (RetQ (.bool (cntB k n)) w) := by
 have hq3 : ((n : Int) == 3) = decide (n = 3) := by
   by_cases h : n = 3
   · rw [decide_eq_true h, h]; rfl
   · rw [decide_eq_false h, beq_eq_false_iff_ne]; omega
 have hq2 : ((n : Int) == 2) = decide (n = 2) := by
   by_cases h : n = 2
   · rw [decide_eq_true h, h]; rfl
   · rw [decide_eq_false h, beq_eq_false_iff_ne]; omega
 obtain ⟨b3, e3⟩ : ∃ z, z = decide (n = 3) := ⟨_, rfl⟩
 obtain ⟨b2, e2⟩ : ∃ z, z = decide (n = 2) := ⟨_, rfl⟩
 have hP : cntB k n = if k = 0 ∨ k = 2 then b3 else if k = 5 then b2 || b3 else b2 := by rw [e3, e2]; rfl
 rw [← e3] at hq3
 rw [← e2] at hq2
 have HP := qH hP
 clear hP e3 e2
 by_cases h0 : k = 0
 · subst h0
   go_enter Tryz.func215, Tryz.ntmps215
   go_wp2_with fail
   go_returns
   exact RetQ.mk (vb (by rw [HP.out]; rfl))
 by_cases h2 : k = 2
 · subst h2
   go_enter Tryz.func215, Tryz.ntmps215
   go_wp2_with fail
   go_returns
   exact RetQ.mk (vb (by rw [HP.out]; rfl))
 by_cases h5 : k = 5
 · subst h5
   go_enter Tryz.func215, Tryz.ntmps215
   cases b2
   · go_wp2_with fail
     go_returns
     exact RetQ.mk (vb (by rw [HP.out]; rfl))
   · go_wp2_with fail
     go_returns
     exact RetQ.mk (vb (by rw [HP.out]; rfl))
 have q0 : (k == 0) = false := by rw [beq_eq_false_iff_ne]; exact h0
 have q2 : (k == 2) = false := by rw [beq_eq_false_iff_ne]; exact h2
 have q5 : (k == 5) = false := by rw [beq_eq_false_iff_ne]; exact h5
 have HP2 := qH (show cntB k n = b2 by rw [HP.out, if_neg (by omega), if_neg h5])
 clear h0 h2 h5 HP
 go_enter Tryz.func215, Tryz.ntmps215
 go_wp2_with fail
 go_returns
 exact RetQ.mk (vb (by rw [HP2.out]))
set_option maxRecDepth 100000 in
set_option maxHeartbeats 8000000 in
theorem l24Problem_c (A : Option Addr) (ws : List ByteArray) (n c : Nat) (hn : Hid (ws.length = n)) (hz : (n : Int) ≤ 4194305) (HPT : Hid (∀ x ∈ ws, x.size ≤ 4194304)) (w : World) (hA : Arr w A (flat scell ws)) : Calls Tryz.prog 151 #[.slice A n c] w (Ret (.int .i64 (prob ws)) w) := by
 have hAA := qH hA
 clear hA
 go_enter Tryz.func151, Tryz.ntmps151
 by_cases h0 : n = 0
 · subst h0
   have HP := qH (show prob ws = 1 by rw [List.eq_nil_of_length_eq_zero hn.out]; rfl)
   go_wp2_with fail
   go_returns
   exact Ret.mk (vi (by rw [HP.out])) (Below.refl _ _)
 obtain ⟨t, r, hr⟩ : ∃ t r, ws = t :: r := by
   cases ws with
   | nil => exact absurd hn.out.symm h0
   | cons a r => exact ⟨a, r, rfl⟩
 subst hr
 have h1 : ((n : Int) == 0) = false := by rw [beq_eq_false_iff_ne]; omega
 have hn1 : (0 : Int) < (n : Int) := by omega
 have hn0 : 0 < n := by omega
 obtain ⟨ad, had, _, c0⟩ := scell_at (k := 0) hAA.out rfl
 subst had
 replace c0 : w.cell? ad = some (.string t) := c0
 obtain ⟨k, hk⟩ : ∃ z, z = kindW t := ⟨_, rfl⟩
 have HKW := fun w => l24Word_c t w
 rw [← hk] at HKW
 have hkk : k = -1 ∨ k = 0 ∨ k = 1 ∨ k = 2 ∨ k = 3 ∨ k = 4 ∨ k = 5 := by have := kind_bd t; omega
 replace HKW := qH HKW
 have HK := qH hk.symm
 clear hk
 go_wp2_with fail
 refine (HKW.out _).mono ?_
 rintro e W2 ⟨rfl, hv⟩
 have hA := qH (hAA.out.below hv)
 clear c0 HKW hAA
 rcases hkk with rfl | rfl | rfl | rfl | rfl | rfl | rfl
 · have HP := qH (prob_neg (l := t :: r) (by rw [List.headD_cons, HK.out]; omega))
   go_wp2_with fail
   go_returns
   exact Ret.mk (vi (by rw [HP.out])) hv
 · skip
   obtain ⟨cb, hcb⟩ : ∃ z, z = cntB 0 n := ⟨_, rfl⟩
   have HCC := fun w => l24Count_c 0 n w
   rw [← hcb] at HCC
   replace HCC := qH HCC
   have HCB := qH hcb
   clear hcb
   go_wp2_with fail
   refine (HCC.out _).mono ?_
   rintro e w' ⟨rfl, hq⟩
   rw [hq]
   clear hq w' HCC
   cases cb
   · have HP := qH (prob_three (.inl HK.out) (by rw [hn.out]; intro h2; have h := HCB.out; rw [h2] at h; exact absurd h (by decide)))
     clear HCB
     go_wp2_with fail
     go_returns
     exact Ret.mk (vi (by rw [HP.out])) hv
   · skip
     have hc : n = 3 := by
       have h := HCB.out
       unfold cntB at h
       rw [if_pos (by omega)] at h
       exact of_decide_eq_true h.symm
     clear HCB
     subst hc
     obtain ⟨t', a, b, hsh⟩ := len_three hn.out
     injection hsh with h1 h2
     subst h1
     subst h2
     obtain ⟨ad1, had1, _, c1⟩ := scell_at (k := 1) hA.out rfl
     injection had1 with had1
     subst had1
     replace c1 : W2.cell? ⟨ad.block, ad.off + 1, none⟩ = some (.string a) := c1
     have ha := Nat.le_trans (HPT.out a (by simp)) (by omega : 4194304 ≤ 9223372036854775807)
     obtain ⟨ad2, had2, _, c2⟩ := scell_at (k := 2) hA.out rfl
     injection had2 with had2
     subst had2
     replace c2 : W2.cell? ⟨ad.block, ad.off + 2, none⟩ = some (.string b) := c2
     have hb2 := Nat.le_trans (HPT.out b (by simp)) (by omega : 4194304 ≤ 9223372036854775807)
     obtain ⟨v1, hv1⟩ : ∃ z, z = nameB a := ⟨_, rfl⟩
     have Hv1 := fun w => SIsName_c a ha w
     rw [← hv1] at Hv1
     replace Hv1 := qH Hv1
     obtain ⟨v2, hv2⟩ : ∃ z, z = nameB b := ⟨_, rfl⟩
     have Hv2 := fun w => SIsName_c b hb2 w
     rw [← hv2] at Hv2
     replace Hv2 := qH Hv2
     have HP := qH (show prob [t, a, b] = if (v1 && v2) = true then 0 else 4 from by simp [prob, HK.out, hv1, hv2])
     clear hv1 hv2 HK
     cases v1
     · go_wp2_with fail
       refine (Hv1.out _).mono ?_
       rintro e w' ⟨rfl, hq⟩
       rw [hq]
       clear hq w'
       go_wp2_with fail
       go_returns
       exact Ret.mk (vi (by rw [HP.out]; rfl)) hv
     · skip
       cases v2
       · go_wp2_with fail
         refine (Hv1.out _).mono ?_
         rintro e w' ⟨rfl, hq⟩
         rw [hq]
         clear hq w'
         go_wp2_with fail
         refine (Hv2.out _).mono ?_
         rintro e w' ⟨rfl, hq⟩
         rw [hq]
         clear hq w'
         go_wp2_with fail
         go_returns
         exact Ret.mk (vi (by rw [HP.out]; rfl)) hv
       · go_wp2_with fail
         refine (Hv1.out _).mono ?_
         rintro e w' ⟨rfl, hq⟩
         rw [hq]
         clear hq w'
         go_wp2_with fail
         refine (Hv2.out _).mono ?_
         rintro e w' ⟨rfl, hq⟩
         rw [hq]
         clear hq w'
         go_wp2_with fail
         go_returns
         exact Ret.mk (vi (by rw [HP.out]; rfl)) hv
 · skip
   obtain ⟨cb, hcb⟩ : ∃ z, z = cntB 1 n := ⟨_, rfl⟩
   have HCC := fun w => l24Count_c 1 n w
   rw [← hcb] at HCC
   replace HCC := qH HCC
   have HCB := qH hcb
   clear hcb
   go_wp2_with fail
   refine (HCC.out _).mono ?_
   rintro e w' ⟨rfl, hq⟩
   rw [hq]
   clear hq w' HCC
   cases cb
   · have HP := qH (prob_two (.inl HK.out) (by rw [hn.out]; intro h2; have h := HCB.out; rw [h2] at h; exact absurd h (by decide)))
     clear HCB
     go_wp2_with fail
     go_returns
     exact Ret.mk (vi (by rw [HP.out])) hv
   · skip
     have hc : n = 2 := by
       have h := HCB.out
       unfold cntB at h
       rw [if_neg (by omega), if_neg (by omega)] at h
       exact of_decide_eq_true h.symm
     clear HCB
     subst hc
     obtain ⟨t', a, hsh⟩ := len_two hn.out
     injection hsh with h1 h2
     subst h1
     subst h2
     obtain ⟨ad1, had1, _, c1⟩ := scell_at (k := 1) hA.out rfl
     injection had1 with had1
     subst had1
     replace c1 : W2.cell? ⟨ad.block, ad.off + 1, none⟩ = some (.string a) := c1
     have ha := Nat.le_trans (HPT.out a (by simp)) (by omega : 4194304 ≤ 9223372036854775807)
     obtain ⟨v1, hv1⟩ : ∃ z, z = nameB a := ⟨_, rfl⟩
     have Hv1 := fun w => SIsName_c a ha w
     rw [← hv1] at Hv1
     replace Hv1 := qH Hv1
     have HP := qH (show prob [t, a] = if v1 = true then 0 else 4 from by simp [prob, HK.out, hv1])
     clear hv1 HK
     cases v1
     · go_wp2_with fail
       refine (Hv1.out _).mono ?_
       rintro e w' ⟨rfl, hq⟩
       rw [hq]
       clear hq w'
       go_wp2_with fail
       go_returns
       exact Ret.mk (vi (by rw [HP.out]; rfl)) hv
     · go_wp2_with fail
       refine (Hv1.out _).mono ?_
       rintro e w' ⟨rfl, hq⟩
       rw [hq]
       clear hq w'
       go_wp2_with fail
       go_returns
       exact Ret.mk (vi (by rw [HP.out]; rfl)) hv
 · skip
   obtain ⟨cb, hcb⟩ : ∃ z, z = cntB 2 n := ⟨_, rfl⟩
   have HCC := fun w => l24Count_c 2 n w
   rw [← hcb] at HCC
   replace HCC := qH HCC
   have HCB := qH hcb
   clear hcb
   go_wp2_with fail
   refine (HCC.out _).mono ?_
   rintro e w' ⟨rfl, hq⟩
   rw [hq]
   clear hq w' HCC
   cases cb
   · have HP := qH (prob_three (.inr HK.out) (by rw [hn.out]; intro h2; have h := HCB.out; rw [h2] at h; exact absurd h (by decide)))
     clear HCB
     go_wp2_with fail
     go_returns
     exact Ret.mk (vi (by rw [HP.out])) hv
   · skip
     have hc : n = 3 := by
       have h := HCB.out
       unfold cntB at h
       rw [if_pos (by omega)] at h
       exact of_decide_eq_true h.symm
     clear HCB
     subst hc
     obtain ⟨t', a, b, hsh⟩ := len_three hn.out
     injection hsh with h1 h2
     subst h1
     subst h2
     obtain ⟨ad1, had1, _, c1⟩ := scell_at (k := 1) hA.out rfl
     injection had1 with had1
     subst had1
     replace c1 : W2.cell? ⟨ad.block, ad.off + 1, none⟩ = some (.string a) := c1
     have ha := Nat.le_trans (HPT.out a (by simp)) (by omega : 4194304 ≤ 9223372036854775807)
     obtain ⟨ad2, had2, _, c2⟩ := scell_at (k := 2) hA.out rfl
     injection had2 with had2
     subst had2
     replace c2 : W2.cell? ⟨ad.block, ad.off + 2, none⟩ = some (.string b) := c2
     have hb2 := Nat.le_trans (HPT.out b (by simp)) (by omega : 4194304 ≤ 9223372036854775807)
     obtain ⟨v1, hv1⟩ : ∃ z, z = nameB a := ⟨_, rfl⟩
     have Hv1 := fun w => SIsName_c a ha w
     rw [← hv1] at Hv1
     replace Hv1 := qH Hv1
     obtain ⟨v2, hv2⟩ : ∃ z, z = numOk b 10 300 := ⟨_, rfl⟩
     have Hv2 := fun w => l24Number_c b hb2 10 300 w
     rw [← hv2] at Hv2
     replace Hv2 := qH Hv2
     have HP := qH (show prob [t, a, b] = if v1 = true then (if v2 = true then 0 else 3) else 4 from by simp [prob, HK.out, hv1, hv2])
     clear hv1 hv2 HK
     cases v1
     · go_wp2_with fail
       refine (Hv1.out _).mono ?_
       rintro e w' ⟨rfl, hq⟩
       rw [hq]
       clear hq w'
       go_wp2_with fail
       go_returns
       exact Ret.mk (vi (by rw [HP.out]; rfl)) hv
     · skip
       go_wp2_with fail
       refine (Hv1.out _).mono ?_
       rintro e w' ⟨rfl, hq⟩
       rw [hq]
       clear hq w'
       go_wp2_with fail
       refine (Hv2.out _).mono ?_
       rintro e W3 ⟨rfl, hb3⟩
       replace hv := bl_trans hv hb3
       clear hb3
       cases v2
       · go_wp2_with fail
         go_returns
         exact Ret.mk (vi (by rw [HP.out]; rfl)) hv
       · go_wp2_with fail
         go_returns
         exact Ret.mk (vi (by rw [HP.out]; rfl)) hv
 · skip
   obtain ⟨cb, hcb⟩ : ∃ z, z = cntB 3 n := ⟨_, rfl⟩
   have HCC := fun w => l24Count_c 3 n w
   rw [← hcb] at HCC
   replace HCC := qH HCC
   have HCB := qH hcb
   clear hcb
   go_wp2_with fail
   refine (HCC.out _).mono ?_
   rintro e w' ⟨rfl, hq⟩
   rw [hq]
   clear hq w' HCC
   cases cb
   · have HP := qH (prob_two (.inr (.inl HK.out)) (by rw [hn.out]; intro h2; have h := HCB.out; rw [h2] at h; exact absurd h (by decide)))
     clear HCB
     go_wp2_with fail
     go_returns
     exact Ret.mk (vi (by rw [HP.out])) hv
   · skip
     have hc : n = 2 := by
       have h := HCB.out
       unfold cntB at h
       rw [if_neg (by omega), if_neg (by omega)] at h
       exact of_decide_eq_true h.symm
     clear HCB
     subst hc
     obtain ⟨t', a, hsh⟩ := len_two hn.out
     injection hsh with h1 h2
     subst h1
     subst h2
     obtain ⟨ad1, had1, _, c1⟩ := scell_at (k := 1) hA.out rfl
     injection had1 with had1
     subst had1
     replace c1 : W2.cell? ⟨ad.block, ad.off + 1, none⟩ = some (.string a) := c1
     have ha := Nat.le_trans (HPT.out a (by simp)) (by omega : 4194304 ≤ 9223372036854775807)
     obtain ⟨v1, hv1⟩ : ∃ z, z = numOk a 0 1200 := ⟨_, rfl⟩
     have Hv1 := fun w => l24Number_c a ha 0 1200 w
     rw [← hv1] at Hv1
     replace Hv1 := qH Hv1
     have HP := qH (show prob [t, a] = if v1 = true then 0 else 3 from by simp [prob, HK.out, hv1])
     clear hv1 HK
     go_wp2_with fail
     refine (Hv1.out _).mono ?_
     rintro e W3 ⟨rfl, hb3⟩
     replace hv := bl_trans hv hb3
     clear hb3
     cases v1
     · go_wp2_with fail
       go_returns
       exact Ret.mk (vi (by rw [HP.out]; rfl)) hv
     · go_wp2_with fail
       go_returns
       exact Ret.mk (vi (by rw [HP.out]; rfl)) hv
 · skip
   obtain ⟨cb, hcb⟩ : ∃ z, z = cntB 4 n := ⟨_, rfl⟩
   have HCC := fun w => l24Count_c 4 n w
   rw [← hcb] at HCC
   replace HCC := qH HCC
   have HCB := qH hcb
   clear hcb
   go_wp2_with fail
   refine (HCC.out _).mono ?_
   rintro e w' ⟨rfl, hq⟩
   rw [hq]
   clear hq w' HCC
   cases cb
   · have HP := qH (prob_two (.inr (.inr HK.out)) (by rw [hn.out]; intro h2; have h := HCB.out; rw [h2] at h; exact absurd h (by decide)))
     clear HCB
     go_wp2_with fail
     go_returns
     exact Ret.mk (vi (by rw [HP.out])) hv
   · skip
     have hc : n = 2 := by
       have h := HCB.out
       unfold cntB at h
       rw [if_neg (by omega), if_neg (by omega)] at h
       exact of_decide_eq_true h.symm
     clear HCB
     subst hc
     obtain ⟨t', a, hsh⟩ := len_two hn.out
     injection hsh with h1 h2
     subst h1
     subst h2
     obtain ⟨ad1, had1, _, c1⟩ := scell_at (k := 1) hA.out rfl
     injection had1 with had1
     subst had1
     replace c1 : W2.cell? ⟨ad.block, ad.off + 1, none⟩ = some (.string a) := c1
     have ha := Nat.le_trans (HPT.out a (by simp)) (by omega : 4194304 ≤ 9223372036854775807)
     obtain ⟨v1, hv1⟩ : ∃ z, z = numOk a 1 12 := ⟨_, rfl⟩
     have Hv1 := fun w => l24Number_c a ha 1 12 w
     rw [← hv1] at Hv1
     replace Hv1 := qH Hv1
     have HP := qH (show prob [t, a] = if v1 = true then 0 else 3 from by simp [prob, HK.out, hv1])
     clear hv1 HK
     go_wp2_with fail
     refine (Hv1.out _).mono ?_
     rintro e W3 ⟨rfl, hb3⟩
     replace hv := bl_trans hv hb3
     clear hb3
     cases v1
     · go_wp2_with fail
       go_returns
       exact Ret.mk (vi (by rw [HP.out]; rfl)) hv
     · go_wp2_with fail
       go_returns
       exact Ret.mk (vi (by rw [HP.out]; rfl)) hv
 · skip
   obtain ⟨cb, hcb⟩ : ∃ z, z = cntB 5 n := ⟨_, rfl⟩
   have HCC := fun w => l24Count_c 5 n w
   rw [← hcb] at HCC
   replace HCC := qH HCC
   have HCB := qH hcb
   clear hcb
   go_wp2_with fail
   refine (HCC.out _).mono ?_
   rintro e w' ⟨rfl, hq⟩
   rw [hq]
   clear hq w' HCC
   cases cb
   · have HP := qH (prob_five HK.out (by rw [hn.out]; intro h2; have h := HCB.out; rw [h2] at h; exact absurd h (by decide)) (by rw [hn.out]; intro h3; have h := HCB.out; rw [h3] at h; exact absurd h (by decide)))
     clear HCB
     go_wp2_with fail
     go_returns
     exact Ret.mk (vi (by rw [HP.out])) hv
   · skip
     have hc : n = 2 ∨ n = 3 := by
       have h := HCB.out
       unfold cntB at h
       rw [if_neg (by omega), if_pos rfl] at h
       by_cases h2 : n = 2
       · exact .inl h2
       · rw [decide_eq_false h2, Bool.false_or] at h; exact .inr (of_decide_eq_true h.symm)
     clear HCB
     rcases hc with rfl | rfl
     · skip
       obtain ⟨t', a, hsh⟩ := len_two hn.out
       injection hsh with h1 h2
       subst h1
       subst h2
       obtain ⟨ad1, had1, _, c1⟩ := scell_at (k := 1) hA.out rfl
       injection had1 with had1
       subst had1
       replace c1 : W2.cell? ⟨ad.block, ad.off + 1, none⟩ = some (.string a) := c1
       have ha := Nat.le_trans (HPT.out a (by simp)) (by omega : 4194304 ≤ 9223372036854775807)
       obtain ⟨v1, hv1⟩ : ∃ z, z = numOk a 10 80 := ⟨_, rfl⟩
       have Hv1 := fun w => l24Number_c a ha 10 80 w
       rw [← hv1] at Hv1
       replace Hv1 := qH Hv1
       have HP := qH (show prob [t, a] = if v1 = true then 0 else 3 from by simp [prob, HK.out, hv1])
       clear hv1 HK
       go_wp2_with fail
       refine (Hv1.out _).mono ?_
       rintro e W3 ⟨rfl, hb3⟩
       replace hv := bl_trans hv hb3
       clear hb3
       cases v1
       · go_wp2_with fail
         go_returns
         exact Ret.mk (vi (by rw [HP.out]; rfl)) hv
       · go_wp2_with fail
         go_returns
         exact Ret.mk (vi (by rw [HP.out]; rfl)) hv
     · skip
       obtain ⟨t', a, b, hsh⟩ := len_three hn.out
       injection hsh with h1 h2
       subst h1
       subst h2
       obtain ⟨ad1, had1, _, c1⟩ := scell_at (k := 1) hA.out rfl
       injection had1 with had1
       subst had1
       replace c1 : W2.cell? ⟨ad.block, ad.off + 1, none⟩ = some (.string a) := c1
       have ha := Nat.le_trans (HPT.out a (by simp)) (by omega : 4194304 ≤ 9223372036854775807)
       obtain ⟨ad2, had2, _, c2⟩ := scell_at (k := 2) hA.out rfl
       injection had2 with had2
       subst had2
       replace c2 : W2.cell? ⟨ad.block, ad.off + 2, none⟩ = some (.string b) := c2
       have hb2 := Nat.le_trans (HPT.out b (by simp)) (by omega : 4194304 ≤ 9223372036854775807)
       obtain ⟨v1, hv1⟩ : ∃ z, z = numOk a 10 80 := ⟨_, rfl⟩
       have Hv1 := fun w => l24Number_c a ha 10 80 w
       rw [← hv1] at Hv1
       replace Hv1 := qH Hv1
       obtain ⟨v2, hv2⟩ : ∃ z, z = decide (b = wDouble) := ⟨_, rfl⟩
       have q7 : (b.toList == [100, 111, 117, 98, 108, 101]) = v2 := by rw [hv2, ← bytes_beq, show wDouble.toList = [100, 111, 117, 98, 108, 101] from by simp [wDouble]]
       have HP := qH (show prob [t, a, b] = if (v1 && v2) = true then 0 else 3 from by simp [prob, HK.out, hv1, hv2])
       clear hv1 hv2 HK
       go_wp2_with fail
       refine (Hv1.out _).mono ?_
       rintro e W3 ⟨rfl, hb3⟩
       replace hv := bl_trans hv hb3
       replace c2 := bl_cell hb3 c2
       clear hb3
       cases v1
       · go_wp2_with fail
         go_returns
         exact Ret.mk (vi (by rw [HP.out]; rfl)) hv
       · skip
         cases v2
         · go_wp2_with fail
           go_returns
           exact Ret.mk (vi (by rw [HP.out]; rfl)) hv
         · go_wp2_with fail
           go_returns
           exact Ret.mk (vi (by rw [HP.out]; rfl)) hv
end Go.Proofs.YtpiehlfffjhoaaaGreatDoor
