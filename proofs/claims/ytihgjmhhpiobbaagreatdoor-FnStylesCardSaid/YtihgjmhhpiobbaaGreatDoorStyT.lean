/- Styles: the reference's problem of a clause. builds (13 s). -/
import Derived.Test.YtihgjmhhpiobbaaGreatDoorStyS
namespace Go.Proofs.YtihgjmhhpiobbaaGreatDoor
open Go.RowKit

set_option maxRecDepth 100000 in
set_option maxHeartbeats 8000000 in
theorem l24Problem_c (A : Option Addr) (ws : List ByteArray) (n c : Nat) (hn : Hid (ws.length = n)) (hz : (n : Int) ≤ 4194305) (HPT : Hid (∀ x ∈ ws, x.size ≤ 4194304)) (w : World) (hA : Arr w A (flat scell ws)) : Calls Tryz.prog 81 #[.slice A n c] w (Ret (.int .i64 (prob ws)) w) := by
  have hAA := Lib.hid hA
  clear hA
  go_enter Tryz.func81, Tryz.ntmps81
  by_cases h0 : n = 0
  · subst h0
    have HP := Lib.hid (show prob ws = 1 by rw [List.eq_nil_of_length_eq_zero hn.out]; rfl)
    go_wp2_with fail
    go_returns
    exact Ret.mk (vi (by rw [HP.out])) (Below.refl _ _)
  obtain ⟨t, r, hr⟩ : ∃ t r, ws = t :: r := by
    cases ws with
    | nil => exact absurd hn.out.symm h0
    | cons a r => exact ⟨a, r, rfl⟩
  subst hr
  have h1 : ((n : Int) == 0) = false := by rw [beq_eq_false_iff_ne]; omega
  have hn1 : (0 : Int) < (n : Int) := by omega
  have hn0 : 0 < n := by omega
  obtain ⟨ad, had, _, c0⟩ := scell_at (k := 0) hAA.out rfl
  subst had
  replace c0 : w.cell? ad = some (.string t) := c0
  obtain ⟨k, hk⟩ : ∃ z, z = kindW t := ⟨_, rfl⟩
  have HKW := fun w => l24Word_c t w
  rw [← hk] at HKW
  have hkk : k = -1 ∨ k = 0 ∨ k = 1 ∨ k = 2 ∨ k = 3 ∨ k = 4 ∨ k = 5 := by have := kind_bd t; omega
  replace HKW := Lib.hid HKW
  have HK := Lib.hid hk.symm
  clear hk
  go_wp2_with fail
  refine (HKW.out _).mono ?_
  rintro e W2 ⟨rfl, hv⟩
  have hA := Lib.hid (hAA.out.below hv)
  clear c0 HKW hAA
  rcases hkk with rfl | rfl | rfl | rfl | rfl | rfl | rfl
  · have HP := Lib.hid (prob_neg (l := t :: r) (by rw [List.headD_cons, HK.out]; omega))
    go_wp2_with fail
    go_returns
    exact Ret.mk (vi (by rw [HP.out])) hv
  · skip
    obtain ⟨cb, hcb⟩ : ∃ z, z = cntB 0 n := ⟨_, rfl⟩
    have HCC := fun w => l24Count_c 0 n w
    rw [← hcb] at HCC
    replace HCC := Lib.hid HCC
    have HCB := Lib.hid hcb
    clear hcb
    go_wp2_with fail
    refine (HCC.out _).mono ?_
    rintro e w' ⟨rfl, hq⟩
    rw [hq]
    clear hq w' HCC
    cases cb
    · have HP := Lib.hid (prob_three (.inl HK.out) (by rw [hn.out]; intro h2; have h := HCB.out; rw [h2] at h; exact absurd h (by decide)))
      clear HCB
      go_wp2_with fail
      go_returns
      exact Ret.mk (vi (by rw [HP.out])) hv
    · skip
      have hc : n = 3 := by
        have h := HCB.out
        unfold cntB at h
        rw [if_pos (by omega)] at h
        exact of_decide_eq_true h.symm
      clear HCB
      subst hc
      obtain ⟨t', a, b, hsh⟩ := len_three hn.out
      injection hsh with h1 h2
      subst h1
      subst h2
      obtain ⟨ad1, had1, _, c1⟩ := scell_at (k := 1) hA.out rfl
      injection had1 with had1
      subst had1
      replace c1 : W2.cell? ⟨ad.block, ad.off + 1, none⟩ = some (.string a) := c1
      have ha := Nat.le_trans (HPT.out a (by simp)) (by omega : 4194304 ≤ 9223372036854775807)
      obtain ⟨ad2, had2, _, c2⟩ := scell_at (k := 2) hA.out rfl
      injection had2 with had2
      subst had2
      replace c2 : W2.cell? ⟨ad.block, ad.off + 2, none⟩ = some (.string b) := c2
      have hb2 := Nat.le_trans (HPT.out b (by simp)) (by omega : 4194304 ≤ 9223372036854775807)
      obtain ⟨v1, hv1⟩ : ∃ z, z = nameB a := ⟨_, rfl⟩
      have Hv1 := fun w => SIsName_c a ha w
      rw [← hv1] at Hv1
      replace Hv1 := Lib.hid Hv1
      obtain ⟨v2, hv2⟩ : ∃ z, z = nameB b := ⟨_, rfl⟩
      have Hv2 := fun w => SIsName_c b hb2 w
      rw [← hv2] at Hv2
      replace Hv2 := Lib.hid Hv2
      have HP := Lib.hid (show prob [t, a, b] = if (v1 && v2) = true then 0 else 4 from by simp [prob, HK.out, hv1, hv2])
      clear hv1 hv2 HK
      cases v1
      · go_wp2_with fail
        refine (Hv1.out _).mono ?_
        rintro e w' ⟨rfl, hq⟩
        rw [hq]
        clear hq w'
        go_wp2_with fail
        go_returns
        exact Ret.mk (vi (by rw [HP.out]; rfl)) hv
      · skip
        cases v2
        · go_wp2_with fail
          refine (Hv1.out _).mono ?_
          rintro e w' ⟨rfl, hq⟩
          rw [hq]
          clear hq w'
          go_wp2_with fail
          refine (Hv2.out _).mono ?_
          rintro e w' ⟨rfl, hq⟩
          rw [hq]
          clear hq w'
          go_wp2_with fail
          go_returns
          exact Ret.mk (vi (by rw [HP.out]; rfl)) hv
        · go_wp2_with fail
          refine (Hv1.out _).mono ?_
          rintro e w' ⟨rfl, hq⟩
          rw [hq]
          clear hq w'
          go_wp2_with fail
          refine (Hv2.out _).mono ?_
          rintro e w' ⟨rfl, hq⟩
          rw [hq]
          clear hq w'
          go_wp2_with fail
          go_returns
          exact Ret.mk (vi (by rw [HP.out]; rfl)) hv
  · skip
    obtain ⟨cb, hcb⟩ : ∃ z, z = cntB 1 n := ⟨_, rfl⟩
    have HCC := fun w => l24Count_c 1 n w
    rw [← hcb] at HCC
    replace HCC := Lib.hid HCC
    have HCB := Lib.hid hcb
    clear hcb
    go_wp2_with fail
    refine (HCC.out _).mono ?_
    rintro e w' ⟨rfl, hq⟩
    rw [hq]
    clear hq w' HCC
    cases cb
    · have HP := Lib.hid (prob_two (.inl HK.out) (by rw [hn.out]; intro h2; have h := HCB.out; rw [h2] at h; exact absurd h (by decide)))
      clear HCB
      go_wp2_with fail
      go_returns
      exact Ret.mk (vi (by rw [HP.out])) hv
    · skip
      have hc : n = 2 := by
        have h := HCB.out
        unfold cntB at h
        rw [if_neg (by omega), if_neg (by omega)] at h
        exact of_decide_eq_true h.symm
      clear HCB
      subst hc
      obtain ⟨t', a, hsh⟩ := len_two hn.out
      injection hsh with h1 h2
      subst h1
      subst h2
      obtain ⟨ad1, had1, _, c1⟩ := scell_at (k := 1) hA.out rfl
      injection had1 with had1
      subst had1
      replace c1 : W2.cell? ⟨ad.block, ad.off + 1, none⟩ = some (.string a) := c1
      have ha := Nat.le_trans (HPT.out a (by simp)) (by omega : 4194304 ≤ 9223372036854775807)
      obtain ⟨v1, hv1⟩ : ∃ z, z = nameB a := ⟨_, rfl⟩
      have Hv1 := fun w => SIsName_c a ha w
      rw [← hv1] at Hv1
      replace Hv1 := Lib.hid Hv1
      have HP := Lib.hid (show prob [t, a] = if v1 = true then 0 else 4 from by simp [prob, HK.out, hv1])
      clear hv1 HK
      cases v1
      · go_wp2_with fail
        refine (Hv1.out _).mono ?_
        rintro e w' ⟨rfl, hq⟩
        rw [hq]
        clear hq w'
        go_wp2_with fail
        go_returns
        exact Ret.mk (vi (by rw [HP.out]; rfl)) hv
      · go_wp2_with fail
        refine (Hv1.out _).mono ?_
        rintro e w' ⟨rfl, hq⟩
        rw [hq]
        clear hq w'
        go_wp2_with fail
        go_returns
        exact Ret.mk (vi (by rw [HP.out]; rfl)) hv
  · skip
    obtain ⟨cb, hcb⟩ : ∃ z, z = cntB 2 n := ⟨_, rfl⟩
    have HCC := fun w => l24Count_c 2 n w
    rw [← hcb] at HCC
    replace HCC := Lib.hid HCC
    have HCB := Lib.hid hcb
    clear hcb
    go_wp2_with fail
    refine (HCC.out _).mono ?_
    rintro e w' ⟨rfl, hq⟩
    rw [hq]
    clear hq w' HCC
    cases cb
    · have HP := Lib.hid (prob_three (.inr HK.out) (by rw [hn.out]; intro h2; have h := HCB.out; rw [h2] at h; exact absurd h (by decide)))
      clear HCB
      go_wp2_with fail
      go_returns
      exact Ret.mk (vi (by rw [HP.out])) hv
    · skip
      have hc : n = 3 := by
        have h := HCB.out
        unfold cntB at h
        rw [if_pos (by omega)] at h
        exact of_decide_eq_true h.symm
      clear HCB
      subst hc
      obtain ⟨t', a, b, hsh⟩ := len_three hn.out
      injection hsh with h1 h2
      subst h1
      subst h2
      obtain ⟨ad1, had1, _, c1⟩ := scell_at (k := 1) hA.out rfl
      injection had1 with had1
      subst had1
      replace c1 : W2.cell? ⟨ad.block, ad.off + 1, none⟩ = some (.string a) := c1
      have ha := Nat.le_trans (HPT.out a (by simp)) (by omega : 4194304 ≤ 9223372036854775807)
      obtain ⟨ad2, had2, _, c2⟩ := scell_at (k := 2) hA.out rfl
      injection had2 with had2
      subst had2
      replace c2 : W2.cell? ⟨ad.block, ad.off + 2, none⟩ = some (.string b) := c2
      have hb2 := Nat.le_trans (HPT.out b (by simp)) (by omega : 4194304 ≤ 9223372036854775807)
      obtain ⟨v1, hv1⟩ : ∃ z, z = nameB a := ⟨_, rfl⟩
      have Hv1 := fun w => SIsName_c a ha w
      rw [← hv1] at Hv1
      replace Hv1 := Lib.hid Hv1
      obtain ⟨v2, hv2⟩ : ∃ z, z = numOk b 10 300 := ⟨_, rfl⟩
      have Hv2 := fun w => l24Number_c b hb2 10 300 w
      rw [← hv2] at Hv2
      replace Hv2 := Lib.hid Hv2
      have HP := Lib.hid (show prob [t, a, b] = if v1 = true then (if v2 = true then 0 else 3) else 4 from by simp [prob, HK.out, hv1, hv2])
      clear hv1 hv2 HK
      cases v1
      · go_wp2_with fail
        refine (Hv1.out _).mono ?_
        rintro e w' ⟨rfl, hq⟩
        rw [hq]
        clear hq w'
        go_wp2_with fail
        go_returns
        exact Ret.mk (vi (by rw [HP.out]; rfl)) hv
      · skip
        go_wp2_with fail
        refine (Hv1.out _).mono ?_
        rintro e w' ⟨rfl, hq⟩
        rw [hq]
        clear hq w'
        go_wp2_with fail
        refine (Hv2.out _).mono ?_
        rintro e W3 ⟨rfl, hb3⟩
        replace hv := bl_trans hv hb3
        clear hb3
        cases v2
        · go_wp2_with fail
          go_returns
          exact Ret.mk (vi (by rw [HP.out]; rfl)) hv
        · go_wp2_with fail
          go_returns
          exact Ret.mk (vi (by rw [HP.out]; rfl)) hv
  · skip
    obtain ⟨cb, hcb⟩ : ∃ z, z = cntB 3 n := ⟨_, rfl⟩
    have HCC := fun w => l24Count_c 3 n w
    rw [← hcb] at HCC
    replace HCC := Lib.hid HCC
    have HCB := Lib.hid hcb
    clear hcb
    go_wp2_with fail
    refine (HCC.out _).mono ?_
    rintro e w' ⟨rfl, hq⟩
    rw [hq]
    clear hq w' HCC
    cases cb
    · have HP := Lib.hid (prob_two (.inr (.inl HK.out)) (by rw [hn.out]; intro h2; have h := HCB.out; rw [h2] at h; exact absurd h (by decide)))
      clear HCB
      go_wp2_with fail
      go_returns
      exact Ret.mk (vi (by rw [HP.out])) hv
    · skip
      have hc : n = 2 := by
        have h := HCB.out
        unfold cntB at h
        rw [if_neg (by omega), if_neg (by omega)] at h
        exact of_decide_eq_true h.symm
      clear HCB
      subst hc
      obtain ⟨t', a, hsh⟩ := len_two hn.out
      injection hsh with h1 h2
      subst h1
      subst h2
      obtain ⟨ad1, had1, _, c1⟩ := scell_at (k := 1) hA.out rfl
      injection had1 with had1
      subst had1
      replace c1 : W2.cell? ⟨ad.block, ad.off + 1, none⟩ = some (.string a) := c1
      have ha := Nat.le_trans (HPT.out a (by simp)) (by omega : 4194304 ≤ 9223372036854775807)
      obtain ⟨v1, hv1⟩ : ∃ z, z = numOk a 0 1200 := ⟨_, rfl⟩
      have Hv1 := fun w => l24Number_c a ha 0 1200 w
      rw [← hv1] at Hv1
      replace Hv1 := Lib.hid Hv1
      have HP := Lib.hid (show prob [t, a] = if v1 = true then 0 else 3 from by simp [prob, HK.out, hv1])
      clear hv1 HK
      go_wp2_with fail
      refine (Hv1.out _).mono ?_
      rintro e W3 ⟨rfl, hb3⟩
      replace hv := bl_trans hv hb3
      clear hb3
      cases v1
      · go_wp2_with fail
        go_returns
        exact Ret.mk (vi (by rw [HP.out]; rfl)) hv
      · go_wp2_with fail
        go_returns
        exact Ret.mk (vi (by rw [HP.out]; rfl)) hv
  · skip
    obtain ⟨cb, hcb⟩ : ∃ z, z = cntB 4 n := ⟨_, rfl⟩
    have HCC := fun w => l24Count_c 4 n w
    rw [← hcb] at HCC
    replace HCC := Lib.hid HCC
    have HCB := Lib.hid hcb
    clear hcb
    go_wp2_with fail
    refine (HCC.out _).mono ?_
    rintro e w' ⟨rfl, hq⟩
    rw [hq]
    clear hq w' HCC
    cases cb
    · have HP := Lib.hid (prob_two (.inr (.inr HK.out)) (by rw [hn.out]; intro h2; have h := HCB.out; rw [h2] at h; exact absurd h (by decide)))
      clear HCB
      go_wp2_with fail
      go_returns
      exact Ret.mk (vi (by rw [HP.out])) hv
    · skip
      have hc : n = 2 := by
        have h := HCB.out
        unfold cntB at h
        rw [if_neg (by omega), if_neg (by omega)] at h
        exact of_decide_eq_true h.symm
      clear HCB
      subst hc
      obtain ⟨t', a, hsh⟩ := len_two hn.out
      injection hsh with h1 h2
      subst h1
      subst h2
      obtain ⟨ad1, had1, _, c1⟩ := scell_at (k := 1) hA.out rfl
      injection had1 with had1
      subst had1
      replace c1 : W2.cell? ⟨ad.block, ad.off + 1, none⟩ = some (.string a) := c1
      have ha := Nat.le_trans (HPT.out a (by simp)) (by omega : 4194304 ≤ 9223372036854775807)
      obtain ⟨v1, hv1⟩ : ∃ z, z = numOk a 1 12 := ⟨_, rfl⟩
      have Hv1 := fun w => l24Number_c a ha 1 12 w
      rw [← hv1] at Hv1
      replace Hv1 := Lib.hid Hv1
      have HP := Lib.hid (show prob [t, a] = if v1 = true then 0 else 3 from by simp [prob, HK.out, hv1])
      clear hv1 HK
      go_wp2_with fail
      refine (Hv1.out _).mono ?_
      rintro e W3 ⟨rfl, hb3⟩
      replace hv := bl_trans hv hb3
      clear hb3
      cases v1
      · go_wp2_with fail
        go_returns
        exact Ret.mk (vi (by rw [HP.out]; rfl)) hv
      · go_wp2_with fail
        go_returns
        exact Ret.mk (vi (by rw [HP.out]; rfl)) hv
  · skip
    obtain ⟨cb, hcb⟩ : ∃ z, z = cntB 5 n := ⟨_, rfl⟩
    have HCC := fun w => l24Count_c 5 n w
    rw [← hcb] at HCC
    replace HCC := Lib.hid HCC
    have HCB := Lib.hid hcb
    clear hcb
    go_wp2_with fail
    refine (HCC.out _).mono ?_
    rintro e w' ⟨rfl, hq⟩
    rw [hq]
    clear hq w' HCC
    cases cb
    · have HP := Lib.hid (prob_five HK.out (by rw [hn.out]; intro h2; have h := HCB.out; rw [h2] at h; exact absurd h (by decide)) (by rw [hn.out]; intro h3; have h := HCB.out; rw [h3] at h; exact absurd h (by decide)))
      clear HCB
      go_wp2_with fail
      go_returns
      exact Ret.mk (vi (by rw [HP.out])) hv
    · skip
      have hc : n = 2 ∨ n = 3 := by
        have h := HCB.out
        unfold cntB at h
        rw [if_neg (by omega), if_pos rfl] at h
        by_cases h2 : n = 2
        · exact .inl h2
        · rw [decide_eq_false h2, Bool.false_or] at h; exact .inr (of_decide_eq_true h.symm)
      clear HCB
      rcases hc with rfl | rfl
      · skip
        obtain ⟨t', a, hsh⟩ := len_two hn.out
        injection hsh with h1 h2
        subst h1
        subst h2
        obtain ⟨ad1, had1, _, c1⟩ := scell_at (k := 1) hA.out rfl
        injection had1 with had1
        subst had1
        replace c1 : W2.cell? ⟨ad.block, ad.off + 1, none⟩ = some (.string a) := c1
        have ha := Nat.le_trans (HPT.out a (by simp)) (by omega : 4194304 ≤ 9223372036854775807)
        obtain ⟨v1, hv1⟩ : ∃ z, z = numOk a 10 80 := ⟨_, rfl⟩
        have Hv1 := fun w => l24Number_c a ha 10 80 w
        rw [← hv1] at Hv1
        replace Hv1 := Lib.hid Hv1
        have HP := Lib.hid (show prob [t, a] = if v1 = true then 0 else 3 from by simp [prob, HK.out, hv1])
        clear hv1 HK
        go_wp2_with fail
        refine (Hv1.out _).mono ?_
        rintro e W3 ⟨rfl, hb3⟩
        replace hv := bl_trans hv hb3
        clear hb3
        cases v1
        · go_wp2_with fail
          go_returns
          exact Ret.mk (vi (by rw [HP.out]; rfl)) hv
        · go_wp2_with fail
          go_returns
          exact Ret.mk (vi (by rw [HP.out]; rfl)) hv
      · skip
        obtain ⟨t', a, b, hsh⟩ := len_three hn.out
        injection hsh with h1 h2
        subst h1
        subst h2
        obtain ⟨ad1, had1, _, c1⟩ := scell_at (k := 1) hA.out rfl
        injection had1 with had1
        subst had1
        replace c1 : W2.cell? ⟨ad.block, ad.off + 1, none⟩ = some (.string a) := c1
        have ha := Nat.le_trans (HPT.out a (by simp)) (by omega : 4194304 ≤ 9223372036854775807)
        obtain ⟨ad2, had2, _, c2⟩ := scell_at (k := 2) hA.out rfl
        injection had2 with had2
        subst had2
        replace c2 : W2.cell? ⟨ad.block, ad.off + 2, none⟩ = some (.string b) := c2
        have hb2 := Nat.le_trans (HPT.out b (by simp)) (by omega : 4194304 ≤ 9223372036854775807)
        obtain ⟨v1, hv1⟩ : ∃ z, z = numOk a 10 80 := ⟨_, rfl⟩
        have Hv1 := fun w => l24Number_c a ha 10 80 w
        rw [← hv1] at Hv1
        replace Hv1 := Lib.hid Hv1
        obtain ⟨v2, hv2⟩ : ∃ z, z = decide (b = wDouble) := ⟨_, rfl⟩
        have q7 : (b.toList == [100, 111, 117, 98, 108, 101]) = v2 := by rw [hv2, ← bytes_beq, show wDouble.toList = [100, 111, 117, 98, 108, 101] from by simp [wDouble]]
        have HP := Lib.hid (show prob [t, a, b] = if (v1 && v2) = true then 0 else 3 from by simp [prob, HK.out, hv1, hv2])
        clear hv1 hv2 HK
        go_wp2_with fail
        refine (Hv1.out _).mono ?_
        rintro e W3 ⟨rfl, hb3⟩
        replace hv := bl_trans hv hb3
        replace c2 := bl_cell hb3 c2
        clear hb3
        cases v1
        · go_wp2_with fail
          go_returns
          exact Ret.mk (vi (by rw [HP.out]; rfl)) hv
        · skip
          cases v2
          · go_wp2_with fail
            go_returns
            exact Ret.mk (vi (by rw [HP.out]; rfl)) hv
          · go_wp2_with fail
            go_returns
            exact Ret.mk (vi (by rw [HP.out]; rfl)) hv
end Go.Proofs.YtihgjmhhpiobbaaGreatDoor
