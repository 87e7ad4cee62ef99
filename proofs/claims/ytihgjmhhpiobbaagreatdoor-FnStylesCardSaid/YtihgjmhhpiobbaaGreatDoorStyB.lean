/- Styles: the problem of a clause, the program's. builds (18 s). -/
import Derived.Test.YtihgjmhhpiobbaaGreatDoorStyA
namespace Go.Proofs.YtihgjmhhpiobbaaGreatDoor
open Go.RowKit

theorem spl_partS (c : UInt8) : ∀ l p : List UInt8, p ∈ spl c l → p.length ≤ l.length := by
  intro l
  induction l with
  | nil => intro p h; simp only [spl, List.mem_singleton] at h; subst h; simp
  | cons b l ih =>
    intro p h
    simp only [spl] at h
    split at h
    · rcases List.mem_cons.1 h with rfl | h
      · simp
      · have := ih p h; simp only [List.length_cons]; omega
    · cases hs : spl c l with
      | nil => exact absurd hs (spl_ne c l)
      | cons x r =>
        rw [hs] at h ih
        simp only [glue, List.mem_cons] at h
        rcases h with rfl | h
        · have := ih x (by simp); simp only [List.cons_append, List.nil_append, List.length_cons]; omega
        · have := ih p (by simp [h]); simp only [List.length_cons]; omega
theorem splC_part {c : UInt8} {s x : ByteArray} (h : x ∈ splC c s) : x.size ≤ s.size := by
  unfold splC at h
  obtain ⟨l, hl, rfl⟩ := List.mem_map.1 h
  have h1 := spl_partS c _ _ hl
  rw [bytes_len] at h1
  rw [show (ByteArray.mk l.toArray).size = l.length from by simp only [ByteArray.size, List.size_toArray]]
  exact h1
theorem wrds_part {s x : ByteArray} (h : x ∈ wrds s) : x.size ≤ s.size := splC_part (List.mem_filter.1 h).1
theorem len_two {α : Type} {l : List α} (h : l.length = 2) : ∃ a b, l = [a, b] := by
  rcases l with _ | ⟨a, _ | ⟨b, _ | ⟨c, l⟩⟩⟩ <;> simp at h
  exact ⟨a, b, rfl⟩
theorem len_three {α : Type} {l : List α} (h : l.length = 3) : ∃ a b c, l = [a, b, c] := by
  rcases l with _ | ⟨a, _ | ⟨b, _ | ⟨c, _ | ⟨d, l⟩⟩⟩⟩ <;> simp at h
  exact ⟨a, b, c, rfl⟩
theorem prob_three {t : ByteArray} {r : List ByteArray} (hk : kindW t = 0 ∨ kindW t = 2) (h : (t :: r).length ≠ 3) : prob (t :: r) = 2 := by
  rcases hk with hk | hk <;> rcases r with _ | ⟨a, _ | ⟨b, _ | ⟨c, r⟩⟩⟩ <;> simp [prob, hk] at h ⊢
theorem prob_two {t : ByteArray} {r : List ByteArray} (hk : kindW t = 1 ∨ kindW t = 3 ∨ kindW t = 4) (h : (t :: r).length ≠ 2) : prob (t :: r) = 2 := by
  rcases hk with hk | hk | hk <;> rcases r with _ | ⟨a, _ | ⟨b, r⟩⟩ <;> simp [prob, hk] at h ⊢
theorem prob_five {t : ByteArray} {r : List ByteArray} (hk : kindW t = 5) (h : (t :: r).length ≠ 2) (h3 : (t :: r).length ≠ 3) : prob (t :: r) = 2 := by
  rcases r with _ | ⟨a, _ | ⟨b, _ | ⟨c, r⟩⟩⟩ <;> simp [prob, hk] at h h3 ⊢
theorem prob_neg {l : List ByteArray} (h : kindW (l.headD ⟨#[]⟩) < 0) : prob l = 1 := by
  cases l with
  | nil => rfl
  | cons t r =>
    rcases kind_cases t with ⟨_, hk⟩ | ⟨_, hk⟩ | ⟨_, hk⟩ | ⟨_, hk⟩ | ⟨_, hk⟩ | ⟨_, hk⟩ | ⟨_, hk⟩ <;> simp only [List.headD_cons, hk] at h
    all_goals first | (simp [prob, hk]; done) | omega
set_option maxRecDepth 100000 in
set_option maxHeartbeats 8000000 in
theorem clauseProblem_c (s : ByteArray) (hs : s.size ≤ 4194304) (w : World) (hT : Tabs w) : Calls Tryz.prog 71 #[.string s] w (Ret (.int .i64 (prob (wrds s))) w) := by
  have HT := Lib.hid hT
  clear hT
  have hle := wrds_le s
  have HPT := Lib.hid (fun x (hx : x ∈ wrds s) => Nat.le_trans (wrds_part hx) hs)
  have HSW := fun w h => SplitWordsR_c s hs w h
  have HCW := fun w h => clauseWord_c s hs w h
  unfold hdW at HCW
  unfold OutWd at HSW
  obtain ⟨WS, hWS⟩ : ∃ z, z = wrds s := ⟨_, rfl⟩
  rw [← hWS] at HSW HCW hle HPT ⊢
  obtain ⟨t, ht⟩ : ∃ z, z = WS.headD ⟨#[]⟩ := ⟨_, rfl⟩
  rw [← ht] at HCW
  replace HSW := Lib.hid HSW
  replace HCW := Lib.hid HCW
  have HTT := Lib.hid ht
  clear hWS ht
  go_enter Tryz.func71, Tryz.ntmps71
  go_wp2_with fail
  refine (HSW.out _ HT.out).mono ?_
  rintro e W ⟨A, n, c, rfl, hn', hA', hv⟩
  have hn := Lib.hid hn'
  have hA := Lib.hid hA'
  clear hn' hA' HSW
  go_wp2_with fail
  refine (StyleWords_c _).mono ?_
  rintro e W1 ⟨rfl, hq⟩
  obtain ⟨g, hg⟩ : ∃ z, z = W.heap.size := ⟨_, rfl⟩
  have hC : Hid (Blk W1 g 9 (styW.map Value.string).toArray) := Lib.hid (by rw [hq, hg]; exact Blk.new _ _ _)
  have hb : Below W.heap.size W W1 := by rw [hq]; exact bl_alloc (Below.refl _ _) _
  rw [← hg]
  clear hq hg
  replace hv := bl_trans hv hb
  replace hA := Lib.hid (hA.out.below hb)
  clear hb
  go_wp2_with fail
  refine (HCW.out _ (HT.out.below hv)).mono ?_
  rintro e W2 ⟨rfl, hb⟩
  replace hv := bl_trans hv hb
  replace hA := Lib.hid (hA.out.below hb)
  have hC2 := Lib.hid (hC.out.below hb)
  clear hb hC HCW
  go_wp2_with fail
  refine (containsSty_c g t W2 (fun j hj => by
    rw [hC2.out.cell j]
    rcases j with _ | _ | _ | _ | _ | _ | j <;> first | rfl | omega)).mono ?_
  rintro e w' ⟨rfl, hq⟩
  rw [hq]
  clear hq w' hC2
  by_cases hk0 : kindW t < 0
  · have hd : decide (0 ≤ kindW t) = false := decide_eq_false (by omega)
    have HP := Lib.hid (prob_neg (l := WS) (by rw [← HTT.out]; exact hk0))
    rw [hd]
    clear hd
    go_wp2_with fail
    go_returns
    exact Ret.mk (vi (by rw [HP.out])) hv
  have hd : decide (0 ≤ kindW t) = true := decide_eq_true (by omega)
  rw [hd]
  clear hd
  obtain ⟨r, hr⟩ : ∃ r, WS = t :: r := by
    have h := HTT.out
    cases WS with
    | nil => rw [List.headD_nil] at h; rw [h] at hk0; exact absurd (show kindW ⟨#[]⟩ < 0 by decide) hk0
    | cons a r => rw [List.headD_cons] at h; subst h; exact ⟨r, rfl⟩
  subst hr
  obtain ⟨ad, had, _, c0⟩ := scell_at (k := 0) hA.out rfl
  subst had
  replace c0 : W2.cell? ad = some (.string t) := c0
  have hn0 : 0 < n := by have := hn.out; rw [List.length_cons] at this; omega
  have hn1 : (0 : Int) < (n : Int) := by omega
  clear HTT
  obtain ⟨k, hk⟩ : ∃ z, z = kindW t := ⟨_, rfl⟩
  obtain ⟨e0, e1, e2, e3, e4, e5⟩ := kind_beq hk.symm
  have hkk : k = 0 ∨ k = 1 ∨ k = 2 ∨ k = 3 ∨ k = 4 ∨ k = 5 := by
    rcases kind_cases t with ⟨_, h⟩ | ⟨_, h⟩ | ⟨_, h⟩ | ⟨_, h⟩ | ⟨_, h⟩ | ⟨_, h⟩ | ⟨_, h⟩ <;> omega
  clear hk0
  have HK := Lib.hid hk.symm
  clear hk
  rw [show wUpper.toList = [117, 112, 112, 101, 114] from by simp [wUpper]] at e0
  rw [show wLining.toList = [108, 105, 110, 105, 110, 103] from by simp [wLining]] at e1
  rw [show wSole.toList = [115, 111, 108, 101] from by simp [wSole]] at e2
  rw [show wHeel.toList = [104, 101, 101, 108] from by simp [wHeel]] at e3
  rw [show wEyelets.toList = [101, 121, 101, 108, 101, 116, 115] from by simp [wEyelets]] at e4
  rw [show wStitch.toList = [115, 116, 105, 116, 99, 104] from by simp [wStitch]] at e5
  rcases hkk with rfl | rfl | rfl | rfl | rfl | rfl
  · skip
    replace e0 := e0.trans (show decide ((0 : Int) = 0) = true from by decide)
    replace e1 := e1.trans (show decide ((0 : Int) = 1) = false from by decide)
    replace e2 := e2.trans (show decide ((0 : Int) = 2) = false from by decide)
    replace e3 := e3.trans (show decide ((0 : Int) = 3) = false from by decide)
    replace e4 := e4.trans (show decide ((0 : Int) = 4) = false from by decide)
    replace e5 := e5.trans (show decide ((0 : Int) = 5) = false from by decide)
    by_cases hc : n = 3
    · subst hc
      obtain ⟨t', a, b, hsh⟩ := len_three hn.out
      injection hsh with h1 h2
      subst h1
      subst h2
      obtain ⟨ad1, had1, _, c1⟩ := scell_at (k := 1) hA.out rfl
      injection had1 with had1
      subst had1
      replace c1 : W2.cell? ⟨ad.block, ad.off + 1, none⟩ = some (.string a) := c1
      have ha := Nat.le_trans (HPT.out a (by simp)) (by omega : 4194304 ≤ 9223372036854775807)
      obtain ⟨ad2, had2, _, c2⟩ := scell_at (k := 2) hA.out rfl
      injection had2 with had2
      subst had2
      replace c2 : W2.cell? ⟨ad.block, ad.off + 2, none⟩ = some (.string b) := c2
      have hb2 := Nat.le_trans (HPT.out b (by simp)) (by omega : 4194304 ≤ 9223372036854775807)
      obtain ⟨v1, hv1⟩ : ∃ z, z = nameB a := ⟨_, rfl⟩
      have Hv1 := fun w => IsName_c a ha w
      rw [← hv1] at Hv1
      replace Hv1 := Lib.hid Hv1
      obtain ⟨v2, hv2⟩ : ∃ z, z = nameB b := ⟨_, rfl⟩
      have Hv2 := fun w => IsName_c b hb2 w
      rw [← hv2] at Hv2
      replace Hv2 := Lib.hid Hv2
      have HP := Lib.hid (show prob [t, a, b] = if (v1 && v2) = true then 0 else 4 from by simp [prob, HK.out, hv1, hv2])
      clear hv1 hv2 HK
      cases v1
      · go_wp2_with fail
        refine (Hv1.out _).mono ?_
        rintro e w' ⟨rfl, hq⟩
        rw [hq]
        clear hq w'
        go_wp2_with fail
        go_returns
        exact Ret.mk (vi (by rw [HP.out]; rfl)) hv
      · cases v2
        · go_wp2_with fail
          refine (Hv1.out _).mono ?_
          rintro e w' ⟨rfl, hq⟩
          rw [hq]
          clear hq w'
          go_wp2_with fail
          refine (Hv2.out _).mono ?_
          rintro e w' ⟨rfl, hq⟩
          rw [hq]
          clear hq w'
          go_wp2_with fail
          go_returns
          exact Ret.mk (vi (by rw [HP.out]; rfl)) hv
        · go_wp2_with fail
          refine (Hv1.out _).mono ?_
          rintro e w' ⟨rfl, hq⟩
          rw [hq]
          clear hq w'
          go_wp2_with fail
          refine (Hv2.out _).mono ?_
          rintro e w' ⟨rfl, hq⟩
          rw [hq]
          clear hq w'
          go_wp2_with fail
          go_returns
          exact Ret.mk (vi (by rw [HP.out]; rfl)) hv
    · skip
      have HP := Lib.hid (prob_three (.inl HK.out) (by rw [hn.out]; exact hc))
      have q3 : ((n : Int) != 3) = true := by rw [bne_iff_ne]; omega
      go_wp2_with fail
      go_returns
      exact Ret.mk (vi (by rw [HP.out])) hv
  · skip
    replace e0 := e0.trans (show decide ((1 : Int) = 0) = false from by decide)
    replace e1 := e1.trans (show decide ((1 : Int) = 1) = true from by decide)
    replace e2 := e2.trans (show decide ((1 : Int) = 2) = false from by decide)
    replace e3 := e3.trans (show decide ((1 : Int) = 3) = false from by decide)
    replace e4 := e4.trans (show decide ((1 : Int) = 4) = false from by decide)
    replace e5 := e5.trans (show decide ((1 : Int) = 5) = false from by decide)
    by_cases hc : n = 2
    · subst hc
      obtain ⟨t', a, hsh⟩ := len_two hn.out
      injection hsh with h1 h2
      subst h1
      subst h2
      obtain ⟨ad1, had1, _, c1⟩ := scell_at (k := 1) hA.out rfl
      injection had1 with had1
      subst had1
      replace c1 : W2.cell? ⟨ad.block, ad.off + 1, none⟩ = some (.string a) := c1
      have ha := Nat.le_trans (HPT.out a (by simp)) (by omega : 4194304 ≤ 9223372036854775807)
      obtain ⟨v1, hv1⟩ : ∃ z, z = nameB a := ⟨_, rfl⟩
      have Hv1 := fun w => IsName_c a ha w
      rw [← hv1] at Hv1
      replace Hv1 := Lib.hid Hv1
      have HP := Lib.hid (show prob [t, a] = if v1 = true then 0 else 4 from by simp [prob, HK.out, hv1])
      clear hv1 HK
      cases v1
      · go_wp2_with fail
        refine (Hv1.out _).mono ?_
        rintro e w' ⟨rfl, hq⟩
        rw [hq]
        clear hq w'
        go_wp2_with fail
        go_returns
        exact Ret.mk (vi (by rw [HP.out]; rfl)) hv
      · go_wp2_with fail
        refine (Hv1.out _).mono ?_
        rintro e w' ⟨rfl, hq⟩
        rw [hq]
        clear hq w'
        go_wp2_with fail
        go_returns
        exact Ret.mk (vi (by rw [HP.out]; rfl)) hv
    · skip
      have HP := Lib.hid (prob_two (.inl HK.out) (by rw [hn.out]; exact hc))
      have q3 : ((n : Int) != 2) = true := by rw [bne_iff_ne]; omega
      go_wp2_with fail
      go_returns
      exact Ret.mk (vi (by rw [HP.out])) hv
  · skip
    replace e0 := e0.trans (show decide ((2 : Int) = 0) = false from by decide)
    replace e1 := e1.trans (show decide ((2 : Int) = 1) = false from by decide)
    replace e2 := e2.trans (show decide ((2 : Int) = 2) = true from by decide)
    replace e3 := e3.trans (show decide ((2 : Int) = 3) = false from by decide)
    replace e4 := e4.trans (show decide ((2 : Int) = 4) = false from by decide)
    replace e5 := e5.trans (show decide ((2 : Int) = 5) = false from by decide)
    by_cases hc : n = 3
    · subst hc
      obtain ⟨t', a, b, hsh⟩ := len_three hn.out
      injection hsh with h1 h2
      subst h1
      subst h2
      obtain ⟨ad1, had1, _, c1⟩ := scell_at (k := 1) hA.out rfl
      injection had1 with had1
      subst had1
      replace c1 : W2.cell? ⟨ad.block, ad.off + 1, none⟩ = some (.string a) := c1
      have ha := Nat.le_trans (HPT.out a (by simp)) (by omega : 4194304 ≤ 9223372036854775807)
      obtain ⟨ad2, had2, _, c2⟩ := scell_at (k := 2) hA.out rfl
      injection had2 with had2
      subst had2
      replace c2 : W2.cell? ⟨ad.block, ad.off + 2, none⟩ = some (.string b) := c2
      have hb2 := Nat.le_trans (HPT.out b (by simp)) (by omega : 4194304 ≤ 9223372036854775807)
      obtain ⟨v1, hv1⟩ : ∃ z, z = nameB a := ⟨_, rfl⟩
      have Hv1 := fun w => IsName_c a ha w
      rw [← hv1] at Hv1
      replace Hv1 := Lib.hid Hv1
      obtain ⟨v2, hv2⟩ : ∃ z, z = numOk b 10 300 := ⟨_, rfl⟩
      have Hv2 := fun w h => isNumber_c b (HPT.out b (by simp)) 10 300 w h
      rw [← hv2] at Hv2
      replace Hv2 := Lib.hid Hv2
      have HP := Lib.hid (show prob [t, a, b] = if v1 = true then (if v2 = true then 0 else 3) else 4 from by simp [prob, HK.out, hv1, hv2])
      clear hv1 hv2 HK
      go_wp2_with fail
      have HS := Lib.hid (show (fun w' : World => Below w.heap.size w w' ∧ w'.cell? ⟨ad.block, ad.off + 1, none⟩ = some (.string a) ∧ w'.cell? ⟨ad.block, ad.off + 2, none⟩ = some (.string b)) W2.drew from ⟨hv.drew, bl_cell (Below.refl _ _).drew c1, bl_cell (Below.refl _ _).drew c2⟩)
      clear hv c1 c2
      go_region_held3 (fun w' => Below w.heap.size w w' ∧ w'.cell? ⟨ad.block, ad.off + 1, none⟩ = some (.string a) ∧ w'.cell? ⟨ad.block, ad.off + 2, none⟩ = some (.string b))
        (first | exact HS.out | assumption | (go_split_ands; exact ⟨bl_trans (by assumption) hb, bl_cell hb (by assumption), bl_cell hb (by assumption)⟩))
        (first | (go_at_call 46; refine (Hv1.out _).mono ?_; rintro e w' ⟨rfl, hq⟩; rw [hq]; clear hq w') | (go_at_call 96; go_split_ands; refine (Hv2.out _ (HT.out.below (by assumption))).mono ?_; rintro e W3 ⟨rfl, hb⟩))
      go_split_ands
      have hv := (by assumption : Below w.heap.size w _)
      cases v1
      · go_wp2_with fail
        go_returns
        exact Ret.mk (vi (by rw [HP.out]; rfl)) hv
      cases v2
      · go_wp2_with fail
        go_returns
        exact Ret.mk (vi (by rw [HP.out]; rfl)) hv
      · go_wp2_with fail
        go_returns
        exact Ret.mk (vi (by rw [HP.out]; rfl)) hv
    · skip
      have HP := Lib.hid (prob_three (.inr HK.out) (by rw [hn.out]; exact hc))
      have q3 : ((n : Int) != 3) = true := by rw [bne_iff_ne]; omega
      go_wp2_with fail
      go_returns
      exact Ret.mk (vi (by rw [HP.out])) hv
  · skip
    replace e0 := e0.trans (show decide ((3 : Int) = 0) = false from by decide)
    replace e1 := e1.trans (show decide ((3 : Int) = 1) = false from by decide)
    replace e2 := e2.trans (show decide ((3 : Int) = 2) = false from by decide)
    replace e3 := e3.trans (show decide ((3 : Int) = 3) = true from by decide)
    replace e4 := e4.trans (show decide ((3 : Int) = 4) = false from by decide)
    replace e5 := e5.trans (show decide ((3 : Int) = 5) = false from by decide)
    by_cases hc : n = 2
    · subst hc
      obtain ⟨t', a, hsh⟩ := len_two hn.out
      injection hsh with h1 h2
      subst h1
      subst h2
      obtain ⟨ad1, had1, _, c1⟩ := scell_at (k := 1) hA.out rfl
      injection had1 with had1
      subst had1
      replace c1 : W2.cell? ⟨ad.block, ad.off + 1, none⟩ = some (.string a) := c1
      have ha := Nat.le_trans (HPT.out a (by simp)) (by omega : 4194304 ≤ 9223372036854775807)
      obtain ⟨v1, hv1⟩ : ∃ z, z = numOk a 0 1200 := ⟨_, rfl⟩
      have Hv1 := fun w h => isNumber_c a (HPT.out a (by simp)) 0 1200 w h
      rw [← hv1] at Hv1
      replace Hv1 := Lib.hid Hv1
      have HP := Lib.hid (show prob [t, a] = if v1 = true then 0 else 3 from by simp [prob, HK.out, hv1])
      clear hv1 HK
      go_wp2_with fail
      refine (Hv1.out _ (HT.out.below hv)).mono ?_
      rintro e W3 ⟨rfl, hb3⟩
      replace hv := bl_trans hv hb3
      clear hb3
      cases v1
      · go_wp2_with fail
        go_returns
        exact Ret.mk (vi (by rw [HP.out]; rfl)) hv
      · go_wp2_with fail
        go_returns
        exact Ret.mk (vi (by rw [HP.out]; rfl)) hv
    · skip
      have HP := Lib.hid (prob_two (.inr (.inl HK.out)) (by rw [hn.out]; exact hc))
      have q3 : ((n : Int) != 2) = true := by rw [bne_iff_ne]; omega
      go_wp2_with fail
      go_returns
      exact Ret.mk (vi (by rw [HP.out])) hv
  · skip
    replace e0 := e0.trans (show decide ((4 : Int) = 0) = false from by decide)
    replace e1 := e1.trans (show decide ((4 : Int) = 1) = false from by decide)
    replace e2 := e2.trans (show decide ((4 : Int) = 2) = false from by decide)
    replace e3 := e3.trans (show decide ((4 : Int) = 3) = false from by decide)
    replace e4 := e4.trans (show decide ((4 : Int) = 4) = true from by decide)
    replace e5 := e5.trans (show decide ((4 : Int) = 5) = false from by decide)
    by_cases hc : n = 2
    · subst hc
      obtain ⟨t', a, hsh⟩ := len_two hn.out
      injection hsh with h1 h2
      subst h1
      subst h2
      obtain ⟨ad1, had1, _, c1⟩ := scell_at (k := 1) hA.out rfl
      injection had1 with had1
      subst had1
      replace c1 : W2.cell? ⟨ad.block, ad.off + 1, none⟩ = some (.string a) := c1
      have ha := Nat.le_trans (HPT.out a (by simp)) (by omega : 4194304 ≤ 9223372036854775807)
      obtain ⟨v1, hv1⟩ : ∃ z, z = numOk a 1 12 := ⟨_, rfl⟩
      have Hv1 := fun w h => isNumber_c a (HPT.out a (by simp)) 1 12 w h
      rw [← hv1] at Hv1
      replace Hv1 := Lib.hid Hv1
      have HP := Lib.hid (show prob [t, a] = if v1 = true then 0 else 3 from by simp [prob, HK.out, hv1])
      clear hv1 HK
      go_wp2_with fail
      refine (Hv1.out _ (HT.out.below hv)).mono ?_
      rintro e W3 ⟨rfl, hb3⟩
      replace hv := bl_trans hv hb3
      clear hb3
      cases v1
      · go_wp2_with fail
        go_returns
        exact Ret.mk (vi (by rw [HP.out]; rfl)) hv
      · go_wp2_with fail
        go_returns
        exact Ret.mk (vi (by rw [HP.out]; rfl)) hv
    · skip
      have HP := Lib.hid (prob_two (.inr (.inr HK.out)) (by rw [hn.out]; exact hc))
      have q3 : ((n : Int) != 2) = true := by rw [bne_iff_ne]; omega
      go_wp2_with fail
      go_returns
      exact Ret.mk (vi (by rw [HP.out])) hv
  · skip
    replace e0 := e0.trans (show decide ((5 : Int) = 0) = false from by decide)
    replace e1 := e1.trans (show decide ((5 : Int) = 1) = false from by decide)
    replace e2 := e2.trans (show decide ((5 : Int) = 2) = false from by decide)
    replace e3 := e3.trans (show decide ((5 : Int) = 3) = false from by decide)
    replace e4 := e4.trans (show decide ((5 : Int) = 4) = false from by decide)
    replace e5 := e5.trans (show decide ((5 : Int) = 5) = true from by decide)
    by_cases hc2 : n = 2
    · subst hc2
      obtain ⟨t', a, hsh⟩ := len_two hn.out
      injection hsh with h1 h2
      subst h1
      subst h2
      obtain ⟨ad1, had1, _, c1⟩ := scell_at (k := 1) hA.out rfl
      injection had1 with had1
      subst had1
      replace c1 : W2.cell? ⟨ad.block, ad.off + 1, none⟩ = some (.string a) := c1
      have ha := Nat.le_trans (HPT.out a (by simp)) (by omega : 4194304 ≤ 9223372036854775807)
      obtain ⟨v1, hv1⟩ : ∃ z, z = numOk a 10 80 := ⟨_, rfl⟩
      have Hv1 := fun w h => isNumber_c a (HPT.out a (by simp)) 10 80 w h
      rw [← hv1] at Hv1
      replace Hv1 := Lib.hid Hv1
      have HP := Lib.hid (show prob [t, a] = if v1 = true then 0 else 3 from by simp [prob, HK.out, hv1])
      clear hv1 HK
      go_wp2_with fail
      refine (Hv1.out _ (HT.out.below hv)).mono ?_
      rintro e W3 ⟨rfl, hb3⟩
      replace hv := bl_trans hv hb3
      clear hb3
      cases v1
      · go_wp2_with fail
        go_returns
        exact Ret.mk (vi (by rw [HP.out]; rfl)) hv
      · go_wp2_with fail
        go_returns
        exact Ret.mk (vi (by rw [HP.out]; rfl)) hv
    by_cases hc3 : n = 3
    · subst hc3
      obtain ⟨t', a, b, hsh⟩ := len_three hn.out
      injection hsh with h1 h2
      subst h1
      subst h2
      obtain ⟨ad1, had1, _, c1⟩ := scell_at (k := 1) hA.out rfl
      injection had1 with had1
      subst had1
      replace c1 : W2.cell? ⟨ad.block, ad.off + 1, none⟩ = some (.string a) := c1
      have ha := Nat.le_trans (HPT.out a (by simp)) (by omega : 4194304 ≤ 9223372036854775807)
      obtain ⟨ad2, had2, _, c2⟩ := scell_at (k := 2) hA.out rfl
      injection had2 with had2
      subst had2
      replace c2 : W2.cell? ⟨ad.block, ad.off + 2, none⟩ = some (.string b) := c2
      have hb2 := Nat.le_trans (HPT.out b (by simp)) (by omega : 4194304 ≤ 9223372036854775807)
      obtain ⟨v1, hv1⟩ : ∃ z, z = numOk a 10 80 := ⟨_, rfl⟩
      have Hv1 := fun w h => isNumber_c a (HPT.out a (by simp)) 10 80 w h
      rw [← hv1] at Hv1
      replace Hv1 := Lib.hid Hv1
      obtain ⟨v2, hv2⟩ : ∃ z, z = decide (b = wDouble) := ⟨_, rfl⟩
      have q7 : (b.toList == [100, 111, 117, 98, 108, 101]) = v2 := by rw [hv2, ← bytes_beq, show wDouble.toList = [100, 111, 117, 98, 108, 101] from by simp [wDouble]]
      have HP := Lib.hid (show prob [t, a, b] = if (v1 && v2) = true then 0 else 3 from by simp [prob, HK.out, hv1, hv2])
      clear hv1 hv2 HK
      go_wp2_with fail
      refine (Hv1.out _ (HT.out.below hv)).mono ?_
      rintro e W3 ⟨rfl, hb3⟩
      replace hv := bl_trans hv hb3
      replace c2 := bl_cell hb3 c2
      clear hb3
      cases v1
      · go_wp2_with fail
        go_returns
        exact Ret.mk (vi (by rw [HP.out]; rfl)) hv
      · cases v2
        · go_wp2_with fail
          go_returns
          exact Ret.mk (vi (by rw [HP.out]; rfl)) hv
        · go_wp2_with fail
          go_returns
          exact Ret.mk (vi (by rw [HP.out]; rfl)) hv
    · skip
      have HP := Lib.hid (prob_five HK.out (by rw [hn.out]; exact hc2) (by rw [hn.out]; exact hc3))
      have q3 : ((n : Int) == 3) = false := by rw [beq_eq_false_iff_ne]; omega
      have q2 : ((n : Int) != 2) = true := by rw [bne_iff_ne]; omega
      go_wp2_with fail
      go_returns
      exact Ret.mk (vi (by rw [HP.out])) hv
end Go.Proofs.YtihgjmhhpiobbaaGreatDoor
