/- Late orders: both sides. -/
import Derived.Test.YtggficacnmddiaaWrkE
import Derived.Test.YtggficacnmddiaaAppF
namespace Go.Proofs.Ytggficacnmddiaa
open Go.RowKit

def posGo : Nat → List Int → List Int
  | _, [] => []
  | k, v :: r => if 0 < v then (k : Int) :: posGo (k + 1) r else posGo (k + 1) r
theorem posGo_append : ∀ (xs : List Int) (k : Nat) (x : Int), posGo k (xs ++ [x]) = posGo k xs ++ (if 0 < x then [((k + xs.length : Nat) : Int)] else [])
  | [], k, x => by simp only [List.nil_append, posGo]; split <;> simp
  | y :: ys, k, x => by
    have := posGo_append ys (k + 1) x
    simp only [List.cons_append, posGo, this, List.length_cons]
    rw [show k + 1 + ys.length = k + (ys.length + 1) by omega]
    split <;> simp
theorem posGo_step {xs : List Int} {k : Nat} {x : Int} (h : xs[k]? = some x) : posGo 0 (xs.take (k + 1)) = posGo 0 (xs.take k) ++ (if 0 < x then [(k : Int)] else []) := by
  have hk := (List.getElem?_eq_some_iff.1 h).1
  rw [take_at h, posGo_append]
  congr 2
  simp; omega
theorem posGo_len : ∀ (xs : List Int) (k : Nat), (posGo k xs).length ≤ xs.length
  | [], k => by simp [posGo]
  | x :: xs, k => by
    have := posGo_len xs (k + 1)
    simp only [posGo]
    split <;> simp <;> omega
def loL (xs : List Order) (day : Int) : List Int := if codeD xs day = 0 then posGo 0 (delays xs day) else []
theorem loL_len {xs : List Order} {day : Int} : ((loL xs day).length : Int) ≤ 30 := by
  unfold loL
  split
  · rename_i h0
    have h1 := (ords_small (codeD_ok h0).1).1
    have h2 := posGo_len (delays xs day) 0
    rw [delays_len] at h2
    omega
  · simp
/-! ### rows of truth values -/
def bcell (x : Bool) : List Value := [.bool x]
def DatB (base g n c : Nat) (w : World) (l : List Bool) : Prop := w.ownsRow base 4 1 (.slice (some ⟨g, 0, none⟩) n c) n (flat bcell l)
theorem flat_bcell_get (l : List Bool) (k : Nat) : (flat bcell l)[k]? = l[k]?.map (fun x => Value.bool x) := by
  have h : flat bcell l = l.map (fun x => Value.bool x) := by
    induction l with
    | nil => rfl
    | cons x r ih => simp only [flat, List.flatMap_cons, bcell, List.map_cons] at ih ⊢; rw [ih]; rfl
  rw [h, List.getElem?_map]
theorem flat_bcell_len (l : List Bool) : (flat bcell l).length = l.length := by rw [flat_length (f := bcell) (s := 1) (fun _ => rfl)]; omega
theorem flat_bcell_set (l : List Bool) (k : Nat) (x : Bool) : (flat bcell l).set k (.bool x) = flat bcell (l.set k x) := by
  refine List.ext_getElem? fun i => ?_
  rw [flat_bcell_get, List.getElem?_set, List.getElem?_set, flat_bcell_len, flat_bcell_get]
  by_cases h : k = i
  · subst h
    by_cases hl : k < l.length
    · simp [hl]
    · simp [hl]
  · simp [h]
section
variable {base g n c : Nat} {w w' : World} {l : List Bool}
theorem DatB.len (h : DatB base g n c w l) : l.length = n := by have := h.1; rw [flat_bcell_len, Nat.mul_one] at this; exact this
theorem DatB.at_ (h : DatB base g n c w l) {k : Nat} {x : Bool} (hx : l[k]? = some x) : w.cell? ⟨g, k, none⟩ = some (.bool x) ∧ w.frozen? ⟨g, k, none⟩ = false := by
  have hk : k < n := by rw [← h.len]; exact (List.getElem?_eq_some_iff.1 hx).1
  refine ⟨(World.ownsRow.cellAt h k (by rw [Nat.mul_one]; exact hk)).trans ?_, World.ownsRow.frozenAt h k⟩
  rw [flat_bcell_get, hx]; rfl
theorem DatB.set_ (h : DatB base g n c w l) (k : Nat) (x : Bool) : DatB base g n c (w.setCell ⟨g, k, none⟩ (.bool x)) (l.set k x) := by
  have h1 := (World.ownsRow.stored h k (.bool x)).1
  rw [flat_bcell_set] at h1
  exact h1
theorem DatB.below (h : DatB base g n c w l) (hb : Below w.heap.size w w') : DatB base g n c w' l := own_below h hb
end
theorem info_bool : (Try.prog.info? 4).map (fun i => (i.zero, i.size, i.bytes)) = some (some (.bool false), 1, 1) := by kernel_rfl
set_option maxRecDepth 100000 in
set_option maxHeartbeats 3200000 in
theorem LateOrders_c (A : Option Addr) (xs : List Order) (n c : Nat) (day : Int) (hn : Hid (xs.length = n)) (hm : (n : Int) ≤ 1048576) (hs : Hid (∀ x ∈ xs, x.customer.size ≤ 9223372036854775807)) (w : World) (hA : Arr w A (flat Order.cells xs)) : Calls Try.prog 9 #[.slice A n c, .int .i64 day] w (OutL 2 1 (loL xs day).length (flat icell (loL xs day)) (codeD xs day) w) := by
  obtain ⟨i0, hi0, hz0, hz1, hz2⟩ := info_parts (P := Try.prog) (e := 2) (z := .int .i64 0) (size := 1) (bytes := 8) info_i64W
  go_enter Try.func9, Try.ntmps9
  go_wp2_with fail
  refine (ordersCode_c A xs n c day hn hm hs _ hA).mono ?_
  rintro e W ⟨rfl, hv⟩
  obtain ⟨cd, hcd⟩ : ∃ cd, cd = codeD xs day := ⟨_, rfl⟩
  rw [← hcd]
  by_cases h0 : cd = 0
  case neg =>
    have HL := Lib.hid (show loL xs day = [] by unfold loL; rw [if_neg (by rw [← hcd]; exact h0)])
    have HC := Lib.hid hcd
    have hne : (cd != 0) = true := by rw [bne_iff_ne]; exact h0
    clear hcd
    go_wp2_with fail
    go_returns
    rw [HL.out, ← HC.out]
    exact OutL.nil hv
  have HL := Lib.hid (show loL xs day = posGo 0 (delays xs day) by unfold loL; rw [if_pos (by rw [← hcd]; exact h0)])
  obtain ⟨ho, hd0, hd1⟩ := codeD_ok (xs := xs) (day := day) (by rw [← hcd]; exact h0)
  have HO := Lib.hid ho
  have hk := workL_le ho
  have hn30 : n ≤ 30 := by have := (ords_small ho).1; have := hn.out; omega
  have HC := Lib.hid hcd
  subst h0
  clear hcd ho
  obtain ⟨W1, hW1⟩ : ∃ W1, W1 = W.alloc (Obj.cells #[] 2) := ⟨_, rfl⟩
  obtain ⟨g1, hg1⟩ : ∃ g1, g1 = W.heap.size := ⟨_, rfl⟩
  have hb1 : Below W.heap.size W W1 := by rw [hW1]; exact bl_alloc (Below.refl _ _) _
  have hown : W1.ownsRow w.heap.size 2 1 (.slice (some ⟨g1, 0, none⟩) 0 0) 0 [] := by rw [hW1, hg1]; exact own_empty W _ _ _ hv.size
  go_wp2_with fail
  rw [← hW1, ← hg1]
  clear hW1 hg1
  replace hv := bl_trans hv hb1
  refine (delays_c A xs n c day hn HO hd0 hd1 _ (hA.below hv)).mono ?_
  rintro e W2 ⟨A2, c2, rfl, hdel, hb2⟩
  have hgl := own_lt hown
  have hfar := own_at hdel
  replace hown := own_below hown hb2
  have hB := Arr.own hdel
  have hv2 := bl_trans hv hb2
  obtain ⟨D, hD⟩ : ∃ D, D = delays xs day := ⟨_, rfl⟩
  have hDn := Lib.hid (show D.length = n by rw [hD, delays_len]; exact hn.out)
  rw [← hD] at hB HL
  have hA2 : Hid (∀ ad, A2 = some ad → W1.heap.size ≤ ad.block ∧ ad.block < W2.heap.size) := Lib.hid (fun ad e => by
    subst e
    exact ⟨hfar ad.block rfl, own_lt hdel ad.block rfl⟩)
  have hg0 : g1 < W1.heap.size := hgl g1 rfl
  clear hD hdel hfar hgl hv hb2 hb1 hk
  go_wp2_with fail
  go_loopw [7, 21] (fun ov iv wr => ∃ (k j g' c' : Nat), k ≤ n ∧ j ≤ k ∧ iv = .int .i64 k ∧ ov = .slice (some ⟨g', 0, none⟩) j c' ∧ wr.ownsRow w.heap.size 2 1 (.slice (some ⟨g', 0, none⟩) j c') j (flat icell (posGo 0 (D.take k))) ∧ (g' < W1.heap.size ∨ W2.heap.size ≤ g') ∧ Arr wr A2 (flat icell D) ∧ W2.heap.size ≤ wr.heap.size ∧ Below w.heap.size w wr) (fun _ iv _ => n - (intOf iv).toNat)
  case atStart => exact ⟨0, 0, g1, 0, by omega, by omega, rfl, rfl, by simpa [flat, posGo] using hown, .inl hg0, hB, Nat.le_refl _, hv2⟩
  case round =>
    clear hown hB hv2 hg0
    obtain ⟨k, j, g', c', hk, hjk, rfl, rfl, hown, hgg, hB, hsz, hv⟩ := hrel
    by_cases hlt : k < n
    · obtain ⟨v, hx⟩ := get_of_lt (xs := D) (k := k) (by rw [hDn.out]; exact hlt)
      obtain ⟨ad, hA2e, hab, c0⟩ := icell_at hB hx
      have HS := Lib.hid (posGo_step hx)
      have HAD := Lib.hid (hA2.out ad hA2e)
      subst hA2e
      clear hx
      by_cases hp : 0 < v
      · have HS2 := Lib.hid (HS.out.trans (by rw [if_pos hp] : _ = posGo 0 (D.take k) ++ [(k : Int)]))
        go_wp2_with (at_builtin; refine app_fresh1 _ _ rfl _ _ 31 2 rfl i0 _ 1 8 Try.underlying31 hi0 hz0 hz1 hz2 rfl (by omega) _ (some ⟨g', 0, none⟩) j c' _ rfl _ rfl rfl hown rfl (by simp [Value.oneCell']) (by unfold maxLen; omega) (by omega) hv.size ?_; intro g3 c3 w3 hown3 hg3 hf3)
        have hgrow := hg3.size
        refine ⟨⟨k + 1, j + 1, g3, c3, by omega, by omega, by go_num, rfl, by rw [HS2.out, flat_append, flat_one]; exact hown3, ?_, hB.grown hg3 (fun ad' e h => ?_), by omega, bl_grown hv hg3 (fun k e => by simp at e; have := own_at hown g' rfl; omega)⟩, by simp [intOf]; omega⟩
        · rcases hf3 with e | e
          · simp only [Option.some.injEq, Addr.mk.injEq, and_true] at e
            omega
          · omega
        · injection e with e
          subst e
          have h1 := HAD.out
          have h2 : ad.block = g' := by simpa using h
          omega
      · have HS2 := Lib.hid (HS.out.trans (by rw [if_neg hp]; simp : _ = posGo 0 (D.take k)))
        go_wp2_with fail
        exact ⟨⟨k + 1, j, g', c', by omega, by omega, by go_num, rfl, by rw [HS2.out]; exact hown, hgg, hB, hsz, hv⟩, by simp [intOf]; omega⟩
    · have hkn : k = n := by omega
      subst hkn
      rw [List.take_of_length_le (by rw [hDn.out]; exact Nat.le_refl _)] at hown
      have HJ := Lib.hid (show (posGo 0 D).length = j by have := hown.1; rw [flat_icell_len, Nat.mul_one] at this; exact this)
      have HW := Lib.hid hown
      clear hown
      go_wp2_with fail
      go_returns
      rw [HL.out]
      exact OutL.mk HW.out HJ.out.symm rfl HC.out hv
set_option maxRecDepth 100000 in
set_option maxHeartbeats 3200000 in
theorem SLateOrders_c (A : Option Addr) (xs : List Order) (n c : Nat) (day : Int) (hn : Hid (xs.length = n)) (hm : (n : Int) ≤ 1048576) (hs : Hid (∀ x ∈ xs, x.customer.size ≤ 9223372036854775807)) (w : World) (hA : Arr w A (flat Order.cells xs)) : Calls Try.prog 10 #[.slice A n c, .int .i64 day] w (OutL 2 1 (loL xs day).length (flat icell (loL xs day)) (codeD xs day) w) := by
  obtain ⟨i0, hi0, hz0, hz1, hz2⟩ := info_parts (P := Try.prog) (e := 2) (z := .int .i64 0) (size := 1) (bytes := 8) info_i64W
  go_enter Try.func10, Try.ntmps10
  go_wp2_with fail
  refine (l25Code_c A xs n c day hn hm hs _ hA).mono ?_
  rintro e W ⟨rfl, hv⟩
  obtain ⟨cd, hcd⟩ : ∃ cd, cd = codeD xs day := ⟨_, rfl⟩
  rw [← hcd]
  by_cases h0 : cd = 0
  case neg =>
    have HL := Lib.hid (show loL xs day = [] by unfold loL; rw [if_neg (by rw [← hcd]; exact h0)])
    have HC := Lib.hid hcd
    have hne : (cd != 0) = true := by rw [bne_iff_ne]; exact h0
    clear hcd
    go_wp2_with fail
    go_returns
    rw [HL.out, ← HC.out]
    exact OutL.nil hv
  have HL := Lib.hid (show loL xs day = posGo 0 (delays xs day) by unfold loL; rw [if_pos (by rw [← hcd]; exact h0)])
  obtain ⟨ho, hd0, hd1⟩ := codeD_ok (xs := xs) (day := day) (by rw [← hcd]; exact h0)
  have HO := Lib.hid ho
  have hk := workL_le ho
  have hn30 : n ≤ 30 := by have := (ords_small ho).1; have := hn.out; omega
  have HC := Lib.hid hcd
  subst h0
  clear hcd ho
  obtain ⟨ib, hib, hzb, hsb, hbb⟩ := info_parts (P := Try.prog) (e := 4) (z := .bool false) (size := 1) (bytes := 1) info_bool
  go_wp2_with (at_make; refine wpList_make_full _ rfl _ _ 50 rfl W.heap.size 4 ib _ 1 Try.underlying50 hib hzb hsb _ _ _ _ n rfl rfl rfl rfl (by rw [hbb]; omega) (by unfold maxLen; omega) (Nat.le_refl _) ?_; intro w1 hlate hg1)
  have hb1 : Below W.heap.size W w1 := bl_grown (Below.refl _ _) hg1 (by simp)
  have hD0 : DatB W.heap.size W.heap.size n n w1 ((List.replicate n (0 : Int)).map (fun v => decide (0 < v))) := by
    have e : (madeCells (Value.bool false).cells (n * 1)).toList = flat bcell ((List.replicate n (0 : Int)).map (fun v => decide (0 < v))) := by
      rw [Nat.mul_one]
      refine (toList_madeCells_one (.bool false) n).trans ?_
      refine List.ext_getElem? fun i => ?_
      rw [flat_bcell_get, List.map_replicate, List.getElem?_replicate, List.getElem?_replicate]
      split <;> rfl
    unfold DatB
    rw [← e]; exact hlate
  have hgl := own_lt hlate W.heap.size rfl
  obtain ⟨gl, hgl0⟩ : ∃ gl, gl = W.heap.size := ⟨_, rfl⟩
  rw [← hgl0]
  rw [← hgl0] at hD0 hgl
  have hgw : w.heap.size ≤ gl := by rw [hgl0]; exact hv.size
  replace hv := bl_trans hv hb1
  clear hlate hg1 hb1 hgl0
  refine (l25Work_c A xs n c hn hn30 (Lib.hid (ords_small HO.out).2.1) _ (hA.below hv)).mono ?_
  rintro e W2 ⟨A2, c2, rfl, hO, hb2⟩
  have hfar := own_at hO
  have hDW := hD0.below hb2
  replace hv := bl_trans hv hb2
  obtain ⟨m, hm0⟩ : ∃ m, m = (workL xs).length := ⟨_, rfl⟩
  rw [← hm0] at hO hk ⊢
  have HM := Lib.hid hm0.symm
  have hOA := Arr.own hO
  have HF : Hid (∀ ad, A2 = some ad → ad.block ≠ gl) := Lib.hid (fun ad e => by
    subst e
    have := hfar ad.block rfl
    omega)
  have HDL := Lib.hid (show delays xs day = delGo xs ((workL xs).drop 0) day (List.replicate n 0) by rw [delays, hn.out]; rfl)
  have hgl2 : gl < W2.heap.size := by have := hb2.size; omega
  clear hb2 hD0 hO hfar hm0 hgl
  go_wp2_with fail
  obtain ⟨wo, hwo⟩ : ∃ wo : World, wo = W2 := ⟨_, rfl⟩
  have hsz0 : wo.heap.size ≤ W2.heap.size := by rw [hwo]; exact Nat.le_refl _
  have hgl3 : gl < wo.heap.size := by rw [hwo]; exact hgl2
  clear hwo
  go_loopw [1, 9] (fun dv iv wr => ∃ (j : Nat) (d : Int) (out : List Int), j ≤ m ∧ iv = .int .i64 j ∧ dv = .int .i64 d ∧ 0 ≤ d ∧ d ≤ 10000 + 100 * j ∧ Hid (delays xs day = delGo xs ((workL xs).drop j) d out) ∧ DatB gl gl n n wr (out.map (fun v => decide (0 < v))) ∧ Arr wr A2 (flat icell (workL xs)) ∧ wo.heap.size ≤ wr.heap.size ∧ Below w.heap.size w wr) (fun _ iv _ => m - (intOf iv).toNat)
  case atStart => exact ⟨0, day, _, by omega, rfl, rfl, hd0, by omega, HDL, hDW, hOA, hsz0, hv⟩
  case round =>
    clear hDW hOA hv HDL hsz0
    obtain ⟨j, d, out, hj, rfl, rfl, hd0', hd1', HDL, hD, hO, hsz, hv⟩ := hrel
    by_cases hlt : j < m
    · obtain ⟨z, hz⟩ := get_of_lt (xs := workL xs) (k := j) (by rw [HM.out]; exact hlt)
      obtain ⟨k, x, hzk, hx⟩ := workL_inR xs z (List.mem_of_getElem? hz)
      subst hzk
      obtain ⟨ad, hA2, hab, o0⟩ := icell_at hO hz
      have hkn : k < n := by have := (List.getElem?_eq_some_iff.1 hx).1; have := hn.out; omega
      obtain ⟨ad', hA', hab', c0, c1, c2', c3, c4, c5⟩ := Order.at_ (hA.below hv) hx
      obtain ⟨e1, e2, f1, f2, f3, f4⟩ := order_facts HO.out hx
      have HDL2 := Lib.hid (HDL.out.trans (by rw [drop_at hz]; simp only [delGo, e1, e2, Int.toNat_natCast] : _ = delGo xs ((workL xs).drop (j + 1)) (d + x.left) (out.set k (max (d + x.left - x.due) 0))))
      obtain ⟨u, hu⟩ := get_of_lt (xs := out.map (fun v => decide (0 < v))) (k := k) (by rw [hD.len]; exact hkn)
      obtain ⟨s1, s2⟩ := hD.at_ hu
      have HFA := HF.out ad hA2
      subst hA2
      subst hA'
      have k0 : (0 : Int) ≤ (k : Int) := by omega
      have k1 : (k : Int) < (n : Int) := by omega
      have HD := Lib.hid hD
      have HSET := Lib.hid (show (out.set k (max (d + x.left - x.due) 0)).map (fun v => decide (0 < v)) = (out.map (fun v => decide (0 < v))).set k (decide (x.due < d + x.left)) by
        rw [List.map_set]; congr 1; rw [Bool.eq_iff_iff]; simp only [decide_eq_true_eq]; omega)
      clear hz hx e1 e2 hu HDL hD
      go_wp2_with fail
      go_region
      go_wp2_with fail
      refine ⟨⟨j + 1, d + x.left, out.set k (max (d + x.left - x.due) 0), by omega, by go_num, rfl, by omega, by omega, HDL2, ?_, ?_, ?_, (bl_set hv (by simp; omega) _).drew⟩, by simp [intOf]; omega⟩
      · rw [HSET.out]
        exact (HD.out.set_ k (decide (x.due < d + x.left))).below (Below.refl _ _).drew
      · refine Arr.below ?_ (Below.refl _ _).drew
        exact hO.keep (by simp [World.setCell]) (fun ad' e p hp hlt => by
          injection e with e
          subst e
          exact World.cell?_setCell_other _ _ _ _ (fun e => HFA (by rw [← hp]; first | rw [e] | rw [← e])))
      · simpa [World.setCell] using hsz
    · have hjm : j = m := by omega
      subst hjm
      have HDL2 := Lib.hid (HDL.out.trans (by rw [List.drop_eq_nil_of_le (by rw [HM.out]; exact Nat.le_refl _)]; rfl : _ = out))
      have hon := Lib.hid (show out.length = n by have := hD.len; simpa using this)
      have HL2 := Lib.hid (show loL xs day = posGo 0 out by rw [HL.out, HDL2.out])
      have hglr : gl < wr.heap.size := by omega
      obtain ⟨W3, hW3⟩ : ∃ W3, W3 = wr.alloc (Obj.cells #[] 2) := ⟨_, rfl⟩
      obtain ⟨g1, hg1⟩ : ∃ g1, g1 = wr.heap.size := ⟨_, rfl⟩
      have hb3 : Below wr.heap.size wr W3 := by rw [hW3]; exact bl_alloc (Below.refl _ _) _
      have hown : W3.ownsRow (gl + 1) 2 1 (.slice (some ⟨g1, 0, none⟩) 0 0) 0 [] := by rw [hW3, hg1]; exact own_empty wr _ _ _ (by omega)
      have hD3 := hD.below hb3
      have hv3 := bl_trans hv hb3
      have hs3 : gl + 1 ≤ W3.heap.size := by have := hb3.size; omega
      clear HDL hO hD hb3 HL HDL2
      go_wp2_with fail
      rw [← hW3, ← hg1]
      clear hW3 hg1 hv
      go_loopw [10, 11] (fun ov iv wr => ∃ (k j g' c' : Nat), k ≤ n ∧ j ≤ k ∧ iv = .int .i64 k ∧ ov = .slice (some ⟨g', 0, none⟩) j c' ∧ wr.ownsRow (gl + 1) 2 1 (.slice (some ⟨g', 0, none⟩) j c') j (flat icell (posGo 0 (out.take k))) ∧ DatB gl gl n n wr (out.map (fun v => decide (0 < v))) ∧ gl + 1 ≤ wr.heap.size ∧ Below w.heap.size w wr) (fun _ iv _ => n - (intOf iv).toNat)
      case atStart => exact ⟨0, 0, g1, 0, by omega, by omega, rfl, rfl, by simpa [flat, posGo] using hown, hD3, hs3, hv3⟩
      case round =>
        clear hown hD3 hv3 hs3
        obtain ⟨k, j', g', c', hk', hjk, rfl, rfl, hown, hD, hsz, hv⟩ := hrel
        by_cases hlt2 : k < n
        · obtain ⟨v, hx⟩ := get_of_lt (xs := out) (k := k) (by rw [hon.out]; exact hlt2)
          have hxb : (out.map (fun v => decide (0 < v)))[k]? = some (decide (0 < v)) := by rw [List.getElem?_map, hx]; rfl
          obtain ⟨s1, s2⟩ := hD.at_ hxb
          have HS := Lib.hid (posGo_step hx)
          clear hx hxb
          by_cases hp : 0 < v
          · rw [decide_eq_true hp] at s1
            have HS2 := Lib.hid (HS.out.trans (by rw [if_pos hp] : _ = posGo 0 (out.take k) ++ [(k : Int)]))
            go_wp2_with (at_builtin; refine app_own _ _ rfl _ _ 31 2 rfl i0 _ 1 8 Try.underlying31 hi0 hz0 hz1 hz2 rfl (by omega) _ (.slice (some ⟨g', 0, none⟩) j' c') j' _ rfl rfl hown rfl (by simp [Value.oneCell']) (by unfold maxLen; omega) (by omega) hsz ?_; intro A3 c3 w3 hown3 hg3)
            have hge := own_at hown g' rfl
            obtain ⟨g3, hA3⟩ := own_addr hown3 (by omega)
            subst hA3
            have hgrow := hg3.size
            refine ⟨⟨k + 1, j' + 1, g3, c3, by omega, by omega, by go_num, rfl, by rw [HS2.out, flat_append, flat_one]; exact hown3, ?_, by omega, bl_grown hv hg3 (fun q e => by simp [Value.ownBlock] at e; omega)⟩, by simp [intOf]; omega⟩
            exact World.ownsRow.kept hD hg3 (.inr (fun e => by simp [Value.ownBlock] at e; omega))
          · rw [decide_eq_false hp] at s1
            have HS2 := Lib.hid (HS.out.trans (by rw [if_neg hp]; simp : _ = posGo 0 (out.take k)))
            go_wp2_with fail
            exact ⟨⟨k + 1, j', g', c', by omega, by omega, by go_num, rfl, by rw [HS2.out]; exact hown, hD, hsz, hv⟩, by simp [intOf]; omega⟩
        · have hkn : k = n := by omega
          subst hkn
          rw [List.take_of_length_le (by rw [hon.out]; exact Nat.le_refl _)] at hown
          have HJ := Lib.hid (show (posGo 0 out).length = j' by have := hown.1; rw [flat_icell_len, Nat.mul_one] at this; exact this)
          have HW := Lib.hid hown
          clear hown
          go_wp2_with fail
          go_returns
          rw [HL2.out]
          exact OutL.mk (own_base HW.out (by omega)) HJ.out.symm rfl HC.out hv
end Go.Proofs.Ytggficacnmddiaa
