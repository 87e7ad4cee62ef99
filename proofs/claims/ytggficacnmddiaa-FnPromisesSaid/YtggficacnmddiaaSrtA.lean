/- The library's stable sort on places: exchanges of parts. -/
import Derived.Test.YtggficacnmddiaaSrtP
import Derived.Test.YtggficacnmddiaaOwn
import Derived.BigRegion
namespace Go.Proofs.Ytggficacnmddiaa
open Go.RowKit

/-- A row of integers of the call's own. -/
def Dat (base g n c : Nat) (w : World) (l : List Int) : Prop := w.ownsRow base 2 1 (.slice (some ⟨g, 0, none⟩) n c) n (flat icell l)
theorem flat_icell_get (l : List Int) (k : Nat) : (flat icell l)[k]? = l[k]?.map (fun x => Value.int .i64 x) := by
  have h : flat icell l = l.map (fun x => Value.int .i64 x) := by
    induction l with
    | nil => rfl
    | cons x r ih => simp only [flat, List.flatMap_cons, icell, List.map_cons] at ih ⊢; rw [ih]; rfl
  rw [h, List.getElem?_map]
theorem flat_icell_len (l : List Int) : (flat icell l).length = l.length := by rw [flat_length (f := icell) (s := 1) (fun _ => rfl)]; omega
theorem flat_icell_set (l : List Int) (k : Nat) (x : Int) : (flat icell l).set k (.int .i64 x) = flat icell (l.set k x) := by
  refine List.ext_getElem? fun i => ?_
  rw [flat_icell_get, List.getElem?_set, List.getElem?_set, flat_icell_len, flat_icell_get]
  by_cases h : k = i
  · subst h
    by_cases hl : k < l.length
    · simp [hl]
    · simp [hl]
  · simp [h]
section
variable {base g n c : Nat} {w w' : World} {l : List Int}
theorem Dat.len (h : Dat base g n c w l) : l.length = n := by have := h.1; rw [flat_icell_len, Nat.mul_one] at this; exact this
theorem Dat.at_ (h : Dat base g n c w l) {k : Nat} {x : Int} (hx : l[k]? = some x) : w.cell? ⟨g, k, none⟩ = some (.int .i64 x) ∧ w.frozen? ⟨g, k, none⟩ = false := by
  have hk : k < n := by rw [← h.len]; exact (List.getElem?_eq_some_iff.1 hx).1
  refine ⟨(World.ownsRow.cellAt h k (by rw [Nat.mul_one]; exact hk)).trans ?_, World.ownsRow.frozenAt h k⟩
  rw [flat_icell_get, hx]; rfl
theorem Dat.set_ (h : Dat base g n c w l) (k : Nat) (x : Int) : Dat base g n c (w.setCell ⟨g, k, none⟩ (.int .i64 x)) (l.set k x) := by
  have h1 := (World.ownsRow.stored h k (.int .i64 x)).1
  rw [flat_icell_set] at h1
  exact h1
theorem Dat.below (h : Dat base g n c w l) (hb : Below w.heap.size w w') : Dat base g n c w' l := own_below h hb
theorem Dat.drewN (h : Dat base g n c w l) (m : Nat) : Dat base g n c (w.drewN m) l := h.below (below_drewN (Below.refl _ _) m)
end
theorem grown_drewN {a w : World} {row : Option Nat} (h : a.grownBy w row) (m : Nat) : a.grownBy (w.drewN m) row := grown_below h (below_drewN (Below.refl _ _) m)
/-- What a function does that only turns the row. -/
def Turned (base g n c : Nat) (l : List Int) (w : World) (e : Ending) (w' : World) : Prop := e = .returned (.tuple #[]) ∧ Dat base g n c w' l ∧ w.grownBy w' (some g)
theorem swapped {P Q R : List Int} {x y : Int} {i j : Nat} (hi : P.length = i) (hj : P.length + 1 + Q.length = j) : ((P ++ x :: (Q ++ y :: R)).set i y).set j x = P ++ y :: (Q ++ x :: R) := by
  rw [set_mid P x y _ hi, show P ++ y :: (Q ++ y :: R) = (P ++ y :: Q) ++ y :: R by simp, set_mid (P ++ y :: Q) y x R (by simp; omega)]
  simp

set_option maxRecDepth 100000 in
set_option maxHeartbeats 1600000 in
theorem swapRange_c (base g n c : Nat) (fv : Value) (P X M Y R : List Int) (a b k : Nat) (hP : Hid (P.length = a)) (hX : Hid (X.length = k)) (hY : Hid (Y.length = k)) (hM : a + k + M.length = b) (hb : b + k ≤ n) (hz : (n : Int) ≤ 1048576) (w : World) (hD : Dat base g n c w (P ++ X ++ M ++ Y ++ R)) :
    Calls Try.prog 55 #[.slice (some ⟨g, 0, none⟩) n c, .int .i64 a, .int .i64 b, .int .i64 k, fv] w (Turned base g n c (P ++ Y ++ M ++ X ++ R) w) := by
  go_enter Try.func55, Try.ntmps55
  go_wp2_with fail
  go_loopw [10] (fun iv wr => ∃ i : Nat, i ≤ k ∧ iv = .int .i64 i ∧ Dat base g n c wr (P ++ (Y.take i ++ X.drop i) ++ M ++ (X.take i ++ Y.drop i) ++ R) ∧ w.grownBy wr (some g)) (fun iv _ => k - (intOf iv).toNat)
  case atStart => exact ⟨0, by omega, rfl, by simpa using hD, World.grownBy.refl _ _⟩
  case round =>
    clear hD
    obtain ⟨i, hi, rfl, hD, hg⟩ := hrel
    by_cases hlt : i < k
    · obtain ⟨x, hx⟩ := get_of_lt (xs := X) (k := i) (by rw [hX.out]; exact hlt)
      obtain ⟨y, hy⟩ := get_of_lt (xs := Y) (k := i) (by rw [hY.out]; exact hlt)
      obtain ⟨p, hp⟩ : ∃ p, p = a + i := ⟨_, rfl⟩
      obtain ⟨q, hq⟩ : ∃ q, q = b + i := ⟨_, rfl⟩
      have e1 : P ++ (Y.take i ++ X.drop i) ++ M ++ (X.take i ++ Y.drop i) ++ R = (P ++ Y.take i) ++ x :: ((X.drop (i + 1) ++ M ++ X.take i) ++ y :: (Y.drop (i + 1) ++ R)) := by
        rw [drop_at hx, drop_at hy]; simp
      have e2 : P ++ (Y.take (i + 1) ++ X.drop (i + 1)) ++ M ++ (X.take (i + 1) ++ Y.drop (i + 1)) ++ R = (P ++ Y.take i) ++ y :: ((X.drop (i + 1) ++ M ++ X.take i) ++ x :: (Y.drop (i + 1) ++ R)) := by
        rw [take_at hx, take_at hy]; simp
      rw [e1] at hD
      have l1 : (P ++ Y.take i).length = p := by have h1 := hP.out; have h2 := hY.out; simp; omega
      have l2 : (P ++ Y.take i).length + 1 + (X.drop (i + 1) ++ M ++ X.take i).length = q := by have h1 := hP.out; have h2 := hY.out; have h3 := hX.out; simp; omega
      have hS := Lib.hid (swapped (x := x) (y := y) (R := Y.drop (i + 1) ++ R) l1 l2)
      obtain ⟨c1, f1⟩ := hD.at_ (at_mid _ _ _ l1)
      obtain ⟨c2, f2⟩ := hD.at_ (k := q) (x := y) (by rw [show (P ++ Y.take i) ++ x :: ((X.drop (i + 1) ++ M ++ X.take i) ++ y :: (Y.drop (i + 1) ++ R)) = ((P ++ Y.take i) ++ x :: (X.drop (i + 1) ++ M ++ X.take i)) ++ y :: (Y.drop (i + 1) ++ R) by simp]; exact at_mid _ _ _ (by rw [← l2]; simp; omega))
      have E2 := Lib.hid e2
      have HD := Lib.hid hD
      have hp1 : (a : Int) + (i : Int) = (p : Int) := by omega
      have hq1 : (b : Int) + (i : Int) = (q : Int) := by omega
      have hpn : p < n := by omega
      have hqn : q < n := by omega
      have hpq : p ≠ q := by omega
      clear l1 l2 e1 e2 hx hy hD hp hq
      go_wp2_with fail
      go_region
      go_wp2_with fail
      refine ⟨⟨i + 1, by omega, by go_num, ?_, ?_⟩, by simp [intOf]; omega⟩
      · have h3 := ((HD.out.set_ p y).set_ q x).below (Below.refl _ _).drew
        rw [hS.out, ← E2.out] at h3
        exact h3
      · exact grown_below (grown_setCell (grown_setCell hg (.inl rfl) _) (.inl rfl) _) (Below.refl _ _).drew
    · have hkn : i = k := by omega
      subst hkn
      have e : P ++ (Y.take i ++ X.drop i) ++ M ++ (X.take i ++ Y.drop i) ++ R = P ++ Y ++ M ++ X ++ R := by
        have h1 := hX.out
        have h2 := hY.out
        rw [List.take_of_length_le (by omega), List.take_of_length_le (by omega), List.drop_eq_nil_of_le (by omega), List.drop_eq_nil_of_le (by omega)]; simp
      rw [e] at hD
      go_wp2_with fail
      go_end0
      exact ⟨rfl, hD, hg⟩

set_option maxRecDepth 100000 in
set_option maxHeartbeats 1600000 in
theorem rotate_c (base g n c : Nat) (fv : Value) (P X Y R : List Int) (a m b : Nat) (hP : Hid (P.length = a)) (hX : Hid (a + X.length = m)) (hY : Hid (m + Y.length = b)) (hx0 : 0 < X.length) (hy0 : 0 < Y.length) (hb : b ≤ n) (hz : (n : Int) ≤ 1048576) (w : World) (hD : Dat base g n c w (P ++ X ++ Y ++ R)) :
    Calls Try.prog 54 #[.slice (some ⟨g, 0, none⟩) n c, .int .i64 a, .int .i64 m, .int .i64 b, fv] w (Turned base g n c (P ++ Y ++ X ++ R) w) := by
  obtain ⟨i0, hi0⟩ : ∃ i0, i0 = X.length := ⟨_, rfl⟩
  obtain ⟨j0, hj0⟩ : ∃ j0, j0 = Y.length := ⟨_, rfl⟩
  have hma : m = a + i0 := by have := hX.out; omega
  have hbm : b = m + j0 := by have := hY.out; omega
  have d1 : (m : Int) - (a : Int) = (i0 : Int) := by omega
  have d2 : (b : Int) - (m : Int) = (j0 : Int) := by omega
  have b1 : i0 ≤ m := by omega
  have b2 : m + j0 ≤ n := by omega
  have b3 : 0 < i0 := by omega
  have b4 : 0 < j0 := by omega
  have A1 := Lib.hid (show a + i0 = m by omega)
  have A2 := Lib.hid hi0.symm
  have A3 := Lib.hid hj0.symm
  clear hi0 hj0 hma hbm hx0 hy0 hX hY
  go_enter Try.func54, Try.ntmps54
  go_wp2_with fail
  go_loopw [10, 11] (fun iv jv wr => ∃ P' X' Y' R' : List Int, ∃ i j : Nat, iv = .int .i64 i ∧ jv = .int .i64 j ∧ 0 < i ∧ 0 < j ∧ Hid (X'.length = i) ∧ Hid (Y'.length = j) ∧ Hid (P'.length + i = m) ∧ i ≤ m ∧ m + j ≤ n ∧ Hid (P ++ Y ++ X ++ R = P' ++ Y' ++ X' ++ R') ∧ Dat base g n c wr (P' ++ X' ++ Y' ++ R') ∧ w.grownBy wr (some g)) (fun iv jv _ => (intOf iv).toNat + (intOf jv).toNat)
  case atStart => exact ⟨P, X, Y, R, i0, j0, rfl, rfl, by omega, by omega, A2, A3, Lib.hid (by rw [hP.out]; exact A1.out), by omega, by omega, Lib.hid rfl, hD, World.grownBy.refl _ _⟩
  case round =>
    clear hD A1 A2 A3 d1 d2 b1 b2 b3 b4
    obtain ⟨P', X', Y', R', i, j, rfl, rfl, hi, hj, hX', hY', hP', him, hjn, hE, hD, hg⟩ := hrel
    obtain ⟨p, hp⟩ : ∃ p, p + i = m := ⟨m - i, by omega⟩
    have hpp : (m : Int) - (i : Int) = (p : Int) := by omega
    have HPI := Lib.hid hp
    clear hp
    by_cases hij : i = j
    · subst hij
      have hne : ((i : Int) != (i : Int)) = false := by simp
      go_wp2_with fail
      refine (swapRange_c base g n c fv P' X' [] Y' R' p m i (Lib.hid (by have := hP'.out; have := HPI.out; omega)) hX' hY' (by have := HPI.out; simp; omega) (by omega) hz _ (by simpa using hD)).mono ?_
      rintro e W ⟨rfl, hD2, hg2⟩
      go_wp2_with fail
      go_end0
      refine ⟨rfl, ?_, grown_trans hg hg2⟩
      rw [hE.out]
      simpa using hD2
    · have hne : ((i : Int) != (j : Int)) = true := by rw [bne_iff_ne]; omega
      by_cases hgt : j < i
      · obtain ⟨i', hi'⟩ : ∃ i', i = i' + j := ⟨i - j, by omega⟩
        have dd : (i : Int) - (j : Int) = (i' : Int) := by omega
        have b5 : 0 < i' := by omega
        obtain ⟨X1, X2, hX12, hl1, hl2⟩ : ∃ X1 X2, X' = X1 ++ X2 ∧ X1.length = j ∧ X2.length = i' := ⟨X'.take j, X'.drop j, (List.take_append_drop _ _).symm, by have := hX'.out; simp; omega, by have := hX'.out; simp; omega⟩
        subst hX12
        have HIJ := Lib.hid hi'
        have HL1 := Lib.hid hl1
        have HL2 := Lib.hid hl2
        clear hi' hl1 hl2
        go_wp2_with fail
        refine (swapRange_c base g n c fv P' X1 X2 Y' R' p m j (Lib.hid (by have := hP'.out; have := HPI.out; omega)) HL1 hY' (by have := HPI.out; have := HL2.out; have := HIJ.out; omega) (by omega) hz _ (by simpa using hD)).mono ?_
        rintro e W ⟨rfl, hD2, hg2⟩
        go_wp2_with fail
        refine ⟨⟨P' ++ Y', X2, X1, R', i', j, by go_num, rfl, by omega, hj, HL2, HL1, Lib.hid ?_, by omega, hjn, Lib.hid ?_, ?_, grown_trans hg hg2⟩, by simp [intOf]; omega⟩
        · have h1 := hP'.out; have h2 := hY'.out; have h3 := HIJ.out; simp; omega
        · rw [hE.out]; simp
        · simpa using hD2
      · obtain ⟨j', hj'⟩ : ∃ j', j = j' + i := ⟨j - i, by omega⟩
        have dd : (j : Int) - (i : Int) = (j' : Int) := by omega
        obtain ⟨q, hq⟩ : ∃ q, q = m + j' := ⟨_, rfl⟩
        have dq : (m : Int) + (j : Int) - (i : Int) = (q : Int) := by omega
        have b5 : 0 < j' := by omega
        have b6 : m + j' ≤ n := by omega
        have b7 : q + i ≤ n := by omega
        obtain ⟨Y1, Y2, hY12, hl1, hl2⟩ : ∃ Y1 Y2, Y' = Y1 ++ Y2 ∧ Y1.length = j' ∧ Y2.length = i := ⟨Y'.take j', Y'.drop j', (List.take_append_drop _ _).symm, by have := hY'.out; simp; omega, by have := hY'.out; simp; omega⟩
        subst hY12
        have HIJ := Lib.hid hj'
        have HQ := Lib.hid hq
        have HL1 := Lib.hid hl1
        have HL2 := Lib.hid hl2
        clear hj' hl1 hl2 hq
        go_wp2_with fail
        refine (swapRange_c base g n c fv P' X' Y1 Y2 R' p q i (Lib.hid (by have := hP'.out; have := HPI.out; omega)) hX' HL2 (by have := HPI.out; have := HL1.out; have := HQ.out; omega) (by omega) hz _ (by simpa using hD)).mono ?_
        rintro e W ⟨rfl, hD2, hg2⟩
        go_wp2_with fail
        refine ⟨⟨P', Y2, Y1, X' ++ R', i, j', rfl, by go_num, hi, by omega, HL2, HL1, hP', him, by omega, Lib.hid ?_, ?_, grown_trans hg hg2⟩, by simp [intOf]; omega⟩
        · rw [hE.out]; simp
        · simpa using hD2
end Go.Proofs.Ytggficacnmddiaa
