/- Numbers in decimal, read back; a text split at a byte: plain Lean. A number read from its decimal form: the reference's function. What the library's variables hold, as the walks want it. A number read from its decimal form: the program's function. -/
import Derived.Test.YtapnllbbdfoaaaaGreatDoorMDec
import Derived.Lib.ParseIntB
import Derived.Lib.ItoaMem
import Derived.Lib.SplitLaws
import Derived.Lib.CutLaws
import Derived.Lib.IndexBytes
import Derived.Lib.Strings
import Derived.Test.YtapnllbbdfoaaaaGreatDoorMCore

namespace Go.Proofs.YtapnllbbdfoaaaaGreatDoor
open Go.RowKit

def isDig (b : UInt8) : Bool := decide (48 ≤ b.toNat) && decide (b.toNat ≤ 57)
def dval : List UInt8 → Nat → Nat
  | [], a => a
  | c :: r, a => dval r (a * 10 + (c.toNat - 48))
def bare : List UInt8 → List UInt8
  | [] => []
  | c :: r => if c = 45 then r else c :: r
def sgn : List UInt8 → Nat → Int
  | [], n => n
  | c :: _, n => if c = 45 then -(n : Int) else n
def numL (l : List UInt8) : Int := sgn l (dval (bare l) 0)
def okN (l : List UInt8) : Bool := decide (1 ≤ (bare l).length) && decide ((bare l).length ≤ 18) && (bare l).all isDig && decide (Lib.itoa (numL l) = l)
theorem isDig_iff {b : UInt8} : isDig b = true ↔ 48 ≤ b.toNat ∧ b.toNat ≤ 57 := by simp [isDig]
theorem dval_lt : ∀ (l : List UInt8) (a : Nat), l.all isDig = true → dval l a + 1 ≤ (a + 1) * 10 ^ l.length := by
  intro l
  induction l with
  | nil => intro a _; simp [dval]
  | cons c r ih =>
    intro a h
    simp only [List.all_cons, Bool.and_eq_true] at h
    have hd := isDig_iff.1 h.1
    have h1 := ih (a * 10 + (c.toNat - 48)) h.2
    have h2 : (a * 10 + (c.toNat - 48) + 1) * 10 ^ r.length ≤ ((a + 1) * 10) * 10 ^ r.length := Nat.mul_le_mul_right _ (by omega)
    have h3 : (a + 1) * 10 ^ (r.length + 1) = (a + 1) * 10 * 10 ^ r.length := by rw [Nat.pow_succ, Nat.mul_comm (10 ^ r.length) 10, ← Nat.mul_assoc]
    simp only [dval, List.length_cons]
    omega
theorem pow_le {k : Nat} (h : k ≤ 18) : 10 ^ k ≤ 1000000000000000000 := by
  have : (10 : Nat) ^ k ≤ 10 ^ 18 := Nat.pow_le_pow_right (by omega) h
  simpa using this
theorem dval_bd {l : List UInt8} (h : l.all isDig = true) (hl : l.length ≤ 18) : dval l 0 < 1000000000000000000 := by
  have h1 := dval_lt l 0 h
  have h2 := pow_le hl
  omega
theorem parseM_ok : ∀ (l : List UInt8) (a : Nat), l.all isDig = true → (a + 1) * 10 ^ l.length ≤ 1000000000000000000 → Lib.parseUintM 18446744073709551615 a l = .ok (dval l a) := by
  intro l
  induction l with
  | nil => intro a _ _; rfl
  | cons c r ih =>
    intro a h hb
    simp only [List.all_cons, Bool.and_eq_true] at h
    have hd := isDig_iff.1 h.1
    have e : (a + 1) * 10 ^ (c :: r).length = ((a + 1) * 10) * 10 ^ r.length := by rw [List.length_cons, Nat.pow_succ, Nat.mul_assoc, Nat.mul_comm (10 ^ r.length)]
    rw [e] at hb
    have hp : 1 ≤ 10 ^ r.length := Nat.one_le_pow _ _ (by omega)
    have h2 : (a + 1) * 10 ≤ ((a + 1) * 10) * 10 ^ r.length := Nat.le_mul_of_pos_right _ hp
    have h3 : (a * 10 + (c.toNat - 48) + 1) * 10 ^ r.length ≤ ((a + 1) * 10) * 10 ^ r.length := Nat.mul_le_mul_right _ (by omega)
    unfold Lib.parseUintM
    rw [if_pos hd, if_neg (by omega), if_neg (by omega)]
    exact ih _ h.2 (by omega)
theorem parseM_dig : ∀ (l : List UInt8) (a u : Nat), Lib.parseUintM 18446744073709551615 a l = .ok u → l.all isDig = true ∧ u = dval l a := by
  intro l
  induction l with
  | nil => intro a u h; simp only [Lib.parseUintM, Lib.NumEnd.ok.injEq] at h; exact ⟨rfl, h.symm⟩
  | cons c r ih =>
    intro a u h
    unfold Lib.parseUintM at h
    split at h
    · rename_i hd
      split at h
      · cases h
      · split at h
        · cases h
        · have := ih _ _ h
          exact ⟨by simp only [List.all_cons, Bool.and_eq_true]; exact ⟨isDig_iff.2 hd, this.1⟩, this.2⟩
    · cases h
theorem u8_eq {c : UInt8} {k : Nat} (hk : k < 256) : c.toNat = k ↔ c = UInt8.ofNat k := by
  constructor
  · intro h
    apply UInt8.toNat_inj.1
    rw [h, UInt8.toNat_ofNat']
    omega
  · intro h
    rw [h, UInt8.toNat_ofNat']
    omega
theorem c45 {c : UInt8} : c.toNat = 45 ↔ c = 45 := u8_eq (by omega)
theorem parse_ok {l : List UInt8} (h1 : 1 ≤ (bare l).length) (h2 : (bare l).length ≤ 18) (h3 : (bare l).all isDig = true) : Lib.parseIntB 64 l = .ok (numL l) := by
  cases l with
  | nil => simp [bare] at h1
  | cons c r =>
    by_cases hc : c = 45
    · have hb : bare (c :: r) = r := by simp [bare, hc]
      rw [hb] at h1 h2 h3
      have hp := parseM_ok r 0 h3 (by have := pow_le h2; omega)
      have hv := dval_bd h3 h2
      have hr : r ≠ [] := by intro e; subst e; simp at h1
      unfold Lib.parseIntB
      simp only [c45, hc, or_true, if_true]
      unfold Lib.parseUintB
      rw [if_neg hr, show (2 ^ 64 - 1 : Nat) = 18446744073709551615 from rfl, hp]
      simp only []
      rw [if_neg (by simp), if_neg (by simp; omega)]
      simp [numL, sgn, bare]
    · have hb : bare (c :: r) = c :: r := by simp [bare, hc]
      rw [hb] at h1 h2 h3
      have hp := parseM_ok (c :: r) 0 h3 (by have := pow_le h2; omega)
      have hv := dval_bd h3 h2
      have hd : isDig c = true := by simp only [List.all_cons, Bool.and_eq_true] at h3; exact h3.1
      have hd' := isDig_iff.1 hd
      have hn : ¬ (c.toNat = 43 ∨ c.toNat = 45) := by omega
      have hn45 : ¬ c.toNat = 45 := by omega
      unfold Lib.parseIntB
      have hn43 : ¬ c.toNat = 43 := by omega
      simp only [hn43, hn45, or_false, if_false]
      unfold Lib.parseUintB
      rw [if_neg (by simp), show (2 ^ 64 - 1 : Nat) = 18446744073709551615 from rfl, hp]
      simp only []
      rw [if_neg (by simp; omega), if_neg (by simp)]
      simp [numL, sgn, bare, hc]
theorem okN_iff {l : List UInt8} : okN l = true ↔ (1 ≤ (bare l).length ∧ (bare l).length ≤ 18 ∧ (bare l).all isDig = true ∧ Lib.itoa (numL l) = l) := by
  simp only [okN, Bool.and_eq_true, decide_eq_true_eq, and_assoc]
theorem numL_bd {l : List UInt8} (h : (bare l).all isDig = true) (hl : (bare l).length ≤ 18) : -1000000000000000000 < numL l ∧ numL l < 1000000000000000000 := by
  have := dval_bd h hl
  unfold numL
  cases l with
  | nil => simp [sgn, bare, dval]
  | cons c r =>
    simp only [sgn]
    split <;> omega
theorem dig_all : ∀ u : Nat, (Lib.decDigits u).all isDig = true ∧ 1 ≤ (Lib.decDigits u).length := by
  intro u
  induction u using Nat.strongRecOn with
  | ind u ih =>
    rw [Lib.decDigits]
    split
    · rename_i h
      refine ⟨?_, by simp⟩
      simp only [List.all_cons, List.all_nil, Bool.and_true]
      rw [isDig_iff, UInt8.toNat_ofNat']
      omega
    · rename_i h
      refine ⟨?_, by simp⟩
      simp only [List.all_append, List.all_cons, List.all_nil, Bool.and_true, Bool.and_eq_true]
      refine ⟨(ih (u / 10) (by omega)).1, ?_⟩
      rw [isDig_iff, UInt8.toNat_ofNat']
      omega
theorem dval_app (l m : List UInt8) : ∀ a, dval (l ++ m) a = dval m (dval l a) := by
  induction l with
  | nil => intro a; rfl
  | cons c r ih => intro a; simp only [List.cons_append, dval]; exact ih _
theorem dval_dec : ∀ u : Nat, dval (Lib.decDigits u) 0 = u := by
  intro u
  induction u using Nat.strongRecOn with
  | ind u ih =>
    rw [Lib.decDigits]
    split
    · rename_i h
      simp only [dval, UInt8.toNat_ofNat']
      omega
    · rename_i h
      rw [dval_app, ih (u / 10) (by omega)]
      simp only [dval, UInt8.toNat_ofNat']
      omega
theorem bare_dig {l : List UInt8} (h : l.all isDig = true) : bare l = l := by
  cases l with
  | nil => rfl
  | cons c r =>
    simp only [List.all_cons, Bool.and_eq_true] at h
    have := isDig_iff.1 h.1
    have hc : ¬ c = 45 := fun e => by have := c45.2 e; omega
    simp [bare, hc]
theorem sgn_dig {l : List UInt8} (h : l.all isDig = true) (n : Nat) : sgn l n = n := by
  cases l with
  | nil => rfl
  | cons c r =>
    simp only [List.all_cons, Bool.and_eq_true] at h
    have := isDig_iff.1 h.1
    have hc : ¬ c = 45 := fun e => by have := c45.2 e; omega
    simp [sgn, hc]
theorem itoa_bare (v : Int) : bare (Lib.itoa v) = Lib.decDigits v.natAbs ∧ numL (Lib.itoa v) = v := by
  have hd := dig_all v.natAbs
  by_cases h : v < 0
  · obtain ⟨u, hu⟩ : ∃ u : Nat, v = -(u : Int) := ⟨v.natAbs, by omega⟩
    subst hu
    have hu1 : 1 ≤ u := by omega
    rw [show (-(u : Int)).natAbs = u from by omega] at hd ⊢
    rw [Lib.itoa_neg u hu1]
    refine ⟨by simp [bare], ?_⟩
    simp [numL, sgn, bare, dval_dec]
  · obtain ⟨u, hu⟩ : ∃ u : Nat, v = (u : Int) := ⟨v.natAbs, by omega⟩
    subst hu
    rw [show ((u : Int)).natAbs = u from by omega] at hd ⊢
    rw [Lib.itoa_nonneg u]
    refine ⟨bare_dig hd.1, ?_⟩
    unfold numL
    rw [sgn_dig hd.1, bare_dig hd.1, dval_dec]
theorem okN_itoa {v : Int} (h0 : -1000000000000000000 < v) (h1 : v < 1000000000000000000) : okN (Lib.itoa v) = true := by
  have h := itoa_bare v
  have hd := dig_all v.natAbs
  rw [okN_iff, h.1, h.2]
  refine ⟨hd.2, ?_, hd.1, rfl⟩
  rw [Lib.decDigits_length]
  have key : ∀ (k u : Nat), u < 10 ^ (k + 1) → Lib.nDigits u ≤ k + 1 := by
    intro k
    induction k with
    | zero => intro u hu; rw [Lib.nDigits_small (by simpa using hu)]; exact Nat.le_refl _
    | succ k ih =>
      intro u hu
      by_cases hs : u < 10
      · rw [Lib.nDigits_small hs]; omega
      · rw [Lib.nDigits_big hs]
        have := ih (u / 10) (by rw [Nat.pow_succ] at hu; exact Nat.div_lt_of_lt_mul (by omega))
        omega
  exact key 17 _ (by simp; omega)
/-- the library's reading beside ours -/
theorem okN_no_parse {l : List UInt8} (h : ∀ v, Lib.parseIntB 64 l ≠ .ok v) : okN l = false := by
  cases ho : okN l
  · rfl
  · obtain ⟨h1, h2, h3, _⟩ := okN_iff.1 ho
    exact absurd (parse_ok h1 h2 h3) (h _)
theorem okN_ne {l : List UInt8} {v : Int} (h : Lib.parseIntB 64 l = .ok v) (hne : Lib.itoa v ≠ l) : okN l = false := by
  cases ho : okN l
  · rfl
  · obtain ⟨h1, h2, h3, h4⟩ := okN_iff.1 ho
    rw [parse_ok h1 h2 h3] at h
    injection h with h
    rw [h] at h4
    exact absurd h4 hne
theorem okN_eq {l : List UInt8} {v : Int} (hl : (bare l).length ≤ 18) (he : Lib.itoa v = l) : okN l = true ∧ numL l = v := by
  have h := itoa_bare v
  rw [he] at h
  refine ⟨?_, h.2⟩
  have hd := dig_all v.natAbs
  rw [okN_iff, h.2]
  exact ⟨by rw [h.1]; exact hd.2, hl, by rw [h.1]; exact hd.1, he⟩
theorem okN_long {l : List UInt8} (h : 18 < (bare l).length) : okN l = false := by
  cases ho : okN l
  · rfl
  · obtain ⟨_, h2, _⟩ := okN_iff.1 ho
    omega
theorem bare_len (l : List UInt8) : l.length ≤ (bare l).length + 1 := by
  cases l with
  | nil => simp [bare]
  | cons c r => simp only [bare]; split <;> simp
theorem parse_bd {l : List UInt8} {v : Int} (hl : (bare l).length ≤ 18) (h : Lib.parseIntB 64 l = .ok v) : -1000000000000000000 < v ∧ v < 1000000000000000000 := by
  cases l with
  | nil => simp [Lib.parseIntB] at h
  | cons c r =>
    unfold Lib.parseIntB at h
    simp only [] at h
    obtain ⟨t, ht⟩ : ∃ t, t = (if c.toNat = 43 ∨ c.toNat = 45 then r else c :: r) := ⟨_, rfl⟩
    rw [← ht] at h
    have htl : t.length ≤ 18 := by
      rw [ht]
      simp only [bare] at hl
      split
      · split at hl
        · exact hl
        · simp at hl; omega
      · rename_i hn
        rw [if_neg (fun e => hn (.inr (c45.2 e)))] at hl
        exact hl
    match hu : Lib.parseUintB 64 t with
    | Lib.NumEnd.syntax => rw [hu] at h; cases h
    | .range => rw [hu] at h; cases h
    | .ok u =>
      rw [hu] at h
      unfold Lib.parseUintB at hu
      split at hu
      · cases hu
      · have hd := parseM_dig t 0 u hu
        have hb := dval_bd hd.1 htl
        rw [← hd.2] at hb
        simp only [] at h
        split at h
        · cases h
        · split at h
          · cases h
          · injection h with h
            rw [← h]
            split <;> omega
theorem trim_bare (l : List UInt8) : Lib.trimPrefix l [45] = bare l := by
  cases l with
  | nil => simp [Lib.trimPrefix, Lib.hasPrefix, bare]
  | cons c r =>
    simp only [Lib.trimPrefix, Lib.hasPrefix, bare, List.isPrefixOf, Bool.and_true, beq_iff_eq, eq_comm (a := (45 : UInt8))]
    split <;> simp
/-! a text split at a byte -/
def glue (p : List UInt8) : List (List UInt8) → List (List UInt8)
  | [] => [p]
  | h :: t => (p ++ h) :: t
def spl (c : UInt8) : List UInt8 → List (List UInt8)
  | [] => [[]]
  | b :: l => if b = c then [] :: spl c l else glue [b] (spl c l)
theorem glue_glue (p q : List UInt8) (L : List (List UInt8)) (h : L ≠ []) : glue p (glue q L) = glue (p ++ q) L := by
  cases L with
  | nil => exact absurd rfl h
  | cons a t => simp [glue]
theorem spl_ne (c : UInt8) (l : List UInt8) : spl c l ≠ [] := by
  cases l with
  | nil => simp [spl]
  | cons b r =>
    simp only [spl]
    split
    · simp
    · cases spl c r <;> simp [glue]
theorem spl_len (c : UInt8) : ∀ l : List UInt8, (spl c l).length = l.count c + 1 := by
  intro l
  induction l with
  | nil => rfl
  | cons b r ih =>
    simp only [spl]
    split
    · rename_i h
      subst h
      simp [ih]
    · rename_i h
      have hg : ∀ L : List (List UInt8), L ≠ [] → (glue [b] L).length = L.length := by intro L hL; cases L with | nil => exact absurd rfl hL | cons a t => simp [glue]
      rw [hg _ (spl_ne c r), ih, List.count_cons_of_ne h]
theorem splitK_spl (c : UInt8) : ∀ (l : List UInt8), Lib.splitK [c] 0 (Lib.count l [c]) l = spl c l := by
  intro l
  induction l with
  | nil => simp [Lib.count_one, Lib.splitK, spl]
  | cons b r ih =>
    rw [Lib.count_one] at ih ⊢
    simp only [spl]
    split
    · rename_i h
      subst h
      rw [List.count_cons_self]
      unfold Lib.splitK
      rw [Lib.index_one]
      simp [Lib.indexByte, ih]
    · rename_i h
      rw [List.count_cons_of_ne h]
      cases hk : r.count c with
      | zero =>
        rw [hk] at ih
        rw [← ih]
        simp [Lib.splitK, glue]
      | succ k =>
        rw [hk] at ih
        rw [← ih]
        have hb : (b == c) = false := by simpa using h
        unfold Lib.splitK
        rw [Lib.index_one, Lib.index_one]
        have hr : Lib.indexByte (b :: r) c = if Lib.indexByte r c == -1 then -1 else Lib.indexByte r c + 1 := by
          rw [Lib.indexByte, hb]; rfl
        rw [hr]
        by_cases hm : Lib.indexByte r c = -1
        · simp [hm, glue]
        · have hge := Lib.indexByte_ge r c
          obtain ⟨i, hi⟩ : ∃ i : Nat, Lib.indexByte r c = i := ⟨(Lib.indexByte r c).toNat, by omega⟩
          have h1 : ¬ ((i : Int) = -1) := by omega
          have h2 : ¬ ((i : Int) + 1 = -1) := by omega
          have h3 : ((i : Int) + 1).toNat = i + 1 := by omega
          simp [hi, h1, h2, h3, glue]
theorem spl_four {c : UInt8} {l x y z w : List UInt8} (h : spl c l = [x, y, z, w]) : l = x ++ c :: (y ++ c :: (z ++ c :: w)) := by
  have join : ∀ l : List UInt8, ∀ L, spl c l = L → l = [c].intercalate L := by
    intro l
    induction l with
    | nil => intro L h; subst h; simp [spl, List.intercalate]
    | cons b r ih =>
      intro L h
      have hr := ih _ rfl
      simp only [spl] at h
      split at h
      · rename_i hb
        subst h hb
        cases hs : spl b r with
        | nil => exact absurd hs (spl_ne b r)
        | cons a t =>
          rw [hs] at hr
          rw [hr]
          simp [List.intercalate]
      · subst h
        cases hs : spl c r with
        | nil => exact absurd hs (spl_ne c r)
        | cons a t =>
          rw [hs] at hr
          rw [hr]
          cases t <;> simp [List.intercalate, glue]
  have := join l _ h
  rw [this]
  simp [List.intercalate]
end Go.Proofs.YtapnllbbdfoaaaaGreatDoor

namespace Go.Proofs.YtapnllbbdfoaaaaGreatDoor
open Go.RowKit

def numV (s : ByteArray) : Int := if okN s.data.toList = true then numL s.data.toList else 0
theorem numV_no {s : ByteArray} (h : okN s.data.toList = false) : numV s = 0 := by unfold numV; rw [h]; rfl
theorem numV_yes {s : ByteArray} (h : okN s.data.toList = true) : numV s = numL s.data.toList := by unfold numV; rw [h]; rfl
theorem numV_bd (s : ByteArray) : -1000000000000000000 < numV s ∧ numV s < 1000000000000000000 := by
  cases h : okN s.data.toList
  · rw [numV_no h]; omega
  · rw [numV_yes h]; exact numL_bd (okN_iff.1 h).2.2.1 (okN_iff.1 h).2.1
theorem okN_short {l : List UInt8} (h : (bare l).length < 1) : okN l = false := by
  cases ho : okN l
  · rfl
  · obtain ⟨h2, _⟩ := okN_iff.1 ho
    omega
theorem okN_all {l : List UInt8} (h : (bare l).all isDig = false) : okN l = false := by
  cases ho : okN l
  · rfl
  · rw [(okN_iff.1 ho).2.2.1] at h; exact absurd h (by simp)
theorem okN_last {l : List UInt8} (h1 : 1 ≤ (bare l).length) (h2 : (bare l).length ≤ 18) (h3 : (bare l).all isDig = true) : okN l = decide (Lib.itoa (numL l) = l) := by
  unfold okN
  rw [decide_eq_true h1, decide_eq_true h2, h3, Bool.true_and, Bool.true_and, Bool.true_and]
theorem pow_step {v k d : Nat} (h : v + 1 ≤ 10 ^ k) (hd : d ≤ 9) (hk : k < 18) : 10 * v + d + 1 ≤ 10 ^ (k + 1) ∧ 10 * v + d < 1000000000000000000 := by
  have h1 : 10 ^ (k + 1) = 10 * 10 ^ k := by rw [Nat.pow_succ, Nat.mul_comm]
  have h2 := pow_le (k := k + 1) (by omega)
  omega
theorem dval_step {t : ByteArray} {k : Nat} (h : k < t.size) (v : Nat) : dval (t.data.toList.drop k) v = dval (t.data.toList.drop (k + 1)) (10 * v + (t[k].toNat - 48)) := by
  rw [drop_at (byte_at h)]
  simp only [dval]
  rw [Nat.mul_comm]
theorem all_step {t : ByteArray} {k : Nat} (h : k < t.size) : (t.data.toList.drop k).all isDig = (isDig t[k] && (t.data.toList.drop (k + 1)).all isDig) := by rw [drop_at (byte_at h), List.all_cons]
theorem bare_no {s : ByteArray} (h : 0 < s.size) (h45 : ¬ s[0].toNat = 45) : s.data.toList = bare s.data.toList ∧ ∀ n, sgn s.data.toList n = n := by
  have e0 : s.data.toList = s[0] :: s.data.toList.drop 1 := by have := drop_at (byte_at h); simpa using this
  have hc : ¬ s[0] = 45 := fun e => h45 (c45.2 e)
  rw [e0]
  exact ⟨by simp [bare, hc], by intro n; simp [sgn, hc]⟩
theorem bare_yes {s : ByteArray} (h : 0 < s.size) (h45 : s[0].toNat = 45) : (s.extract 1 s.size).data.toList = bare s.data.toList ∧ ∀ n, sgn s.data.toList n = -(n : Int) := by
  have e0 : s.data.toList = s[0] :: s.data.toList.drop 1 := by have := drop_at (byte_at h); simpa using this
  have hc : s[0] = 45 := c45.1 h45
  have e1 : (s.extract 1 s.size).data.toList = s.data.toList.drop 1 := by
    rw [ByteArray.data_extract, Array.toList_extract]
    simp [List.take_of_length_le]
  rw [e1]
  generalize s.data.toList.drop 1 = r at e0
  rw [e0]
  exact ⟨by simp [bare, hc], by intro n; simp [sgn, hc]⟩
set_option maxRecDepth 100000 in
set_option maxHeartbeats 2000000 in
theorem l01Number_c (s : ByteArray) (hs : s.size ≤ 9223372036854775807) (w : World) : Calls Tryz.prog 60 #[.string s] w (RetT #[.int .i64 (numV s), .bool (okN s.data.toList)] w) := by
  by_cases h0 : s.size = 0
  · have he : (s.toList == []) = true := by rw [bytes_nil]; simp only [h0]; rfl
    have hnil : s.data.toList = [] := List.eq_nil_of_length_eq_zero (by rw [bytes_len]; exact h0)
    have HO := Lib.hid (show okN s.data.toList = false by rw [hnil]; rfl)
    clear hnil
    have hd1 : (s.size : Int) < 1 := by omega
    go_enter Tryz.func60, Tryz.ntmps60
    go_wp2_with fail
    go_returns
    exact RetT.mk (by rw [numV_no HO.out, HO.out]; rfl) (Below.refl _ _)
  have he : (s.toList == []) = false := by rw [bytes_nil]; exact decide_eq_false h0
  have hp : 0 < s.size := by omega
  clear h0
  by_cases h45 : s[0].toNat = 45
  · obtain ⟨hbt, hsg⟩ := bare_yes hp h45
    have hq : (s[0].toNat : Int) = 45 := by omega
    have hsz : (s.extract 1 s.size).size < s.size := by simp; omega
    obtain ⟨t, ht⟩ : ∃ t, s.extract 1 s.size = t := ⟨_, rfl⟩
    rw [ht] at hbt hsz
    go_enter Tryz.func60, Tryz.ntmps60
    have hts : t.size = (bare s.data.toList).length := by rw [← bytes_len]; exact congrArg List.length hbt
    by_cases hl1 : t.size < 1
    · have HO := Lib.hid (okN_short (l := s.data.toList) (by omega))
      clear hbt hsg hts
      go_wp2_with fail
      all_goals
        go_returns
        exact RetT.mk (by rw [numV_no HO.out, HO.out]; rfl) (Below.refl _ _)
    have hl1' : 1 ≤ (t.size : Int) := by omega
    have hdl : decide ((t.size : Int) < 1) = false := decide_eq_false (by omega)
    by_cases hl2 : 18 < (t.size : Int)
    · have HO := Lib.hid (okN_long (l := s.data.toList) (by omega))
      clear hbt hsg hts
      go_wp2_with fail
      all_goals
        go_returns
        exact RetT.mk (by rw [numV_no HO.out, HO.out]; rfl) (Below.refl _ _)
    have hl2' : (t.size : Int) ≤ 18 := by omega
    have HB := Lib.hid hbt
    have HG := Lib.hid hsg
    have HTS := Lib.hid hts
    have hR := Lib.hid (show dval (bare s.data.toList) 0 = dval (t.data.toList.drop 0) 0 by rw [List.drop_zero]; exact congrArg (dval · 0) hbt.symm)
    have hD := Lib.hid (show (bare s.data.toList).all isDig = (t.data.toList.drop 0).all isDig by rw [List.drop_zero]; exact congrArg (List.all · isDig) hbt.symm)
    clear hbt hsg hts
    go_wp2_with fail
    go_loop [5, 6] (fun n i => ∃ (k v : Nat), k ≤ t.size ∧ i = .int .i64 k ∧ n = .int .i64 v ∧ v < 1000000000000000000 ∧ Hid (v + 1 ≤ 10 ^ k) ∧ Hid (dval (bare s.data.toList) 0 = dval (t.data.toList.drop k) v) ∧ Hid ((bare s.data.toList).all isDig = (t.data.toList.drop k).all isDig)) (fun _ i => t.size - (intOf i).toNat)
    case atStart => exact ⟨0, 0, by omega, rfl, rfl, by omega, Lib.hid (by simp), hR, hD⟩
    case round =>
      clear hR hD
      obtain ⟨k, v, hk, rfl, rfl, hv, hP, hR, hD⟩ := hrel
      by_cases hlt : k < t.size
      · have hR2 := Lib.hid (hR.out.trans (dval_step hlt v))
        have hD2 := Lib.hid (hD.out.trans (all_step hlt))
        clear hR hD
        cases hd : digB t[k]
        · have HO := Lib.hid (okN_all (l := s.data.toList) (by rw [hD2.out, show isDig t[k] = digB t[k] from rfl, hd, Bool.false_and]))
          go_wp2_with (go_at_call 78; refine (l01Digit_c _ _).mono ?_; rintro e w' ⟨rfl, rfl⟩)
          go_returns
          exact RetT.mk (by rw [numV_no HO.out, HO.out]; rfl) (Below.refl _ _)
        · have hd2 := isDig_iff.1 (show isDig t[k] = true from hd)
          have hD3 := Lib.hid (hD2.out.trans (by rw [show isDig t[k] = digB t[k] from rfl, hd, Bool.true_and]))
          have hst := pow_step (d := t[k].toNat - 48) hP.out (by omega) (by omega)
          have HP2 := Lib.hid hst.1
          have hb2 := hst.2
          have hb3 : (10 : Int) * v + ((t[k].toNat : Int) - 48) < 1000000000000000000 := by omega
          have hd48 : 48 ≤ (t[k].toNat : Int) := by omega
          have hd57 : (t[k].toNat : Int) ≤ 57 := by omega
          clear hD2 hP hst
          go_wp2_with (go_at_call 78; refine (l01Digit_c _ _).mono ?_; rintro e w' ⟨rfl, rfl⟩)
          exact ⟨⟨k + 1, 10 * v + (t[k].toNat - 48), by omega, by go_num, vi (by omega), hb2, HP2, hR2, hD3⟩, by simp [intOf]; omega⟩
      · have hkt : k = t.size := by omega
        have HV := Lib.hid (hR.out.trans (by rw [List.drop_eq_nil_of_le (by rw [bytes_len]; omega)]; rfl : _ = v))
        have HA := Lib.hid (hD.out.trans (by rw [List.drop_eq_nil_of_le (by rw [bytes_len]; omega)]; rfl : _ = true))
        have HN := Lib.hid (show numL s.data.toList = -(v : Int) by unfold numL; rw [HG.out, HV.out])
        have HL := Lib.hid (okN_last (l := s.data.toList) (by rw [← HTS.out]; omega) (by rw [← HTS.out]; omega) HA.out)
        clear hR hD hP
        go_wp2_with fail
        refine (l01DecI_c _ (by omega) (by omega) _).mono ?_
        rintro e W ⟨rfl, hb⟩
        obtain ⟨u, hu⟩ : ∃ u : Int, u = -(v : Int) := ⟨_, rfl⟩
        have hN2 := HN.out
        rw [← hu] at hN2 ⊢
        have hL2 := HL.out
        rw [hN2] at hL2
        clear hu HN HL
        have hbq : ((decI u).toList == s.toList) = decide (Lib.itoa u = s.data.toList) := by
          rw [bytes_beq, Bool.eq_iff_iff, decide_eq_true_eq, decide_eq_true_eq]
          constructor
          · intro h; rw [← h]; rfl
          · intro h; unfold decI; rw [h]
        have HL := Lib.hid (hL2.trans hbq.symm)
        have HN := Lib.hid hN2
        clear hL2 hbq hN2
        cases hq2 : ((decI u).toList == s.toList)
        · have HO := Lib.hid (HL.out.trans hq2)
          go_wp2_with fail
          go_returns
          exact RetT.mk (by rw [numV_no HO.out, HO.out]; rfl) hb
        · have HO := Lib.hid (HL.out.trans hq2)
          go_wp2_with fail
          go_returns
          exact RetT.mk (by rw [numV_yes HO.out, HO.out, HN.out]; rfl) hb
  · have hne : ¬ (s[0].toNat : Int) = 45 := by omega
    obtain ⟨hbt, hsg⟩ := bare_no hp h45
    have hne2 : ((s[0].toNat : Int) == 45) = false := by simpa using hne
    clear h45
    go_enter Tryz.func60, Tryz.ntmps60
    have hts : s.size = (bare s.data.toList).length := by rw [← bytes_len]; exact congrArg List.length hbt
    by_cases hl1 : s.size < 1
    · have HO := Lib.hid (okN_short (l := s.data.toList) (by omega))
      clear hbt hsg hts
      go_wp2_with fail
      all_goals
        go_returns
        exact RetT.mk (by rw [numV_no HO.out, HO.out]; rfl) (Below.refl _ _)
    have hl1' : 1 ≤ (s.size : Int) := by omega
    have hdl : decide ((s.size : Int) < 1) = false := decide_eq_false (by omega)
    by_cases hl2 : 18 < (s.size : Int)
    · have HO := Lib.hid (okN_long (l := s.data.toList) (by omega))
      clear hbt hsg hts
      go_wp2_with fail
      all_goals
        go_returns
        exact RetT.mk (by rw [numV_no HO.out, HO.out]; rfl) (Below.refl _ _)
    have hl2' : (s.size : Int) ≤ 18 := by omega
    have HB := Lib.hid hbt
    have HG := Lib.hid hsg
    have HTS := Lib.hid hts
    have hR := Lib.hid (show dval (bare s.data.toList) 0 = dval (s.data.toList.drop 0) 0 by rw [List.drop_zero]; exact congrArg (dval · 0) hbt.symm)
    have hD := Lib.hid (show (bare s.data.toList).all isDig = (s.data.toList.drop 0).all isDig by rw [List.drop_zero]; exact congrArg (List.all · isDig) hbt.symm)
    clear hbt hsg hts
    go_wp2_with fail
    go_loop [5, 6] (fun n i => ∃ (k v : Nat), k ≤ s.size ∧ i = .int .i64 k ∧ n = .int .i64 v ∧ v < 1000000000000000000 ∧ Hid (v + 1 ≤ 10 ^ k) ∧ Hid (dval (bare s.data.toList) 0 = dval (s.data.toList.drop k) v) ∧ Hid ((bare s.data.toList).all isDig = (s.data.toList.drop k).all isDig)) (fun _ i => s.size - (intOf i).toNat)
    case atStart => exact ⟨0, 0, by omega, rfl, rfl, by omega, Lib.hid (by simp), hR, hD⟩
    case round =>
      clear hR hD
      obtain ⟨k, v, hk, rfl, rfl, hv, hP, hR, hD⟩ := hrel
      by_cases hlt : k < s.size
      · have hR2 := Lib.hid (hR.out.trans (dval_step hlt v))
        have hD2 := Lib.hid (hD.out.trans (all_step hlt))
        clear hR hD
        cases hd : digB s[k]
        · have HO := Lib.hid (okN_all (l := s.data.toList) (by rw [hD2.out, show isDig s[k] = digB s[k] from rfl, hd, Bool.false_and]))
          go_wp2_with (go_at_call 78; refine (l01Digit_c _ _).mono ?_; rintro e w' ⟨rfl, rfl⟩)
          go_returns
          exact RetT.mk (by rw [numV_no HO.out, HO.out]; rfl) (Below.refl _ _)
        · have hd2 := isDig_iff.1 (show isDig s[k] = true from hd)
          have hD3 := Lib.hid (hD2.out.trans (by rw [show isDig s[k] = digB s[k] from rfl, hd, Bool.true_and]))
          have hst := pow_step (d := s[k].toNat - 48) hP.out (by omega) (by omega)
          have HP2 := Lib.hid hst.1
          have hb2 := hst.2
          have hb3 : (10 : Int) * v + ((s[k].toNat : Int) - 48) < 1000000000000000000 := by omega
          have hd48 : 48 ≤ (s[k].toNat : Int) := by omega
          have hd57 : (s[k].toNat : Int) ≤ 57 := by omega
          clear hD2 hP hst
          go_wp2_with (go_at_call 78; refine (l01Digit_c _ _).mono ?_; rintro e w' ⟨rfl, rfl⟩)
          exact ⟨⟨k + 1, 10 * v + (s[k].toNat - 48), by omega, by go_num, vi (by omega), hb2, HP2, hR2, hD3⟩, by simp [intOf]; omega⟩
      · have hkt : k = s.size := by omega
        have HV := Lib.hid (hR.out.trans (by rw [List.drop_eq_nil_of_le (by rw [bytes_len]; omega)]; rfl : _ = v))
        have HA := Lib.hid (hD.out.trans (by rw [List.drop_eq_nil_of_le (by rw [bytes_len]; omega)]; rfl : _ = true))
        have HN := Lib.hid (show numL s.data.toList = (v : Int) by unfold numL; rw [HG.out, HV.out])
        have HL := Lib.hid (okN_last (l := s.data.toList) (by rw [← HTS.out]; omega) (by rw [← HTS.out]; omega) HA.out)
        clear hR hD hP
        go_wp2_with fail
        refine (l01DecI_c _ (by omega) (by omega) _).mono ?_
        rintro e W ⟨rfl, hb⟩
        obtain ⟨u, hu⟩ : ∃ u : Int, u = (v : Int) := ⟨_, rfl⟩
        have hN2 := HN.out
        rw [← hu] at hN2 ⊢
        have hL2 := HL.out
        rw [hN2] at hL2
        clear hu HN HL
        have hbq : ((decI u).toList == s.toList) = decide (Lib.itoa u = s.data.toList) := by
          rw [bytes_beq, Bool.eq_iff_iff, decide_eq_true_eq, decide_eq_true_eq]
          constructor
          · intro h; rw [← h]; rfl
          · intro h; unfold decI; rw [h]
        have HL := Lib.hid (hL2.trans hbq.symm)
        have HN := Lib.hid hN2
        clear hL2 hbq hN2
        cases hq2 : ((decI u).toList == s.toList)
        · have HO := Lib.hid (HL.out.trans hq2)
          go_wp2_with fail
          go_returns
          exact RetT.mk (by rw [numV_no HO.out, HO.out]; rfl) hb
        · have HO := Lib.hid (HL.out.trans hq2)
          go_wp2_with fail
          go_returns
          exact RetT.mk (by rw [numV_yes HO.out, HO.out, HN.out]; rfl) hb
end Go.Proofs.YtapnllbbdfoaaaaGreatDoor

namespace Go.Proofs.YtapnllbbdfoaaaaGreatDoor
open Go.RowKit

def IfaceAt (w : World) (g : Nat) : Prop := ∃ ev, w.cell? ⟨g, 0, none⟩ = some ev ∧ (ev = .nilIface ∨ ∃ te pe, ev = .iface te pe)
theorem IfaceAt.below {w w' : World} {g : Nat} (h : IfaceAt w g) (hb : Below w.heap.size w w') : IfaceAt w' g := by
  obtain ⟨ev, hc, he⟩ := h
  exact ⟨ev, bl_cell hb hc, he⟩
structure Tabs (w : World) : Prop where
  pow : Pow10 w
  len : ∃ m, w.cell? ⟨2, 0, none⟩ = some (.int .i64 m)
  syn : IfaceAt w 3
  rng : IfaceAt w 4
theorem Tabs.below {w w' : World} (h : Tabs w) (hb : Below w.heap.size w w') : Tabs w' := by
  obtain ⟨m, hm⟩ := h.len
  exact ⟨h.pow.below hb, ⟨m, bl_cell hb hm⟩, h.syn.below hb, h.rng.below hb⟩
end Go.Proofs.YtapnllbbdfoaaaaGreatDoor

namespace Go.Proofs.YtapnllbbdfoaaaaGreatDoor
open Go.RowKit

theorem below_bytes {w w' : World} {t : TypeId} (h : w' = w ∨ ∃ k, w' = Lib.bytesWorld w t k) : Below w.heap.size w w' := by
  rcases h with rfl | ⟨k, rfl⟩
  · exact Below.refl _ _
  · exact Lib.bytesWorld_below _ _ _
theorem bytes_mk_list (l : List UInt8) : (ByteArray.mk l.toArray).data.toList = l := by simp
set_option maxRecDepth 100000 in
set_option maxHeartbeats 2000000 in
theorem ReadDecimal_c (s : ByteArray) (hs : s.size ≤ 281474976710656) (w : World) (hT : Tabs w) : Calls Tryz.prog 54 #[.string s] w (RetT #[.int .i64 (numV s), .bool (okN s.data.toList)] w) := by
  have HT := Lib.hid hT
  clear hT
  have hbl := bare_len s.data.toList
  rw [bytes_len] at hbl
  by_cases h19 : 19 < (s.size : Int)
  · have HO := Lib.hid (okN_long (l := s.data.toList) (by omega))
    clear hbl
    go_enter Tryz.func54, Tryz.ntmps54
    go_wp2_with fail
    go_returns
    exact RetT.mk (by rw [numV_no HO.out, HO.out]; rfl) (Below.refl _ _)
  have hd19 : decide (19 < (s.size : Int)) = false := decide_eq_false h19
  obtain ⟨t, ht⟩ : ∃ t : ByteArray, t = ⟨(bare s.data.toList).toArray⟩ := ⟨_, rfl⟩
  have hTr := fun (w : World) => Tryz.strings_TrimPrefix s ⟨#[45]⟩ w
  rw [show (ByteArray.mk #[45]).data.toList = [45] from rfl, trim_bare, ← ht] at hTr
  have hts : t.size = (bare s.data.toList).length := by rw [ht]; simp [ByteArray.size]
  replace hTr := Lib.hid hTr
  clear ht
  by_cases h18 : 18 < (t.size : Int)
  · have HO := Lib.hid (okN_long (l := s.data.toList) (by omega))
    clear hbl hts
    go_enter Tryz.func54, Tryz.ntmps54
    go_wp2_with (go_at_call 55; refine (hTr.out _).mono ?_; rintro e w' ⟨rfl, rfl⟩)
    go_returns
    exact RetT.mk (by rw [numV_no HO.out, HO.out]; rfl) (Below.refl _ _)
  have hd18 : decide (18 < (t.size : Int)) = false := decide_eq_false h18
  have HL := Lib.hid (show (bare s.data.toList).length ≤ 18 by omega)
  clear hbl hts
  obtain ⟨evs, hes, hes2⟩ := HT.out.syn
  obtain ⟨evr, her, her2⟩ := HT.out.rng
  match hp : Lib.parseIntB 64 s.data.toList with
  | Lib.NumEnd.syntax =>
    have HO := Lib.hid (okN_no_parse (l := s.data.toList) (by intro v; rw [hp]; intro h; cases h))
    have hPI := Lib.hid (Tryz.strconv_ParseInt_10_at64_syntax s hs hp evs w hes hes2)
    clear hp hes hes2 her her2
    go_enter Tryz.func54, Tryz.ntmps54
    go_wp2_with (go_at_call 55; refine (hTr.out _).mono ?_; rintro e w' ⟨rfl, rfl⟩)
    refine hPI.out.mono ?_
    rintro e W ⟨N, rfl, _, _, hb⟩
    go_wp2_with fail
    go_returns
    exact RetT.mk (by rw [numV_no HO.out, HO.out]; rfl) hb
  | .range =>
    have HO := Lib.hid (okN_no_parse (l := s.data.toList) (by intro v; rw [hp]; intro h; cases h))
    have hPI := Lib.hid (Tryz.strconv_ParseInt_10_at64_range s hs hp evr w her her2)
    clear hp hes hes2 her her2
    go_enter Tryz.func54, Tryz.ntmps54
    go_wp2_with (go_at_call 55; refine (hTr.out _).mono ?_; rintro e w' ⟨rfl, rfl⟩)
    refine hPI.out.mono ?_
    rintro e W ⟨N, rfl, _, _, hb⟩
    go_wp2_with fail
    go_returns
    exact RetT.mk (by rw [numV_no HO.out, HO.out]; rfl) hb
  | .ok v =>
    have hvb := parse_bd HL.out hp
    have hv0 := hvb.1
    have hv1 := hvb.2
    clear hvb
    have hPI := Lib.hid (Tryz.strconv_ParseInt_10_at64_ok s (by omega) v hp w)
    have hbq : ((decI v).toList == s.toList) = decide (Lib.itoa v = s.data.toList) := by
      rw [bytes_beq, Bool.eq_iff_iff, decide_eq_true_eq, decide_eq_true_eq]
      constructor
      · intro h; rw [← h]; rfl
      · intro h; unfold decI; rw [h]
    have HB := Lib.hid hbq
    have HP := Lib.hid hp
    clear hp hbq hes hes2 her her2
    go_enter Tryz.func54, Tryz.ntmps54
    go_wp2_with (go_at_call 55; refine (hTr.out _).mono ?_; rintro e w' ⟨rfl, rfl⟩)
    refine hPI.out.mono ?_
    rintro e W ⟨rfl, hW⟩
    have hb := below_bytes hW
    clear hW
    go_wp2_with fail
    refine (DecimalI_c v (by omega) (by omega) _ (HT.out.below hb).pow).mono ?_
    rintro e W2 ⟨rfl, hb2⟩
    replace hb := bl_trans hb hb2
    clear hb2
    cases hq2 : ((decI v).toList == s.toList)
    · have HO := Lib.hid (okN_ne HP.out (of_decide_eq_false (HB.out.symm.trans hq2)))
      go_wp2_with fail
      go_returns
      exact RetT.mk (by rw [numV_no HO.out, HO.out]; rfl) hb
    · have HO := Lib.hid (okN_eq HL.out (of_decide_eq_true (HB.out.symm.trans hq2)))
      go_wp2_with fail
      go_returns
      exact RetT.mk (by rw [numV_yes HO.out.1, HO.out.1, HO.out.2]; rfl) hb
end Go.Proofs.YtapnllbbdfoaaaaGreatDoor
