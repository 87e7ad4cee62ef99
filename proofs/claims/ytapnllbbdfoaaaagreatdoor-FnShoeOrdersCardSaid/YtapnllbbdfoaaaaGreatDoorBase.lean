/- Ranges and names: the program's and the reference's. -/
import Derived.Test.YtapnllbbdfoaaaaGreatDoorMCore
namespace Go.Proofs.YtapnllbbdfoaaaaGreatDoor
open Go.RowKit


def inB (n lo hi : Int) : Bool := decide (lo ≤ n) && decide (n ≤ hi)
theorem inB_true {n lo hi : Int} (h1 : lo ≤ n) (h2 : n ≤ hi) : inB n lo hi = true := by simp [inB, h1, h2]
theorem inB_iff {n lo hi : Int} : inB n lo hi = true ↔ lo ≤ n ∧ n ≤ hi := by simp [inB]
theorem inB_false {n lo hi : Int} : inB n lo hi = false ↔ n < lo ∨ hi < n := by simp [inB]; omega

set_option maxHeartbeats 400000 in
theorem within_c (n lo hi : Int) (w : World) : Calls Tryz.prog 50 #[.int .i64 n, .int .i64 lo, .int .i64 hi] w (RetQ (.bool (inB n lo hi)) w) := by
  go_enter Tryz.func50, Tryz.ntmps50
  go_wp2
  all_goals
    go_returns
    refine RetQ.mk (vb ?_)
    simp [inB]
    try omega
set_option maxHeartbeats 400000 in
theorem l00In_c (n lo hi : Int) (w : World) : Calls Tryz.prog 51 #[.int .i64 n, .int .i64 lo, .int .i64 hi] w (RetQ (.bool (inB n lo hi)) w) := by
  go_enter Tryz.func51, Tryz.ntmps51
  go_wp2
  all_goals
    go_returns
    refine RetQ.mk (vb ?_)
    simp [inB]
    try omega

/-! ### Names -/
def smallB (c : UInt8) : Bool := decide (97 ≤ c.toNat) && decide (c.toNat ≤ 122)
def digB (c : UInt8) : Bool := decide (48 ≤ c.toNat) && decide (c.toNat ≤ 57)
def okcB (c : UInt8) : Bool := smallB c || digB c || decide (c.toNat = 45)
def nameL (l : List UInt8) : Bool := decide (1 ≤ l.length) && decide (l.length ≤ 12) && l.head?.any smallB && l.all okcB
def nameB (s : ByteArray) : Bool := nameL s.data.toList
theorem byte_at {s : ByteArray} {k : Nat} (h : k < s.size) : s.data.toList[k]? = some s[k] := by
  rw [List.getElem?_eq_getElem (by simpa using h)]; rfl
theorem bytes_len (s : ByteArray) : s.data.toList.length = s.size := by simp

theorem okcB_yes {c : UInt8} (h : (97 ≤ c.toNat ∧ c.toNat ≤ 122) ∨ (48 ≤ c.toNat ∧ c.toNat ≤ 57) ∨ c.toNat = 45) : okcB c = true := by
  simp [okcB, smallB, digB]; omega
theorem okcB_no {c : UInt8} (h : ¬ ((97 ≤ c.toNat ∧ c.toNat ≤ 122) ∨ (48 ≤ c.toNat ∧ c.toNat ≤ 57) ∨ c.toNat = 45)) : okcB c = false := by
  simp [okcB, smallB, digB]; omega
theorem nameB_step {s : ByteArray} (h1 : 1 ≤ s.size) (h2 : s.size ≤ 12) (hs : smallB (s[0]'(by omega)) = true) (k : Nat) (hk : k ≤ 1) : nameB s = (s.data.toList.drop k).all okcB := by
  have hh := byte_at (s := s) (k := 0) (by omega)
  have h0 : okcB (s[0]'(by omega)) = true := by simp only [okcB, hs, Bool.true_or]
  simp only [nameB, nameL, List.head?_eq_getElem?, hh, Option.any_some, bytes_len, hs]
  rw [decide_eq_true h1, decide_eq_true h2]
  have e0 : s.data.toList = s[0]'(by omega) :: s.data.toList.drop 1 := by have := drop_at hh; simpa using this
  match k, hk with
  | 0, _ => rw [List.drop_zero]; simp
  | 1, _ => conv => lhs; rw [e0, List.all_cons, h0]
            simp
theorem nameB_long {s : ByteArray} (h : 12 < s.size ∨ s.size < 1) : nameB s = false := by
  simp only [nameB, nameL, bytes_len]
  rcases h with h | h
  · rw [decide_eq_false (by omega : ¬ s.size ≤ 12)]; simp
  · rw [decide_eq_false (by omega : ¬ 1 ≤ s.size)]; simp
theorem nameB_head {s : ByteArray} (h : 0 < s.size) (hs : smallB s[0] = false) : nameB s = false := by
  have hh := byte_at (s := s) (k := 0) h
  simp only [nameB, nameL, List.head?_eq_getElem?, hh, Option.any_some, hs]; simp
theorem smallB_yes {c : UInt8} (h : 97 ≤ c.toNat ∧ c.toNat ≤ 122) : smallB c = true := by simp [smallB, h]
theorem smallB_no {c : UInt8} (h : ¬ (97 ≤ c.toNat ∧ c.toNat ≤ 122)) : smallB c = false := by simp [smallB]; omega

set_option maxHeartbeats 800000 in
theorem IsName_c (s : ByteArray) (hs : s.size ≤ 9223372036854775807) (w : World) : Calls Tryz.prog 65 #[.string s] w (RetQ (.bool (nameB s)) w) := by
  go_enter Tryz.func65, Tryz.ntmps65
  go_wp2_with fail
  · go_returns
    exact RetQ.mk (vb (nameB_long (by omega)).symm)
  · go_returns
    exact RetQ.mk (vb (nameB_long (by omega)).symm)
  · go_returns
    exact RetQ.mk (vb (nameB_head (by omega) (smallB_no (by omega))).symm)
  · go_returns
    exact RetQ.mk (vb (nameB_head (by omega) (smallB_no (by omega))).symm)
  · have hR := Lib.hid (nameB_step (s := s) (by omega) (by omega) (smallB_yes (by omega)) 1 (by omega))
    go_loop [3] (fun i => ∃ k : Nat, 1 ≤ k ∧ k ≤ s.size ∧ i = .int .i64 k ∧ Hid (nameB s = (s.data.toList.drop k).all okcB)) (fun i => s.size - (intOf i).toNat)
    case atStart => exact ⟨1, by omega, by omega, rfl, hR⟩
    case round =>
      clear hR
      obtain ⟨k, h1, hk, rfl, hR⟩ := hrel
      by_cases hlt : k < s.size
      · have hb := byte_at hlt
        have hR2 := Lib.hid (hR.out.trans (by rw [drop_at hb, List.all_cons] : _ = (okcB s[k] && (s.data.toList.drop (k + 1)).all okcB)))
        clear hR hb
        go_wp2_with fail
        all_goals first
          | (go_returns
             have h45 : ((s[k].toNat : Int) != 45) = true := by assumption
             rw [bne_iff_ne] at h45
             refine RetQ.mk (vb ?_)
             rw [hR2.out, okcB_no (by omega)]; rfl)
          | exact ⟨⟨k + 1, by omega, by omega, by go_num, Lib.hid (hR2.out.trans (by rw [okcB_yes (by omega)]; rfl))⟩, by simp [intOf]; omega⟩
          | (have h45 : ((s[k].toNat : Int) != 45) = false := by assumption
             rw [bne_eq_false_iff_eq] at h45
             exact ⟨⟨k + 1, by omega, by omega, by go_num, Lib.hid (hR2.out.trans (by rw [okcB_yes (by omega)]; rfl))⟩, by simp [intOf]; omega⟩)
      · have hR2 := Lib.hid (hR.out.trans (by rw [List.drop_eq_nil_of_le (by rw [bytes_len]; omega)]; rfl : _ = true))
        clear hR
        go_wp2_with fail
        go_returns
        exact RetQ.mk (vb hR2.out.symm)
theorem l01Small_c (c : UInt8) (w : World) : Calls Tryz.prog 81 #[.int .u8 c.toNat] w (RetQ (.bool (smallB c)) w) := by
  go_enter Tryz.func81, Tryz.ntmps81
  go_wp2
  all_goals
    go_returns
    refine RetQ.mk (vb ?_)
    rw [Bool.eq_iff_iff]
    simp [smallB]
    try omega
theorem l01Digit_c (c : UInt8) (w : World) : Calls Tryz.prog 78 #[.int .u8 c.toNat] w (RetQ (.bool (digB c)) w) := by
  go_enter Tryz.func78, Tryz.ntmps78
  go_wp2
  all_goals
    go_returns
    refine RetQ.mk (vb ?_)
    rw [Bool.eq_iff_iff]
    simp [digB]
    try omega
set_option maxHeartbeats 800000 in
theorem SIsName_c (s : ByteArray) (hs : s.size ≤ 9223372036854775807) (w : World) : Calls Tryz.prog 71 #[.string s] w (RetQ (.bool (nameB s)) w) := by
  by_cases h0 : s.size = 0
  · have he : (s.toList == []) = true := by rw [bytes_nil]; simp only [h0]; rfl
    go_enter Tryz.func71, Tryz.ntmps71
    go_wp2
    go_returns
    exact RetQ.mk (vb (nameB_long (by omega)).symm)
  · have he : (s.toList == []) = false := by rw [bytes_nil]; exact decide_eq_false h0
    have hp : 1 ≤ s.size := by omega
    clear h0
    go_enter Tryz.func71, Tryz.ntmps71
    cases hsm : smallB (s[0]'(by omega))
    · by_cases hl : s.size ≤ 12
      · have hd : decide (12 < (s.size : Int)) = false := decide_eq_false (by omega)
        go_wp2_with (first | (go_at_call 81; refine (l01Small_c _ _).mono ?_; rintro e w' ⟨rfl, rfl⟩) | (go_at_call 78; refine (l01Digit_c _ _).mono ?_; rintro e w' ⟨rfl, rfl⟩))
        go_returns
        exact RetQ.mk (vb (nameB_head hp hsm).symm)
      · have hd : decide (12 < (s.size : Int)) = true := decide_eq_true (by omega)
        go_wp2_with (first | (go_at_call 81; refine (l01Small_c _ _).mono ?_; rintro e w' ⟨rfl, rfl⟩) | (go_at_call 78; refine (l01Digit_c _ _).mono ?_; rintro e w' ⟨rfl, rfl⟩))
        go_returns
        exact RetQ.mk (vb (nameB_long (by omega)).symm)
    · by_cases hl : s.size ≤ 12
      · have hR := Lib.hid (nameB_step (s := s) hp hl hsm 0 (by omega))
        have hd : decide (12 < (s.size : Int)) = false := decide_eq_false (by omega)
        go_wp2_with (first | (go_at_call 81; refine (l01Small_c _ _).mono ?_; rintro e w' ⟨rfl, rfl⟩) | (go_at_call 78; refine (l01Digit_c _ _).mono ?_; rintro e w' ⟨rfl, rfl⟩))
        go_loop [3] (fun i => ∃ k : Nat, k ≤ s.size ∧ i = .int .i64 k ∧ Hid (nameB s = (s.data.toList.drop k).all okcB)) (fun i => s.size - (intOf i).toNat)
        case atStart => exact ⟨0, by omega, rfl, hR⟩
        case round =>
          clear hR hsm
          obtain ⟨k, hk, rfl, hR⟩ := hrel
          by_cases hlt : k < s.size
          · have hb := byte_at hlt
            have hR2 := Lib.hid (hR.out.trans (by rw [drop_at hb, List.all_cons] : _ = (okcB s[k] && (s.data.toList.drop (k + 1)).all okcB)))
            clear hR hb
            cases h1 : smallB s[k] <;> cases h2 : digB s[k] <;> cases h3 : ((s[k].toNat : Int) != 45)
            all_goals
              go_wp2_with (first | (go_at_call 81; refine (l01Small_c _ _).mono ?_; rintro e w' ⟨rfl, rfl⟩) | (go_at_call 78; refine (l01Digit_c _ _).mono ?_; rintro e w' ⟨rfl, rfl⟩))
              first
              | (go_returns
                 refine RetQ.mk (vb ?_)
                 rw [hR2.out, okcB, h1, h2]
                 rw [bne_iff_ne] at h3
                 rw [decide_eq_false (by omega)]; rfl)
              | (refine ⟨⟨k + 1, by omega, by go_num, Lib.hid (hR2.out.trans ?_)⟩, by simp [intOf]; omega⟩
                 have ho : okcB s[k] = true := by
                   rw [okcB, h1, h2]
                   try rw [bne_eq_false_iff_eq] at h3
                   simp
                   try omega
                 rw [ho]; rfl)
          · have hR2 := Lib.hid (hR.out.trans (by rw [List.drop_eq_nil_of_le (by rw [bytes_len]; omega)]; rfl : _ = true))
            clear hR
            go_wp2_with fail
            go_returns
            exact RetQ.mk (vb hR2.out.symm)
      · have hd : decide (12 < (s.size : Int)) = true := decide_eq_true (by omega)
        go_wp2_with (first | (go_at_call 81; refine (l01Small_c _ _).mono ?_; rintro e w' ⟨rfl, rfl⟩) | (go_at_call 78; refine (l01Digit_c _ _).mono ?_; rintro e w' ⟨rfl, rfl⟩))
        go_returns
        exact RetQ.mk (vb (nameB_long (by omega)).symm)
end Go.Proofs.YtapnllbbdfoaaaaGreatDoor
