/- The words and the stamp of an entry: the program's and the reference's functions. -/
import Derived.Test.YtihgjmhhpiobbaaGreatDoorEntA
import Derived.Test.YtihgjmhhpiobbaaGreatDoorDecI
namespace Go.Proofs.YtihgjmhhpiobbaaGreatDoor
open Go.RowKit

theorem decI_size (n : Int) : (decI n).size ≤ n.natAbs + 2 := by
  have h := nDigits_le n.natAbs
  unfold decI Lib.itoa
  rw [ByteArray.size_mk', List.size_toArray]
  split
  · simp [Lib.decDigits_length]; omega
  · rw [Lib.decDigits_length, show n.toNat = n.natAbs from by omega]; omega
def wordsB (x : Entry) : ByteArray := decI x.day ++ ⟨#[32]⟩ ++ x.what ++ ⟨#[32]⟩ ++ decI x.value
theorem entB_bd {x : Entry} (h : entB x = true) : 0 ≤ x.day ∧ x.day ≤ 100000 ∧ -1000000 ≤ x.value ∧ x.value ≤ 1000000 ∧ x.what.size ≤ 12 := by
  simp only [entB, Bool.and_eq_true, inB_iff] at h
  have h2 := h.1.2
  simp only [nameB, nameL, Bool.and_eq_true, decide_eq_true_eq, bytes_len] at h2
  omega
set_option maxRecDepth 100000 in
set_option maxHeartbeats 2000000 in
theorem l27Words_c (g : Addr) (x : Entry) (hx : entB x = true) (w : World) (c0 : w.cell? g = some (.int .i64 x.day)) (c1 : w.cell? ⟨g.block, g.off + 1, none⟩ = some (.string x.what)) (c2 : w.cell? ⟨g.block, g.off + 2, none⟩ = some (.int .i64 x.value)) :
    Calls Tryz.prog 133 #[.pointer (some g)] w (Ret (.string (wordsB x)) w) := by
  obtain ⟨d0, d1, v0, v1, ws⟩ := entB_bd hx
  have sa := decI_size x.day
  have sb := decI_size x.value
  have hadd1 := fun (w : World) => run_string_add_sum (P := Tryz.prog) w (decI x.day) ⟨#[32]⟩ (by rw [show (ByteArray.mk #[32]).size = 1 from rfl]; omega)
  have hadd2 := fun (w : World) => run_string_add_sum (P := Tryz.prog) w (decI x.day ++ ⟨#[32]⟩) x.what (by rw [ByteArray.size_append', show (ByteArray.mk #[32]).size = 1 from rfl]; omega)
  have hadd3 := fun (w : World) => run_string_add_sum (P := Tryz.prog) w (decI x.day ++ ⟨#[32]⟩ ++ x.what) ⟨#[32]⟩ (by rw [ByteArray.size_append', ByteArray.size_append', show (ByteArray.mk #[32]).size = 1 from rfl]; omega)
  have hadd4 := fun (w : World) => run_string_add_sum (P := Tryz.prog) w (decI x.day ++ ⟨#[32]⟩ ++ x.what ++ ⟨#[32]⟩) (decI x.value) (by rw [ByteArray.size_append', ByteArray.size_append', ByteArray.size_append', show (ByteArray.mk #[32]).size = 1 from rfl]; omega)
  clear sa sb ws
  clear hx
  have hv := Below.refl w.heap.size w
  go_enter Tryz.func133, Tryz.ntmps133
  go_wp2_with fail
  go_region_held3 (fun w' => Below w.heap.size w w' ∧ w'.cell? g = some (.int .i64 x.day) ∧ w'.cell? ⟨g.block, g.off + 1, none⟩ = some (.string x.what) ∧ w'.cell? ⟨g.block, g.off + 2, none⟩ = some (.int .i64 x.value))
    (first | exact ⟨hv.drew, c0, c1, c2⟩ | (go_split_ands; exact ⟨bl_trans (by assumption) hb, bl_cell hb (by assumption), bl_cell hb (by assumption), bl_cell hb (by assumption)⟩))
    (first | (go_at_call 61; refine (l01DecI_c _ (by omega) (by omega) _).mono ?_; rintro e W ⟨rfl, hb⟩))
  go_split_ands
  go_wp2_with fail
  go_returns
  exact Ret.mk (vs (by rw [wordsB])) (by assumption)

set_option maxRecDepth 100000 in
set_option maxHeartbeats 2000000 in
theorem words_c (x : Entry) (hx : entB x = true) (w : World) (hT : Pow10 w) :
    Calls Tryz.prog 137 #[.agg #[.int .i64 x.day, .string x.what, .int .i64 x.value]] w (Ret (.string (wordsB x)) w) := by
  obtain ⟨d0, d1, v0, v1, ws⟩ := entB_bd hx
  have sa := decI_size x.day
  have sb := decI_size x.value
  have hadd1 := fun (w : World) => run_string_add_sum (P := Tryz.prog) w (decI x.day) ⟨#[32]⟩ (by rw [show (ByteArray.mk #[32]).size = 1 from rfl]; omega)
  have hadd2 := fun (w : World) => run_string_add_sum (P := Tryz.prog) w (decI x.day ++ ⟨#[32]⟩) x.what (by rw [ByteArray.size_append', show (ByteArray.mk #[32]).size = 1 from rfl]; omega)
  have hadd3 := fun (w : World) => run_string_add_sum (P := Tryz.prog) w (decI x.day ++ ⟨#[32]⟩ ++ x.what) ⟨#[32]⟩ (by rw [ByteArray.size_append', ByteArray.size_append', show (ByteArray.mk #[32]).size = 1 from rfl]; omega)
  have hadd4 := fun (w : World) => run_string_add_sum (P := Tryz.prog) w (decI x.day ++ ⟨#[32]⟩ ++ x.what ++ ⟨#[32]⟩) (decI x.value) (by rw [ByteArray.size_append', ByteArray.size_append', ByteArray.size_append', show (ByteArray.mk #[32]).size = 1 from rfl]; omega)
  clear sa sb ws
  clear hx
  have HT := Lib.hid hT
  clear hT
  go_enter Tryz.func137, Tryz.ntmps137
  go_wp2_with fail
  obtain ⟨W0, hW0⟩ : ∃ W0, W0 = w.alloc (Obj.cells #[Value.int IntKind.i64 x.day, Value.string x.what, Value.int IntKind.i64 x.value] 158) := ⟨_, rfl⟩
  obtain ⟨g, hg⟩ : ∃ g, g = w.heap.size := ⟨_, rfl⟩
  have hv : Below w.heap.size w W0 := by rw [hW0]; exact bl_alloc (Below.refl _ _) _
  have hB0 : Blk W0 g 158 #[Value.int IntKind.i64 x.day, Value.string x.what, Value.int IntKind.i64 x.value] := by rw [hW0, hg]; exact Blk.new _ _ _
  rw [← hW0, ← hg]
  clear hW0 hg
  have c0 : W0.cell? ⟨g, 0, none⟩ = some (.int .i64 x.day) := hB0.cell 0
  have c1 : W0.cell? ⟨g, 1, none⟩ = some (.string x.what) := hB0.cell 1
  have c2 : W0.cell? ⟨g, 2, none⟩ = some (.int .i64 x.value) := hB0.cell 2
  go_region_held3 (fun w' => Below w.heap.size w w' ∧ w'.cell? ⟨g, 0, none⟩ = some (.int .i64 x.day) ∧ w'.cell? ⟨g, 1, none⟩ = some (.string x.what) ∧ w'.cell? ⟨g, 2, none⟩ = some (.int .i64 x.value))
    (first | exact ⟨hv.drew, c0, c1, c2⟩ | (go_split_ands; exact ⟨bl_trans (by assumption) hb, bl_cell hb (by assumption), bl_cell hb (by assumption), bl_cell hb (by assumption)⟩))
    (first | (go_at_call 37; go_split_ands; refine (DecimalI_c _ (by omega) (by omega) _ (HT.out.below (by assumption))).mono ?_; rintro e W ⟨rfl, hb⟩))
  go_split_ands
  go_wp2_with fail
  go_returns
  exact Ret.mk (vs (by rw [wordsB])) (by assumption)
/-! ### Stamps -/
def stampGo : List UInt8 → Int → Int
  | [], s => s
  | b :: r, s => stampGo r ((37 * s + (b.toNat : Int)) % 65519)
def stampV (before : Int) (s : ByteArray) : Int := stampGo s.data.toList ((before + 29) % 65519)
theorem stamp_step {s : ByteArray} {k : Nat} (h : k < s.size) (a : Int) : stampGo (s.data.toList.drop k) a = stampGo (s.data.toList.drop (k + 1)) ((37 * a + (s[k].toNat : Int)) % 65519) := by
  rw [drop_at (byte_at h)]; rfl
set_option maxRecDepth 100000 in
set_option maxHeartbeats 1600000 in
theorem l27Stamp_c (before : Int) (s : ByteArray) (h0 : 0 ≤ before) (h1 : before ≤ 65518) (hs : s.size ≤ 9223372036854775807) (w : World) :
    Calls Tryz.prog 132 #[.int .i64 before, .string s] w (RetQ (.int .i64 (stampV before s)) w) := by
  go_enter Tryz.func132, Tryz.ntmps132
  go_wp2_with fail
  go_loop [5, 6] (fun sm i => ∃ (k : Nat) (a : Int), k ≤ s.size ∧ i = .int .i64 k ∧ sm = .int .i64 a ∧ 0 ≤ a ∧ a < 65519 ∧ Hid (stampV before s = stampGo (s.data.toList.drop k) a)) (fun _ i => s.size - (intOf i).toNat)
  case atStart => exact ⟨0, (before + 29) % 65519, by omega, rfl, rfl, by omega, by omega, Lib.hid rfl⟩
  case round =>
    obtain ⟨k, a, hk, rfl, rfl, ha0, ha1, hR⟩ := hrel
    by_cases hlt : k < s.size
    · have hR2 := Lib.hid (hR.out.trans (stamp_step hlt a))
      have hb : (s[k].toNat : Int) ≤ 255 := by have := s[k].toNat_lt; omega
      clear hR
      go_wp2_with fail
      exact ⟨⟨k + 1, _, by omega, by go_num, rfl, by omega, by omega, hR2⟩, by simp [intOf]; omega⟩
    · have hR2 := Lib.hid (hR.out.trans (by rw [List.drop_eq_nil_of_le (by rw [bytes_len]; omega)]; rfl : _ = a))
      clear hR
      go_wp2_with fail
      go_returns
      exact RetQ.mk (vi hR2.out.symm)
set_option maxRecDepth 100000 in
set_option maxHeartbeats 1600000 in
theorem stampOf_c (before : Int) (x : Entry) (h0 : 0 ≤ before) (h1 : before ≤ 65518) (hx : entB x = true) (w : World) (hT : Pow10 w) :
    Calls Tryz.prog 114 #[.int .i64 before, .agg #[.int .i64 x.day, .string x.what, .int .i64 x.value]] w (Ret (.int .i64 (stampV before (wordsB x))) w) := by
  have hsz : (wordsB x).size ≤ 9223372036854775807 := by
    obtain ⟨d0, d1, v0, v1, ws⟩ := entB_bd hx
    have sa := decI_size x.day
    have sb := decI_size x.value
    unfold wordsB
    rw [ByteArray.size_append', ByteArray.size_append', ByteArray.size_append', ByteArray.size_append', show (ByteArray.mk #[32]).size = 1 from rfl]
    omega
  have HT := Lib.hid hT
  have hwd := fun w hT => words_c x hx w hT
  obtain ⟨s, hs⟩ : ∃ s, s = wordsB x := ⟨_, rfl⟩
  rw [← hs] at hwd hsz ⊢
  replace hwd := Lib.hid hwd
  clear hT hs hx
  go_enter Tryz.func114, Tryz.ntmps114
  go_wp2_with fail
  refine (hwd.out _ (HT.out.below (bl_alloc (Below.refl _ _) _))).mono ?_
  rintro e W ⟨rfl, hb⟩
  have hv : Below w.heap.size w W := bl_trans (bl_alloc (Below.refl _ _) _) hb
  go_wp2_with fail
  go_loop [5, 15] (fun sm i => ∃ (k : Nat) (a : Int), k ≤ s.size ∧ i = .int .i64 k ∧ sm = .int .i64 a ∧ 0 ≤ a ∧ a < 65519 ∧ Hid (stampV before s = stampGo (s.data.toList.drop k) a)) (fun _ i => s.size - (intOf i).toNat)
  case atStart => exact ⟨0, (before + 29) % 65519, by omega, rfl, rfl, by omega, by omega, Lib.hid rfl⟩
  case round =>
    obtain ⟨k, a, hk, rfl, rfl, ha0, ha1, hR⟩ := hrel
    by_cases hlt : k < s.size
    · have hR2 := Lib.hid (hR.out.trans (stamp_step hlt a))
      have hb : (s[k].toNat : Int) ≤ 255 := by have := s[k].toNat_lt; omega
      clear hR
      go_wp2_with fail
      exact ⟨⟨k + 1, _, by omega, by go_num, rfl, by omega, by omega, hR2⟩, by simp [intOf]; omega⟩
    · have hR2 := Lib.hid (hR.out.trans (by rw [List.drop_eq_nil_of_le (by rw [bytes_len]; omega)]; rfl : _ = a))
      clear hR
      go_wp2_with fail
      go_returns
      exact Ret.mk (vi hR2.out.symm) hv
end Go.Proofs.YtihgjmhhpiobbaaGreatDoor
