
/- Drawn clauses; the drawn inputs of the laws on styles. -/
import Derived.Test.YtihgjmhhpiobbaaGreatDoorDrwY
import Derived.Test.YtihgjmhhpiobbaaGreatDoorStyX
import Derived.Test.YtihgjmhhpiobbaaGreatDoorDecI
namespace Go.Proofs.YtihgjmhhpiobbaaGreatDoor
open Go.RowKit

def OutCw (g q : Nat) (w : World) (e : Ending) (w' : World) : Prop := ∃ s : ByteArray, e = .returned (.string s) ∧ s.size ≤ 1000 ∧ Src w' g (q + 20) ∧ w.grownBy w' (some g)
set_option maxRecDepth 100000 in
set_option maxHeartbeats 8000000 in
theorem l24Clause_c (g q : Nat) (hq : q ≤ 600000000000) (w : World) (hS : Src w g q) : Calls Tryz.prog 79 #[.pointer (some ⟨g, 0, none⟩)] w (OutCw g q w) := by
  have HS := Lib.hid hS
  have hgw := hS.lt
  have HG := Lib.hid (World.grownBy.refl w (some g))
  have HW := Lib.hid (Nat.le_refl w.heap.size)
  clear hS
  go_enter Tryz.func79, Tryz.ntmps79
  go_wp2_with fail

  refine (pick_c g _ 90 (by omega) (by omega) _ HS.out).mono ?_
  rintro e W1 ⟨r, rfl, r0, r1, hS, hg⟩
  replace HS := Lib.hid hS
  replace HG := Lib.hid (grown_trans HG.out hg)
  replace HW := Lib.hid (Nat.le_trans HW.out hg.size)
  clear hS hg
  have HDC := Lib.hid (fun w => l01DecI_c r (by omega) (by omega) w)
  have hnz := dec21 (v := r) (by omega) (by omega)
  obtain ⟨n, hn⟩ : ∃ z, z = decI r := ⟨_, rfl⟩
  rw [← hn] at HDC hnz
  clear hn
  go_wp2_with fail
  refine (HDC.out _).mono ?_
  rintro e W2 ⟨rfl, hb⟩
  replace HS := Lib.hid (HS.out.below hb)
  replace HG := Lib.hid (grown_below HG.out hb)
  replace HW := Lib.hid (Nat.le_trans HW.out (hb).size)
  clear hb HDC
  go_wp2_with fail
  refine (pick_c g _ 9 (by omega) (by omega) _ HS.out).mono ?_
  rintro e W3 ⟨k, rfl, k0, k1, hS, hg⟩
  replace HS := Lib.hid hS
  replace HG := Lib.hid (grown_trans HG.out hg)
  replace HW := Lib.hid (Nat.le_trans HW.out hg.size)
  clear hS hg
  go_upto_block 0 with fail
  by_cases h0 : k = 0
  case pos =>
    subst h0
    have l0 : (⟨#[117, 112, 112, 101, 114, 32]⟩ : ByteArray).size = 6 := rfl
    go_wp2_with fail
    have hA := arr_new W3 9 #[.string ⟨#[99, 97, 108, 102, 32, 98, 108, 97, 99, 107]⟩, .string ⟨#[99, 97, 108, 102]⟩, .string ⟨#[107, 105, 100, 32, 116, 97, 110, 32, 120]⟩, .string ⟨#[75, 105, 100, 32, 116, 97, 110]⟩, .string ⟨#[115, 117, 101, 100, 101, 45, 50, 32, 114, 101, 100]⟩]
    have hgA := HS.out.lt
    replace HS := Lib.hid (HS.out.below (bl_alloc (Below.refl _ _) (.cells #[.string ⟨#[99, 97, 108, 102, 32, 98, 108, 97, 99, 107]⟩, .string ⟨#[99, 97, 108, 102]⟩, .string ⟨#[107, 105, 100, 32, 116, 97, 110, 32, 120]⟩, .string ⟨#[75, 105, 100, 32, 116, 97, 110]⟩, .string ⟨#[115, 117, 101, 100, 101, 45, 50, 32, 114, 101, 100]⟩] 9)))
    replace HG := Lib.hid (grown_alloc HG.out (.cells #[.string ⟨#[99, 97, 108, 102, 32, 98, 108, 97, 99, 107]⟩, .string ⟨#[99, 97, 108, 102]⟩, .string ⟨#[107, 105, 100, 32, 116, 97, 110, 32, 120]⟩, .string ⟨#[75, 105, 100, 32, 116, 97, 110]⟩, .string ⟨#[115, 117, 101, 100, 101, 45, 50, 32, 114, 101, 100]⟩] 9))
    replace HW := Lib.hid (show w.heap.size ≤ (World.alloc W3 (.cells #[.string ⟨#[99, 97, 108, 102, 32, 98, 108, 97, 99, 107]⟩, .string ⟨#[99, 97, 108, 102]⟩, .string ⟨#[107, 105, 100, 32, 116, 97, 110, 32, 120]⟩, .string ⟨#[75, 105, 100, 32, 116, 97, 110]⟩, .string ⟨#[115, 117, 101, 100, 101, 45, 50, 32, 114, 101, 100]⟩] 9)).heap.size by have := HW.out; rw [World.size_alloc]; omega)
    refine (text_c g _ _ [⟨#[99, 97, 108, 102, 32, 98, 108, 97, 99, 107]⟩, ⟨#[99, 97, 108, 102]⟩, ⟨#[107, 105, 100, 32, 116, 97, 110, 32, 120]⟩, ⟨#[75, 105, 100, 32, 116, 97, 110]⟩, ⟨#[115, 117, 101, 100, 101, 45, 50, 32, 114, 101, 100]⟩] 5 5 (Lib.hid rfl) (by omega) (by omega) (by omega) _ HS.out hA (fun ad e => by injection e with e; subst e; simp only; omega)).mono ?_
    rintro e W4 ⟨t, hv, rfl, hS, hg⟩
    replace HS := Lib.hid hS
    replace HG := Lib.hid (grown_trans HG.out hg)
    replace HW := Lib.hid (Nat.le_trans HW.out hg.size)
    clear hS hg
    have HV_t := Lib.hid hv
    clear hA hv hgA
    have ht : t.size ≤ 100 := by
      have hv := HV_t.out
      simp only [List.mem_cons, List.not_mem_nil, or_false] at hv
      rcases hv with rfl | rfl | rfl | rfl | rfl <;> decide
    clear HV_t
    have a0 := fun (w : World) => run_string_add_sum (P := Tryz.prog) w (⟨#[117, 112, 112, 101, 114, 32]⟩ : ByteArray) t (by omega)
    go_wp2_with fail
    go_returns
    exact ⟨_, rfl, by rw [app_size]; omega, HS.out.more (by omega), HG.out⟩
  by_cases h1 : k = 1
  case pos =>
    subst h1
    have l0 : (⟨#[108, 105, 110, 105, 110, 103, 32]⟩ : ByteArray).size = 7 := rfl
    go_wp2_with fail
    have hA := arr_new W3 9 #[.string ⟨#[102, 101, 108, 116]⟩, .string ⟨#[]⟩, .string ⟨#[70, 101, 108, 116]⟩, .string ⟨#[112, 105, 103, 32, 112, 105, 103]⟩]
    have hgA := HS.out.lt
    replace HS := Lib.hid (HS.out.below (bl_alloc (Below.refl _ _) (.cells #[.string ⟨#[102, 101, 108, 116]⟩, .string ⟨#[]⟩, .string ⟨#[70, 101, 108, 116]⟩, .string ⟨#[112, 105, 103, 32, 112, 105, 103]⟩] 9)))
    replace HG := Lib.hid (grown_alloc HG.out (.cells #[.string ⟨#[102, 101, 108, 116]⟩, .string ⟨#[]⟩, .string ⟨#[70, 101, 108, 116]⟩, .string ⟨#[112, 105, 103, 32, 112, 105, 103]⟩] 9))
    replace HW := Lib.hid (show w.heap.size ≤ (World.alloc W3 (.cells #[.string ⟨#[102, 101, 108, 116]⟩, .string ⟨#[]⟩, .string ⟨#[70, 101, 108, 116]⟩, .string ⟨#[112, 105, 103, 32, 112, 105, 103]⟩] 9)).heap.size by have := HW.out; rw [World.size_alloc]; omega)
    refine (text_c g _ _ [⟨#[102, 101, 108, 116]⟩, ⟨#[]⟩, ⟨#[70, 101, 108, 116]⟩, ⟨#[112, 105, 103, 32, 112, 105, 103]⟩] 4 4 (Lib.hid rfl) (by omega) (by omega) (by omega) _ HS.out hA (fun ad e => by injection e with e; subst e; simp only; omega)).mono ?_
    rintro e W4 ⟨t, hv, rfl, hS, hg⟩
    replace HS := Lib.hid hS
    replace HG := Lib.hid (grown_trans HG.out hg)
    replace HW := Lib.hid (Nat.le_trans HW.out hg.size)
    clear hS hg
    have HV_t := Lib.hid hv
    clear hA hv hgA
    have ht : t.size ≤ 100 := by
      have hv := HV_t.out
      simp only [List.mem_cons, List.not_mem_nil, or_false] at hv
      rcases hv with rfl | rfl | rfl | rfl <;> decide
    clear HV_t
    have a0 := fun (w : World) => run_string_add_sum (P := Tryz.prog) w (⟨#[108, 105, 110, 105, 110, 103, 32]⟩ : ByteArray) t (by omega)
    go_wp2_with fail
    go_returns
    exact ⟨_, rfl, by rw [app_size]; omega, HS.out.more (by omega), HG.out⟩
  by_cases h2 : k = 2
  case pos =>
    subst h2
    have l0 : (⟨#[115, 111, 108, 101, 32, 114, 117, 98, 98, 101, 114, 32]⟩ : ByteArray).size = 12 := rfl
    have a0 := fun (w : World) => run_string_add_sum (P := Tryz.prog) w (⟨#[115, 111, 108, 101, 32, 114, 117, 98, 98, 101, 114, 32]⟩ : ByteArray) n (by omega)
    go_wp2_with fail
    go_returns
    exact ⟨_, rfl, by rw [app_size]; omega, HS.out.more (by omega), HG.out⟩
  by_cases h3 : k = 3
  case pos =>
    subst h3
    have l0 : (⟨#[104, 101, 101, 108, 32]⟩ : ByteArray).size = 5 := rfl
    have a0 := fun (w : World) => run_string_add_sum (P := Tryz.prog) w (⟨#[104, 101, 101, 108, 32]⟩ : ByteArray) n (by omega)
    go_wp2_with fail
    go_returns
    exact ⟨_, rfl, by rw [app_size]; omega, HS.out.more (by omega), HG.out⟩
  by_cases h4 : k = 4
  case pos =>
    subst h4
    have l0 : (⟨#[101, 121, 101, 108, 101, 116, 115, 32]⟩ : ByteArray).size = 8 := rfl
    have a0 := fun (w : World) => run_string_add_sum (P := Tryz.prog) w (⟨#[101, 121, 101, 108, 101, 116, 115, 32]⟩ : ByteArray) n (by omega)
    go_wp2_with fail
    go_returns
    exact ⟨_, rfl, by rw [app_size]; omega, HS.out.more (by omega), HG.out⟩
  by_cases h5 : k = 5
  case pos =>
    subst h5
    have l0 : (⟨#[115, 116, 105, 116, 99, 104, 32]⟩ : ByteArray).size = 7 := rfl
    have a0 := fun (w : World) => run_string_add_sum (P := Tryz.prog) w (⟨#[115, 116, 105, 116, 99, 104, 32]⟩ : ByteArray) n (by omega)
    go_wp2_with fail
    go_returns
    exact ⟨_, rfl, by rw [app_size]; omega, HS.out.more (by omega), HG.out⟩
  by_cases h6 : k = 6
  case pos =>
    subst h6
    have l0 : (⟨#[115, 116, 105, 116, 99, 104, 32]⟩ : ByteArray).size = 7 := rfl
    have a0 := fun (w : World) => run_string_add_sum (P := Tryz.prog) w (⟨#[115, 116, 105, 116, 99, 104, 32]⟩ : ByteArray) n (by omega)
    go_wp2_with fail
    have hA := arr_new W3 9 #[.string ⟨#[32, 100, 111, 117, 98, 108, 101]⟩, .string ⟨#[32, 115, 105, 110, 103, 108, 101]⟩, .string ⟨#[32, 100, 111, 117, 98, 108, 101, 32, 120]⟩]
    have hgA := HS.out.lt
    replace HS := Lib.hid (HS.out.below (bl_alloc (Below.refl _ _) (.cells #[.string ⟨#[32, 100, 111, 117, 98, 108, 101]⟩, .string ⟨#[32, 115, 105, 110, 103, 108, 101]⟩, .string ⟨#[32, 100, 111, 117, 98, 108, 101, 32, 120]⟩] 9)))
    replace HG := Lib.hid (grown_alloc HG.out (.cells #[.string ⟨#[32, 100, 111, 117, 98, 108, 101]⟩, .string ⟨#[32, 115, 105, 110, 103, 108, 101]⟩, .string ⟨#[32, 100, 111, 117, 98, 108, 101, 32, 120]⟩] 9))
    replace HW := Lib.hid (show w.heap.size ≤ (World.alloc W3 (.cells #[.string ⟨#[32, 100, 111, 117, 98, 108, 101]⟩, .string ⟨#[32, 115, 105, 110, 103, 108, 101]⟩, .string ⟨#[32, 100, 111, 117, 98, 108, 101, 32, 120]⟩] 9)).heap.size by have := HW.out; rw [World.size_alloc]; omega)
    refine (text_c g _ _ [⟨#[32, 100, 111, 117, 98, 108, 101]⟩, ⟨#[32, 115, 105, 110, 103, 108, 101]⟩, ⟨#[32, 100, 111, 117, 98, 108, 101, 32, 120]⟩] 3 3 (Lib.hid rfl) (by omega) (by omega) (by omega) _ HS.out hA (fun ad e => by injection e with e; subst e; simp only; omega)).mono ?_
    rintro e W4 ⟨t, hv, rfl, hS, hg⟩
    replace HS := Lib.hid hS
    replace HG := Lib.hid (grown_trans HG.out hg)
    replace HW := Lib.hid (Nat.le_trans HW.out hg.size)
    clear hS hg
    have HV_t := Lib.hid hv
    clear hA hv hgA
    have ht : t.size ≤ 100 := by
      have hv := HV_t.out
      simp only [List.mem_cons, List.not_mem_nil, or_false] at hv
      rcases hv with rfl | rfl | rfl <;> decide
    clear HV_t
    have a1 := fun (w : World) => run_string_add_sum (P := Tryz.prog) w ((⟨#[115, 116, 105, 116, 99, 104, 32]⟩ : ByteArray) ++ n) t (by rw [app_size]; omega)
    go_wp2_with fail
    go_returns
    exact ⟨_, rfl, by rw [app_size, app_size]; omega, HS.out.more (by omega), HG.out⟩
  by_cases h7 : k = 7
  case pos =>
    subst h7
    go_wp2_with fail
    go_returns
    exact ⟨_, rfl, by decide, HS.out.more (by omega), HG.out⟩
  go_wp2_with fail
  have hA := arr_new W3 9 #[.string ⟨#[]⟩, .string ⟨#[32]⟩, .string ⟨#[104, 101, 97, 108, 32, 53]⟩, .string ⟨#[115, 111, 108, 101, 32, 99, 111, 114, 107, 32, 51, 48, 48]⟩, .string ⟨#[104, 101, 101, 108, 32, 49, 50, 48, 48]⟩, .string ⟨#[115, 111, 108, 101, 32, 99, 111, 114, 107, 32, 120]⟩, .string ⟨#[115, 116, 105, 116, 99, 104, 32, 56, 48, 32, 100, 111, 117, 98, 108, 101]⟩]
  have hgA := HS.out.lt
  replace HS := Lib.hid (HS.out.below (bl_alloc (Below.refl _ _) (.cells #[.string ⟨#[]⟩, .string ⟨#[32]⟩, .string ⟨#[104, 101, 97, 108, 32, 53]⟩, .string ⟨#[115, 111, 108, 101, 32, 99, 111, 114, 107, 32, 51, 48, 48]⟩, .string ⟨#[104, 101, 101, 108, 32, 49, 50, 48, 48]⟩, .string ⟨#[115, 111, 108, 101, 32, 99, 111, 114, 107, 32, 120]⟩, .string ⟨#[115, 116, 105, 116, 99, 104, 32, 56, 48, 32, 100, 111, 117, 98, 108, 101]⟩] 9)))
  replace HG := Lib.hid (grown_alloc HG.out (.cells #[.string ⟨#[]⟩, .string ⟨#[32]⟩, .string ⟨#[104, 101, 97, 108, 32, 53]⟩, .string ⟨#[115, 111, 108, 101, 32, 99, 111, 114, 107, 32, 51, 48, 48]⟩, .string ⟨#[104, 101, 101, 108, 32, 49, 50, 48, 48]⟩, .string ⟨#[115, 111, 108, 101, 32, 99, 111, 114, 107, 32, 120]⟩, .string ⟨#[115, 116, 105, 116, 99, 104, 32, 56, 48, 32, 100, 111, 117, 98, 108, 101]⟩] 9))
  replace HW := Lib.hid (show w.heap.size ≤ (World.alloc W3 (.cells #[.string ⟨#[]⟩, .string ⟨#[32]⟩, .string ⟨#[104, 101, 97, 108, 32, 53]⟩, .string ⟨#[115, 111, 108, 101, 32, 99, 111, 114, 107, 32, 51, 48, 48]⟩, .string ⟨#[104, 101, 101, 108, 32, 49, 50, 48, 48]⟩, .string ⟨#[115, 111, 108, 101, 32, 99, 111, 114, 107, 32, 120]⟩, .string ⟨#[115, 116, 105, 116, 99, 104, 32, 56, 48, 32, 100, 111, 117, 98, 108, 101]⟩] 9)).heap.size by have := HW.out; rw [World.size_alloc]; omega)
  refine (text_c g _ _ [⟨#[]⟩, ⟨#[32]⟩, ⟨#[104, 101, 97, 108, 32, 53]⟩, ⟨#[115, 111, 108, 101, 32, 99, 111, 114, 107, 32, 51, 48, 48]⟩, ⟨#[104, 101, 101, 108, 32, 49, 50, 48, 48]⟩, ⟨#[115, 111, 108, 101, 32, 99, 111, 114, 107, 32, 120]⟩, ⟨#[115, 116, 105, 116, 99, 104, 32, 56, 48, 32, 100, 111, 117, 98, 108, 101]⟩] 7 7 (Lib.hid rfl) (by omega) (by omega) (by omega) _ HS.out hA (fun ad e => by injection e with e; subst e; simp only; omega)).mono ?_
  rintro e W4 ⟨t, hv, rfl, hS, hg⟩
  replace HS := Lib.hid hS
  replace HG := Lib.hid (grown_trans HG.out hg)
  replace HW := Lib.hid (Nat.le_trans HW.out hg.size)
  clear hS hg
  have HV_t := Lib.hid hv
  clear hA hv hgA
  have ht : t.size ≤ 100 := by
    have hv := HV_t.out
    simp only [List.mem_cons, List.not_mem_nil, or_false] at hv
    rcases hv with rfl | rfl | rfl | rfl | rfl | rfl | rfl <;> decide
  clear HV_t
  go_wp2_with fail
  go_returns
  exact ⟨_, rfl, by omega, HS.out.more (by omega), HG.out⟩
def OutXs (w : World) (e : Ending) (w' : World) : Prop := ∃ x : Style, e = .returned (.agg #[Value.string x.upper, Value.string x.color, Value.string x.lining, Value.string x.sole, Value.int IntKind.i64 x.thick, Value.int IntKind.i64 x.heel, Value.int IntKind.i64 x.eyelets, Value.int IntKind.i64 x.density, Value.bool x.double]) ∧ styB x = true ∧ x.small ∧ Below w.heap.size w w'
def OutXc (w : World) (e : Ending) (w' : World) : Prop := ∃ s : ByteArray, e = .returned (.string s) ∧ s.size ≤ 1000 ∧ Below w.heap.size w w'
set_option maxHeartbeats 2000000 in
theorem A2Style_c (C : Option Addr) (nn cc : Nat) (cs : List UInt8) (hnn : Hid (cs.length = nn)) (hnb : nn ≤ 1048576) (w : World) (hA : Arr w C (cs.map bvS)) (hlt : ∀ ad, C = some ad → ad.block < w.heap.size) : Calls Tryz.prog 14 #[.slice C nn cc] w (OutXs w) := by
  have HL0 := Lib.hid hlt
  have HA0 := Lib.hid hA
  clear hlt hA
  go_enter Tryz.func14, Tryz.ntmps14
  go_wp2_with fail
  obtain ⟨W0, hW0⟩ : ∃ z, z = w.alloc (Obj.cells #[Value.string ⟨#[]⟩, Value.string ⟨#[]⟩, Value.string ⟨#[]⟩, Value.string ⟨#[]⟩, Value.int IntKind.i64 0, Value.int IntKind.i64 0, Value.int IntKind.i64 0, Value.int IntKind.i64 0, Value.bool false] 33) := ⟨_, rfl⟩
  obtain ⟨gz, hgz⟩ : ∃ z, z = w.heap.size := ⟨_, rfl⟩
  have HZ : Hid (Blk W0 gz 33 #[Value.string ⟨#[]⟩, Value.string ⟨#[]⟩, Value.string ⟨#[]⟩, Value.string ⟨#[]⟩, Value.int IntKind.i64 0, Value.int IntKind.i64 0, Value.int IntKind.i64 0, Value.int IntKind.i64 0, Value.bool false]) := Lib.hid (by rw [hW0, hgz]; exact Blk.new _ _ _)
  have hb0 : Below w.heap.size w W0 := by rw [hW0]; exact bl_alloc (Below.refl _ _) _
  have hgz1 : gz < W0.heap.size := HZ.out.lt
  have hgz0 : w.heap.size ≤ gz := by omega
  rw [← hW0, ← hgz]
  clear hW0 hgz
  refine (l00From_c C nn cc cs hnn hnb W0 (HA0.out.below hb0) (fun ad e => Nat.lt_of_lt_of_le (HL0.out ad e) hb0.size)).mono ?_
  rintro e W1 ⟨rfl, hS1, hb1⟩
  have HB1 := Lib.hid (bl_trans hb0 hb1)
  replace HZ := Lib.hid (HZ.out.below hb1)
  have hz0 := hb0.size
  clear hb1 hb0
  go_wp2_with fail
  refine (l24Draw_c W0.heap.size 0 (by omega) _ hS1).mono ?_
  rintro e W2 ⟨x, rfl, h1, h2, hS2, hg⟩
  have HB2 := Lib.hid (bl_grown HB1.out hg (fun k e => by injection e with e; omega))
  replace HZ := Lib.hid (HZ.out.grown hg (by intro e; injection e; omega))
  clear hS1 hS2 hg HB1
  go_wp2_with (refine wpList_store_row rfl 33 _ _ rfl gz #[Value.string x.upper, Value.string x.color, Value.string x.lining, Value.string x.sole, Value.int IntKind.i64 x.thick, Value.int IntKind.i64 x.heel, Value.int IntKind.i64 x.eyelets, Value.int IntKind.i64 x.density, Value.bool x.double] rfl rfl 33 #[Value.string ⟨#[]⟩, Value.string ⟨#[]⟩, Value.string ⟨#[]⟩, Value.string ⟨#[]⟩, Value.int IntKind.i64 0, Value.int IntKind.i64 0, Value.int IntKind.i64 0, Value.int IntKind.i64 0, Value.bool false] HZ.out (by kernel_rfl) rfl (by simp [Value.oneCell']) ?_)
  try simp only [Exit.inBlock, Exit.then]
  refine bodyPost_ret (results_cell_row (P := Tryz.prog) rfl _ _ gz 33 #[Value.string x.upper, Value.string x.color, Value.string x.lining, Value.string x.sole, Value.int IntKind.i64 x.thick, Value.int IntKind.i64 x.heel, Value.int IntKind.i64 x.eyelets, Value.int IntKind.i64 x.density, Value.bool x.double] (0, 0) _ rfl ?_ Tryz.underlying33 rfl (by kernel_rfl)) rfl ?_
  · exact setRow_heap _ _ _ _ _ _ HZ.out
  · exact ⟨x, rfl, h1, h2, below_rowX HB2.out hgz0 _⟩
end Go.Proofs.YtihgjmhhpiobbaaGreatDoor
