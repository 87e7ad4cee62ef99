/- Drawn materials, a thickness and a stiffness. -/
import Derived.Test.YtefkfkdpfecnoaaDrwB
namespace Go.Proofs.Ytefkfkdpfecnoaa
open Go.RowKit

def OutSearch (w : World) (e : Ending) (w' : World) : Prop := ∃ (A : Option Addr) (xs : List Stuff) (n c : Nat) (T S : Int), e = .returned (.tuple #[.slice A n c, .int .i64 T, .int .i64 S]) ∧ xs.length = n ∧ n ≤ 13 ∧ (∀ x ∈ xs, x.name.size ≤ 100) ∧ w'.ownsRow w.heap.size 76 5 (.slice A n c) n (flat Stuff.cells xs) ∧ Below w.heap.size w w'
set_option maxRecDepth 100000 in
set_option maxHeartbeats 2000000 in
theorem l17Search_c (C : Option Addr) (nn cc : Nat) (cs : List UInt8) (hnn : Hid (cs.length = nn)) (hnb : nn ≤ 1048576) (w : World) (hA : Arr w C (cs.map bvS)) (hlt : ∀ ad, C = some ad → ad.block < w.heap.size) : Calls Try.prog 27 #[.slice C nn cc] w (OutSearch w) := by
  have HL0 := Lib.hid hlt
  have HA0 := Lib.hid hA
  clear hlt hA
  go_enter Try.func27, Try.ntmps27
  go_wp2_with fail
  refine (l00From_c C nn cc cs hnn hnb w HA0.out HL0.out).mono ?_
  rintro e W0 ⟨rfl, hS0, hb0⟩
  have hl0 := hS0.lt
  have HS0 := Lib.hid hS0
  have HB0 := Lib.hid hb0
  clear hS0 hb0 HL0 HA0
  go_wp2_with fail
  refine (l17Bent_c w.heap.size 0 (by omega) _ HS0.out).mono ?_
  rintro e W1 ⟨A, xs, n, c, rfl, hxl, hn5, hxs, hown, hS1, hg1⟩
  have HXL := Lib.hid hxl
  have HXS := Lib.hid hxs
  have HO1 := Lib.hid (own_base hown (base' := w.heap.size + 1) (by omega))
  have HS1 := Lib.hid hS1
  have HB1 := Lib.hid (bl_grown HB0.out hg1 (fun k e => by injection e with e; omega))
  have hz1 := hg1.size
  clear hxl hxs hown hS1 hg1
  go_wp2_with fail
  refine (pick_c w.heap.size 200 30 (by omega) (by omega) _ HS1.out).mono ?_
  rintro e W2 ⟨r2, rfl, r20, r21, hS2, hg2⟩
  have HO2 := Lib.hid (HO1.out.kept hg2 (.inr (fun e => by have := own_at HO1.out w.heap.size e; omega)))
  have HS2 := Lib.hid hS2
  have HB2 := Lib.hid (bl_grown HB1.out hg2 (fun k e => by injection e with e; omega))
  have hz2 := Nat.le_trans hz1 hg2.size
  clear hS2 hg2
  go_wp2_with fail
  refine (pick_c w.heap.size 202 12 (by omega) (by omega) _ HS2.out).mono ?_
  rintro e W3 ⟨r3, rfl, r30, r31, hS3, hg3⟩
  have HO3 := Lib.hid (HO2.out.kept hg3 (.inr (fun e => by have := own_at HO2.out w.heap.size e; omega)))
  have HS3 := Lib.hid hS3
  have HB3 := Lib.hid (bl_grown HB2.out hg3 (fun k e => by injection e with e; omega))
  have hz3 := Nat.le_trans hz2 hg3.size
  clear hS3 hg3
  by_cases h0 : r3 = 0
  · subst h0
    go_wp2_with fail
    have hA := arr_new W3 2 #[.int .i64 (-1), .int .i64 0, .int .i64 1, .int .i64 1200, .int .i64 1201]
    refine (among_c w.heap.size 204 _ [-1, 0, 1, 1200, 1201] 5 5 (Lib.hid rfl) (by omega) (by omega) (by omega) _ (HS3.out.below (bl_alloc (Below.refl _ _) _)) hA (fun ad e => by injection e with e; subst e; simp only; omega)).mono ?_
    rintro e W4 ⟨v, hv, rfl, hS4, hg4⟩
    have HO4 := Lib.hid ((HO3.out.alloc (.cells #[.int .i64 (-1), .int .i64 0, .int .i64 1, .int .i64 1200, .int .i64 1201] 2)).kept hg4 (.inr (fun e => by have := own_at HO3.out w.heap.size e; omega)))
    have HS4 := Lib.hid hS4
    have HB4 := Lib.hid (bl_grown (bl_alloc HB3.out _) hg4 (fun k e => by injection e with e; omega))
    clear hS4 hg4 hA hv
    go_wp2_with fail
    refine (pick_c w.heap.size 206 250 (by omega) (by omega) _ HS4.out).mono ?_
    rintro e W9 ⟨r9, rfl, r90, r91, hS9, hg9⟩
    go_wp2_with fail
    go_returns
    exact ⟨A, xs, n, c, _, _, rfl, HXL.out, hn5, HXS.out, own_base (HO4.out.kept hg9 (.inr (fun e => by have := own_at HO4.out w.heap.size e; omega))) (by omega), bl_grown HB4.out hg9 (fun k e => by injection e with e; omega)⟩
  by_cases h1 : r3 = 1
  · subst h1
    go_wp2_with fail
    have hA := arr_new W3 2 #[.int .i64 (-1), .int .i64 0, .int .i64 6000, .int .i64 6001]
    refine (among_c w.heap.size 204 _ [-1, 0, 6000, 6001] 4 4 (Lib.hid rfl) (by omega) (by omega) (by omega) _ (HS3.out.below (bl_alloc (Below.refl _ _) _)) hA (fun ad e => by injection e with e; subst e; simp only; omega)).mono ?_
    rintro e W4 ⟨v, hv, rfl, hS4, hg4⟩
    have HO4 := Lib.hid ((HO3.out.alloc (.cells #[.int .i64 (-1), .int .i64 0, .int .i64 6000, .int .i64 6001] 2)).kept hg4 (.inr (fun e => by have := own_at HO3.out w.heap.size e; omega)))
    have HB4 := Lib.hid (bl_grown (bl_alloc HB3.out _) hg4 (fun k e => by injection e with e; omega))
    clear hS4 hg4 hA hv
    go_wp2_with fail
    go_returns
    exact ⟨A, xs, n, c, _, _, rfl, HXL.out, hn5, HXS.out, own_base HO4.out (by omega), HB4.out⟩
  · obtain ⟨HO4, HS4, HB4⟩ := And.intro HO3 (And.intro HS3 HB3)
    go_wp2_with fail
    refine (pick_c w.heap.size 204 250 (by omega) (by omega) _ HS4.out).mono ?_
    rintro e W9 ⟨r9, rfl, r90, r91, hS9, hg9⟩
    go_wp2_with fail
    go_returns
    exact ⟨A, xs, n, c, _, _, rfl, HXL.out, hn5, HXS.out, own_base (HO4.out.kept hg9 (.inr (fun e => by have := own_at HO4.out w.heap.size e; omega))) (by omega), bl_grown HB4.out hg9 (fun k e => by injection e with e; omega)⟩
set_option maxHeartbeats 2000000 in
theorem DrawBestSole_c (C : Option Addr) (nn cc : Nat) (cs : List UInt8) (hnn : Hid (cs.length = nn)) (hnb : nn ≤ 1048576) (w : World) (hA : Arr w C (cs.map bvS)) (hlt : ∀ ad, C = some ad → ad.block < w.heap.size) : Calls Try.prog 6 #[.slice C nn cc] w (OutSearch w) := by
  have HL0 := Lib.hid hlt
  have HA0 := Lib.hid hA
  clear hlt hA
  go_enter Try.func6, Try.ntmps6
  go_wp2_with fail
  refine (l17Search_c C nn cc cs hnn hnb w HA0.out HL0.out).mono ?_
  rintro e W0 ⟨A, xs, n, c, T, S, rfl, h⟩
  go_wp2_with fail
  go_returns
  exact ⟨A, xs, n, c, T, S, rfl, h⟩
end Go.Proofs.Ytefkfkdpfecnoaa
