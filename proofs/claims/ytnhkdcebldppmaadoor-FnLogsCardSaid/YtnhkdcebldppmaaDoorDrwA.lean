/- What the laws on logs share: the bound, the sum, the drawn entries. builds. -/
import Derived.Test.YtnhkdcebldppmaaDoorDrwK
namespace Go.Proofs.YtnhkdcebldppmaaDoor
open Go.RowKit

theorem a2Long_c (C : Option Addr) (n c : Nat) (w : World) : Calls Tryd.prog 23 #[.slice C n c, .slice none 0 0] w (Ret (.bool (decide (3000 < n))) w) := by
  go_enter Tryd.func23, Tryd.ntmps23
  by_cases h : 3000 < n
  · have h1 : (3000 : Int) < (n : Int) := by omega
    go_wp2_with fail
    go_returns
    exact Ret.mk (vb (by simp [h])) (Below.refl _ _)
  · have h1 : ¬ (3000 : Int) < (n : Int) := by omega
    go_wp2_with fail
    go_returns
    exact Ret.mk (vb (by simp)) (Below.refl _ _)
def OutA2 (w : World) (e : Ending) (w' : World) : Prop := ∃ (A : Option Addr) (xs : List Entry) (n c : Nat), e = .returned (.slice A n c) ∧ xs.length = n ∧ n ≤ 7 ∧ (∀ x ∈ xs, entB x = true) ∧ upB xs = true ∧ w'.ownsRow w.heap.size 54 3 (.slice A n c) n (flat Entry.cells xs) ∧ Below w.heap.size w w'
set_option maxHeartbeats 2000000 in
theorem A2Entries_c (C : Option Addr) (nn cc : Nat) (cs : List UInt8) (hnn : Hid (cs.length = nn)) (hnb : nn ≤ 1048576) (w : World) (hA : Arr w C (cs.map bvS)) (hlt : ∀ ad, C = some ad → ad.block < w.heap.size) : Calls Tryd.prog 24 #[.slice C nn cc] w (OutA2 w) := by
  have HL0 := Lib.hid hlt
  have HA0 := Lib.hid hA
  clear hlt hA
  go_enter Tryd.func24, Tryd.ntmps24
  go_wp2_with fail
  refine (l00From_c C nn cc cs hnn hnb w HA0.out HL0.out).mono ?_
  rintro e W1 ⟨rfl, hS1, hb1⟩
  have HB1 := Lib.hid hb1
  have hz1 := hb1.size
  go_wp2_with fail
  refine (l27Entries_c w.heap.size 0 (by omega) _ hS1).mono ?_
  rintro e W2 ⟨A, xs, n, c, rfl, h1, h2, h3, h4, hown, hS2, hg⟩
  have hB2 := bl_grown HB1.out hg (fun k e => by injection e with e; omega)
  have hown2 := own_base hown hz1
  clear hS1 hb1 hown hS2 hg
  go_wp2_with fail
  go_returns
  exact ⟨A, xs, n, c, rfl, h1, h2, h3, h4, hown2, hB2⟩
theorem sum_takeA {l : List Int} {k : Nat} {x : Int} (h : l[k]? = some x) : (l.take (k + 1)).sum = (l.take k).sum + x := by
  rw [take_at h, List.sum_append]; simp
set_option maxHeartbeats 800000 in
theorem a2Sum_c (A : Option Addr) (l : List Int) (n c : Nat) (hn : Hid (l.length = n)) (hz : n ≤ 1000) (hb : Hid (∀ x ∈ l, -1000000 ≤ x ∧ x ≤ 1000000)) (w : World) (hA : Arr w A (flat icell l)) :
    Calls Tryd.prog 29 #[.slice A n c] w (Ret (.int .i64 l.sum) w) := by
  go_enter Tryd.func29, Tryd.ntmps29
  go_wp2_with fail
  have hR := Lib.hid (show (0 : Int) = (l.take 0).sum from rfl)
  go_loopw [3, 4] (fun s i wr => ∃ (k : Nat) (a : Int), k ≤ n ∧ i = .int .i64 k ∧ s = .int .i64 a ∧ -1000000 * (k : Int) ≤ a ∧ a ≤ 1000000 * (k : Int) ∧ Hid (a = (l.take k).sum) ∧ Below w.heap.size w wr) (fun _ i _ => n - (intOf i).toNat)
  case atStart => exact ⟨0, 0, by omega, rfl, rfl, by omega, by omega, hR, Below.refl _ _⟩
  case round =>
    clear hR
    obtain ⟨k, a, hk, rfl, rfl, ha0, ha1, hR, hbel⟩ := hrel
    by_cases hlt : k < n
    · obtain ⟨x, hx⟩ := get_of_lt (xs := l) (k := k) (by rw [hn.out]; exact hlt)
      obtain ⟨ad, rfl, hab, c0⟩ := icell_at (hA.below hbel) hx
      obtain ⟨x0, x1⟩ := hb.out x (List.mem_of_getElem? hx)
      have hR2 := Lib.hid (show a + x = (l.take (k + 1)).sum by rw [sum_takeA hx, hR.out])
      clear hR hx
      go_wp2_with fail
      exact ⟨⟨k + 1, a + x, by omega, by go_num, rfl, by omega, by omega, hR2, hbel⟩, by simp [intOf]; omega⟩
    · have hR2 := Lib.hid (hR.out.trans (by rw [List.take_of_length_le (by rw [hn.out]; omega)] : _ = l.sum))
      clear hR
      go_wp2_with fail
      go_returns
      exact Ret.mk (vi hR2.out) hbel
end Go.Proofs.YtnhkdcebldppmaaDoor
