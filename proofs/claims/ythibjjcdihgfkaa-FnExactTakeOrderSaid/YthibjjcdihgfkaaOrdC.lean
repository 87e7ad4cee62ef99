/- Finding an order: the reference's functions. -/
import Derived.Test.YthibjjcdihgfkaaOrdB
namespace Go.Proofs.Ythibjjcdihgfkaa
open Go.RowKit

def findO (id : Int) : List Order → Nat → Int
  | [], _ => -1
  | x :: xs, k => if x.id = id then (k : Int) else findO id xs (k + 1)
set_option maxRecDepth 100000 in
set_option maxHeartbeats 1600000 in
theorem l25Find_c (A : Option Addr) (xs : List Order) (n c : Nat) (id : Int) (hn : Hid (xs.length = n)) (hm : (n : Int) ≤ 1048576) (w : World) (hA : Arr w A (flat Order.cells xs)) :
    Calls Try.prog 74 #[.slice A n c, .int .i64 id] w (Ret (.int .i64 (findO id xs 0)) w) := by
  go_enter Try.func74, Try.ntmps74
  go_wp2_with fail
  have hR := Lib.hid (show findO id xs 0 = findO id (xs.drop 0) 0 from rfl)
  go_loopw [5] (fun i wr => ∃ k : Nat, k ≤ n ∧ i = .int .i64 k ∧ Hid (findO id xs 0 = findO id (xs.drop k) k) ∧ Below w.heap.size w wr) (fun i _ => n - (intOf i).toNat)
  case atStart => exact ⟨0, by omega, rfl, hR, Below.refl _ _⟩
  case round =>
    clear hR
    obtain ⟨k, hk, rfl, hR, hv⟩ := hrel
    by_cases hlt : k < n
    · obtain ⟨x, hx⟩ := get_of_lt (xs := xs) (k := k) (by rw [hn.out]; exact hlt)
      obtain ⟨ad, rfl, hab, c0, _⟩ := Order.at_ (hA.below hv) hx
      have hR2 := Lib.hid (hR.out.trans (by rw [drop_at hx]; rfl : _ = if x.id = id then (k : Int) else findO id (xs.drop (k + 1)) (k + 1)))
      clear hR hx
      by_cases he : x.id = id
      · have hR3 := Lib.hid (hR2.out.trans (if_pos he))
        clear hR2
        go_wp2_with fail
        all_goals first | (exfalso; omega) | (go_returns; exact Ret.mk (vi (by rw [hR3.out])) hv)
      · have hR3 := Lib.hid (hR2.out.trans (if_neg he))
        have hbe : (x.id == id) = false := by simpa using he
        clear hR2
        go_wp2_with fail
        exact ⟨⟨k + 1, by omega, by go_num, hR3, hv⟩, by simp [intOf]; omega⟩
    · have hR2 := Lib.hid (hR.out.trans (by rw [List.drop_eq_nil_of_le (by rw [hn.out]; omega)]; rfl : _ = -1))
      clear hR
      go_wp2_with fail
      go_returns
      exact Ret.mk (vi (by rw [hR2.out])) hv
theorem findO_spec (id : Int) : ∀ (xs : List Order) (k : Nat), (findO id xs k = -1 ∧ ∀ x ∈ xs, x.id ≠ id) ∨ ∃ j x, findO id xs k = ((k + j : Nat) : Int) ∧ xs[j]? = some x ∧ x.id = id
  | [], _ => .inl ⟨rfl, by simp⟩
  | x :: xs, k => by
    by_cases h : x.id = id
    · exact .inr ⟨0, x, by simp [findO, h], rfl, h⟩
    · rcases findO_spec id xs (k + 1) with ⟨h1, h2⟩ | ⟨j, y, h1, h2, h3⟩
      · exact .inl ⟨by simp [findO, h, h1], by intro y hy; rcases List.mem_cons.1 hy with rfl | hy; exact h; exact h2 y hy⟩
      · exact .inr ⟨j + 1, y, by simp only [findO, if_neg h, h1]; congr 1; omega, by simpa using h2, h3⟩
end Go.Proofs.Ythibjjcdihgfkaa
