/- slices.Clone of a struct. -/
import Derived.Test.YtapnllbbdfoaaaaGreatDoorMCore
import Derived.Lib.SliceRun
namespace Go.Proofs.YtapnllbbdfoaaaaGreatDoor
open Go.RowKit
theorem info_Order : (Tryz.prog.info? 26).map (fun i => (i.zero, i.size, i.bytes)) = some (some (.agg #[.int .i64 0, .string ByteArray.empty, .int .i64 0, .int .i64 0, .int .i64 0, .int .i64 0]), 6, 56) := by kernel_rfl

theorem Order.ones (xs : List Order) : ∀ u ∈ flat Order.cells xs, u.oneCell' = true := by
  intro u hu
  simp only [flat, List.mem_flatMap] at hu
  obtain ⟨x, _, hx⟩ := hu
  simp only [Order.cells, List.mem_cons, List.not_mem_nil, or_false] at hx
  rcases hx with rfl | rfl | rfl | rfl | rfl | rfl <;> rfl
set_option maxRecDepth 100000 in
set_option maxHeartbeats 1000000 in
theorem cloneOrder_c (ad : Addr) (xs : List Order) (n c : Nat) (hn : Hid (xs.length = n)) (hm : (n : Int) ≤ 1048576) (w : World) (hA : Arr w (some ad) (flat Order.cells xs)) :
    Calls Tryz.prog 40 #[.slice (some ad) n c] w (OutC 26 6 n (flat Order.cells xs) w) := by
  obtain ⟨i0, hi0, hz0, hz1, hz2⟩ := info_parts (P := Tryz.prog) (e := 26) (z := .agg #[.int .i64 0, .string ByteArray.empty, .int .i64 0, .int .i64 0, .int .i64 0, .int .i64 0]) (size := 6) (bytes := 56) info_Order
  have hlen : (flat Order.cells xs).length = n * 6 := by rw [flat_length Order.cells_length, hn.out]
  have q22 : ∀ (w : World) (a : Option Addr) (n c n' c' : Nat), (binOp .eql 24 (.slice a n c) (.slice none n' c')).run Tryz.prog w = .ok (.bool a.isNone) w := fun w a n c n' c' => Lib.run_eql_slice_nil w _ _ a n c n' c' Tryz.underlying24
  go_enter Tryz.func40, Tryz.ntmps40
  go_wp2_with (at_builtin; refine app_many _ rfl _ _ 24 26 rfl i0 _ 6 56 Tryz.underlying24 hi0 hz0 hz1 hz2 rfl (by omega) w.heap.size _ 0 [] rfl (own_empty w _ _ _ (Nat.le_refl _)) ad n c (flat Order.cells xs) rfl (hA.alloc _) hlen (Order.ones xs) (by unfold maxLen; omega) (by omega) (by simp) ?_; intro A2 c2 w2 hown2 hg2)
  go_returns
  simp only [Nat.zero_add, List.nil_append] at hown2 ⊢
  exact ⟨A2, c2, rfl, hown2, bl_grown (bl_alloc (Below.refl _ _) _) hg2 (own_at (own_empty w w.heap.size 26 6 (Nat.le_refl _)))⟩


end Go.Proofs.YtapnllbbdfoaaaaGreatDoor
