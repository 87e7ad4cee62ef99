/- slices.Clone of a struct. -/
import Derived.Test.YtopbiihiogbhiaaApp
import Derived.Lib.SliceRun
namespace Go.Proofs.Ytopbiihiogbhiaa
open Go.RowKit
theorem info_Item : (Try.prog.info? 94).map (fun i => (i.zero, i.size, i.bytes)) = some (some (.agg #[.string ByteArray.empty, .int .i64 0, .int .i64 0]), 3, 32) := by kernel_rfl

theorem Item.ones (xs : List Item) : ∀ u ∈ flat Item.cells xs, u.oneCell' = true := by
  intro u hu
  simp only [flat, List.mem_flatMap] at hu
  obtain ⟨x, _, hx⟩ := hu
  simp only [Item.cells, List.mem_cons, List.not_mem_nil, or_false] at hx
  rcases hx with rfl | rfl | rfl <;> rfl
set_option maxRecDepth 100000 in
set_option maxHeartbeats 1000000 in
theorem cloneItem_c (ad : Addr) (xs : List Item) (n c : Nat) (hn : Hid (xs.length = n)) (hm : (n : Int) ≤ 1048576) (w : World) (hA : Arr w (some ad) (flat Item.cells xs)) :
    Calls Try.prog 80 #[.slice (some ad) n c] w (OutC 94 3 n (flat Item.cells xs) w) := by
  obtain ⟨i0, hi0, hz0, hz1, hz2⟩ := info_parts (P := Try.prog) (e := 94) (z := .agg #[.string ByteArray.empty, .int .i64 0, .int .i64 0]) (size := 3) (bytes := 32) info_Item
  have hlen : (flat Item.cells xs).length = n * 3 := by rw [flat_length Item.cells_length, hn.out]
  have q22 : ∀ (w : World) (a : Option Addr) (n c n' c' : Nat), (binOp .eql 47 (.slice a n c) (.slice none n' c')).run Try.prog w = .ok (.bool a.isNone) w := fun w a n c n' c' => Lib.run_eql_slice_nil w _ _ a n c n' c' Try.underlying47
  go_enter Try.func80, Try.ntmps80
  go_wp2_with (at_builtin; refine app_many _ rfl _ _ 47 94 rfl i0 _ 3 32 Try.underlying47 hi0 hz0 hz1 hz2 rfl (by omega) w.heap.size _ 0 [] rfl (own_empty w _ _ _ (Nat.le_refl _)) ad n c (flat Item.cells xs) rfl (hA.alloc _) hlen (Item.ones xs) (by unfold maxLen; omega) (by omega) (by simp) ?_; intro A2 c2 w2 hown2 hg2)
  go_returns
  simp only [Nat.zero_add, List.nil_append] at hown2 ⊢
  exact ⟨A2, c2, rfl, hown2, bl_grown (bl_alloc (Below.refl _ _) _) hg2 (own_at (own_empty w w.heap.size 94 3 (Nat.le_refl _)))⟩


end Go.Proofs.Ytopbiihiogbhiaa
