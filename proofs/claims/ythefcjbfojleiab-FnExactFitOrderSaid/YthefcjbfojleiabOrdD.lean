/- Putting an order: the reference's function (in progress). -/
import Derived.Test.YthefcjbfojleiabOrdC
import Derived.Test.YthefcjbfojleiabClone
namespace Go.Proofs.Ythefcjbfojleiab
open Go.RowKit

theorem own_empty1 (w : World) (o : Obj) (e size : Nat) : ((w.alloc o).alloc (.cells #[] e)).ownsRow w.heap.size e size (.slice (some ⟨w.heap.size + 1, 0, none⟩) 0 0) 0 [] := by
  have h := own_empty (w.alloc o) w.heap.size e size (by simp)
  rwa [World.size_alloc] at h
theorem flat_set {α : Type} {f : α → List Value} {s : Nat} (hf : ∀ x, (f x).length = s) : ∀ (xs : List α) (k : Nat) (x : α), k < xs.length → flat f (xs.set k x) = (flat f xs).take (k * s) ++ f x ++ (flat f xs).drop ((k + 1) * s)
  | [], _, _, h => by simp at h
  | y :: ys, 0, x, _ => by
    have e : (0 + 1) * s = (f y).length := by rw [hf]; omega
    simp only [List.set_cons_zero, flat, List.flatMap_cons, Nat.zero_mul, List.take_zero, List.nil_append, e, List.drop_left]
  | y :: ys, k + 1, x, h => by
    have ih := flat_set hf ys k x (by simpa using h)
    have e1 : (k + 1) * s = (f y).length + k * s := by rw [hf, Nat.add_mul]; omega
    have e2 : (k + 1 + 1) * s = (f y).length + (k + 1) * s := by rw [hf, Nat.add_mul (k + 1)]; omega
    simp only [flat] at ih
    simp only [List.set_cons_succ, flat, List.flatMap_cons, ih, e2, List.drop_append]
    rw [e1, List.take_length_add_append]
    simp
set_option maxRecDepth 100000 in
set_option maxHeartbeats 1600000 in
theorem l25Put_c (ad : Addr) (xs : List Order) (n c k : Nat) (x : Order) (hn : Hid (xs.length = n)) (hm : (n : Int) ≤ 1048576) (hk : k < n) (w : World) (hA : Arr w (some ad) (flat Order.cells xs)) :
    Calls Try.prog 35 #[.slice (some ad) n c, .int .i64 k, .agg #[Value.int IntKind.i64 x.id, Value.string x.customer, Value.int IntKind.i64 x.stage, Value.int IntKind.i64 x.due, Value.int IntKind.i64 x.left, Value.int IntKind.i64 x.fittings]] w (OutC 38 6 n (flat Order.cells (xs.set k x)) w) := by
  obtain ⟨i0, hi0, hz0, hz1, hz2⟩ := info_parts (P := Try.prog) (e := 38) (z := .agg #[.int .i64 0, .string ByteArray.empty, .int .i64 0, .int .i64 0, .int .i64 0, .int .i64 0]) (size := 6) (bytes := 56) info_Order
  have hlen : (flat Order.cells xs).length = n * 6 := by rw [flat_length Order.cells_length, hn.out]
  go_enter Try.func35, Try.ntmps35
  go_wp2_with (at_builtin; go_loud (refine app_many _ rfl _ _ 24 38 rfl i0 _ 6 56 Try.underlying24 hi0 hz0 hz1 hz2 rfl (by omega) w.heap.size (.slice (some ⟨w.heap.size + 1, 0, none⟩) 0 0) 0 [] rfl (own_empty1 w _ _ _) ad n c (flat Order.cells xs) rfl ((hA.alloc _).alloc _) hlen (Order.ones xs) (by unfold maxLen; omega) (by omega) (by first | (simp; done) | (simp; omega)) ?_); intro A2 c2 w2 hown2 hg2; simp only [Nat.zero_add, List.nil_append] at hown2; have hX : Blk w2 w.heap.size 38 #[Value.int IntKind.i64 x.id, Value.string x.customer, Value.int IntKind.i64 x.stage, Value.int IntKind.i64 x.due, Value.int IntKind.i64 x.left, Value.int IntKind.i64 x.fittings] := Blk.grown ((Blk.new w _ _).alloc _) hg2 (by simp [Value.ownBlock]); have x0 : w2.cell? ⟨w.heap.size, 0, none⟩ = some (.int .i64 x.id) := hX.cell 0; have x1 : w2.cell? ⟨w.heap.size, 1, none⟩ = some (.string x.customer) := hX.cell 1; have x2 : w2.cell? ⟨w.heap.size, 2, none⟩ = some (.int .i64 x.stage) := hX.cell 2; have x3 : w2.cell? ⟨w.heap.size, 3, none⟩ = some (.int .i64 x.due) := hX.cell 3; have x4 : w2.cell? ⟨w.heap.size, 4, none⟩ = some (.int .i64 x.left) := hX.cell 4; have x5 : w2.cell? ⟨w.heap.size, 5, none⟩ = some (.int .i64 x.fittings) := hX.cell 5; obtain ⟨g2, hA2⟩ := own_addr hown2 (by omega); subst hA2; obtain ⟨u0, d0⟩ := own_cell hown2 (j := k * 6) (by omega); obtain ⟨u1, d1⟩ := own_cell hown2 (j := k * 6 + 1) (by omega); obtain ⟨u2, d2⟩ := own_cell hown2 (j := k * 6 + 2) (by omega); obtain ⟨u3, d3⟩ := own_cell hown2 (j := k * 6 + 3) (by omega); obtain ⟨u4, d4⟩ := own_cell hown2 (j := k * 6 + 4) (by omega); obtain ⟨u5, d5⟩ := own_cell hown2 (j := k * 6 + 5) (by omega); have f0 := hown2.frozenAt (k * 6); have f1 := hown2.frozenAt (k * 6 + 1); have f2 := hown2.frozenAt (k * 6 + 2); have f3 := hown2.frozenAt (k * 6 + 3); have f4 := hown2.frozenAt (k * 6 + 4); have f5 := hown2.frozenAt (k * 6 + 5))
  go_returns
  have hge : w.heap.size ≤ g2 := own_at hown2 g2 rfl
  refine ⟨some ⟨g2, 0, none⟩, c2, rfl, ?_, ?_⟩
  · have e : setMany (flat Order.cells xs) (k * 6) (Order.cells x) = flat Order.cells (xs.set k x) := by
      rw [setMany_eq _ _ _ (by rw [hlen, Order.cells_length]; omega), flat_set Order.cells_length xs k x (by rw [hn.out]; exact hk), Order.cells_length, show k * 6 + 6 = (k + 1) * 6 from by omega]
    rw [← e]
    exact ((((((hown2.stored (k * 6) (.int .i64 x.id)).1.stored (k * 6 + 1) (.string x.customer)).1.stored (k * 6 + 2) (.int .i64 x.stage)).1.stored (k * 6 + 3) (.int .i64 x.due)).1.stored (k * 6 + 4) (.int .i64 x.left)).1.stored (k * 6 + 5) (.int .i64 x.fittings)).1
  · refine bl_set (bl_set (bl_set (bl_set (bl_set (bl_set (bl_grown (bl_alloc (bl_alloc (Below.refl _ _) _) _) hg2 (own_at (own_empty1 w (Obj.cells #[Value.int IntKind.i64 x.id, Value.string x.customer, Value.int IntKind.i64 x.stage, Value.int IntKind.i64 x.due, Value.int IntKind.i64 x.left, Value.int IntKind.i64 x.fittings] 38) 38 6))) ?_ _) ?_ _) ?_ _) ?_ _) ?_ _) ?_ _ <;> exact hge

end Go.Proofs.Ythefcjbfojleiab
