/- Moving and working on an order: the program's and the reference's functions. -/
import Derived.Test.YthefcjbfojleiabOrdF
namespace Go.Proofs.Ythefcjbfojleiab
open Go.RowKit

theorem orderPlace_c (A : Option Addr) (xs : List Order) (n c : Nat) (id : Int) (hn : Hid (xs.length = n)) (hm : (n : Int) ≤ 1048576) (hp : Hid (xs.Pairwise (fun a b => a.id < b.id))) (w : World) (hA : Arr w A (flat Order.cells xs)) :
    Calls Try.prog 49 #[.slice A n c, .int .i64 id] w (RetT #[.int .i64 (lbO id xs), .bool (hitO id xs)] w) := by
  go_enter Try.func49, Try.ntmps49
  go_wp2_with fail
  refine (search_c A xs n c id hn hm hp _ hA).mono ?_
  rintro e w1 ⟨rfl, hb1⟩
  go_wp2_with fail
  go_returns
  exact RetT.mk rfl hb1
set_option maxRecDepth 100000 in
set_option maxHeartbeats 1600000 in
theorem orderCode_c (A : Option Addr) (xs : List Order) (n c : Nat) (id : Int) (rg : Bool) (hn : Hid (xs.length = n)) (hm : (n : Int) ≤ 1048576) (hs : Hid (∀ x ∈ xs, x.customer.size ≤ 9223372036854775807)) (w : World) (hA : Arr w A (flat Order.cells xs)) :
    Calls Try.prog 36 #[.slice A n c, .int .i64 id, .bool rg] w (RetT (codeV xs id rg) w) := by
  go_enter Try.func36, Try.ntmps36
  go_wp2_with fail
  refine (ValidOrders_c A xs n c hn hm hs _ hA).mono ?_
  rintro e W ⟨rfl, hv⟩
  cases ho : ordsB xs
  · have HO := Lib.hid ho
    clear ho
    go_wp2_with fail
    go_returns
    exact RetT.mk (by rw [codeV, HO.out]; rfl) hv
  · have HO := Lib.hid ho
    clear ho
    cases rg
    · go_wp2_with fail
      go_returns
      exact RetT.mk (by rw [codeV, HO.out]; rfl) hv
    · go_wp2_with fail
      refine (orderPlace_c A xs n c id hn hm (Lib.hid (ords_pair HO.out)) _ (hA.below hv)).mono ?_
      rintro e W2 ⟨rfl, hb2⟩
      cases hh : hitO id xs
      · have HH := Lib.hid hh
        clear hh
        go_wp2_with fail
        go_returns
        exact RetT.mk (by rw [codeV, HO.out, HH.out]; rfl) (bl_trans hv hb2)
      · have HH := Lib.hid hh
        clear hh
        go_wp2_with fail
        go_returns
        exact RetT.mk (by rw [codeV, HO.out, HH.out]; rfl) (bl_trans hv hb2)
set_option maxRecDepth 100000 in
set_option maxHeartbeats 1600000 in
theorem replaced_c (ad : Addr) (xs : List Order) (n c k : Nat) (x : Order) (err : Int) (hn : Hid (xs.length = n)) (hm : (n : Int) ≤ 1048576) (hk : k < n) (hs : x.customer.size ≤ 9223372036854775807) (w : World) (hA : Arr w (some ad) (flat Order.cells xs)) :
    Calls Try.prog 38 #[.slice (some ad) n c, .int .i64 k, .agg #[Value.int IntKind.i64 x.id, Value.string x.customer, Value.int IntKind.i64 x.stage, Value.int IntKind.i64 x.due, Value.int IntKind.i64 x.left, Value.int IntKind.i64 x.fittings], .int .i64 err] w (OutL 38 6 (putP xs k x err).1.length (flat Order.cells (putP xs k x err).1) (putP xs k x err).2 w) := by
  have hlen : (flat Order.cells xs).length = n * 6 := by rw [flat_length Order.cells_length, hn.out]
  go_enter Try.func38, Try.ntmps38
  go_wp2_with fail
  refine (validOrder_c x hs _).mono ?_
  rintro e W ⟨rfl, hb⟩
  have hv : Below w.heap.size w W := bl_trans (bl_alloc (Below.refl _ _) _) hb
  have hX0 : Blk W w.heap.size 38 #[Value.int IntKind.i64 x.id, Value.string x.customer, Value.int IntKind.i64 x.stage, Value.int IntKind.i64 x.due, Value.int IntKind.i64 x.left, Value.int IntKind.i64 x.fittings] := (Blk.new _ _ _).below hb
  have hgW : w.heap.size < W.heap.size := hX0.lt
  cases ho : ordB x
  · have HO := Lib.hid ho
    clear ho
    go_wp2_with fail
    go_returns
    exact OutL.no (by rw [putP, if_neg (by simp [HO.out])]) hv
  · have HO := Lib.hid ho
    clear ho
    go_wp2_with fail
    refine (cloneOrder_c ad xs n c hn hm _ (hA.below hv)).mono ?_
    rintro e w2 ⟨A2, c2, rfl, hown2, hb2⟩
    have hX := hX0.below hb2
    obtain ⟨g2, hA2⟩ := own_addr hown2 (by omega)
    subst hA2
    have hge : W.heap.size ≤ g2 := own_at hown2 g2 rfl
    clear hX0 hb
    have x0 : w2.cell? ⟨w.heap.size, 0, none⟩ = some (.int .i64 x.id) := hX.cell 0
    have x1 : w2.cell? ⟨w.heap.size, 1, none⟩ = some (.string x.customer) := hX.cell 1
    have x2 : w2.cell? ⟨w.heap.size, 2, none⟩ = some (.int .i64 x.stage) := hX.cell 2
    have x3 : w2.cell? ⟨w.heap.size, 3, none⟩ = some (.int .i64 x.due) := hX.cell 3
    have x4 : w2.cell? ⟨w.heap.size, 4, none⟩ = some (.int .i64 x.left) := hX.cell 4
    have x5 : w2.cell? ⟨w.heap.size, 5, none⟩ = some (.int .i64 x.fittings) := hX.cell 5
    obtain ⟨u0, d0⟩ := own_cell hown2 (j := k * 6) (by omega)
    obtain ⟨u1, d1⟩ := own_cell hown2 (j := k * 6 + 1) (by omega)
    obtain ⟨u2, d2⟩ := own_cell hown2 (j := k * 6 + 2) (by omega)
    obtain ⟨u3, d3⟩ := own_cell hown2 (j := k * 6 + 3) (by omega)
    obtain ⟨u4, d4⟩ := own_cell hown2 (j := k * 6 + 4) (by omega)
    obtain ⟨u5, d5⟩ := own_cell hown2 (j := k * 6 + 5) (by omega)
    have f0 := hown2.frozenAt (k * 6)
    have f1 := hown2.frozenAt (k * 6 + 1)
    have f2 := hown2.frozenAt (k * 6 + 2)
    have f3 := hown2.frozenAt (k * 6 + 3)
    have f4 := hown2.frozenAt (k * 6 + 4)
    have f5 := hown2.frozenAt (k * 6 + 5)
    go_wp2_with fail
    go_returns
    have e : setMany (flat Order.cells xs) (k * 6) (Order.cells x) = flat Order.cells (xs.set k x) := by
      rw [setMany_eq _ _ _ (by rw [hlen, Order.cells_length]; omega), flat_set Order.cells_length xs k x (by rw [hn.out]; exact hk), Order.cells_length, show k * 6 + 6 = (k + 1) * 6 from by omega]
    refine OutL.of (l := xs.set k x) (by rw [putP, if_pos HO.out]) (by rw [List.length_set]; exact hn.out) ?_ ?_
    · rw [← e]
      exact own_base ((((((hown2.stored (k * 6) (.int .i64 x.id)).1.stored (k * 6 + 1) (.string x.customer)).1.stored (k * 6 + 2) (.int .i64 x.stage)).1.stored (k * 6 + 3) (.int .i64 x.due)).1.stored (k * 6 + 4) (.int .i64 x.left)).1.stored (k * 6 + 5) (.int .i64 x.fittings)).1 hv.size
    · have hgw : w.heap.size ≤ g2 := by have := hv.size; omega
      refine bl_set (bl_set (bl_set (bl_set (bl_set (bl_set (bl_trans hv hb2) ?_ _) ?_ _) ?_ _) ?_ _) ?_ _) ?_ _ <;> exact hgw


end Go.Proofs.Ythefcjbfojleiab
