/- Drawn orders: the list, bent. -/
import Derived.Test.YtggficacnmddiaaDrwO
import Derived.Test.YtggficacnmddiaaOwn
namespace Go.Proofs.Ytggficacnmddiaa
open Go.RowKit

theorem list_set_same {α : Type} {xs : List α} {k : Nat} {x : α} (h : xs[k]? = some x) : xs.set k x = xs := by
  obtain ⟨hk, e⟩ := List.getElem?_eq_some_iff.1 h
  subst e
  exact List.set_getElem_self hk
def OutSpoil (g q gO base n c : Nat) (xs : List Order) (k : Nat) (w0 : World) (e : Ending) (w' : World) : Prop := ∃ x' : Order, e = .returned (.tuple #[]) ∧ x'.customer.size ≤ 100 ∧ w'.ownsRow base 38 6 (.slice (some ⟨gO, 0, none⟩) n c) n (flat Order.cells (xs.set k x')) ∧ Src w' g (q + 6) ∧ w0.grownBy w' (some g)
set_option maxRecDepth 100000 in
set_option maxHeartbeats 2000000 in
theorem l25Spoil_c (g q gO base n c k : Nat) (xs : List Order) (x : Order) (hq : q ≤ 700000000000) (w0 w : World) (hS : Src w g q) (hO : w.ownsRow base 38 6 (.slice (some ⟨gO, 0, none⟩) n c) n (flat Order.cells xs)) (hX : Hid (xs[k]? = some x)) (hxs : x.customer.size ≤ 100)
    (hgO : g < gO) (hwO : w0.heap.size ≤ gO) (hG : w0.grownBy w (some g)) : Calls Try.prog 42 #[.pointer (some ⟨g, 0, none⟩), .pointer (some ⟨gO, k * 6, none⟩)] w (OutSpoil g q gO base n c xs k w0) := by
  have HX := Lib.hid hX.out
  have hkl : k * 6 + 5 < (flat Order.cells xs).length := by
    rw [flat_length Order.cells_length]
    have := (List.getElem?_eq_some_iff.1 hX.out).1
    omega
  have HS0 := Lib.hid hS
  have HO0 := Lib.hid hO
  have HG0 := Lib.hid hG
  have hOl := own_lt hO gO rfl
  clear hX hS hO hG
  go_enter Try.func42, Try.ntmps42
  go_wp2_with fail
  refine (pick_c g q 6 (by omega) (by omega) _ HS0.out).mono ?_
  rintro e W1 ⟨r, rfl, r0, r1, hS, hg⟩
  have HS := Lib.hid hS
  have HO := Lib.hid (HO0.out.kept hg (.inr (fun e => by have e2 : gO = g := (by simpa [Value.ownBlock] using e); omega)))
  have HG := Lib.hid (grown_trans HG0.out hg)
  have hz := hg.size
  clear hS hg HS0 HO0 HG0
  go_wp2_with fail
  · have hA := arr_new W1 2 #[.int .i64 0, .int .i64 1, .int .i64 9999, .int .i64 10000, .int .i64 (-9223372036854775808)]
    refine (among_c g (q + 2) _ [0, 1, 9999, 10000, -9223372036854775808] 5 5 (Lib.hid rfl) (by omega) (by omega) (by omega) _ (HS.out.below (bl_alloc (Below.refl _ _) _)) hA (fun ad e => by injection e with e; subst e; simp only; omega)).mono ?_
    rintro e W5 ⟨v, hv, rfl, hS5, hg5⟩
    have HV := Lib.hid hv
    have hO5 := (HO.out.alloc (.cells #[.int .i64 0, .int .i64 1, .int .i64 9999, .int .i64 10000, .int .i64 (-9223372036854775808)] 2)).kept hg5 (.inr (fun e => by have e2 : gO = g := (by simpa [Value.ownBlock] using e); omega))
    have hlen := hO5.1
    obtain ⟨u', d1⟩ := own_cell hO5 (j := k * 6) (by omega)
    have fz := hO5.frozenAt (k * 6)
    have HS6 := Lib.hid (hS5.far (p := ⟨gO, k * 6, none⟩) hgO (.int .i64 v))
    have HO6 := Lib.hid (hO5.stored (k * 6) (.int .i64 v)).1
    have HG6 := Lib.hid (grown_setCell (p := ⟨gO, k * 6, none⟩) (grown_trans (grown_alloc HG.out (.cells #[.int .i64 0, .int .i64 1, .int .i64 9999, .int .i64 10000, .int .i64 (-9223372036854775808)] 2)) hg5) (.inr hwO) (.int .i64 v))
    clear hA hS5 hg5 hO5 hlen hv
    go_wp2_with fail
    go_returns
    refine ⟨{ x with id := v }, rfl, hxs, ?_, HS6.out.more (by omega), HG6.out⟩
    rw [← flat_set_at Order.cells 6 Order.cells_length 0 (by omega) (.int .i64 v) x { x with id := v } rfl xs k HX.out]
    exact HO6.out
  · have hA := arr_new W1 9 #[.string ⟨#[]⟩, .string ⟨#[68, 111, 121, 108, 101]⟩]
    refine (text_c g (q + 2) _ [⟨#[]⟩, ⟨#[68, 111, 121, 108, 101]⟩] 2 2 (Lib.hid rfl) (by omega) (by omega) (by omega) _ (HS.out.below (bl_alloc (Below.refl _ _) _)) hA (fun ad e => by injection e with e; subst e; simp only; omega)).mono ?_
    rintro e W5 ⟨v, hv, rfl, hS5, hg5⟩
    have HV := Lib.hid hv
    have hO5 := (HO.out.alloc (.cells #[.string ⟨#[]⟩, .string ⟨#[68, 111, 121, 108, 101]⟩] 9)).kept hg5 (.inr (fun e => by have e2 : gO = g := (by simpa [Value.ownBlock] using e); omega))
    have hlen := hO5.1
    obtain ⟨u', d1⟩ := own_cell hO5 (j := k * 6 + 1) (by omega)
    have fz := hO5.frozenAt (k * 6 + 1)
    have HS6 := Lib.hid (hS5.far (p := ⟨gO, k * 6 + 1, none⟩) hgO (.string v))
    have HO6 := Lib.hid (hO5.stored (k * 6 + 1) (.string v)).1
    have HG6 := Lib.hid (grown_setCell (p := ⟨gO, k * 6 + 1, none⟩) (grown_trans (grown_alloc HG.out (.cells #[.string ⟨#[]⟩, .string ⟨#[68, 111, 121, 108, 101]⟩] 9)) hg5) (.inr hwO) (.string v))
    clear hA hS5 hg5 hO5 hlen hv
    go_wp2_with fail
    go_returns
    refine ⟨{ x with customer := v }, rfl, by have hv := HV.out; simp only [List.mem_cons, List.not_mem_nil, or_false] at hv; rcases hv with rfl | rfl <;> (dsimp only; decide), ?_, HS6.out.more (by omega), HG6.out⟩
    rw [← flat_set_at Order.cells 6 Order.cells_length 1 (by omega) (.string v) x { x with customer := v } rfl xs k HX.out]
    exact HO6.out
  · have hA := arr_new W1 2 #[.int .i64 (-1), .int .i64 0, .int .i64 3, .int .i64 4, .int .i64 5]
    refine (among_c g (q + 2) _ [-1, 0, 3, 4, 5] 5 5 (Lib.hid rfl) (by omega) (by omega) (by omega) _ (HS.out.below (bl_alloc (Below.refl _ _) _)) hA (fun ad e => by injection e with e; subst e; simp only; omega)).mono ?_
    rintro e W5 ⟨v, hv, rfl, hS5, hg5⟩
    have HV := Lib.hid hv
    have hO5 := (HO.out.alloc (.cells #[.int .i64 (-1), .int .i64 0, .int .i64 3, .int .i64 4, .int .i64 5] 2)).kept hg5 (.inr (fun e => by have e2 : gO = g := (by simpa [Value.ownBlock] using e); omega))
    have hlen := hO5.1
    obtain ⟨u', d1⟩ := own_cell hO5 (j := k * 6 + 2) (by omega)
    have fz := hO5.frozenAt (k * 6 + 2)
    have HS6 := Lib.hid (hS5.far (p := ⟨gO, k * 6 + 2, none⟩) hgO (.int .i64 v))
    have HO6 := Lib.hid (hO5.stored (k * 6 + 2) (.int .i64 v)).1
    have HG6 := Lib.hid (grown_setCell (p := ⟨gO, k * 6 + 2, none⟩) (grown_trans (grown_alloc HG.out (.cells #[.int .i64 (-1), .int .i64 0, .int .i64 3, .int .i64 4, .int .i64 5] 2)) hg5) (.inr hwO) (.int .i64 v))
    clear hA hS5 hg5 hO5 hlen hv
    go_wp2_with fail
    go_returns
    refine ⟨{ x with stage := v }, rfl, hxs, ?_, HS6.out.more (by omega), HG6.out⟩
    rw [← flat_set_at Order.cells 6 Order.cells_length 2 (by omega) (.int .i64 v) x { x with stage := v } rfl xs k HX.out]
    exact HO6.out
  · have hA := arr_new W1 2 #[.int .i64 (-1), .int .i64 0, .int .i64 10000, .int .i64 10001]
    refine (among_c g (q + 2) _ [-1, 0, 10000, 10001] 4 4 (Lib.hid rfl) (by omega) (by omega) (by omega) _ (HS.out.below (bl_alloc (Below.refl _ _) _)) hA (fun ad e => by injection e with e; subst e; simp only; omega)).mono ?_
    rintro e W5 ⟨v, hv, rfl, hS5, hg5⟩
    have HV := Lib.hid hv
    have hO5 := (HO.out.alloc (.cells #[.int .i64 (-1), .int .i64 0, .int .i64 10000, .int .i64 10001] 2)).kept hg5 (.inr (fun e => by have e2 : gO = g := (by simpa [Value.ownBlock] using e); omega))
    have hlen := hO5.1
    obtain ⟨u', d1⟩ := own_cell hO5 (j := k * 6 + 3) (by omega)
    have fz := hO5.frozenAt (k * 6 + 3)
    have HS6 := Lib.hid (hS5.far (p := ⟨gO, k * 6 + 3, none⟩) hgO (.int .i64 v))
    have HO6 := Lib.hid (hO5.stored (k * 6 + 3) (.int .i64 v)).1
    have HG6 := Lib.hid (grown_setCell (p := ⟨gO, k * 6 + 3, none⟩) (grown_trans (grown_alloc HG.out (.cells #[.int .i64 (-1), .int .i64 0, .int .i64 10000, .int .i64 10001] 2)) hg5) (.inr hwO) (.int .i64 v))
    clear hA hS5 hg5 hO5 hlen hv
    go_wp2_with fail
    go_returns
    refine ⟨{ x with due := v }, rfl, hxs, ?_, HS6.out.more (by omega), HG6.out⟩
    rw [← flat_set_at Order.cells 6 Order.cells_length 3 (by omega) (.int .i64 v) x { x with due := v } rfl xs k HX.out]
    exact HO6.out
  · have hA := arr_new W1 2 #[.int .i64 (-1), .int .i64 0, .int .i64 100, .int .i64 101]
    refine (among_c g (q + 2) _ [-1, 0, 100, 101] 4 4 (Lib.hid rfl) (by omega) (by omega) (by omega) _ (HS.out.below (bl_alloc (Below.refl _ _) _)) hA (fun ad e => by injection e with e; subst e; simp only; omega)).mono ?_
    rintro e W5 ⟨v, hv, rfl, hS5, hg5⟩
    have HV := Lib.hid hv
    have hO5 := (HO.out.alloc (.cells #[.int .i64 (-1), .int .i64 0, .int .i64 100, .int .i64 101] 2)).kept hg5 (.inr (fun e => by have e2 : gO = g := (by simpa [Value.ownBlock] using e); omega))
    have hlen := hO5.1
    obtain ⟨u', d1⟩ := own_cell hO5 (j := k * 6 + 4) (by omega)
    have fz := hO5.frozenAt (k * 6 + 4)
    have HS6 := Lib.hid (hS5.far (p := ⟨gO, k * 6 + 4, none⟩) hgO (.int .i64 v))
    have HO6 := Lib.hid (hO5.stored (k * 6 + 4) (.int .i64 v)).1
    have HG6 := Lib.hid (grown_setCell (p := ⟨gO, k * 6 + 4, none⟩) (grown_trans (grown_alloc HG.out (.cells #[.int .i64 (-1), .int .i64 0, .int .i64 100, .int .i64 101] 2)) hg5) (.inr hwO) (.int .i64 v))
    clear hA hS5 hg5 hO5 hlen hv
    go_wp2_with fail
    go_returns
    refine ⟨{ x with left := v }, rfl, hxs, ?_, HS6.out.more (by omega), HG6.out⟩
    rw [← flat_set_at Order.cells 6 Order.cells_length 4 (by omega) (.int .i64 v) x { x with left := v } rfl xs k HX.out]
    exact HO6.out
  · have hA := arr_new W1 2 #[.int .i64 (-1), .int .i64 0, .int .i64 5, .int .i64 6]
    refine (among_c g (q + 2) _ [-1, 0, 5, 6] 4 4 (Lib.hid rfl) (by omega) (by omega) (by omega) _ (HS.out.below (bl_alloc (Below.refl _ _) _)) hA (fun ad e => by injection e with e; subst e; simp only; omega)).mono ?_
    rintro e W5 ⟨v, hv, rfl, hS5, hg5⟩
    have HV := Lib.hid hv
    have hO5 := (HO.out.alloc (.cells #[.int .i64 (-1), .int .i64 0, .int .i64 5, .int .i64 6] 2)).kept hg5 (.inr (fun e => by have e2 : gO = g := (by simpa [Value.ownBlock] using e); omega))
    have hlen := hO5.1
    obtain ⟨u', d1⟩ := own_cell hO5 (j := k * 6 + 5) (by omega)
    have fz := hO5.frozenAt (k * 6 + 5)
    have HS6 := Lib.hid (hS5.far (p := ⟨gO, k * 6 + 5, none⟩) hgO (.int .i64 v))
    have HO6 := Lib.hid (hO5.stored (k * 6 + 5) (.int .i64 v)).1
    have HG6 := Lib.hid (grown_setCell (p := ⟨gO, k * 6 + 5, none⟩) (grown_trans (grown_alloc HG.out (.cells #[.int .i64 (-1), .int .i64 0, .int .i64 5, .int .i64 6] 2)) hg5) (.inr hwO) (.int .i64 v))
    clear hA hS5 hg5 hO5 hlen hv
    go_wp2_with fail
    go_returns
    refine ⟨{ x with fittings := v }, rfl, hxs, ?_, HS6.out.more (by omega), HG6.out⟩
    rw [← flat_set_at Order.cells 6 Order.cells_length 5 (by omega) (.int .i64 v) x { x with fittings := v } rfl xs k HX.out]
    exact HO6.out
end Go.Proofs.Ytggficacnmddiaa
