/- Moving and working on an order: the program's and the reference's functions. FitOrder: the program's and the reference's functions. -/
import Derived.Test.YtapnllbbdfoaaaaGreatDoorMOrdC

namespace Go.Proofs.YtapnllbbdfoaaaaGreatDoor
open Go.RowKit

theorem orderPlace_c (A : Option Addr) (xs : List Order) (n c : Nat) (id : Int) (hn : Hid (xs.length = n)) (hm : (n : Int) ≤ 1048576) (hp : Hid (xs.Pairwise (fun a b => a.id < b.id))) (w : World) (hA : Arr w A (flat Order.cells xs)) :
    Calls Tryz.prog 38 #[.slice A n c, .int .i64 id] w (RetT #[.int .i64 (lbO id xs), .bool (hitO id xs)] w) := by
  go_enter Tryz.func38, Tryz.ntmps38
  go_wp2_with fail
  refine (search_c A xs n c id hn hm hp _ hA).mono ?_
  rintro e w1 ⟨rfl, hb1⟩
  go_wp2_with fail
  go_returns
  exact RetT.mk rfl hb1
set_option maxRecDepth 100000 in
set_option maxHeartbeats 1600000 in
theorem orderCode_c (A : Option Addr) (xs : List Order) (n c : Nat) (id : Int) (rg : Bool) (hn : Hid (xs.length = n)) (hm : (n : Int) ≤ 1048576) (hs : Hid (∀ x ∈ xs, x.customer.size ≤ 9223372036854775807)) (w : World) (hA : Arr w A (flat Order.cells xs)) :
    Calls Tryz.prog 45 #[.slice A n c, .int .i64 id, .bool rg] w (RetT (codeV xs id rg) w) := by
  go_enter Tryz.func45, Tryz.ntmps45
  go_wp2_with fail
  refine (ValidOrders_c A xs n c hn hm hs _ hA).mono ?_
  rintro e W ⟨rfl, hv⟩
  cases ho : ordsB xs
  · have HO := Lib.hid ho
    clear ho
    go_wp2_with fail
    go_returns
    exact RetT.mk (by rw [codeV, HO.out]; rfl) hv
  · have HO := Lib.hid ho
    clear ho
    cases rg
    · go_wp2_with fail
      go_returns
      exact RetT.mk (by rw [codeV, HO.out]; rfl) hv
    · go_wp2_with fail
      refine (orderPlace_c A xs n c id hn hm (Lib.hid (ords_pair HO.out)) _ (hA.below hv)).mono ?_
      rintro e W2 ⟨rfl, hb2⟩
      cases hh : hitO id xs
      · have HH := Lib.hid hh
        clear hh
        go_wp2_with fail
        go_returns
        exact RetT.mk (by rw [codeV, HO.out, HH.out]; rfl) (bl_trans hv hb2)
      · have HH := Lib.hid hh
        clear hh
        go_wp2_with fail
        go_returns
        exact RetT.mk (by rw [codeV, HO.out, HH.out]; rfl) (bl_trans hv hb2)
set_option maxRecDepth 100000 in
set_option maxHeartbeats 1600000 in
theorem replaced_c (ad : Addr) (xs : List Order) (n c k : Nat) (x : Order) (err : Int) (hn : Hid (xs.length = n)) (hm : (n : Int) ≤ 1048576) (hk : k < n) (hs : x.customer.size ≤ 9223372036854775807) (w : World) (hA : Arr w (some ad) (flat Order.cells xs)) :
    Calls Tryz.prog 46 #[.slice (some ad) n c, .int .i64 k, .agg #[Value.int IntKind.i64 x.id, Value.string x.customer, Value.int IntKind.i64 x.stage, Value.int IntKind.i64 x.due, Value.int IntKind.i64 x.left, Value.int IntKind.i64 x.fittings], .int .i64 err] w (OutL 26 6 (putP xs k x err).1.length (flat Order.cells (putP xs k x err).1) (putP xs k x err).2 w) := by
  have hlen : (flat Order.cells xs).length = n * 6 := by rw [flat_length Order.cells_length, hn.out]
  go_enter Tryz.func46, Tryz.ntmps46
  go_wp2_with fail
  refine (validOrder_c x hs _).mono ?_
  rintro e W ⟨rfl, hb⟩
  have hv : Below w.heap.size w W := bl_trans (bl_alloc (Below.refl _ _) _) hb
  have hX0 : Blk W w.heap.size 26 #[Value.int IntKind.i64 x.id, Value.string x.customer, Value.int IntKind.i64 x.stage, Value.int IntKind.i64 x.due, Value.int IntKind.i64 x.left, Value.int IntKind.i64 x.fittings] := (Blk.new _ _ _).below hb
  have hgW : w.heap.size < W.heap.size := hX0.lt
  cases ho : ordB x
  · have HO := Lib.hid ho
    clear ho
    go_wp2_with fail
    go_returns
    exact OutL.no (by rw [putP, if_neg (by simp [HO.out])]) hv
  · have HO := Lib.hid ho
    clear ho
    go_wp2_with fail
    refine (cloneOrder_c ad xs n c hn hm _ (hA.below hv)).mono ?_
    rintro e w2 ⟨A2, c2, rfl, hown2, hb2⟩
    have hX := hX0.below hb2
    obtain ⟨g2, hA2⟩ := own_addr hown2 (by omega)
    subst hA2
    have hge : W.heap.size ≤ g2 := own_at hown2 g2 rfl
    clear hX0 hb
    have x0 : w2.cell? ⟨w.heap.size, 0, none⟩ = some (.int .i64 x.id) := hX.cell 0
    have x1 : w2.cell? ⟨w.heap.size, 1, none⟩ = some (.string x.customer) := hX.cell 1
    have x2 : w2.cell? ⟨w.heap.size, 2, none⟩ = some (.int .i64 x.stage) := hX.cell 2
    have x3 : w2.cell? ⟨w.heap.size, 3, none⟩ = some (.int .i64 x.due) := hX.cell 3
    have x4 : w2.cell? ⟨w.heap.size, 4, none⟩ = some (.int .i64 x.left) := hX.cell 4
    have x5 : w2.cell? ⟨w.heap.size, 5, none⟩ = some (.int .i64 x.fittings) := hX.cell 5
    obtain ⟨u0, d0⟩ := own_cell hown2 (j := k * 6) (by omega)
    obtain ⟨u1, d1⟩ := own_cell hown2 (j := k * 6 + 1) (by omega)
    obtain ⟨u2, d2⟩ := own_cell hown2 (j := k * 6 + 2) (by omega)
    obtain ⟨u3, d3⟩ := own_cell hown2 (j := k * 6 + 3) (by omega)
    obtain ⟨u4, d4⟩ := own_cell hown2 (j := k * 6 + 4) (by omega)
    obtain ⟨u5, d5⟩ := own_cell hown2 (j := k * 6 + 5) (by omega)
    have f0 := hown2.frozenAt (k * 6)
    have f1 := hown2.frozenAt (k * 6 + 1)
    have f2 := hown2.frozenAt (k * 6 + 2)
    have f3 := hown2.frozenAt (k * 6 + 3)
    have f4 := hown2.frozenAt (k * 6 + 4)
    have f5 := hown2.frozenAt (k * 6 + 5)
    go_wp2_with fail
    go_returns
    have e : setMany (flat Order.cells xs) (k * 6) (Order.cells x) = flat Order.cells (xs.set k x) := by
      rw [setMany_eq _ _ _ (by rw [hlen, Order.cells_length]; omega), flat_set Order.cells_length xs k x (by rw [hn.out]; exact hk), Order.cells_length, show k * 6 + 6 = (k + 1) * 6 from by omega]
    refine OutL.of (l := xs.set k x) (by rw [putP, if_pos HO.out]) (by rw [List.length_set]; exact hn.out) ?_ ?_
    · rw [← e]
      exact own_base ((((((hown2.stored (k * 6) (.int .i64 x.id)).1.stored (k * 6 + 1) (.string x.customer)).1.stored (k * 6 + 2) (.int .i64 x.stage)).1.stored (k * 6 + 3) (.int .i64 x.due)).1.stored (k * 6 + 4) (.int .i64 x.left)).1.stored (k * 6 + 5) (.int .i64 x.fittings)).1 hv.size
    · have hgw : w.heap.size ≤ g2 := by have := hv.size; omega
      refine bl_set (bl_set (bl_set (bl_set (bl_set (bl_set (bl_trans hv hb2) ?_ _) ?_ _) ?_ _) ?_ _) ?_ _) ?_ _ <;> exact hgw


set_option maxRecDepth 100000 in
set_option maxHeartbeats 1600000 in
theorem WorkOn_c (A : Option Addr) (xs : List Order) (n c : Nat) (id : Int) (days : Int) (hn : Hid (xs.length = n)) (hm : (n : Int) ≤ 1048576) (hs : Hid (∀ x ∈ xs, x.customer.size ≤ 9223372036854775807)) (w : World) (hA : Arr w A (flat Order.cells xs)) :
    Calls Tryz.prog 15 #[.slice A n c, .int .i64 id, .int .i64 days] w (OutL 26 6 (workP xs id days).1.length (flat Order.cells (workP xs id days).1) (workP xs id days).2 w) := by
  go_enter Tryz.func15, Tryz.ntmps15
  go_wp2_with fail
  refine (within_c _ _ _ _).mono ?_
  rintro e w' ⟨rfl, rfl⟩
  go_wp2_with fail
  refine (orderCode_c A xs n c id (inB days 1 100) hn hm hs _ hA).mono ?_
  rintro e W ⟨rfl, hv⟩
  cases ho : ordsB xs
  · have HO := Lib.hid ho
    have HCV := Lib.hid (show codeV xs id (inB days 1 100) = #[.int .i64 0, .int .i64 1] by rw [codeV, ho]; rfl)
    rw [HCV.out]
    clear ho
    go_wp2_with fail
    go_returns
    exact OutL.no (stepP_inv HO.out) hv
  · cases hrg : (inB days 1 100)
    · have HO := Lib.hid ho
      have HRG := Lib.hid hrg
      have HCV := Lib.hid (show codeV xs id false = #[.int .i64 0, .int .i64 2] by rw [codeV, ho]; rfl)
      rw [HCV.out]
      clear ho hrg
      go_wp2_with fail
      go_returns
      exact OutL.no (stepP_rng HO.out HRG.out) hv
    have HRG := Lib.hid hrg
    have hrb := inB_iff.1 hrg
    clear hrg
    cases hh : hitO id xs
    · have HO := Lib.hid ho
      have HH := Lib.hid hh
      have HCV := Lib.hid (show codeV xs id true = #[.int .i64 0, .int .i64 3] by rw [codeV, ho, hh]; rfl)
      rw [HCV.out]
      clear ho hh
      go_wp2_with fail
      go_returns
      exact OutL.no (stepP_non HO.out HRG.out HH.out) hv
    · have HBAD := 0
      obtain ⟨x, hx⟩ := hit_at hh
      have HCV := Lib.hid (show codeV xs id true = #[.int .i64 (lbO id xs), .int .i64 0] by rw [codeV, ho, hh]; rfl)
      obtain ⟨k, hk⟩ : ∃ k, k = lbO id xs := ⟨_, rfl⟩
      have hkn : k < n := by rw [← hn.out, hk]; exact (List.getElem?_eq_some_iff.1 hx).1
      rw [← hk] at hx
      obtain ⟨ad, rfl, hab, c0, c1, c2, c3, c4, c5⟩ := Order.at_ (hA.below hv) hx
      have hox := ords_mem ho x (List.mem_of_getElem? hx)
      obtain ⟨hbi, hbs, hbd, hbl, hbf⟩ := ordB_bd hox
      have hsx := hs.out x (List.mem_of_getElem? hx)
      have HO := Lib.hid ho
      have HH := Lib.hid hh
      have HX := Lib.hid hx
      have HK := Lib.hid hk
      have HOX := Lib.hid hox
      rw [HCV.out, ← hk]
      clear ho hh hx hk hox
      have hR := fun w' (h : Arr w' (some ad) (flat Order.cells xs)) => replaced_c ad xs n c k ((workY days) x) 6 hn hm hkn hsx w' h
      have HP := Lib.hid (show workP xs id days = putP xs k ((workY days) x) 6 from stepP_put HO.out HRG.out HH.out HK.out HX.out rfl)
      obtain ⟨Q, hQ⟩ : ∃ Q, Q = putP xs k ((workY days) x) 6 := ⟨_, rfl⟩
      rw [← hQ] at hR HP
      replace hR := Lib.hid hR
      clear hQ HBAD
      go_wp2_with fail
      refine (hR.out _ (hA.below (bl_alloc hv _))).mono ?_
      rintro e W2 ⟨A2, c2', rfl, hown, hb2⟩
      go_wp2_with fail
      go_returns
      exact OutL.up HP.out (bl_alloc hv _) ⟨A2, c2', rfl, hown, hb2⟩

set_option maxRecDepth 100000 in
set_option maxHeartbeats 1600000 in
theorem MoveOrder_c (A : Option Addr) (xs : List Order) (n c : Nat) (id : Int) (hn : Hid (xs.length = n)) (hm : (n : Int) ≤ 1048576) (hs : Hid (∀ x ∈ xs, x.customer.size ≤ 9223372036854775807)) (w : World) (hA : Arr w A (flat Order.cells xs)) :
    Calls Tryz.prog 9 #[.slice A n c, .int .i64 id] w (OutL 26 6 (moveP xs id).1.length (flat Order.cells (moveP xs id).1) (moveP xs id).2 w) := by
  go_enter Tryz.func9, Tryz.ntmps9
  go_wp2_with fail
  refine (orderCode_c A xs n c id true hn hm hs _ hA).mono ?_
  rintro e W ⟨rfl, hv⟩
  cases ho : ordsB xs
  · have HO := Lib.hid ho
    have HCV := Lib.hid (show codeV xs id true = #[.int .i64 0, .int .i64 1] by rw [codeV, ho]; rfl)
    rw [HCV.out]
    clear ho
    go_wp2_with fail
    go_returns
    exact OutL.no (stepP_inv HO.out) hv
  · have HRG := Lib.hid True.intro
    cases hh : hitO id xs
    · have HO := Lib.hid ho
      have HH := Lib.hid hh
      have HCV := Lib.hid (show codeV xs id true = #[.int .i64 0, .int .i64 3] by rw [codeV, ho, hh]; rfl)
      rw [HCV.out]
      clear ho hh
      go_wp2_with fail
      go_returns
      exact OutL.no (stepP_non HO.out rfl HH.out) hv
    · have HBAD := 0
      obtain ⟨x, hx⟩ := hit_at hh
      have HCV := Lib.hid (show codeV xs id true = #[.int .i64 (lbO id xs), .int .i64 0] by rw [codeV, ho, hh]; rfl)
      obtain ⟨k, hk⟩ : ∃ k, k = lbO id xs := ⟨_, rfl⟩
      have hkn : k < n := by rw [← hn.out, hk]; exact (List.getElem?_eq_some_iff.1 hx).1
      rw [← hk] at hx
      obtain ⟨ad, rfl, hab, c0, c1, c2, c3, c4, c5⟩ := Order.at_ (hA.below hv) hx
      have hox := ords_mem ho x (List.mem_of_getElem? hx)
      obtain ⟨hbi, hbs, hbd, hbl, hbf⟩ := ordB_bd hox
      have hsx := hs.out x (List.mem_of_getElem? hx)
      have HO := Lib.hid ho
      have HH := Lib.hid hh
      have HX := Lib.hid hx
      have HK := Lib.hid hk
      have HOX := Lib.hid hox
      rw [HCV.out, ← hk]
      clear ho hh hx hk hox
      have hR := fun w' (h : Arr w' (some ad) (flat Order.cells xs)) => replaced_c ad xs n c k (moveY x) 6 hn hm hkn hsx w' h
      have HP := Lib.hid (show moveP xs id = putP xs k (moveY x) 6 from stepP_put HO.out rfl HH.out HK.out HX.out rfl)
      obtain ⟨Q, hQ⟩ : ∃ Q, Q = putP xs k (moveY x) 6 := ⟨_, rfl⟩
      rw [← hQ] at hR HP
      replace hR := Lib.hid hR
      clear hQ HBAD
      go_wp2_with fail
      refine (hR.out _ (hA.below (bl_alloc hv _))).mono ?_
      rintro e W2 ⟨A2, c2', rfl, hown, hb2⟩
      go_wp2_with fail
      go_returns
      exact OutL.up HP.out (bl_alloc hv _) ⟨A2, c2', rfl, hown, hb2⟩

set_option maxRecDepth 100000 in
set_option maxHeartbeats 1600000 in
theorem SMoveOrder_c (A : Option Addr) (xs : List Order) (n c : Nat) (id : Int) (hn : Hid (xs.length = n)) (hm : (n : Int) ≤ 1048576) (hs : Hid (∀ x ∈ xs, x.customer.size ≤ 9223372036854775807)) (w : World) (hA : Arr w A (flat Order.cells xs)) :
    Calls Tryz.prog 10 #[.slice A n c, .int .i64 id] w (OutL 26 6 (moveP xs id).1.length (flat Order.cells (moveP xs id).1) (moveP xs id).2 w) := by
  go_enter Tryz.func10, Tryz.ntmps10
  go_wp2_with fail
  refine (l25Named_c A xs n c id hn hm hs _ hA).mono ?_
  rintro e W ⟨rfl, hvb⟩
  have hv : Below w.heap.size w W := hvb
  rw [named_code]
  clear hvb
  cases ho : ordsB xs
  · have HO := Lib.hid ho
    have HCV := Lib.hid (show codeV xs id true = #[.int .i64 0, .int .i64 1] by rw [codeV, ho]; rfl)
    rw [HCV.out]
    clear ho
    go_wp2_with fail
    go_returns
    exact OutL.no (stepP_inv HO.out) hv
  · cases hh : hitO id xs
    · have HO := Lib.hid ho
      have HH := Lib.hid hh
      have HCV := Lib.hid (show codeV xs id true = #[.int .i64 0, .int .i64 3] by rw [codeV, ho, hh]; rfl)
      rw [HCV.out]
      clear ho hh
      go_wp2_with fail
      go_returns
      exact OutL.no (stepP_non HO.out rfl HH.out) hv
    · skip
      obtain ⟨x, hx⟩ := hit_at hh
      have HCV := Lib.hid (show codeV xs id true = #[.int .i64 (lbO id xs), .int .i64 0] by rw [codeV, ho, hh]; rfl)
      obtain ⟨k, hk⟩ : ∃ k, k = lbO id xs := ⟨_, rfl⟩
      have hkn : k < n := by rw [← hn.out, hk]; exact (List.getElem?_eq_some_iff.1 hx).1
      rw [← hk] at hx
      obtain ⟨ad, rfl, hab, c0, c1, c2, c3, c4, c5⟩ := Order.at_ (hA.below hv) hx
      have hox := ords_mem ho x (List.mem_of_getElem? hx)
      obtain ⟨hbi, hbs, hbd, hbl, hbf⟩ := ordB_bd hox
      have hsx := hs.out x (List.mem_of_getElem? hx)
      have HO := Lib.hid ho
      have HH := Lib.hid hh
      have HX := Lib.hid hx
      have HK := Lib.hid hk
      have HOX := Lib.hid hox
      rw [HCV.out, ← hk]
      clear ho hh hx hk hox
      have hcv := HCV.out
      have HP := Lib.hid (show moveP xs id = putP xs k (moveY x) 6 from stepP_put HO.out rfl HH.out HK.out HX.out rfl)
      clear hcv
      have hY : Blk (W.alloc (Obj.cells #[Value.int IntKind.i64 x.id, Value.string x.customer, Value.int IntKind.i64 (x.stage + 1), Value.int IntKind.i64 x.due, Value.int IntKind.i64 x.left, Value.int IntKind.i64 x.fittings] 26)) W.heap.size 26 #[Value.int IntKind.i64 x.id, Value.string x.customer, Value.int IntKind.i64 (x.stage + 1), Value.int IntKind.i64 x.due, Value.int IntKind.i64 x.left, Value.int IntKind.i64 x.fittings] := Blk.new _ _ _
      have HY := Lib.hid hY
      clear hY
      have hsy : (moveY x).customer.size ≤ 9223372036854775807 := hsx
      go_wp2_with fail
      refine (l25One_c ⟨W.heap.size, 0, none⟩ (moveY x) hsy _ (HY.out.cell 0) (HY.out.cell 1) (HY.out.cell 2) (HY.out.cell 3) (HY.out.cell 4) (HY.out.cell 5)).mono ?_
      rintro e w' ⟨rfl, rfl⟩
      cases hoy : ordB (moveY x)
      · have HOY := Lib.hid hoy
        clear hoy
        go_wp2_with fail
        go_returns
        exact OutL.no (HP.out.trans (by rw [putP, if_neg (by simp [HOY.out])])) (bl_alloc hv _)
      · have HOY := Lib.hid hoy
        clear hoy
        go_wp2_with fail
        refine (l25Put_c ad xs n c k (moveY x) hn hm hkn _ (hA.below (bl_alloc hv _))).mono ?_
        rintro e W2 ⟨A2, c2', rfl, hown, hb2⟩
        go_wp2_with fail
        go_returns
        have hv2 := bl_alloc hv (Obj.cells #[Value.int IntKind.i64 x.id, Value.string x.customer, Value.int IntKind.i64 (x.stage + 1), Value.int IntKind.i64 x.due, Value.int IntKind.i64 x.left, Value.int IntKind.i64 x.fittings] 26)
        exact OutL.of (l := xs.set k (moveY x)) (HP.out.trans (by rw [putP, if_pos HOY.out])) (by rw [List.length_set]; exact hn.out) (own_base hown hv2.size) (bl_trans hv2 hb2)

set_option maxRecDepth 100000 in
set_option maxHeartbeats 1600000 in
theorem SWorkOn_c (A : Option Addr) (xs : List Order) (n c : Nat) (id : Int) (days : Int) (hn : Hid (xs.length = n)) (hm : (n : Int) ≤ 1048576) (hs : Hid (∀ x ∈ xs, x.customer.size ≤ 9223372036854775807)) (w : World) (hA : Arr w A (flat Order.cells xs)) :
    Calls Tryz.prog 16 #[.slice A n c, .int .i64 id, .int .i64 days] w (OutL 26 6 (workP xs id days).1.length (flat Order.cells (workP xs id days).1) (workP xs id days).2 w) := by
  go_enter Tryz.func16, Tryz.ntmps16
  go_wp2_with fail
  refine (l25Ok_c A xs n c hn hm hs _ hA).mono ?_
  rintro e W0 ⟨rfl, hv0⟩
  cases ho : ordsB xs
  · have HO := Lib.hid ho
    clear ho
    go_wp2_with fail
    go_returns
    exact OutL.no (stepP_inv HO.out) hv0
  · cases hrg : inB days 1 100
    · have HO := Lib.hid ho
      have HRG := Lib.hid hrg
      have hin := fun w => l00In_c days 1 100 w
      rw [hrg] at hin
      replace hin := Lib.hid hin
      clear ho hrg
      go_wp2_with fail
      refine (hin.out _).mono ?_
      rintro e w' ⟨rfl, rfl⟩
      go_wp2_with fail
      go_returns
      exact OutL.no (stepP_rng HO.out HRG.out) hv0
    have HRG := Lib.hid hrg
    have hrb := inB_iff.1 hrg
    have hin := fun w => l00In_c days 1 100 w
    rw [hrg] at hin
    replace hin := Lib.hid hin
    clear hrg
    go_wp2_with fail
    refine (hin.out _).mono ?_
    rintro e w' ⟨rfl, rfl⟩
    go_wp2_with fail
    refine (l25Named_c A xs n c id hn hm hs _ (hA.below hv0)).mono ?_
    rintro e W ⟨rfl, hvb⟩
    have hv : Below w.heap.size w W := bl_trans hv0 hvb
    rw [named_code]
    clear hvb
    cases hh : hitO id xs
    · have HO := Lib.hid ho
      have HH := Lib.hid hh
      have HCV := Lib.hid (show codeV xs id true = #[.int .i64 0, .int .i64 3] by rw [codeV, ho, hh]; rfl)
      rw [HCV.out]
      clear ho hh
      go_wp2_with fail
      go_returns
      exact OutL.no (stepP_non HO.out HRG.out HH.out) hv
    · skip
      obtain ⟨x, hx⟩ := hit_at hh
      have HCV := Lib.hid (show codeV xs id true = #[.int .i64 (lbO id xs), .int .i64 0] by rw [codeV, ho, hh]; rfl)
      obtain ⟨k, hk⟩ : ∃ k, k = lbO id xs := ⟨_, rfl⟩
      have hkn : k < n := by rw [← hn.out, hk]; exact (List.getElem?_eq_some_iff.1 hx).1
      rw [← hk] at hx
      obtain ⟨ad, rfl, hab, c0, c1, c2, c3, c4, c5⟩ := Order.at_ (hA.below hv) hx
      have hox := ords_mem ho x (List.mem_of_getElem? hx)
      obtain ⟨hbi, hbs, hbd, hbl, hbf⟩ := ordB_bd hox
      have hsx := hs.out x (List.mem_of_getElem? hx)
      have HO := Lib.hid ho
      have HH := Lib.hid hh
      have HX := Lib.hid hx
      have HK := Lib.hid hk
      have HOX := Lib.hid hox
      rw [HCV.out, ← hk]
      clear ho hh hx hk hox
      have hcv := HCV.out
      have HP := Lib.hid (show workP xs id days = putP xs k ((workY days) x) 6 from stepP_put HO.out HRG.out HH.out HK.out HX.out rfl)
      clear hcv
      have hi0 : (0 : Int) ≤ (k : Int) := by omega
      have hi1 : (k : Int) < (n : Int) := by omega
      by_cases hlt : x.left < days
      · have HOY := Lib.hid (show ordB (workY days x) = false by rw [workY_ok HOX.out hrb.1 hrb.2, decide_eq_false (by omega)])
        go_wp2_with fail
        go_returns
        exact OutL.no (HP.out.trans (by rw [putP, if_neg (by simp [HOY.out])])) hv
      · have HOY := Lib.hid (show ordB (workY days x) = true by rw [workY_ok HOX.out hrb.1 hrb.2, decide_eq_true (by omega)])
        go_wp2_with fail
        refine (l25Put_c ad xs n c k ((workY days) x) hn hm hkn _ (hA.below (bl_alloc hv _))).mono ?_
        rintro e W2 ⟨A2, c2', rfl, hown, hb2⟩
        go_wp2_with fail
        go_returns
        have hv2 := bl_alloc hv (Obj.cells #[Value.int IntKind.i64 x.id, Value.string x.customer, Value.int IntKind.i64 x.stage, Value.int IntKind.i64 x.due, Value.int IntKind.i64 (x.left - days), Value.int IntKind.i64 x.fittings] 26)
        exact OutL.of (l := xs.set k ((workY days) x)) (HP.out.trans (by rw [putP, if_pos HOY.out])) (by rw [List.length_set]; exact hn.out) (own_base hown hv2.size) (bl_trans hv2 hb2)

end Go.Proofs.YtapnllbbdfoaaaaGreatDoor

namespace Go.Proofs.YtapnllbbdfoaaaaGreatDoor
open Go.RowKit

set_option maxRecDepth 100000 in
set_option maxHeartbeats 1600000 in
theorem FitOrder_c (A : Option Addr) (xs : List Order) (n c : Nat) (id : Int) (more : Int) (hn : Hid (xs.length = n)) (hm : (n : Int) ≤ 1048576) (hs : Hid (∀ x ∈ xs, x.customer.size ≤ 9223372036854775807)) (w : World) (hA : Arr w A (flat Order.cells xs)) :
    Calls Tryz.prog 12 #[.slice A n c, .int .i64 id, .int .i64 more] w (OutL 26 6 (fitP xs id more).1.length (flat Order.cells (fitP xs id more).1) (fitP xs id more).2 w) := by
  go_enter Tryz.func12, Tryz.ntmps12
  go_wp2_with fail
  refine (within_c _ _ _ _).mono ?_
  rintro e w' ⟨rfl, rfl⟩
  go_wp2_with fail
  refine (orderCode_c A xs n c id (inB more 0 100) hn hm hs _ hA).mono ?_
  rintro e W ⟨rfl, hv⟩
  cases ho : ordsB xs
  · have HO := Lib.hid ho
    have HCV := Lib.hid (show codeV xs id (inB more 0 100) = #[.int .i64 0, .int .i64 1] by rw [codeV, ho]; rfl)
    rw [HCV.out]
    clear ho
    go_wp2_with fail
    go_returns
    exact OutL.no (stepP_inv HO.out) hv
  · cases hrg : (inB more 0 100)
    · have HO := Lib.hid ho
      have HRG := Lib.hid hrg
      have HCV := Lib.hid (show codeV xs id false = #[.int .i64 0, .int .i64 2] by rw [codeV, ho]; rfl)
      rw [HCV.out]
      clear ho hrg
      go_wp2_with fail
      go_returns
      exact OutL.no (stepP_rng HO.out HRG.out) hv
    have HRG := Lib.hid hrg
    have hrb := inB_iff.1 hrg
    clear hrg
    cases hh : hitO id xs
    · have HO := Lib.hid ho
      have HH := Lib.hid hh
      have HCV := Lib.hid (show codeV xs id true = #[.int .i64 0, .int .i64 3] by rw [codeV, ho, hh]; rfl)
      rw [HCV.out]
      clear ho hh
      go_wp2_with fail
      go_returns
      exact OutL.no (stepP_non HO.out HRG.out HH.out) hv
    · have HBAD := 0
      obtain ⟨x, hx⟩ := hit_at hh
      have HCV := Lib.hid (show codeV xs id true = #[.int .i64 (lbO id xs), .int .i64 0] by rw [codeV, ho, hh]; rfl)
      obtain ⟨k, hk⟩ : ∃ k, k = lbO id xs := ⟨_, rfl⟩
      have hkn : k < n := by rw [← hn.out, hk]; exact (List.getElem?_eq_some_iff.1 hx).1
      rw [← hk] at hx
      obtain ⟨ad, rfl, hab, c0, c1, c2, c3, c4, c5⟩ := Order.at_ (hA.below hv) hx
      have hox := ords_mem ho x (List.mem_of_getElem? hx)
      obtain ⟨hbi, hbs, hbd, hbl, hbf⟩ := ordB_bd hox
      have hsx := hs.out x (List.mem_of_getElem? hx)
      have HO := Lib.hid ho
      have HH := Lib.hid hh
      have HX := Lib.hid hx
      have HK := Lib.hid hk
      have HOX := Lib.hid hox
      rw [HCV.out, ← hk]
      clear ho hh hx hk hox
      have hi0 : (0 : Int) ≤ (k : Int) := by omega
      have hi1 : (k : Int) < (n : Int) := by omega
      cases hs1 : (x.stage != 1)
      case true =>
        have HBA := Lib.hid (show fitBad x = true by unfold fitBad; rw [hs1]; rfl)
        have HP := Lib.hid (show fitP xs id more = ([], 6) from stepP_bad HO.out HRG.out HH.out (HK.out ▸ HX.out) HBA.out)
        go_wp2_with fail
        go_returns
        exact OutL.no HP.out hv
      cases hf0 : (x.fittings == 0)
      case true =>
        have HBA := Lib.hid (show fitBad x = true by unfold fitBad; rw [hs1, hf0]; rfl)
        have HP := Lib.hid (show fitP xs id more = ([], 6) from stepP_bad HO.out HRG.out HH.out (HK.out ▸ HX.out) HBA.out)
        go_wp2_with fail
        go_returns
        exact OutL.no HP.out hv
      have HBA := Lib.hid (show fitBad x = false by unfold fitBad; rw [hs1, hf0]; rfl)
      have HP := Lib.hid (show fitP xs id more = putP xs k (fitY more x) 5 from stepP_put HO.out HRG.out HH.out HK.out HX.out HBA.out)
      have hsy : (fitY more x).customer.size ≤ 9223372036854775807 := hsx
      have hR := fun w' (h : Arr w' (some ad) (flat Order.cells xs)) => replaced_c ad xs n c k (fitY more x) 5 hn hm hkn hsy w' h
      obtain ⟨Q, hQ⟩ : ∃ Q, Q = putP xs k (fitY more x) 5 := ⟨_, rfl⟩
      rw [← hQ] at hR HP
      replace hR := Lib.hid hR
      clear hQ HBAD
      go_wp2_with fail
      refine (hR.out _ (hA.below (bl_alloc hv _))).mono ?_
      rintro e W2 ⟨A2, c2', rfl, hown, hb2⟩
      go_wp2_with fail
      go_returns
      exact OutL.up HP.out (bl_alloc hv _) ⟨A2, c2', rfl, hown, hb2⟩

set_option maxRecDepth 100000 in
set_option maxHeartbeats 1600000 in
theorem SFitOrder_c (A : Option Addr) (xs : List Order) (n c : Nat) (id : Int) (more : Int) (hn : Hid (xs.length = n)) (hm : (n : Int) ≤ 1048576) (hs : Hid (∀ x ∈ xs, x.customer.size ≤ 9223372036854775807)) (w : World) (hA : Arr w A (flat Order.cells xs)) :
    Calls Tryz.prog 13 #[.slice A n c, .int .i64 id, .int .i64 more] w (OutL 26 6 (fitP xs id more).1.length (flat Order.cells (fitP xs id more).1) (fitP xs id more).2 w) := by
  go_enter Tryz.func13, Tryz.ntmps13
  go_wp2_with fail
  refine (l25Ok_c A xs n c hn hm hs _ hA).mono ?_
  rintro e W0 ⟨rfl, hv0⟩
  cases ho : ordsB xs
  · have HO := Lib.hid ho
    clear ho
    go_wp2_with fail
    go_returns
    exact OutL.no (stepP_inv HO.out) hv0
  · cases hrg : inB more 0 100
    · have HO := Lib.hid ho
      have HRG := Lib.hid hrg
      have hin := fun w => l00In_c more 0 100 w
      rw [hrg] at hin
      replace hin := Lib.hid hin
      clear ho hrg
      go_wp2_with fail
      refine (hin.out _).mono ?_
      rintro e w' ⟨rfl, rfl⟩
      go_wp2_with fail
      go_returns
      exact OutL.no (stepP_rng HO.out HRG.out) hv0
    have HRG := Lib.hid hrg
    have hrb := inB_iff.1 hrg
    have hin := fun w => l00In_c more 0 100 w
    rw [hrg] at hin
    replace hin := Lib.hid hin
    clear hrg
    go_wp2_with fail
    refine (hin.out _).mono ?_
    rintro e w' ⟨rfl, rfl⟩
    go_wp2_with fail
    refine (l25Named_c A xs n c id hn hm hs _ (hA.below hv0)).mono ?_
    rintro e W ⟨rfl, hvb⟩
    have hv : Below w.heap.size w W := bl_trans hv0 hvb
    rw [named_code]
    clear hvb
    cases hh : hitO id xs
    · have HO := Lib.hid ho
      have HH := Lib.hid hh
      have HCV := Lib.hid (show codeV xs id true = #[.int .i64 0, .int .i64 3] by rw [codeV, ho, hh]; rfl)
      rw [HCV.out]
      clear ho hh
      go_wp2_with fail
      go_returns
      exact OutL.no (stepP_non HO.out HRG.out HH.out) hv
    · skip
      obtain ⟨x, hx⟩ := hit_at hh
      have HCV := Lib.hid (show codeV xs id true = #[.int .i64 (lbO id xs), .int .i64 0] by rw [codeV, ho, hh]; rfl)
      obtain ⟨k, hk⟩ : ∃ k, k = lbO id xs := ⟨_, rfl⟩
      have hkn : k < n := by rw [← hn.out, hk]; exact (List.getElem?_eq_some_iff.1 hx).1
      rw [← hk] at hx
      obtain ⟨ad, rfl, hab, c0, c1, c2, c3, c4, c5⟩ := Order.at_ (hA.below hv) hx
      have hox := ords_mem ho x (List.mem_of_getElem? hx)
      obtain ⟨hbi, hbs, hbd, hbl, hbf⟩ := ordB_bd hox
      have hsx := hs.out x (List.mem_of_getElem? hx)
      have HO := Lib.hid ho
      have HH := Lib.hid hh
      have HX := Lib.hid hx
      have HK := Lib.hid hk
      have HOX := Lib.hid hox
      rw [HCV.out, ← hk]
      clear ho hh hx hk hox
      have hi0 : (0 : Int) ≤ (k : Int) := by omega
      have hi1 : (k : Int) < (n : Int) := by omega
      cases hs1 : (x.stage != 1)
      case true =>
        have HBA := Lib.hid (show fitBad x = true by unfold fitBad; rw [hs1]; rfl)
        have HP := Lib.hid (show fitP xs id more = ([], 6) from stepP_bad HO.out HRG.out HH.out (HK.out ▸ HX.out) HBA.out)
        go_wp2_with fail
        go_returns
        exact OutL.no HP.out hv
      cases hf0 : (x.fittings == 0)
      case true =>
        have HBA := Lib.hid (show fitBad x = true by unfold fitBad; rw [hs1, hf0]; rfl)
        have HP := Lib.hid (show fitP xs id more = ([], 6) from stepP_bad HO.out HRG.out HH.out (HK.out ▸ HX.out) HBA.out)
        go_wp2_with fail
        go_returns
        exact OutL.no HP.out hv
      have HBA := Lib.hid (show fitBad x = false by unfold fitBad; rw [hs1, hf0]; rfl)
      have HP := Lib.hid (show fitP xs id more = putP xs k (fitY more x) 5 from stepP_put HO.out HRG.out HH.out HK.out HX.out HBA.out)
      have hsy : (fitY more x).customer.size ≤ 9223372036854775807 := hsx
      have hY : Blk (W.alloc (Obj.cells #[Value.int IntKind.i64 x.id, Value.string x.customer, Value.int IntKind.i64 x.stage, Value.int IntKind.i64 x.due, Value.int IntKind.i64 (x.left + more), Value.int IntKind.i64 (x.fittings - 1)] 26)) W.heap.size 26 #[Value.int IntKind.i64 x.id, Value.string x.customer, Value.int IntKind.i64 x.stage, Value.int IntKind.i64 x.due, Value.int IntKind.i64 (x.left + more), Value.int IntKind.i64 (x.fittings - 1)] := Blk.new _ _ _
      have HY := Lib.hid hY
      clear hY
      go_wp2_with fail
      refine (l25One_c ⟨W.heap.size, 0, none⟩ (fitY more x) hsy _ (HY.out.cell 0) (HY.out.cell 1) (HY.out.cell 2) (HY.out.cell 3) (HY.out.cell 4) (HY.out.cell 5)).mono ?_
      rintro e w' ⟨rfl, rfl⟩
      cases hoy : ordB (fitY more x)
      · have HOY := Lib.hid hoy
        clear hoy
        go_wp2_with fail
        go_returns
        exact OutL.no (HP.out.trans (by rw [putP, if_neg (by simp [HOY.out])])) (bl_alloc hv _)
      · have HOY := Lib.hid hoy
        clear hoy
        go_wp2_with fail
        refine (l25Put_c ad xs n c k ((fitY more) x) hn hm hkn _ (hA.below (bl_alloc hv _))).mono ?_
        rintro e W2 ⟨A2, c2', rfl, hown, hb2⟩
        go_wp2_with fail
        go_returns
        have hv2 := bl_alloc hv (Obj.cells #[Value.int IntKind.i64 x.id, Value.string x.customer, Value.int IntKind.i64 x.stage, Value.int IntKind.i64 x.due, Value.int IntKind.i64 (x.left + more), Value.int IntKind.i64 (x.fittings - 1)] 26)
        exact OutL.of (l := xs.set k ((fitY more) x)) (HP.out.trans (by rw [putP, if_pos HOY.out])) (by rw [List.length_set]; exact hn.out) (own_base hown hv2.size) (bl_trans hv2 hb2)

end Go.Proofs.YtapnllbbdfoaaaaGreatDoor
