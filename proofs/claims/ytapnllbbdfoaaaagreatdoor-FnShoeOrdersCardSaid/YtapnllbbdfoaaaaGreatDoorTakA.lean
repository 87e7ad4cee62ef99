/- TakeOrder: what comes out; the program's function. -/
import Derived.Test.YtapnllbbdfoaaaaGreatDoorMOrdC
import Derived.Test.YtapnllbbdfoaaaaGreatDoorMInsP
import Derived.Deep.RegionHeld3
namespace Go.Proofs.YtapnllbbdfoaaaaGreatDoor
open Go.RowKit

def takeP (xs : List Order) (x : Order) : List Order × Int :=
  if ordsB xs = true then (if ordB x = true then (if hitO x.id xs = true then ([], 4) else if xs.length = 30 then ([], 5) else (insL xs (lbO x.id xs) x, 0)) else ([], 2)) else ([], 1)
theorem ords_len {xs : List Order} (h : ordsB xs = true) : xs.length ≤ 30 := by
  simp only [ordsB, Bool.and_eq_true, decide_eq_true_eq] at h
  have := h.2
  omega
theorem takeP_len (xs : List Order) (x : Order) : ((takeP xs x).1.length : Int) ≤ 30 := by
  unfold takeP
  split
  · rename_i h
    have := ords_len h
    repeat' split
    all_goals (first | (simp; done) | skip)
    rw [insL_len _ _ _ (lbO_le _ _)]
    omega
  · simp
section
variable {xs : List Order} {x : Order}
theorem takeP_inv (h : ordsB xs = false) : takeP xs x = ([], 1) := by unfold takeP; rw [if_neg (by simp [h])]
theorem takeP_rng (h : ordsB xs = true) (h2 : ordB x = false) : takeP xs x = ([], 2) := by unfold takeP; rw [if_pos h, if_neg (by simp [h2])]
theorem takeP_hit (h : ordsB xs = true) (h2 : ordB x = true) (h3 : hitO x.id xs = true) : takeP xs x = ([], 4) := by unfold takeP; rw [if_pos h, if_pos h2, if_pos h3]
theorem takeP_full (h : ordsB xs = true) (h2 : ordB x = true) (h3 : hitO x.id xs = false) (h4 : xs.length = 30) : takeP xs x = ([], 5) := by unfold takeP; rw [if_pos h, if_pos h2, if_neg (by simp [h3]), if_pos h4]
theorem takeP_ok (h : ordsB xs = true) (h2 : ordB x = true) (h3 : hitO x.id xs = false) (h4 : ¬ xs.length = 30) : takeP xs x = (insL xs (lbO x.id xs) x, 0) := by unfold takeP; rw [if_pos h, if_pos h2, if_neg (by simp [h3]), if_neg h4]
end
theorem orderPlaceT_c (A : Option Addr) (xs : List Order) (n c : Nat) (id : Int) (hn : Hid (xs.length = n)) (hm : (n : Int) ≤ 1048576) (hp : Hid (xs.Pairwise (fun a b => a.id < b.id))) (w : World) (hA : Arr w A (flat Order.cells xs)) :
    Calls Tryz.prog 38 #[.slice A n c, .int .i64 id] w (RetT #[.int .i64 (lbO id xs), .bool (hitO id xs)] w) := by
  go_enter Tryz.func38, Tryz.ntmps38
  go_wp2_with fail
  refine (search_c A xs n c id hn hm hp _ hA).mono ?_
  rintro e w1 ⟨rfl, hb1⟩
  go_wp2_with fail
  go_returns
  exact RetT.mk rfl hb1
set_option maxRecDepth 100000 in
set_option maxHeartbeats 2000000 in
theorem TakeOrder_c (ad : Addr) (xs : List Order) (n c : Nat) (x : Order) (hn : Hid (xs.length = n)) (hm : (n : Int) ≤ 1048576) (hs : Hid (∀ x ∈ xs, x.customer.size ≤ 9223372036854775807)) (hsx : x.customer.size ≤ 9223372036854775807) (w : World) (hA : Arr w (some ad) (flat Order.cells xs)) :
    Calls Tryz.prog 6 #[.slice (some ad) n c, .agg #[Value.int IntKind.i64 x.id, Value.string x.customer, Value.int IntKind.i64 x.stage, Value.int IntKind.i64 x.due, Value.int IntKind.i64 x.left, Value.int IntKind.i64 x.fittings]] w (OutL 26 6 (takeP xs x).1.length (flat Order.cells (takeP xs x).1) (takeP xs x).2 w) := by
  have hlen : (flat Order.cells xs).length = n * 6 := by rw [flat_length Order.cells_length, hn.out]
  go_enter Tryz.func6, Tryz.ntmps6
  go_wp2_with fail
  have hv0 := bl_alloc (Below.refl w.heap.size w) (Obj.cells #[Value.int IntKind.i64 x.id, Value.string x.customer, Value.int IntKind.i64 x.stage, Value.int IntKind.i64 x.due, Value.int IntKind.i64 x.left, Value.int IntKind.i64 x.fittings] 26)
  have hX0 : Blk (w.alloc (Obj.cells #[Value.int IntKind.i64 x.id, Value.string x.customer, Value.int IntKind.i64 x.stage, Value.int IntKind.i64 x.due, Value.int IntKind.i64 x.left, Value.int IntKind.i64 x.fittings] 26)) w.heap.size 26 #[Value.int IntKind.i64 x.id, Value.string x.customer, Value.int IntKind.i64 x.stage, Value.int IntKind.i64 x.due, Value.int IntKind.i64 x.left, Value.int IntKind.i64 x.fittings] := Blk.new _ _ _
  refine (ValidOrders_c (some ad) xs n c hn hm hs _ (hA.below hv0)).mono ?_
  rintro e W ⟨rfl, hb1⟩
  have hv1 : Below w.heap.size w W := bl_trans hv0 hb1
  have hX1 := hX0.below hb1
  have x0 := hX1.cell 0
  have x1 := hX1.cell 1
  have x2 := hX1.cell 2
  have x3 := hX1.cell 3
  have x4 := hX1.cell 4
  have x5 := hX1.cell 5
  dsimp at x0 x1 x2 x3 x4 x5
  clear hX0 hb1
  cases ho : ordsB xs
  · have HO := Lib.hid ho
    clear ho
    go_wp2_with fail
    go_returns
    exact OutL.no (takeP_inv HO.out) hv1
  have HO := Lib.hid ho
  clear ho
  go_wp2_with fail
  refine (validOrder_c x hsx _).mono ?_
  rintro e W2 ⟨rfl, hb2⟩
  have hv2 : Below w.heap.size w W2 := bl_trans hv1 hb2
  have hX2 := hX1.below hb2
  clear x0 x1 x2 x3 x4 x5
  have x0 := hX2.cell 0
  dsimp at x0
  clear hX1 hb2
  cases hq : ordB x
  · have HQ := Lib.hid hq
    clear hq
    go_wp2_with fail
    go_returns
    exact OutL.no (takeP_rng HO.out HQ.out) hv2
  have HQ := Lib.hid hq
  clear hq
  go_wp2_with fail
  refine (orderPlaceT_c (some ad) xs n c x.id hn hm (Lib.hid (ords_pair HO.out)) _ (hA.below hv2)).mono ?_
  rintro e W3 ⟨rfl, hb3⟩
  have hv3 : Below w.heap.size w W3 := bl_trans hv2 hb3
  have hX3 := hX2.below hb3
  clear hX2 hb3 x0
  cases hh : hitO x.id xs
  case true =>
    have HH := Lib.hid hh
    clear hh
    go_wp2_with fail
    go_returns
    exact OutL.no (takeP_hit HO.out HQ.out HH.out) hv3
  have HH := Lib.hid hh
  clear hh
  by_cases hf : n = 30
  · subst hf
    go_wp2_with fail
    go_returns
    exact OutL.no (takeP_full HO.out HQ.out HH.out hn.out) hv3
  have hni : ¬ (n : Int) = 30 := by omega
  go_wp2_with fail
  have hi : lbO x.id xs ≤ n := by rw [← hn.out]; exact lbO_le _ _
  have hn30 : n ≤ 30 := by rw [← hn.out]; exact ords_len HO.out
  have hgw : w.heap.size < W3.heap.size := hX3.lt
  obtain ⟨w0, hw0⟩ : ∃ w0, w0 = w := ⟨_, rfl⟩
  obtain ⟨w3, hw3⟩ : ∃ w3, w3 = W3 := ⟨_, rfl⟩
  subst hw0
  subst hw3
  refine wp_region_held_drew (S := fun w' => Below w0.heap.size w0 w' ∧ Blk w' w0.heap.size 26 #[Value.int IntKind.i64 x.id, Value.string x.customer, Value.int IntKind.i64 x.stage, Value.int IntKind.i64 x.due, Value.int IntKind.i64 x.left, Value.int IntKind.i64 x.fittings]) (by kernel_rfl) ?_ (fun hHeld => ?_)
  · exact ⟨hv3.drew, hX3.below (Below.refl _ _).drew⟩
  clear hv3 hX3 hv0 hv1 hv2
  refine wpAnyH_take (i := 0) (oi := { dst := some 29, op := _, type := _, pos := _, after := _, guard := _ }) (v := ?_) rfl (by kernel_rfl) (by kernel_rfl) (by kernel_rfl) (fun _ _ _ h => h) (Or.inl ⟨by kernel_rfl, ?_⟩) (by assumption) ?_
  rotate_left
  · intro w hSw
    try dsimp only at hSw
    go_simp
    try with_reducible rfl
  try simp only [Act.put, List.setIfInBounds_toArray, List.set_cons_zero, List.set_cons_succ]
  refine wpAnyH_take (i := 2) (oi := { dst := some 31, op := _, type := _, pos := _, after := _, guard := _ }) (v := ?_) rfl (by kernel_rfl) (by kernel_rfl) (by kernel_rfl) (fun _ _ _ h => h) (Or.inl ⟨by kernel_rfl, ?_⟩) (by assumption) ?_
  rotate_left
  · intro w hSw
    try dsimp only at hSw
    go_simp
    try with_reducible rfl
  try simp only [Act.put, List.setIfInBounds_toArray, List.set_cons_zero, List.set_cons_succ]
  refine wpAnyH_take (i := 3) (oi := { dst := some 32, op := _, type := _, pos := _, after := _, guard := _ }) (v := ?_) rfl (by kernel_rfl) (by kernel_rfl) (by kernel_rfl) (fun _ _ _ h => h) (Or.inl ⟨by kernel_rfl, ?_⟩) (by assumption) ?_
  rotate_left
  · intro w hSw
    try dsimp only at hSw
    have y0 : w.cell? ⟨w0.heap.size, 0, none⟩ = some (.int .i64 x.id) := hSw.2.cell 0
    have y1 : w.cell? ⟨w0.heap.size, 1, none⟩ = some (.string x.customer) := hSw.2.cell 1
    have y2 : w.cell? ⟨w0.heap.size, 2, none⟩ = some (.int .i64 x.stage) := hSw.2.cell 2
    have y3 : w.cell? ⟨w0.heap.size, 3, none⟩ = some (.int .i64 x.due) := hSw.2.cell 3
    have y4 : w.cell? ⟨w0.heap.size, 4, none⟩ = some (.int .i64 x.left) := hSw.2.cell 4
    have y5 : w.cell? ⟨w0.heap.size, 5, none⟩ = some (.int .i64 x.fittings) := hSw.2.cell 5
    go_simp
    try with_reducible rfl
  try simp only [Act.put, List.setIfInBounds_toArray, List.set_cons_zero, List.set_cons_succ]
  refine wpAnyH_ready (rs := [1, 4]) (by kernel_rfl) (by simp) ?_
  refine AllReadyH.cons (o := { dst := some 30, op := _, type := _, pos := _, after := _, guard := _ }) rfl (fun K hK => ?_) (AllReadyH.cons (o := { dst := some 33, op := _, type := _, pos := _, after := _, guard := _ }) rfl (fun K hK => ?_) AllReadyH.nil)
  · go_simp
    (try dsimp only at hHeld); go_split_ands
    refine (cloneOrder_c ad xs n c hn hm _ (hA.below (by assumption))).mono ?_
    rintro e W ⟨A2, c2, rfl, hown, hb⟩
    replace hown : W.ownsRow w3.heap.size 26 6 (.slice A2 n c2) n (flat Order.cells xs) := hown
    have hbs : w3.heap.size ≤ W.heap.size := hb.size
    go_wp2_with fail
    refine hK.out _ _ ?_ (fun hHeld => ?_)
    · (try dsimp only); go_split_ands; exact ⟨bl_trans (by assumption) hb, Blk.below (by assumption) hb⟩
    clear hK K
    try simp only [Act.put, List.setIfInBounds_toArray, List.set_cons_zero, List.set_cons_succ]
    refine wpAnyH_ready (rs := [4]) (by kernel_rfl) (by simp) ?_
    refine AllReadyH.cons (o := { dst := some 33, op := _, type := _, pos := _, after := _, guard := _ }) rfl (fun K hK => ?_) AllReadyH.nil
    go_simp
    (try dsimp only at hHeld); go_split_ands
    obtain ⟨W2, hW2⟩ : ∃ W2, W2 = World.alloc W (Obj.cells #[Value.int IntKind.i64 x.id, Value.string x.customer, Value.int IntKind.i64 x.stage, Value.int IntKind.i64 x.due, Value.int IntKind.i64 x.left, Value.int IntKind.i64 x.fittings] 26) := ⟨_, rfl⟩
    obtain ⟨gy, hgy⟩ : ∃ gy, gy = (W).heap.size := ⟨_, rfl⟩
    have hb : Below (W).heap.size (W) W2 := by rw [hW2]; exact bl_alloc (Below.refl _ _) _
    have hY : Blk W2 gy 26 #[Value.int IntKind.i64 x.id, Value.string x.customer, Value.int IntKind.i64 x.stage, Value.int IntKind.i64 x.due, Value.int IntKind.i64 x.left, Value.int IntKind.i64 x.fittings] := by rw [hW2, hgy]; exact Blk.new _ _ _
    have hgne : ∀ k, (Value.slice A2 n c2).ownBlock = some k → k ≠ gy := fun k hk => by have := (hown.lt k hk).2; omega
    replace hown := own_below hown hb
    replace hbs : w3.heap.size ≤ W2.heap.size := Nat.le_trans hbs hb.size
    rw [← hW2, ← hgy]
    clear hW2 hgy
    refine hK.out _ _ ?_ (fun hHeld => ?_)
    · (try dsimp only); go_split_ands; exact ⟨bl_trans (by assumption) hb, Blk.below (by assumption) hb⟩
    clear hK K
    try simp only [Act.put, List.setIfInBounds_toArray, List.set_cons_zero, List.set_cons_succ]
    refine wpAnyH_ready (rs := [5]) (by kernel_rfl) (by simp) ?_
    refine AllReadyH.cons (o := { dst := some 34, op := _, type := _, pos := _, after := _, guard := _ }) rfl (fun K hK => ?_) AllReadyH.nil
    go_simp
    (try dsimp only at hHeld); go_split_ands
    refine (insert_c A2 xs n c2 (lbO x.id xs) x hn (by omega) hi w3.heap.size gy _ hown hY hgne (by assumption)).mono ?_
    rintro e W4 ⟨v, rfl, hownF, hg2⟩
    go_wp2_with fail
    refine hK.out _ _ ?_ (fun hHeld => ?_)
    · (try dsimp only); go_split_ands; exact ⟨bl_grown (by assumption) hg2 (fun k e => by have h1 := own_at hown k e; omega), Blk.grown (by assumption) hg2 (fun e => by have h1 := own_at hown _ e.symm; omega)⟩
    clear hK K
    try simp only [Act.put, List.setIfInBounds_toArray, List.set_cons_zero, List.set_cons_succ]
    refine wpAnyH_take (i := 6) (oi := { dst := some 4, op := _, type := _, pos := _, after := _, guard := _ }) (v := ?_) rfl (by kernel_rfl) (by kernel_rfl) (by kernel_rfl) (fun _ _ _ h => h) (Or.inl ⟨by kernel_rfl, ?_⟩) (by assumption) ?_
    rotate_left
    · intro w hSw
      try dsimp only at hSw
      go_simp
      try with_reducible rfl
    try simp only [Act.put, List.setIfInBounds_toArray, List.set_cons_zero, List.set_cons_succ]
    refine wpAnyH_take (i := 7) (oi := { dst := some 5, op := _, type := _, pos := _, after := _, guard := _ }) (v := ?_) rfl (by kernel_rfl) (by kernel_rfl) (by kernel_rfl) (fun _ _ _ h => h) (Or.inl ⟨by kernel_rfl, ?_⟩) (by assumption) ?_
    rotate_left
    · intro w hSw
      try dsimp only at hSw
      go_simp
      try with_reducible rfl
    try simp only [Act.put, List.setIfInBounds_toArray, List.set_cons_zero, List.set_cons_succ]
    refine wpAnyH_done (by kernel_rfl) ?_ _
    go_split_ands
    have hv := (by assumption : Below w0.heap.size w0 _)
    go_wp2_with fail
    obtain ⟨A9, c9, rfl, _, _⟩ := own_form hownF
    go_returns
    exact OutL.of (takeP_ok HO.out HQ.out HH.out (by rw [hn.out]; exact hf)) (by rw [insL_len _ _ _ (lbO_le _ _), hn.out]) (own_base hownF (by omega)) hv
  · go_simp
    (try dsimp only at hHeld); go_split_ands
    obtain ⟨W2, hW2⟩ : ∃ W2, W2 = (World.alloc w3 (Obj.cells #[Value.int IntKind.i64 x.id, Value.string x.customer, Value.int IntKind.i64 x.stage, Value.int IntKind.i64 x.due, Value.int IntKind.i64 x.left, Value.int IntKind.i64 x.fittings] 26)).drew := ⟨_, rfl⟩
    obtain ⟨gy, hgy⟩ : ∃ gy, gy = w3.heap.size := ⟨_, rfl⟩
    have hb : Below (w3.drew).heap.size (w3.drew) W2 := by rw [hW2]; exact bl_alloc (Below.refl w3.drew.heap.size w3.drew) _
    have hY : Blk W2 gy 26 #[Value.int IntKind.i64 x.id, Value.string x.customer, Value.int IntKind.i64 x.stage, Value.int IntKind.i64 x.due, Value.int IntKind.i64 x.left, Value.int IntKind.i64 x.fittings] := by rw [hW2, hgy]; exact Blk.new w3.drew _ _
    have hbs : w3.heap.size ≤ W2.heap.size := hb.size
    have hgy1 : gy < W2.heap.size := hY.lt
    rw [← hW2, ← hgy]
    clear hW2 hgy
    refine hK.out _ _ ?_ (fun hHeld => ?_)
    · (try dsimp only); go_split_ands; exact ⟨bl_trans (by assumption) hb, Blk.below (by assumption) hb⟩
    clear hK K
    try simp only [Act.put, List.setIfInBounds_toArray, List.set_cons_zero, List.set_cons_succ]
    refine wpAnyH_ready (rs := [1]) (by kernel_rfl) (by simp) ?_
    refine AllReadyH.cons (o := { dst := some 30, op := _, type := _, pos := _, after := _, guard := _ }) rfl (fun K hK => ?_) AllReadyH.nil
    go_simp
    (try dsimp only at hHeld); go_split_ands
    refine (cloneOrder_c ad xs n c hn hm _ (hA.below (by assumption))).mono ?_
    rintro e W ⟨A2, c2, rfl, hown, hb⟩
    have hgne : ∀ k, (Value.slice A2 n c2).ownBlock = some k → k ≠ gy := fun k hk => by have := own_at hown k hk; omega
    replace hown := own_base hown hbs
    replace hbs : w3.heap.size ≤ W.heap.size := Nat.le_trans hbs hb.size
    replace hY := hY.below hb
    go_wp2_with fail
    refine hK.out _ _ ?_ (fun hHeld => ?_)
    · (try dsimp only); go_split_ands; exact ⟨bl_trans (by assumption) hb, Blk.below (by assumption) hb⟩
    clear hK K
    try simp only [Act.put, List.setIfInBounds_toArray, List.set_cons_zero, List.set_cons_succ]
    refine wpAnyH_ready (rs := [5]) (by kernel_rfl) (by simp) ?_
    refine AllReadyH.cons (o := { dst := some 34, op := _, type := _, pos := _, after := _, guard := _ }) rfl (fun K hK => ?_) AllReadyH.nil
    go_simp
    (try dsimp only at hHeld); go_split_ands
    refine (insert_c A2 xs n c2 (lbO x.id xs) x hn (by omega) hi w3.heap.size gy _ hown hY hgne (by assumption)).mono ?_
    rintro e W4 ⟨v, rfl, hownF, hg2⟩
    go_wp2_with fail
    refine hK.out _ _ ?_ (fun hHeld => ?_)
    · (try dsimp only); go_split_ands; exact ⟨bl_grown (by assumption) hg2 (fun k e => by have h1 := own_at hown k e; omega), Blk.grown (by assumption) hg2 (fun e => by have h1 := own_at hown _ e.symm; omega)⟩
    clear hK K
    try simp only [Act.put, List.setIfInBounds_toArray, List.set_cons_zero, List.set_cons_succ]
    refine wpAnyH_take (i := 6) (oi := { dst := some 4, op := _, type := _, pos := _, after := _, guard := _ }) (v := ?_) rfl (by kernel_rfl) (by kernel_rfl) (by kernel_rfl) (fun _ _ _ h => h) (Or.inl ⟨by kernel_rfl, ?_⟩) (by assumption) ?_
    rotate_left
    · intro w hSw
      try dsimp only at hSw
      go_simp
      try with_reducible rfl
    try simp only [Act.put, List.setIfInBounds_toArray, List.set_cons_zero, List.set_cons_succ]
    refine wpAnyH_take (i := 7) (oi := { dst := some 5, op := _, type := _, pos := _, after := _, guard := _ }) (v := ?_) rfl (by kernel_rfl) (by kernel_rfl) (by kernel_rfl) (fun _ _ _ h => h) (Or.inl ⟨by kernel_rfl, ?_⟩) (by assumption) ?_
    rotate_left
    · intro w hSw
      try dsimp only at hSw
      go_simp
      try with_reducible rfl
    try simp only [Act.put, List.setIfInBounds_toArray, List.set_cons_zero, List.set_cons_succ]
    refine wpAnyH_done (by kernel_rfl) ?_ _
    go_split_ands
    have hv := (by assumption : Below w0.heap.size w0 _)
    go_wp2_with fail
    obtain ⟨A9, c9, rfl, _, _⟩ := own_form hownF
    go_returns
    exact OutL.of (takeP_ok HO.out HQ.out HH.out (by rw [hn.out]; exact hf)) (by rw [insL_len _ _ _ (lbO_le _ _), hn.out]) (own_base hownF (by omega)) hv

end Go.Proofs.YtapnllbbdfoaaaaGreatDoor
