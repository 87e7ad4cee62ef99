/- TakeOrder: the reference's function. -/
import Derived.Test.YtapnllbbdfoaaaaGreatDoorTakA
import Derived.Test.YtapnllbbdfoaaaaGreatDoorMOrdC
namespace Go.Proofs.YtapnllbbdfoaaaaGreatDoor
open Go.RowKit

theorem take_gt {xs : List Order} {id : Int} (hp : xs.Pairwise (fun a b => a.id < b.id)) (hh : hitO id xs = false) {j : Nat} {y : Order} (hy : xs[j]? = some y) (hj : lbO id xs ≤ j) : id < y.id := by
  have h1 := lbO_iff id xs hp j y hy
  have h2 : ¬ y.id < id := fun h => by have := h1.1 h; omega
  by_cases he : y.id = id
  · exfalso
    have hjl := (List.getElem?_eq_some_iff.1 hy).1
    by_cases hjk : j = lbO id xs
    · subst hjk
      unfold hitO at hh
      rw [hy] at hh
      simp [he] at hh
    · obtain ⟨z, hz⟩ := get_of_lt (xs := xs) (k := lbO id xs) (by omega)
      have h3 := lbO_iff id xs hp _ z hz
      have h4 : ¬ z.id < id := fun h => by have := h3.1 h; omega
      have h5 : z.id < y.id := by
        obtain ⟨hz1, hz2⟩ := List.getElem?_eq_some_iff.1 hz
        obtain ⟨hy1, hy2⟩ := List.getElem?_eq_some_iff.1 hy
        have := List.pairwise_iff_getElem.1 hp (lbO id xs) j hz1 hy1 (by omega)
        rwa [hz2, hy2] at this
      omega
  · omega
theorem dropS {w : World} {g k : Nat} {xs : List Order} (hk : k ≤ xs.length) (h : Arr w (some ⟨g, 0, none⟩) (flat Order.cells xs)) : Arr w (some ⟨g, k * 6, none⟩) (flat Order.cells (xs.drop k)) := fun hn => by
  rw [flat_drop hk] at hn ⊢
  obtain ⟨ad, e, hb, hc⟩ := h (by rw [List.length_drop] at hn; omega)
  injection e with e
  subst e
  refine ⟨_, rfl, hb, fun j u hu => ?_⟩
  rw [List.getElem?_drop] at hu
  have := hc (k * 6 + j) u hu
  rw [Addr.add_lit, Nat.zero_add] at this
  rw [Addr.add_lit]
  exact this
set_option maxRecDepth 100000 in
set_option maxHeartbeats 4000000 in
theorem STakeOrderW_c (g : Nat) (xs : List Order) (n c : Nat) (hnc : n ≤ c) (x : Order) (hn : Hid (xs.length = n)) (hm : (n : Int) ≤ 1048576) (hs : Hid (∀ x ∈ xs, x.customer.size ≤ 9223372036854775807)) (hsx : x.customer.size ≤ 9223372036854775807) (w : World) (hA : Arr w (some ⟨g, 0, none⟩) (flat Order.cells xs)) :
    Calls Tryz.prog 7 #[.slice (some ⟨g, 0, none⟩) n c, .agg #[Value.int IntKind.i64 x.id, Value.string x.customer, Value.int IntKind.i64 x.stage, Value.int IntKind.i64 x.due, Value.int IntKind.i64 x.left, Value.int IntKind.i64 x.fittings]] w (OutL 26 6 (takeP xs x).1.length (flat Order.cells (takeP xs x).1) (takeP xs x).2 w) := by
  obtain ⟨i0, hi0, hz0, hz1, hz2⟩ := info_parts (P := Tryz.prog) (e := 26) (z := .agg #[.int .i64 0, .string ByteArray.empty, .int .i64 0, .int .i64 0, .int .i64 0, .int .i64 0]) (size := 6) (bytes := 56) info_Order
  have hlen : (flat Order.cells xs).length = n * 6 := by rw [flat_length Order.cells_length, hn.out]
  go_enter Tryz.func7, Tryz.ntmps7
  go_wp2_with fail
  have hv0 := bl_alloc (Below.refl w.heap.size w) (Obj.cells #[Value.int IntKind.i64 x.id, Value.string x.customer, Value.int IntKind.i64 x.stage, Value.int IntKind.i64 x.due, Value.int IntKind.i64 x.left, Value.int IntKind.i64 x.fittings] 26)
  have hX0 : Blk (w.alloc (Obj.cells #[Value.int IntKind.i64 x.id, Value.string x.customer, Value.int IntKind.i64 x.stage, Value.int IntKind.i64 x.due, Value.int IntKind.i64 x.left, Value.int IntKind.i64 x.fittings] 26)) w.heap.size 26 #[Value.int IntKind.i64 x.id, Value.string x.customer, Value.int IntKind.i64 x.stage, Value.int IntKind.i64 x.due, Value.int IntKind.i64 x.left, Value.int IntKind.i64 x.fittings] := Blk.new _ _ _
  refine (l25Ok_c (some ⟨g, 0, none⟩) xs n c hn hm hs _ (hA.below hv0)).mono ?_
  rintro e W ⟨rfl, hb1⟩
  have hv1 : Below w.heap.size w W := bl_trans hv0 hb1
  have hX1 := hX0.below hb1
  clear hX0 hb1 hv0
  cases ho : ordsB xs
  · have HO := Lib.hid ho
    clear ho
    go_wp2_with fail
    go_returns
    exact OutL.no (takeP_inv HO.out) hv1
  have HO := Lib.hid ho
  clear ho
  go_wp2_with fail
  refine (l25One_c ⟨w.heap.size, 0, none⟩ x hsx _ (hX1.cell 0) (hX1.cell 1) (hX1.cell 2) (hX1.cell 3) (hX1.cell 4) (hX1.cell 5)).mono ?_
  rintro e w' ⟨rfl, rfl⟩
  have x0 := hX1.cell 0
  dsimp at x0
  cases hq : ordB x
  · have HQ := Lib.hid hq
    clear hq
    go_wp2_with fail
    go_returns
    exact OutL.no (takeP_rng HO.out HQ.out) hv1
  have HQ := Lib.hid hq
  clear hq
  go_wp2_with fail
  refine (l25Find_c (some ⟨g, 0, none⟩) xs n c x.id hn hm _ (hA.below hv1)).mono ?_
  rintro e W3 ⟨rfl, hb3⟩
  have hv3 : Below w.heap.size w W3 := bl_trans hv1 hb3
  have hX3 := hX1.below hb3
  clear hX1 hb3 x0 hv1
  rw [hit_find HO.out]
  cases hh : hitO x.id xs
  case true =>
    have HH := Lib.hid hh
    clear hh
    have hl0 : (0 : Int) ≤ (lbO x.id xs : Int) := by omega
    go_wp2_with fail
    go_returns
    exact OutL.no (takeP_hit HO.out HQ.out HH.out) hv3
  have HH := Lib.hid hh
  clear hh
  have hn30 : n ≤ 30 := by rw [← hn.out]; exact ords_len HO.out
  by_cases hf : n = 30
  · subst hf
    go_wp2_with fail
    go_returns
    exact OutL.no (takeP_full HO.out HQ.out HH.out hn.out) hv3
  have hni : ¬ (30 : Int) ≤ (n : Int) := by omega
  have hle : lbO x.id xs ≤ n := by rw [← hn.out]; exact lbO_le _ _
  go_wp2_with fail
  go_loopw [6] (fun i wr => ∃ k : Nat, lbO x.id xs ≤ k ∧ k ≤ n ∧ i = .int .i64 k ∧ Below w.heap.size w wr ∧ Blk wr w.heap.size 26 #[Value.int IntKind.i64 x.id, Value.string x.customer, Value.int IntKind.i64 x.stage, Value.int IntKind.i64 x.due, Value.int IntKind.i64 x.left, Value.int IntKind.i64 x.fittings]) (fun i _ => (intOf i).toNat)
  case atStart => exact ⟨n, hle, Nat.le_refl _, rfl, hv3, hX3⟩
  case round =>
    clear hv3 hX3
    obtain ⟨k, hk1, hk2, rfl, hv, hB⟩ := hrel
    have x0 := hB.cell 0
    dsimp at x0
    have HP := Lib.hid (ords_pair HO.out)
    by_cases hlt : lbO x.id xs < k
    · obtain ⟨j, rfl⟩ : ∃ j, k = j + 1 := ⟨k - 1, by omega⟩
      obtain ⟨y, hy⟩ := get_of_lt (xs := xs) (k := j) (by rw [hn.out]; omega)
      have hid : x.id < y.id := take_gt HP.out HH.out hy (by omega)
      obtain ⟨ad', e', _, d0, d1, d2, d3, d4, d5⟩ := Order.at_ (hA.below hv) hy
      injection e' with e'
      subst e'
      have hw1 : IntKind.i64.wrap (((j + 1 : Nat) : Int) - 1) = (j : Int) := IntWalk.i64_in _ (by omega) |>.trans (by omega)
      clear d1 d2 d3 d4 d5
      rw [Addr.add_lit, Nat.zero_add] at d0
      go_wp2_with fail
      go_region
      all_goals go_wp2_with fail
      all_goals go_roundw
      all_goals first
        | exact ⟨j, by omega, by omega, rfl, hv.drew, hB.below (Below.refl _ _).drew⟩
        | (simp [intOf]; done)
        | (simp [intOf]; omega)
    · have hkk := Lib.hid (show k = lbO x.id xs by omega)
      clear hlt hk1
      have hkI : (k : Int) ≤ (n : Int) := by omega
      have hkC : (k : Int) ≤ (c : Int) := by omega
      have hkC2 : k ≤ c := by omega
      have hnC : (n : Int) ≤ (c : Int) := by omega
      have hA1 : ∀ w', Below w.heap.size w w' → Arr w' (some ⟨g, 0, none⟩) (flat Order.cells (xs.take k)) := fun w' h => by
        rw [flat_take' (by rw [hn.out]; exact hk2)]
        exact (hA.below h).take _
      have hA2 : ∀ w', Below w.heap.size w w' → Arr w' (some ⟨g, k * 6, none⟩) (flat Order.cells (xs.drop k)) := fun w' h => dropS (by rw [hn.out]; exact hk2) (hA.below h)
      have hA3 : k = n → ∀ w', Arr w' (some ⟨g, 0, none⟩) (flat Order.cells (xs.drop k)) := fun e w' => by
        rw [List.drop_eq_nil_of_le (by rw [hn.out, e]; exact Nat.le_refl _)]
        exact Arr.nil _ _
      replace hA1 := Lib.hid hA1
      replace hA2 := Lib.hid hA2
      replace hA3 := Lib.hid hA3
      have l1 : (flat Order.cells (xs.take k)).length = k * 6 := by rw [flat_length Order.cells_length, List.length_take, hn.out, Nat.min_eq_left hk2]
      have l2 : (flat Order.cells (xs.drop k)).length = (n - k) * 6 := by rw [flat_length Order.cells_length, List.length_drop, hn.out]
      replace l1 := Lib.hid l1
      replace l2 := Lib.hid l2
      by_cases hk0 : k = 0
      · subst hk0
        go_wp2_with fail
        go_region
        all_goals (obtain ⟨wq, hwq⟩ : ∃ wq, wq = wr.drew := ⟨_, rfl⟩)
        all_goals rw [← hwq]
        all_goals have hvq : Below w.heap.size w wq := by rw [hwq]; exact hv.drew
        all_goals have hBq : Blk wq w.heap.size 26 #[Value.int IntKind.i64 x.id, Value.string x.customer, Value.int IntKind.i64 x.stage, Value.int IntKind.i64 x.due, Value.int IntKind.i64 x.left, Value.int IntKind.i64 x.fittings] := by rw [hwq]; exact hB.below (Below.refl _ _).drew
        all_goals clear hwq hv hB x0
        all_goals by_cases hkn : 0 = c
        · subst hkn
          obtain rfl : n = 0 := by omega
          go_wp2_with (at_builtin; first
            | (refine app_many _ rfl _ _ 24 26 rfl i0 _ 6 56 Tryz.underlying24 hi0 hz0 hz1 hz2 rfl (by omega) w.heap.size (.slice (some ⟨wq.heap.size, 0, none⟩) 0 0) 0 [] rfl (own_empty wq w.heap.size _ _ hvq.size) ⟨g, 0, none⟩ 0 0 (flat Order.cells (xs.take 0)) rfl (hA1.out _ (bl_alloc hvq _)) l1.out (order_ones _) (by unfold maxLen; omega) (by omega) (by rw [World.size_alloc]; have := hvq.size; omega) ?_; intro A2 c2 w2 hown2 hg2; simp only [Nat.zero_add, List.nil_append] at hown2; have hv2 := bl_grown (bl_alloc hvq _) hg2 (own_at (own_empty wq w.heap.size 26 6 hvq.size)); have hX2 : Blk w2 w.heap.size 26 #[Value.int IntKind.i64 x.id, Value.string x.customer, Value.int IntKind.i64 x.stage, Value.int IntKind.i64 x.due, Value.int IntKind.i64 x.left, Value.int IntKind.i64 x.fittings] := Blk.grown (hBq.alloc _) hg2 (by have := hBq.lt; simp [Value.ownBlock]; omega); have x0 : w2.cell? ⟨w.heap.size, 0, none⟩ = some (.int .i64 x.id) := hX2.cell 0; have x1 : w2.cell? ⟨w.heap.size, 1, none⟩ = some (.string x.customer) := hX2.cell 1; have x2 : w2.cell? ⟨w.heap.size, 2, none⟩ = some (.int .i64 x.stage) := hX2.cell 2; have x3 : w2.cell? ⟨w.heap.size, 3, none⟩ = some (.int .i64 x.due) := hX2.cell 3; have x4 : w2.cell? ⟨w.heap.size, 4, none⟩ = some (.int .i64 x.left) := hX2.cell 4; have x5 : w2.cell? ⟨w.heap.size, 5, none⟩ = some (.int .i64 x.fittings) := hX2.cell 5)
            | (refine app_own w2 #[Value.int IntKind.i64 x.id, Value.string x.customer, Value.int IntKind.i64 x.stage, Value.int IntKind.i64 x.due, Value.int IntKind.i64 x.left, Value.int IntKind.i64 x.fittings] rfl _ _ 24 26 rfl i0 _ 6 56 Tryz.underlying24 hi0 hz0 hz1 hz2 rfl (by omega) w.heap.size (.slice A2 0 c2) 0 _ rfl rfl hown2 rfl (by simp [Value.oneCell']) (by unfold maxLen; omega) (by omega) hv2.size ?_; intro A4 c4 w4 hown4 hg4; have hv4 := bl_grown hv2 hg4 (own_at hown2))
            | (refine app_many _ rfl _ _ 24 26 rfl i0 _ 6 56 Tryz.underlying24 hi0 hz0 hz1 hz2 rfl (by omega) w.heap.size (.slice A4 (0 + 1) c4) (0 + 1) _ rfl hown4 _ (0 - 0) _ (flat Order.cells (xs.drop 0)) rfl (hA3.out rfl w4) l2.out (order_ones _) (by unfold maxLen; omega) (by omega) hv4.size ?_; intro A6 c6 w6 hown6 hg6))
          go_returns
          exact OutL.of (takeP_ok HO.out HQ.out HH.out (by rw [hn.out]; exact hf)) (by rw [insL_len _ _ _ (lbO_le _ _), hn.out]; first | done | omega) (by
            rw [flat_insL, ← hkk.out, ← List.append_assoc]
            exact hown6) (bl_grown hv4 hg6 (own_at hown4))
        · have hkn2 : ¬ c = 0 := fun e => hkn e.symm
          go_wp2_with (at_builtin; first
            | (refine app_many _ rfl _ _ 24 26 rfl i0 _ 6 56 Tryz.underlying24 hi0 hz0 hz1 hz2 rfl (by omega) w.heap.size (.slice (some ⟨wq.heap.size, 0, none⟩) 0 0) 0 [] rfl (own_empty wq w.heap.size _ _ hvq.size) ⟨g, 0, none⟩ 0 c (flat Order.cells (xs.take 0)) rfl (hA1.out _ (bl_alloc hvq _)) l1.out (order_ones _) (by unfold maxLen; omega) (by omega) (by rw [World.size_alloc]; have := hvq.size; omega) ?_; intro A2 c2 w2 hown2 hg2; simp only [Nat.zero_add, List.nil_append] at hown2; have hv2 := bl_grown (bl_alloc hvq _) hg2 (own_at (own_empty wq w.heap.size 26 6 hvq.size)); have hX2 : Blk w2 w.heap.size 26 #[Value.int IntKind.i64 x.id, Value.string x.customer, Value.int IntKind.i64 x.stage, Value.int IntKind.i64 x.due, Value.int IntKind.i64 x.left, Value.int IntKind.i64 x.fittings] := Blk.grown (hBq.alloc _) hg2 (by have := hBq.lt; simp [Value.ownBlock]; omega); have x0 : w2.cell? ⟨w.heap.size, 0, none⟩ = some (.int .i64 x.id) := hX2.cell 0; have x1 : w2.cell? ⟨w.heap.size, 1, none⟩ = some (.string x.customer) := hX2.cell 1; have x2 : w2.cell? ⟨w.heap.size, 2, none⟩ = some (.int .i64 x.stage) := hX2.cell 2; have x3 : w2.cell? ⟨w.heap.size, 3, none⟩ = some (.int .i64 x.due) := hX2.cell 3; have x4 : w2.cell? ⟨w.heap.size, 4, none⟩ = some (.int .i64 x.left) := hX2.cell 4; have x5 : w2.cell? ⟨w.heap.size, 5, none⟩ = some (.int .i64 x.fittings) := hX2.cell 5)
            | (refine app_own w2 #[Value.int IntKind.i64 x.id, Value.string x.customer, Value.int IntKind.i64 x.stage, Value.int IntKind.i64 x.due, Value.int IntKind.i64 x.left, Value.int IntKind.i64 x.fittings] rfl _ _ 24 26 rfl i0 _ 6 56 Tryz.underlying24 hi0 hz0 hz1 hz2 rfl (by omega) w.heap.size (.slice A2 0 c2) 0 _ rfl rfl hown2 rfl (by simp [Value.oneCell']) (by unfold maxLen; omega) (by omega) hv2.size ?_; intro A4 c4 w4 hown4 hg4; have hv4 := bl_grown hv2 hg4 (own_at hown2))
            | (refine app_many _ rfl _ _ 24 26 rfl i0 _ 6 56 Tryz.underlying24 hi0 hz0 hz1 hz2 rfl (by omega) w.heap.size (.slice A4 (0 + 1) c4) (0 + 1) _ rfl hown4 _ (n - 0) _ (flat Order.cells (xs.drop 0)) rfl (hA2.out _ hv4) l2.out (order_ones _) (by unfold maxLen; omega) (by omega) hv4.size ?_; intro A6 c6 w6 hown6 hg6))
          go_returns
          exact OutL.of (takeP_ok HO.out HQ.out HH.out (by rw [hn.out]; exact hf)) (by rw [insL_len _ _ _ (lbO_le _ _), hn.out]; first | done | omega) (by
            rw [flat_insL, ← hkk.out, ← List.append_assoc]
            exact hown6) (bl_grown hv4 hg6 (own_at hown4))
      · obtain ⟨j, rfl⟩ : ∃ j, k = j + 1 := ⟨k - 1, by omega⟩
        obtain ⟨y, hy⟩ := get_of_lt (xs := xs) (k := j) (by rw [hn.out]; omega)
        have hid : ¬ x.id < y.id := by
          have := (lbO_iff x.id xs HP.out j y hy).2 (by have := hkk.out; omega)
          omega
        obtain ⟨ad', e', _, d0, d1, d2, d3, d4, d5⟩ := Order.at_ (hA.below hv) hy
        injection e' with e'
        subst e'
        have hdec : decide (x.id < y.id) = false := by simp [hid]
        have hw1 : IntKind.i64.wrap (((j + 1 : Nat) : Int) - 1) = (j : Int) := IntWalk.i64_in _ (by omega) |>.trans (by omega)
        clear d1 d2 d3 d4 d5 hy hk0
        rw [Addr.add_lit, Nat.zero_add] at d0
        go_wp2_with fail
        go_region
        clear d0 hdec hid
        all_goals (obtain ⟨wq, hwq⟩ : ∃ wq, wq = wr.drew := ⟨_, rfl⟩)
        all_goals rw [← hwq]
        all_goals have hvq : Below w.heap.size w wq := by rw [hwq]; exact hv.drew
        all_goals have hBq : Blk wq w.heap.size 26 #[Value.int IntKind.i64 x.id, Value.string x.customer, Value.int IntKind.i64 x.stage, Value.int IntKind.i64 x.due, Value.int IntKind.i64 x.left, Value.int IntKind.i64 x.fittings] := by rw [hwq]; exact hB.below (Below.refl _ _).drew
        all_goals clear hwq hv hB x0
        all_goals by_cases hkn : j + 1 = c
        · subst hkn
          obtain rfl : n = j + 1 := by omega
          go_wp2_with (at_builtin; first
            | (refine app_many _ rfl _ _ 24 26 rfl i0 _ 6 56 Tryz.underlying24 hi0 hz0 hz1 hz2 rfl (by omega) w.heap.size (.slice (some ⟨wq.heap.size, 0, none⟩) 0 0) 0 [] rfl (own_empty wq w.heap.size _ _ hvq.size) ⟨g, 0, none⟩ (j + 1) (j + 1) (flat Order.cells (xs.take (j + 1))) rfl (hA1.out _ (bl_alloc hvq _)) l1.out (order_ones _) (by unfold maxLen; omega) (by omega) (by rw [World.size_alloc]; have := hvq.size; omega) ?_; intro A2 c2 w2 hown2 hg2; simp only [Nat.zero_add, List.nil_append] at hown2; have hv2 := bl_grown (bl_alloc hvq _) hg2 (own_at (own_empty wq w.heap.size 26 6 hvq.size)); have hX2 : Blk w2 w.heap.size 26 #[Value.int IntKind.i64 x.id, Value.string x.customer, Value.int IntKind.i64 x.stage, Value.int IntKind.i64 x.due, Value.int IntKind.i64 x.left, Value.int IntKind.i64 x.fittings] := Blk.grown (hBq.alloc _) hg2 (by have := hBq.lt; simp [Value.ownBlock]; omega); have x0 : w2.cell? ⟨w.heap.size, 0, none⟩ = some (.int .i64 x.id) := hX2.cell 0; have x1 : w2.cell? ⟨w.heap.size, 1, none⟩ = some (.string x.customer) := hX2.cell 1; have x2 : w2.cell? ⟨w.heap.size, 2, none⟩ = some (.int .i64 x.stage) := hX2.cell 2; have x3 : w2.cell? ⟨w.heap.size, 3, none⟩ = some (.int .i64 x.due) := hX2.cell 3; have x4 : w2.cell? ⟨w.heap.size, 4, none⟩ = some (.int .i64 x.left) := hX2.cell 4; have x5 : w2.cell? ⟨w.heap.size, 5, none⟩ = some (.int .i64 x.fittings) := hX2.cell 5)
            | (refine app_own w2 #[Value.int IntKind.i64 x.id, Value.string x.customer, Value.int IntKind.i64 x.stage, Value.int IntKind.i64 x.due, Value.int IntKind.i64 x.left, Value.int IntKind.i64 x.fittings] rfl _ _ 24 26 rfl i0 _ 6 56 Tryz.underlying24 hi0 hz0 hz1 hz2 rfl (by omega) w.heap.size (.slice A2 (j + 1) c2) (j + 1) _ rfl rfl hown2 rfl (by simp [Value.oneCell']) (by unfold maxLen; omega) (by omega) hv2.size ?_; intro A4 c4 w4 hown4 hg4; have hv4 := bl_grown hv2 hg4 (own_at hown2))
            | (refine app_many _ rfl _ _ 24 26 rfl i0 _ 6 56 Tryz.underlying24 hi0 hz0 hz1 hz2 rfl (by omega) w.heap.size (.slice A4 ((j + 1) + 1) c4) ((j + 1) + 1) _ rfl hown4 _ 0 _ (flat Order.cells (xs.drop (j + 1))) rfl (hA3.out rfl w4) (by rw [l2.out]; simp) (order_ones _) (by unfold maxLen; omega) (by omega) hv4.size ?_; intro A6 c6 w6 hown6 hg6))
          go_returns
          exact OutL.of (takeP_ok HO.out HQ.out HH.out (by rw [hn.out]; exact hf)) (by rw [insL_len _ _ _ (lbO_le _ _), hn.out]; first | done | omega) (by
            rw [flat_insL, ← hkk.out, ← List.append_assoc]
            exact hown6) (bl_grown hv4 hg6 (own_at hown4))
        · have hkn2 : ¬ c = j + 1 := fun e => hkn e.symm
          go_wp2_with (at_builtin; first
            | (refine app_many _ rfl _ _ 24 26 rfl i0 _ 6 56 Tryz.underlying24 hi0 hz0 hz1 hz2 rfl (by omega) w.heap.size (.slice (some ⟨wq.heap.size, 0, none⟩) 0 0) 0 [] rfl (own_empty wq w.heap.size _ _ hvq.size) ⟨g, 0, none⟩ (j + 1) c (flat Order.cells (xs.take (j + 1))) rfl (hA1.out _ (bl_alloc hvq _)) l1.out (order_ones _) (by unfold maxLen; omega) (by omega) (by rw [World.size_alloc]; have := hvq.size; omega) ?_; intro A2 c2 w2 hown2 hg2; simp only [Nat.zero_add, List.nil_append] at hown2; have hv2 := bl_grown (bl_alloc hvq _) hg2 (own_at (own_empty wq w.heap.size 26 6 hvq.size)); have hX2 : Blk w2 w.heap.size 26 #[Value.int IntKind.i64 x.id, Value.string x.customer, Value.int IntKind.i64 x.stage, Value.int IntKind.i64 x.due, Value.int IntKind.i64 x.left, Value.int IntKind.i64 x.fittings] := Blk.grown (hBq.alloc _) hg2 (by have := hBq.lt; simp [Value.ownBlock]; omega); have x0 : w2.cell? ⟨w.heap.size, 0, none⟩ = some (.int .i64 x.id) := hX2.cell 0; have x1 : w2.cell? ⟨w.heap.size, 1, none⟩ = some (.string x.customer) := hX2.cell 1; have x2 : w2.cell? ⟨w.heap.size, 2, none⟩ = some (.int .i64 x.stage) := hX2.cell 2; have x3 : w2.cell? ⟨w.heap.size, 3, none⟩ = some (.int .i64 x.due) := hX2.cell 3; have x4 : w2.cell? ⟨w.heap.size, 4, none⟩ = some (.int .i64 x.left) := hX2.cell 4; have x5 : w2.cell? ⟨w.heap.size, 5, none⟩ = some (.int .i64 x.fittings) := hX2.cell 5)
            | (refine app_own w2 #[Value.int IntKind.i64 x.id, Value.string x.customer, Value.int IntKind.i64 x.stage, Value.int IntKind.i64 x.due, Value.int IntKind.i64 x.left, Value.int IntKind.i64 x.fittings] rfl _ _ 24 26 rfl i0 _ 6 56 Tryz.underlying24 hi0 hz0 hz1 hz2 rfl (by omega) w.heap.size (.slice A2 (j + 1) c2) (j + 1) _ rfl rfl hown2 rfl (by simp [Value.oneCell']) (by unfold maxLen; omega) (by omega) hv2.size ?_; intro A4 c4 w4 hown4 hg4; have hv4 := bl_grown hv2 hg4 (own_at hown2))
            | (refine app_many _ rfl _ _ 24 26 rfl i0 _ 6 56 Tryz.underlying24 hi0 hz0 hz1 hz2 rfl (by omega) w.heap.size (.slice A4 ((j + 1) + 1) c4) ((j + 1) + 1) _ rfl hown4 _ (n - (j + 1)) _ (flat Order.cells (xs.drop (j + 1))) rfl (hA2.out _ hv4) l2.out (order_ones _) (by unfold maxLen; omega) (by omega) hv4.size ?_; intro A6 c6 w6 hown6 hg6))
          go_returns
          exact OutL.of (takeP_ok HO.out HQ.out HH.out (by rw [hn.out]; exact hf)) (by rw [insL_len _ _ _ (lbO_le _ _), hn.out]; first | done | omega) (by
            rw [flat_insL, ← hkk.out, ← List.append_assoc]
            exact hown6) (bl_grown hv4 hg6 (own_at hown4))

theorem STakeOrder_c (g : Nat) (xs : List Order) (n : Nat) (x : Order) (hn : Hid (xs.length = n)) (hm : (n : Int) ≤ 1048576) (hs : Hid (∀ x ∈ xs, x.customer.size ≤ 9223372036854775807)) (hsx : x.customer.size ≤ 9223372036854775807) (w : World) (hA : Arr w (some ⟨g, 0, none⟩) (flat Order.cells xs)) :
    Calls Tryz.prog 7 #[.slice (some ⟨g, 0, none⟩) n n, .agg #[Value.int IntKind.i64 x.id, Value.string x.customer, Value.int IntKind.i64 x.stage, Value.int IntKind.i64 x.due, Value.int IntKind.i64 x.left, Value.int IntKind.i64 x.fittings]] w (OutL 26 6 (takeP xs x).1.length (flat Order.cells (takeP xs x).1) (takeP xs x).2 w) :=
  STakeOrderW_c g xs n n (Nat.le_refl _) x hn hm hs hsx w hA
end Go.Proofs.YtapnllbbdfoaaaaGreatDoor
