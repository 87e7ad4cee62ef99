/- Finding an order: the reference's functions. Putting an order: the reference's function (in progress). Finding and replacing an order: the program's functions. Moving, fitting and working on an order: what comes out; the program's functions. -/
import Derived.Test.YtapnllbbdfoaaaaGreatDoorOrdB
import Derived.Test.YtapnllbbdfoaaaaGreatDoorClone

namespace Go.Proofs.YtapnllbbdfoaaaaGreatDoor
open Go.RowKit

def findO (id : Int) : List Order → Nat → Int
  | [], _ => -1
  | x :: xs, k => if x.id = id then (k : Int) else findO id xs (k + 1)
set_option maxRecDepth 100000 in
set_option maxHeartbeats 1600000 in
theorem l25Find_c (A : Option Addr) (xs : List Order) (n c : Nat) (id : Int) (hn : Hid (xs.length = n)) (hm : (n : Int) ≤ 1048576) (w : World) (hA : Arr w A (flat Order.cells xs)) :
    Calls Tryz.prog 43 #[.slice A n c, .int .i64 id] w (Ret (.int .i64 (findO id xs 0)) w) := by
  go_enter Tryz.func43, Tryz.ntmps43
  go_wp2_with fail
  have hR := Lib.hid (show findO id xs 0 = findO id (xs.drop 0) 0 from rfl)
  go_loopw [5] (fun i wr => ∃ k : Nat, k ≤ n ∧ i = .int .i64 k ∧ Hid (findO id xs 0 = findO id (xs.drop k) k) ∧ Below w.heap.size w wr) (fun i _ => n - (intOf i).toNat)
  case atStart => exact ⟨0, by omega, rfl, hR, Below.refl _ _⟩
  case round =>
    clear hR
    obtain ⟨k, hk, rfl, hR, hv⟩ := hrel
    by_cases hlt : k < n
    · obtain ⟨x, hx⟩ := get_of_lt (xs := xs) (k := k) (by rw [hn.out]; exact hlt)
      obtain ⟨ad, rfl, hab, c0, _⟩ := Order.at_ (hA.below hv) hx
      have hR2 := Lib.hid (hR.out.trans (by rw [drop_at hx]; rfl : _ = if x.id = id then (k : Int) else findO id (xs.drop (k + 1)) (k + 1)))
      clear hR hx
      by_cases he : x.id = id
      · have hR3 := Lib.hid (hR2.out.trans (if_pos he))
        clear hR2
        go_wp2_with fail
        all_goals first | (exfalso; omega) | (go_returns; exact Ret.mk (vi (by rw [hR3.out])) hv)
      · have hR3 := Lib.hid (hR2.out.trans (if_neg he))
        have hbe : (x.id == id) = false := by simpa using he
        clear hR2
        go_wp2_with fail
        exact ⟨⟨k + 1, by omega, by go_num, hR3, hv⟩, by simp [intOf]; omega⟩
    · have hR2 := Lib.hid (hR.out.trans (by rw [List.drop_eq_nil_of_le (by rw [hn.out]; omega)]; rfl : _ = -1))
      clear hR
      go_wp2_with fail
      go_returns
      exact Ret.mk (vi (by rw [hR2.out])) hv
theorem findO_spec (id : Int) : ∀ (xs : List Order) (k : Nat), (findO id xs k = -1 ∧ ∀ x ∈ xs, x.id ≠ id) ∨ ∃ j x, findO id xs k = ((k + j : Nat) : Int) ∧ xs[j]? = some x ∧ x.id = id
  | [], _ => .inl ⟨rfl, by simp⟩
  | x :: xs, k => by
    by_cases h : x.id = id
    · exact .inr ⟨0, x, by simp [findO, h], rfl, h⟩
    · rcases findO_spec id xs (k + 1) with ⟨h1, h2⟩ | ⟨j, y, h1, h2, h3⟩
      · exact .inl ⟨by simp [findO, h, h1], by intro y hy; rcases List.mem_cons.1 hy with rfl | hy; exact h; exact h2 y hy⟩
      · exact .inr ⟨j + 1, y, by simp only [findO, if_neg h, h1]; congr 1; omega, by simpa using h2, h3⟩
def namedV (xs : List Order) (id : Int) : Array Value :=
  if ordsB xs = true then (if findO id xs 0 < 0 then #[.int .i64 0, .int .i64 3] else #[.int .i64 (findO id xs 0), .int .i64 0]) else #[.int .i64 0, .int .i64 1]
set_option maxRecDepth 100000 in
set_option maxHeartbeats 1600000 in
theorem l25Named_c (A : Option Addr) (xs : List Order) (n c : Nat) (id : Int) (hn : Hid (xs.length = n)) (hm : (n : Int) ≤ 1048576) (hs : Hid (∀ x ∈ xs, x.customer.size ≤ 9223372036854775807)) (w : World) (hA : Arr w A (flat Order.cells xs)) :
    Calls Tryz.prog 47 #[.slice A n c, .int .i64 id] w (RetT (namedV xs id) w) := by
  go_enter Tryz.func47, Tryz.ntmps47
  go_wp2_with fail
  refine (l25Find_c A xs n c id hn hm _ hA).mono ?_
  rintro e W ⟨rfl, hb⟩
  go_wp2_with fail
  refine (l25Ok_c A xs n c hn hm hs _ (hA.below hb)).mono ?_
  rintro e W ⟨rfl, hb2⟩
  have hv := bl_trans hb hb2
  obtain ⟨f, hf⟩ : ∃ f, f = findO id xs 0 := ⟨_, rfl⟩
  have HF := Lib.hid hf
  rw [← hf]
  clear hf
  cases ho : ordsB xs
  · have HO := Lib.hid ho
    clear ho
    go_wp2_with fail
    go_returns
    exact RetT.mk (by rw [namedV, HO.out]; rfl) hv
  · have HO := Lib.hid ho
    clear ho
    by_cases hlt : f < 0
    · go_wp2_with fail
      all_goals first | (exfalso; omega) | (go_returns; exact RetT.mk (by rw [namedV, HO.out, if_pos rfl, ← HF.out, if_pos (by omega)]; rfl) hv)
    · go_wp2_with fail
      all_goals first | (exfalso; omega) | (go_returns; exact RetT.mk (by rw [namedV, HO.out, if_pos rfl, ← HF.out, if_neg (by omega)]; rfl) hv)
end Go.Proofs.YtapnllbbdfoaaaaGreatDoor

namespace Go.Proofs.YtapnllbbdfoaaaaGreatDoor
open Go.RowKit

theorem own_empty1 (w : World) (o : Obj) (e size : Nat) : ((w.alloc o).alloc (.cells #[] e)).ownsRow w.heap.size e size (.slice (some ⟨w.heap.size + 1, 0, none⟩) 0 0) 0 [] := by
  have h := own_empty (w.alloc o) w.heap.size e size (by simp)
  rwa [World.size_alloc] at h
theorem flat_set {α : Type} {f : α → List Value} {s : Nat} (hf : ∀ x, (f x).length = s) : ∀ (xs : List α) (k : Nat) (x : α), k < xs.length → flat f (xs.set k x) = (flat f xs).take (k * s) ++ f x ++ (flat f xs).drop ((k + 1) * s)
  | [], _, _, h => by simp at h
  | y :: ys, 0, x, _ => by
    have e : (0 + 1) * s = (f y).length := by rw [hf]; omega
    simp only [List.set_cons_zero, flat, List.flatMap_cons, Nat.zero_mul, List.take_zero, List.nil_append, e, List.drop_left]
  | y :: ys, k + 1, x, h => by
    have ih := flat_set hf ys k x (by simpa using h)
    have e1 : (k + 1) * s = (f y).length + k * s := by rw [hf, Nat.add_mul]; omega
    have e2 : (k + 1 + 1) * s = (f y).length + (k + 1) * s := by rw [hf, Nat.add_mul (k + 1)]; omega
    simp only [flat] at ih
    simp only [List.set_cons_succ, flat, List.flatMap_cons, ih, e2, List.drop_append]
    rw [e1, List.take_length_add_append]
    simp
set_option maxRecDepth 100000 in
set_option maxHeartbeats 1600000 in
theorem l25Put_c (ad : Addr) (xs : List Order) (n c k : Nat) (x : Order) (hn : Hid (xs.length = n)) (hm : (n : Int) ≤ 1048576) (hk : k < n) (w : World) (hA : Arr w (some ad) (flat Order.cells xs)) :
    Calls Tryz.prog 48 #[.slice (some ad) n c, .int .i64 k, .agg #[Value.int IntKind.i64 x.id, Value.string x.customer, Value.int IntKind.i64 x.stage, Value.int IntKind.i64 x.due, Value.int IntKind.i64 x.left, Value.int IntKind.i64 x.fittings]] w (OutC 26 6 n (flat Order.cells (xs.set k x)) w) := by
  obtain ⟨i0, hi0, hz0, hz1, hz2⟩ := info_parts (P := Tryz.prog) (e := 26) (z := .agg #[.int .i64 0, .string ByteArray.empty, .int .i64 0, .int .i64 0, .int .i64 0, .int .i64 0]) (size := 6) (bytes := 56) info_Order
  have hlen : (flat Order.cells xs).length = n * 6 := by rw [flat_length Order.cells_length, hn.out]
  go_enter Tryz.func48, Tryz.ntmps48
  go_wp2_with (at_builtin; go_loud (refine app_many _ rfl _ _ 24 26 rfl i0 _ 6 56 Tryz.underlying24 hi0 hz0 hz1 hz2 rfl (by omega) w.heap.size (.slice (some ⟨w.heap.size + 1, 0, none⟩) 0 0) 0 [] rfl (own_empty1 w _ _ _) ad n c (flat Order.cells xs) rfl ((hA.alloc _).alloc _) hlen (Order.ones xs) (by unfold maxLen; omega) (by omega) (by first | (simp; done) | (simp; omega)) ?_); intro A2 c2 w2 hown2 hg2; simp only [Nat.zero_add, List.nil_append] at hown2; have hX : Blk w2 w.heap.size 26 #[Value.int IntKind.i64 x.id, Value.string x.customer, Value.int IntKind.i64 x.stage, Value.int IntKind.i64 x.due, Value.int IntKind.i64 x.left, Value.int IntKind.i64 x.fittings] := Blk.grown ((Blk.new w _ _).alloc _) hg2 (by simp [Value.ownBlock]); have x0 : w2.cell? ⟨w.heap.size, 0, none⟩ = some (.int .i64 x.id) := hX.cell 0; have x1 : w2.cell? ⟨w.heap.size, 1, none⟩ = some (.string x.customer) := hX.cell 1; have x2 : w2.cell? ⟨w.heap.size, 2, none⟩ = some (.int .i64 x.stage) := hX.cell 2; have x3 : w2.cell? ⟨w.heap.size, 3, none⟩ = some (.int .i64 x.due) := hX.cell 3; have x4 : w2.cell? ⟨w.heap.size, 4, none⟩ = some (.int .i64 x.left) := hX.cell 4; have x5 : w2.cell? ⟨w.heap.size, 5, none⟩ = some (.int .i64 x.fittings) := hX.cell 5; obtain ⟨g2, hA2⟩ := own_addr hown2 (by omega); subst hA2; obtain ⟨u0, d0⟩ := own_cell hown2 (j := k * 6) (by omega); obtain ⟨u1, d1⟩ := own_cell hown2 (j := k * 6 + 1) (by omega); obtain ⟨u2, d2⟩ := own_cell hown2 (j := k * 6 + 2) (by omega); obtain ⟨u3, d3⟩ := own_cell hown2 (j := k * 6 + 3) (by omega); obtain ⟨u4, d4⟩ := own_cell hown2 (j := k * 6 + 4) (by omega); obtain ⟨u5, d5⟩ := own_cell hown2 (j := k * 6 + 5) (by omega); have f0 := hown2.frozenAt (k * 6); have f1 := hown2.frozenAt (k * 6 + 1); have f2 := hown2.frozenAt (k * 6 + 2); have f3 := hown2.frozenAt (k * 6 + 3); have f4 := hown2.frozenAt (k * 6 + 4); have f5 := hown2.frozenAt (k * 6 + 5))
  go_returns
  have hge : w.heap.size ≤ g2 := own_at hown2 g2 rfl
  refine ⟨some ⟨g2, 0, none⟩, c2, rfl, ?_, ?_⟩
  · have e : setMany (flat Order.cells xs) (k * 6) (Order.cells x) = flat Order.cells (xs.set k x) := by
      rw [setMany_eq _ _ _ (by rw [hlen, Order.cells_length]; omega), flat_set Order.cells_length xs k x (by rw [hn.out]; exact hk), Order.cells_length, show k * 6 + 6 = (k + 1) * 6 from by omega]
    rw [← e]
    exact ((((((hown2.stored (k * 6) (.int .i64 x.id)).1.stored (k * 6 + 1) (.string x.customer)).1.stored (k * 6 + 2) (.int .i64 x.stage)).1.stored (k * 6 + 3) (.int .i64 x.due)).1.stored (k * 6 + 4) (.int .i64 x.left)).1.stored (k * 6 + 5) (.int .i64 x.fittings)).1
  · refine bl_set (bl_set (bl_set (bl_set (bl_set (bl_set (bl_grown (bl_alloc (bl_alloc (Below.refl _ _) _) _) hg2 (own_at (own_empty1 w (Obj.cells #[Value.int IntKind.i64 x.id, Value.string x.customer, Value.int IntKind.i64 x.stage, Value.int IntKind.i64 x.due, Value.int IntKind.i64 x.left, Value.int IntKind.i64 x.fittings] 26) 26 6))) ?_ _) ?_ _) ?_ _) ?_ _) ?_ _) ?_ _ <;> exact hge

end Go.Proofs.YtapnllbbdfoaaaaGreatDoor

namespace Go.Proofs.YtapnllbbdfoaaaaGreatDoor
open Go.RowKit

def lbO (id : Int) : List Order → Nat
  | [] => 0
  | x :: xs => if x.id < id then lbO id xs + 1 else 0
theorem lbO_le (id : Int) : ∀ xs : List Order, lbO id xs ≤ xs.length
  | [] => by simp [lbO]
  | x :: xs => by
    have := lbO_le id xs
    simp only [lbO, List.length_cons]
    split <;> omega
theorem ordsGo_pair : ∀ (xs : List Order) (p : Int), ordsGo p xs = true → (∀ x ∈ xs, p < x.id) ∧ xs.Pairwise (fun a b => a.id < b.id)
  | [], _, _ => ⟨by simp, List.Pairwise.nil⟩
  | x :: xs, p, h => by
    simp only [ordsGo, Bool.and_eq_true, decide_eq_true_eq] at h
    obtain ⟨h1, h2⟩ := ordsGo_pair xs x.id h.2
    refine ⟨fun y hy => ?_, List.Pairwise.cons h1 h2⟩
    rcases List.mem_cons.1 hy with rfl | hy
    · exact h.1.2
    · have := h1 y hy; have := h.1.2; omega
theorem lbO_iff (id : Int) : ∀ (xs : List Order), xs.Pairwise (fun a b => a.id < b.id) → ∀ k x, xs[k]? = some x → (x.id < id ↔ k < lbO id xs)
  | [], _, k, x, h => by simp at h
  | y :: ys, hp, k, x, h => by
    obtain ⟨h1, h2⟩ := List.pairwise_cons.1 hp
    cases k with
    | zero =>
      simp only [List.getElem?_cons_zero, Option.some.injEq] at h
      subst h
      simp only [lbO]
      split <;> omega
    | succ k =>
      simp only [List.getElem?_cons_succ] at h
      have ih := lbO_iff id ys h2 k x h
      have h3 := h1 x (List.mem_of_getElem? h)
      simp only [lbO]
      split <;> omega
def hitO (id : Int) (xs : List Order) : Bool := (xs[lbO id xs]?).any (fun x => decide (x.id = id))
theorem findO_lb (id : Int) : ∀ (xs : List Order), xs.Pairwise (fun a b => a.id < b.id) → ∀ k, findO id xs k = if hitO id xs = true then ((k + lbO id xs : Nat) : Int) else -1
  | [], _, k => by simp [findO, hitO]
  | y :: ys, hp, k => by
    obtain ⟨h1, h2⟩ := List.pairwise_cons.1 hp
    have ih := findO_lb id ys h2 (k + 1)
    simp only [findO]
    by_cases he : y.id = id
    · have : lbO id (y :: ys) = 0 := by simp only [lbO]; rw [if_neg (by omega)]
      rw [if_pos he]
      simp only [hitO, this, List.getElem?_cons_zero, Option.any_some, decide_eq_true he]
      simp
    · rw [if_neg he]
      by_cases hl : y.id < id
      · have : lbO id (y :: ys) = lbO id ys + 1 := by simp only [lbO]; rw [if_pos hl]
        have e : hitO id (y :: ys) = hitO id ys := by simp only [hitO, this, List.getElem?_cons_succ]
        rw [ih, e, this, show k + 1 + lbO id ys = k + (lbO id ys + 1) from by omega]
      · have : lbO id (y :: ys) = 0 := by simp only [lbO]; rw [if_neg hl]
        simp only [hitO, this, List.getElem?_cons_zero, Option.any_some, decide_eq_false he]
        rcases findO_spec id ys (k + 1) with ⟨h3, _⟩ | ⟨j, z, _, h4, h5⟩
        · rw [h3]; simp
        · have := h1 z (List.mem_of_getElem? h4); omega
theorem hit_find {id : Int} {xs : List Order} (h : ordsB xs = true) : findO id xs 0 = if hitO id xs = true then (lbO id xs : Int) else -1 := by
  have h1 : ordsGo 0 xs = true := by simp only [ordsB, Bool.and_eq_true] at h; exact h.1
  have := findO_lb id xs (ordsGo_pair xs 0 h1).2 0
  simpa using this
theorem ords_pair {xs : List Order} (h : ordsB xs = true) : xs.Pairwise (fun a b => a.id < b.id) := by
  simp only [ordsB, Bool.and_eq_true] at h
  exact (ordsGo_pair xs 0 h.1).2
def cmpI (a b : Int) : Int := if a < b then -1 else if b < a then 1 else 0

theorem isNaN_c (a : Int) (w : World) : Calls Tryz.prog 79 #[.int .i64 a] w (RetQ (.bool false) w) := by
  have h : (a != a) = false := by simp
  go_enter Tryz.func79, Tryz.ntmps79
  go_wp2
  go_returns
  exact RetQ.mk (vb (by simp))
theorem compare_c (a b : Int) (w : World) : Calls Tryz.prog 68 #[.int .i64 a, .int .i64 b] w (RetQ (.int .i64 (cmpI a b)) w) := by
  go_enter Tryz.func68, Tryz.ntmps68
  go_wp2_with (go_at_call 79; refine (isNaN_c _ _).mono ?_; rintro e w' ⟨rfl, rfl⟩)
  all_goals
    go_returns
    refine RetQ.mk (vi ?_)
    unfold cmpI
    repeat' split
    all_goals omega
theorem place1_c (x : Order) (id : Int) (w : World) : Calls Tryz.prog 67 #[.agg #[.int .i64 x.id, .string x.customer, .int .i64 x.stage, .int .i64 x.due, .int .i64 x.left, .int .i64 x.fittings], .int .i64 id] w (Ret (.int .i64 (cmpI x.id id)) w) := by
  go_enter Tryz.func67, Tryz.ntmps67
  go_wp2_with (go_at_call 68; refine (compare_c _ _ _).mono ?_; rintro e w' ⟨rfl, rfl⟩)
  go_returns
  exact Ret.mk rfl (by go_grown)
theorem cmpI_lt {a b : Int} : cmpI a b < 0 ↔ a < b := by unfold cmpI; repeat' split; all_goals omega
theorem cmpI_eq {a b : Int} : cmpI a b = 0 ↔ a = b := by unfold cmpI; repeat' split; all_goals omega

set_option maxRecDepth 100000 in
set_option maxHeartbeats 1600000 in
theorem search_c (A : Option Addr) (xs : List Order) (n c : Nat) (id : Int) (hn : Hid (xs.length = n)) (hm : (n : Int) ≤ 1048576) (hp : Hid (xs.Pairwise (fun a b => a.id < b.id))) (w : World) (hA : Arr w A (flat Order.cells xs)) :
    Calls Tryz.prog 66 #[.slice A n c, .int .i64 id, .func (.func 67) #[] #[]] w (RetT #[.int .i64 (lbO id xs), .bool (hitO id xs)] w) := by
  obtain ⟨b, hb⟩ : ∃ b, b = lbO id xs := ⟨_, rfl⟩
  have hbn : b ≤ n := by rw [hb, ← hn.out]; exact lbO_le id xs
  have HB := Lib.hid hb
  rw [← hb]
  clear hb
  go_enter Tryz.func66, Tryz.ntmps66
  go_wp2_with fail
  go_loopw [9, 10] (fun i j wr => ∃ p q : Nat, p ≤ b ∧ b ≤ q ∧ q ≤ n ∧ i = .int .i64 p ∧ j = .int .i64 q ∧ Below w.heap.size w wr) (fun i j _ => ((intOf j) - (intOf i)).toNat)
  case atStart => exact ⟨0, n, by omega, by omega, by omega, rfl, rfl, Below.refl _ _⟩
  case round =>
    obtain ⟨p, q, hpb, hbq, hqn, rfl, rfl, hv⟩ := hrel
    by_cases hlt : p < q
    · obtain ⟨h, hh⟩ : ∃ h : Nat, ((p : Int) + (q : Int)) / 2 = (h : Int) := ⟨(p + q) / 2, by omega⟩
      have hph : p ≤ h := by omega
      have hhq : h < q := by omega
      obtain ⟨x, hx⟩ := get_of_lt (xs := xs) (k := h) (by rw [hn.out]; omega)
      obtain ⟨ad, rfl, hab, c0, c1, c2, c3, c4, c5⟩ := Order.at_ (hA.below hv) hx
      have HX := Lib.hid (lbO_iff id xs hp.out h x hx)
      clear hx
      go_wp2_with fail
      refine (place1_c x id _).mono ?_
      rintro e w1 ⟨rfl, hb1⟩
      have hcl := Lib.hid (@cmpI_lt x.id id)
      obtain ⟨r, hr⟩ : ∃ r, r = cmpI x.id id := ⟨_, rfl⟩
      rw [← hr] at hcl ⊢
      clear hr
      by_cases hr0 : r < 0
      · have h1 := (HX.out.1 (hcl.out.1 hr0))
        rw [← HB.out] at h1
        go_wp2_with fail
        exact ⟨⟨h + 1, q, by omega, by omega, by omega, by go_num, rfl, bl_trans hv hb1⟩, by simp [intOf]; omega⟩
      · have h1 : b ≤ h := by
          have : ¬ h < lbO id xs := fun hc => hr0 (hcl.out.2 (HX.out.2 hc))
          have := HB.out
          omega
        go_wp2_with fail
        exact ⟨⟨p, h, by omega, by omega, by omega, rfl, by go_num, bl_trans hv hb1⟩, by simp [intOf]; omega⟩
    · obtain rfl : p = b := by omega
      obtain rfl : q = p := by omega
      by_cases hpn : q < n
      · obtain ⟨x, hx⟩ := get_of_lt (xs := xs) (k := q) (by rw [hn.out]; omega)
        obtain ⟨ad, rfl, hab, c0, c1, c2, c3, c4, c5⟩ := Order.at_ (hA.below hv) hx
        have HH := Lib.hid (show hitO id xs = decide (x.id = id) by unfold hitO; rw [← HB.out, hx]; rfl)
        clear hx
        go_wp2_with fail
        refine (place1_c x id _).mono ?_
        rintro e w1 ⟨rfl, hb1⟩
        have hce := Lib.hid (@cmpI_eq x.id id)
        obtain ⟨r, hr⟩ : ∃ r, r = cmpI x.id id := ⟨_, rfl⟩
        rw [← hr] at hce ⊢
        clear hr
        go_wp2_with fail
        go_returns
        refine RetT.mk ?_ (bl_trans hv hb1)
        rw [HH.out]
        have h2 : (r == 0) = decide (x.id = id) := by rw [Bool.eq_iff_iff, beq_iff_eq, decide_eq_true_eq]; exact hce.out
        rw [← h2]
        rfl
      · have HH := Lib.hid (show hitO id xs = false by unfold hitO; rw [← HB.out, List.getElem?_eq_none (by rw [hn.out]; omega)]; rfl)
        go_wp2_with fail
        go_returns
        exact RetT.mk (by rw [HH.out]; rfl) hv
end Go.Proofs.YtapnllbbdfoaaaaGreatDoor

namespace Go.Proofs.YtapnllbbdfoaaaaGreatDoor
open Go.RowKit

def codeV (xs : List Order) (id : Int) (rg : Bool) : Array Value :=
  if ordsB xs = true then (if rg = true then (if hitO id xs = true then #[.int .i64 (lbO id xs), .int .i64 0] else #[.int .i64 0, .int .i64 3]) else #[.int .i64 0, .int .i64 2]) else #[.int .i64 0, .int .i64 1]
def stepP (xs : List Order) (id : Int) (rg : Bool) (bad : Order → Bool) (y : Order → Order) (err : Int) : List Order × Int :=
  if ordsB xs = true then (if rg = true then (if hitO id xs = true then
    (match xs[lbO id xs]? with
     | none => ([], 3)
     | some x => if bad x = true then ([], 6) else if ordB (y x) = true then (xs.set (lbO id xs) (y x), 0) else ([], err))
    else ([], 3)) else ([], 2)) else ([], 1)
theorem stepP_len (xs : List Order) (id : Int) (rg : Bool) (bad : Order → Bool) (y : Order → Order) (err : Int) : ((stepP xs id rg bad y err).1.length : Int) ≤ xs.length := by
  unfold stepP
  repeat' split
  all_goals simp
section
variable {xs : List Order} {id : Int} {rg : Bool} {bad : Order → Bool} {y : Order → Order} {err : Int}
theorem stepP_inv (h : ordsB xs = false) : stepP xs id rg bad y err = ([], 1) := by unfold stepP; rw [if_neg (by simp [h])]
theorem stepP_rng (h : ordsB xs = true) (h2 : rg = false) : stepP xs id rg bad y err = ([], 2) := by unfold stepP; rw [if_pos h, if_neg (by simp [h2])]
theorem stepP_non (h : ordsB xs = true) (h2 : rg = true) (h3 : hitO id xs = false) : stepP xs id rg bad y err = ([], 3) := by unfold stepP; rw [if_pos h, if_pos h2, if_neg (by simp [h3])]
theorem stepP_bad {x : Order} (h : ordsB xs = true) (h2 : rg = true) (h3 : hitO id xs = true) (h4 : xs[lbO id xs]? = some x) (h5 : bad x = true) : stepP xs id rg bad y err = ([], 6) := by
  unfold stepP; rw [if_pos h, if_pos h2, if_pos h3, h4]; simp only []; rw [if_pos h5]
theorem stepP_err {x : Order} (h : ordsB xs = true) (h2 : rg = true) (h3 : hitO id xs = true) (h4 : xs[lbO id xs]? = some x) (h5 : bad x = false) (h6 : ordB (y x) = false) : stepP xs id rg bad y err = ([], err) := by
  unfold stepP; rw [if_pos h, if_pos h2, if_pos h3, h4]; simp only []; rw [if_neg (by simp [h5]), if_neg (by simp [h6])]
theorem stepP_ok {x : Order} (h : ordsB xs = true) (h2 : rg = true) (h3 : hitO id xs = true) (h4 : xs[lbO id xs]? = some x) (h5 : bad x = false) (h6 : ordB (y x) = true) : stepP xs id rg bad y err = (xs.set (lbO id xs) (y x), 0) := by
  unfold stepP; rw [if_pos h, if_pos h2, if_pos h3, h4]; simp only []; rw [if_neg (by simp [h5]), if_pos h6]
end
theorem hit_at {xs : List Order} {id : Int} (h : hitO id xs = true) : ∃ x, xs[lbO id xs]? = some x := by
  unfold hitO at h
  cases hx : xs[lbO id xs]? with
  | none => rw [hx] at h; simp at h
  | some x => exact ⟨x, rfl⟩
def moveY (x : Order) : Order := { x with stage := x.stage + 1 }
def workY (d : Int) (x : Order) : Order := { x with left := x.left - d }
def fitY (m : Int) (x : Order) : Order := { x with fittings := x.fittings - 1, left := x.left + m }
def fitBad (x : Order) : Bool := (x.stage != 1) || (x.fittings == 0)
def moveP (xs : List Order) (id : Int) := stepP xs id true (fun _ => false) moveY 6
def workP (xs : List Order) (id d : Int) := stepP xs id (inB d 1 100) (fun _ => false) (workY d) 6
def fitP (xs : List Order) (id m : Int) := stepP xs id (inB m 0 100) fitBad (fitY m) 5
def moveL (xs : List Order) (id : Int) : List Order := (moveP xs id).1
def moveC (xs : List Order) (id : Int) : Int := (moveP xs id).2
def workL (xs : List Order) (id d : Int) : List Order := (workP xs id d).1
def workC (xs : List Order) (id d : Int) : Int := (workP xs id d).2
def fitL (xs : List Order) (id d : Int) : List Order := (fitP xs id d).1
def fitC (xs : List Order) (id d : Int) : Int := (fitP xs id d).2
theorem moveL_len (xs : List Order) (id : Int) : ((moveL xs id).length : Int) ≤ xs.length := stepP_len _ _ _ _ _ _
theorem workL_len (xs : List Order) (id d : Int) : ((workL xs id d).length : Int) ≤ xs.length := stepP_len _ _ _ _ _ _
theorem fitL_len (xs : List Order) (id d : Int) : ((fitL xs id d).length : Int) ≤ xs.length := stepP_len _ _ _ _ _ _
theorem ords_mem {xs : List Order} (h : ordsB xs = true) : ∀ x ∈ xs, ordB x = true := by
  simp only [ordsB, Bool.and_eq_true] at h
  have key : ∀ (l : List Order) (p : Int), ordsGo p l = true → ∀ x ∈ l, ordB x = true := by
    intro l
    induction l with
    | nil => intro p _ x hx; cases hx
    | cons y ys ih =>
      intro p h x hx
      simp only [ordsGo, Bool.and_eq_true] at h
      rcases List.mem_cons.1 hx with rfl | hx
      · exact h.1.1
      · exact ih _ h.2 x hx
  exact key xs 0 h.1
theorem ordB_bd {x : Order} (h : ordB x = true) : (1 ≤ x.id ∧ x.id ≤ 9999) ∧ (0 ≤ x.stage ∧ x.stage ≤ 4) ∧ (0 ≤ x.due ∧ x.due ≤ 10000) ∧ (0 ≤ x.left ∧ x.left ≤ 100) ∧ (0 ≤ x.fittings ∧ x.fittings ≤ 5) := by
  simp only [ordB, Bool.and_eq_true, inB_iff] at h
  omega
theorem OutL.of {l : List Order} {p : List Order × Int} {m c : Nat} {A : Option Addr} {co : Int} {w w' : World} (hp : p = (l, co)) (hm : l.length = m) (h : w'.ownsRow w.heap.size 26 6 (.slice A m c) m (flat Order.cells l)) (hb : Below w.heap.size w w') :
    OutL 26 6 p.1.length (flat Order.cells p.1) p.2 w (.returned (.tuple #[.slice A m c, .int .i64 co])) w' := by
  subst hp
  exact OutL.mk h hm.symm rfl rfl hb
theorem OutL.no {p : List Order × Int} {co : Int} {w w' : World} (hp : p = ([], co)) (hb : Below w.heap.size w w') :
    OutL 26 6 p.1.length (flat Order.cells p.1) p.2 w (.returned (.tuple #[.slice none 0 0, .int .i64 co])) w' := by
  subst hp
  exact OutL.nil hb
def putP (xs : List Order) (k : Nat) (y : Order) (err : Int) : List Order × Int := if ordB y = true then (xs.set k y, 0) else ([], err)
theorem stepP_put {xs : List Order} {id : Int} {rg : Bool} {bad : Order → Bool} {y : Order → Order} {err : Int} {x : Order} {k : Nat} (h : ordsB xs = true) (h2 : rg = true) (h3 : hitO id xs = true) (hk : k = lbO id xs) (h4 : xs[k]? = some x) (h5 : bad x = false) : stepP xs id rg bad y err = putP xs k (y x) err := by
  subst hk
  cases h6 : ordB (y x)
  · rw [stepP_err h h2 h3 h4 h5 h6, putP, if_neg (by simp [h6])]
  · rw [stepP_ok h h2 h3 h4 h5 h6, putP, if_pos h6]
theorem named_code (xs : List Order) (id : Int) : namedV xs id = codeV xs id true := by
  unfold namedV codeV
  cases ho : ordsB xs
  · rfl
  · rw [if_pos rfl, if_pos rfl, if_pos rfl, hit_find ho]
    cases hh : hitO id xs
    · rfl
    · simp only [if_true]
      rw [if_neg (by omega)]
theorem OutL.up {p q : List Order × Int} {W w w' : World} {e : Ending} (hp : p = q) (hb : Below w.heap.size w W) (h : OutL 26 6 q.1.length (flat Order.cells q.1) q.2 W e w') : OutL 26 6 p.1.length (flat Order.cells p.1) p.2 w e w' := by
  subst hp
  obtain ⟨A, c, he, ho, hb2⟩ := h
  exact ⟨A, c, he, own_base ho hb.size, bl_trans hb hb2⟩
theorem workY_ok {x : Order} {d : Int} (h : ordB x = true) (h1 : 1 ≤ d) (h2 : d ≤ 100) : ordB (workY d x) = decide (d ≤ x.left) := by
  cases hc : nameB x.customer
  · simp [ordB, hc] at h
  · rw [Bool.eq_iff_iff, decide_eq_true_eq]
    have e : ordB (workY d x) = (inB x.id 1 9999 && nameB x.customer && inB x.stage 0 4 && inB x.due 0 10000 && inB (x.left - d) 0 100 && inB x.fittings 0 5 && (decide (x.stage < 2) || decide (x.fittings = 0)) && (decide (x.stage < 3) || decide (x.left - d = 0))) := rfl
    rw [e]
    simp [ordB, hc, inB] at h ⊢
    omega
end Go.Proofs.YtapnllbbdfoaaaaGreatDoor
