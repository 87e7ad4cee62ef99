/- What the laws' own helpers do to structs and slices of structs: weights, copies, equality, marks. -/
import Derived.Test.YthibjjcdihgfkaaCore
namespace Go.Proofs.Ythibjjcdihgfkaa
open Go.RowKit

set_option maxRecDepth 100000 in
set_option maxHeartbeats 400000 in
theorem markText_n (k : Nat) (h1 : (k : Int) ≤ 1000000000) (w : World) :
    Calls Try.prog 58 #[.int .i64 k] w (Ret (.string (mtext k)) w) := by
  have hcv := run_byte1 (P := Try.prog) 140 9 5 Try.underlying140 Try.underlying5 Try.underlying9
  go_enter Try.func58, Try.ntmps58
  go_wp2_with fail
  · have hk0 : k = 0 := by omega
    go_returns
    refine Ret.mk (vs ?_) (by go_grown)
    rw [mtext, if_pos hk0]
  · have HT := Lib.hid (show mtGo k k [] = mtGo k k [] from rfl)
    go_loopw [0, 3] (fun kv o wr => ∃ f m : Nat, ∃ acc : List UInt8, m ≤ f ∧ (m : Int) ≤ 1000000000 ∧ kv = .int .i64 m ∧ o = .string ⟨acc.toArray⟩ ∧ acc.length + f ≤ k ∧ Hid (mtGo k k [] = mtGo f m acc) ∧ Below w.heap.size w wr) (fun kv _ _ => (intOf kv).toNat)
    case atStart => exact ⟨k, k, [], by omega, h1, rfl, rfl, by simp, HT, Below.refl _ _⟩
    case round =>
      clear HT
      obtain ⟨f, m, acc, hf, hm, rfl, rfl, hl, HT, hbel⟩ := hrel
      by_cases hm0 : 0 < m
      · go_wp2_with fail
        obtain ⟨f', rfl⟩ : ∃ f', f = f' + 1 := ⟨f - 1, by omega⟩
        refine ⟨⟨f', m / 10, (48 + UInt8.ofNat (m % 10)) :: acc, by omega, by omega, by go_num, ?_, by simp; omega, ?_, bl_alloc hbel _⟩, by simp [intOf]; omega⟩
        · rfl
        · refine Lib.hid (HT.out.trans ?_)
          rw [mtGo, if_neg (by omega)]
      · go_wp2_with fail
        go_returns
        refine Ret.mk (vs ?_) hbel
        have hm1 : m = 0 := by omega
        have h3 : mtGo f m acc = acc := by cases f <;> simp [mtGo, hm1]
        rw [mtext, if_neg (by assumption), HT.out, h3]
        rfl
theorem markText_c (q : Int) (h0 : 0 ≤ q) (h1 : q ≤ 1000000000) (w : World) : Calls Try.prog 58 #[.int .i64 q] w (Ret (.string (mtext q.toNat)) w) := by
  obtain ⟨k, rfl⟩ := Int.eq_ofNat_of_zero_le h0
  exact markText_n k h1 w

structure Item where
  name : ByteArray
  many : Int
  cents : Int
def Item.cells (x : Item) : List Value := [.string x.name, .int .i64 x.many, .int .i64 x.cents]
def Item.val (x : Item) : Value := .agg #[.string x.name, .int .i64 x.many, .int .i64 x.cents]
def Item.sizes (x : Item) : List Nat := [x.name.size]
theorem Item.cells_length (x : Item) : x.cells.length = 3 := rfl
theorem Item.at_ {w : World} {A : Option Addr} {xs : List Item} {k : Nat} {x : Item} (h : Arr w A (flat Item.cells xs)) (hk : xs[k]? = some x) :
    ∃ ad, A = some ad ∧ ad.block < w.heap.size ∧ w.cell? (ad.add (k * 3)) = some (.string x.name) ∧
      w.cell? ⟨(ad.add (k * 3)).block, (ad.add (k * 3)).off + 1, none⟩ = some (.int .i64 x.many) ∧
      w.cell? ⟨(ad.add (k * 3)).block, (ad.add (k * 3)).off + 2, none⟩ = some (.int .i64 x.cents) := by
  obtain ⟨ad, e, hb, h0, hj⟩ := h.elem Item.cells_length hk (by omega)
  exact ⟨ad, e, hb, h0, hj 1 (by omega) (by omega), hj 2 (by omega) (by omega)⟩
def Item.beq (x y : Item) : Bool := decide (x.name = y.name) && decide (x.many = y.many) && decide (x.cents = y.cents)
theorem Item.beq_iff (x y : Item) : x.beq y = true ↔ x = y := by
  cases x; cases y; simp [Item.beq, and_assoc]
theorem Item.beq_self (x : Item) : x.beq x = true := (Item.beq_iff x x).2 rfl

set_option maxHeartbeats 400000 in
theorem szItem_c (x : Item) (left : Int) (hs0 : x.name.size ≤ 9223372036854775807) (h0 : 0 ≤ left) (h1 : left ≤ 1048576) (w : World) :
    Calls Try.prog 95 #[.agg #[.string x.name, .int .i64 x.many, .int .i64 x.cents], .int .i64 left] w (Ret (.int .i64 (szGo x.sizes left)) w) := by
  go_enter Try.func95, Try.ntmps95
  go_wp2
  · go_returns
    refine Ret.mk (vi ?_) (by go_grown)
    simp only [Item.sizes, szGo]
    rw [if_pos (by omega)]
  · go_returns
    refine Ret.mk (vi ?_) (by go_grown)
    simp only [Item.sizes, szGo]
    rw [if_neg (by omega)]

set_option maxHeartbeats 400000 in
theorem szItemS_c (A : Option Addr) (xs : List Item) (n c : Nat) (left : Int) (hn : Hid (xs.length = n)) (hm : n ≤ 9223372036854775807) (hs : Hid (∀ x ∈ xs, x.name.size ≤ 9223372036854775807))
    (h0 : 0 ≤ left) (h1 : left ≤ 1048576) (w : World) (hA : Arr w A (flat Item.cells xs)) :
    Calls Try.prog 60 #[.slice A n c, .int .i64 left] w (Ret (.int .i64 (szS Item.sizes xs left)) w) := by
  go_enter Try.func60, Try.ntmps60
  go_wp2_with fail
  · go_returns
    refine Ret.mk (vi ?_) (by go_grown)
    rw [szS, hn.out]
    exact (szGo_cons_lo (by assumption)).symm
  have hR := Lib.hid (show szS Item.sizes xs left = szGo ((xs.drop 0).flatMap Item.sizes) (left - n) by rw [szS, hn.out, szGo_cons_hi (by assumption)]; rfl)
  go_loopw [1, 5] (fun l i wr => ∃ k : Nat, ∃ lf : Int, k ≤ n ∧ i = .int .i64 k ∧ l = .int .i64 lf ∧ 0 ≤ lf ∧ lf ≤ 1048576 ∧ Hid (szS Item.sizes xs left = szGo ((xs.drop k).flatMap Item.sizes) lf) ∧ Below w.heap.size w wr) (fun _ i _ => n - (intOf i).toNat)
  case atStart => exact ⟨0, _, by omega, rfl, rfl, by omega, by omega, hR, Below.refl _ _⟩
  case round =>
    clear hR
    obtain ⟨k, lf, hk, rfl, rfl, hl0, hl1, hR, hbel⟩ := hrel
    by_cases hlt : k < n
    · obtain ⟨x, hx⟩ := get_of_lt (xs := xs) (k := k) (by rw [hn.out]; exact hlt)
      obtain ⟨ad, rfl, hab, c0, c1, c2⟩ := Item.at_ (hA.below hbel) hx
      have hR2 := Lib.hid (hR.out.trans (by rw [drop_at hx, List.flatMap_cons] : _ = szGo (x.sizes ++ (xs.drop (k + 1)).flatMap Item.sizes) lf))
      have hx0 := hs.out x (List.mem_of_getElem? hx)
      clear hR hx
      go_wp2_with fail
      refine (szItem_c x lf hx0 hl0 hl1 _).mono ?_
      rintro e w1 ⟨rfl, hb1⟩
      have hle := szGo_le x.sizes lf hl0
      by_cases hneg : szGo x.sizes lf < 0
      · go_wp2_with fail
        go_returns
        refine Ret.mk (vi ?_) (bl_trans hbel hb1)
        rw [hR2.out, szGo_append_lo _ _ _ hl0 hneg]
      · go_wp2_with fail
        go_roundw
        case rel =>
          refine ⟨k + 1, szGo x.sizes lf, by omega, by go_num, rfl, by omega, by omega, ?_, bl_trans hbel hb1⟩
          exact Lib.hid (hR2.out.trans (szGo_append _ _ _ (by omega)))
        case measure => simp [intOf]; omega
    · have hR2 := Lib.hid (hR.out.trans (by rw [List.drop_eq_nil_of_le (by rw [hn.out]; omega)]; rfl : _ = lf))
      clear hR
      go_wp2_with fail
      go_returns
      refine Ret.mk (vi ?_) hbel
      rw [hR2.out]

set_option maxHeartbeats 400000 in
theorem toItem_c (x : Item) (w : World) :
    Calls Try.prog 99 #[.agg #[.string x.name, .int .i64 x.many, .int .i64 x.cents]] w (Ret (.agg #[.string x.name, .int .i64 x.many, .int .i64 x.cents]) w) := by
  go_enter Try.func99, Try.ntmps99
  go_wp2
  go_returns
  exact Ret.mk rfl (by go_grown)

theorem info_Item : (Try.prog.info? 108).map (fun i => (i.zero, i.size, i.bytes)) = some (some (.agg #[.string ByteArray.empty, .int .i64 0, .int .i64 0]), 3, 32) := by kernel_rfl

set_option maxHeartbeats 800000 in
theorem toItemS_c (A : Option Addr) (xs : List Item) (n c : Nat) (hn : Hid (xs.length = n)) (hm : (n : Int) ≤ 1048576) (w : World) (hA : Arr w A (flat Item.cells xs)) :
    Calls Try.prog 65 #[.slice A n c] w (OutS 108 3 n (flat Item.cells xs) w) := by
  obtain ⟨i0, hi0, hz0, hz1, hz2⟩ := info_parts (P := Try.prog) (e := 108) (z := .agg #[.string ByteArray.empty, .int .i64 0, .int .i64 0]) (size := 3) (bytes := 32) info_Item
  go_enter Try.func65, Try.ntmps65
  go_wp2_with (at_make; refine wpList_make_full _ rfl _ _ 58 rfl w.heap.size 108 i0 _ 3 Try.underlying58 hi0 hz0 hz1 _ _ _ _ n rfl rfl rfl rfl (by rw [hz2]; omega) (by unfold maxLen; omega) (Nat.le_refl _) ?_; intro w1 hown hg1)
  have hL := hown.1
  generalize (madeCells (Value.agg #[Value.string ByteArray.empty, Value.int IntKind.i64 0, Value.int IntKind.i64 0]).cells (n * 3)).toList = L at hown hL
  obtain ⟨g, hg⟩ : ∃ g, g = w.heap.size := ⟨_, rfl⟩
  have hbel0 : Below w.heap.size w w1 := bl_grown (Below.refl _ _) hg1 (by simp)
  rw [← hg] at hown ⊢
  have hgB : w.heap.size ≤ g := by omega
  have HG := Lib.hid hg
  clear hg
  have HL := Lib.hid hL
  clear hL
  go_loopw [4] (fun i wr => ∃ k : Nat, k ≤ n ∧ i = .int .i64 k ∧ wr.ownsRow g 108 3 (.slice (some ⟨g, 0, none⟩) n n) n (flat Item.cells (xs.take k) ++ L.drop (k * 3)) ∧ Below w.heap.size w wr) (fun i _ => n - (intOf i).toNat)
  case atStart => exact ⟨0, by omega, rfl, by simpa [flat] using hown, hbel0⟩
  case round =>
    clear hown hg1 hbel0
    obtain ⟨k, hk, rfl, hown, hbel⟩ := hrel
    by_cases hlt : k < n
    · obtain ⟨x, hx⟩ := get_of_lt (xs := xs) (k := k) (by rw [hn.out]; exact hlt)
      obtain ⟨ad, rfl, hab, c0, c1, c2⟩ := Item.at_ (hA.below hbel) hx
      have HX := Lib.hid hx
      clear hx
      go_wp2_with fail
      refine (toItem_c x _).mono ?_
      rintro e w2 ⟨rfl, hb1⟩
      have hown2 := own_below hown hb1
      have hlen := hown2.1
      obtain ⟨u0', d0⟩ := own_cell hown2 (j := k * 3) (by omega)
      obtain ⟨u1', d1⟩ := own_cell hown2 (j := k * 3 + 1) (by omega)
      obtain ⟨u2', d2⟩ := own_cell hown2 (j := k * 3 + 2) (by omega)
      have f0 := hown2.frozenAt (k * 3)
      have f1 := hown2.frozenAt (k * 3 + 1)
      have f2 := hown2.frozenAt (k * 3 + 2)
      clear hlen
      go_wp2_with fail
      refine ⟨⟨k + 1, by omega, by go_num, ?_, ?_⟩, by simp [intOf]; omega⟩
      · have h3 := (((hown2.stored (k * 3) (.string x.name)).1.stored (k * 3 + 1) (.int .i64 x.many)).1.stored (k * 3 + 2) (.int .i64 x.cents)).1
        rw [← flat_step Item.cells_length HX.out hn.out L HL.out]
        exact h3
      · refine bl_set (bl_set (bl_set (bl_trans hbel hb1) ?_ _) ?_ _) ?_ _ <;> exact hgB
    · have hkn : k = n := by omega
      go_wp2_with fail
      go_returns
      subst hkn
      rw [flat_end hn.out L HL.out] at hown
      exact ⟨g, rfl, by rw [← HG.out]; exact hown, hbel⟩

set_option maxHeartbeats 400000 in
theorem eqItem_c (x y : Item) (w : World) :
    Calls Try.prog 106 #[.agg #[.string x.name, .int .i64 x.many, .int .i64 x.cents], .agg #[.string y.name, .int .i64 y.many, .int .i64 y.cents]] w (Ret (.bool (x.beq y)) w) := by
  go_enter Try.func106, Try.ntmps106
  go_wp2
  all_goals
    go_returns
    refine Ret.mk (vb ?_) (by go_grown)
    simp_all [Item.beq, bytes_eq_iff]

set_option maxRecDepth 100000 in
set_option maxHeartbeats 800000 in
theorem eqItemS_c (A B : Option Addr) (xs ys : List Item) (n m c d : Nat) (hn : Hid (xs.length = n)) (hm : Hid (ys.length = m)) (hz : (n : Int) ≤ 1048576) (w : World) (hA : Arr w A (flat Item.cells xs)) (hB : Arr w B (flat Item.cells ys)) :
    Calls Try.prog 70 #[.slice A n c, .slice B m d] w (Ret (.bool (listBeq Item.beq xs ys)) w) := by
  by_cases hnm : n = m
  case neg =>
    have hne : ((n : Int) != (m : Int)) = true := by rw [bne_iff_ne]; omega
    go_enter Try.func70, Try.ntmps70
    go_wp2
    go_returns
    refine Ret.mk (vb ?_) (by go_grown)
    rw [listBeq_len _ _ _ (by rw [hn.out, hm.out]; exact hnm)]
  subst hnm
  have hne : ((n : Int) != (n : Int)) = false := by simp
  go_enter Try.func70, Try.ntmps70
  go_wp2_with fail
  have hR := Lib.hid (show listBeq Item.beq xs ys = listBeq Item.beq (xs.drop 0) (ys.drop 0) from rfl)
  go_loopw [5] (fun i wr => ∃ k : Nat, k ≤ n ∧ i = .int .i64 k ∧ Hid (listBeq Item.beq xs ys = listBeq Item.beq (xs.drop k) (ys.drop k)) ∧ Below w.heap.size w wr) (fun i _ => n - (intOf i).toNat)
  case atStart => exact ⟨0, by omega, rfl, hR, Below.refl _ _⟩
  case round =>
    clear hR
    obtain ⟨k, hk, rfl, hR, hbel⟩ := hrel
    by_cases hlt : k < n
    · obtain ⟨x, hx⟩ := get_of_lt (xs := xs) (k := k) (by rw [hn.out]; exact hlt)
      obtain ⟨y, hy⟩ := get_of_lt (xs := ys) (k := k) (by rw [hm.out]; exact hlt)
      obtain ⟨ad, rfl, hab, c0, c1, c2⟩ := Item.at_ (hA.below hbel) hx
      obtain ⟨bd, rfl, hbb, d0, d1, d2⟩ := Item.at_ (hB.below hbel) hy
      have hR2 := Lib.hid (hR.out.trans (by rw [drop_at hx, drop_at hy]; rfl : _ = (x.beq y && listBeq Item.beq (xs.drop (k + 1)) (ys.drop (k + 1)))))
      clear hR hx hy
      go_wp2_with fail
      go_still_tail 8, (by kernel_rfl)
      go_wp2_with fail
      refine (eqItem_c x y _).mono ?_
      rintro e w1 ⟨rfl, hb1'⟩
      have hb1 : Below wr.heap.size wr w1 := bl_transd (Below.refl _ _) hb1'
      cases hq : x.beq y
      · have HQ := Lib.hid hq
        clear hq
        go_wp2_with fail
        go_returns
        refine Ret.mk (vb ?_) (bl_trans hbel hb1)
        rw [hR2.out, HQ.out]; rfl
      · have HQ := Lib.hid hq
        clear hq
        go_wp2_with fail
        go_roundw
        case rel => exact ⟨k + 1, by omega, by go_num, Lib.hid (hR2.out.trans (by rw [HQ.out]; rfl)), bl_trans hbel hb1⟩
        case measure => simp [intOf]; omega
    · have hR2 := Lib.hid (hR.out.trans (by rw [List.drop_eq_nil_of_le (by rw [hn.out]; omega), List.drop_eq_nil_of_le (by rw [hm.out]; omega)]; rfl : _ = true))
      clear hR
      go_wp2_with fail
      go_returns
      refine Ret.mk (vb ?_) hbel
      rw [hR2.out]

def Item.mkc (q : Int) : List Value := [.string (mtext (q).toNat), .int .i64 (q + 1), .int .i64 (q + 1 + 1)]
theorem Item.mkc_length (q : Int) : (Item.mkc q).length = 3 := rfl

set_option maxRecDepth 100000 in
set_option maxHeartbeats 1000000 in
theorem markItemS_c (A : Option Addr) (n c base : Nat) (cs : List Value) (q : Int) (h0 : 0 ≤ q) (h1 : q + n * 3 ≤ 100000000) (hz : (n : Int) ≤ 10000000) (w : World) (hO : w.ownsRow base 108 3 (.slice A n c) n cs) :
    Calls Try.prog 71 #[.slice A n c, .int .i64 q] w (MarkS base 108 3 A n c (flat (fun i : Nat => Item.mkc (q + i * 3)) (List.range n)) (q + n * 3) w) := by
  have hL := Lib.hid hO.1
  go_enter Try.func71, Try.ntmps71
  go_wp2_with fail
  go_loopw [1, 5] (fun kv i wr => ∃ k : Nat, k ≤ n ∧ i = .int .i64 k ∧ kv = .int .i64 (q + k * 3) ∧ wr.ownsRow base 108 3 (.slice A n c) n (flat (fun i : Nat => Item.mkc (q + i * 3)) ((List.range n).take k) ++ cs.drop (k * 3)) ∧ w.grownBy wr (A.map (·.block))) (fun _ i _ => n - (intOf i).toNat)
  case atStart => exact ⟨0, by omega, rfl, by simp, by simpa [flat] using hO, World.grownBy.refl _ _⟩
  case round =>
    clear hO
    obtain ⟨k, hk, rfl, rfl, hO, hg⟩ := hrel
    by_cases hlt : k < n
    · obtain ⟨g, hA⟩ := own_addr hO (by omega)
      subst hA
      have hlen := hO.1
      obtain ⟨qq, hqq⟩ : ∃ qq : Int, qq = q + (k : Int) * 3 := ⟨_, rfl⟩
      have hq0 : 0 ≤ qq := by omega
      have hq1 : qq + 3 ≤ 100000000 := by omega
      rw [← hqq]
      have HQ := Lib.hid hqq
      clear hqq
      go_wp2_with fail
      refine (markText_c (qq) (by omega) (by omega) _).mono ?_
      rintro e w2 ⟨rfl, hb2⟩
      have hO2 := own_below hO hb2
      have hlen1 := hO2.1
      obtain ⟨u0', d0⟩ := own_cell hO2 (j := k * 3) (by omega)
      obtain ⟨u1', d1⟩ := own_cell hO2 (j := k * 3 + 1) (by omega)
      obtain ⟨u2', d2⟩ := own_cell hO2 (j := k * 3 + 2) (by omega)
      have f0 := hO2.frozenAt (k * 3)
      have f1 := hO2.frozenAt (k * 3 + 1)
      have f2 := hO2.frozenAt (k * 3 + 2)
      clear hlen1
      clear hlen
      go_wp2_with fail
      refine ⟨⟨k + 1, by omega, by go_num, ?_, ?_, ?_⟩, by simp [intOf]; omega⟩
      · have hq := HQ.out
        congr 1; simp only [Int.natCast_add]; omega
      · have h3 := (((hO2.stored (k * 3) (.string (mtext (qq).toNat))).1.stored (k * 3 + 1) (.int .i64 (qq + 1))).1.stored (k * 3 + 2) (.int .i64 (qq + 1 + 1))).1
        have h4 := flat_step (f := fun i : Nat => Item.mkc (q + i * 3)) (fun i => Item.mkc_length _) (xs := List.range n) (k := k) (x := k) (by simp [hlt]) (by simp) cs hL.out
        rw [← h4, ← HQ.out]
        exact h3
      · exact grown_setCell (grown_setCell (grown_setCell (grown_below (hg) hb2) (p := ⟨g, k * 3, none⟩) (.inl rfl) _) (p := ⟨g, k * 3 + 1, none⟩) (.inl rfl) _) (p := ⟨g, k * 3 + 2, none⟩) (.inl rfl) _
    · have hkn : k = n := by omega
      go_wp2_with fail
      go_returns
      subst hkn
      rw [flat_end (by simp) cs hL.out] at hO
      exact ⟨rfl, hO, hg⟩

structure Order where
  id : Int
  customer : ByteArray
  stage : Int
  due : Int
  left : Int
  fittings : Int
def Order.cells (x : Order) : List Value := [.int .i64 x.id, .string x.customer, .int .i64 x.stage, .int .i64 x.due, .int .i64 x.left, .int .i64 x.fittings]
def Order.val (x : Order) : Value := .agg #[.int .i64 x.id, .string x.customer, .int .i64 x.stage, .int .i64 x.due, .int .i64 x.left, .int .i64 x.fittings]
def Order.sizes (x : Order) : List Nat := [x.customer.size]
theorem Order.cells_length (x : Order) : x.cells.length = 6 := rfl
theorem Order.at_ {w : World} {A : Option Addr} {xs : List Order} {k : Nat} {x : Order} (h : Arr w A (flat Order.cells xs)) (hk : xs[k]? = some x) :
    ∃ ad, A = some ad ∧ ad.block < w.heap.size ∧ w.cell? (ad.add (k * 6)) = some (.int .i64 x.id) ∧
      w.cell? ⟨(ad.add (k * 6)).block, (ad.add (k * 6)).off + 1, none⟩ = some (.string x.customer) ∧
      w.cell? ⟨(ad.add (k * 6)).block, (ad.add (k * 6)).off + 2, none⟩ = some (.int .i64 x.stage) ∧
      w.cell? ⟨(ad.add (k * 6)).block, (ad.add (k * 6)).off + 3, none⟩ = some (.int .i64 x.due) ∧
      w.cell? ⟨(ad.add (k * 6)).block, (ad.add (k * 6)).off + 4, none⟩ = some (.int .i64 x.left) ∧
      w.cell? ⟨(ad.add (k * 6)).block, (ad.add (k * 6)).off + 5, none⟩ = some (.int .i64 x.fittings) := by
  obtain ⟨ad, e, hb, h0, hj⟩ := h.elem Order.cells_length hk (by omega)
  exact ⟨ad, e, hb, h0, hj 1 (by omega) (by omega), hj 2 (by omega) (by omega), hj 3 (by omega) (by omega), hj 4 (by omega) (by omega), hj 5 (by omega) (by omega)⟩
def Order.beq (x y : Order) : Bool := decide (x.id = y.id) && decide (x.customer = y.customer) && decide (x.stage = y.stage) && decide (x.due = y.due) && decide (x.left = y.left) && decide (x.fittings = y.fittings)
theorem Order.beq_iff (x y : Order) : x.beq y = true ↔ x = y := by
  cases x; cases y; simp [Order.beq, and_assoc]
theorem Order.beq_self (x : Order) : x.beq x = true := (Order.beq_iff x x).2 rfl

set_option maxHeartbeats 400000 in
theorem szOrder_c (x : Order) (left : Int) (hs0 : x.customer.size ≤ 9223372036854775807) (h0 : 0 ≤ left) (h1 : left ≤ 1048576) (w : World) :
    Calls Try.prog 34 #[.agg #[.int .i64 x.id, .string x.customer, .int .i64 x.stage, .int .i64 x.due, .int .i64 x.left, .int .i64 x.fittings], .int .i64 left] w (Ret (.int .i64 (szGo x.sizes left)) w) := by
  go_enter Try.func34, Try.ntmps34
  go_wp2
  · go_returns
    refine Ret.mk (vi ?_) (by go_grown)
    simp only [Order.sizes, szGo]
    rw [if_pos (by omega)]
  · go_returns
    refine Ret.mk (vi ?_) (by go_grown)
    simp only [Order.sizes, szGo]
    rw [if_neg (by omega)]

set_option maxHeartbeats 400000 in
theorem szOrderS_c (A : Option Addr) (xs : List Order) (n c : Nat) (left : Int) (hn : Hid (xs.length = n)) (hm : n ≤ 9223372036854775807) (hs : Hid (∀ x ∈ xs, x.customer.size ≤ 9223372036854775807))
    (h0 : 0 ≤ left) (h1 : left ≤ 1048576) (w : World) (hA : Arr w A (flat Order.cells xs)) :
    Calls Try.prog 33 #[.slice A n c, .int .i64 left] w (Ret (.int .i64 (szS Order.sizes xs left)) w) := by
  go_enter Try.func33, Try.ntmps33
  go_wp2_with fail
  · go_returns
    refine Ret.mk (vi ?_) (by go_grown)
    rw [szS, hn.out]
    exact (szGo_cons_lo (by assumption)).symm
  have hR := Lib.hid (show szS Order.sizes xs left = szGo ((xs.drop 0).flatMap Order.sizes) (left - n) by rw [szS, hn.out, szGo_cons_hi (by assumption)]; rfl)
  go_loopw [1, 5] (fun l i wr => ∃ k : Nat, ∃ lf : Int, k ≤ n ∧ i = .int .i64 k ∧ l = .int .i64 lf ∧ 0 ≤ lf ∧ lf ≤ 1048576 ∧ Hid (szS Order.sizes xs left = szGo ((xs.drop k).flatMap Order.sizes) lf) ∧ Below w.heap.size w wr) (fun _ i _ => n - (intOf i).toNat)
  case atStart => exact ⟨0, _, by omega, rfl, rfl, by omega, by omega, hR, Below.refl _ _⟩
  case round =>
    clear hR
    obtain ⟨k, lf, hk, rfl, rfl, hl0, hl1, hR, hbel⟩ := hrel
    by_cases hlt : k < n
    · obtain ⟨x, hx⟩ := get_of_lt (xs := xs) (k := k) (by rw [hn.out]; exact hlt)
      obtain ⟨ad, rfl, hab, c0, c1, c2, c3, c4, c5⟩ := Order.at_ (hA.below hbel) hx
      have hR2 := Lib.hid (hR.out.trans (by rw [drop_at hx, List.flatMap_cons] : _ = szGo (x.sizes ++ (xs.drop (k + 1)).flatMap Order.sizes) lf))
      have hx0 := hs.out x (List.mem_of_getElem? hx)
      clear hR hx
      go_wp2_with fail
      refine (szOrder_c x lf hx0 hl0 hl1 _).mono ?_
      rintro e w1 ⟨rfl, hb1⟩
      have hle := szGo_le x.sizes lf hl0
      by_cases hneg : szGo x.sizes lf < 0
      · go_wp2_with fail
        go_returns
        refine Ret.mk (vi ?_) (bl_trans hbel hb1)
        rw [hR2.out, szGo_append_lo _ _ _ hl0 hneg]
      · go_wp2_with fail
        go_roundw
        case rel =>
          refine ⟨k + 1, szGo x.sizes lf, by omega, by go_num, rfl, by omega, by omega, ?_, bl_trans hbel hb1⟩
          exact Lib.hid (hR2.out.trans (szGo_append _ _ _ (by omega)))
        case measure => simp [intOf]; omega
    · have hR2 := Lib.hid (hR.out.trans (by rw [List.drop_eq_nil_of_le (by rw [hn.out]; omega)]; rfl : _ = lf))
      clear hR
      go_wp2_with fail
      go_returns
      refine Ret.mk (vi ?_) hbel
      rw [hR2.out]

set_option maxHeartbeats 400000 in
theorem toOrder_c (x : Order) (w : World) :
    Calls Try.prog 37 #[.agg #[.int .i64 x.id, .string x.customer, .int .i64 x.stage, .int .i64 x.due, .int .i64 x.left, .int .i64 x.fittings]] w (Ret (.agg #[.int .i64 x.id, .string x.customer, .int .i64 x.stage, .int .i64 x.due, .int .i64 x.left, .int .i64 x.fittings]) w) := by
  go_enter Try.func37, Try.ntmps37
  go_wp2
  go_returns
  exact Ret.mk rfl (by go_grown)

theorem info_Order : (Try.prog.info? 76).map (fun i => (i.zero, i.size, i.bytes)) = some (some (.agg #[.int .i64 0, .string ByteArray.empty, .int .i64 0, .int .i64 0, .int .i64 0, .int .i64 0]), 6, 56) := by kernel_rfl

set_option maxHeartbeats 800000 in
theorem toOrderS_c (A : Option Addr) (xs : List Order) (n c : Nat) (hn : Hid (xs.length = n)) (hm : (n : Int) ≤ 1048576) (w : World) (hA : Arr w A (flat Order.cells xs)) :
    Calls Try.prog 36 #[.slice A n c] w (OutS 76 6 n (flat Order.cells xs) w) := by
  obtain ⟨i0, hi0, hz0, hz1, hz2⟩ := info_parts (P := Try.prog) (e := 76) (z := .agg #[.int .i64 0, .string ByteArray.empty, .int .i64 0, .int .i64 0, .int .i64 0, .int .i64 0]) (size := 6) (bytes := 56) info_Order
  go_enter Try.func36, Try.ntmps36
  go_wp2_with (at_make; refine wpList_make_full _ rfl _ _ 72 rfl w.heap.size 76 i0 _ 6 Try.underlying72 hi0 hz0 hz1 _ _ _ _ n rfl rfl rfl rfl (by rw [hz2]; omega) (by unfold maxLen; omega) (Nat.le_refl _) ?_; intro w1 hown hg1)
  have hL := hown.1
  generalize (madeCells (Value.agg #[Value.int IntKind.i64 0, Value.string ByteArray.empty, Value.int IntKind.i64 0, Value.int IntKind.i64 0, Value.int IntKind.i64 0, Value.int IntKind.i64 0]).cells (n * 6)).toList = L at hown hL
  obtain ⟨g, hg⟩ : ∃ g, g = w.heap.size := ⟨_, rfl⟩
  have hbel0 : Below w.heap.size w w1 := bl_grown (Below.refl _ _) hg1 (by simp)
  rw [← hg] at hown ⊢
  have hgB : w.heap.size ≤ g := by omega
  have HG := Lib.hid hg
  clear hg
  have HL := Lib.hid hL
  clear hL
  go_loopw [4] (fun i wr => ∃ k : Nat, k ≤ n ∧ i = .int .i64 k ∧ wr.ownsRow g 76 6 (.slice (some ⟨g, 0, none⟩) n n) n (flat Order.cells (xs.take k) ++ L.drop (k * 6)) ∧ Below w.heap.size w wr) (fun i _ => n - (intOf i).toNat)
  case atStart => exact ⟨0, by omega, rfl, by simpa [flat] using hown, hbel0⟩
  case round =>
    clear hown hg1 hbel0
    obtain ⟨k, hk, rfl, hown, hbel⟩ := hrel
    by_cases hlt : k < n
    · obtain ⟨x, hx⟩ := get_of_lt (xs := xs) (k := k) (by rw [hn.out]; exact hlt)
      obtain ⟨ad, rfl, hab, c0, c1, c2, c3, c4, c5⟩ := Order.at_ (hA.below hbel) hx
      have HX := Lib.hid hx
      clear hx
      go_wp2_with fail
      refine (toOrder_c x _).mono ?_
      rintro e w2 ⟨rfl, hb1⟩
      have hown2 := own_below hown hb1
      have hlen := hown2.1
      obtain ⟨u0', d0⟩ := own_cell hown2 (j := k * 6) (by omega)
      obtain ⟨u1', d1⟩ := own_cell hown2 (j := k * 6 + 1) (by omega)
      obtain ⟨u2', d2⟩ := own_cell hown2 (j := k * 6 + 2) (by omega)
      obtain ⟨u3', d3⟩ := own_cell hown2 (j := k * 6 + 3) (by omega)
      obtain ⟨u4', d4⟩ := own_cell hown2 (j := k * 6 + 4) (by omega)
      obtain ⟨u5', d5⟩ := own_cell hown2 (j := k * 6 + 5) (by omega)
      have f0 := hown2.frozenAt (k * 6)
      have f1 := hown2.frozenAt (k * 6 + 1)
      have f2 := hown2.frozenAt (k * 6 + 2)
      have f3 := hown2.frozenAt (k * 6 + 3)
      have f4 := hown2.frozenAt (k * 6 + 4)
      have f5 := hown2.frozenAt (k * 6 + 5)
      clear hlen
      go_wp2_with fail
      refine ⟨⟨k + 1, by omega, by go_num, ?_, ?_⟩, by simp [intOf]; omega⟩
      · have h3 := ((((((hown2.stored (k * 6) (.int .i64 x.id)).1.stored (k * 6 + 1) (.string x.customer)).1.stored (k * 6 + 2) (.int .i64 x.stage)).1.stored (k * 6 + 3) (.int .i64 x.due)).1.stored (k * 6 + 4) (.int .i64 x.left)).1.stored (k * 6 + 5) (.int .i64 x.fittings)).1
        rw [← flat_step Order.cells_length HX.out hn.out L HL.out]
        exact h3
      · refine bl_set (bl_set (bl_set (bl_set (bl_set (bl_set (bl_trans hbel hb1) ?_ _) ?_ _) ?_ _) ?_ _) ?_ _) ?_ _ <;> exact hgB
    · have hkn : k = n := by omega
      go_wp2_with fail
      go_returns
      subst hkn
      rw [flat_end hn.out L HL.out] at hown
      exact ⟨g, rfl, by rw [← HG.out]; exact hown, hbel⟩

set_option maxHeartbeats 400000 in
theorem eqOrder_c (x y : Order) (w : World) :
    Calls Try.prog 80 #[.agg #[.int .i64 x.id, .string x.customer, .int .i64 x.stage, .int .i64 x.due, .int .i64 x.left, .int .i64 x.fittings], .agg #[.int .i64 y.id, .string y.customer, .int .i64 y.stage, .int .i64 y.due, .int .i64 y.left, .int .i64 y.fittings]] w (Ret (.bool (x.beq y)) w) := by
  go_enter Try.func80, Try.ntmps80
  go_wp2
  all_goals
    go_returns
    refine Ret.mk (vb ?_) (by go_grown)
    simp_all [Order.beq, bytes_eq_iff]

set_option maxRecDepth 100000 in
set_option maxHeartbeats 800000 in
theorem eqOrderS_c (A B : Option Addr) (xs ys : List Order) (n m c d : Nat) (hn : Hid (xs.length = n)) (hm : Hid (ys.length = m)) (hz : (n : Int) ≤ 1048576) (w : World) (hA : Arr w A (flat Order.cells xs)) (hB : Arr w B (flat Order.cells ys)) :
    Calls Try.prog 39 #[.slice A n c, .slice B m d] w (Ret (.bool (listBeq Order.beq xs ys)) w) := by
  by_cases hnm : n = m
  case neg =>
    have hne : ((n : Int) != (m : Int)) = true := by rw [bne_iff_ne]; omega
    go_enter Try.func39, Try.ntmps39
    go_wp2
    go_returns
    refine Ret.mk (vb ?_) (by go_grown)
    rw [listBeq_len _ _ _ (by rw [hn.out, hm.out]; exact hnm)]
  subst hnm
  have hne : ((n : Int) != (n : Int)) = false := by simp
  go_enter Try.func39, Try.ntmps39
  go_wp2_with fail
  have hR := Lib.hid (show listBeq Order.beq xs ys = listBeq Order.beq (xs.drop 0) (ys.drop 0) from rfl)
  go_loopw [5] (fun i wr => ∃ k : Nat, k ≤ n ∧ i = .int .i64 k ∧ Hid (listBeq Order.beq xs ys = listBeq Order.beq (xs.drop k) (ys.drop k)) ∧ Below w.heap.size w wr) (fun i _ => n - (intOf i).toNat)
  case atStart => exact ⟨0, by omega, rfl, hR, Below.refl _ _⟩
  case round =>
    clear hR
    obtain ⟨k, hk, rfl, hR, hbel⟩ := hrel
    by_cases hlt : k < n
    · obtain ⟨x, hx⟩ := get_of_lt (xs := xs) (k := k) (by rw [hn.out]; exact hlt)
      obtain ⟨y, hy⟩ := get_of_lt (xs := ys) (k := k) (by rw [hm.out]; exact hlt)
      obtain ⟨ad, rfl, hab, c0, c1, c2, c3, c4, c5⟩ := Order.at_ (hA.below hbel) hx
      obtain ⟨bd, rfl, hbb, d0, d1, d2, d3, d4, d5⟩ := Order.at_ (hB.below hbel) hy
      have hR2 := Lib.hid (hR.out.trans (by rw [drop_at hx, drop_at hy]; rfl : _ = (x.beq y && listBeq Order.beq (xs.drop (k + 1)) (ys.drop (k + 1)))))
      clear hR hx hy
      go_wp2_with fail
      go_still_tail 8, (by kernel_rfl)
      go_wp2_with fail
      refine (eqOrder_c x y _).mono ?_
      rintro e w1 ⟨rfl, hb1'⟩
      have hb1 : Below wr.heap.size wr w1 := bl_transd (Below.refl _ _) hb1'
      cases hq : x.beq y
      · have HQ := Lib.hid hq
        clear hq
        go_wp2_with fail
        go_returns
        refine Ret.mk (vb ?_) (bl_trans hbel hb1)
        rw [hR2.out, HQ.out]; rfl
      · have HQ := Lib.hid hq
        clear hq
        go_wp2_with fail
        go_roundw
        case rel => exact ⟨k + 1, by omega, by go_num, Lib.hid (hR2.out.trans (by rw [HQ.out]; rfl)), bl_trans hbel hb1⟩
        case measure => simp [intOf]; omega
    · have hR2 := Lib.hid (hR.out.trans (by rw [List.drop_eq_nil_of_le (by rw [hn.out]; omega), List.drop_eq_nil_of_le (by rw [hm.out]; omega)]; rfl : _ = true))
      clear hR
      go_wp2_with fail
      go_returns
      refine Ret.mk (vb ?_) hbel
      rw [hR2.out]

def Order.mkc (q : Int) : List Value := [.int .i64 (q), .string (mtext (q + 1).toNat), .int .i64 (q + 1 + 1), .int .i64 (q + 1 + 1 + 1), .int .i64 (q + 1 + 1 + 1 + 1), .int .i64 (q + 1 + 1 + 1 + 1 + 1)]
theorem Order.mkc_length (q : Int) : (Order.mkc q).length = 6 := rfl

set_option maxRecDepth 100000 in
set_option maxHeartbeats 1000000 in
theorem markOrderS_c (A : Option Addr) (n c base : Nat) (cs : List Value) (q : Int) (h0 : 0 ≤ q) (h1 : q + n * 6 ≤ 100000000) (hz : (n : Int) ≤ 10000000) (w : World) (hO : w.ownsRow base 76 6 (.slice A n c) n cs) :
    Calls Try.prog 40 #[.slice A n c, .int .i64 q] w (MarkS base 76 6 A n c (flat (fun i : Nat => Order.mkc (q + i * 6)) (List.range n)) (q + n * 6) w) := by
  have hL := Lib.hid hO.1
  go_enter Try.func40, Try.ntmps40
  go_wp2_with fail
  go_loopw [1, 5] (fun kv i wr => ∃ k : Nat, k ≤ n ∧ i = .int .i64 k ∧ kv = .int .i64 (q + k * 6) ∧ wr.ownsRow base 76 6 (.slice A n c) n (flat (fun i : Nat => Order.mkc (q + i * 6)) ((List.range n).take k) ++ cs.drop (k * 6)) ∧ w.grownBy wr (A.map (·.block))) (fun _ i _ => n - (intOf i).toNat)
  case atStart => exact ⟨0, by omega, rfl, by simp, by simpa [flat] using hO, World.grownBy.refl _ _⟩
  case round =>
    clear hO
    obtain ⟨k, hk, rfl, rfl, hO, hg⟩ := hrel
    by_cases hlt : k < n
    · obtain ⟨g, hA⟩ := own_addr hO (by omega)
      subst hA
      have hlen := hO.1
      obtain ⟨qq, hqq⟩ : ∃ qq : Int, qq = q + (k : Int) * 6 := ⟨_, rfl⟩
      have hq0 : 0 ≤ qq := by omega
      have hq1 : qq + 6 ≤ 100000000 := by omega
      rw [← hqq]
      have HQ := Lib.hid hqq
      clear hqq
      obtain ⟨u0', d0⟩ := own_cell hO (j := k * 6) (by omega)
      have f0 := hO.frozenAt (k * 6)
      go_wp2_with fail
      refine (markText_c (qq + 1) (by omega) (by omega) _).mono ?_
      rintro e w2 ⟨rfl, hb2⟩
      have hO2 := own_below (hO.stored (k * 6) (.int .i64 (qq))).1 hb2
      have hlen1 := hO2.1
      obtain ⟨u1', d1⟩ := own_cell hO2 (j := k * 6 + 1) (by omega)
      obtain ⟨u2', d2⟩ := own_cell hO2 (j := k * 6 + 2) (by omega)
      obtain ⟨u3', d3⟩ := own_cell hO2 (j := k * 6 + 3) (by omega)
      obtain ⟨u4', d4⟩ := own_cell hO2 (j := k * 6 + 4) (by omega)
      obtain ⟨u5', d5⟩ := own_cell hO2 (j := k * 6 + 5) (by omega)
      have f1 := hO2.frozenAt (k * 6 + 1)
      have f2 := hO2.frozenAt (k * 6 + 2)
      have f3 := hO2.frozenAt (k * 6 + 3)
      have f4 := hO2.frozenAt (k * 6 + 4)
      have f5 := hO2.frozenAt (k * 6 + 5)
      clear hlen1
      clear hlen
      go_wp2_with fail
      refine ⟨⟨k + 1, by omega, by go_num, ?_, ?_, ?_⟩, by simp [intOf]; omega⟩
      · have hq := HQ.out
        congr 1; simp only [Int.natCast_add]; omega
      · have h3 := (((((hO2.stored (k * 6 + 1) (.string (mtext (qq + 1).toNat))).1.stored (k * 6 + 2) (.int .i64 (qq + 1 + 1))).1.stored (k * 6 + 3) (.int .i64 (qq + 1 + 1 + 1))).1.stored (k * 6 + 4) (.int .i64 (qq + 1 + 1 + 1 + 1))).1.stored (k * 6 + 5) (.int .i64 (qq + 1 + 1 + 1 + 1 + 1))).1
        have h4 := flat_step (f := fun i : Nat => Order.mkc (q + i * 6)) (fun i => Order.mkc_length _) (xs := List.range n) (k := k) (x := k) (by simp [hlt]) (by simp) cs hL.out
        rw [← h4, ← HQ.out]
        exact h3
      · exact grown_setCell (grown_setCell (grown_setCell (grown_setCell (grown_setCell (grown_below (grown_setCell (hg) (p := ⟨g, k * 6, none⟩) (.inl rfl) _) hb2) (p := ⟨g, k * 6 + 1, none⟩) (.inl rfl) _) (p := ⟨g, k * 6 + 2, none⟩) (.inl rfl) _) (p := ⟨g, k * 6 + 3, none⟩) (.inl rfl) _) (p := ⟨g, k * 6 + 4, none⟩) (.inl rfl) _) (p := ⟨g, k * 6 + 5, none⟩) (.inl rfl) _
    · have hkn : k = n := by omega
      go_wp2_with fail
      go_returns
      subst hkn
      rw [flat_end (by simp) cs hL.out] at hO
      exact ⟨rfl, hO, hg⟩

set_option maxRecDepth 100000 in
set_option maxHeartbeats 1000000 in
theorem heldOrderS_c (A : Option Addr) (n c : Nat) (q : Int) (h0 : 0 ≤ q) (h1 : q + n * 6 ≤ 100000000) (hz : (n : Int) ≤ 10000000) (w : World) (hA : Arr w A (flat (fun i : Nat => Order.mkc (q + i * 6)) (List.range n))) :
    Calls Try.prog 41 #[.slice A n c, .int .i64 q] w (Ret (.int .i64 (q + n * 6)) w) := by
  go_enter Try.func41, Try.ntmps41
  go_wp2_with fail
  go_loopw [1, 5] (fun kv i wr => ∃ k : Nat, k ≤ n ∧ i = .int .i64 k ∧ kv = .int .i64 (q + k * 6) ∧ Below w.heap.size w wr) (fun _ i _ => n - (intOf i).toNat)
  case atStart => exact ⟨0, by omega, rfl, by simp, Below.refl _ _⟩
  case round =>
    obtain ⟨k, hk, rfl, rfl, hbel⟩ := hrel
    by_cases hlt : k < n
    · obtain ⟨ad, rfl, hab, c0', cj'⟩ := (hA.below hbel).elem (f := fun i : Nat => Order.mkc (q + i * 6)) (fun i => Order.mkc_length _) (k := k) (x := k) (by simp [hlt]) (by omega)
      obtain ⟨qq, hqq⟩ : ∃ qq : Int, qq = q + (k : Int) * 6 := ⟨_, rfl⟩
      have hq0 : 0 ≤ qq := by omega
      have hq1 : qq + 6 ≤ 100000000 := by omega
      rw [← hqq] at c0' ⊢
      have c0 : wr.cell? (ad.add (k * 6)) = some (.int .i64 (qq)) := c0'
      have c1 : wr.cell? ⟨(ad.add (k * 6)).block, (ad.add (k * 6)).off + 1, none⟩ = some (.string (mtext (qq + 1).toNat)) := by rw [cj' 1 (by omega) (by omega), ← hqq]; rfl
      have c2 : wr.cell? ⟨(ad.add (k * 6)).block, (ad.add (k * 6)).off + 2, none⟩ = some (.int .i64 (qq + 1 + 1)) := by rw [cj' 2 (by omega) (by omega), ← hqq]; rfl
      have c3 : wr.cell? ⟨(ad.add (k * 6)).block, (ad.add (k * 6)).off + 3, none⟩ = some (.int .i64 (qq + 1 + 1 + 1)) := by rw [cj' 3 (by omega) (by omega), ← hqq]; rfl
      have c4 : wr.cell? ⟨(ad.add (k * 6)).block, (ad.add (k * 6)).off + 4, none⟩ = some (.int .i64 (qq + 1 + 1 + 1 + 1)) := by rw [cj' 4 (by omega) (by omega), ← hqq]; rfl
      have c5 : wr.cell? ⟨(ad.add (k * 6)).block, (ad.add (k * 6)).off + 5, none⟩ = some (.int .i64 (qq + 1 + 1 + 1 + 1 + 1)) := by rw [cj' 5 (by omega) (by omega), ← hqq]; rfl
      have HQ := Lib.hid hqq
      clear hqq c0' cj'
      go_wp2_with fail
      go_region_held3 (fun w' => w'.cell? ⟨(ad.add (k * 6)).block, (ad.add (k * 6)).off + 1, none⟩ = some (.string (mtext (qq + 1).toNat))) (first | go_keep | exact bl_cell hb2 (by assumption)) (first | (go_at_call 58; refine (markText_c (qq + 1) (by omega) (by omega) _).mono ?_; rintro e w2 ⟨rfl, hb2⟩))
      replace c0 := bl_cell hb2 c0
      replace c1 := bl_cell hb2 c1
      replace c2 := bl_cell hb2 c2
      replace c3 := bl_cell hb2 c3
      replace c4 := bl_cell hb2 c4
      replace c5 := bl_cell hb2 c5
      go_wp2_with fail
      refine ⟨⟨k + 1, by omega, by go_num, ?_, bl_transd (hbel) hb2⟩, by simp [intOf]; omega⟩
      have hq := HQ.out
      congr 1; simp only [Int.natCast_add]; omega
    · have hkn : k = n := by omega
      go_wp2_with fail
      go_returns
      subst hkn
      exact Ret.mk rfl hbel

structure Stuff where
  name : ByteArray
  thick : Int
  gram : Int
  stiff : Int
  price : Int
def Stuff.cells (x : Stuff) : List Value := [.string x.name, .int .i64 x.thick, .int .i64 x.gram, .int .i64 x.stiff, .int .i64 x.price]
def Stuff.val (x : Stuff) : Value := .agg #[.string x.name, .int .i64 x.thick, .int .i64 x.gram, .int .i64 x.stiff, .int .i64 x.price]
def Stuff.sizes (x : Stuff) : List Nat := [x.name.size]
theorem Stuff.cells_length (x : Stuff) : x.cells.length = 5 := rfl
theorem Stuff.at_ {w : World} {A : Option Addr} {xs : List Stuff} {k : Nat} {x : Stuff} (h : Arr w A (flat Stuff.cells xs)) (hk : xs[k]? = some x) :
    ∃ ad, A = some ad ∧ ad.block < w.heap.size ∧ w.cell? (ad.add (k * 5)) = some (.string x.name) ∧
      w.cell? ⟨(ad.add (k * 5)).block, (ad.add (k * 5)).off + 1, none⟩ = some (.int .i64 x.thick) ∧
      w.cell? ⟨(ad.add (k * 5)).block, (ad.add (k * 5)).off + 2, none⟩ = some (.int .i64 x.gram) ∧
      w.cell? ⟨(ad.add (k * 5)).block, (ad.add (k * 5)).off + 3, none⟩ = some (.int .i64 x.stiff) ∧
      w.cell? ⟨(ad.add (k * 5)).block, (ad.add (k * 5)).off + 4, none⟩ = some (.int .i64 x.price) := by
  obtain ⟨ad, e, hb, h0, hj⟩ := h.elem Stuff.cells_length hk (by omega)
  exact ⟨ad, e, hb, h0, hj 1 (by omega) (by omega), hj 2 (by omega) (by omega), hj 3 (by omega) (by omega), hj 4 (by omega) (by omega)⟩
def Stuff.beq (x y : Stuff) : Bool := decide (x.name = y.name) && decide (x.thick = y.thick) && decide (x.gram = y.gram) && decide (x.stiff = y.stiff) && decide (x.price = y.price)
theorem Stuff.beq_iff (x y : Stuff) : x.beq y = true ↔ x = y := by
  cases x; cases y; simp [Stuff.beq, and_assoc]
theorem Stuff.beq_self (x : Stuff) : x.beq x = true := (Stuff.beq_iff x x).2 rfl

set_option maxHeartbeats 400000 in
theorem szStuff_c (x : Stuff) (left : Int) (hs0 : x.name.size ≤ 9223372036854775807) (h0 : 0 ≤ left) (h1 : left ≤ 1048576) (w : World) :
    Calls Try.prog 52 #[.agg #[.string x.name, .int .i64 x.thick, .int .i64 x.gram, .int .i64 x.stiff, .int .i64 x.price], .int .i64 left] w (Ret (.int .i64 (szGo x.sizes left)) w) := by
  go_enter Try.func52, Try.ntmps52
  go_wp2
  · go_returns
    refine Ret.mk (vi ?_) (by go_grown)
    simp only [Stuff.sizes, szGo]
    rw [if_pos (by omega)]
  · go_returns
    refine Ret.mk (vi ?_) (by go_grown)
    simp only [Stuff.sizes, szGo]
    rw [if_neg (by omega)]

set_option maxHeartbeats 400000 in
theorem szStuffS_c (A : Option Addr) (xs : List Stuff) (n c : Nat) (left : Int) (hn : Hid (xs.length = n)) (hm : n ≤ 9223372036854775807) (hs : Hid (∀ x ∈ xs, x.name.size ≤ 9223372036854775807))
    (h0 : 0 ≤ left) (h1 : left ≤ 1048576) (w : World) (hA : Arr w A (flat Stuff.cells xs)) :
    Calls Try.prog 13 #[.slice A n c, .int .i64 left] w (Ret (.int .i64 (szS Stuff.sizes xs left)) w) := by
  go_enter Try.func13, Try.ntmps13
  go_wp2_with fail
  · go_returns
    refine Ret.mk (vi ?_) (by go_grown)
    rw [szS, hn.out]
    exact (szGo_cons_lo (by assumption)).symm
  have hR := Lib.hid (show szS Stuff.sizes xs left = szGo ((xs.drop 0).flatMap Stuff.sizes) (left - n) by rw [szS, hn.out, szGo_cons_hi (by assumption)]; rfl)
  go_loopw [1, 5] (fun l i wr => ∃ k : Nat, ∃ lf : Int, k ≤ n ∧ i = .int .i64 k ∧ l = .int .i64 lf ∧ 0 ≤ lf ∧ lf ≤ 1048576 ∧ Hid (szS Stuff.sizes xs left = szGo ((xs.drop k).flatMap Stuff.sizes) lf) ∧ Below w.heap.size w wr) (fun _ i _ => n - (intOf i).toNat)
  case atStart => exact ⟨0, _, by omega, rfl, rfl, by omega, by omega, hR, Below.refl _ _⟩
  case round =>
    clear hR
    obtain ⟨k, lf, hk, rfl, rfl, hl0, hl1, hR, hbel⟩ := hrel
    by_cases hlt : k < n
    · obtain ⟨x, hx⟩ := get_of_lt (xs := xs) (k := k) (by rw [hn.out]; exact hlt)
      obtain ⟨ad, rfl, hab, c0, c1, c2, c3, c4⟩ := Stuff.at_ (hA.below hbel) hx
      have hR2 := Lib.hid (hR.out.trans (by rw [drop_at hx, List.flatMap_cons] : _ = szGo (x.sizes ++ (xs.drop (k + 1)).flatMap Stuff.sizes) lf))
      have hx0 := hs.out x (List.mem_of_getElem? hx)
      clear hR hx
      go_wp2_with fail
      refine (szStuff_c x lf hx0 hl0 hl1 _).mono ?_
      rintro e w1 ⟨rfl, hb1⟩
      have hle := szGo_le x.sizes lf hl0
      by_cases hneg : szGo x.sizes lf < 0
      · go_wp2_with fail
        go_returns
        refine Ret.mk (vi ?_) (bl_trans hbel hb1)
        rw [hR2.out, szGo_append_lo _ _ _ hl0 hneg]
      · go_wp2_with fail
        go_roundw
        case rel =>
          refine ⟨k + 1, szGo x.sizes lf, by omega, by go_num, rfl, by omega, by omega, ?_, bl_trans hbel hb1⟩
          exact Lib.hid (hR2.out.trans (szGo_append _ _ _ (by omega)))
        case measure => simp [intOf]; omega
    · have hR2 := Lib.hid (hR.out.trans (by rw [List.drop_eq_nil_of_le (by rw [hn.out]; omega)]; rfl : _ = lf))
      clear hR
      go_wp2_with fail
      go_returns
      refine Ret.mk (vi ?_) hbel
      rw [hR2.out]

set_option maxHeartbeats 400000 in
theorem toStuff_c (x : Stuff) (w : World) :
    Calls Try.prog 54 #[.agg #[.string x.name, .int .i64 x.thick, .int .i64 x.gram, .int .i64 x.stiff, .int .i64 x.price]] w (Ret (.agg #[.string x.name, .int .i64 x.thick, .int .i64 x.gram, .int .i64 x.stiff, .int .i64 x.price]) w) := by
  go_enter Try.func54, Try.ntmps54
  go_wp2
  go_returns
  exact Ret.mk rfl (by go_grown)

theorem info_Stuff : (Try.prog.info? 95).map (fun i => (i.zero, i.size, i.bytes)) = some (some (.agg #[.string ByteArray.empty, .int .i64 0, .int .i64 0, .int .i64 0, .int .i64 0]), 5, 48) := by kernel_rfl

set_option maxHeartbeats 800000 in
theorem toStuffS_c (A : Option Addr) (xs : List Stuff) (n c : Nat) (hn : Hid (xs.length = n)) (hm : (n : Int) ≤ 1048576) (w : World) (hA : Arr w A (flat Stuff.cells xs)) :
    Calls Try.prog 15 #[.slice A n c] w (OutS 95 5 n (flat Stuff.cells xs) w) := by
  obtain ⟨i0, hi0, hz0, hz1, hz2⟩ := info_parts (P := Try.prog) (e := 95) (z := .agg #[.string ByteArray.empty, .int .i64 0, .int .i64 0, .int .i64 0, .int .i64 0]) (size := 5) (bytes := 48) info_Stuff
  go_enter Try.func15, Try.ntmps15
  go_wp2_with (at_make; refine wpList_make_full _ rfl _ _ 45 rfl w.heap.size 95 i0 _ 5 Try.underlying45 hi0 hz0 hz1 _ _ _ _ n rfl rfl rfl rfl (by rw [hz2]; omega) (by unfold maxLen; omega) (Nat.le_refl _) ?_; intro w1 hown hg1)
  have hL := hown.1
  generalize (madeCells (Value.agg #[Value.string ByteArray.empty, Value.int IntKind.i64 0, Value.int IntKind.i64 0, Value.int IntKind.i64 0, Value.int IntKind.i64 0]).cells (n * 5)).toList = L at hown hL
  obtain ⟨g, hg⟩ : ∃ g, g = w.heap.size := ⟨_, rfl⟩
  have hbel0 : Below w.heap.size w w1 := bl_grown (Below.refl _ _) hg1 (by simp)
  rw [← hg] at hown ⊢
  have hgB : w.heap.size ≤ g := by omega
  have HG := Lib.hid hg
  clear hg
  have HL := Lib.hid hL
  clear hL
  go_loopw [4] (fun i wr => ∃ k : Nat, k ≤ n ∧ i = .int .i64 k ∧ wr.ownsRow g 95 5 (.slice (some ⟨g, 0, none⟩) n n) n (flat Stuff.cells (xs.take k) ++ L.drop (k * 5)) ∧ Below w.heap.size w wr) (fun i _ => n - (intOf i).toNat)
  case atStart => exact ⟨0, by omega, rfl, by simpa [flat] using hown, hbel0⟩
  case round =>
    clear hown hg1 hbel0
    obtain ⟨k, hk, rfl, hown, hbel⟩ := hrel
    by_cases hlt : k < n
    · obtain ⟨x, hx⟩ := get_of_lt (xs := xs) (k := k) (by rw [hn.out]; exact hlt)
      obtain ⟨ad, rfl, hab, c0, c1, c2, c3, c4⟩ := Stuff.at_ (hA.below hbel) hx
      have HX := Lib.hid hx
      clear hx
      go_wp2_with fail
      refine (toStuff_c x _).mono ?_
      rintro e w2 ⟨rfl, hb1⟩
      have hown2 := own_below hown hb1
      have hlen := hown2.1
      obtain ⟨u0', d0⟩ := own_cell hown2 (j := k * 5) (by omega)
      obtain ⟨u1', d1⟩ := own_cell hown2 (j := k * 5 + 1) (by omega)
      obtain ⟨u2', d2⟩ := own_cell hown2 (j := k * 5 + 2) (by omega)
      obtain ⟨u3', d3⟩ := own_cell hown2 (j := k * 5 + 3) (by omega)
      obtain ⟨u4', d4⟩ := own_cell hown2 (j := k * 5 + 4) (by omega)
      have f0 := hown2.frozenAt (k * 5)
      have f1 := hown2.frozenAt (k * 5 + 1)
      have f2 := hown2.frozenAt (k * 5 + 2)
      have f3 := hown2.frozenAt (k * 5 + 3)
      have f4 := hown2.frozenAt (k * 5 + 4)
      clear hlen
      go_wp2_with fail
      refine ⟨⟨k + 1, by omega, by go_num, ?_, ?_⟩, by simp [intOf]; omega⟩
      · have h3 := (((((hown2.stored (k * 5) (.string x.name)).1.stored (k * 5 + 1) (.int .i64 x.thick)).1.stored (k * 5 + 2) (.int .i64 x.gram)).1.stored (k * 5 + 3) (.int .i64 x.stiff)).1.stored (k * 5 + 4) (.int .i64 x.price)).1
        rw [← flat_step Stuff.cells_length HX.out hn.out L HL.out]
        exact h3
      · refine bl_set (bl_set (bl_set (bl_set (bl_set (bl_trans hbel hb1) ?_ _) ?_ _) ?_ _) ?_ _) ?_ _ <;> exact hgB
    · have hkn : k = n := by omega
      go_wp2_with fail
      go_returns
      subst hkn
      rw [flat_end hn.out L HL.out] at hown
      exact ⟨g, rfl, by rw [← HG.out]; exact hown, hbel⟩

set_option maxHeartbeats 400000 in
theorem eqStuff_c (x y : Stuff) (w : World) :
    Calls Try.prog 57 #[.agg #[.string x.name, .int .i64 x.thick, .int .i64 x.gram, .int .i64 x.stiff, .int .i64 x.price], .agg #[.string y.name, .int .i64 y.thick, .int .i64 y.gram, .int .i64 y.stiff, .int .i64 y.price]] w (Ret (.bool (x.beq y)) w) := by
  go_enter Try.func57, Try.ntmps57
  go_wp2
  all_goals
    go_returns
    refine Ret.mk (vb ?_) (by go_grown)
    simp_all [Stuff.beq, bytes_eq_iff]

set_option maxRecDepth 100000 in
set_option maxHeartbeats 800000 in
theorem eqStuffS_c (A B : Option Addr) (xs ys : List Stuff) (n m c d : Nat) (hn : Hid (xs.length = n)) (hm : Hid (ys.length = m)) (hz : (n : Int) ≤ 1048576) (w : World) (hA : Arr w A (flat Stuff.cells xs)) (hB : Arr w B (flat Stuff.cells ys)) :
    Calls Try.prog 18 #[.slice A n c, .slice B m d] w (Ret (.bool (listBeq Stuff.beq xs ys)) w) := by
  by_cases hnm : n = m
  case neg =>
    have hne : ((n : Int) != (m : Int)) = true := by rw [bne_iff_ne]; omega
    go_enter Try.func18, Try.ntmps18
    go_wp2
    go_returns
    refine Ret.mk (vb ?_) (by go_grown)
    rw [listBeq_len _ _ _ (by rw [hn.out, hm.out]; exact hnm)]
  subst hnm
  have hne : ((n : Int) != (n : Int)) = false := by simp
  go_enter Try.func18, Try.ntmps18
  go_wp2_with fail
  have hR := Lib.hid (show listBeq Stuff.beq xs ys = listBeq Stuff.beq (xs.drop 0) (ys.drop 0) from rfl)
  go_loopw [5] (fun i wr => ∃ k : Nat, k ≤ n ∧ i = .int .i64 k ∧ Hid (listBeq Stuff.beq xs ys = listBeq Stuff.beq (xs.drop k) (ys.drop k)) ∧ Below w.heap.size w wr) (fun i _ => n - (intOf i).toNat)
  case atStart => exact ⟨0, by omega, rfl, hR, Below.refl _ _⟩
  case round =>
    clear hR
    obtain ⟨k, hk, rfl, hR, hbel⟩ := hrel
    by_cases hlt : k < n
    · obtain ⟨x, hx⟩ := get_of_lt (xs := xs) (k := k) (by rw [hn.out]; exact hlt)
      obtain ⟨y, hy⟩ := get_of_lt (xs := ys) (k := k) (by rw [hm.out]; exact hlt)
      obtain ⟨ad, rfl, hab, c0, c1, c2, c3, c4⟩ := Stuff.at_ (hA.below hbel) hx
      obtain ⟨bd, rfl, hbb, d0, d1, d2, d3, d4⟩ := Stuff.at_ (hB.below hbel) hy
      have hR2 := Lib.hid (hR.out.trans (by rw [drop_at hx, drop_at hy]; rfl : _ = (x.beq y && listBeq Stuff.beq (xs.drop (k + 1)) (ys.drop (k + 1)))))
      clear hR hx hy
      go_wp2_with fail
      go_still_tail 8, (by kernel_rfl)
      go_wp2_with fail
      refine (eqStuff_c x y _).mono ?_
      rintro e w1 ⟨rfl, hb1'⟩
      have hb1 : Below wr.heap.size wr w1 := bl_transd (Below.refl _ _) hb1'
      cases hq : x.beq y
      · have HQ := Lib.hid hq
        clear hq
        go_wp2_with fail
        go_returns
        refine Ret.mk (vb ?_) (bl_trans hbel hb1)
        rw [hR2.out, HQ.out]; rfl
      · have HQ := Lib.hid hq
        clear hq
        go_wp2_with fail
        go_roundw
        case rel => exact ⟨k + 1, by omega, by go_num, Lib.hid (hR2.out.trans (by rw [HQ.out]; rfl)), bl_trans hbel hb1⟩
        case measure => simp [intOf]; omega
    · have hR2 := Lib.hid (hR.out.trans (by rw [List.drop_eq_nil_of_le (by rw [hn.out]; omega), List.drop_eq_nil_of_le (by rw [hm.out]; omega)]; rfl : _ = true))
      clear hR
      go_wp2_with fail
      go_returns
      refine Ret.mk (vb ?_) hbel
      rw [hR2.out]

def Stuff.mkc (q : Int) : List Value := [.string (mtext (q).toNat), .int .i64 (q + 1), .int .i64 (q + 1 + 1), .int .i64 (q + 1 + 1 + 1), .int .i64 (q + 1 + 1 + 1 + 1)]
theorem Stuff.mkc_length (q : Int) : (Stuff.mkc q).length = 5 := rfl

set_option maxRecDepth 100000 in
set_option maxHeartbeats 1000000 in
theorem markStuffS_c (A : Option Addr) (n c base : Nat) (cs : List Value) (q : Int) (h0 : 0 ≤ q) (h1 : q + n * 5 ≤ 100000000) (hz : (n : Int) ≤ 10000000) (w : World) (hO : w.ownsRow base 95 5 (.slice A n c) n cs) :
    Calls Try.prog 19 #[.slice A n c, .int .i64 q] w (MarkS base 95 5 A n c (flat (fun i : Nat => Stuff.mkc (q + i * 5)) (List.range n)) (q + n * 5) w) := by
  have hL := Lib.hid hO.1
  go_enter Try.func19, Try.ntmps19
  go_wp2_with fail
  go_loopw [1, 5] (fun kv i wr => ∃ k : Nat, k ≤ n ∧ i = .int .i64 k ∧ kv = .int .i64 (q + k * 5) ∧ wr.ownsRow base 95 5 (.slice A n c) n (flat (fun i : Nat => Stuff.mkc (q + i * 5)) ((List.range n).take k) ++ cs.drop (k * 5)) ∧ w.grownBy wr (A.map (·.block))) (fun _ i _ => n - (intOf i).toNat)
  case atStart => exact ⟨0, by omega, rfl, by simp, by simpa [flat] using hO, World.grownBy.refl _ _⟩
  case round =>
    clear hO
    obtain ⟨k, hk, rfl, rfl, hO, hg⟩ := hrel
    by_cases hlt : k < n
    · obtain ⟨g, hA⟩ := own_addr hO (by omega)
      subst hA
      have hlen := hO.1
      obtain ⟨qq, hqq⟩ : ∃ qq : Int, qq = q + (k : Int) * 5 := ⟨_, rfl⟩
      have hq0 : 0 ≤ qq := by omega
      have hq1 : qq + 5 ≤ 100000000 := by omega
      rw [← hqq]
      have HQ := Lib.hid hqq
      clear hqq
      go_wp2_with fail
      refine (markText_c (qq) (by omega) (by omega) _).mono ?_
      rintro e w2 ⟨rfl, hb2⟩
      have hO2 := own_below hO hb2
      have hlen1 := hO2.1
      obtain ⟨u0', d0⟩ := own_cell hO2 (j := k * 5) (by omega)
      obtain ⟨u1', d1⟩ := own_cell hO2 (j := k * 5 + 1) (by omega)
      obtain ⟨u2', d2⟩ := own_cell hO2 (j := k * 5 + 2) (by omega)
      obtain ⟨u3', d3⟩ := own_cell hO2 (j := k * 5 + 3) (by omega)
      obtain ⟨u4', d4⟩ := own_cell hO2 (j := k * 5 + 4) (by omega)
      have f0 := hO2.frozenAt (k * 5)
      have f1 := hO2.frozenAt (k * 5 + 1)
      have f2 := hO2.frozenAt (k * 5 + 2)
      have f3 := hO2.frozenAt (k * 5 + 3)
      have f4 := hO2.frozenAt (k * 5 + 4)
      clear hlen1
      clear hlen
      go_wp2_with fail
      refine ⟨⟨k + 1, by omega, by go_num, ?_, ?_, ?_⟩, by simp [intOf]; omega⟩
      · have hq := HQ.out
        congr 1; simp only [Int.natCast_add]; omega
      · have h3 := (((((hO2.stored (k * 5) (.string (mtext (qq).toNat))).1.stored (k * 5 + 1) (.int .i64 (qq + 1))).1.stored (k * 5 + 2) (.int .i64 (qq + 1 + 1))).1.stored (k * 5 + 3) (.int .i64 (qq + 1 + 1 + 1))).1.stored (k * 5 + 4) (.int .i64 (qq + 1 + 1 + 1 + 1))).1
        have h4 := flat_step (f := fun i : Nat => Stuff.mkc (q + i * 5)) (fun i => Stuff.mkc_length _) (xs := List.range n) (k := k) (x := k) (by simp [hlt]) (by simp) cs hL.out
        rw [← h4, ← HQ.out]
        exact h3
      · exact grown_setCell (grown_setCell (grown_setCell (grown_setCell (grown_setCell (grown_below (hg) hb2) (p := ⟨g, k * 5, none⟩) (.inl rfl) _) (p := ⟨g, k * 5 + 1, none⟩) (.inl rfl) _) (p := ⟨g, k * 5 + 2, none⟩) (.inl rfl) _) (p := ⟨g, k * 5 + 3, none⟩) (.inl rfl) _) (p := ⟨g, k * 5 + 4, none⟩) (.inl rfl) _
    · have hkn : k = n := by omega
      go_wp2_with fail
      go_returns
      subst hkn
      rw [flat_end (by simp) cs hL.out] at hO
      exact ⟨rfl, hO, hg⟩

structure Last where
  name : ByteArray
  length : Int
  ball : Int
  instep : Int
  heel : Int
  pitch : Int
def Last.cells (x : Last) : List Value := [.string x.name, .int .i64 x.length, .int .i64 x.ball, .int .i64 x.instep, .int .i64 x.heel, .int .i64 x.pitch]
def Last.val (x : Last) : Value := .agg #[.string x.name, .int .i64 x.length, .int .i64 x.ball, .int .i64 x.instep, .int .i64 x.heel, .int .i64 x.pitch]
def Last.sizes (x : Last) : List Nat := [x.name.size]
theorem Last.cells_length (x : Last) : x.cells.length = 6 := rfl
theorem Last.at_ {w : World} {A : Option Addr} {xs : List Last} {k : Nat} {x : Last} (h : Arr w A (flat Last.cells xs)) (hk : xs[k]? = some x) :
    ∃ ad, A = some ad ∧ ad.block < w.heap.size ∧ w.cell? (ad.add (k * 6)) = some (.string x.name) ∧
      w.cell? ⟨(ad.add (k * 6)).block, (ad.add (k * 6)).off + 1, none⟩ = some (.int .i64 x.length) ∧
      w.cell? ⟨(ad.add (k * 6)).block, (ad.add (k * 6)).off + 2, none⟩ = some (.int .i64 x.ball) ∧
      w.cell? ⟨(ad.add (k * 6)).block, (ad.add (k * 6)).off + 3, none⟩ = some (.int .i64 x.instep) ∧
      w.cell? ⟨(ad.add (k * 6)).block, (ad.add (k * 6)).off + 4, none⟩ = some (.int .i64 x.heel) ∧
      w.cell? ⟨(ad.add (k * 6)).block, (ad.add (k * 6)).off + 5, none⟩ = some (.int .i64 x.pitch) := by
  obtain ⟨ad, e, hb, h0, hj⟩ := h.elem Last.cells_length hk (by omega)
  exact ⟨ad, e, hb, h0, hj 1 (by omega) (by omega), hj 2 (by omega) (by omega), hj 3 (by omega) (by omega), hj 4 (by omega) (by omega), hj 5 (by omega) (by omega)⟩
def Last.beq (x y : Last) : Bool := decide (x.name = y.name) && decide (x.length = y.length) && decide (x.ball = y.ball) && decide (x.instep = y.instep) && decide (x.heel = y.heel) && decide (x.pitch = y.pitch)
theorem Last.beq_iff (x y : Last) : x.beq y = true ↔ x = y := by
  cases x; cases y; simp [Last.beq, and_assoc]
theorem Last.beq_self (x : Last) : x.beq x = true := (Last.beq_iff x x).2 rfl

set_option maxHeartbeats 400000 in
theorem szLast_c (x : Last) (left : Int) (hs0 : x.name.size ≤ 9223372036854775807) (h0 : 0 ≤ left) (h1 : left ≤ 1048576) (w : World) :
    Calls Try.prog 81 #[.agg #[.string x.name, .int .i64 x.length, .int .i64 x.ball, .int .i64 x.instep, .int .i64 x.heel, .int .i64 x.pitch], .int .i64 left] w (Ret (.int .i64 (szGo x.sizes left)) w) := by
  go_enter Try.func81, Try.ntmps81
  go_wp2
  · go_returns
    refine Ret.mk (vi ?_) (by go_grown)
    simp only [Last.sizes, szGo]
    rw [if_pos (by omega)]
  · go_returns
    refine Ret.mk (vi ?_) (by go_grown)
    simp only [Last.sizes, szGo]
    rw [if_neg (by omega)]

set_option maxHeartbeats 400000 in
theorem szLastS_c (A : Option Addr) (xs : List Last) (n c : Nat) (left : Int) (hn : Hid (xs.length = n)) (hm : n ≤ 9223372036854775807) (hs : Hid (∀ x ∈ xs, x.name.size ≤ 9223372036854775807))
    (h0 : 0 ≤ left) (h1 : left ≤ 1048576) (w : World) (hA : Arr w A (flat Last.cells xs)) :
    Calls Try.prog 42 #[.slice A n c, .int .i64 left] w (Ret (.int .i64 (szS Last.sizes xs left)) w) := by
  go_enter Try.func42, Try.ntmps42
  go_wp2_with fail
  · go_returns
    refine Ret.mk (vi ?_) (by go_grown)
    rw [szS, hn.out]
    exact (szGo_cons_lo (by assumption)).symm
  have hR := Lib.hid (show szS Last.sizes xs left = szGo ((xs.drop 0).flatMap Last.sizes) (left - n) by rw [szS, hn.out, szGo_cons_hi (by assumption)]; rfl)
  go_loopw [1, 5] (fun l i wr => ∃ k : Nat, ∃ lf : Int, k ≤ n ∧ i = .int .i64 k ∧ l = .int .i64 lf ∧ 0 ≤ lf ∧ lf ≤ 1048576 ∧ Hid (szS Last.sizes xs left = szGo ((xs.drop k).flatMap Last.sizes) lf) ∧ Below w.heap.size w wr) (fun _ i _ => n - (intOf i).toNat)
  case atStart => exact ⟨0, _, by omega, rfl, rfl, by omega, by omega, hR, Below.refl _ _⟩
  case round =>
    clear hR
    obtain ⟨k, lf, hk, rfl, rfl, hl0, hl1, hR, hbel⟩ := hrel
    by_cases hlt : k < n
    · obtain ⟨x, hx⟩ := get_of_lt (xs := xs) (k := k) (by rw [hn.out]; exact hlt)
      obtain ⟨ad, rfl, hab, c0, c1, c2, c3, c4, c5⟩ := Last.at_ (hA.below hbel) hx
      have hR2 := Lib.hid (hR.out.trans (by rw [drop_at hx, List.flatMap_cons] : _ = szGo (x.sizes ++ (xs.drop (k + 1)).flatMap Last.sizes) lf))
      have hx0 := hs.out x (List.mem_of_getElem? hx)
      clear hR hx
      go_wp2_with fail
      refine (szLast_c x lf hx0 hl0 hl1 _).mono ?_
      rintro e w1 ⟨rfl, hb1⟩
      have hle := szGo_le x.sizes lf hl0
      by_cases hneg : szGo x.sizes lf < 0
      · go_wp2_with fail
        go_returns
        refine Ret.mk (vi ?_) (bl_trans hbel hb1)
        rw [hR2.out, szGo_append_lo _ _ _ hl0 hneg]
      · go_wp2_with fail
        go_roundw
        case rel =>
          refine ⟨k + 1, szGo x.sizes lf, by omega, by go_num, rfl, by omega, by omega, ?_, bl_trans hbel hb1⟩
          exact Lib.hid (hR2.out.trans (szGo_append _ _ _ (by omega)))
        case measure => simp [intOf]; omega
    · have hR2 := Lib.hid (hR.out.trans (by rw [List.drop_eq_nil_of_le (by rw [hn.out]; omega)]; rfl : _ = lf))
      clear hR
      go_wp2_with fail
      go_returns
      refine Ret.mk (vi ?_) hbel
      rw [hR2.out]

set_option maxHeartbeats 400000 in
theorem toLast_c (x : Last) (w : World) :
    Calls Try.prog 82 #[.agg #[.string x.name, .int .i64 x.length, .int .i64 x.ball, .int .i64 x.instep, .int .i64 x.heel, .int .i64 x.pitch]] w (Ret (.agg #[.string x.name, .int .i64 x.length, .int .i64 x.ball, .int .i64 x.instep, .int .i64 x.heel, .int .i64 x.pitch]) w) := by
  go_enter Try.func82, Try.ntmps82
  go_wp2
  go_returns
  exact Ret.mk rfl (by go_grown)

theorem info_Last : (Try.prog.info? 88).map (fun i => (i.zero, i.size, i.bytes)) = some (some (.agg #[.string ByteArray.empty, .int .i64 0, .int .i64 0, .int .i64 0, .int .i64 0, .int .i64 0]), 6, 56) := by kernel_rfl

set_option maxHeartbeats 800000 in
theorem toLastS_c (A : Option Addr) (xs : List Last) (n c : Nat) (hn : Hid (xs.length = n)) (hm : (n : Int) ≤ 1048576) (w : World) (hA : Arr w A (flat Last.cells xs)) :
    Calls Try.prog 46 #[.slice A n c] w (OutS 88 6 n (flat Last.cells xs) w) := by
  obtain ⟨i0, hi0, hz0, hz1, hz2⟩ := info_parts (P := Try.prog) (e := 88) (z := .agg #[.string ByteArray.empty, .int .i64 0, .int .i64 0, .int .i64 0, .int .i64 0, .int .i64 0]) (size := 6) (bytes := 56) info_Last
  go_enter Try.func46, Try.ntmps46
  go_wp2_with (at_make; refine wpList_make_full _ rfl _ _ 32 rfl w.heap.size 88 i0 _ 6 Try.underlying32 hi0 hz0 hz1 _ _ _ _ n rfl rfl rfl rfl (by rw [hz2]; omega) (by unfold maxLen; omega) (Nat.le_refl _) ?_; intro w1 hown hg1)
  have hL := hown.1
  generalize (madeCells (Value.agg #[Value.string ByteArray.empty, Value.int IntKind.i64 0, Value.int IntKind.i64 0, Value.int IntKind.i64 0, Value.int IntKind.i64 0, Value.int IntKind.i64 0]).cells (n * 6)).toList = L at hown hL
  obtain ⟨g, hg⟩ : ∃ g, g = w.heap.size := ⟨_, rfl⟩
  have hbel0 : Below w.heap.size w w1 := bl_grown (Below.refl _ _) hg1 (by simp)
  rw [← hg] at hown ⊢
  have hgB : w.heap.size ≤ g := by omega
  have HG := Lib.hid hg
  clear hg
  have HL := Lib.hid hL
  clear hL
  go_loopw [4] (fun i wr => ∃ k : Nat, k ≤ n ∧ i = .int .i64 k ∧ wr.ownsRow g 88 6 (.slice (some ⟨g, 0, none⟩) n n) n (flat Last.cells (xs.take k) ++ L.drop (k * 6)) ∧ Below w.heap.size w wr) (fun i _ => n - (intOf i).toNat)
  case atStart => exact ⟨0, by omega, rfl, by simpa [flat] using hown, hbel0⟩
  case round =>
    clear hown hg1 hbel0
    obtain ⟨k, hk, rfl, hown, hbel⟩ := hrel
    by_cases hlt : k < n
    · obtain ⟨x, hx⟩ := get_of_lt (xs := xs) (k := k) (by rw [hn.out]; exact hlt)
      obtain ⟨ad, rfl, hab, c0, c1, c2, c3, c4, c5⟩ := Last.at_ (hA.below hbel) hx
      have HX := Lib.hid hx
      clear hx
      go_wp2_with fail
      refine (toLast_c x _).mono ?_
      rintro e w2 ⟨rfl, hb1⟩
      have hown2 := own_below hown hb1
      have hlen := hown2.1
      obtain ⟨u0', d0⟩ := own_cell hown2 (j := k * 6) (by omega)
      obtain ⟨u1', d1⟩ := own_cell hown2 (j := k * 6 + 1) (by omega)
      obtain ⟨u2', d2⟩ := own_cell hown2 (j := k * 6 + 2) (by omega)
      obtain ⟨u3', d3⟩ := own_cell hown2 (j := k * 6 + 3) (by omega)
      obtain ⟨u4', d4⟩ := own_cell hown2 (j := k * 6 + 4) (by omega)
      obtain ⟨u5', d5⟩ := own_cell hown2 (j := k * 6 + 5) (by omega)
      have f0 := hown2.frozenAt (k * 6)
      have f1 := hown2.frozenAt (k * 6 + 1)
      have f2 := hown2.frozenAt (k * 6 + 2)
      have f3 := hown2.frozenAt (k * 6 + 3)
      have f4 := hown2.frozenAt (k * 6 + 4)
      have f5 := hown2.frozenAt (k * 6 + 5)
      clear hlen
      go_wp2_with fail
      refine ⟨⟨k + 1, by omega, by go_num, ?_, ?_⟩, by simp [intOf]; omega⟩
      · have h3 := ((((((hown2.stored (k * 6) (.string x.name)).1.stored (k * 6 + 1) (.int .i64 x.length)).1.stored (k * 6 + 2) (.int .i64 x.ball)).1.stored (k * 6 + 3) (.int .i64 x.instep)).1.stored (k * 6 + 4) (.int .i64 x.heel)).1.stored (k * 6 + 5) (.int .i64 x.pitch)).1
        rw [← flat_step Last.cells_length HX.out hn.out L HL.out]
        exact h3
      · refine bl_set (bl_set (bl_set (bl_set (bl_set (bl_set (bl_trans hbel hb1) ?_ _) ?_ _) ?_ _) ?_ _) ?_ _) ?_ _ <;> exact hgB
    · have hkn : k = n := by omega
      go_wp2_with fail
      go_returns
      subst hkn
      rw [flat_end hn.out L HL.out] at hown
      exact ⟨g, rfl, by rw [← HG.out]; exact hown, hbel⟩

set_option maxHeartbeats 400000 in
theorem eqLast_c (x y : Last) (w : World) :
    Calls Try.prog 83 #[.agg #[.string x.name, .int .i64 x.length, .int .i64 x.ball, .int .i64 x.instep, .int .i64 x.heel, .int .i64 x.pitch], .agg #[.string y.name, .int .i64 y.length, .int .i64 y.ball, .int .i64 y.instep, .int .i64 y.heel, .int .i64 y.pitch]] w (Ret (.bool (x.beq y)) w) := by
  go_enter Try.func83, Try.ntmps83
  go_wp2
  all_goals
    go_returns
    refine Ret.mk (vb ?_) (by go_grown)
    simp_all [Last.beq, bytes_eq_iff]

set_option maxRecDepth 100000 in
set_option maxHeartbeats 800000 in
theorem eqLastS_c (A B : Option Addr) (xs ys : List Last) (n m c d : Nat) (hn : Hid (xs.length = n)) (hm : Hid (ys.length = m)) (hz : (n : Int) ≤ 1048576) (w : World) (hA : Arr w A (flat Last.cells xs)) (hB : Arr w B (flat Last.cells ys)) :
    Calls Try.prog 50 #[.slice A n c, .slice B m d] w (Ret (.bool (listBeq Last.beq xs ys)) w) := by
  by_cases hnm : n = m
  case neg =>
    have hne : ((n : Int) != (m : Int)) = true := by rw [bne_iff_ne]; omega
    go_enter Try.func50, Try.ntmps50
    go_wp2
    go_returns
    refine Ret.mk (vb ?_) (by go_grown)
    rw [listBeq_len _ _ _ (by rw [hn.out, hm.out]; exact hnm)]
  subst hnm
  have hne : ((n : Int) != (n : Int)) = false := by simp
  go_enter Try.func50, Try.ntmps50
  go_wp2_with fail
  have hR := Lib.hid (show listBeq Last.beq xs ys = listBeq Last.beq (xs.drop 0) (ys.drop 0) from rfl)
  go_loopw [5] (fun i wr => ∃ k : Nat, k ≤ n ∧ i = .int .i64 k ∧ Hid (listBeq Last.beq xs ys = listBeq Last.beq (xs.drop k) (ys.drop k)) ∧ Below w.heap.size w wr) (fun i _ => n - (intOf i).toNat)
  case atStart => exact ⟨0, by omega, rfl, hR, Below.refl _ _⟩
  case round =>
    clear hR
    obtain ⟨k, hk, rfl, hR, hbel⟩ := hrel
    by_cases hlt : k < n
    · obtain ⟨x, hx⟩ := get_of_lt (xs := xs) (k := k) (by rw [hn.out]; exact hlt)
      obtain ⟨y, hy⟩ := get_of_lt (xs := ys) (k := k) (by rw [hm.out]; exact hlt)
      obtain ⟨ad, rfl, hab, c0, c1, c2, c3, c4, c5⟩ := Last.at_ (hA.below hbel) hx
      obtain ⟨bd, rfl, hbb, d0, d1, d2, d3, d4, d5⟩ := Last.at_ (hB.below hbel) hy
      have hR2 := Lib.hid (hR.out.trans (by rw [drop_at hx, drop_at hy]; rfl : _ = (x.beq y && listBeq Last.beq (xs.drop (k + 1)) (ys.drop (k + 1)))))
      clear hR hx hy
      go_wp2_with fail
      go_still_tail 8, (by kernel_rfl)
      go_wp2_with fail
      refine (eqLast_c x y _).mono ?_
      rintro e w1 ⟨rfl, hb1'⟩
      have hb1 : Below wr.heap.size wr w1 := bl_transd (Below.refl _ _) hb1'
      cases hq : x.beq y
      · have HQ := Lib.hid hq
        clear hq
        go_wp2_with fail
        go_returns
        refine Ret.mk (vb ?_) (bl_trans hbel hb1)
        rw [hR2.out, HQ.out]; rfl
      · have HQ := Lib.hid hq
        clear hq
        go_wp2_with fail
        go_roundw
        case rel => exact ⟨k + 1, by omega, by go_num, Lib.hid (hR2.out.trans (by rw [HQ.out]; rfl)), bl_trans hbel hb1⟩
        case measure => simp [intOf]; omega
    · have hR2 := Lib.hid (hR.out.trans (by rw [List.drop_eq_nil_of_le (by rw [hn.out]; omega), List.drop_eq_nil_of_le (by rw [hm.out]; omega)]; rfl : _ = true))
      clear hR
      go_wp2_with fail
      go_returns
      refine Ret.mk (vb ?_) hbel
      rw [hR2.out]

structure Foot where
  length : Int
  ball : Int
  instep : Int
  heel : Int
def Foot.cells (x : Foot) : List Value := [.int .i64 x.length, .int .i64 x.ball, .int .i64 x.instep, .int .i64 x.heel]
def Foot.val (x : Foot) : Value := .agg #[.int .i64 x.length, .int .i64 x.ball, .int .i64 x.instep, .int .i64 x.heel]
def Foot.sizes (_ : Foot) : List Nat := []
theorem Foot.cells_length (x : Foot) : x.cells.length = 4 := rfl
theorem Foot.at_ {w : World} {A : Option Addr} {xs : List Foot} {k : Nat} {x : Foot} (h : Arr w A (flat Foot.cells xs)) (hk : xs[k]? = some x) :
    ∃ ad, A = some ad ∧ ad.block < w.heap.size ∧ w.cell? (ad.add (k * 4)) = some (.int .i64 x.length) ∧
      w.cell? ⟨(ad.add (k * 4)).block, (ad.add (k * 4)).off + 1, none⟩ = some (.int .i64 x.ball) ∧
      w.cell? ⟨(ad.add (k * 4)).block, (ad.add (k * 4)).off + 2, none⟩ = some (.int .i64 x.instep) ∧
      w.cell? ⟨(ad.add (k * 4)).block, (ad.add (k * 4)).off + 3, none⟩ = some (.int .i64 x.heel) := by
  obtain ⟨ad, e, hb, h0, hj⟩ := h.elem Foot.cells_length hk (by omega)
  exact ⟨ad, e, hb, h0, hj 1 (by omega) (by omega), hj 2 (by omega) (by omega), hj 3 (by omega) (by omega)⟩
def Foot.beq (x y : Foot) : Bool := decide (x.length = y.length) && decide (x.ball = y.ball) && decide (x.instep = y.instep) && decide (x.heel = y.heel)
theorem Foot.beq_iff (x y : Foot) : x.beq y = true ↔ x = y := by
  cases x; cases y; simp [Foot.beq, and_assoc]
theorem Foot.beq_self (x : Foot) : x.beq x = true := (Foot.beq_iff x x).2 rfl

set_option maxHeartbeats 400000 in
theorem toFoot_c (x : Foot) (w : World) :
    Calls Try.prog 45 #[.agg #[.int .i64 x.length, .int .i64 x.ball, .int .i64 x.instep, .int .i64 x.heel]] w (Ret (.agg #[.int .i64 x.length, .int .i64 x.ball, .int .i64 x.instep, .int .i64 x.heel]) w) := by
  go_enter Try.func45, Try.ntmps45
  go_wp2
  go_returns
  exact Ret.mk rfl (by go_grown)

set_option maxHeartbeats 400000 in
theorem eqFoot_c (x y : Foot) (w : World) :
    Calls Try.prog 49 #[.agg #[.int .i64 x.length, .int .i64 x.ball, .int .i64 x.instep, .int .i64 x.heel], .agg #[.int .i64 y.length, .int .i64 y.ball, .int .i64 y.instep, .int .i64 y.heel]] w (Ret (.bool (x.beq y)) w) := by
  go_enter Try.func49, Try.ntmps49
  go_wp2
  all_goals
    go_returns
    refine Ret.mk (vb ?_) (by go_grown)
    simp_all [Foot.beq]

structure Style where
  upper : ByteArray
  color : ByteArray
  lining : ByteArray
  sole : ByteArray
  thick : Int
  heel : Int
  eyelets : Int
  density : Int
  double : Bool
def Style.cells (x : Style) : List Value := [.string x.upper, .string x.color, .string x.lining, .string x.sole, .int .i64 x.thick, .int .i64 x.heel, .int .i64 x.eyelets, .int .i64 x.density, .bool x.double]
def Style.val (x : Style) : Value := .agg #[.string x.upper, .string x.color, .string x.lining, .string x.sole, .int .i64 x.thick, .int .i64 x.heel, .int .i64 x.eyelets, .int .i64 x.density, .bool x.double]
def Style.sizes (x : Style) : List Nat := [x.upper.size, x.color.size, x.lining.size, x.sole.size]
theorem Style.cells_length (x : Style) : x.cells.length = 9 := rfl
theorem Style.at_ {w : World} {A : Option Addr} {xs : List Style} {k : Nat} {x : Style} (h : Arr w A (flat Style.cells xs)) (hk : xs[k]? = some x) :
    ∃ ad, A = some ad ∧ ad.block < w.heap.size ∧ w.cell? (ad.add (k * 9)) = some (.string x.upper) ∧
      w.cell? ⟨(ad.add (k * 9)).block, (ad.add (k * 9)).off + 1, none⟩ = some (.string x.color) ∧
      w.cell? ⟨(ad.add (k * 9)).block, (ad.add (k * 9)).off + 2, none⟩ = some (.string x.lining) ∧
      w.cell? ⟨(ad.add (k * 9)).block, (ad.add (k * 9)).off + 3, none⟩ = some (.string x.sole) ∧
      w.cell? ⟨(ad.add (k * 9)).block, (ad.add (k * 9)).off + 4, none⟩ = some (.int .i64 x.thick) ∧
      w.cell? ⟨(ad.add (k * 9)).block, (ad.add (k * 9)).off + 5, none⟩ = some (.int .i64 x.heel) ∧
      w.cell? ⟨(ad.add (k * 9)).block, (ad.add (k * 9)).off + 6, none⟩ = some (.int .i64 x.eyelets) ∧
      w.cell? ⟨(ad.add (k * 9)).block, (ad.add (k * 9)).off + 7, none⟩ = some (.int .i64 x.density) ∧
      w.cell? ⟨(ad.add (k * 9)).block, (ad.add (k * 9)).off + 8, none⟩ = some (.bool x.double) := by
  obtain ⟨ad, e, hb, h0, hj⟩ := h.elem Style.cells_length hk (by omega)
  exact ⟨ad, e, hb, h0, hj 1 (by omega) (by omega), hj 2 (by omega) (by omega), hj 3 (by omega) (by omega), hj 4 (by omega) (by omega), hj 5 (by omega) (by omega), hj 6 (by omega) (by omega), hj 7 (by omega) (by omega), hj 8 (by omega) (by omega)⟩
def Style.beq (x y : Style) : Bool := decide (x.upper = y.upper) && decide (x.color = y.color) && decide (x.lining = y.lining) && decide (x.sole = y.sole) && decide (x.thick = y.thick) && decide (x.heel = y.heel) && decide (x.eyelets = y.eyelets) && decide (x.density = y.density) && decide (x.double = y.double)
theorem Style.beq_iff (x y : Style) : x.beq y = true ↔ x = y := by
  cases x; cases y; simp [Style.beq, and_assoc]
theorem Style.beq_self (x : Style) : x.beq x = true := (Style.beq_iff x x).2 rfl

set_option maxHeartbeats 400000 in
theorem szStyle_c (x : Style) (left : Int) (hs0 : x.upper.size ≤ 9223372036854775807) (hs1 : x.color.size ≤ 9223372036854775807) (hs2 : x.lining.size ≤ 9223372036854775807) (hs3 : x.sole.size ≤ 9223372036854775807) (h0 : 0 ≤ left) (h1 : left ≤ 1048576) (w : World) :
    Calls Try.prog 43 #[.agg #[.string x.upper, .string x.color, .string x.lining, .string x.sole, .int .i64 x.thick, .int .i64 x.heel, .int .i64 x.eyelets, .int .i64 x.density, .bool x.double], .int .i64 left] w (Ret (.int .i64 (szGo x.sizes left)) w) := by
  go_enter Try.func43, Try.ntmps43
  go_wp2
  · go_returns
    refine Ret.mk (vi ?_) (by go_grown)
    simp only [Style.sizes, szGo]
    rw [if_pos (by omega)]
  · go_returns
    refine Ret.mk (vi ?_) (by go_grown)
    simp only [Style.sizes, szGo]
    rw [if_neg (by omega), if_pos (by omega)]
  · go_returns
    refine Ret.mk (vi ?_) (by go_grown)
    simp only [Style.sizes, szGo]
    rw [if_neg (by omega), if_neg (by omega), if_pos (by omega)]
  · go_returns
    refine Ret.mk (vi ?_) (by go_grown)
    simp only [Style.sizes, szGo]
    rw [if_neg (by omega), if_neg (by omega), if_neg (by omega), if_pos (by omega)]
  · go_returns
    refine Ret.mk (vi ?_) (by go_grown)
    simp only [Style.sizes, szGo]
    rw [if_neg (by omega), if_neg (by omega), if_neg (by omega), if_neg (by omega)]

set_option maxHeartbeats 400000 in
theorem toStyle_c (x : Style) (w : World) :
    Calls Try.prog 47 #[.agg #[.string x.upper, .string x.color, .string x.lining, .string x.sole, .int .i64 x.thick, .int .i64 x.heel, .int .i64 x.eyelets, .int .i64 x.density, .bool x.double]] w (Ret (.agg #[.string x.upper, .string x.color, .string x.lining, .string x.sole, .int .i64 x.thick, .int .i64 x.heel, .int .i64 x.eyelets, .int .i64 x.density, .bool x.double]) w) := by
  go_enter Try.func47, Try.ntmps47
  go_wp2
  go_returns
  exact Ret.mk rfl (by go_grown)

set_option maxHeartbeats 400000 in
theorem eqStyle_c (x y : Style) (w : World) :
    Calls Try.prog 51 #[.agg #[.string x.upper, .string x.color, .string x.lining, .string x.sole, .int .i64 x.thick, .int .i64 x.heel, .int .i64 x.eyelets, .int .i64 x.density, .bool x.double], .agg #[.string y.upper, .string y.color, .string y.lining, .string y.sole, .int .i64 y.thick, .int .i64 y.heel, .int .i64 y.eyelets, .int .i64 y.density, .bool y.double]] w (Ret (.bool (x.beq y)) w) := by
  go_enter Try.func51, Try.ntmps51
  go_wp2
  all_goals
    go_returns
    refine Ret.mk (vb ?_) (by go_grown)
    simp_all [Style.beq, bytes_eq_iff]

set_option maxRecDepth 100000 in
set_option maxHeartbeats 800000 in
theorem eqInt64S_c (A B : Option Addr) (xs ys : List Int) (n m c d : Nat) (hn : Hid (xs.length = n)) (hm : Hid (ys.length = m)) (hz : (n : Int) ≤ 9223372036854775807) (w : World) (hA : Arr w A (flat icell xs)) (hB : Arr w B (flat icell ys)) :
    Calls Try.prog 28 #[.slice A n c, .slice B m d] w (Ret (.bool (decide (xs = ys))) w) := by
  by_cases hnm : n = m
  case neg =>
    have hne : ((n : Int) != (m : Int)) = true := by rw [bne_iff_ne]; omega
    go_enter Try.func28, Try.ntmps28
    go_wp2
    go_returns
    refine Ret.mk (vb ?_) (by go_grown)
    symm
    rw [decide_eq_false_iff_not]
    intro e
    subst e
    have h1 := hn.out
    have h2 := hm.out
    omega
  subst hnm
  have hne : ((n : Int) != (n : Int)) = false := by simp
  go_enter Try.func28, Try.ntmps28
  go_wp2_with fail
  have hR := Lib.hid (show decide (xs = ys) = decide (xs.drop 0 = ys.drop 0) from rfl)
  go_loopw [5] (fun i wr => ∃ k : Nat, k ≤ n ∧ i = .int .i64 k ∧ Hid (decide (xs = ys) = decide (xs.drop k = ys.drop k)) ∧ Below w.heap.size w wr) (fun i _ => n - (intOf i).toNat)
  case atStart => exact ⟨0, by omega, rfl, hR, Below.refl _ _⟩
  case round =>
    clear hR
    obtain ⟨k, hk, rfl, hR, hbel⟩ := hrel
    by_cases hlt : k < n
    · obtain ⟨x, hx⟩ := get_of_lt (xs := xs) (k := k) (by rw [hn.out]; exact hlt)
      obtain ⟨y, hy⟩ := get_of_lt (xs := ys) (k := k) (by rw [hm.out]; exact hlt)
      obtain ⟨ad, rfl, hab, c0⟩ := icell_at (hA.below hbel) hx
      obtain ⟨bd, rfl, hbb, d0⟩ := icell_at (hB.below hbel) hy
      have hR2 := Lib.hid (hR.out.trans (by rw [drop_at hx, drop_at hy] : _ = decide (x :: xs.drop (k + 1) = y :: ys.drop (k + 1))))
      clear hR hx hy
      by_cases hq : x = y
      · subst hq
        have hne2 : (x != x) = false := by simp
        go_wp2_with fail
        go_quiet (fail)
        go_wp2_with fail
        go_roundw
        case rel => exact ⟨k + 1, by omega, by go_num, Lib.hid (hR2.out.trans (by simp)), below_drewN hbel _⟩
        case measure => simp [intOf]; omega
      · have hne2 : (x != y) = true := by rw [bne_iff_ne]; exact hq
        go_wp2_with fail
        go_quiet (fail)
        go_wp2_with fail
        go_returns
        refine Ret.mk (vb ?_) (below_drewN hbel _)
        rw [hR2.out]
        simp [hq]
    · have hR2 := Lib.hid (hR.out.trans (by rw [List.drop_eq_nil_of_le (by rw [hn.out]; omega), List.drop_eq_nil_of_le (by rw [hm.out]; omega)]; simp : _ = true))
      clear hR
      go_wp2_with fail
      go_returns
      refine Ret.mk (vb ?_) hbel
      rw [hR2.out]

def mkicell (q : Int) : List Value := [.int .i64 (q)]
set_option maxRecDepth 100000 in
set_option maxHeartbeats 800000 in
theorem markInt64S_c (A : Option Addr) (n c base : Nat) (cs : List Value) (q : Int) (h0 : 0 ≤ q) (h1 : q + n ≤ 100000000) (hz : (n : Int) ≤ 10000000) (w : World) (hO : w.ownsRow base 2 1 (.slice A n c) n cs) :
    Calls Try.prog 31 #[.slice A n c, .int .i64 q] w (MarkS base 2 1 A n c (flat (fun i : Nat => mkicell (q + i)) (List.range n)) (q + n) w) := by
  have hL := Lib.hid hO.1
  go_enter Try.func31, Try.ntmps31
  go_wp2_with fail
  go_loopw [1, 5] (fun kv i wr => ∃ k : Nat, k ≤ n ∧ i = .int .i64 k ∧ kv = .int .i64 (q + k) ∧ wr.ownsRow base 2 1 (.slice A n c) n (flat (fun i : Nat => mkicell (q + i)) ((List.range n).take k) ++ cs.drop (k * 1)) ∧ w.grownBy wr (A.map (·.block))) (fun _ i _ => n - (intOf i).toNat)
  case atStart => exact ⟨0, by omega, rfl, by simp, by simpa [flat] using hO, World.grownBy.refl _ _⟩
  case round =>
    clear hO
    obtain ⟨k, hk, rfl, rfl, hO, hg⟩ := hrel
    by_cases hlt : k < n
    · obtain ⟨g, hA⟩ := own_addr hO (by omega)
      subst hA
      have hlen := hO.1
      obtain ⟨u0', d0⟩ := own_cell hO (j := k) (by omega)
      have f0 := hO.frozenAt k
      clear hlen
      go_wp2_with fail
      refine ⟨⟨k + 1, by omega, by go_num, by go_num, ?_, ?_⟩, by simp [intOf]; omega⟩
      · have h3 := (hO.stored (k * 1) (.int .i64 (q + k))).1
        have h4 := flat_step (f := fun i : Nat => mkicell (q + i)) (s := 1) (fun i => rfl) (xs := List.range n) (k := k) (x := k) (by simp [hlt]) (by simp) cs hL.out
        rw [← h4]
        rw [Nat.mul_one] at h3 ⊢
        exact h3
      · exact grown_setCell (hg) (p := ⟨g, k, none⟩) (.inl rfl) _
    · have hkn : k = n := by omega
      go_wp2_with fail
      go_returns
      subst hkn
      rw [flat_end (by simp) cs hL.out] at hO
      exact ⟨rfl, hO, hg⟩

set_option maxRecDepth 100000 in
set_option maxHeartbeats 800000 in
theorem heldInt64S_c (A : Option Addr) (n c : Nat) (q : Int) (h0 : 0 ≤ q) (h1 : q + n ≤ 100000000) (hz : (n : Int) ≤ 10000000) (w : World) (hA : Arr w A (flat (fun i : Nat => mkicell (q + i)) (List.range n))) :
    Calls Try.prog 32 #[.slice A n c, .int .i64 q] w (Ret (.int .i64 (q + n)) w) := by
  go_enter Try.func32, Try.ntmps32
  go_wp2_with fail
  go_loopw [1, 5] (fun kv i wr => ∃ k : Nat, k ≤ n ∧ i = .int .i64 k ∧ kv = .int .i64 (q + k) ∧ Below w.heap.size w wr) (fun _ i _ => n - (intOf i).toNat)
  case atStart => exact ⟨0, by omega, rfl, by simp, Below.refl _ _⟩
  case round =>
    obtain ⟨k, hk, rfl, rfl, hbel⟩ := hrel
    by_cases hlt : k < n
    · obtain ⟨ad, rfl, hab, c0', cj'⟩ := (hA.below hbel).elem (f := fun i : Nat => mkicell (q + i)) (s := 1) (fun i => rfl) (k := k) (x := k) (by simp [hlt]) (by omega)
      have c0 : wr.cell? (ad.add k) = some (.int .i64 (q + k)) := by rw [Nat.mul_one] at c0'; exact c0'
      clear c0' cj'
      go_wp2_with fail
      exact ⟨⟨k + 1, by omega, by go_num, by go_num, hbel⟩, by simp [intOf]; omega⟩
    · have hkn : k = n := by omega
      go_wp2_with fail
      go_returns
      subst hkn
      exact Ret.mk rfl hbel

end Go.Proofs.Ythibjjcdihgfkaa
