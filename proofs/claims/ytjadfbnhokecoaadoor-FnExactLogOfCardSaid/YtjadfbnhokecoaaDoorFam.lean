/- What the laws' own helpers do to structs and slices of structs: weights, copies, equality, marks. -/
import Derived.Test.YtjadfbnhokecoaaDoorCore
namespace Go.Proofs.YtjadfbnhokecoaaDoor
open Go.RowKit

set_option maxRecDepth 100000 in
set_option maxHeartbeats 400000 in
theorem markText_n (k : Nat) (h1 : (k : Int) ≤ 1000000000) (w : World) :
    Calls Tryd.prog 43 #[.int .i64 k] w (Ret (.string (mtext k)) w) := by
  have hcv := run_byte1 (P := Tryd.prog) 79 9 5 Tryd.underlying79 Tryd.underlying5 Tryd.underlying9
  go_enter Tryd.func43, Tryd.ntmps43
  go_wp2_with fail
  · have hk0 : k = 0 := by omega
    go_returns
    refine Ret.mk (vs ?_) (by go_grown)
    rw [mtext, if_pos hk0]
  · have HT := Lib.hid (show mtGo k k [] = mtGo k k [] from rfl)
    go_loopw [0, 3] (fun kv o wr => ∃ f m : Nat, ∃ acc : List UInt8, m ≤ f ∧ (m : Int) ≤ 1000000000 ∧ kv = .int .i64 m ∧ o = .string ⟨acc.toArray⟩ ∧ acc.length + f ≤ k ∧ Hid (mtGo k k [] = mtGo f m acc) ∧ Below w.heap.size w wr) (fun kv _ _ => (intOf kv).toNat)
    case atStart => exact ⟨k, k, [], by omega, h1, rfl, rfl, by simp, HT, Below.refl _ _⟩
    case round =>
      clear HT
      obtain ⟨f, m, acc, hf, hm, rfl, rfl, hl, HT, hbel⟩ := hrel
      by_cases hm0 : 0 < m
      · go_wp2_with fail
        obtain ⟨f', rfl⟩ : ∃ f', f = f' + 1 := ⟨f - 1, by omega⟩
        refine ⟨⟨f', m / 10, (48 + UInt8.ofNat (m % 10)) :: acc, by omega, by omega, by go_num, ?_, by simp; omega, ?_, bl_alloc hbel _⟩, by simp [intOf]; omega⟩
        · rfl
        · refine Lib.hid (HT.out.trans ?_)
          rw [mtGo, if_neg (by omega)]
      · go_wp2_with fail
        go_returns
        refine Ret.mk (vs ?_) hbel
        have hm1 : m = 0 := by omega
        have h3 : mtGo f m acc = acc := by cases f <;> simp [mtGo, hm1]
        rw [mtext, if_neg (by assumption), HT.out, h3]
        rfl
theorem markText_c (q : Int) (h0 : 0 ≤ q) (h1 : q ≤ 1000000000) (w : World) : Calls Tryd.prog 43 #[.int .i64 q] w (Ret (.string (mtext q.toNat)) w) := by
  obtain ⟨k, rfl⟩ := Int.eq_ofNat_of_zero_le h0
  exact markText_n k h1 w

structure Item where
  name : ByteArray
  many : Int
  cents : Int
def Item.cells (x : Item) : List Value := [.string x.name, .int .i64 x.many, .int .i64 x.cents]
def Item.val (x : Item) : Value := .agg #[.string x.name, .int .i64 x.many, .int .i64 x.cents]
def Item.sizes (x : Item) : List Nat := [x.name.size]
theorem Item.cells_length (x : Item) : x.cells.length = 3 := rfl
theorem Item.at_ {w : World} {A : Option Addr} {xs : List Item} {k : Nat} {x : Item} (h : Arr w A (flat Item.cells xs)) (hk : xs[k]? = some x) :
    ∃ ad, A = some ad ∧ ad.block < w.heap.size ∧ w.cell? (ad.add (k * 3)) = some (.string x.name) ∧
      w.cell? ⟨(ad.add (k * 3)).block, (ad.add (k * 3)).off + 1, none⟩ = some (.int .i64 x.many) ∧
      w.cell? ⟨(ad.add (k * 3)).block, (ad.add (k * 3)).off + 2, none⟩ = some (.int .i64 x.cents) := by
  obtain ⟨ad, e, hb, h0, hj⟩ := h.elem Item.cells_length hk (by omega)
  exact ⟨ad, e, hb, h0, hj 1 (by omega) (by omega), hj 2 (by omega) (by omega)⟩
def Item.beq (x y : Item) : Bool := decide (x.name = y.name) && decide (x.many = y.many) && decide (x.cents = y.cents)
theorem Item.beq_iff (x y : Item) : x.beq y = true ↔ x = y := by
  cases x; cases y; simp [Item.beq, and_assoc]
theorem Item.beq_self (x : Item) : x.beq x = true := (Item.beq_iff x x).2 rfl

set_option maxHeartbeats 400000 in
theorem szItem_c (x : Item) (left : Int) (hs0 : x.name.size ≤ 9223372036854775807) (h0 : 0 ≤ left) (h1 : left ≤ 1048576) (w : World) :
    Calls Tryd.prog 54 #[.agg #[.string x.name, .int .i64 x.many, .int .i64 x.cents], .int .i64 left] w (Ret (.int .i64 (szGo x.sizes left)) w) := by
  go_enter Tryd.func54, Tryd.ntmps54
  go_wp2
  · go_returns
    refine Ret.mk (vi ?_) (by go_grown)
    simp only [Item.sizes, szGo]
    rw [if_pos (by omega)]
  · go_returns
    refine Ret.mk (vi ?_) (by go_grown)
    simp only [Item.sizes, szGo]
    rw [if_neg (by omega)]

set_option maxHeartbeats 400000 in
theorem szItemS_c (A : Option Addr) (xs : List Item) (n c : Nat) (left : Int) (hn : Hid (xs.length = n)) (hm : n ≤ 9223372036854775807) (hs : Hid (∀ x ∈ xs, x.name.size ≤ 9223372036854775807))
    (h0 : 0 ≤ left) (h1 : left ≤ 1048576) (w : World) (hA : Arr w A (flat Item.cells xs)) :
    Calls Tryd.prog 30 #[.slice A n c, .int .i64 left] w (Ret (.int .i64 (szS Item.sizes xs left)) w) := by
  go_enter Tryd.func30, Tryd.ntmps30
  go_wp2_with fail
  · go_returns
    refine Ret.mk (vi ?_) (by go_grown)
    rw [szS, hn.out]
    exact (szGo_cons_lo (by assumption)).symm
  have hR := Lib.hid (show szS Item.sizes xs left = szGo ((xs.drop 0).flatMap Item.sizes) (left - n) by rw [szS, hn.out, szGo_cons_hi (by assumption)]; rfl)
  go_loopw [1, 5] (fun l i wr => ∃ k : Nat, ∃ lf : Int, k ≤ n ∧ i = .int .i64 k ∧ l = .int .i64 lf ∧ 0 ≤ lf ∧ lf ≤ 1048576 ∧ Hid (szS Item.sizes xs left = szGo ((xs.drop k).flatMap Item.sizes) lf) ∧ Below w.heap.size w wr) (fun _ i _ => n - (intOf i).toNat)
  case atStart => exact ⟨0, _, by omega, rfl, rfl, by omega, by omega, hR, Below.refl _ _⟩
  case round =>
    clear hR
    obtain ⟨k, lf, hk, rfl, rfl, hl0, hl1, hR, hbel⟩ := hrel
    by_cases hlt : k < n
    · obtain ⟨x, hx⟩ := get_of_lt (xs := xs) (k := k) (by rw [hn.out]; exact hlt)
      obtain ⟨ad, rfl, hab, c0, c1, c2⟩ := Item.at_ (hA.below hbel) hx
      have hR2 := Lib.hid (hR.out.trans (by rw [drop_at hx, List.flatMap_cons] : _ = szGo (x.sizes ++ (xs.drop (k + 1)).flatMap Item.sizes) lf))
      have hx0 := hs.out x (List.mem_of_getElem? hx)
      clear hR hx
      go_wp2_with fail
      refine (szItem_c x lf hx0 hl0 hl1 _).mono ?_
      rintro e w1 ⟨rfl, hb1⟩
      have hle := szGo_le x.sizes lf hl0
      by_cases hneg : szGo x.sizes lf < 0
      · go_wp2_with fail
        go_returns
        refine Ret.mk (vi ?_) (bl_trans hbel hb1)
        rw [hR2.out, szGo_append_lo _ _ _ hl0 hneg]
      · go_wp2_with fail
        go_roundw
        case rel =>
          refine ⟨k + 1, szGo x.sizes lf, by omega, by go_num, rfl, by omega, by omega, ?_, bl_trans hbel hb1⟩
          exact Lib.hid (hR2.out.trans (szGo_append _ _ _ (by omega)))
        case measure => simp [intOf]; omega
    · have hR2 := Lib.hid (hR.out.trans (by rw [List.drop_eq_nil_of_le (by rw [hn.out]; omega)]; rfl : _ = lf))
      clear hR
      go_wp2_with fail
      go_returns
      refine Ret.mk (vi ?_) hbel
      rw [hR2.out]

set_option maxHeartbeats 400000 in
theorem toItem_c (x : Item) (w : World) :
    Calls Tryd.prog 58 #[.agg #[.string x.name, .int .i64 x.many, .int .i64 x.cents]] w (Ret (.agg #[.string x.name, .int .i64 x.many, .int .i64 x.cents]) w) := by
  go_enter Tryd.func58, Tryd.ntmps58
  go_wp2
  go_returns
  exact Ret.mk rfl (by go_grown)

theorem info_Item : (Tryd.prog.info? 65).map (fun i => (i.zero, i.size, i.bytes)) = some (some (.agg #[.string ByteArray.empty, .int .i64 0, .int .i64 0]), 3, 32) := by kernel_rfl

set_option maxHeartbeats 800000 in
theorem toItemS_c (A : Option Addr) (xs : List Item) (n c : Nat) (hn : Hid (xs.length = n)) (hm : (n : Int) ≤ 1048576) (w : World) (hA : Arr w A (flat Item.cells xs)) :
    Calls Tryd.prog 36 #[.slice A n c] w (OutS 65 3 n (flat Item.cells xs) w) := by
  obtain ⟨i0, hi0, hz0, hz1, hz2⟩ := info_parts (P := Tryd.prog) (e := 65) (z := .agg #[.string ByteArray.empty, .int .i64 0, .int .i64 0]) (size := 3) (bytes := 32) info_Item
  go_enter Tryd.func36, Tryd.ntmps36
  go_wp2_with (at_make; refine wpList_make_full _ rfl _ _ 37 rfl w.heap.size 65 i0 _ 3 Tryd.underlying37 hi0 hz0 hz1 _ _ _ _ n rfl rfl rfl rfl (by rw [hz2]; omega) (by unfold maxLen; omega) (Nat.le_refl _) ?_; intro w1 hown hg1)
  have hL := hown.1
  generalize (madeCells (Value.agg #[Value.string ByteArray.empty, Value.int IntKind.i64 0, Value.int IntKind.i64 0]).cells (n * 3)).toList = L at hown hL
  obtain ⟨g, hg⟩ : ∃ g, g = w.heap.size := ⟨_, rfl⟩
  have hbel0 : Below w.heap.size w w1 := bl_grown (Below.refl _ _) hg1 (by simp)
  rw [← hg] at hown ⊢
  have hgB : w.heap.size ≤ g := by omega
  have HG := Lib.hid hg
  clear hg
  have HL := Lib.hid hL
  clear hL
  go_loopw [4] (fun i wr => ∃ k : Nat, k ≤ n ∧ i = .int .i64 k ∧ wr.ownsRow g 65 3 (.slice (some ⟨g, 0, none⟩) n n) n (flat Item.cells (xs.take k) ++ L.drop (k * 3)) ∧ Below w.heap.size w wr) (fun i _ => n - (intOf i).toNat)
  case atStart => exact ⟨0, by omega, rfl, by simpa [flat] using hown, hbel0⟩
  case round =>
    clear hown hg1 hbel0
    obtain ⟨k, hk, rfl, hown, hbel⟩ := hrel
    by_cases hlt : k < n
    · obtain ⟨x, hx⟩ := get_of_lt (xs := xs) (k := k) (by rw [hn.out]; exact hlt)
      obtain ⟨ad, rfl, hab, c0, c1, c2⟩ := Item.at_ (hA.below hbel) hx
      have HX := Lib.hid hx
      clear hx
      go_wp2_with fail
      refine (toItem_c x _).mono ?_
      rintro e w2 ⟨rfl, hb1⟩
      have hown2 := own_below hown hb1
      have hlen := hown2.1
      obtain ⟨u0', d0⟩ := own_cell hown2 (j := k * 3) (by omega)
      obtain ⟨u1', d1⟩ := own_cell hown2 (j := k * 3 + 1) (by omega)
      obtain ⟨u2', d2⟩ := own_cell hown2 (j := k * 3 + 2) (by omega)
      have f0 := hown2.frozenAt (k * 3)
      have f1 := hown2.frozenAt (k * 3 + 1)
      have f2 := hown2.frozenAt (k * 3 + 2)
      clear hlen
      go_wp2_with fail
      refine ⟨⟨k + 1, by omega, by go_num, ?_, ?_⟩, by simp [intOf]; omega⟩
      · have h3 := (((hown2.stored (k * 3) (.string x.name)).1.stored (k * 3 + 1) (.int .i64 x.many)).1.stored (k * 3 + 2) (.int .i64 x.cents)).1
        rw [← flat_step Item.cells_length HX.out hn.out L HL.out]
        exact h3
      · refine bl_set (bl_set (bl_set (bl_trans hbel hb1) ?_ _) ?_ _) ?_ _ <;> exact hgB
    · have hkn : k = n := by omega
      go_wp2_with fail
      go_returns
      subst hkn
      rw [flat_end hn.out L HL.out] at hown
      exact ⟨g, rfl, by rw [← HG.out]; exact hown, hbel⟩

set_option maxHeartbeats 400000 in
theorem eqItem_c (x y : Item) (w : World) :
    Calls Tryd.prog 63 #[.agg #[.string x.name, .int .i64 x.many, .int .i64 x.cents], .agg #[.string y.name, .int .i64 y.many, .int .i64 y.cents]] w (Ret (.bool (x.beq y)) w) := by
  go_enter Tryd.func63, Tryd.ntmps63
  go_wp2
  all_goals
    go_returns
    refine Ret.mk (vb ?_) (by go_grown)
    simp_all [Item.beq, bytes_eq_iff]

set_option maxRecDepth 100000 in
set_option maxHeartbeats 800000 in
theorem eqItemS_c (A B : Option Addr) (xs ys : List Item) (n m c d : Nat) (hn : Hid (xs.length = n)) (hm : Hid (ys.length = m)) (hz : (n : Int) ≤ 1048576) (w : World) (hA : Arr w A (flat Item.cells xs)) (hB : Arr w B (flat Item.cells ys)) :
    Calls Tryd.prog 41 #[.slice A n c, .slice B m d] w (Ret (.bool (listBeq Item.beq xs ys)) w) := by
  by_cases hnm : n = m
  case neg =>
    have hne : ((n : Int) != (m : Int)) = true := by rw [bne_iff_ne]; omega
    go_enter Tryd.func41, Tryd.ntmps41
    go_wp2
    go_returns
    refine Ret.mk (vb ?_) (by go_grown)
    rw [listBeq_len _ _ _ (by rw [hn.out, hm.out]; exact hnm)]
  subst hnm
  have hne : ((n : Int) != (n : Int)) = false := by simp
  go_enter Tryd.func41, Tryd.ntmps41
  go_wp2_with fail
  have hR := Lib.hid (show listBeq Item.beq xs ys = listBeq Item.beq (xs.drop 0) (ys.drop 0) from rfl)
  go_loopw [5] (fun i wr => ∃ k : Nat, k ≤ n ∧ i = .int .i64 k ∧ Hid (listBeq Item.beq xs ys = listBeq Item.beq (xs.drop k) (ys.drop k)) ∧ Below w.heap.size w wr) (fun i _ => n - (intOf i).toNat)
  case atStart => exact ⟨0, by omega, rfl, hR, Below.refl _ _⟩
  case round =>
    clear hR
    obtain ⟨k, hk, rfl, hR, hbel⟩ := hrel
    by_cases hlt : k < n
    · obtain ⟨x, hx⟩ := get_of_lt (xs := xs) (k := k) (by rw [hn.out]; exact hlt)
      obtain ⟨y, hy⟩ := get_of_lt (xs := ys) (k := k) (by rw [hm.out]; exact hlt)
      obtain ⟨ad, rfl, hab, c0, c1, c2⟩ := Item.at_ (hA.below hbel) hx
      obtain ⟨bd, rfl, hbb, d0, d1, d2⟩ := Item.at_ (hB.below hbel) hy
      have hR2 := Lib.hid (hR.out.trans (by rw [drop_at hx, drop_at hy]; rfl : _ = (x.beq y && listBeq Item.beq (xs.drop (k + 1)) (ys.drop (k + 1)))))
      clear hR hx hy
      go_wp2_with fail
      go_still_tail 8, (by kernel_rfl)
      go_wp2_with fail
      refine (eqItem_c x y _).mono ?_
      rintro e w1 ⟨rfl, hb1'⟩
      have hb1 : Below wr.heap.size wr w1 := bl_transd (Below.refl _ _) hb1'
      cases hq : x.beq y
      · have HQ := Lib.hid hq
        clear hq
        go_wp2_with fail
        go_returns
        refine Ret.mk (vb ?_) (bl_trans hbel hb1)
        rw [hR2.out, HQ.out]; rfl
      · have HQ := Lib.hid hq
        clear hq
        go_wp2_with fail
        go_roundw
        case rel => exact ⟨k + 1, by omega, by go_num, Lib.hid (hR2.out.trans (by rw [HQ.out]; rfl)), bl_trans hbel hb1⟩
        case measure => simp [intOf]; omega
    · have hR2 := Lib.hid (hR.out.trans (by rw [List.drop_eq_nil_of_le (by rw [hn.out]; omega), List.drop_eq_nil_of_le (by rw [hm.out]; omega)]; rfl : _ = true))
      clear hR
      go_wp2_with fail
      go_returns
      refine Ret.mk (vb ?_) hbel
      rw [hR2.out]

def Item.mkc (q : Int) : List Value := [.string (mtext (q).toNat), .int .i64 (q + 1), .int .i64 (q + 1 + 1)]
theorem Item.mkc_length (q : Int) : (Item.mkc q).length = 3 := rfl

set_option maxRecDepth 100000 in
set_option maxHeartbeats 1000000 in
theorem markItemS_c (A : Option Addr) (n c base : Nat) (cs : List Value) (q : Int) (h0 : 0 ≤ q) (h1 : q + n * 3 ≤ 100000000) (hz : (n : Int) ≤ 10000000) (w : World) (hO : w.ownsRow base 65 3 (.slice A n c) n cs) :
    Calls Tryd.prog 42 #[.slice A n c, .int .i64 q] w (MarkS base 65 3 A n c (flat (fun i : Nat => Item.mkc (q + i * 3)) (List.range n)) (q + n * 3) w) := by
  have hL := Lib.hid hO.1
  go_enter Tryd.func42, Tryd.ntmps42
  go_wp2_with fail
  go_loopw [1, 5] (fun kv i wr => ∃ k : Nat, k ≤ n ∧ i = .int .i64 k ∧ kv = .int .i64 (q + k * 3) ∧ wr.ownsRow base 65 3 (.slice A n c) n (flat (fun i : Nat => Item.mkc (q + i * 3)) ((List.range n).take k) ++ cs.drop (k * 3)) ∧ w.grownBy wr (A.map (·.block))) (fun _ i _ => n - (intOf i).toNat)
  case atStart => exact ⟨0, by omega, rfl, by simp, by simpa [flat] using hO, World.grownBy.refl _ _⟩
  case round =>
    clear hO
    obtain ⟨k, hk, rfl, rfl, hO, hg⟩ := hrel
    by_cases hlt : k < n
    · obtain ⟨g, hA⟩ := own_addr hO (by omega)
      subst hA
      have hlen := hO.1
      obtain ⟨qq, hqq⟩ : ∃ qq : Int, qq = q + (k : Int) * 3 := ⟨_, rfl⟩
      have hq0 : 0 ≤ qq := by omega
      have hq1 : qq + 3 ≤ 100000000 := by omega
      rw [← hqq]
      have HQ := Lib.hid hqq
      clear hqq
      go_wp2_with fail
      refine (markText_c (qq) (by omega) (by omega) _).mono ?_
      rintro e w2 ⟨rfl, hb2⟩
      have hO2 := own_below hO hb2
      have hlen1 := hO2.1
      obtain ⟨u0', d0⟩ := own_cell hO2 (j := k * 3) (by omega)
      obtain ⟨u1', d1⟩ := own_cell hO2 (j := k * 3 + 1) (by omega)
      obtain ⟨u2', d2⟩ := own_cell hO2 (j := k * 3 + 2) (by omega)
      have f0 := hO2.frozenAt (k * 3)
      have f1 := hO2.frozenAt (k * 3 + 1)
      have f2 := hO2.frozenAt (k * 3 + 2)
      clear hlen1
      clear hlen
      go_wp2_with fail
      refine ⟨⟨k + 1, by omega, by go_num, ?_, ?_, ?_⟩, by simp [intOf]; omega⟩
      · have hq := HQ.out
        congr 1; simp only [Int.natCast_add]; omega
      · have h3 := (((hO2.stored (k * 3) (.string (mtext (qq).toNat))).1.stored (k * 3 + 1) (.int .i64 (qq + 1))).1.stored (k * 3 + 2) (.int .i64 (qq + 1 + 1))).1
        have h4 := flat_step (f := fun i : Nat => Item.mkc (q + i * 3)) (fun i => Item.mkc_length _) (xs := List.range n) (k := k) (x := k) (by simp [hlt]) (by simp) cs hL.out
        rw [← h4, ← HQ.out]
        exact h3
      · exact grown_setCell (grown_setCell (grown_setCell (grown_below (hg) hb2) (p := ⟨g, k * 3, none⟩) (.inl rfl) _) (p := ⟨g, k * 3 + 1, none⟩) (.inl rfl) _) (p := ⟨g, k * 3 + 2, none⟩) (.inl rfl) _
    · have hkn : k = n := by omega
      go_wp2_with fail
      go_returns
      subst hkn
      rw [flat_end (by simp) cs hL.out] at hO
      exact ⟨rfl, hO, hg⟩

structure Entry where
  day : Int
  what : ByteArray
  value : Int
def Entry.cells (x : Entry) : List Value := [.int .i64 x.day, .string x.what, .int .i64 x.value]
def Entry.val (x : Entry) : Value := .agg #[.int .i64 x.day, .string x.what, .int .i64 x.value]
def Entry.sizes (x : Entry) : List Nat := [x.what.size]
theorem Entry.cells_length (x : Entry) : x.cells.length = 3 := rfl
theorem Entry.at_ {w : World} {A : Option Addr} {xs : List Entry} {k : Nat} {x : Entry} (h : Arr w A (flat Entry.cells xs)) (hk : xs[k]? = some x) :
    ∃ ad, A = some ad ∧ ad.block < w.heap.size ∧ w.cell? (ad.add (k * 3)) = some (.int .i64 x.day) ∧
      w.cell? ⟨(ad.add (k * 3)).block, (ad.add (k * 3)).off + 1, none⟩ = some (.string x.what) ∧
      w.cell? ⟨(ad.add (k * 3)).block, (ad.add (k * 3)).off + 2, none⟩ = some (.int .i64 x.value) := by
  obtain ⟨ad, e, hb, h0, hj⟩ := h.elem Entry.cells_length hk (by omega)
  exact ⟨ad, e, hb, h0, hj 1 (by omega) (by omega), hj 2 (by omega) (by omega)⟩
def Entry.beq (x y : Entry) : Bool := decide (x.day = y.day) && decide (x.what = y.what) && decide (x.value = y.value)
theorem Entry.beq_iff (x y : Entry) : x.beq y = true ↔ x = y := by
  cases x; cases y; simp [Entry.beq, and_assoc]
theorem Entry.beq_self (x : Entry) : x.beq x = true := (Entry.beq_iff x x).2 rfl

set_option maxHeartbeats 400000 in
theorem szEntry_c (x : Entry) (left : Int) (hs0 : x.what.size ≤ 9223372036854775807) (h0 : 0 ≤ left) (h1 : left ≤ 1048576) (w : World) :
    Calls Tryd.prog 19 #[.agg #[.int .i64 x.day, .string x.what, .int .i64 x.value], .int .i64 left] w (Ret (.int .i64 (szGo x.sizes left)) w) := by
  go_enter Tryd.func19, Tryd.ntmps19
  go_wp2
  · go_returns
    refine Ret.mk (vi ?_) (by go_grown)
    simp only [Entry.sizes, szGo]
    rw [if_pos (by omega)]
  · go_returns
    refine Ret.mk (vi ?_) (by go_grown)
    simp only [Entry.sizes, szGo]
    rw [if_neg (by omega)]

set_option maxHeartbeats 400000 in
theorem szEntryS_c (A : Option Addr) (xs : List Entry) (n c : Nat) (left : Int) (hn : Hid (xs.length = n)) (hm : n ≤ 9223372036854775807) (hs : Hid (∀ x ∈ xs, x.what.size ≤ 9223372036854775807))
    (h0 : 0 ≤ left) (h1 : left ≤ 1048576) (w : World) (hA : Arr w A (flat Entry.cells xs)) :
    Calls Tryd.prog 5 #[.slice A n c, .int .i64 left] w (Ret (.int .i64 (szS Entry.sizes xs left)) w) := by
  go_enter Tryd.func5, Tryd.ntmps5
  go_wp2_with fail
  · go_returns
    refine Ret.mk (vi ?_) (by go_grown)
    rw [szS, hn.out]
    exact (szGo_cons_lo (by assumption)).symm
  have hR := Lib.hid (show szS Entry.sizes xs left = szGo ((xs.drop 0).flatMap Entry.sizes) (left - n) by rw [szS, hn.out, szGo_cons_hi (by assumption)]; rfl)
  go_loopw [1, 5] (fun l i wr => ∃ k : Nat, ∃ lf : Int, k ≤ n ∧ i = .int .i64 k ∧ l = .int .i64 lf ∧ 0 ≤ lf ∧ lf ≤ 1048576 ∧ Hid (szS Entry.sizes xs left = szGo ((xs.drop k).flatMap Entry.sizes) lf) ∧ Below w.heap.size w wr) (fun _ i _ => n - (intOf i).toNat)
  case atStart => exact ⟨0, _, by omega, rfl, rfl, by omega, by omega, hR, Below.refl _ _⟩
  case round =>
    clear hR
    obtain ⟨k, lf, hk, rfl, rfl, hl0, hl1, hR, hbel⟩ := hrel
    by_cases hlt : k < n
    · obtain ⟨x, hx⟩ := get_of_lt (xs := xs) (k := k) (by rw [hn.out]; exact hlt)
      obtain ⟨ad, rfl, hab, c0, c1, c2⟩ := Entry.at_ (hA.below hbel) hx
      have hR2 := Lib.hid (hR.out.trans (by rw [drop_at hx, List.flatMap_cons] : _ = szGo (x.sizes ++ (xs.drop (k + 1)).flatMap Entry.sizes) lf))
      have hx0 := hs.out x (List.mem_of_getElem? hx)
      clear hR hx
      go_wp2_with fail
      refine (szEntry_c x lf hx0 hl0 hl1 _).mono ?_
      rintro e w1 ⟨rfl, hb1⟩
      have hle := szGo_le x.sizes lf hl0
      by_cases hneg : szGo x.sizes lf < 0
      · go_wp2_with fail
        go_returns
        refine Ret.mk (vi ?_) (bl_trans hbel hb1)
        rw [hR2.out, szGo_append_lo _ _ _ hl0 hneg]
      · go_wp2_with fail
        go_roundw
        case rel =>
          refine ⟨k + 1, szGo x.sizes lf, by omega, by go_num, rfl, by omega, by omega, ?_, bl_trans hbel hb1⟩
          exact Lib.hid (hR2.out.trans (szGo_append _ _ _ (by omega)))
        case measure => simp [intOf]; omega
    · have hR2 := Lib.hid (hR.out.trans (by rw [List.drop_eq_nil_of_le (by rw [hn.out]; omega)]; rfl : _ = lf))
      clear hR
      go_wp2_with fail
      go_returns
      refine Ret.mk (vi ?_) hbel
      rw [hR2.out]

set_option maxHeartbeats 400000 in
theorem toEntry_c (x : Entry) (w : World) :
    Calls Tryd.prog 22 #[.agg #[.int .i64 x.day, .string x.what, .int .i64 x.value]] w (Ret (.agg #[.int .i64 x.day, .string x.what, .int .i64 x.value]) w) := by
  go_enter Tryd.func22, Tryd.ntmps22
  go_wp2
  go_returns
  exact Ret.mk rfl (by go_grown)

theorem info_Entry : (Tryd.prog.info? 51).map (fun i => (i.zero, i.size, i.bytes)) = some (some (.agg #[.int .i64 0, .string ByteArray.empty, .int .i64 0]), 3, 32) := by kernel_rfl

set_option maxHeartbeats 800000 in
theorem toEntryS_c (A : Option Addr) (xs : List Entry) (n c : Nat) (hn : Hid (xs.length = n)) (hm : (n : Int) ≤ 1048576) (w : World) (hA : Arr w A (flat Entry.cells xs)) :
    Calls Tryd.prog 7 #[.slice A n c] w (OutS 51 3 n (flat Entry.cells xs) w) := by
  obtain ⟨i0, hi0, hz0, hz1, hz2⟩ := info_parts (P := Tryd.prog) (e := 51) (z := .agg #[.int .i64 0, .string ByteArray.empty, .int .i64 0]) (size := 3) (bytes := 32) info_Entry
  go_enter Tryd.func7, Tryd.ntmps7
  go_wp2_with (at_make; refine wpList_make_full _ rfl _ _ 26 rfl w.heap.size 51 i0 _ 3 Tryd.underlying26 hi0 hz0 hz1 _ _ _ _ n rfl rfl rfl rfl (by rw [hz2]; omega) (by unfold maxLen; omega) (Nat.le_refl _) ?_; intro w1 hown hg1)
  have hL := hown.1
  generalize (madeCells (Value.agg #[Value.int IntKind.i64 0, Value.string ByteArray.empty, Value.int IntKind.i64 0]).cells (n * 3)).toList = L at hown hL
  obtain ⟨g, hg⟩ : ∃ g, g = w.heap.size := ⟨_, rfl⟩
  have hbel0 : Below w.heap.size w w1 := bl_grown (Below.refl _ _) hg1 (by simp)
  rw [← hg] at hown ⊢
  have hgB : w.heap.size ≤ g := by omega
  have HG := Lib.hid hg
  clear hg
  have HL := Lib.hid hL
  clear hL
  go_loopw [4] (fun i wr => ∃ k : Nat, k ≤ n ∧ i = .int .i64 k ∧ wr.ownsRow g 51 3 (.slice (some ⟨g, 0, none⟩) n n) n (flat Entry.cells (xs.take k) ++ L.drop (k * 3)) ∧ Below w.heap.size w wr) (fun i _ => n - (intOf i).toNat)
  case atStart => exact ⟨0, by omega, rfl, by simpa [flat] using hown, hbel0⟩
  case round =>
    clear hown hg1 hbel0
    obtain ⟨k, hk, rfl, hown, hbel⟩ := hrel
    by_cases hlt : k < n
    · obtain ⟨x, hx⟩ := get_of_lt (xs := xs) (k := k) (by rw [hn.out]; exact hlt)
      obtain ⟨ad, rfl, hab, c0, c1, c2⟩ := Entry.at_ (hA.below hbel) hx
      have HX := Lib.hid hx
      clear hx
      go_wp2_with fail
      refine (toEntry_c x _).mono ?_
      rintro e w2 ⟨rfl, hb1⟩
      have hown2 := own_below hown hb1
      have hlen := hown2.1
      obtain ⟨u0', d0⟩ := own_cell hown2 (j := k * 3) (by omega)
      obtain ⟨u1', d1⟩ := own_cell hown2 (j := k * 3 + 1) (by omega)
      obtain ⟨u2', d2⟩ := own_cell hown2 (j := k * 3 + 2) (by omega)
      have f0 := hown2.frozenAt (k * 3)
      have f1 := hown2.frozenAt (k * 3 + 1)
      have f2 := hown2.frozenAt (k * 3 + 2)
      clear hlen
      go_wp2_with fail
      refine ⟨⟨k + 1, by omega, by go_num, ?_, ?_⟩, by simp [intOf]; omega⟩
      · have h3 := (((hown2.stored (k * 3) (.int .i64 x.day)).1.stored (k * 3 + 1) (.string x.what)).1.stored (k * 3 + 2) (.int .i64 x.value)).1
        rw [← flat_step Entry.cells_length HX.out hn.out L HL.out]
        exact h3
      · refine bl_set (bl_set (bl_set (bl_trans hbel hb1) ?_ _) ?_ _) ?_ _ <;> exact hgB
    · have hkn : k = n := by omega
      go_wp2_with fail
      go_returns
      subst hkn
      rw [flat_end hn.out L HL.out] at hown
      exact ⟨g, rfl, by rw [← HG.out]; exact hown, hbel⟩

set_option maxHeartbeats 400000 in
theorem eqEntry_c (x y : Entry) (w : World) :
    Calls Tryd.prog 29 #[.agg #[.int .i64 x.day, .string x.what, .int .i64 x.value], .agg #[.int .i64 y.day, .string y.what, .int .i64 y.value]] w (Ret (.bool (x.beq y)) w) := by
  go_enter Tryd.func29, Tryd.ntmps29
  go_wp2
  all_goals
    go_returns
    refine Ret.mk (vb ?_) (by go_grown)
    simp_all [Entry.beq, bytes_eq_iff]

set_option maxRecDepth 100000 in
set_option maxHeartbeats 800000 in
theorem eqEntryS_c (A B : Option Addr) (xs ys : List Entry) (n m c d : Nat) (hn : Hid (xs.length = n)) (hm : Hid (ys.length = m)) (hz : (n : Int) ≤ 1048576) (w : World) (hA : Arr w A (flat Entry.cells xs)) (hB : Arr w B (flat Entry.cells ys)) :
    Calls Tryd.prog 9 #[.slice A n c, .slice B m d] w (Ret (.bool (listBeq Entry.beq xs ys)) w) := by
  by_cases hnm : n = m
  case neg =>
    have hne : ((n : Int) != (m : Int)) = true := by rw [bne_iff_ne]; omega
    go_enter Tryd.func9, Tryd.ntmps9
    go_wp2
    go_returns
    refine Ret.mk (vb ?_) (by go_grown)
    rw [listBeq_len _ _ _ (by rw [hn.out, hm.out]; exact hnm)]
  subst hnm
  have hne : ((n : Int) != (n : Int)) = false := by simp
  go_enter Tryd.func9, Tryd.ntmps9
  go_wp2_with fail
  have hR := Lib.hid (show listBeq Entry.beq xs ys = listBeq Entry.beq (xs.drop 0) (ys.drop 0) from rfl)
  go_loopw [5] (fun i wr => ∃ k : Nat, k ≤ n ∧ i = .int .i64 k ∧ Hid (listBeq Entry.beq xs ys = listBeq Entry.beq (xs.drop k) (ys.drop k)) ∧ Below w.heap.size w wr) (fun i _ => n - (intOf i).toNat)
  case atStart => exact ⟨0, by omega, rfl, hR, Below.refl _ _⟩
  case round =>
    clear hR
    obtain ⟨k, hk, rfl, hR, hbel⟩ := hrel
    by_cases hlt : k < n
    · obtain ⟨x, hx⟩ := get_of_lt (xs := xs) (k := k) (by rw [hn.out]; exact hlt)
      obtain ⟨y, hy⟩ := get_of_lt (xs := ys) (k := k) (by rw [hm.out]; exact hlt)
      obtain ⟨ad, rfl, hab, c0, c1, c2⟩ := Entry.at_ (hA.below hbel) hx
      obtain ⟨bd, rfl, hbb, d0, d1, d2⟩ := Entry.at_ (hB.below hbel) hy
      have hR2 := Lib.hid (hR.out.trans (by rw [drop_at hx, drop_at hy]; rfl : _ = (x.beq y && listBeq Entry.beq (xs.drop (k + 1)) (ys.drop (k + 1)))))
      clear hR hx hy
      go_wp2_with fail
      go_still_tail 8, (by kernel_rfl)
      go_wp2_with fail
      refine (eqEntry_c x y _).mono ?_
      rintro e w1 ⟨rfl, hb1'⟩
      have hb1 : Below wr.heap.size wr w1 := bl_transd (Below.refl _ _) hb1'
      cases hq : x.beq y
      · have HQ := Lib.hid hq
        clear hq
        go_wp2_with fail
        go_returns
        refine Ret.mk (vb ?_) (bl_trans hbel hb1)
        rw [hR2.out, HQ.out]; rfl
      · have HQ := Lib.hid hq
        clear hq
        go_wp2_with fail
        go_roundw
        case rel => exact ⟨k + 1, by omega, by go_num, Lib.hid (hR2.out.trans (by rw [HQ.out]; rfl)), bl_trans hbel hb1⟩
        case measure => simp [intOf]; omega
    · have hR2 := Lib.hid (hR.out.trans (by rw [List.drop_eq_nil_of_le (by rw [hn.out]; omega), List.drop_eq_nil_of_le (by rw [hm.out]; omega)]; rfl : _ = true))
      clear hR
      go_wp2_with fail
      go_returns
      refine Ret.mk (vb ?_) hbel
      rw [hR2.out]

set_option maxRecDepth 100000 in
set_option maxHeartbeats 800000 in
theorem eqStringS_c (A B : Option Addr) (xs ys : List ByteArray) (n m c d : Nat) (hn : Hid (xs.length = n)) (hm : Hid (ys.length = m)) (hz : (n : Int) ≤ 9223372036854775807) (w : World) (hA : Arr w A (flat scell xs)) (hB : Arr w B (flat scell ys)) :
    Calls Tryd.prog 14 #[.slice A n c, .slice B m d] w (Ret (.bool (decide (xs = ys))) w) := by
  by_cases hnm : n = m
  case neg =>
    have hne : ((n : Int) != (m : Int)) = true := by rw [bne_iff_ne]; omega
    go_enter Tryd.func14, Tryd.ntmps14
    go_wp2
    go_returns
    refine Ret.mk (vb ?_) (by go_grown)
    symm
    rw [decide_eq_false_iff_not]
    intro e
    subst e
    have h1 := hn.out
    have h2 := hm.out
    omega
  subst hnm
  have hne : ((n : Int) != (n : Int)) = false := by simp
  go_enter Tryd.func14, Tryd.ntmps14
  go_wp2_with fail
  have hR := Lib.hid (show decide (xs = ys) = decide (xs.drop 0 = ys.drop 0) from rfl)
  go_loopw [5] (fun i wr => ∃ k : Nat, k ≤ n ∧ i = .int .i64 k ∧ Hid (decide (xs = ys) = decide (xs.drop k = ys.drop k)) ∧ Below w.heap.size w wr) (fun i _ => n - (intOf i).toNat)
  case atStart => exact ⟨0, by omega, rfl, hR, Below.refl _ _⟩
  case round =>
    clear hR
    obtain ⟨k, hk, rfl, hR, hbel⟩ := hrel
    by_cases hlt : k < n
    · obtain ⟨x, hx⟩ := get_of_lt (xs := xs) (k := k) (by rw [hn.out]; exact hlt)
      obtain ⟨y, hy⟩ := get_of_lt (xs := ys) (k := k) (by rw [hm.out]; exact hlt)
      obtain ⟨ad, rfl, hab, c0⟩ := scell_at (hA.below hbel) hx
      obtain ⟨bd, rfl, hbb, d0⟩ := scell_at (hB.below hbel) hy
      have hR2 := Lib.hid (hR.out.trans (by rw [drop_at hx, drop_at hy] : _ = decide (x :: xs.drop (k + 1) = y :: ys.drop (k + 1))))
      clear hR hx hy
      by_cases hq : x = y
      · subst hq
        have hne2 : (!x.toList == x.toList) = false := by simp
        go_wp2_with fail
        go_quiet (fail)
        go_wp2_with fail
        go_roundw
        case rel => exact ⟨k + 1, by omega, by go_num, Lib.hid (hR2.out.trans (by simp)), below_drewN hbel _⟩
        case measure => simp [intOf]; omega
      · have hne2 : (!x.toList == y.toList) = true := by rw [bytes_beq]; simp [hq]
        go_wp2_with fail
        go_quiet (fail)
        go_wp2_with fail
        go_returns
        refine Ret.mk (vb ?_) (below_drewN hbel _)
        rw [hR2.out]
        simp [hq]
    · have hR2 := Lib.hid (hR.out.trans (by rw [List.drop_eq_nil_of_le (by rw [hn.out]; omega), List.drop_eq_nil_of_le (by rw [hm.out]; omega)]; simp : _ = true))
      clear hR
      go_wp2_with fail
      go_returns
      refine Ret.mk (vb ?_) hbel
      rw [hR2.out]

def mkscell (q : Int) : List Value := [.string (mtext (q).toNat)]
set_option maxRecDepth 100000 in
set_option maxHeartbeats 800000 in
theorem markStringS_c (A : Option Addr) (n c base : Nat) (cs : List Value) (q : Int) (h0 : 0 ≤ q) (h1 : q + n ≤ 100000000) (hz : (n : Int) ≤ 10000000) (w : World) (hO : w.ownsRow base 9 1 (.slice A n c) n cs) :
    Calls Tryd.prog 17 #[.slice A n c, .int .i64 q] w (MarkS base 9 1 A n c (flat (fun i : Nat => mkscell (q + i)) (List.range n)) (q + n) w) := by
  have hL := Lib.hid hO.1
  go_enter Tryd.func17, Tryd.ntmps17
  go_wp2_with fail
  go_loopw [1, 5] (fun kv i wr => ∃ k : Nat, k ≤ n ∧ i = .int .i64 k ∧ kv = .int .i64 (q + k) ∧ wr.ownsRow base 9 1 (.slice A n c) n (flat (fun i : Nat => mkscell (q + i)) ((List.range n).take k) ++ cs.drop (k * 1)) ∧ w.grownBy wr (A.map (·.block))) (fun _ i _ => n - (intOf i).toNat)
  case atStart => exact ⟨0, by omega, rfl, by simp, by simpa [flat] using hO, World.grownBy.refl _ _⟩
  case round =>
    clear hO
    obtain ⟨k, hk, rfl, rfl, hO, hg⟩ := hrel
    by_cases hlt : k < n
    · obtain ⟨g, hA⟩ := own_addr hO (by omega)
      subst hA
      go_wp2_with fail
      refine (markText_c (q + k) (by omega) (by omega) _).mono ?_
      rintro e w2 ⟨rfl, hb2⟩
      have hO2 := own_below hO hb2
      have hlen := hO2.1
      obtain ⟨u0', d0⟩ := own_cell hO2 (j := k) (by omega)
      have f0 := hO2.frozenAt k
      clear hlen
      go_wp2_with fail
      refine ⟨⟨k + 1, by omega, by go_num, by go_num, ?_, ?_⟩, by simp [intOf]; omega⟩
      · have h3 := (hO2.stored (k * 1) (.string (mtext (q + k).toNat))).1
        have h4 := flat_step (f := fun i : Nat => mkscell (q + i)) (s := 1) (fun i => rfl) (xs := List.range n) (k := k) (x := k) (by simp [hlt]) (by simp) cs hL.out
        rw [← h4]
        rw [Nat.mul_one] at h3 ⊢
        exact h3
      · exact grown_setCell (grown_below hg hb2) (p := ⟨g, k, none⟩) (.inl rfl) _
    · have hkn : k = n := by omega
      go_wp2_with fail
      go_returns
      subst hkn
      rw [flat_end (by simp) cs hL.out] at hO
      exact ⟨rfl, hO, hg⟩

set_option maxRecDepth 100000 in
set_option maxHeartbeats 800000 in
theorem heldStringS_c (A : Option Addr) (n c : Nat) (q : Int) (h0 : 0 ≤ q) (h1 : q + n ≤ 100000000) (hz : (n : Int) ≤ 10000000) (w : World) (hA : Arr w A (flat (fun i : Nat => mkscell (q + i)) (List.range n))) :
    Calls Tryd.prog 18 #[.slice A n c, .int .i64 q] w (Ret (.int .i64 (q + n)) w) := by
  go_enter Tryd.func18, Tryd.ntmps18
  go_wp2_with fail
  go_loopw [1, 5] (fun kv i wr => ∃ k : Nat, k ≤ n ∧ i = .int .i64 k ∧ kv = .int .i64 (q + k) ∧ Below w.heap.size w wr) (fun _ i _ => n - (intOf i).toNat)
  case atStart => exact ⟨0, by omega, rfl, by simp, Below.refl _ _⟩
  case round =>
    obtain ⟨k, hk, rfl, rfl, hbel⟩ := hrel
    by_cases hlt : k < n
    · obtain ⟨ad, rfl, hab, c0', cj'⟩ := (hA.below hbel).elem (f := fun i : Nat => mkscell (q + i)) (s := 1) (fun i => rfl) (k := k) (x := k) (by simp [hlt]) (by omega)
      have c0 : wr.cell? (ad.add k) = some (.string (mtext (q + k).toNat)) := by rw [Nat.mul_one] at c0'; exact c0'
      clear c0' cj'
      go_wp2_with fail
      go_region_held3 (fun w' => w'.cell? (ad.add k) = some (.string (mtext (q + k).toNat))) (first | go_keep | exact bl_cell hb2 (by assumption)) (first | (go_at_call 43; refine (markText_c (q + k) (by omega) (by omega) _).mono ?_; rintro e w2 ⟨rfl, hb2⟩))
      replace c0 := bl_cell hb2 c0
      go_wp2_with fail
      exact ⟨⟨k + 1, by omega, by go_num, by go_num, bl_transd hbel hb2⟩, by simp [intOf]; omega⟩
    · have hkn : k = n := by omega
      go_wp2_with fail
      go_returns
      subst hkn
      exact Ret.mk rfl hbel

end Go.Proofs.YtjadfbnhokecoaaDoor
