/- What the laws' own helpers do to structs and slices of structs: weights, copies, equality, marks. -/
import Derived.Test.YtbfelgfnebeliaaDoorCore
namespace Go.Proofs.YtbfelgfnebeliaaDoor
open Go.RowKit

set_option maxRecDepth 100000 in
set_option maxHeartbeats 400000 in
theorem markText_n (k : Nat) (h1 : (k : Int) ≤ 1000000000) (w : World) :
    Calls Tryd.prog 64 #[.int .i64 k] w (Ret (.string (mtext k)) w) := by
  have hcv := run_byte1 (P := Tryd.prog) 108 9 5 Tryd.underlying108 Tryd.underlying5 Tryd.underlying9
  go_enter Tryd.func64, Tryd.ntmps64
  go_wp2_with fail
  · have hk0 : k = 0 := by omega
    go_returns
    refine Ret.mk (vs ?_) (by go_grown)
    rw [mtext, if_pos hk0]
  · have HT := Lib.hid (show mtGo k k [] = mtGo k k [] from rfl)
    go_loopw [0, 3] (fun kv o wr => ∃ f m : Nat, ∃ acc : List UInt8, m ≤ f ∧ (m : Int) ≤ 1000000000 ∧ kv = .int .i64 m ∧ o = .string ⟨acc.toArray⟩ ∧ acc.length + f ≤ k ∧ Hid (mtGo k k [] = mtGo f m acc) ∧ Below w.heap.size w wr) (fun kv _ _ => (intOf kv).toNat)
    case atStart => exact ⟨k, k, [], by omega, h1, rfl, rfl, by simp, HT, Below.refl _ _⟩
    case round =>
      clear HT
      obtain ⟨f, m, acc, hf, hm, rfl, rfl, hl, HT, hbel⟩ := hrel
      by_cases hm0 : 0 < m
      · go_wp2_with fail
        obtain ⟨f', rfl⟩ : ∃ f', f = f' + 1 := ⟨f - 1, by omega⟩
        refine ⟨⟨f', m / 10, (48 + UInt8.ofNat (m % 10)) :: acc, by omega, by omega, by go_num, ?_, by simp; omega, ?_, bl_alloc hbel _⟩, by simp [intOf]; omega⟩
        · rfl
        · refine Lib.hid (HT.out.trans ?_)
          rw [mtGo, if_neg (by omega)]
      · go_wp2_with fail
        go_returns
        refine Ret.mk (vs ?_) hbel
        have hm1 : m = 0 := by omega
        have h3 : mtGo f m acc = acc := by cases f <;> simp [mtGo, hm1]
        rw [mtext, if_neg (by assumption), HT.out, h3]
        rfl
theorem markText_c (q : Int) (h0 : 0 ≤ q) (h1 : q ≤ 1000000000) (w : World) : Calls Tryd.prog 64 #[.int .i64 q] w (Ret (.string (mtext q.toNat)) w) := by
  obtain ⟨k, rfl⟩ := Int.eq_ofNat_of_zero_le h0
  exact markText_n k h1 w

structure Order where
  id : Int
  customer : ByteArray
  stage : Int
  due : Int
  left : Int
  fittings : Int
def Order.cells (x : Order) : List Value := [.int .i64 x.id, .string x.customer, .int .i64 x.stage, .int .i64 x.due, .int .i64 x.left, .int .i64 x.fittings]
def Order.val (x : Order) : Value := .agg #[.int .i64 x.id, .string x.customer, .int .i64 x.stage, .int .i64 x.due, .int .i64 x.left, .int .i64 x.fittings]
def Order.sizes (x : Order) : List Nat := [x.customer.size]
theorem Order.cells_length (x : Order) : x.cells.length = 6 := rfl
theorem Order.at_ {w : World} {A : Option Addr} {xs : List Order} {k : Nat} {x : Order} (h : Arr w A (flat Order.cells xs)) (hk : xs[k]? = some x) :
    ∃ ad, A = some ad ∧ ad.block < w.heap.size ∧ w.cell? (ad.add (k * 6)) = some (.int .i64 x.id) ∧
      w.cell? ⟨(ad.add (k * 6)).block, (ad.add (k * 6)).off + 1, none⟩ = some (.string x.customer) ∧
      w.cell? ⟨(ad.add (k * 6)).block, (ad.add (k * 6)).off + 2, none⟩ = some (.int .i64 x.stage) ∧
      w.cell? ⟨(ad.add (k * 6)).block, (ad.add (k * 6)).off + 3, none⟩ = some (.int .i64 x.due) ∧
      w.cell? ⟨(ad.add (k * 6)).block, (ad.add (k * 6)).off + 4, none⟩ = some (.int .i64 x.left) ∧
      w.cell? ⟨(ad.add (k * 6)).block, (ad.add (k * 6)).off + 5, none⟩ = some (.int .i64 x.fittings) := by
  obtain ⟨ad, e, hb, h0, hj⟩ := h.elem Order.cells_length hk (by omega)
  exact ⟨ad, e, hb, h0, hj 1 (by omega) (by omega), hj 2 (by omega) (by omega), hj 3 (by omega) (by omega), hj 4 (by omega) (by omega), hj 5 (by omega) (by omega)⟩
def Order.beq (x y : Order) : Bool := decide (x.id = y.id) && decide (x.customer = y.customer) && decide (x.stage = y.stage) && decide (x.due = y.due) && decide (x.left = y.left) && decide (x.fittings = y.fittings)
theorem Order.beq_iff (x y : Order) : x.beq y = true ↔ x = y := by
  cases x; cases y; simp [Order.beq, and_assoc]
theorem Order.beq_self (x : Order) : x.beq x = true := (Order.beq_iff x x).2 rfl

set_option maxHeartbeats 400000 in
theorem eqOrder_c (x y : Order) (w : World) :
    Calls Tryd.prog 13 #[.agg #[.int .i64 x.id, .string x.customer, .int .i64 x.stage, .int .i64 x.due, .int .i64 x.left, .int .i64 x.fittings], .agg #[.int .i64 y.id, .string y.customer, .int .i64 y.stage, .int .i64 y.due, .int .i64 y.left, .int .i64 y.fittings]] w (Ret (.bool (x.beq y)) w) := by
  go_enter Tryd.func13, Tryd.ntmps13
  go_wp2
  all_goals
    go_returns
    refine Ret.mk (vb ?_) (by go_grown)
    simp_all [Order.beq, bytes_eq_iff]

structure Entry where
  day : Int
  what : ByteArray
  value : Int
def Entry.cells (x : Entry) : List Value := [.int .i64 x.day, .string x.what, .int .i64 x.value]
def Entry.val (x : Entry) : Value := .agg #[.int .i64 x.day, .string x.what, .int .i64 x.value]
def Entry.sizes (x : Entry) : List Nat := [x.what.size]
theorem Entry.cells_length (x : Entry) : x.cells.length = 3 := rfl
theorem Entry.at_ {w : World} {A : Option Addr} {xs : List Entry} {k : Nat} {x : Entry} (h : Arr w A (flat Entry.cells xs)) (hk : xs[k]? = some x) :
    ∃ ad, A = some ad ∧ ad.block < w.heap.size ∧ w.cell? (ad.add (k * 3)) = some (.int .i64 x.day) ∧
      w.cell? ⟨(ad.add (k * 3)).block, (ad.add (k * 3)).off + 1, none⟩ = some (.string x.what) ∧
      w.cell? ⟨(ad.add (k * 3)).block, (ad.add (k * 3)).off + 2, none⟩ = some (.int .i64 x.value) := by
  obtain ⟨ad, e, hb, h0, hj⟩ := h.elem Entry.cells_length hk (by omega)
  exact ⟨ad, e, hb, h0, hj 1 (by omega) (by omega), hj 2 (by omega) (by omega)⟩
def Entry.beq (x y : Entry) : Bool := decide (x.day = y.day) && decide (x.what = y.what) && decide (x.value = y.value)
theorem Entry.beq_iff (x y : Entry) : x.beq y = true ↔ x = y := by
  cases x; cases y; simp [Entry.beq, and_assoc]
theorem Entry.beq_self (x : Entry) : x.beq x = true := (Entry.beq_iff x x).2 rfl

set_option maxHeartbeats 400000 in
theorem szEntry_c (x : Entry) (left : Int) (hs0 : x.what.size ≤ 9223372036854775807) (h0 : 0 ≤ left) (h1 : left ≤ 1048576) (w : World) :
    Calls Tryd.prog 20 #[.agg #[.int .i64 x.day, .string x.what, .int .i64 x.value], .int .i64 left] w (Ret (.int .i64 (szGo x.sizes left)) w) := by
  go_enter Tryd.func20, Tryd.ntmps20
  go_wp2
  · go_returns
    refine Ret.mk (vi ?_) (by go_grown)
    simp only [Entry.sizes, szGo]
    rw [if_pos (by omega)]
  · go_returns
    refine Ret.mk (vi ?_) (by go_grown)
    simp only [Entry.sizes, szGo]
    rw [if_neg (by omega)]

set_option maxHeartbeats 400000 in
theorem toEntry_c (x : Entry) (w : World) :
    Calls Tryd.prog 22 #[.agg #[.int .i64 x.day, .string x.what, .int .i64 x.value]] w (Ret (.agg #[.int .i64 x.day, .string x.what, .int .i64 x.value]) w) := by
  go_enter Tryd.func22, Tryd.ntmps22
  go_wp2
  go_returns
  exact Ret.mk rfl (by go_grown)

set_option maxHeartbeats 400000 in
theorem eqEntry_c (x y : Entry) (w : World) :
    Calls Tryd.prog 63 #[.agg #[.int .i64 x.day, .string x.what, .int .i64 x.value], .agg #[.int .i64 y.day, .string y.what, .int .i64 y.value]] w (Ret (.bool (x.beq y)) w) := by
  go_enter Tryd.func63, Tryd.ntmps63
  go_wp2
  all_goals
    go_returns
    refine Ret.mk (vb ?_) (by go_grown)
    simp_all [Entry.beq, bytes_eq_iff]

set_option maxRecDepth 100000 in
set_option maxHeartbeats 800000 in
theorem eqEntryS_c (A B : Option Addr) (xs ys : List Entry) (n m c d : Nat) (hn : Hid (xs.length = n)) (hm : Hid (ys.length = m)) (hz : (n : Int) ≤ 1048576) (w : World) (hA : Arr w A (flat Entry.cells xs)) (hB : Arr w B (flat Entry.cells ys)) :
    Calls Tryd.prog 31 #[.slice A n c, .slice B m d] w (Ret (.bool (listBeq Entry.beq xs ys)) w) := by
  by_cases hnm : n = m
  case neg =>
    have hne : ((n : Int) != (m : Int)) = true := by rw [bne_iff_ne]; omega
    go_enter Tryd.func31, Tryd.ntmps31
    go_wp2
    go_returns
    refine Ret.mk (vb ?_) (by go_grown)
    rw [listBeq_len _ _ _ (by rw [hn.out, hm.out]; exact hnm)]
  subst hnm
  have hne : ((n : Int) != (n : Int)) = false := by simp
  go_enter Tryd.func31, Tryd.ntmps31
  go_wp2_with fail
  have hR := Lib.hid (show listBeq Entry.beq xs ys = listBeq Entry.beq (xs.drop 0) (ys.drop 0) from rfl)
  go_loopw [5] (fun i wr => ∃ k : Nat, k ≤ n ∧ i = .int .i64 k ∧ Hid (listBeq Entry.beq xs ys = listBeq Entry.beq (xs.drop k) (ys.drop k)) ∧ Below w.heap.size w wr) (fun i _ => n - (intOf i).toNat)
  case atStart => exact ⟨0, by omega, rfl, hR, Below.refl _ _⟩
  case round =>
    clear hR
    obtain ⟨k, hk, rfl, hR, hbel⟩ := hrel
    by_cases hlt : k < n
    · obtain ⟨x, hx⟩ := get_of_lt (xs := xs) (k := k) (by rw [hn.out]; exact hlt)
      obtain ⟨y, hy⟩ := get_of_lt (xs := ys) (k := k) (by rw [hm.out]; exact hlt)
      obtain ⟨ad, rfl, hab, c0, c1, c2⟩ := Entry.at_ (hA.below hbel) hx
      obtain ⟨bd, rfl, hbb, d0, d1, d2⟩ := Entry.at_ (hB.below hbel) hy
      have hR2 := Lib.hid (hR.out.trans (by rw [drop_at hx, drop_at hy]; rfl : _ = (x.beq y && listBeq Entry.beq (xs.drop (k + 1)) (ys.drop (k + 1)))))
      clear hR hx hy
      go_wp2_with fail
      go_still_tail 8, (by kernel_rfl)
      go_wp2_with fail
      refine (eqEntry_c x y _).mono ?_
      rintro e w1 ⟨rfl, hb1'⟩
      have hb1 : Below wr.heap.size wr w1 := bl_transd (Below.refl _ _) hb1'
      cases hq : x.beq y
      · have HQ := Lib.hid hq
        clear hq
        go_wp2_with fail
        go_returns
        refine Ret.mk (vb ?_) (bl_trans hbel hb1)
        rw [hR2.out, HQ.out]; rfl
      · have HQ := Lib.hid hq
        clear hq
        go_wp2_with fail
        go_roundw
        case rel => exact ⟨k + 1, by omega, by go_num, Lib.hid (hR2.out.trans (by rw [HQ.out]; rfl)), bl_trans hbel hb1⟩
        case measure => simp [intOf]; omega
    · have hR2 := Lib.hid (hR.out.trans (by rw [List.drop_eq_nil_of_le (by rw [hn.out]; omega), List.drop_eq_nil_of_le (by rw [hm.out]; omega)]; rfl : _ = true))
      clear hR
      go_wp2_with fail
      go_returns
      refine Ret.mk (vb ?_) hbel
      rw [hR2.out]

def Entry.mkc (q : Int) : List Value := [.int .i64 (q), .string (mtext (q + 1).toNat), .int .i64 (q + 1 + 1)]
theorem Entry.mkc_length (q : Int) : (Entry.mkc q).length = 3 := rfl

set_option maxRecDepth 100000 in
set_option maxHeartbeats 1000000 in
theorem markEntryS_c (A : Option Addr) (n c base : Nat) (cs : List Value) (q : Int) (h0 : 0 ≤ q) (h1 : q + n * 3 ≤ 100000000) (hz : (n : Int) ≤ 10000000) (w : World) (hO : w.ownsRow base 39 3 (.slice A n c) n cs) :
    Calls Tryd.prog 32 #[.slice A n c, .int .i64 q] w (MarkS base 39 3 A n c (flat (fun i : Nat => Entry.mkc (q + i * 3)) (List.range n)) (q + n * 3) w) := by
  have hL := Lib.hid hO.1
  go_enter Tryd.func32, Tryd.ntmps32
  go_wp2_with fail
  go_loopw [1, 5] (fun kv i wr => ∃ k : Nat, k ≤ n ∧ i = .int .i64 k ∧ kv = .int .i64 (q + k * 3) ∧ wr.ownsRow base 39 3 (.slice A n c) n (flat (fun i : Nat => Entry.mkc (q + i * 3)) ((List.range n).take k) ++ cs.drop (k * 3)) ∧ w.grownBy wr (A.map (·.block))) (fun _ i _ => n - (intOf i).toNat)
  case atStart => exact ⟨0, by omega, rfl, by simp, by simpa [flat] using hO, World.grownBy.refl _ _⟩
  case round =>
    clear hO
    obtain ⟨k, hk, rfl, rfl, hO, hg⟩ := hrel
    by_cases hlt : k < n
    · obtain ⟨g, hA⟩ := own_addr hO (by omega)
      subst hA
      have hlen := hO.1
      obtain ⟨qq, hqq⟩ : ∃ qq : Int, qq = q + (k : Int) * 3 := ⟨_, rfl⟩
      have hq0 : 0 ≤ qq := by omega
      have hq1 : qq + 3 ≤ 100000000 := by omega
      rw [← hqq]
      have HQ := Lib.hid hqq
      clear hqq
      obtain ⟨u0', d0⟩ := own_cell hO (j := k * 3) (by omega)
      have f0 := hO.frozenAt (k * 3)
      go_wp2_with fail
      refine (markText_c (qq + 1) (by omega) (by omega) _).mono ?_
      rintro e w2 ⟨rfl, hb2⟩
      have hO2 := own_below (hO.stored (k * 3) (.int .i64 (qq))).1 hb2
      have hlen1 := hO2.1
      obtain ⟨u1', d1⟩ := own_cell hO2 (j := k * 3 + 1) (by omega)
      obtain ⟨u2', d2⟩ := own_cell hO2 (j := k * 3 + 2) (by omega)
      have f1 := hO2.frozenAt (k * 3 + 1)
      have f2 := hO2.frozenAt (k * 3 + 2)
      clear hlen1
      clear hlen
      go_wp2_with fail
      refine ⟨⟨k + 1, by omega, by go_num, ?_, ?_, ?_⟩, by simp [intOf]; omega⟩
      · have hq := HQ.out
        congr 1; simp only [Int.natCast_add]; omega
      · have h3 := ((hO2.stored (k * 3 + 1) (.string (mtext (qq + 1).toNat))).1.stored (k * 3 + 2) (.int .i64 (qq + 1 + 1))).1
        have h4 := flat_step (f := fun i : Nat => Entry.mkc (q + i * 3)) (fun i => Entry.mkc_length _) (xs := List.range n) (k := k) (x := k) (by simp [hlt]) (by simp) cs hL.out
        rw [← h4, ← HQ.out]
        exact h3
      · exact grown_setCell (grown_setCell (grown_below (grown_setCell (hg) (p := ⟨g, k * 3, none⟩) (.inl rfl) _) hb2) (p := ⟨g, k * 3 + 1, none⟩) (.inl rfl) _) (p := ⟨g, k * 3 + 2, none⟩) (.inl rfl) _
    · have hkn : k = n := by omega
      go_wp2_with fail
      go_returns
      subst hkn
      rw [flat_end (by simp) cs hL.out] at hO
      exact ⟨rfl, hO, hg⟩

set_option maxRecDepth 100000 in
set_option maxHeartbeats 1000000 in
theorem heldEntryS_c (A : Option Addr) (n c : Nat) (q : Int) (h0 : 0 ≤ q) (h1 : q + n * 3 ≤ 100000000) (hz : (n : Int) ≤ 10000000) (w : World) (hA : Arr w A (flat (fun i : Nat => Entry.mkc (q + i * 3)) (List.range n))) :
    Calls Tryd.prog 33 #[.slice A n c, .int .i64 q] w (Ret (.int .i64 (q + n * 3)) w) := by
  go_enter Tryd.func33, Tryd.ntmps33
  go_wp2_with fail
  go_loopw [1, 5] (fun kv i wr => ∃ k : Nat, k ≤ n ∧ i = .int .i64 k ∧ kv = .int .i64 (q + k * 3) ∧ Below w.heap.size w wr) (fun _ i _ => n - (intOf i).toNat)
  case atStart => exact ⟨0, by omega, rfl, by simp, Below.refl _ _⟩
  case round =>
    obtain ⟨k, hk, rfl, rfl, hbel⟩ := hrel
    by_cases hlt : k < n
    · obtain ⟨ad, rfl, hab, c0', cj'⟩ := (hA.below hbel).elem (f := fun i : Nat => Entry.mkc (q + i * 3)) (fun i => Entry.mkc_length _) (k := k) (x := k) (by simp [hlt]) (by omega)
      obtain ⟨qq, hqq⟩ : ∃ qq : Int, qq = q + (k : Int) * 3 := ⟨_, rfl⟩
      have hq0 : 0 ≤ qq := by omega
      have hq1 : qq + 3 ≤ 100000000 := by omega
      rw [← hqq] at c0' ⊢
      have c0 : wr.cell? (ad.add (k * 3)) = some (.int .i64 (qq)) := c0'
      have c1 : wr.cell? ⟨(ad.add (k * 3)).block, (ad.add (k * 3)).off + 1, none⟩ = some (.string (mtext (qq + 1).toNat)) := by rw [cj' 1 (by omega) (by omega), ← hqq]; rfl
      have c2 : wr.cell? ⟨(ad.add (k * 3)).block, (ad.add (k * 3)).off + 2, none⟩ = some (.int .i64 (qq + 1 + 1)) := by rw [cj' 2 (by omega) (by omega), ← hqq]; rfl
      have HQ := Lib.hid hqq
      clear hqq c0' cj'
      go_wp2_with fail
      go_region_held3 (fun w' => w'.cell? ⟨(ad.add (k * 3)).block, (ad.add (k * 3)).off + 1, none⟩ = some (.string (mtext (qq + 1).toNat))) (first | go_keep | exact bl_cell hb2 (by assumption)) (first | (go_at_call 64; refine (markText_c (qq + 1) (by omega) (by omega) _).mono ?_; rintro e w2 ⟨rfl, hb2⟩))
      replace c0 := bl_cell hb2 c0
      replace c1 := bl_cell hb2 c1
      replace c2 := bl_cell hb2 c2
      go_wp2_with fail
      refine ⟨⟨k + 1, by omega, by go_num, ?_, bl_transd (hbel) hb2⟩, by simp [intOf]; omega⟩
      have hq := HQ.out
      congr 1; simp only [Int.natCast_add]; omega
    · have hkn : k = n := by omega
      go_wp2_with fail
      go_returns
      subst hkn
      exact Ret.mk rfl hbel

set_option maxRecDepth 100000 in
set_option maxHeartbeats 800000 in
theorem eqInt64S_c (A B : Option Addr) (xs ys : List Int) (n m c d : Nat) (hn : Hid (xs.length = n)) (hm : Hid (ys.length = m)) (hz : (n : Int) ≤ 9223372036854775807) (w : World) (hA : Arr w A (flat icell xs)) (hB : Arr w B (flat icell ys)) :
    Calls Tryd.prog 26 #[.slice A n c, .slice B m d] w (Ret (.bool (decide (xs = ys))) w) := by
  by_cases hnm : n = m
  case neg =>
    have hne : ((n : Int) != (m : Int)) = true := by rw [bne_iff_ne]; omega
    go_enter Tryd.func26, Tryd.ntmps26
    go_wp2
    go_returns
    refine Ret.mk (vb ?_) (by go_grown)
    symm
    rw [decide_eq_false_iff_not]
    intro e
    subst e
    have h1 := hn.out
    have h2 := hm.out
    omega
  subst hnm
  have hne : ((n : Int) != (n : Int)) = false := by simp
  go_enter Tryd.func26, Tryd.ntmps26
  go_wp2_with fail
  have hR := Lib.hid (show decide (xs = ys) = decide (xs.drop 0 = ys.drop 0) from rfl)
  go_loopw [5] (fun i wr => ∃ k : Nat, k ≤ n ∧ i = .int .i64 k ∧ Hid (decide (xs = ys) = decide (xs.drop k = ys.drop k)) ∧ Below w.heap.size w wr) (fun i _ => n - (intOf i).toNat)
  case atStart => exact ⟨0, by omega, rfl, hR, Below.refl _ _⟩
  case round =>
    clear hR
    obtain ⟨k, hk, rfl, hR, hbel⟩ := hrel
    by_cases hlt : k < n
    · obtain ⟨x, hx⟩ := get_of_lt (xs := xs) (k := k) (by rw [hn.out]; exact hlt)
      obtain ⟨y, hy⟩ := get_of_lt (xs := ys) (k := k) (by rw [hm.out]; exact hlt)
      obtain ⟨ad, rfl, hab, c0⟩ := icell_at (hA.below hbel) hx
      obtain ⟨bd, rfl, hbb, d0⟩ := icell_at (hB.below hbel) hy
      have hR2 := Lib.hid (hR.out.trans (by rw [drop_at hx, drop_at hy] : _ = decide (x :: xs.drop (k + 1) = y :: ys.drop (k + 1))))
      clear hR hx hy
      by_cases hq : x = y
      · subst hq
        have hne2 : (x != x) = false := by simp
        go_wp2_with fail
        go_quiet (fail)
        go_wp2_with fail
        go_roundw
        case rel => exact ⟨k + 1, by omega, by go_num, Lib.hid (hR2.out.trans (by simp)), below_drewN hbel _⟩
        case measure => simp [intOf]; omega
      · have hne2 : (x != y) = true := by rw [bne_iff_ne]; exact hq
        go_wp2_with fail
        go_quiet (fail)
        go_wp2_with fail
        go_returns
        refine Ret.mk (vb ?_) (below_drewN hbel _)
        rw [hR2.out]
        simp [hq]
    · have hR2 := Lib.hid (hR.out.trans (by rw [List.drop_eq_nil_of_le (by rw [hn.out]; omega), List.drop_eq_nil_of_le (by rw [hm.out]; omega)]; simp : _ = true))
      clear hR
      go_wp2_with fail
      go_returns
      refine Ret.mk (vb ?_) hbel
      rw [hR2.out]

def mkicell (q : Int) : List Value := [.int .i64 (q)]
set_option maxRecDepth 100000 in
set_option maxHeartbeats 800000 in
theorem markInt64S_c (A : Option Addr) (n c base : Nat) (cs : List Value) (q : Int) (h0 : 0 ≤ q) (h1 : q + n ≤ 100000000) (hz : (n : Int) ≤ 10000000) (w : World) (hO : w.ownsRow base 2 1 (.slice A n c) n cs) :
    Calls Tryd.prog 27 #[.slice A n c, .int .i64 q] w (MarkS base 2 1 A n c (flat (fun i : Nat => mkicell (q + i)) (List.range n)) (q + n) w) := by
  have hL := Lib.hid hO.1
  go_enter Tryd.func27, Tryd.ntmps27
  go_wp2_with fail
  go_loopw [1, 5] (fun kv i wr => ∃ k : Nat, k ≤ n ∧ i = .int .i64 k ∧ kv = .int .i64 (q + k) ∧ wr.ownsRow base 2 1 (.slice A n c) n (flat (fun i : Nat => mkicell (q + i)) ((List.range n).take k) ++ cs.drop (k * 1)) ∧ w.grownBy wr (A.map (·.block))) (fun _ i _ => n - (intOf i).toNat)
  case atStart => exact ⟨0, by omega, rfl, by simp, by simpa [flat] using hO, World.grownBy.refl _ _⟩
  case round =>
    clear hO
    obtain ⟨k, hk, rfl, rfl, hO, hg⟩ := hrel
    by_cases hlt : k < n
    · obtain ⟨g, hA⟩ := own_addr hO (by omega)
      subst hA
      have hlen := hO.1
      obtain ⟨u0', d0⟩ := own_cell hO (j := k) (by omega)
      have f0 := hO.frozenAt k
      clear hlen
      go_wp2_with fail
      refine ⟨⟨k + 1, by omega, by go_num, by go_num, ?_, ?_⟩, by simp [intOf]; omega⟩
      · have h3 := (hO.stored (k * 1) (.int .i64 (q + k))).1
        have h4 := flat_step (f := fun i : Nat => mkicell (q + i)) (s := 1) (fun i => rfl) (xs := List.range n) (k := k) (x := k) (by simp [hlt]) (by simp) cs hL.out
        rw [← h4]
        rw [Nat.mul_one] at h3 ⊢
        exact h3
      · exact grown_setCell (hg) (p := ⟨g, k, none⟩) (.inl rfl) _
    · have hkn : k = n := by omega
      go_wp2_with fail
      go_returns
      subst hkn
      rw [flat_end (by simp) cs hL.out] at hO
      exact ⟨rfl, hO, hg⟩

set_option maxRecDepth 100000 in
set_option maxHeartbeats 800000 in
theorem heldInt64S_c (A : Option Addr) (n c : Nat) (q : Int) (h0 : 0 ≤ q) (h1 : q + n ≤ 100000000) (hz : (n : Int) ≤ 10000000) (w : World) (hA : Arr w A (flat (fun i : Nat => mkicell (q + i)) (List.range n))) :
    Calls Tryd.prog 28 #[.slice A n c, .int .i64 q] w (Ret (.int .i64 (q + n)) w) := by
  go_enter Tryd.func28, Tryd.ntmps28
  go_wp2_with fail
  go_loopw [1, 5] (fun kv i wr => ∃ k : Nat, k ≤ n ∧ i = .int .i64 k ∧ kv = .int .i64 (q + k) ∧ Below w.heap.size w wr) (fun _ i _ => n - (intOf i).toNat)
  case atStart => exact ⟨0, by omega, rfl, by simp, Below.refl _ _⟩
  case round =>
    obtain ⟨k, hk, rfl, rfl, hbel⟩ := hrel
    by_cases hlt : k < n
    · obtain ⟨ad, rfl, hab, c0', cj'⟩ := (hA.below hbel).elem (f := fun i : Nat => mkicell (q + i)) (s := 1) (fun i => rfl) (k := k) (x := k) (by simp [hlt]) (by omega)
      have c0 : wr.cell? (ad.add k) = some (.int .i64 (q + k)) := by rw [Nat.mul_one] at c0'; exact c0'
      clear c0' cj'
      go_wp2_with fail
      exact ⟨⟨k + 1, by omega, by go_num, by go_num, hbel⟩, by simp [intOf]; omega⟩
    · have hkn : k = n := by omega
      go_wp2_with fail
      go_returns
      subst hkn
      exact Ret.mk rfl hbel

set_option maxRecDepth 100000 in
set_option maxHeartbeats 800000 in
theorem eqStringS_c (A B : Option Addr) (xs ys : List ByteArray) (n m c d : Nat) (hn : Hid (xs.length = n)) (hm : Hid (ys.length = m)) (hz : (n : Int) ≤ 9223372036854775807) (w : World) (hA : Arr w A (flat scell xs)) (hB : Arr w B (flat scell ys)) :
    Calls Tryd.prog 36 #[.slice A n c, .slice B m d] w (Ret (.bool (decide (xs = ys))) w) := by
  by_cases hnm : n = m
  case neg =>
    have hne : ((n : Int) != (m : Int)) = true := by rw [bne_iff_ne]; omega
    go_enter Tryd.func36, Tryd.ntmps36
    go_wp2
    go_returns
    refine Ret.mk (vb ?_) (by go_grown)
    symm
    rw [decide_eq_false_iff_not]
    intro e
    subst e
    have h1 := hn.out
    have h2 := hm.out
    omega
  subst hnm
  have hne : ((n : Int) != (n : Int)) = false := by simp
  go_enter Tryd.func36, Tryd.ntmps36
  go_wp2_with fail
  have hR := Lib.hid (show decide (xs = ys) = decide (xs.drop 0 = ys.drop 0) from rfl)
  go_loopw [5] (fun i wr => ∃ k : Nat, k ≤ n ∧ i = .int .i64 k ∧ Hid (decide (xs = ys) = decide (xs.drop k = ys.drop k)) ∧ Below w.heap.size w wr) (fun i _ => n - (intOf i).toNat)
  case atStart => exact ⟨0, by omega, rfl, hR, Below.refl _ _⟩
  case round =>
    clear hR
    obtain ⟨k, hk, rfl, hR, hbel⟩ := hrel
    by_cases hlt : k < n
    · obtain ⟨x, hx⟩ := get_of_lt (xs := xs) (k := k) (by rw [hn.out]; exact hlt)
      obtain ⟨y, hy⟩ := get_of_lt (xs := ys) (k := k) (by rw [hm.out]; exact hlt)
      obtain ⟨ad, rfl, hab, c0⟩ := scell_at (hA.below hbel) hx
      obtain ⟨bd, rfl, hbb, d0⟩ := scell_at (hB.below hbel) hy
      have hR2 := Lib.hid (hR.out.trans (by rw [drop_at hx, drop_at hy] : _ = decide (x :: xs.drop (k + 1) = y :: ys.drop (k + 1))))
      clear hR hx hy
      by_cases hq : x = y
      · subst hq
        have hne2 : (!x.toList == x.toList) = false := by simp
        go_wp2_with fail
        go_quiet (fail)
        go_wp2_with fail
        go_roundw
        case rel => exact ⟨k + 1, by omega, by go_num, Lib.hid (hR2.out.trans (by simp)), below_drewN hbel _⟩
        case measure => simp [intOf]; omega
      · have hne2 : (!x.toList == y.toList) = true := by rw [bytes_beq]; simp [hq]
        go_wp2_with fail
        go_quiet (fail)
        go_wp2_with fail
        go_returns
        refine Ret.mk (vb ?_) (below_drewN hbel _)
        rw [hR2.out]
        simp [hq]
    · have hR2 := Lib.hid (hR.out.trans (by rw [List.drop_eq_nil_of_le (by rw [hn.out]; omega), List.drop_eq_nil_of_le (by rw [hm.out]; omega)]; simp : _ = true))
      clear hR
      go_wp2_with fail
      go_returns
      refine Ret.mk (vb ?_) hbel
      rw [hR2.out]

def mkscell (q : Int) : List Value := [.string (mtext (q).toNat)]
set_option maxRecDepth 100000 in
set_option maxHeartbeats 800000 in
theorem markStringS_c (A : Option Addr) (n c base : Nat) (cs : List Value) (q : Int) (h0 : 0 ≤ q) (h1 : q + n ≤ 100000000) (hz : (n : Int) ≤ 10000000) (w : World) (hO : w.ownsRow base 9 1 (.slice A n c) n cs) :
    Calls Tryd.prog 37 #[.slice A n c, .int .i64 q] w (MarkS base 9 1 A n c (flat (fun i : Nat => mkscell (q + i)) (List.range n)) (q + n) w) := by
  have hL := Lib.hid hO.1
  go_enter Tryd.func37, Tryd.ntmps37
  go_wp2_with fail
  go_loopw [1, 5] (fun kv i wr => ∃ k : Nat, k ≤ n ∧ i = .int .i64 k ∧ kv = .int .i64 (q + k) ∧ wr.ownsRow base 9 1 (.slice A n c) n (flat (fun i : Nat => mkscell (q + i)) ((List.range n).take k) ++ cs.drop (k * 1)) ∧ w.grownBy wr (A.map (·.block))) (fun _ i _ => n - (intOf i).toNat)
  case atStart => exact ⟨0, by omega, rfl, by simp, by simpa [flat] using hO, World.grownBy.refl _ _⟩
  case round =>
    clear hO
    obtain ⟨k, hk, rfl, rfl, hO, hg⟩ := hrel
    by_cases hlt : k < n
    · obtain ⟨g, hA⟩ := own_addr hO (by omega)
      subst hA
      go_wp2_with fail
      refine (markText_c (q + k) (by omega) (by omega) _).mono ?_
      rintro e w2 ⟨rfl, hb2⟩
      have hO2 := own_below hO hb2
      have hlen := hO2.1
      obtain ⟨u0', d0⟩ := own_cell hO2 (j := k) (by omega)
      have f0 := hO2.frozenAt k
      clear hlen
      go_wp2_with fail
      refine ⟨⟨k + 1, by omega, by go_num, by go_num, ?_, ?_⟩, by simp [intOf]; omega⟩
      · have h3 := (hO2.stored (k * 1) (.string (mtext (q + k).toNat))).1
        have h4 := flat_step (f := fun i : Nat => mkscell (q + i)) (s := 1) (fun i => rfl) (xs := List.range n) (k := k) (x := k) (by simp [hlt]) (by simp) cs hL.out
        rw [← h4]
        rw [Nat.mul_one] at h3 ⊢
        exact h3
      · exact grown_setCell (grown_below hg hb2) (p := ⟨g, k, none⟩) (.inl rfl) _
    · have hkn : k = n := by omega
      go_wp2_with fail
      go_returns
      subst hkn
      rw [flat_end (by simp) cs hL.out] at hO
      exact ⟨rfl, hO, hg⟩

set_option maxRecDepth 100000 in
set_option maxHeartbeats 800000 in
theorem heldStringS_c (A : Option Addr) (n c : Nat) (q : Int) (h0 : 0 ≤ q) (h1 : q + n ≤ 100000000) (hz : (n : Int) ≤ 10000000) (w : World) (hA : Arr w A (flat (fun i : Nat => mkscell (q + i)) (List.range n))) :
    Calls Tryd.prog 38 #[.slice A n c, .int .i64 q] w (Ret (.int .i64 (q + n)) w) := by
  go_enter Tryd.func38, Tryd.ntmps38
  go_wp2_with fail
  go_loopw [1, 5] (fun kv i wr => ∃ k : Nat, k ≤ n ∧ i = .int .i64 k ∧ kv = .int .i64 (q + k) ∧ Below w.heap.size w wr) (fun _ i _ => n - (intOf i).toNat)
  case atStart => exact ⟨0, by omega, rfl, by simp, Below.refl _ _⟩
  case round =>
    obtain ⟨k, hk, rfl, rfl, hbel⟩ := hrel
    by_cases hlt : k < n
    · obtain ⟨ad, rfl, hab, c0', cj'⟩ := (hA.below hbel).elem (f := fun i : Nat => mkscell (q + i)) (s := 1) (fun i => rfl) (k := k) (x := k) (by simp [hlt]) (by omega)
      have c0 : wr.cell? (ad.add k) = some (.string (mtext (q + k).toNat)) := by rw [Nat.mul_one] at c0'; exact c0'
      clear c0' cj'
      go_wp2_with fail
      go_region_held3 (fun w' => w'.cell? (ad.add k) = some (.string (mtext (q + k).toNat))) (first | go_keep | exact bl_cell hb2 (by assumption)) (first | (go_at_call 64; refine (markText_c (q + k) (by omega) (by omega) _).mono ?_; rintro e w2 ⟨rfl, hb2⟩))
      replace c0 := bl_cell hb2 c0
      go_wp2_with fail
      exact ⟨⟨k + 1, by omega, by go_num, by go_num, bl_transd hbel hb2⟩, by simp [intOf]; omega⟩
    · have hkn : k = n := by omega
      go_wp2_with fail
      go_returns
      subst hkn
      exact Ret.mk rfl hbel

end Go.Proofs.YtbfelgfnebeliaaDoor
