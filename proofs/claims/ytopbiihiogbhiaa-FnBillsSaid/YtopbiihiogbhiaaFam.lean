/- What the laws' own helpers do to structs and slices of structs: weights, copies, equality, marks. -/
import Derived.Test.YtopbiihiogbhiaaCore
namespace Go.Proofs.Ytopbiihiogbhiaa
open Go.RowKit


structure Item where
  name : ByteArray
  many : Int
  cents : Int
def Item.cells (x : Item) : List Value := [.string x.name, .int .i64 x.many, .int .i64 x.cents]
def Item.val (x : Item) : Value := .agg #[.string x.name, .int .i64 x.many, .int .i64 x.cents]
def Item.sizes (x : Item) : List Nat := [x.name.size]
theorem Item.cells_length (x : Item) : x.cells.length = 3 := rfl
theorem Item.at_ {w : World} {A : Option Addr} {xs : List Item} {k : Nat} {x : Item} (h : Arr w A (flat Item.cells xs)) (hk : xs[k]? = some x) :
    ∃ ad, A = some ad ∧ ad.block < w.heap.size ∧ w.cell? (ad.add (k * 3)) = some (.string x.name) ∧
      w.cell? ⟨(ad.add (k * 3)).block, (ad.add (k * 3)).off + 1, none⟩ = some (.int .i64 x.many) ∧
      w.cell? ⟨(ad.add (k * 3)).block, (ad.add (k * 3)).off + 2, none⟩ = some (.int .i64 x.cents) := by
  obtain ⟨ad, e, hb, h0, hj⟩ := h.elem Item.cells_length hk (by omega)
  exact ⟨ad, e, hb, h0, hj 1 (by omega) (by omega), hj 2 (by omega) (by omega)⟩
def Item.beq (x y : Item) : Bool := decide (x.name = y.name) && decide (x.many = y.many) && decide (x.cents = y.cents)
theorem Item.beq_iff (x y : Item) : x.beq y = true ↔ x = y := by
  cases x; cases y; simp [Item.beq, and_assoc]
theorem Item.beq_self (x : Item) : x.beq x = true := (Item.beq_iff x x).2 rfl

structure Stuff where
  name : ByteArray
  thick : Int
  gram : Int
  stiff : Int
  price : Int
def Stuff.cells (x : Stuff) : List Value := [.string x.name, .int .i64 x.thick, .int .i64 x.gram, .int .i64 x.stiff, .int .i64 x.price]
def Stuff.val (x : Stuff) : Value := .agg #[.string x.name, .int .i64 x.thick, .int .i64 x.gram, .int .i64 x.stiff, .int .i64 x.price]
def Stuff.sizes (x : Stuff) : List Nat := [x.name.size]
theorem Stuff.cells_length (x : Stuff) : x.cells.length = 5 := rfl
theorem Stuff.at_ {w : World} {A : Option Addr} {xs : List Stuff} {k : Nat} {x : Stuff} (h : Arr w A (flat Stuff.cells xs)) (hk : xs[k]? = some x) :
    ∃ ad, A = some ad ∧ ad.block < w.heap.size ∧ w.cell? (ad.add (k * 5)) = some (.string x.name) ∧
      w.cell? ⟨(ad.add (k * 5)).block, (ad.add (k * 5)).off + 1, none⟩ = some (.int .i64 x.thick) ∧
      w.cell? ⟨(ad.add (k * 5)).block, (ad.add (k * 5)).off + 2, none⟩ = some (.int .i64 x.gram) ∧
      w.cell? ⟨(ad.add (k * 5)).block, (ad.add (k * 5)).off + 3, none⟩ = some (.int .i64 x.stiff) ∧
      w.cell? ⟨(ad.add (k * 5)).block, (ad.add (k * 5)).off + 4, none⟩ = some (.int .i64 x.price) := by
  obtain ⟨ad, e, hb, h0, hj⟩ := h.elem Stuff.cells_length hk (by omega)
  exact ⟨ad, e, hb, h0, hj 1 (by omega) (by omega), hj 2 (by omega) (by omega), hj 3 (by omega) (by omega), hj 4 (by omega) (by omega)⟩
def Stuff.beq (x y : Stuff) : Bool := decide (x.name = y.name) && decide (x.thick = y.thick) && decide (x.gram = y.gram) && decide (x.stiff = y.stiff) && decide (x.price = y.price)
theorem Stuff.beq_iff (x y : Stuff) : x.beq y = true ↔ x = y := by
  cases x; cases y; simp [Stuff.beq, and_assoc]
theorem Stuff.beq_self (x : Stuff) : x.beq x = true := (Stuff.beq_iff x x).2 rfl

structure Fraction where
  num : Int
  den : Int
def Fraction.cells (x : Fraction) : List Value := [.int .i64 x.num, .int .i64 x.den]
def Fraction.val (x : Fraction) : Value := .agg #[.int .i64 x.num, .int .i64 x.den]
def Fraction.sizes (_ : Fraction) : List Nat := []
theorem Fraction.cells_length (x : Fraction) : x.cells.length = 2 := rfl
theorem Fraction.at_ {w : World} {A : Option Addr} {xs : List Fraction} {k : Nat} {x : Fraction} (h : Arr w A (flat Fraction.cells xs)) (hk : xs[k]? = some x) :
    ∃ ad, A = some ad ∧ ad.block < w.heap.size ∧ w.cell? (ad.add (k * 2)) = some (.int .i64 x.num) ∧
      w.cell? ⟨(ad.add (k * 2)).block, (ad.add (k * 2)).off + 1, none⟩ = some (.int .i64 x.den) := by
  obtain ⟨ad, e, hb, h0, hj⟩ := h.elem Fraction.cells_length hk (by omega)
  exact ⟨ad, e, hb, h0, hj 1 (by omega) (by omega)⟩
def Fraction.beq (x y : Fraction) : Bool := decide (x.num = y.num) && decide (x.den = y.den)
theorem Fraction.beq_iff (x y : Fraction) : x.beq y = true ↔ x = y := by
  cases x; cases y; simp [Fraction.beq]
theorem Fraction.beq_self (x : Fraction) : x.beq x = true := (Fraction.beq_iff x x).2 rfl

set_option maxRecDepth 100000 in
set_option maxHeartbeats 800000 in
theorem f6ints_c (A B : Option Addr) (xs ys : List Int) (n m c d : Nat) (hn : Hid (xs.length = n)) (hm : Hid (ys.length = m)) (hz : (n : Int) ≤ 9223372036854775807) (w : World) (hA : Arr w A (flat icell xs)) (hB : Arr w B (flat icell ys)) :
    Calls Try.prog 23 #[.slice A n c, .slice B m d] w (Ret (.bool (decide (xs = ys))) w) := by
  by_cases hnm : n = m
  case neg =>
    have hne : ((n : Int) != (m : Int)) = true := by rw [bne_iff_ne]; omega
    go_enter Try.func23, Try.ntmps23
    go_wp2
    go_returns
    refine Ret.mk (vb ?_) (by go_grown)
    symm
    rw [decide_eq_false_iff_not]
    intro e
    subst e
    have h1 := hn.out
    have h2 := hm.out
    omega
  subst hnm
  have hne : ((n : Int) != (n : Int)) = false := by simp
  go_enter Try.func23, Try.ntmps23
  go_wp2_with fail
  have hR := Lib.hid (show decide (xs = ys) = decide (xs.drop 0 = ys.drop 0) from rfl)
  go_loopw [5] (fun i wr => ∃ k : Nat, k ≤ n ∧ i = .int .i64 k ∧ Hid (decide (xs = ys) = decide (xs.drop k = ys.drop k)) ∧ Below w.heap.size w wr) (fun i _ => n - (intOf i).toNat)
  case atStart => exact ⟨0, by omega, rfl, hR, Below.refl _ _⟩
  case round =>
    clear hR
    obtain ⟨k, hk, rfl, hR, hbel⟩ := hrel
    by_cases hlt : k < n
    · obtain ⟨x, hx⟩ := get_of_lt (xs := xs) (k := k) (by rw [hn.out]; exact hlt)
      obtain ⟨y, hy⟩ := get_of_lt (xs := ys) (k := k) (by rw [hm.out]; exact hlt)
      obtain ⟨ad, rfl, hab, c0⟩ := icell_at (hA.below hbel) hx
      obtain ⟨bd, rfl, hbb, d0⟩ := icell_at (hB.below hbel) hy
      have hR2 := Lib.hid (hR.out.trans (by rw [drop_at hx, drop_at hy] : _ = decide (x :: xs.drop (k + 1) = y :: ys.drop (k + 1))))
      clear hR hx hy
      by_cases hq : x = y
      · subst hq
        have hne2 : (x != x) = false := by simp
        go_wp2_with fail
        go_quiet (fail)
        go_wp2_with fail
        go_roundw
        case rel => exact ⟨k + 1, by omega, by go_num, Lib.hid (hR2.out.trans (by simp)), below_drewN hbel _⟩
        case measure => simp [intOf]; omega
      · have hne2 : (x != y) = true := by rw [bne_iff_ne]; exact hq
        go_wp2_with fail
        go_quiet (fail)
        go_wp2_with fail
        go_returns
        refine Ret.mk (vb ?_) (below_drewN hbel _)
        rw [hR2.out]
        simp [hq]
    · have hR2 := Lib.hid (hR.out.trans (by rw [List.drop_eq_nil_of_le (by rw [hn.out]; omega), List.drop_eq_nil_of_le (by rw [hm.out]; omega)]; simp : _ = true))
      clear hR
      go_wp2_with fail
      go_returns
      refine Ret.mk (vb ?_) hbel
      rw [hR2.out]

end Go.Proofs.Ytopbiihiogbhiaa
