/- What the laws' own helpers do to structs and slices of structs: weights, copies, equality, marks. -/
import Derived.Test.YtihgjmhhpiobbaaGreatDoorCore
namespace Go.Proofs.YtihgjmhhpiobbaaGreatDoor
open Go.RowKit


structure Entry where
  day : Int
  what : ByteArray
  value : Int
def Entry.cells (x : Entry) : List Value := [.int .i64 x.day, .string x.what, .int .i64 x.value]
def Entry.val (x : Entry) : Value := .agg #[.int .i64 x.day, .string x.what, .int .i64 x.value]
def Entry.sizes (x : Entry) : List Nat := [x.what.size]
theorem Entry.cells_length (x : Entry) : x.cells.length = 3 := rfl
theorem Entry.at_ {w : World} {A : Option Addr} {xs : List Entry} {k : Nat} {x : Entry} (h : Arr w A (flat Entry.cells xs)) (hk : xs[k]? = some x) :
    ∃ ad, A = some ad ∧ ad.block < w.heap.size ∧ w.cell? (ad.add (k * 3)) = some (.int .i64 x.day) ∧
      w.cell? ⟨(ad.add (k * 3)).block, (ad.add (k * 3)).off + 1, none⟩ = some (.string x.what) ∧
      w.cell? ⟨(ad.add (k * 3)).block, (ad.add (k * 3)).off + 2, none⟩ = some (.int .i64 x.value) := by
  obtain ⟨ad, e, hb, h0, hj⟩ := h.elem Entry.cells_length hk (by omega)
  exact ⟨ad, e, hb, h0, hj 1 (by omega) (by omega), hj 2 (by omega) (by omega)⟩
def Entry.beq (x y : Entry) : Bool := decide (x.day = y.day) && decide (x.what = y.what) && decide (x.value = y.value)
theorem Entry.beq_iff (x y : Entry) : x.beq y = true ↔ x = y := by
  cases x; cases y; simp [Entry.beq, and_assoc]
theorem Entry.beq_self (x : Entry) : x.beq x = true := (Entry.beq_iff x x).2 rfl

structure Last where
  name : ByteArray
  length : Int
  ball : Int
  instep : Int
  heel : Int
  pitch : Int
def Last.cells (x : Last) : List Value := [.string x.name, .int .i64 x.length, .int .i64 x.ball, .int .i64 x.instep, .int .i64 x.heel, .int .i64 x.pitch]
def Last.val (x : Last) : Value := .agg #[.string x.name, .int .i64 x.length, .int .i64 x.ball, .int .i64 x.instep, .int .i64 x.heel, .int .i64 x.pitch]
def Last.sizes (x : Last) : List Nat := [x.name.size]
theorem Last.cells_length (x : Last) : x.cells.length = 6 := rfl
theorem Last.at_ {w : World} {A : Option Addr} {xs : List Last} {k : Nat} {x : Last} (h : Arr w A (flat Last.cells xs)) (hk : xs[k]? = some x) :
    ∃ ad, A = some ad ∧ ad.block < w.heap.size ∧ w.cell? (ad.add (k * 6)) = some (.string x.name) ∧
      w.cell? ⟨(ad.add (k * 6)).block, (ad.add (k * 6)).off + 1, none⟩ = some (.int .i64 x.length) ∧
      w.cell? ⟨(ad.add (k * 6)).block, (ad.add (k * 6)).off + 2, none⟩ = some (.int .i64 x.ball) ∧
      w.cell? ⟨(ad.add (k * 6)).block, (ad.add (k * 6)).off + 3, none⟩ = some (.int .i64 x.instep) ∧
      w.cell? ⟨(ad.add (k * 6)).block, (ad.add (k * 6)).off + 4, none⟩ = some (.int .i64 x.heel) ∧
      w.cell? ⟨(ad.add (k * 6)).block, (ad.add (k * 6)).off + 5, none⟩ = some (.int .i64 x.pitch) := by
  obtain ⟨ad, e, hb, h0, hj⟩ := h.elem Last.cells_length hk (by omega)
  exact ⟨ad, e, hb, h0, hj 1 (by omega) (by omega), hj 2 (by omega) (by omega), hj 3 (by omega) (by omega), hj 4 (by omega) (by omega), hj 5 (by omega) (by omega)⟩
def Last.beq (x y : Last) : Bool := decide (x.name = y.name) && decide (x.length = y.length) && decide (x.ball = y.ball) && decide (x.instep = y.instep) && decide (x.heel = y.heel) && decide (x.pitch = y.pitch)
theorem Last.beq_iff (x y : Last) : x.beq y = true ↔ x = y := by
  cases x; cases y; simp [Last.beq, and_assoc]
theorem Last.beq_self (x : Last) : x.beq x = true := (Last.beq_iff x x).2 rfl

set_option maxHeartbeats 400000 in
theorem szLast_c (x : Last) (left : Int) (hs0 : x.name.size ≤ 9223372036854775807) (h0 : 0 ≤ left) (h1 : left ≤ 1048576) (w : World) :
    Calls Tryz.prog 50 #[.agg #[.string x.name, .int .i64 x.length, .int .i64 x.ball, .int .i64 x.instep, .int .i64 x.heel, .int .i64 x.pitch], .int .i64 left] w (Ret (.int .i64 (szGo x.sizes left)) w) := by
  go_enter Tryz.func50, Tryz.ntmps50
  go_wp2
  · go_returns
    refine Ret.mk (vi ?_) (by go_grown)
    simp only [Last.sizes, szGo]
    rw [if_pos (by omega)]
  · go_returns
    refine Ret.mk (vi ?_) (by go_grown)
    simp only [Last.sizes, szGo]
    rw [if_neg (by omega)]

set_option maxHeartbeats 400000 in
theorem szLastS_c (A : Option Addr) (xs : List Last) (n c : Nat) (left : Int) (hn : Hid (xs.length = n)) (hm : n ≤ 9223372036854775807) (hs : Hid (∀ x ∈ xs, x.name.size ≤ 9223372036854775807))
    (h0 : 0 ≤ left) (h1 : left ≤ 1048576) (w : World) (hA : Arr w A (flat Last.cells xs)) :
    Calls Tryz.prog 23 #[.slice A n c, .int .i64 left] w (Ret (.int .i64 (szS Last.sizes xs left)) w) := by
  go_enter Tryz.func23, Tryz.ntmps23
  go_wp2_with fail
  · go_returns
    refine Ret.mk (vi ?_) (by go_grown)
    rw [szS, hn.out]
    exact (szGo_cons_lo (by assumption)).symm
  have hR := Lib.hid (show szS Last.sizes xs left = szGo ((xs.drop 0).flatMap Last.sizes) (left - n) by rw [szS, hn.out, szGo_cons_hi (by assumption)]; rfl)
  go_loopw [1, 5] (fun l i wr => ∃ k : Nat, ∃ lf : Int, k ≤ n ∧ i = .int .i64 k ∧ l = .int .i64 lf ∧ 0 ≤ lf ∧ lf ≤ 1048576 ∧ Hid (szS Last.sizes xs left = szGo ((xs.drop k).flatMap Last.sizes) lf) ∧ Below w.heap.size w wr) (fun _ i _ => n - (intOf i).toNat)
  case atStart => exact ⟨0, _, by omega, rfl, rfl, by omega, by omega, hR, Below.refl _ _⟩
  case round =>
    clear hR
    obtain ⟨k, lf, hk, rfl, rfl, hl0, hl1, hR, hbel⟩ := hrel
    by_cases hlt : k < n
    · obtain ⟨x, hx⟩ := get_of_lt (xs := xs) (k := k) (by rw [hn.out]; exact hlt)
      obtain ⟨ad, rfl, hab, c0, c1, c2, c3, c4, c5⟩ := Last.at_ (hA.below hbel) hx
      have hR2 := Lib.hid (hR.out.trans (by rw [drop_at hx, List.flatMap_cons] : _ = szGo (x.sizes ++ (xs.drop (k + 1)).flatMap Last.sizes) lf))
      have hx0 := hs.out x (List.mem_of_getElem? hx)
      clear hR hx
      go_wp2_with fail
      refine (szLast_c x lf hx0 hl0 hl1 _).mono ?_
      rintro e w1 ⟨rfl, hb1⟩
      have hle := szGo_le x.sizes lf hl0
      by_cases hneg : szGo x.sizes lf < 0
      · go_wp2_with fail
        go_returns
        refine Ret.mk (vi ?_) (bl_trans hbel hb1)
        rw [hR2.out, szGo_append_lo _ _ _ hl0 hneg]
      · go_wp2_with fail
        go_roundw
        case rel =>
          refine ⟨k + 1, szGo x.sizes lf, by omega, by go_num, rfl, by omega, by omega, ?_, bl_trans hbel hb1⟩
          exact Lib.hid (hR2.out.trans (szGo_append _ _ _ (by omega)))
        case measure => simp [intOf]; omega
    · have hR2 := Lib.hid (hR.out.trans (by rw [List.drop_eq_nil_of_le (by rw [hn.out]; omega)]; rfl : _ = lf))
      clear hR
      go_wp2_with fail
      go_returns
      refine Ret.mk (vi ?_) hbel
      rw [hR2.out]

set_option maxHeartbeats 400000 in
theorem toLast_c (x : Last) (w : World) :
    Calls Tryz.prog 54 #[.agg #[.string x.name, .int .i64 x.length, .int .i64 x.ball, .int .i64 x.instep, .int .i64 x.heel, .int .i64 x.pitch]] w (Ret (.agg #[.string x.name, .int .i64 x.length, .int .i64 x.ball, .int .i64 x.instep, .int .i64 x.heel, .int .i64 x.pitch]) w) := by
  go_enter Tryz.func54, Tryz.ntmps54
  go_wp2
  go_returns
  exact Ret.mk rfl (by go_grown)

theorem info_Last : (Tryz.prog.info? 93).map (fun i => (i.zero, i.size, i.bytes)) = some (some (.agg #[.string ByteArray.empty, .int .i64 0, .int .i64 0, .int .i64 0, .int .i64 0, .int .i64 0]), 6, 56) := by kernel_rfl

set_option maxHeartbeats 800000 in
theorem toLastS_c (A : Option Addr) (xs : List Last) (n c : Nat) (hn : Hid (xs.length = n)) (hm : (n : Int) ≤ 1048576) (w : World) (hA : Arr w A (flat Last.cells xs)) :
    Calls Tryz.prog 27 #[.slice A n c] w (OutS 93 6 n (flat Last.cells xs) w) := by
  obtain ⟨i0, hi0, hz0, hz1, hz2⟩ := info_parts (P := Tryz.prog) (e := 93) (z := .agg #[.string ByteArray.empty, .int .i64 0, .int .i64 0, .int .i64 0, .int .i64 0, .int .i64 0]) (size := 6) (bytes := 56) info_Last
  go_enter Tryz.func27, Tryz.ntmps27
  go_wp2_with (at_make; refine wpList_make_full _ rfl _ _ 32 rfl w.heap.size 93 i0 _ 6 Tryz.underlying32 hi0 hz0 hz1 _ _ _ _ n rfl rfl rfl rfl (by rw [hz2]; omega) (by unfold maxLen; omega) (Nat.le_refl _) ?_; intro w1 hown hg1)
  have hL := hown.1
  generalize (madeCells (Value.agg #[Value.string ByteArray.empty, Value.int IntKind.i64 0, Value.int IntKind.i64 0, Value.int IntKind.i64 0, Value.int IntKind.i64 0, Value.int IntKind.i64 0]).cells (n * 6)).toList = L at hown hL
  obtain ⟨g, hg⟩ : ∃ g, g = w.heap.size := ⟨_, rfl⟩
  have hbel0 : Below w.heap.size w w1 := bl_grown (Below.refl _ _) hg1 (by simp)
  rw [← hg] at hown ⊢
  have hgB : w.heap.size ≤ g := by omega
  have HG := Lib.hid hg
  clear hg
  have HL := Lib.hid hL
  clear hL
  go_loopw [4] (fun i wr => ∃ k : Nat, k ≤ n ∧ i = .int .i64 k ∧ wr.ownsRow g 93 6 (.slice (some ⟨g, 0, none⟩) n n) n (flat Last.cells (xs.take k) ++ L.drop (k * 6)) ∧ Below w.heap.size w wr) (fun i _ => n - (intOf i).toNat)
  case atStart => exact ⟨0, by omega, rfl, by simpa [flat] using hown, hbel0⟩
  case round =>
    clear hown hg1 hbel0
    obtain ⟨k, hk, rfl, hown, hbel⟩ := hrel
    by_cases hlt : k < n
    · obtain ⟨x, hx⟩ := get_of_lt (xs := xs) (k := k) (by rw [hn.out]; exact hlt)
      obtain ⟨ad, rfl, hab, c0, c1, c2, c3, c4, c5⟩ := Last.at_ (hA.below hbel) hx
      have HX := Lib.hid hx
      clear hx
      go_wp2_with fail
      refine (toLast_c x _).mono ?_
      rintro e w2 ⟨rfl, hb1⟩
      have hown2 := own_below hown hb1
      have hlen := hown2.1
      obtain ⟨u0', d0⟩ := own_cell hown2 (j := k * 6) (by omega)
      obtain ⟨u1', d1⟩ := own_cell hown2 (j := k * 6 + 1) (by omega)
      obtain ⟨u2', d2⟩ := own_cell hown2 (j := k * 6 + 2) (by omega)
      obtain ⟨u3', d3⟩ := own_cell hown2 (j := k * 6 + 3) (by omega)
      obtain ⟨u4', d4⟩ := own_cell hown2 (j := k * 6 + 4) (by omega)
      obtain ⟨u5', d5⟩ := own_cell hown2 (j := k * 6 + 5) (by omega)
      have f0 := hown2.frozenAt (k * 6)
      have f1 := hown2.frozenAt (k * 6 + 1)
      have f2 := hown2.frozenAt (k * 6 + 2)
      have f3 := hown2.frozenAt (k * 6 + 3)
      have f4 := hown2.frozenAt (k * 6 + 4)
      have f5 := hown2.frozenAt (k * 6 + 5)
      clear hlen
      go_wp2_with fail
      refine ⟨⟨k + 1, by omega, by go_num, ?_, ?_⟩, by simp [intOf]; omega⟩
      · have h3 := ((((((hown2.stored (k * 6) (.string x.name)).1.stored (k * 6 + 1) (.int .i64 x.length)).1.stored (k * 6 + 2) (.int .i64 x.ball)).1.stored (k * 6 + 3) (.int .i64 x.instep)).1.stored (k * 6 + 4) (.int .i64 x.heel)).1.stored (k * 6 + 5) (.int .i64 x.pitch)).1
        rw [← flat_step Last.cells_length HX.out hn.out L HL.out]
        exact h3
      · refine bl_set (bl_set (bl_set (bl_set (bl_set (bl_set (bl_trans hbel hb1) ?_ _) ?_ _) ?_ _) ?_ _) ?_ _) ?_ _ <;> exact hgB
    · have hkn : k = n := by omega
      go_wp2_with fail
      go_returns
      subst hkn
      rw [flat_end hn.out L HL.out] at hown
      exact ⟨g, rfl, by rw [← HG.out]; exact hown, hbel⟩

set_option maxHeartbeats 400000 in
theorem eqLast_c (x y : Last) (w : World) :
    Calls Tryz.prog 59 #[.agg #[.string x.name, .int .i64 x.length, .int .i64 x.ball, .int .i64 x.instep, .int .i64 x.heel, .int .i64 x.pitch], .agg #[.string y.name, .int .i64 y.length, .int .i64 y.ball, .int .i64 y.instep, .int .i64 y.heel, .int .i64 y.pitch]] w (Ret (.bool (x.beq y)) w) := by
  go_enter Tryz.func59, Tryz.ntmps59
  go_wp2
  all_goals
    go_returns
    refine Ret.mk (vb ?_) (by go_grown)
    simp_all [Last.beq, bytes_eq_iff]

set_option maxRecDepth 100000 in
set_option maxHeartbeats 800000 in
theorem eqLastS_c (A B : Option Addr) (xs ys : List Last) (n m c d : Nat) (hn : Hid (xs.length = n)) (hm : Hid (ys.length = m)) (hz : (n : Int) ≤ 1048576) (w : World) (hA : Arr w A (flat Last.cells xs)) (hB : Arr w B (flat Last.cells ys)) :
    Calls Tryz.prog 33 #[.slice A n c, .slice B m d] w (Ret (.bool (listBeq Last.beq xs ys)) w) := by
  by_cases hnm : n = m
  case neg =>
    have hne : ((n : Int) != (m : Int)) = true := by rw [bne_iff_ne]; omega
    go_enter Tryz.func33, Tryz.ntmps33
    go_wp2
    go_returns
    refine Ret.mk (vb ?_) (by go_grown)
    rw [listBeq_len _ _ _ (by rw [hn.out, hm.out]; exact hnm)]
  subst hnm
  have hne : ((n : Int) != (n : Int)) = false := by simp
  go_enter Tryz.func33, Tryz.ntmps33
  go_wp2_with fail
  have hR := Lib.hid (show listBeq Last.beq xs ys = listBeq Last.beq (xs.drop 0) (ys.drop 0) from rfl)
  go_loopw [5] (fun i wr => ∃ k : Nat, k ≤ n ∧ i = .int .i64 k ∧ Hid (listBeq Last.beq xs ys = listBeq Last.beq (xs.drop k) (ys.drop k)) ∧ Below w.heap.size w wr) (fun i _ => n - (intOf i).toNat)
  case atStart => exact ⟨0, by omega, rfl, hR, Below.refl _ _⟩
  case round =>
    clear hR
    obtain ⟨k, hk, rfl, hR, hbel⟩ := hrel
    by_cases hlt : k < n
    · obtain ⟨x, hx⟩ := get_of_lt (xs := xs) (k := k) (by rw [hn.out]; exact hlt)
      obtain ⟨y, hy⟩ := get_of_lt (xs := ys) (k := k) (by rw [hm.out]; exact hlt)
      obtain ⟨ad, rfl, hab, c0, c1, c2, c3, c4, c5⟩ := Last.at_ (hA.below hbel) hx
      obtain ⟨bd, rfl, hbb, d0, d1, d2, d3, d4, d5⟩ := Last.at_ (hB.below hbel) hy
      have hR2 := Lib.hid (hR.out.trans (by rw [drop_at hx, drop_at hy]; rfl : _ = (x.beq y && listBeq Last.beq (xs.drop (k + 1)) (ys.drop (k + 1)))))
      clear hR hx hy
      go_wp2_with fail
      go_still_tail 8, (by kernel_rfl)
      go_wp2_with fail
      refine (eqLast_c x y _).mono ?_
      rintro e w1 ⟨rfl, hb1'⟩
      have hb1 : Below wr.heap.size wr w1 := bl_transd (Below.refl _ _) hb1'
      cases hq : x.beq y
      · have HQ := Lib.hid hq
        clear hq
        go_wp2_with fail
        go_returns
        refine Ret.mk (vb ?_) (bl_trans hbel hb1)
        rw [hR2.out, HQ.out]; rfl
      · have HQ := Lib.hid hq
        clear hq
        go_wp2_with fail
        go_roundw
        case rel => exact ⟨k + 1, by omega, by go_num, Lib.hid (hR2.out.trans (by rw [HQ.out]; rfl)), bl_trans hbel hb1⟩
        case measure => simp [intOf]; omega
    · have hR2 := Lib.hid (hR.out.trans (by rw [List.drop_eq_nil_of_le (by rw [hn.out]; omega), List.drop_eq_nil_of_le (by rw [hm.out]; omega)]; rfl : _ = true))
      clear hR
      go_wp2_with fail
      go_returns
      refine Ret.mk (vb ?_) hbel
      rw [hR2.out]

structure Foot where
  length : Int
  ball : Int
  instep : Int
  heel : Int
def Foot.cells (x : Foot) : List Value := [.int .i64 x.length, .int .i64 x.ball, .int .i64 x.instep, .int .i64 x.heel]
def Foot.val (x : Foot) : Value := .agg #[.int .i64 x.length, .int .i64 x.ball, .int .i64 x.instep, .int .i64 x.heel]
def Foot.sizes (_ : Foot) : List Nat := []
theorem Foot.cells_length (x : Foot) : x.cells.length = 4 := rfl
theorem Foot.at_ {w : World} {A : Option Addr} {xs : List Foot} {k : Nat} {x : Foot} (h : Arr w A (flat Foot.cells xs)) (hk : xs[k]? = some x) :
    ∃ ad, A = some ad ∧ ad.block < w.heap.size ∧ w.cell? (ad.add (k * 4)) = some (.int .i64 x.length) ∧
      w.cell? ⟨(ad.add (k * 4)).block, (ad.add (k * 4)).off + 1, none⟩ = some (.int .i64 x.ball) ∧
      w.cell? ⟨(ad.add (k * 4)).block, (ad.add (k * 4)).off + 2, none⟩ = some (.int .i64 x.instep) ∧
      w.cell? ⟨(ad.add (k * 4)).block, (ad.add (k * 4)).off + 3, none⟩ = some (.int .i64 x.heel) := by
  obtain ⟨ad, e, hb, h0, hj⟩ := h.elem Foot.cells_length hk (by omega)
  exact ⟨ad, e, hb, h0, hj 1 (by omega) (by omega), hj 2 (by omega) (by omega), hj 3 (by omega) (by omega)⟩
def Foot.beq (x y : Foot) : Bool := decide (x.length = y.length) && decide (x.ball = y.ball) && decide (x.instep = y.instep) && decide (x.heel = y.heel)
theorem Foot.beq_iff (x y : Foot) : x.beq y = true ↔ x = y := by
  cases x; cases y; simp [Foot.beq, and_assoc]
theorem Foot.beq_self (x : Foot) : x.beq x = true := (Foot.beq_iff x x).2 rfl

set_option maxHeartbeats 400000 in
theorem toFoot_c (x : Foot) (w : World) :
    Calls Tryz.prog 26 #[.agg #[.int .i64 x.length, .int .i64 x.ball, .int .i64 x.instep, .int .i64 x.heel]] w (Ret (.agg #[.int .i64 x.length, .int .i64 x.ball, .int .i64 x.instep, .int .i64 x.heel]) w) := by
  go_enter Tryz.func26, Tryz.ntmps26
  go_wp2
  go_returns
  exact Ret.mk rfl (by go_grown)

set_option maxHeartbeats 400000 in
theorem eqFoot_c (x y : Foot) (w : World) :
    Calls Tryz.prog 32 #[.agg #[.int .i64 x.length, .int .i64 x.ball, .int .i64 x.instep, .int .i64 x.heel], .agg #[.int .i64 y.length, .int .i64 y.ball, .int .i64 y.instep, .int .i64 y.heel]] w (Ret (.bool (x.beq y)) w) := by
  go_enter Tryz.func32, Tryz.ntmps32
  go_wp2
  all_goals
    go_returns
    refine Ret.mk (vb ?_) (by go_grown)
    simp_all [Foot.beq]

structure Style where
  upper : ByteArray
  color : ByteArray
  lining : ByteArray
  sole : ByteArray
  thick : Int
  heel : Int
  eyelets : Int
  density : Int
  double : Bool
def Style.cells (x : Style) : List Value := [.string x.upper, .string x.color, .string x.lining, .string x.sole, .int .i64 x.thick, .int .i64 x.heel, .int .i64 x.eyelets, .int .i64 x.density, .bool x.double]
def Style.val (x : Style) : Value := .agg #[.string x.upper, .string x.color, .string x.lining, .string x.sole, .int .i64 x.thick, .int .i64 x.heel, .int .i64 x.eyelets, .int .i64 x.density, .bool x.double]
def Style.sizes (x : Style) : List Nat := [x.upper.size, x.color.size, x.lining.size, x.sole.size]
theorem Style.cells_length (x : Style) : x.cells.length = 9 := rfl
theorem Style.at_ {w : World} {A : Option Addr} {xs : List Style} {k : Nat} {x : Style} (h : Arr w A (flat Style.cells xs)) (hk : xs[k]? = some x) :
    ∃ ad, A = some ad ∧ ad.block < w.heap.size ∧ w.cell? (ad.add (k * 9)) = some (.string x.upper) ∧
      w.cell? ⟨(ad.add (k * 9)).block, (ad.add (k * 9)).off + 1, none⟩ = some (.string x.color) ∧
      w.cell? ⟨(ad.add (k * 9)).block, (ad.add (k * 9)).off + 2, none⟩ = some (.string x.lining) ∧
      w.cell? ⟨(ad.add (k * 9)).block, (ad.add (k * 9)).off + 3, none⟩ = some (.string x.sole) ∧
      w.cell? ⟨(ad.add (k * 9)).block, (ad.add (k * 9)).off + 4, none⟩ = some (.int .i64 x.thick) ∧
      w.cell? ⟨(ad.add (k * 9)).block, (ad.add (k * 9)).off + 5, none⟩ = some (.int .i64 x.heel) ∧
      w.cell? ⟨(ad.add (k * 9)).block, (ad.add (k * 9)).off + 6, none⟩ = some (.int .i64 x.eyelets) ∧
      w.cell? ⟨(ad.add (k * 9)).block, (ad.add (k * 9)).off + 7, none⟩ = some (.int .i64 x.density) ∧
      w.cell? ⟨(ad.add (k * 9)).block, (ad.add (k * 9)).off + 8, none⟩ = some (.bool x.double) := by
  obtain ⟨ad, e, hb, h0, hj⟩ := h.elem Style.cells_length hk (by omega)
  exact ⟨ad, e, hb, h0, hj 1 (by omega) (by omega), hj 2 (by omega) (by omega), hj 3 (by omega) (by omega), hj 4 (by omega) (by omega), hj 5 (by omega) (by omega), hj 6 (by omega) (by omega), hj 7 (by omega) (by omega), hj 8 (by omega) (by omega)⟩
def Style.beq (x y : Style) : Bool := decide (x.upper = y.upper) && decide (x.color = y.color) && decide (x.lining = y.lining) && decide (x.sole = y.sole) && decide (x.thick = y.thick) && decide (x.heel = y.heel) && decide (x.eyelets = y.eyelets) && decide (x.density = y.density) && decide (x.double = y.double)
theorem Style.beq_iff (x y : Style) : x.beq y = true ↔ x = y := by
  cases x; cases y; simp [Style.beq, and_assoc]
theorem Style.beq_self (x : Style) : x.beq x = true := (Style.beq_iff x x).2 rfl

set_option maxHeartbeats 400000 in
theorem szStyle_c (x : Style) (left : Int) (hs0 : x.upper.size ≤ 9223372036854775807) (hs1 : x.color.size ≤ 9223372036854775807) (hs2 : x.lining.size ≤ 9223372036854775807) (hs3 : x.sole.size ≤ 9223372036854775807) (h0 : 0 ≤ left) (h1 : left ≤ 1048576) (w : World) :
    Calls Tryz.prog 24 #[.agg #[.string x.upper, .string x.color, .string x.lining, .string x.sole, .int .i64 x.thick, .int .i64 x.heel, .int .i64 x.eyelets, .int .i64 x.density, .bool x.double], .int .i64 left] w (Ret (.int .i64 (szGo x.sizes left)) w) := by
  go_enter Tryz.func24, Tryz.ntmps24
  go_wp2
  · go_returns
    refine Ret.mk (vi ?_) (by go_grown)
    simp only [Style.sizes, szGo]
    rw [if_pos (by omega)]
  · go_returns
    refine Ret.mk (vi ?_) (by go_grown)
    simp only [Style.sizes, szGo]
    rw [if_neg (by omega), if_pos (by omega)]
  · go_returns
    refine Ret.mk (vi ?_) (by go_grown)
    simp only [Style.sizes, szGo]
    rw [if_neg (by omega), if_neg (by omega), if_pos (by omega)]
  · go_returns
    refine Ret.mk (vi ?_) (by go_grown)
    simp only [Style.sizes, szGo]
    rw [if_neg (by omega), if_neg (by omega), if_neg (by omega), if_pos (by omega)]
  · go_returns
    refine Ret.mk (vi ?_) (by go_grown)
    simp only [Style.sizes, szGo]
    rw [if_neg (by omega), if_neg (by omega), if_neg (by omega), if_neg (by omega)]

set_option maxHeartbeats 400000 in
theorem toStyle_c (x : Style) (w : World) :
    Calls Tryz.prog 28 #[.agg #[.string x.upper, .string x.color, .string x.lining, .string x.sole, .int .i64 x.thick, .int .i64 x.heel, .int .i64 x.eyelets, .int .i64 x.density, .bool x.double]] w (Ret (.agg #[.string x.upper, .string x.color, .string x.lining, .string x.sole, .int .i64 x.thick, .int .i64 x.heel, .int .i64 x.eyelets, .int .i64 x.density, .bool x.double]) w) := by
  go_enter Tryz.func28, Tryz.ntmps28
  go_wp2
  go_returns
  exact Ret.mk rfl (by go_grown)

set_option maxHeartbeats 400000 in
theorem eqStyle_c (x y : Style) (w : World) :
    Calls Tryz.prog 34 #[.agg #[.string x.upper, .string x.color, .string x.lining, .string x.sole, .int .i64 x.thick, .int .i64 x.heel, .int .i64 x.eyelets, .int .i64 x.density, .bool x.double], .agg #[.string y.upper, .string y.color, .string y.lining, .string y.sole, .int .i64 y.thick, .int .i64 y.heel, .int .i64 y.eyelets, .int .i64 y.density, .bool y.double]] w (Ret (.bool (x.beq y)) w) := by
  go_enter Tryz.func34, Tryz.ntmps34
  go_wp2
  all_goals
    go_returns
    refine Ret.mk (vb ?_) (by go_grown)
    simp_all [Style.beq, bytes_eq_iff]

structure Trouble where
  clause : Int
  code : Int
def Trouble.cells (x : Trouble) : List Value := [.int .i64 x.clause, .int .i64 x.code]
def Trouble.val (x : Trouble) : Value := .agg #[.int .i64 x.clause, .int .i64 x.code]
def Trouble.sizes (_ : Trouble) : List Nat := []
theorem Trouble.cells_length (x : Trouble) : x.cells.length = 2 := rfl
theorem Trouble.at_ {w : World} {A : Option Addr} {xs : List Trouble} {k : Nat} {x : Trouble} (h : Arr w A (flat Trouble.cells xs)) (hk : xs[k]? = some x) :
    ∃ ad, A = some ad ∧ ad.block < w.heap.size ∧ w.cell? (ad.add (k * 2)) = some (.int .i64 x.clause) ∧
      w.cell? ⟨(ad.add (k * 2)).block, (ad.add (k * 2)).off + 1, none⟩ = some (.int .i64 x.code) := by
  obtain ⟨ad, e, hb, h0, hj⟩ := h.elem Trouble.cells_length hk (by omega)
  exact ⟨ad, e, hb, h0, hj 1 (by omega) (by omega)⟩
def Trouble.beq (x y : Trouble) : Bool := decide (x.clause = y.clause) && decide (x.code = y.code)
theorem Trouble.beq_iff (x y : Trouble) : x.beq y = true ↔ x = y := by
  cases x; cases y; simp [Trouble.beq]
theorem Trouble.beq_self (x : Trouble) : x.beq x = true := (Trouble.beq_iff x x).2 rfl

end Go.Proofs.YtihgjmhhpiobbaaGreatDoor
