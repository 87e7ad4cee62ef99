/- Bills: what the program's own functions compute. -/
import Derived.Test.YtnhkdcebldppmaaDoorBase
import Derived.Test.YtnhkdcebldppmaaDoorFam
namespace Go.Proofs.YtnhkdcebldppmaaDoor
open Go.RowKit


structure Bill where
  items : List Item
  off : Int
  tax : Int
  paid : Int
def itemOk (x : Item) : Bool := nameB x.name && inB x.many 1 1000 && inB x.cents 0 1000000
def sumGo : List Item → Int → Int
  | [], a => a
  | x :: r, a => sumGo r (a + x.many * x.cents)
def rnd (num den : Int) : Int := (2 * num + den) / (2 * den)
def netOf (s off : Int) : Int := s - rnd (s * off) 100
def taxOf (s off tax : Int) : Int := rnd (netOf s off * tax) 100
def totOf (s off tax : Int) : Int := netOf s off + taxOf s off tax
def fewOk (xs : List Item) : Prop := xs.length ≤ 20 ∧ ∀ x ∈ xs, 0 ≤ x.many ∧ x.many ≤ 1000 ∧ 0 ≤ x.cents ∧ x.cents ≤ 1000000
theorem prod_bd {a b : Int} (h : 0 ≤ a ∧ a ≤ 1000 ∧ 0 ≤ b ∧ b ≤ 1000000) : 0 ≤ a * b ∧ a * b ≤ 1000000000 := by
  obtain ⟨h1, h2, h3, h4⟩ := h
  refine ⟨Int.mul_nonneg h1 h3, ?_⟩
  calc a * b ≤ 1000 * b := Int.mul_le_mul_of_nonneg_right h2 h3
    _ ≤ 1000 * 1000000 := Int.mul_le_mul_of_nonneg_left h4 (by omega)
theorem sumGo_bd : ∀ (xs : List Item) (a : Int), 0 ≤ a → (∀ x ∈ xs, 0 ≤ x.many ∧ x.many ≤ 1000 ∧ 0 ≤ x.cents ∧ x.cents ≤ 1000000) → a ≤ sumGo xs a ∧ sumGo xs a ≤ a + xs.length * 1000000000 := by
  intro xs
  induction xs with
  | nil => intro a h _; simp [sumGo]
  | cons x r ih =>
    intro a h hx
    have h1 := prod_bd (hx x (List.mem_cons_self ..))
    have h2 := ih (a + x.many * x.cents) (by omega) (fun y hy => hx y (List.mem_cons_of_mem _ hy))
    simp only [sumGo, List.length_cons]
    omega
theorem sum_bd {xs : List Item} (h : fewOk xs) : 0 ≤ sumGo xs 0 ∧ sumGo xs 0 ≤ 20000000000 := by
  have h1 := sumGo_bd xs 0 (by omega) h.2
  have h2 := h.1
  omega
theorem mul_bd {a b n m : Int} (h1 : 0 ≤ a) (h2 : a ≤ n) (h3 : 0 ≤ b) (h4 : b ≤ m) : 0 ≤ a * b ∧ a * b ≤ n * m := by
  refine ⟨Int.mul_nonneg h1 h3, ?_⟩
  calc a * b ≤ n * b := Int.mul_le_mul_of_nonneg_right h2 h3
    _ ≤ n * m := Int.mul_le_mul_of_nonneg_left h4 (by omega)
theorem net_bd {s off : Int} (h1 : 0 ≤ s) (h2 : 0 ≤ off) (h3 : off ≤ 100) : 0 ≤ netOf s off ∧ netOf s off ≤ s := by
  have h4 := mul_bd h1 (Int.le_refl s) h2 h3
  unfold netOf rnd
  omega
theorem tax_bd {s off tax : Int} (h1 : 0 ≤ s) (h2 : 0 ≤ off) (h3 : off ≤ 100) (h4 : 0 ≤ tax) (h5 : tax ≤ 100) : 0 ≤ taxOf s off tax ∧ taxOf s off tax ≤ s := by
  have h6 := net_bd h1 h2 h3
  have h7 := mul_bd h6.1 h6.2 h4 h5
  unfold taxOf rnd
  omega

set_option maxHeartbeats 400000 in
theorem rounded_c (n : Int) (h0 : 0 ≤ n) (h1 : n ≤ 2000000000000) (w : World) : Calls Tryd.prog 77 #[.int .i64 n, .int .i64 100] w (RetQ (.int .i64 (rnd n 100)) w) := by
  go_enter Tryd.func77, Tryd.ntmps77
  go_wp2
  all_goals
    go_returns
    refine RetQ.mk (vi ?_)
    unfold rnd
    omega

set_option maxHeartbeats 800000 in
theorem sum_c (A : Option Addr) (xs : List Item) (n c : Nat) (o t p S : Int) (hn : Hid (xs.length = n)) (hx : Hid (fewOk xs)) (hS : Hid (S = sumGo xs 0)) (w : World) (hA : Arr w A (flat Item.cells xs)) :
    Calls Tryd.prog 76 #[.agg #[.slice A n c, .int .i64 o, .int .i64 t, .int .i64 p]] w (Ret (.int .i64 S) w) := by
  go_enter Tryd.func76, Tryd.ntmps76
  go_wp2_with fail
  have hR := Lib.hid (show sumGo xs 0 = sumGo (xs.drop 0) 0 from rfl)
  have hn20 : n ≤ 20 := by rw [← hn.out]; exact hx.out.1
  have hb0 : Below w.heap.size w (w.alloc (Obj.cells #[Value.slice A n c, Value.int IntKind.i64 o, Value.int IntKind.i64 t, Value.int IntKind.i64 p] 26)) := bl_alloc (Below.refl _ _) _
  go_loopw [3, 9] (fun s i wr => ∃ k : Nat, ∃ a : Int, k ≤ n ∧ i = .int .i64 k ∧ s = .int .i64 a ∧ 0 ≤ a ∧ a ≤ k * 1000000000 ∧ Hid (sumGo xs 0 = sumGo (xs.drop k) a) ∧ Below w.heap.size w wr) (fun _ i _ => n - (intOf i).toNat)
  case atStart => exact ⟨0, 0, by omega, rfl, rfl, by omega, by omega, hR, hb0⟩
  case round =>
    clear hR hb0
    obtain ⟨k, a, hk, rfl, rfl, ha0, ha1, hR, hbel⟩ := hrel
    by_cases hlt : k < n
    · obtain ⟨x, hx'⟩ := get_of_lt (xs := xs) (k := k) (by rw [hn.out]; exact hlt)
      obtain ⟨ad, rfl, hab, c0, c1, c2⟩ := Item.at_ (hA.below hbel) hx'
      have hR2 := Lib.hid (hR.out.trans (by rw [drop_at hx']; rfl : _ = sumGo (xs.drop (k + 1)) (a + x.many * x.cents)))
      obtain ⟨hp0, hp1⟩ := prod_bd (hx.out.2 x (List.mem_of_getElem? hx'))
      clear hR hx'
      go_wp2_with fail
      exact ⟨⟨k + 1, _, by omega, by go_num, rfl, by omega, by omega, hR2, bl_alloc hbel _⟩, by simp [intOf]; omega⟩
    · have hR2 := Lib.hid (hR.out.trans (by rw [List.drop_eq_nil_of_le (by rw [hn.out]; omega)]; rfl : _ = a))
      clear hR
      go_wp2_with fail
      go_returns
      exact Ret.mk (vi (hS.out.trans hR2.out).symm) hbel

set_option maxRecDepth 100000 in
set_option maxHeartbeats 1000000 in
theorem total_c (A : Option Addr) (xs : List Item) (n c : Nat) (o t p off S : Int) (hn : Hid (xs.length = n)) (hx : Hid (fewOk xs)) (hS : Hid (S = sumGo xs 0)) (ho0 : 0 ≤ off) (ho1 : off ≤ 100) (ht0 : 0 ≤ t) (ht1 : t ≤ 100) (w : World) (hA : Arr w A (flat Item.cells xs)) :
    Calls Tryd.prog 44 #[.agg #[.slice A n c, .int .i64 o, .int .i64 t, .int .i64 p], .int .i64 off] w (RetT #[.int .i64 (totOf S off t), .int .i64 (taxOf S off t)] w) := by
  obtain ⟨hs0, hs1⟩ := sum_bd hx.out
  rw [← hS.out] at hs0 hs1
  obtain ⟨hm0, hm1⟩ := mul_bd hs0 hs1 ho0 ho1
  obtain ⟨hnb0, hnb1⟩ := net_bd hs0 ho0 ho1
  obtain ⟨htb0, htb1⟩ := mul_bd hnb0 (Int.le_trans hnb1 hs1) ht0 ht1
  obtain ⟨hxb0, hxb1⟩ := tax_bd hs0 ho0 ho1 ht0 ht1
  have hm2 : S * off ≤ 2000000000000 := by omega
  have hw1 := Lib.hid (IntWalk.i64_in (S * off) (by omega))
  have hw2 := Lib.hid (show IntKind.i64.wrap (S - rnd (S * off) 100) = netOf S off from (IntWalk.i64_in _ (by unfold netOf at hnb0 hnb1; omega)))
  go_enter Tryd.func44, Tryd.ntmps44
  go_wp2_with fail
  obtain ⟨w0, hw0⟩ : ∃ w0, w0 = w.alloc (Obj.cells #[Value.slice A n c, Value.int IntKind.i64 o, Value.int IntKind.i64 t, Value.int IntKind.i64 p] 26) := ⟨_, rfl⟩
  obtain ⟨g, hg⟩ : ∃ g, g = w.heap.size := ⟨_, rfl⟩
  have hb0 : Below w.heap.size w w0 := by rw [hw0]; exact bl_alloc (Below.refl _ _) _
  have hB0 : Blk w0 g 26 #[Value.slice A n c, Value.int IntKind.i64 o, Value.int IntKind.i64 t, Value.int IntKind.i64 p] := by rw [hw0, hg]; exact Blk.new _ _ _
  rw [← hw0, ← hg]
  clear hw0
  have HG := Lib.hid hg
  clear hg
  have k0 : w0.cell? ⟨g, 0, none⟩ = some (.slice A n c) := hB0.cell 0
  have k1 : w0.cell? ⟨g, 1, none⟩ = some (.int .i64 o) := hB0.cell 1
  have k2 : w0.cell? ⟨g, 2, none⟩ = some (.int .i64 t) := hB0.cell 2
  have k3 : w0.cell? ⟨g, 3, none⟩ = some (.int .i64 p) := hB0.cell 3
  have hv1 := hw1.out
  have hv2 := hw2.out
  go_region_held3 (fun w' => Below w.heap.size w w' ∧ w'.cell? ⟨g, 0, none⟩ = some (.slice A n c) ∧ w'.cell? ⟨g, 1, none⟩ = some (.int .i64 o) ∧ w'.cell? ⟨g, 2, none⟩ = some (.int .i64 t) ∧ w'.cell? ⟨g, 3, none⟩ = some (.int .i64 p))
    (first | exact ⟨hb0.drew, k0, k1, k2, k3⟩ | (go_split_ands; exact ⟨bl_trans (by assumption) hb, bl_cell hb (by assumption), bl_cell hb (by assumption), bl_cell hb (by assumption), bl_cell hb (by assumption)⟩))
    (first | (go_at_call 76; go_split_ands; refine (sum_c A xs n c o t p S hn hx hS _ (hA.below (by assumption))).mono ?_; rintro e w' ⟨rfl, hb⟩) | (go_at_call 77; refine (rounded_c _ hm0 hm2 _).mono ?_; rintro e w' ⟨rfl, rfl⟩))
  clear hv1 hv2
  have htb2 : netOf S off * t ≤ 2000000000000 := by omega
  have hx0 : 0 ≤ taxOf S off t := hxb0
  go_wp2_with (first | (go_at_call 77; refine (rounded_c _ htb0 htb2 _).mono ?_; rintro e w' ⟨rfl, rfl⟩; rw [show rnd (netOf S off * t) 100 = taxOf S off t from rfl]))
  go_returns
  go_split_ands
  exact ⟨rfl, bl_trans (by assumption) (Below.refl _ _)⟩

set_option maxRecDepth 100000 in
set_option maxHeartbeats 1000000 in
theorem left_c (A : Option Addr) (xs : List Item) (n c : Nat) (o t p S : Int) (hn : Hid (xs.length = n)) (hx : Hid (fewOk xs)) (hS : Hid (S = sumGo xs 0)) (ho0 : 0 ≤ o) (ho1 : o ≤ 100) (ht0 : 0 ≤ t) (ht1 : t ≤ 100) (hp0 : 0 ≤ p) (hp1 : p ≤ totOf S o t) (w : World) (hA : Arr w A (flat Item.cells xs)) :
    Calls Tryd.prog 55 #[.agg #[.slice A n c, .int .i64 o, .int .i64 t, .int .i64 p]] w (Ret (.int .i64 (totOf S o t - p)) w) := by
  obtain ⟨hs0, hs1⟩ := sum_bd hx.out
  rw [← hS.out] at hs0 hs1
  obtain ⟨hnb0, hnb1⟩ := net_bd hs0 ho0 ho1
  obtain ⟨hxb0, hxb1⟩ := tax_bd hs0 ho0 ho1 ht0 ht1
  have hT0 : 0 ≤ totOf S o t := by unfold totOf; omega
  have hT1 : totOf S o t ≤ 40000000000 := by unfold totOf; omega
  go_enter Tryd.func55, Tryd.ntmps55
  go_wp2_with fail
  obtain ⟨w0, hw0⟩ : ∃ w0, w0 = w.alloc (Obj.cells #[Value.slice A n c, Value.int IntKind.i64 o, Value.int IntKind.i64 t, Value.int IntKind.i64 p] 26) := ⟨_, rfl⟩
  obtain ⟨g, hg⟩ : ∃ g, g = w.heap.size := ⟨_, rfl⟩
  have hb0 : Below w.heap.size w w0 := by rw [hw0]; exact bl_alloc (Below.refl _ _) _
  have hB0 : Blk w0 g 26 #[Value.slice A n c, Value.int IntKind.i64 o, Value.int IntKind.i64 t, Value.int IntKind.i64 p] := by rw [hw0, hg]; exact Blk.new _ _ _
  rw [← hw0, ← hg]
  clear hw0
  have HG := Lib.hid hg
  clear hg
  refine (total_c A xs n c o t p o S hn hx hS ho0 ho1 ht0 ht1 _ (hA.below hb0)).mono ?_
  rintro e w1 ⟨rfl, hb1⟩
  have k3 : w1.cell? ⟨g, 3, none⟩ = some (.int .i64 p) := (hB0.below hb1).cell 3
  go_wp2_with fail
  go_returns
  exact Ret.mk rfl (bl_trans hb0 hb1)

/-! ### A closure asked over a slice -/
def idxGo {α : Type} (p : α → Bool) : List α → Int → Int
  | [], _ => -1
  | x :: r, i => if p x = true then i else idxGo p r (i + 1)
theorem idxGo_iff {α : Type} (p : α → Bool) : ∀ (xs : List α) (i : Int), 0 ≤ i → (0 ≤ idxGo p xs i ↔ xs.any p = true) := by
  intro xs
  induction xs with
  | nil => intro i _; simp [idxGo]
  | cons x r ih =>
    intro i hi
    by_cases hp : p x = true
    · simp only [idxGo, List.any_cons, hp, Bool.true_or, if_true]; simpa using hi
    · simp only [idxGo, List.any_cons, Bool.eq_false_iff.2 hp, Bool.false_or]; exact ih (i + 1) (by omega)
theorem idxGo_any {α : Type} (p : α → Bool) (xs : List α) (i : Int) (hi : 0 ≤ i) : decide (idxGo p xs i ≥ 0) = xs.any p := by
  rw [Bool.eq_iff_iff, decide_eq_true_eq]
  exact idxGo_iff p xs i hi
theorem idxGo_lo {α : Type} (p : α → Bool) : ∀ (xs : List α) (i : Int), 0 ≤ i → -1 ≤ idxGo p xs i := by
  intro xs
  induction xs with
  | nil => intro i _; simp [idxGo]
  | cons x r ih =>
    intro i hi
    simp only [idxGo]
    split
    · omega
    · exact ih _ (by omega)

set_option maxRecDepth 100000 in
set_option maxHeartbeats 800000 in
theorem valid1_c (x : Item) (hs : x.name.size ≤ 9223372036854775807) (w : World) :
    Calls Tryd.prog 82 #[.agg #[.string x.name, .int .i64 x.many, .int .i64 x.cents]] w (Ret (.bool (!itemOk x)) w) := by
  cases h1 : nameB x.name
  · go_enter Tryd.func82, Tryd.ntmps82
    go_wp2_with (first | (go_at_call 64; refine (IsName_c _ hs _).mono ?_; rintro e w' ⟨rfl, rfl⟩) | (go_at_call 43; refine (within_c _ _ _ _).mono ?_; rintro e w' ⟨rfl, rfl⟩))
    go_returns
    exact Ret.mk (vb (by simp [itemOk, h1])) (by go_grown)
  cases h2 : inB x.many 1 1000
  · go_enter Tryd.func82, Tryd.ntmps82
    go_wp2_with (first | (go_at_call 64; refine (IsName_c _ hs _).mono ?_; rintro e w' ⟨rfl, rfl⟩) | (go_at_call 43; refine (within_c _ _ _ _).mono ?_; rintro e w' ⟨rfl, rfl⟩))
    go_returns
    exact Ret.mk (vb (by simp [itemOk, h2])) (by go_grown)
  go_enter Tryd.func82, Tryd.ntmps82
  go_wp2_with (first | (go_at_call 64; refine (IsName_c _ hs _).mono ?_; rintro e w' ⟨rfl, rfl⟩) | (go_at_call 43; refine (within_c _ _ _ _).mono ?_; rintro e w' ⟨rfl, rfl⟩))
  go_returns
  exact Ret.mk (vb (by simp [itemOk, h1, h2])) (by go_grown)

set_option maxRecDepth 100000 in
set_option maxHeartbeats 800000 in
theorem indexItems_c (A : Option Addr) (xs : List Item) (n c : Nat) (hn : Hid (xs.length = n)) (hm : (n : Int) ≤ 9223372036854775807) (hs : Hid (∀ x ∈ xs, x.name.size ≤ 9223372036854775807)) (w : World) (hA : Arr w A (flat Item.cells xs)) :
    Calls Tryd.prog 97 #[.slice A n c, .func (.func 82) #[] #[]] w (Ret (.int .i64 (idxGo (fun x => !itemOk x) xs 0)) w) := by
  go_enter Tryd.func97, Tryd.ntmps97
  go_wp2_with fail
  have hR := Lib.hid (show idxGo (fun x => !itemOk x) xs 0 = idxGo (fun x => !itemOk x) (xs.drop 0) ((0 : Nat) : Int) from rfl)
  go_loopw [8] (fun i wr => ∃ k : Nat, k ≤ n ∧ i = .int .i64 k ∧ Hid (idxGo (fun x => !itemOk x) xs 0 = idxGo (fun x => !itemOk x) (xs.drop k) k) ∧ Below w.heap.size w wr) (fun i _ => n - (intOf i).toNat)
  case atStart => exact ⟨0, by omega, rfl, hR, Below.refl _ _⟩
  case round =>
    clear hR
    obtain ⟨k, hk, rfl, hR, hbel⟩ := hrel
    by_cases hlt : k < n
    · obtain ⟨x, hx⟩ := get_of_lt (xs := xs) (k := k) (by rw [hn.out]; exact hlt)
      obtain ⟨ad, rfl, hab, c0, c1, c2⟩ := Item.at_ (hA.below hbel) hx
      have hR2 := Lib.hid (hR.out.trans (by rw [drop_at hx]; rfl : _ = if (!itemOk x) = true then (k : Int) else idxGo (fun x => !itemOk x) (xs.drop (k + 1)) (k + 1)))
      have hxs := hs.out x (List.mem_of_getElem? hx)
      clear hR hx
      go_wp2_with fail
      refine (valid1_c x hxs _).mono ?_
      rintro e w1 ⟨rfl, hb1⟩
      cases hq : (!itemOk x)
      · have HQ := Lib.hid hq
        clear hq
        go_wp2_with fail
        exact ⟨⟨k + 1, by omega, by go_num, Lib.hid (hR2.out.trans (by rw [HQ.out]; rfl)), bl_trans hbel hb1⟩, by simp [intOf]; omega⟩
      · have HQ := Lib.hid hq
        clear hq
        go_wp2_with fail
        go_returns
        refine Ret.mk (vi ?_) (bl_trans hbel hb1)
        rw [hR2.out, HQ.out]; rfl
    · have hR2 := Lib.hid (hR.out.trans (by rw [List.drop_eq_nil_of_le (by rw [hn.out]; omega)]; rfl : _ = -1))
      clear hR
      go_wp2_with fail
      go_returns
      refine Ret.mk (vi ?_) hbel
      rw [hR2.out]

set_option maxHeartbeats 400000 in
theorem containsItems_c (A : Option Addr) (xs : List Item) (n c : Nat) (hn : Hid (xs.length = n)) (hm : (n : Int) ≤ 9223372036854775807) (hs : Hid (∀ x ∈ xs, x.name.size ≤ 9223372036854775807)) (w : World) (hA : Arr w A (flat Item.cells xs)) :
    Calls Tryd.prog 81 #[.slice A n c, .func (.func 82) #[] #[]] w (Ret (.bool (!xs.all itemOk)) w) := by
  go_enter Tryd.func81, Tryd.ntmps81
  go_wp2_with fail
  refine (indexItems_c A xs n c hn hm hs _ hA).mono ?_
  rintro e w1 ⟨rfl, hb1⟩
  go_wp2_with fail
  go_returns
  refine Ret.mk (vb ?_) hb1
  have h := idxGo_any (fun x => !itemOk x) xs 0 (by omega)
  rw [List.all_eq_not_any_not, Bool.not_not]
  exact h

def billB (xs : List Item) (o t p : Int) : Bool := decide (xs.length ≤ 20) && inB o 0 100 && inB t 0 100 && xs.all itemOk && inB p 0 (totOf (sumGo xs 0) o t)
theorem few_of_all {xs : List Item} (h1 : xs.length ≤ 20) (h2 : xs.all itemOk = true) : fewOk xs := by
  refine ⟨h1, fun x hx => ?_⟩
  have h := List.all_eq_true.1 h2 x hx
  simp only [itemOk, Bool.and_eq_true, inB_iff] at h
  omega
theorem billB_few {xs : List Item} {o t p : Int} (h : billB xs o t p = true) : fewOk xs ∧ (0 ≤ o ∧ o ≤ 100) ∧ (0 ≤ t ∧ t ≤ 100) ∧ 0 ≤ p ∧ p ≤ totOf (sumGo xs 0) o t := by
  simp only [billB, Bool.and_eq_true, inB_iff, decide_eq_true_eq] at h
  exact ⟨few_of_all h.1.1.1.1 h.1.2, h.1.1.1.2, h.1.1.2, h.2⟩

set_option maxRecDepth 100000 in
set_option maxHeartbeats 1600000 in
theorem validBill_c (A : Option Addr) (xs : List Item) (n c : Nat) (o t p : Int) (hn : Hid (xs.length = n)) (hm : (n : Int) ≤ 1048576) (hs : Hid (∀ x ∈ xs, x.name.size ≤ 9223372036854775807)) (w : World) (hA : Arr w A (flat Item.cells xs)) :
    Calls Tryd.prog 53 #[.agg #[.slice A n c, .int .i64 o, .int .i64 t, .int .i64 p]] w (Ret (.bool (billB xs o t p)) w) := by
  by_cases hl : n ≤ 20
  case neg =>
    have hd : decide (20 < (n : Int)) = true := decide_eq_true (by omega)
    have hf : billB xs o t p = false := by simp only [billB, hn.out]; rw [decide_eq_false hl]; rfl
    have HF := Lib.hid hf
    clear hf
    go_enter Tryd.func53, Tryd.ntmps53
    go_wp2_with fail
    go_returns
    exact Ret.mk (vb HF.out.symm) (by go_grown)
  have hd : decide (20 < (n : Int)) = false := decide_eq_false (by omega)
  cases ho : inB o 0 100
  case false =>
    have hf : billB xs o t p = false := by simp only [billB, ho]; simp
    have HF := Lib.hid hf
    clear hf
    go_enter Tryd.func53, Tryd.ntmps53
    go_wp2_with (first | (go_at_call 43; refine (within_c _ _ _ _).mono ?_; rintro e w' ⟨rfl, rfl⟩))
    go_returns
    exact Ret.mk (vb HF.out.symm) (by go_grown)
  cases ht : inB t 0 100
  case false =>
    have hf : billB xs o t p = false := by simp only [billB, ht]; simp
    have HF := Lib.hid hf
    clear hf
    go_enter Tryd.func53, Tryd.ntmps53
    go_wp2_with (first | (go_at_call 43; refine (within_c _ _ _ _).mono ?_; rintro e w' ⟨rfl, rfl⟩))
    go_returns
    exact Ret.mk (vb HF.out.symm) (by go_grown)
  have ho' := inB_iff.1 ho
  have ht' := inB_iff.1 ht
  go_enter Tryd.func53, Tryd.ntmps53
  go_wp2_with (first | (go_at_call 43; refine (within_c _ _ _ _).mono ?_; rintro e w' ⟨rfl, rfl⟩) | fail)
  obtain ⟨w0, hw0⟩ : ∃ w0, w0 = w.alloc (Obj.cells #[Value.slice A n c, Value.int IntKind.i64 o, Value.int IntKind.i64 t, Value.int IntKind.i64 p] 26) := ⟨_, rfl⟩
  obtain ⟨g, hg⟩ : ∃ g, g = w.heap.size := ⟨_, rfl⟩
  have hb0 : Below w.heap.size w w0 := by rw [hw0]; exact bl_alloc (Below.refl _ _) _
  have hB0 : Blk w0 g 26 #[Value.slice A n c, Value.int IntKind.i64 o, Value.int IntKind.i64 t, Value.int IntKind.i64 p] := by rw [hw0, hg]; exact Blk.new _ _ _
  rw [← hw0, ← hg]
  clear hw0
  have HG := Lib.hid hg
  clear hg
  have k0 : w0.cell? ⟨g, 0, none⟩ = some (.slice A n c) := hB0.cell 0
  have k1 : w0.cell? ⟨g, 1, none⟩ = some (.int .i64 o) := hB0.cell 1
  have k2 : w0.cell? ⟨g, 2, none⟩ = some (.int .i64 t) := hB0.cell 2
  have k3 : w0.cell? ⟨g, 3, none⟩ = some (.int .i64 p) := hB0.cell 3
  refine (containsItems_c A xs n c hn (by omega) hs _ (hA.below hb0)).mono ?_
  rintro e w1 ⟨rfl, hb1⟩
  cases ha : (xs.all itemOk)
  · have hf : billB xs o t p = false := by simp only [billB, ha]; simp
    have HF := Lib.hid hf
    have HA := Lib.hid ha
    clear hf ha
    simp only [Bool.not_false]
    go_wp2_with fail
    go_returns
    exact Ret.mk (vb HF.out.symm) (bl_trans hb0 hb1)
  · have hf : billB xs o t p = inB p 0 (totOf (sumGo xs 0) o t) := by simp only [billB, ha, ho, ht, hn.out]; rw [decide_eq_true hl]; simp
    have hx := Lib.hid (few_of_all (by rw [hn.out]; exact hl) ha)
    have HF := Lib.hid hf
    have HA := Lib.hid ha
    clear hf ha
    replace k0 := bl_cell hb1 k0
    replace k1 := bl_cell hb1 k1
    replace k2 := bl_cell hb1 k2
    replace k3 := bl_cell hb1 k3
    simp only [Bool.not_true]
    go_wp2_with fail
    refine (total_c A xs n c o t p o _ hn hx (Lib.hid rfl) ho'.1 ho'.2 ht'.1 ht'.2 _ (hA.below (bl_trans hb0 hb1))).mono ?_
    rintro e w2 ⟨rfl, hb2⟩
    replace k3 := bl_cell hb2 k3
    generalize totOf (sumGo xs 0) o t = TT at HF ⊢
    generalize taxOf (sumGo xs 0) o t = TX at HF ⊢
    go_wp2_with (first | (go_at_call 43; refine (within_c _ _ _ _).mono ?_; rintro e w' ⟨rfl, rfl⟩))
    go_returns
    exact Ret.mk (vb HF.out.symm) (bl_trans hb0 (bl_trans hb1 hb2))
end Go.Proofs.YtnhkdcebldppmaaDoor
