/- Soles: what the program's own functions compute. -/
import Derived.Test.YtopbiihiogbhiaaSolP
namespace Go.Proofs.Ytopbiihiogbhiaa
open Go.RowKit

/-! ### A closure asked over a slice -/
def idxGo {α : Type} (p : α → Bool) : List α → Int → Int
  | [], _ => -1
  | x :: r, i => if p x = true then i else idxGo p r (i + 1)
theorem idxGo_iff {α : Type} (p : α → Bool) : ∀ (xs : List α) (i : Int), 0 ≤ i → (0 ≤ idxGo p xs i ↔ xs.any p = true) := by
  intro xs
  induction xs with
  | nil => intro i _; simp [idxGo]
  | cons x r ih =>
    intro i hi
    by_cases hp : p x = true
    · simp only [idxGo, List.any_cons, hp, Bool.true_or, if_true]; simpa using hi
    · simp only [idxGo, List.any_cons, Bool.eq_false_iff.2 hp, Bool.false_or]; exact ih (i + 1) (by omega)
theorem idxGo_any {α : Type} (p : α → Bool) (xs : List α) (i : Int) (hi : 0 ≤ i) : decide (idxGo p xs i ≥ 0) = xs.any p := by
  rw [Bool.eq_iff_iff, decide_eq_true_eq]
  exact idxGo_iff p xs i hi

theorem thick_c (x : Stuff) (w : World) : Calls Try.prog 62 #[.agg #[.string x.name, .int .i64 x.thick, .int .i64 x.gram, .int .i64 x.stiff, .int .i64 x.price]] w (Ret (.int .i64 x.thick) w) := by
  go_enter Try.func62, Try.ntmps62
  go_wp2
  go_returns
  exact Ret.mk rfl (by go_grown)
theorem gram_c (x : Stuff) (w : World) : Calls Try.prog 65 #[.agg #[.string x.name, .int .i64 x.thick, .int .i64 x.gram, .int .i64 x.stiff, .int .i64 x.price]] w (Ret (.int .i64 x.gram) w) := by
  go_enter Try.func65, Try.ntmps65
  go_wp2
  go_returns
  exact Ret.mk rfl (by go_grown)
theorem stiff_c (x : Stuff) (w : World) : Calls Try.prog 63 #[.agg #[.string x.name, .int .i64 x.thick, .int .i64 x.gram, .int .i64 x.stiff, .int .i64 x.price]] w (Ret (.int .i64 x.stiff) w) := by
  go_enter Try.func63, Try.ntmps63
  go_wp2
  go_returns
  exact Ret.mk rfl (by go_grown)
theorem price_c (x : Stuff) (w : World) : Calls Try.prog 64 #[.agg #[.string x.name, .int .i64 x.thick, .int .i64 x.gram, .int .i64 x.stiff, .int .i64 x.price]] w (Ret (.int .i64 x.price) w) := by
  go_enter Try.func64, Try.ntmps64
  go_wp2
  go_returns
  exact Ret.mk rfl (by go_grown)

theorem vstuff1_c (o x : Stuff) (g : Nat) (w : World) (hX : Blk w g 46 #[Value.string x.name, Value.int IntKind.i64 x.thick, Value.int IntKind.i64 x.gram, Value.int IntKind.i64 x.stiff, Value.int IntKind.i64 x.price]) :
    Calls Try.prog 72 #[.agg #[.string o.name, .int .i64 o.thick, .int .i64 o.gram, .int .i64 o.stiff, .int .i64 o.price], .pointer (some ⟨g, 0, none⟩)] w (Ret (.bool (decide (o.name = x.name))) w) := by
  have hb := bytes_beq o.name x.name
  have hlt := hX.lt
  have k0 : (w.alloc (Obj.cells #[Value.string o.name, Value.int IntKind.i64 o.thick, Value.int IntKind.i64 o.gram, Value.int IntKind.i64 o.stiff, Value.int IntKind.i64 o.price] 46)).cell? ⟨g, 0, none⟩ = some (.string x.name) := (hX.alloc _).cell 0
  go_enter Try.func72, Try.ntmps72
  go_wp2
  go_returns
  exact Ret.mk rfl (by go_grown)

set_option maxRecDepth 100000 in
set_option maxHeartbeats 800000 in
theorem indexStuffs_c (A : Option Addr) (xs : List Stuff) (n c : Nat) (x : Stuff) (g : Nat) (hn : Hid (xs.length = n)) (hm : (n : Int) ≤ 1048576) (w : World) (hX : Blk w g 46 #[Value.string x.name, Value.int IntKind.i64 x.thick, Value.int IntKind.i64 x.gram, Value.int IntKind.i64 x.stiff, Value.int IntKind.i64 x.price]) (hA : Arr w A (flat Stuff.cells xs)) :
    Calls Try.prog 104 #[.slice A n c, .func (.func 72) #[] #[.pointer (some ⟨g, 0, none⟩)]] w (Ret (.int .i64 (idxGo (fun o => decide (o.name = x.name)) xs 0)) w) := by
  go_enter Try.func104, Try.ntmps104
  go_wp2_with fail
  have hR := Lib.hid (show idxGo (fun o => decide (o.name = x.name)) xs 0 = idxGo (fun o => decide (o.name = x.name)) (xs.drop 0) ((0 : Nat) : Int) from rfl)
  go_loopw [8] (fun i wr => ∃ k : Nat, k ≤ n ∧ i = .int .i64 k ∧ Hid (idxGo (fun o => decide (o.name = x.name)) xs 0 = idxGo (fun o => decide (o.name = x.name)) (xs.drop k) k) ∧ Below w.heap.size w wr) (fun i _ => n - (intOf i).toNat)
  case atStart => exact ⟨0, by omega, rfl, hR, Below.refl _ _⟩
  case round =>
    clear hR
    obtain ⟨k, hk, rfl, hR, hbel⟩ := hrel
    by_cases hlt : k < n
    · obtain ⟨y, hy⟩ := get_of_lt (xs := xs) (k := k) (by rw [hn.out]; exact hlt)
      obtain ⟨ad, rfl, hab, c0, c1, c2, c3, c4⟩ := Stuff.at_ (hA.below hbel) hy
      have hR2 := Lib.hid (hR.out.trans (by rw [drop_at hy]; rfl : _ = if (decide (y.name = x.name)) = true then (k : Int) else idxGo (fun o => decide (o.name = x.name)) (xs.drop (k + 1)) (k + 1)))
      clear hR hy
      go_wp2_with fail
      refine (vstuff1_c y x g _ (hX.below hbel)).mono ?_
      rintro e w1 ⟨rfl, hb1⟩
      cases hq : decide (y.name = x.name)
      · have HQ := Lib.hid hq
        clear hq
        go_wp2_with fail
        exact ⟨⟨k + 1, by omega, by go_num, Lib.hid (hR2.out.trans (by rw [HQ.out]; rfl)), bl_trans hbel hb1⟩, by simp [intOf]; omega⟩
      · have HQ := Lib.hid hq
        clear hq
        go_wp2_with fail
        go_returns
        refine Ret.mk (vi ?_) (bl_trans hbel hb1)
        rw [hR2.out, HQ.out]; rfl
    · have hR2 := Lib.hid (hR.out.trans (by rw [List.drop_eq_nil_of_le (by rw [hn.out]; omega)]; rfl : _ = -1))
      clear hR
      go_wp2_with fail
      go_returns
      refine Ret.mk (vi ?_) hbel
      rw [hR2.out]
theorem containsStuffs_c (A : Option Addr) (xs : List Stuff) (n c : Nat) (x : Stuff) (g : Nat) (hn : Hid (xs.length = n)) (hm : (n : Int) ≤ 1048576) (w : World) (hX : Blk w g 46 #[Value.string x.name, Value.int IntKind.i64 x.thick, Value.int IntKind.i64 x.gram, Value.int IntKind.i64 x.stiff, Value.int IntKind.i64 x.price]) (hA : Arr w A (flat Stuff.cells xs)) :
    Calls Try.prog 71 #[.slice A n c, .func (.func 72) #[] #[.pointer (some ⟨g, 0, none⟩)]] w (Ret (.bool (dupB x xs)) w) := by
  go_enter Try.func71, Try.ntmps71
  go_wp2_with fail
  refine (indexStuffs_c A xs n c x g hn hm _ hX hA).mono ?_
  rintro e w1 ⟨rfl, hb1⟩
  go_wp2_with fail
  go_returns
  exact Ret.mk (vb (idxGo_any (fun o : Stuff => decide (o.name = x.name)) xs 0 (by omega))) hb1

/-! ### Numbers out of a range -/
theorem outside1_c (k lo hi : Int) (g1 g2 : Nat) (w : World) (h1 : w.cell? ⟨g1, 0, none⟩ = some (.int .i64 lo)) (h2 : w.cell? ⟨g2, 0, none⟩ = some (.int .i64 hi)) :
    Calls Try.prog 103 #[.int .i64 k, .pointer (some ⟨g1, 0, none⟩), .pointer (some ⟨g2, 0, none⟩)] w (RetQ (.bool (!inB k lo hi)) w) := by
  go_enter Try.func103, Try.ntmps103
  go_wp2_with (go_at_call 55; refine (within_c _ _ _ _).mono ?_; rintro e w' ⟨rfl, rfl⟩)
  go_returns
  exact RetQ.mk rfl
set_option maxRecDepth 100000 in
set_option maxHeartbeats 800000 in
theorem indexOut_c (A : Option Addr) (ps : List Int) (m d : Nat) (lo hi : Int) (g1 g2 : Nat) (hn : Hid (ps.length = m)) (hm : (m : Int) ≤ 9223372036854775807) (w : World) (hl : Blk w g1 2 #[Value.int IntKind.i64 lo]) (hh : Blk w g2 2 #[Value.int IntKind.i64 hi]) (hA : Arr w A (flat icell ps)) :
    Calls Try.prog 118 #[.slice A m d, .func (.func 103) #[] #[.pointer (some ⟨g1, 0, none⟩), .pointer (some ⟨g2, 0, none⟩)]] w (RetQ (.int .i64 (idxGo (fun k => !inB k lo hi) ps 0)) w) := by
  have h1 : w.cell? ⟨g1, 0, none⟩ = some (.int .i64 lo) := hl.cell 0
  have h2 : w.cell? ⟨g2, 0, none⟩ = some (.int .i64 hi) := hh.cell 0
  go_enter Try.func118, Try.ntmps118
  go_wp2_with fail
  have hR := Lib.hid (show idxGo (fun k => !inB k lo hi) ps 0 = idxGo (fun k => !inB k lo hi) (ps.drop 0) ((0 : Nat) : Int) from rfl)
  go_loopw [8] (fun i wr => ∃ k : Nat, k ≤ m ∧ i = .int .i64 k ∧ Hid (idxGo (fun k => !inB k lo hi) ps 0 = idxGo (fun k => !inB k lo hi) (ps.drop k) k) ∧ wr = w) (fun i _ => m - (intOf i).toNat)
  case atStart => exact ⟨0, by omega, rfl, hR, rfl⟩
  case round =>
    clear hR
    obtain ⟨k, hk, rfl, hR, rfl⟩ := hrel
    by_cases hlt : k < m
    · obtain ⟨y, hy⟩ := get_of_lt (xs := ps) (k := k) (by rw [hn.out]; exact hlt)
      obtain ⟨ad, rfl, hab, c0⟩ := icell_at hA hy
      have hR2 := Lib.hid (hR.out.trans (by rw [drop_at hy]; rfl : _ = if (!inB y lo hi) = true then (k : Int) else idxGo (fun k => !inB k lo hi) (ps.drop (k + 1)) (k + 1)))
      clear hR hy
      go_wp2_with fail
      refine (outside1_c y lo hi g1 g2 _ h1 h2).mono ?_
      rintro e w1 ⟨rfl, rfl⟩
      cases hq : (!inB y lo hi)
      · have HQ := Lib.hid hq
        clear hq
        go_wp2_with fail
        exact ⟨⟨k + 1, by omega, by go_num, Lib.hid (hR2.out.trans (by rw [HQ.out]; rfl)), True.intro⟩, by simp [intOf]; omega⟩
      · have HQ := Lib.hid hq
        clear hq
        go_wp2_with fail
        go_returns
        refine RetQ.mk (vi ?_)
        rw [hR2.out, HQ.out]; rfl
    · have hR2 := Lib.hid (hR.out.trans (by rw [List.drop_eq_nil_of_le (by rw [hn.out]; omega)]; rfl : _ = -1))
      clear hR
      go_wp2_with fail
      go_returns
      refine RetQ.mk (vi ?_)
      rw [hR2.out]
theorem containsOut_c (A : Option Addr) (ps : List Int) (m d : Nat) (lo hi : Int) (g1 g2 : Nat) (hn : Hid (ps.length = m)) (hm : (m : Int) ≤ 9223372036854775807) (w : World) (hl : Blk w g1 2 #[Value.int IntKind.i64 lo]) (hh : Blk w g2 2 #[Value.int IntKind.i64 hi]) (hA : Arr w A (flat icell ps)) :
    Calls Try.prog 102 #[.slice A m d, .func (.func 103) #[] #[.pointer (some ⟨g1, 0, none⟩), .pointer (some ⟨g2, 0, none⟩)]] w (RetQ (.bool (!ps.all (fun k => inB k lo hi))) w) := by
  go_enter Try.func102, Try.ntmps102
  go_wp2_with fail
  refine (indexOut_c A ps m d lo hi g1 g2 hn hm _ hl hh hA).mono ?_
  rintro e w1 ⟨rfl, rfl⟩
  go_wp2_with fail
  go_returns
  refine RetQ.mk (vb ?_)
  have h := idxGo_any (fun k => !inB k lo hi) ps 0 (by omega)
  rw [List.all_eq_not_any_not, Bool.not_not]
  exact h
theorem outside_c (A : Option Addr) (ps : List Int) (m d : Nat) (lo hi : Int) (hn : Hid (ps.length = m)) (hm : (m : Int) ≤ 9223372036854775807) (w : World) (hA : Arr w A (flat icell ps)) :
    Calls Try.prog 69 #[.slice A m d, .int .i64 lo, .int .i64 hi] w (Ret (.bool (!ps.all (fun k => inB k lo hi))) w) := by
  have hl : Blk ((w.alloc (Obj.cells #[Value.int IntKind.i64 lo] 2)).alloc (Obj.cells #[Value.int IntKind.i64 hi] 2)) w.heap.size 2 #[Value.int IntKind.i64 lo] := (Blk.new _ _ _).alloc _
  have hh : Blk ((w.alloc (Obj.cells #[Value.int IntKind.i64 lo] 2)).alloc (Obj.cells #[Value.int IntKind.i64 hi] 2)) (w.heap.size + 1) 2 #[Value.int IntKind.i64 hi] := by
    have h := Blk.new (w.alloc (Obj.cells #[Value.int IntKind.i64 lo] 2)) 2 #[Value.int IntKind.i64 hi]
    simpa using h
  go_enter Try.func69, Try.ntmps69
  go_wp2_with fail
  refine (containsOut_c A ps m d lo hi _ _ hn hm _ hl hh ((hA.alloc _).alloc _)).mono ?_
  rintro e w1 ⟨rfl, rfl⟩
  go_wp2_with fail
  go_returns
  exact Ret.mk rfl (bl_alloc (bl_alloc (Below.refl _ _) _) _)
end Go.Proofs.Ytopbiihiogbhiaa
