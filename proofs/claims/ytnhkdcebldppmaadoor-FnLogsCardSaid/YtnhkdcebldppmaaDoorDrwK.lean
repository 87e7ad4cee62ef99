/- Drawn lists of entries. builds, given DrwJ. -/
import Derived.Test.YtnhkdcebldppmaaDoorDrwJ
import Derived.Test.YtnhkdcebldppmaaDoorLgsT
namespace Go.Proofs.YtnhkdcebldppmaaDoor
open Go.RowKit

theorem upGo_snoc : ∀ (xs : List Entry) (d : Int) (es : List Entry) (x : Entry), upGo d xs = true → lastD es = d → lastD (es ++ xs) ≤ x.day → upGo d (xs ++ [x]) = true := by
  intro xs
  induction xs with
  | nil =>
    intro d es x _ hd h
    rw [List.append_nil, hd] at h
    simp [upGo, h]
  | cons y r ih =>
    intro d es x h hd hl
    simp only [upGo, Bool.and_eq_true, decide_eq_true_eq] at h
    have h2 := ih y.day (es ++ [y]) x h.2 (lastD_snoc es y) (by rw [List.append_assoc]; simpa using hl)
    simp only [List.cons_append, upGo, h2, h.1, decide_true, Bool.and_self]
theorem upGo_up {xs : List Entry} (h : upGo 0 xs = true) : upB xs = true := by
  cases xs with
  | nil => rfl
  | cons y r =>
    simp only [upGo, Bool.and_eq_true] at h
    exact h.2
theorem info_EntryD : (Tryd.prog.info? 54).map (fun i => (i.zero, i.size, i.bytes)) = some (some (.agg #[.int .i64 0, .string ByteArray.empty, .int .i64 0]), 3, 32) := by kernel_rfl
def OutEs (g q : Nat) (w : World) (e : Ending) (w' : World) : Prop := ∃ (A : Option Addr) (xs : List Entry) (n c : Nat), e = .returned (.slice A n c) ∧ xs.length = n ∧ n ≤ 7 ∧ (∀ x ∈ xs, entB x = true) ∧ upB xs = true ∧ w'.ownsRow w.heap.size 54 3 (.slice A n c) n (flat Entry.cells xs) ∧ Src w' g (q + 200) ∧ w.grownBy w' (some g)
set_option maxRecDepth 100000 in
set_option maxHeartbeats 4000000 in
theorem l27Entries_c (g q : Nat) (hq : q ≤ 500000000000) (w : World) (hS : Src w g q) : Calls Tryd.prog 59 #[.pointer (some ⟨g, 0, none⟩), .int .i64 7] w (OutEs g q w) := by
  have HS := Lib.hid hS
  have hgw := hS.lt
  clear hS
  obtain ⟨i0, hi0, hz0, hz1, hz2⟩ := info_parts (P := Tryd.prog) (e := 54) (z := .agg #[.int .i64 0, .string ByteArray.empty, .int .i64 0]) (size := 3) (bytes := 32) info_EntryD
  go_enter Tryd.func59, Tryd.ntmps59
  go_wp2_with fail
  have hO0 := own_empty w w.heap.size 54 3 (Nat.le_refl _)
  refine (pick_c g q 8 (by omega) (by omega) _ (HS.out.below (bl_alloc (Below.refl _ _) _))).mono ?_
  rintro e W1 ⟨r, rfl, r0, r1, hS0, hg0⟩
  obtain ⟨kk, rfl⟩ := Int.eq_ofNat_of_zero_le r0
  have HO1 := Lib.hid (hO0.kept hg0 (.inr (fun e => by have := own_at hO0 g e; omega)))
  have HG1 := Lib.hid (grown_trans (grown_of_below (bl_alloc (Below.refl _ _) (.cells #[] 54)) (some g)) hg0)
  have HS1 := Lib.hid hS0
  have hs0 : w.heap.size ≤ W1.heap.size := by have := hg0.size; rw [World.size_alloc] at this; omega
  clear hO0 hS0 hg0 HS
  go_wp2_with fail
  go_loopw [5, 6, 7] (fun v dd i wr => ∃ (t j kv : Nat) (d : Int) (xs : List Entry) (A' : Option Addr) (c' : Nat), v = .slice A' j c' ∧ dd = .int .i64 d ∧ i = .int .i64 kv ∧ t + kv ≤ 7 ∧ j ≤ t ∧ 0 ≤ d ∧ d ≤ 100000 ∧ w.heap.size ≤ wr.heap.size ∧ Hid (xs.length = j) ∧ Hid (∀ x ∈ xs, entB x = true) ∧ Hid (upGo 0 xs = true) ∧ Hid (lastD xs = d) ∧ wr.ownsRow w.heap.size 54 3 (.slice A' j c') j (flat Entry.cells xs) ∧ Hid (Src wr g (q + 2 + 20 * t)) ∧ Hid (w.grownBy wr (some g))) (fun _ _ i _ => (intOf i).toNat)
  case atStart => exact ⟨0, 0, kk, 0, [], _, _, rfl, rfl, rfl, by omega, by omega, by omega, by omega, hs0, Lib.hid rfl, Lib.hid (by simp), Lib.hid rfl, Lib.hid rfl, HO1.out, HS1, HG1⟩
  case round =>
    clear HS1 HG1 HO1
    obtain ⟨t, j, kv, d, xs, A', c', rfl, rfl, rfl, htk, hjt, hd0, hd1, hsz, hxl, hxe, hup, hld, hown, hS, hg⟩ := hrel
    by_cases hk : 0 < kv
    · have hk0 : (0 : Int) < (kv : Int) := by omega
      go_wp2_with fail
      refine (l27DrawEntry_c g (q + 2 + 20 * t) d (by omega) (by omega) (by omega) _ hS.out).mono ?_
      rintro e W ⟨x, rfl, hxn, hS2, hg2⟩
      have hown1 := hown.kept hg2 (.inr (fun e => by have := own_at hown g e; omega))
      have HG2 := Lib.hid (grown_trans hg.out hg2)
      have hgW := Nat.le_trans hsz hg2.size
      have HS2 := Lib.hid hS2
      have HXN := Lib.hid hxn
      clear hxn hS2 hg2 hown
      unfold Entry.val
      go_wp2_with fail
      obtain ⟨W0, hW0⟩ : ∃ z, z = W.alloc (Obj.cells #[.int .i64 x.day, .string x.what, .int .i64 x.value] 54) := ⟨_, rfl⟩
      obtain ⟨gx, hgx⟩ : ∃ z, z = W.heap.size := ⟨_, rfl⟩
      have hb : Below W.heap.size W W0 := by rw [hW0]; exact bl_alloc (Below.refl _ _) _
      have HX : Hid (Blk W0 gx 54 #[.int .i64 x.day, .string x.what, .int .i64 x.value]) := Lib.hid (by rw [hW0, hgx]; exact Blk.new _ _ _)
      have hown2 := Lib.hid (own_below hown1 hb)
      have hfar : ∀ i, (Value.slice A' j c').ownBlock = some i → i < gx := by rw [hgx]; exact own_lt hown1
      have HFAR := Lib.hid hfar
      have HS0 := Lib.hid (HS2.out.below hb)
      have HG0 := Lib.hid (grown_below HG2.out hb)
      have hs1 := Nat.le_trans hgW hb.size
      have hgx0 : w.heap.size ≤ gx := by rw [hgx]; exact hgW
      try rw [← hW0]
      try rw [← hgx]
      clear hW0 hgx hb hown1 HS2 HG2 hfar hgW W
      refine (l27Ok_c ⟨gx, 0, none⟩ x (by have := HXN.out; omega) _ (HX.out.cell 0) (HX.out.cell 1) (HX.out.cell 2)).mono ?_
      rintro e w' ⟨rfl, hq⟩
      rw [hq]
      clear hq w'
      cases hx : entB x
      · clear hx
        go_wp2_with fail
        exact ⟨⟨t + 1, j, kv - 1, d, xs, A', c', rfl, rfl, vi (by omega), by omega, by omega, by omega, by omega, hs1, hxl, hxe, hup, hld, hown2.out, Lib.hid (HS0.out.more (by omega)), HG0⟩, by simp [intOf]; omega⟩
      have HE := Lib.hid hx
      clear hx
      obtain ⟨x0, x1⟩ : 0 ≤ x.day ∧ x.day ≤ 100000 := by have := entB_bd HE.out; omega
      have c0 : W0.cell? ⟨gx, 0, none⟩ = some (.int .i64 x.day) := HX.out.cell 0
      by_cases hday : d ≤ x.day
      case neg =>
        go_wp2_with fail
        exact ⟨⟨t + 1, j, kv - 1, d, xs, A', c', rfl, rfl, vi (by omega), by omega, by omega, by omega, by omega, hs1, hxl, hxe, hup, hld, hown2.out, Lib.hid (HS0.out.more (by omega)), HG0⟩, by simp [intOf]; omega⟩
      have hown3 := hown2.out
      go_wp2_with (first | (refine wpList_load_row rfl 54 _ rfl gx rfl 54 #[.int .i64 x.day, .string x.what, .int .i64 x.value] (0, 0) _ HX.out Tryd.underlying54 rfl (by kernel_rfl) ?_) | (at_builtin; refine app_own W0 #[.int .i64 x.day, .string x.what, .int .i64 x.value] rfl _ _ 43 54 rfl i0 _ 3 32 Tryd.underlying43 hi0 hz0 hz1 hz2 rfl (by omega) w.heap.size (.slice A' j c') j _ rfl rfl hown3 rfl (by simp [Value.oneCell']) (by unfold maxLen; omega) (by omega) (by omega) ?_; intro A2 c2 w2 hown4 hg3; have HX2 := Lib.hid (HX.out.grown hg3 (by intro e; first | exact Nat.lt_irrefl _ (HFAR.out _ e) | exact Nat.lt_irrefl _ (HFAR.out _ e.symm))); have k0 : w2.cell? ⟨gx, 0, none⟩ = some (.int .i64 x.day) := HX2.out.cell 0))
      have hr : ∀ i, (Value.slice A' j c').ownBlock = some i → w.heap.size ≤ i := own_at hown3
      have HS3 := Lib.hid (HS0.out.over hg3 (fun i e => by have := hr i e; omega))
      have HG3 := Lib.hid (grown_over HG0.out hg3 (fun i e => by have := hr i e; omega))
      have e : flat Entry.cells (xs ++ [x]) = flat Entry.cells xs ++ (#[Value.int .i64 x.day, .string x.what, .int .i64 x.value] : Array Value).toList := by simp [flat, Entry.cells]
      rw [← e] at hown4
      have hs3 := Nat.le_trans hs1 hg3.size
      refine ⟨⟨t + 1, j + 1, kv - 1, x.day, xs ++ [x], A2, c2, rfl, rfl, vi (by omega), by omega, by omega, by omega, by omega, hs3, Lib.hid (by rw [List.length_append, hxl.out]; rfl), Lib.hid ?_, Lib.hid (upGo_snoc xs 0 [] x hup.out rfl (by rw [List.nil_append, hld.out]; exact hday)), Lib.hid (lastD_snoc xs x), hown4, Lib.hid (HS3.out.more (by omega)), HG3⟩, by simp [intOf]; omega⟩
      intro y hy
      rcases List.mem_append.1 hy with hy | hy
      · exact hxe.out y hy
      · have hyx : y = x := by simpa using hy
        subst hyx
        exact HE.out
    · have hk0 : ¬ (0 : Int) < (kv : Int) := by omega
      go_wp2_with fail
      go_returns
      exact ⟨A', xs, j, c', rfl, hxl.out, by omega, hxe.out, upGo_up hup.out, hown, hS.out.more (by omega), hg.out⟩

end Go.Proofs.YtnhkdcebldppmaaDoor
