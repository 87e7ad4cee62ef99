/- '!=' between two structs, as the walk asks it; slices.Equal over them. -/
import Derived.Test.YtopbiihiogbhiaaFam
namespace Go.Proofs.Ytopbiihiogbhiaa
open Go.RowKit
set_option maxRecDepth 100000 in
set_option maxHeartbeats 1000000 in
theorem Item.run_neq (x y : Item) (w : World) : (binOp .neq 94 (.agg #[.string x.name, .int .i64 x.many, .int .i64 x.cents]) (.agg #[.string y.name, .int .i64 y.many, .int .i64 y.cents])).run Try.prog w = .ok (.bool (!(x.beq y))) w := by
  rw [run_neq_struct, run_equalIn_struct w 9999 94 _ _ (by kernel_rfl) (by kernel_rfl)]
  rw [show (Try.prog.fieldsOf 94) = _ from by simp [Program.fieldsOf, Try.underlying94]; rfl]
  simp [go_sem, bytes_beq, Item.beq]
  repeat' split
  all_goals simp_all

set_option maxHeartbeats 400000 in
theorem equalSlItem_c (A B : Option Addr) (xs ys : List Item) (n m c d : Nat) (hn : Hid (xs.length = n)) (hm : Hid (ys.length = m)) (hz : (n : Int) ≤ 1048576) (w : World) (hA : Arr w A (flat Item.cells xs)) (hB : Arr w B (flat Item.cells ys)) :
    Calls Try.prog 90 #[.slice A n c, .slice B m d] w (Ret (.bool (listBeq Item.beq xs ys)) w) := by
  by_cases hnm : n = m
  case neg =>
    have hne : ((n : Int) != (m : Int)) = true := by rw [bne_iff_ne]; omega
    go_enter Try.func90, Try.ntmps90
    go_wp2
    go_returns
    refine Ret.mk (vb ?_) (by go_grown)
    rw [listBeq_len _ _ _ (by rw [hn.out, hm.out]; exact hnm)]
  subst hnm
  have hne : ((n : Int) != (n : Int)) = false := by simp
  go_enter Try.func90, Try.ntmps90
  go_wp2_with fail
  have hR := Lib.hid (show listBeq Item.beq xs ys = listBeq Item.beq (xs.drop 0) (ys.drop 0) from rfl)
  go_loopw [13] (fun i wr => ∃ k : Nat, k ≤ n ∧ i = .int .i64 k ∧ Hid (listBeq Item.beq xs ys = listBeq Item.beq (xs.drop k) (ys.drop k)) ∧ Below w.heap.size w wr) (fun i _ => n - (intOf i).toNat)
  case atStart => exact ⟨0, by omega, rfl, hR, Below.refl _ _⟩
  case round =>
    clear hR
    obtain ⟨k, hk, rfl, hR, hbel⟩ := hrel
    by_cases hlt : k < n
    · obtain ⟨x, hx⟩ := get_of_lt (xs := xs) (k := k) (by rw [hn.out]; exact hlt)
      obtain ⟨y, hy⟩ := get_of_lt (xs := ys) (k := k) (by rw [hm.out]; exact hlt)
      obtain ⟨ad, rfl, hab, c0, c1, c2⟩ := Item.at_ (hA.below hbel) hx
      obtain ⟨bd, rfl, hbb, d0, d1, d2⟩ := Item.at_ (hB.below hbel) hy
      have hR2 := Lib.hid (hR.out.trans (by rw [drop_at hx, drop_at hy]; rfl : _ = (x.beq y && listBeq Item.beq (xs.drop (k + 1)) (ys.drop (k + 1)))))
      clear hR hx hy
      have hq := Item.run_neq x y
      cases hxy : x.beq y
      · have HQ := Lib.hid hxy
        rw [hxy] at hq
        clear hxy
        go_wp2_with fail
        go_quiet (fail)
        go_wp2_with fail
        go_returns
        refine Ret.mk (vb ?_) (below_drewN hbel _)
        rw [hR2.out, HQ.out]; rfl
      · have HQ := Lib.hid hxy
        rw [hxy] at hq
        clear hxy
        go_wp2_with fail
        go_quiet (fail)
        go_wp2_with fail
        go_roundw
        case rel => exact ⟨k + 1, by omega, by go_num, Lib.hid (hR2.out.trans (by rw [HQ.out]; rfl)), below_drewN hbel _⟩
        case measure => simp [intOf]; omega
    · have hR2 := Lib.hid (hR.out.trans (by rw [List.drop_eq_nil_of_le (by rw [hn.out]; omega), List.drop_eq_nil_of_le (by rw [hm.out]; omega)]; rfl : _ = true))
      clear hR
      go_wp2_with fail
      go_returns
      refine Ret.mk (vb ?_) hbel
      rw [hR2.out]


end Go.Proofs.Ytopbiihiogbhiaa
