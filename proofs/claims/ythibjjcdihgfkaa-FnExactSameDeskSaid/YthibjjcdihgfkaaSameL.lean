/- SameLasts: slices.Equal over lasts, and the reference's loop; '==' of feet and of styles. -/
import Derived.Test.YthibjjcdihgfkaaNeq
import Derived.Test.YthibjjcdihgfkaaOwn
namespace Go.Proofs.Ythibjjcdihgfkaa
open Go.RowKit

set_option maxRecDepth 100000 in
set_option maxHeartbeats 1000000 in
theorem Last.run_neq (x y : Last) (w : World) : (binOp .neq 88 (.agg #[.string x.name, .int .i64 x.length, .int .i64 x.ball, .int .i64 x.instep, .int .i64 x.heel, .int .i64 x.pitch]) (.agg #[.string y.name, .int .i64 y.length, .int .i64 y.ball, .int .i64 y.instep, .int .i64 y.heel, .int .i64 y.pitch])).run Try.prog w = .ok (.bool (!(x.beq y))) w := by
  rw [run_neq_struct, run_equalIn_struct w 9999 88 _ _ (by kernel_rfl) (by kernel_rfl)]
  rw [show (Try.prog.fieldsOf 88) = _ from by simp [Program.fieldsOf, Try.underlying88]; rfl]
  simp [go_sem, bytes_beq, Last.beq]
  repeat' split
  all_goals simp_all

set_option maxHeartbeats 400000 in
theorem equalSlLast_c (A B : Option Addr) (xs ys : List Last) (n m c d : Nat) (hn : Hid (xs.length = n)) (hm : Hid (ys.length = m)) (hz : (n : Int) ≤ 1048576) (w : World) (hA : Arr w A (flat Last.cells xs)) (hB : Arr w B (flat Last.cells ys)) :
    Calls Try.prog 48 #[.slice A n c, .slice B m d] w (Ret (.bool (listBeq Last.beq xs ys)) w) := by
  by_cases hnm : n = m
  case neg =>
    have hne : ((n : Int) != (m : Int)) = true := by rw [bne_iff_ne]; omega
    go_enter Try.func48, Try.ntmps48
    go_wp2
    go_returns
    refine Ret.mk (vb ?_) (by go_grown)
    rw [listBeq_len _ _ _ (by rw [hn.out, hm.out]; exact hnm)]
  subst hnm
  have hne : ((n : Int) != (n : Int)) = false := by simp
  go_enter Try.func48, Try.ntmps48
  go_wp2_with fail
  have hR := Lib.hid (show listBeq Last.beq xs ys = listBeq Last.beq (xs.drop 0) (ys.drop 0) from rfl)
  go_loopw [13] (fun i wr => ∃ k : Nat, k ≤ n ∧ i = .int .i64 k ∧ Hid (listBeq Last.beq xs ys = listBeq Last.beq (xs.drop k) (ys.drop k)) ∧ Below w.heap.size w wr) (fun i _ => n - (intOf i).toNat)
  case atStart => exact ⟨0, by omega, rfl, hR, Below.refl _ _⟩
  case round =>
    clear hR
    obtain ⟨k, hk, rfl, hR, hbel⟩ := hrel
    by_cases hlt : k < n
    · obtain ⟨x, hx⟩ := get_of_lt (xs := xs) (k := k) (by rw [hn.out]; exact hlt)
      obtain ⟨y, hy⟩ := get_of_lt (xs := ys) (k := k) (by rw [hm.out]; exact hlt)
      obtain ⟨ad, rfl, hab, c0, c1, c2, c3, c4, c5⟩ := Last.at_ (hA.below hbel) hx
      obtain ⟨bd, rfl, hbb, d0, d1, d2, d3, d4, d5⟩ := Last.at_ (hB.below hbel) hy
      have hR2 := Lib.hid (hR.out.trans (by rw [drop_at hx, drop_at hy]; rfl : _ = (x.beq y && listBeq Last.beq (xs.drop (k + 1)) (ys.drop (k + 1)))))
      clear hR hx hy
      have hq := Last.run_neq x y
      cases hxy : x.beq y
      · have HQ := Lib.hid hxy
        rw [hxy] at hq
        clear hxy
        go_wp2_with fail
        go_quiet (fail)
        go_wp2_with fail
        go_returns
        refine Ret.mk (vb ?_) (below_drewN hbel _)
        rw [hR2.out, HQ.out]; rfl
      · have HQ := Lib.hid hxy
        rw [hxy] at hq
        clear hxy
        go_wp2_with fail
        go_quiet (fail)
        go_wp2_with fail
        go_roundw
        case rel => exact ⟨k + 1, by omega, by go_num, Lib.hid (hR2.out.trans (by rw [HQ.out]; rfl)), below_drewN hbel _⟩
        case measure => simp [intOf]; omega
    · have hR2 := Lib.hid (hR.out.trans (by rw [List.drop_eq_nil_of_le (by rw [hn.out]; omega), List.drop_eq_nil_of_le (by rw [hm.out]; omega)]; rfl : _ = true))
      clear hR
      go_wp2_with fail
      go_returns
      refine Ret.mk (vb ?_) hbel
      rw [hR2.out]


set_option maxRecDepth 100000 in
set_option maxHeartbeats 1000000 in
theorem Foot.run_eql (x y : Foot) (w : World) : (binOp .eql 31 (.agg #[.int .i64 x.length, .int .i64 x.ball, .int .i64 x.instep, .int .i64 x.heel]) (.agg #[.int .i64 y.length, .int .i64 y.ball, .int .i64 y.instep, .int .i64 y.heel])).run Try.prog w = .ok (.bool (x.beq y)) w := by
  rw [run_eql_struct, run_equalIn_struct w 9999 31 _ _ (by kernel_rfl) (by kernel_rfl)]
  rw [show (Try.prog.fieldsOf 31) = _ from by simp [Program.fieldsOf, Try.underlying31]; rfl]
  simp [go_sem, Foot.beq]
  repeat' split
  all_goals simp_all

set_option maxRecDepth 100000 in
set_option maxHeartbeats 1000000 in
theorem Style.run_eql (x y : Style) (w : World) : (binOp .eql 33 (.agg #[.string x.upper, .string x.color, .string x.lining, .string x.sole, .int .i64 x.thick, .int .i64 x.heel, .int .i64 x.eyelets, .int .i64 x.density, .bool x.double]) (.agg #[.string y.upper, .string y.color, .string y.lining, .string y.sole, .int .i64 y.thick, .int .i64 y.heel, .int .i64 y.eyelets, .int .i64 y.density, .bool y.double])).run Try.prog w = .ok (.bool (x.beq y)) w := by
  rw [run_eql_struct, run_equalIn_struct w 9999 33 _ _ (by kernel_rfl) (by kernel_rfl)]
  rw [show (Try.prog.fieldsOf 33) = _ from by simp [Program.fieldsOf, Try.underlying33]; rfl]
  simp [go_sem, bytes_beq, Style.beq]
  repeat' split
  all_goals simp_all

set_option maxRecDepth 100000 in
set_option maxHeartbeats 1600000 in
theorem SSameLasts_c (A B : Option Addr) (xs ys : List Last) (n m c d : Nat) (hn : Hid (xs.length = n)) (hm : Hid (ys.length = m)) (hz : (n : Int) ≤ 1048576) (w : World) (hA : Arr w A (flat Last.cells xs)) (hB : Arr w B (flat Last.cells ys)) :
    Calls Try.prog 44 #[.slice A n c, .slice B m d] w (Ret (.bool (listBeq Last.beq xs ys)) w) := by
  by_cases hnm : n = m
  case neg =>
    have hne : ((n : Int) != (m : Int)) = true := by rw [bne_iff_ne]; omega
    go_enter Try.func44, Try.ntmps44
    go_wp2_with fail
    go_returns
    refine Ret.mk (vb ?_) (by go_grown)
    rw [listBeq_len _ _ _ (by rw [hn.out, hm.out]; exact hnm)]
  subst hnm
  have hne : ((n : Int) != (n : Int)) = false := by simp
  go_enter Try.func44, Try.ntmps44
  go_wp2_with fail
  have hR := Lib.hid (show listBeq Last.beq xs ys = listBeq Last.beq (xs.drop 0) (ys.drop 0) from rfl)
  go_loopw [5] (fun i wr => ∃ k : Nat, k ≤ n ∧ i = .int .i64 k ∧ Hid (listBeq Last.beq xs ys = listBeq Last.beq (xs.drop k) (ys.drop k)) ∧ Below w.heap.size w wr) (fun i _ => n - (intOf i).toNat)
  case atStart => exact ⟨0, by omega, rfl, hR, Below.refl _ _⟩
  case round =>
    clear hR
    obtain ⟨k, hk, rfl, hR, hbel⟩ := hrel
    by_cases hlt : k < n
    · obtain ⟨x, hx⟩ := get_of_lt (xs := xs) (k := k) (by rw [hn.out]; exact hlt)
      obtain ⟨y, hy⟩ := get_of_lt (xs := ys) (k := k) (by rw [hm.out]; exact hlt)
      obtain ⟨ad, rfl, hab, c0, c1, c2, c3, c4, c5⟩ := Last.at_ (hA.below hbel) hx
      obtain ⟨bd, rfl, hbb, d0, d1, d2, d3, d4, d5⟩ := Last.at_ (hB.below hbel) hy
      have hR2 := Lib.hid (hR.out.trans (by rw [drop_at hx, drop_at hy]; rfl : _ = (x.beq y && listBeq Last.beq (xs.drop (k + 1)) (ys.drop (k + 1)))))
      clear hR hx hy
      have hq := Last.run_neq x y
      cases hxy : x.beq y
      · have HQ := Lib.hid hxy
        rw [hxy] at hq
        clear hxy
        go_wp2_with fail
        go_quiet (fail)
        go_wp2_with fail
        go_returns
        refine Ret.mk (vb ?_) (below_drewN hbel _)
        rw [hR2.out, HQ.out]; rfl
      · have HQ := Lib.hid hxy
        rw [hxy] at hq
        clear hxy
        go_wp2_with fail
        go_quiet (fail)
        go_wp2_with fail
        go_roundw
        case rel => exact ⟨k + 1, by omega, by go_num, Lib.hid (hR2.out.trans (by rw [HQ.out]; rfl)), below_drewN hbel _⟩
        case measure => simp [intOf]; omega
    · have hR2 := Lib.hid (hR.out.trans (by rw [List.drop_eq_nil_of_le (by rw [hn.out]; omega), List.drop_eq_nil_of_le (by rw [hm.out]; omega)]; rfl : _ = true))
      clear hR
      go_wp2_with fail
      go_returns
      refine Ret.mk (vb ?_) hbel
      rw [hR2.out]

end Go.Proofs.Ythibjjcdihgfkaa
