/- Drawn orders: the lists. -/
import Derived.Test.YtggficacnmddiaaDrwQ
namespace Go.Proofs.Ytggficacnmddiaa
open Go.RowKit

theorem info_OrderD : (Try.prog.info? 38).map (fun i => (i.zero, i.size, i.bytes)) = some (some (.agg #[.int .i64 0, .string ByteArray.empty, .int .i64 0, .int .i64 0, .int .i64 0, .int .i64 0]), 6, 56) := by kernel_rfl
def OutDrawO (g q : Nat) (w : World) (e : Ending) (w' : World) : Prop := ∃ (A : Option Addr) (xs : List Order) (n c : Nat), e = .returned (.slice A n c) ∧ xs.length = n ∧ n ≤ 7 ∧ (∀ x ∈ xs, x.customer.size ≤ 100) ∧ w'.ownsRow w.heap.size 38 6 (.slice A n c) n (flat Order.cells xs) ∧ Src w' g (q + 100) ∧ w.grownBy w' (some g)
set_option maxRecDepth 100000 in
set_option maxHeartbeats 2000000 in
theorem l25Draw_c (g q : Nat) (hq : q ≤ 600000000000) (w : World) (hS : Src w g q) : Calls Try.prog 40 #[.pointer (some ⟨g, 0, none⟩)] w (OutDrawO g q w) := by
  have HS := Lib.hid hS
  have hgw := hS.lt
  clear hS
  obtain ⟨i0, hi0, hz0, hz1, hz2⟩ := info_parts (P := Try.prog) (e := 38) (z := .agg #[.int .i64 0, .string ByteArray.empty, .int .i64 0, .int .i64 0, .int .i64 0, .int .i64 0]) (size := 6) (bytes := 56) info_OrderD
  go_enter Try.func40, Try.ntmps40
  go_wp2_with fail
  have hO0 := own_empty w w.heap.size 38 6 (Nat.le_refl _)
  refine (pick_c g q 3 (by omega) (by omega) _ (HS.out.below (bl_alloc (Below.refl _ _) _))).mono ?_
  rintro e W0 ⟨idz, rfl, idz0, idz1, hS0, hg0⟩
  have HO0 := Lib.hid (hO0.kept hg0 (.inr (fun e => by have := own_at hO0 g e; omega)))
  have HG0 := Lib.hid (grown_trans (grown_of_below (bl_alloc (Below.refl _ _) (.cells #[] 38)) (some g)) hg0)
  have HS0 := Lib.hid hS0
  have hz0' : w.heap.size ≤ W0.heap.size := by have := hg0.size; rw [World.size_alloc] at this; omega
  clear hO0 hS0 hg0 HS
  go_wp2_with fail
  refine (pick_c g (q + 2) 8 (by omega) (by omega) _ HS0.out).mono ?_
  rintro e W1 ⟨r, rfl, r0, r1, hS1, hg1⟩
  obtain ⟨kk, rfl⟩ := Int.eq_ofNat_of_zero_le r0
  have HS1 := Lib.hid hS1
  have HG1 := Lib.hid (grown_trans HG0.out hg1)
  have HO1 := Lib.hid (HO0.out.kept hg1 (.inr (fun e => by have := own_at HO0.out g e; omega)))
  have hs0 := Nat.le_trans hz0' hg1.size
  clear hg1 hS1 HS0 HG0 HO0
  go_wp2_with fail
  go_loopw [3, 4, 5] (fun v d i wr => ∃ (j kv : Nat) (id : Int) (xs : List Order) (A' : Option Addr) (c' : Nat), v = .slice A' j c' ∧ d = .int .i64 id ∧ i = .int .i64 kv ∧ j + kv ≤ 7 ∧ 0 ≤ id ∧ id ≤ 10 + 10 * (j : Int) ∧ w.heap.size ≤ wr.heap.size ∧ Hid (xs.length = j) ∧ Hid (∀ x ∈ xs, x.customer.size ≤ 100) ∧ wr.ownsRow w.heap.size 38 6 (.slice A' j c') j (flat Order.cells xs) ∧ Hid (Src wr g (q + 4 + 12 * j)) ∧ Hid (w.grownBy wr (some g))) (fun _ _ i _ => (intOf i).toNat)
  case atStart => exact ⟨0, kk, 1 + idz, [], _, _, rfl, rfl, rfl, by omega, by omega, by omega, hs0, Lib.hid rfl, Lib.hid (by simp), HO1.out, HS1, HG1⟩
  case round =>
    clear HS1 HG1 HO1
    obtain ⟨j, kv, id, xs, A', c', rfl, rfl, rfl, hjk, id0, id1, hsz, hxl, hxs, hown, hS, hg⟩ := hrel
    by_cases hk : 0 < kv
    · have hk0 : (0 : Int) < (kv : Int) := by omega
      go_wp2_with fail
      refine (l25New_c g (q + 4 + 12 * j) id (by omega) _ hS.out).mono ?_
      rintro e W ⟨x, rfl, hxn, hxi, hS2, hg2⟩
      have hown1 := hown.kept hg2 (.inr (fun e => by have := own_at hown g e; omega))
      have HG2 := Lib.hid (grown_trans hg.out hg2)
      have hgW := Nat.le_trans hsz hg2.size
      have HS2 := Lib.hid hS2
      have HXN := Lib.hid hxn
      clear hxn hS2 hg2 hown hxi
      unfold Order.val
      go_wp2_with (at_builtin; refine app_own W #[.int .i64 x.id, .string x.customer, .int .i64 x.stage, .int .i64 x.due, .int .i64 x.left, .int .i64 x.fittings] rfl _ _ 24 38 rfl i0 _ 6 56 Try.underlying24 hi0 hz0 hz1 hz2 rfl (by omega) w.heap.size (.slice A' j c') j _ rfl rfl hown1 rfl (by simp [Value.oneCell']) (by unfold maxLen; omega) (by omega) (by omega) ?_; intro A2 c2 w2 hown2 hg3)
      have hr : ∀ i, (Value.slice A' j c').ownBlock = some i → w.heap.size ≤ i := own_at hown1
      have HS3 := Lib.hid (HS2.out.over hg3 (fun i e => by have := hr i e; omega))
      have HG3 := Lib.hid (grown_over HG2.out hg3 (fun i e => by have := hr i e; omega))
      have e : flat Order.cells (xs ++ [x]) = flat Order.cells xs ++ #[Value.int .i64 x.id, .string x.customer, .int .i64 x.stage, .int .i64 x.due, .int .i64 x.left, .int .i64 x.fittings].toList := by simp [flat, Order.cells]
      rw [← e] at hown2
      have hs3 := Nat.le_trans hgW hg3.size
      clear hown1 hg3 HS2 HG2 e hr
      refine (pick_c g _ 3 (by omega) (by omega) _ HS3.out).mono ?_
      rintro e W4 ⟨p, rfl, p0, p1, hS4, hg4⟩
      have HS4 := Lib.hid hS4
      have HO4 := Lib.hid (hown2.kept hg4 (.inr (fun e => by have := own_at hown2 g e; omega)))
      have HG4 := Lib.hid (grown_trans HG3.out hg4)
      have hs4 := Nat.le_trans hs3 hg4.size
      clear hS4 hg4 hown2
      go_wp2_with fail
      refine ⟨⟨j + 1, kv - 1, id + (1 + p), xs ++ [x], A2, c2, rfl, rfl, vi (by omega), by omega, by omega, by omega, hs4, Lib.hid (by rw [List.length_append, hxl.out]; rfl), Lib.hid ?_, HO4.out, Lib.hid (HS4.out.more (by omega)), HG4⟩, by simp [intOf]; omega⟩
      intro y hy
      rcases List.mem_append.1 hy with hy | hy
      · exact hxs.out y hy
      · have hyx : y = x := by simpa using hy
        subst hyx
        exact HXN.out
    · have hk0 : ¬ (0 : Int) < (kv : Int) := by omega
      go_wp2_with fail
      go_returns
      exact ⟨A', xs, j, c', rfl, hxl.out, by omega, hxs.out, hown, hS.out.more (by omega), hg.out⟩

def OutBentO (g q : Nat) (w : World) (e : Ending) (w' : World) : Prop := ∃ (A : Option Addr) (xs : List Order) (n c : Nat), e = .returned (.slice A n c) ∧ xs.length = n ∧ n ≤ 31 ∧ (∀ x ∈ xs, x.customer.size ≤ 100) ∧ w'.ownsRow w.heap.size 38 6 (.slice A n c) n (flat Order.cells xs) ∧ Src w' g (q + 500) ∧ w.grownBy w' (some g)
set_option maxRecDepth 100000 in
set_option maxHeartbeats 2000000 in
theorem l25Bent_c (g q : Nat) (hq : q ≤ 500000000000) (w : World) (hS : Src w g q) : Calls Try.prog 31 #[.pointer (some ⟨g, 0, none⟩)] w (OutBentO g q w) := by
  have HS := Lib.hid hS
  have hgw := hS.lt
  clear hS
  obtain ⟨i0, hi0, hz0, hz1, hz2⟩ := info_parts (P := Try.prog) (e := 38) (z := .agg #[.int .i64 0, .string ByteArray.empty, .int .i64 0, .int .i64 0, .int .i64 0, .int .i64 0]) (size := 6) (bytes := 56) info_OrderD
  go_enter Try.func31, Try.ntmps31
  go_wp2_with fail
  refine (l25Draw_c g q (by omega) _ HS.out).mono ?_
  rintro e W1 ⟨A, xs, n, c, rfl, hxl, hn5, hxs, hown, hS1, hg1⟩
  have HS1 := Lib.hid hS1
  have HG1 := Lib.hid hg1
  have HXL := Lib.hid hxl
  have HXS := Lib.hid hxs
  have HOWN := Lib.hid hown
  have hgW := hg1.size
  clear hS1 hg1 hxl hxs hown HS
  go_wp2_with fail
  refine (one_c g (q + 100) 24 (by omega) (by omega) _ HS1.out).mono ?_
  rintro e W2 ⟨b, rfl, hS2, hg2⟩
  have HS2 := Lib.hid hS2
  have HG2 := Lib.hid (grown_trans HG1.out hg2)
  have HOWN2 := Lib.hid (HOWN.out.kept hg2 (.inr (fun e => by have := own_at HOWN.out g e; omega)))
  have hgW2 := Nat.le_trans hgW hg2.size
  clear hS2 hg2 HS1 HG1 HOWN
  cases b
  · obtain ⟨q2, hq2⟩ : ∃ q2, q2 = q + 102 := ⟨_, rfl⟩
    rw [← hq2] at HS2
    by_cases hn0 : n = 0
    case pos =>
      subst hn0
      go_wp2_with fail
      go_returns
      exact ⟨A, xs, 0, c, rfl, HXL.out, by omega, HXS.out, HOWN2.out, HS2.out.more (by omega), HG2.out⟩
    have hn1 : (0 : Int) < (n : Int) := by omega
    have hn2 : 0 < n := by omega
    go_wp2_with fail
    refine (one_c g q2 10 (by omega) (by omega) _ HS2.out).mono ?_
    rintro e W3 ⟨b3, rfl, hS3, hg3⟩
    have HS3 := Lib.hid hS3
    have HG3 := Lib.hid (grown_trans HG2.out hg3)
    have HOWN3 := Lib.hid (HOWN2.out.kept hg3 (.inr (fun e => by have := own_at HOWN2.out g e; omega)))
    have hgW3 := Nat.le_trans hgW2 hg3.size
    clear hS3 hg3
    cases b3
    case false =>
      go_wp2_with fail
      go_returns
      exact ⟨A, xs, n, c, rfl, HXL.out, by omega, HXS.out, HOWN3.out, HS3.out.more (by omega), HG3.out⟩
    go_wp2_with fail
    refine (pick_c g (q2 + 2) (n : Int) (by omega) (by omega) _ HS3.out).mono ?_
    rintro e W4 ⟨r3, rfl, r30, r31, hS3, hg3⟩
    obtain ⟨k, rfl⟩ := Int.eq_ofNat_of_zero_le r30
    have hkn : k < n := by omega
    have HS4 := Lib.hid hS3
    have HG4 := Lib.hid (grown_trans HG3.out hg3)
    have HOWN4 := Lib.hid (HOWN3.out.kept hg3 (.inr (fun e => by have := own_at HOWN3.out g e; omega)))
    have hgW4 := Nat.le_trans hgW3 hg3.size
    have hkn1 : (k : Int) < (n : Int) := by omega
    have hkn0 : (0 : Int) ≤ (k : Int) := by omega
    clear hS3 hg3 r31
    obtain ⟨gO, rfl⟩ := own_addr HOWN4.out (by omega)
    obtain ⟨x, hx⟩ := get_of_lt (xs := xs) (k := k) (by rw [HXL.out]; exact hkn)
    have HX := Lib.hid hx
    have hxs' := HXS.out x (List.mem_of_getElem? hx)
    clear hx
    go_wp2_with fail
    have hgO := own_at HOWN4.out gO rfl
    refine (l25Spoil_c g (q2 + 4) gO w.heap.size n c k xs x (by omega) w _ HS4.out HOWN4.out HX hxs' (by omega) hgO HG4.out).mono ?_
    rintro e W5 ⟨x', rfl, hx', hO5, hS5, hG5⟩
    go_wp2_with fail
    go_returns
    refine ⟨_, xs.set k x', n, c, rfl, by rw [List.length_set]; exact HXL.out, by omega, ?_, hO5, hS5.more (by omega), hG5⟩
    intro y hy
    rcases List.mem_or_eq_of_mem_set hy with hy | hy
    · exact HXS.out y hy
    · subst hy
      exact hx'
  · go_wp2_with fail
    have hO0 := own_empty W2 w.heap.size 38 6 (by omega)
    refine (pick_c g (q + 102) 2 (by omega) (by omega) _ (HS2.out.below (bl_alloc (Below.refl _ _) _))).mono ?_
    rintro e W3 ⟨r, rfl, r0, r1, hS3, hg3⟩
    obtain ⟨kk, rfl⟩ := Int.eq_ofNat_of_zero_le r0
    have HS3 := Lib.hid hS3
    have HO3 := Lib.hid (hO0.kept hg3 (.inr (fun e => by have := own_at hO0 g e; omega)))
    have HG3 := Lib.hid (grown_trans (grown_alloc HG2.out (.cells #[] 38)) hg3)
    have hs3 : w.heap.size ≤ W3.heap.size := by have := hg3.size; rw [World.size_alloc] at this; omega
    clear hS3 hO0 hg3 HS2 HG2 HOWN2 HXL HXS
    go_wp2_with fail
    go_loopw [3, 4] (fun v i wr => ∃ (j kv : Nat) (ys : List Order) (A' : Option Addr) (c' : Nat), v = .slice A' j c' ∧ i = .int .i64 kv ∧ j + kv ≤ 31 ∧ w.heap.size ≤ wr.heap.size ∧ Hid (ys.length = j) ∧ Hid (∀ x ∈ ys, x.customer.size ≤ 100) ∧ wr.ownsRow w.heap.size 38 6 (.slice A' j c') j (flat Order.cells ys) ∧ Hid (Src wr g (q + 104 + 10 * j)) ∧ Hid (w.grownBy wr (some g))) (fun _ i _ => (intOf i).toNat)
    case atStart => exact ⟨0, 30 + kk, [], _, _, rfl, by simp, by omega, hs3, Lib.hid rfl, Lib.hid (by simp), HO3.out, HS3, HG3⟩
    case round =>
      clear HS3 HO3 HG3
      obtain ⟨j, kv, xs, A, c, rfl, rfl, hjk, hsz, hxl, hxs, hown, hS, hg⟩ := hrel
      by_cases hk : 0 < kv
      · have hk0 : (0 : Int) < (kv : Int) := by omega
        go_wp2_with fail
        refine (l25New_c g (q + 104 + 10 * j) _ (by omega) _ hS.out).mono ?_
        rintro e W ⟨x, rfl, hxn, hxi, hS2, hg2⟩
        have hown1 := hown.kept hg2 (.inr (fun e => by have := own_at hown g e; omega))
        have HG2 := Lib.hid (grown_trans hg.out hg2)
        have hgW := Nat.le_trans hsz hg2.size
        have HS2 := Lib.hid hS2
        have HXN := Lib.hid hxn
        clear hxn hS2 hg2 hown hxi
        unfold Order.val
        go_wp2_with (at_builtin; refine app_own W #[.int .i64 x.id, .string x.customer, .int .i64 x.stage, .int .i64 x.due, .int .i64 x.left, .int .i64 x.fittings] rfl _ _ 24 38 rfl i0 _ 6 56 Try.underlying24 hi0 hz0 hz1 hz2 rfl (by omega) w.heap.size (.slice A j c) j _ rfl rfl hown1 rfl (by simp [Value.oneCell']) (by unfold maxLen; omega) (by omega) (by omega) ?_; intro A2 c2 w2 hown2 hg3)
        have hr : ∀ i, (Value.slice A j c).ownBlock = some i → w.heap.size ≤ i := own_at hown1
        have HS3 := Lib.hid (HS2.out.over hg3 (fun i e => by have := hr i e; omega))
        have HG3 := Lib.hid (grown_over HG2.out hg3 (fun i e => by have := hr i e; omega))
        have e : flat Order.cells (xs ++ [x]) = flat Order.cells xs ++ #[Value.int .i64 x.id, .string x.customer, .int .i64 x.stage, .int .i64 x.due, .int .i64 x.left, .int .i64 x.fittings].toList := by simp [flat, Order.cells]
        rw [← e] at hown2
        have hs3 := Nat.le_trans hgW hg3.size
        refine ⟨⟨j + 1, kv - 1, xs ++ [x], A2, c2, rfl, vi (by omega), by omega, hs3, Lib.hid (by rw [List.length_append, hxl.out]; rfl), Lib.hid ?_, hown2, Lib.hid (HS3.out.more (by omega)), HG3⟩, by simp [intOf]; omega⟩
        intro y hy
        rcases List.mem_append.1 hy with hy | hy
        · exact hxs.out y hy
        · have hyx : y = x := by simpa using hy
          subst hyx
          exact HXN.out
      · have hk0 : ¬ (0 : Int) < (kv : Int) := by omega
        obtain ⟨W2, rfl⟩ : ∃ z, z = wr := ⟨_, rfl⟩
        obtain ⟨n, rfl⟩ : ∃ z, z = j := ⟨_, rfl⟩
        have HXL := hxl
        have HXS := hxs
        have HOWN2 := Lib.hid hown
        have HG2 := hg
        have hgW2 := hsz
        have hn5 : n ≤ 31 := by omega
        obtain ⟨q2, hq2⟩ : ∃ q2, q2 = q + 104 + 10 * n := ⟨_, rfl⟩
        rw [← hq2] at hS
        have HS2 := hS
        clear hxl hxs hown hg hsz hS
        by_cases hn0 : n = 0
        case pos =>
          subst hn0
          go_wp2_with fail
          go_returns
          exact ⟨A, xs, 0, c, rfl, HXL.out, by omega, HXS.out, HOWN2.out, HS2.out.more (by omega), HG2.out⟩
        have hn1 : (0 : Int) < (n : Int) := by omega
        have hn2 : 0 < n := by omega
        go_wp2_with fail
        refine (one_c g q2 10 (by omega) (by omega) _ HS2.out).mono ?_
        rintro e W3 ⟨b3, rfl, hS3, hg3⟩
        have HS3 := Lib.hid hS3
        have HG3 := Lib.hid (grown_trans HG2.out hg3)
        have HOWN3 := Lib.hid (HOWN2.out.kept hg3 (.inr (fun e => by have := own_at HOWN2.out g e; omega)))
        have hgW3 := Nat.le_trans hgW2 hg3.size
        clear hS3 hg3
        cases b3
        case false =>
          go_wp2_with fail
          go_returns
          exact ⟨A, xs, n, c, rfl, HXL.out, by omega, HXS.out, HOWN3.out, HS3.out.more (by omega), HG3.out⟩
        go_wp2_with fail
        refine (pick_c g (q2 + 2) (n : Int) (by omega) (by omega) _ HS3.out).mono ?_
        rintro e W4 ⟨r3, rfl, r30, r31, hS3, hg3⟩
        obtain ⟨k, rfl⟩ := Int.eq_ofNat_of_zero_le r30
        have hkn : k < n := by omega
        have HS4 := Lib.hid hS3
        have HG4 := Lib.hid (grown_trans HG3.out hg3)
        have HOWN4 := Lib.hid (HOWN3.out.kept hg3 (.inr (fun e => by have := own_at HOWN3.out g e; omega)))
        have hgW4 := Nat.le_trans hgW3 hg3.size
        have hkn1 : (k : Int) < (n : Int) := by omega
        have hkn0 : (0 : Int) ≤ (k : Int) := by omega
        clear hS3 hg3 r31
        obtain ⟨gO, rfl⟩ := own_addr HOWN4.out (by omega)
        obtain ⟨x, hx⟩ := get_of_lt (xs := xs) (k := k) (by rw [HXL.out]; exact hkn)
        have HX := Lib.hid hx
        have hxs' := HXS.out x (List.mem_of_getElem? hx)
        clear hx
        go_wp2_with fail
        have hgO := own_at HOWN4.out gO rfl
        refine (l25Spoil_c g (q2 + 4) gO w.heap.size n c k xs x (by omega) w _ HS4.out HOWN4.out HX hxs' (by omega) hgO HG4.out).mono ?_
        rintro e W5 ⟨x', rfl, hx', hO5, hS5, hG5⟩
        go_wp2_with fail
        go_returns
        refine ⟨_, xs.set k x', n, c, rfl, by rw [List.length_set]; exact HXL.out, by omega, ?_, hO5, hS5.more (by omega), hG5⟩
        intro y hy
        rcases List.mem_or_eq_of_mem_set hy with hy | hy
        · exact HXS.out y hy
        · subst hy
          exact hx'
def OutDay (w : World) (e : Ending) (w' : World) : Prop := ∃ (A : Option Addr) (xs : List Order) (n c : Nat) (day : Int), e = .returned (.tuple #[.slice A n c, .int .i64 day]) ∧ xs.length = n ∧ n ≤ 31 ∧ (∀ x ∈ xs, x.customer.size ≤ 100) ∧ w'.ownsRow w.heap.size 38 6 (.slice A n c) n (flat Order.cells xs) ∧ Below w.heap.size w w'
set_option maxHeartbeats 2000000 in
theorem l25DrawDay_c (C : Option Addr) (nn cc : Nat) (cs : List UInt8) (hnn : Hid (cs.length = nn)) (hnb : nn ≤ 1048576) (w : World) (hA : Arr w C (cs.map bvS)) (hlt : ∀ ad, C = some ad → ad.block < w.heap.size) : Calls Try.prog 17 #[.slice C nn cc] w (OutDay w) := by
  have HL0 := Lib.hid hlt
  have HA0 := Lib.hid hA
  clear hlt hA
  go_enter Try.func17, Try.ntmps17
  go_wp2_with fail
  refine (l00From_c C nn cc cs hnn hnb w HA0.out HL0.out).mono ?_
  rintro e W0 ⟨rfl, hS0, hb0⟩
  have hl0 := hS0.lt
  have HS0 := Lib.hid hS0
  have HB0 := Lib.hid hb0
  clear hS0 hb0 HL0 HA0
  go_wp2_with fail
  refine (l25Bent_c w.heap.size 0 (by omega) _ HS0.out).mono ?_
  rintro e W1 ⟨A, xs, n, c, rfl, hxl, hn5, hxs, hown, hS1, hg1⟩
  have HXL := Lib.hid hxl
  have HXS := Lib.hid hxs
  have HO1 := Lib.hid (own_base hown (base' := w.heap.size + 1) (by omega))
  have HS1 := Lib.hid hS1
  have HB1 := Lib.hid (bl_grown HB0.out hg1 (fun k e => by injection e with e; omega))
  have hz1 := hg1.size
  clear hxl hxs hown hS1 hg1
  go_wp2_with fail
  refine (one_c w.heap.size 500 10 (by omega) (by omega) _ (HS1.out.more (by omega))).mono ?_
  rintro e W3 ⟨b, rfl, hS3, hg3⟩
  have HO3 := Lib.hid (HO1.out.kept hg3 (.inr (fun e => by have := own_at HO1.out w.heap.size e; omega)))
  have HS3 := Lib.hid hS3
  have HB3 := Lib.hid (bl_grown HB1.out hg3 (fun k e => by injection e with e; omega))
  have hz3 := Nat.le_trans hz1 hg3.size
  clear hS3 hg3
  cases b
  · go_wp2_with fail
    refine (pick_c w.heap.size 502 40 (by omega) (by omega) _ HS3.out).mono ?_
    rintro e W9 ⟨r9, rfl, r90, r91, hS9, hg9⟩
    go_wp2_with fail
    go_returns
    exact ⟨A, xs, n, c, _, rfl, HXL.out, hn5, HXS.out, own_base (HO3.out.kept hg9 (.inr (fun e => by have := own_at HO3.out w.heap.size e; omega))) (by omega), bl_grown HB3.out hg9 (fun k e => by injection e with e; omega)⟩
  · go_wp2_with fail
    have hA := arr_new W3 2 #[.int .i64 (-1), .int .i64 0, .int .i64 10000, .int .i64 10001]
    refine (among_c w.heap.size 502 _ [-1, 0, 10000, 10001] 4 4 (Lib.hid rfl) (by omega) (by omega) (by omega) _ (HS3.out.below (bl_alloc (Below.refl _ _) _)) hA (fun ad e => by injection e with e; subst e; simp only; omega)).mono ?_
    rintro e W4 ⟨v, hv, rfl, hS4, hg4⟩
    have HO4 := Lib.hid ((HO3.out.alloc (.cells #[.int .i64 (-1), .int .i64 0, .int .i64 10000, .int .i64 10001] 2)).kept hg4 (.inr (fun e => by have := own_at HO3.out w.heap.size e; omega)))
    have HB4 := Lib.hid (bl_grown (bl_alloc HB3.out _) hg4 (fun k e => by injection e with e; omega))
    clear hS4 hg4 hA hv
    go_wp2_with fail
    go_returns
    exact ⟨A, xs, n, c, _, rfl, HXL.out, hn5, HXS.out, own_base HO4.out (by omega), HB4.out⟩
set_option maxHeartbeats 2000000 in
theorem DrawLateOrders_c (C : Option Addr) (nn cc : Nat) (cs : List UInt8) (hnn : Hid (cs.length = nn)) (hnb : nn ≤ 1048576) (w : World) (hA : Arr w C (cs.map bvS)) (hlt : ∀ ad, C = some ad → ad.block < w.heap.size) : Calls Try.prog 8 #[.slice C nn cc] w (OutDay w) := by
  have HL0 := Lib.hid hlt
  have HA0 := Lib.hid hA
  clear hlt hA
  go_enter Try.func8, Try.ntmps8
  go_wp2_with fail
  refine (l25DrawDay_c C nn cc cs hnn hnb w HA0.out HL0.out).mono ?_
  rintro e W0 ⟨A, xs, n, c, T, rfl, h⟩
  go_wp2_with fail
  go_returns
  exact ⟨A, xs, n, c, T, rfl, h⟩
def OutProm (w : World) (e : Ending) (w' : World) : Prop := ∃ (A : Option Addr) (xs : List Order) (n c : Nat) (day days : Int), e = .returned (.tuple #[.slice A n c, .int .i64 day, .int .i64 days]) ∧ xs.length = n ∧ n ≤ 31 ∧ (∀ x ∈ xs, x.customer.size ≤ 100) ∧ w'.ownsRow w.heap.size 38 6 (.slice A n c) n (flat Order.cells xs) ∧ Below w.heap.size w w'
set_option maxHeartbeats 2000000 in
theorem DrawPromiseFor_c (C : Option Addr) (nn cc : Nat) (cs : List UInt8) (hnn : Hid (cs.length = nn)) (hnb : nn ≤ 1048576) (w : World) (hA : Arr w C (cs.map bvS)) (hlt : ∀ ad, C = some ad → ad.block < w.heap.size) : Calls Try.prog 5 #[.slice C nn cc] w (OutProm w) := by
  have HL0 := Lib.hid hlt
  have HA0 := Lib.hid hA
  clear hlt hA
  go_enter Try.func5, Try.ntmps5
  go_wp2_with fail
  refine (l25DrawDay_c C nn cc cs hnn hnb w HA0.out HL0.out).mono ?_
  rintro e W0 ⟨A, xs, n, c, T, rfl, hxl, hn5, hxs, hown, hb⟩
  have HXL := Lib.hid hxl
  have HXS := Lib.hid hxs
  have HO0 := Lib.hid hown
  have HB0 := Lib.hid hb
  have hz0 := hb.size
  clear hxl hxs hown hb
  go_wp2_with fail
  refine (l00From_c C nn cc cs hnn hnb W0 (HA0.out.below HB0.out) (fun ad e => Nat.lt_of_lt_of_le (HL0.out ad e) hz0)).mono ?_
  rintro e W1 ⟨rfl, hS1, hb1⟩
  have HS1 := Lib.hid hS1
  have HB1 := Lib.hid (bl_trans HB0.out hb1)
  have HO1 := Lib.hid (own_below HO0.out hb1)
  have hz1 := Nat.le_trans hz0 hb1.size
  have hol := own_lt HO0.out
  have HOL := Lib.hid (fun e => by have := hol W0.heap.size e; omega : (Value.slice A n c).ownBlock ≠ some W0.heap.size)
  clear hS1 hb1 HA0 HL0 HO0 HB0 hol
  go_wp2_with fail
  refine (one_c W0.heap.size 0 8 (by omega) (by omega) _ HS1.out).mono ?_
  rintro e W3 ⟨b, rfl, hS3, hg3⟩
  have HO3 := Lib.hid (HO1.out.kept hg3 (.inr HOL.out))
  have HS3 := Lib.hid hS3
  have HB3 := Lib.hid (bl_grown HB1.out hg3 (fun k e => by injection e with e; omega))
  have hz3 := Nat.le_trans hz1 hg3.size
  have hl3 := hS3.lt
  clear hS3 hg3
  cases b
  · go_wp2_with fail
    refine (pick_c W0.heap.size 2 9 (by omega) (by omega) _ HS3.out).mono ?_
    rintro e W9 ⟨r9, rfl, r90, r91, hS9, hg9⟩
    go_wp2_with fail
    go_returns
    exact ⟨A, xs, n, c, _, _, rfl, HXL.out, hn5, HXS.out, HO3.out.kept hg9 (.inr HOL.out), bl_grown HB3.out hg9 (fun k e => by injection e with e; omega)⟩
  · go_wp2_with fail
    have hA := arr_new W3 2 #[.int .i64 (-1), .int .i64 0, .int .i64 1, .int .i64 100, .int .i64 101]
    refine (among_c W0.heap.size 2 _ [-1, 0, 1, 100, 101] 5 5 (Lib.hid rfl) (by omega) (by omega) (by omega) _ (HS3.out.below (bl_alloc (Below.refl _ _) _)) hA (fun ad e => by injection e with e; subst e; simp only; omega)).mono ?_
    rintro e W4 ⟨v, hv, rfl, hS4, hg4⟩
    have HO4 := Lib.hid ((HO3.out.alloc (.cells #[.int .i64 (-1), .int .i64 0, .int .i64 1, .int .i64 100, .int .i64 101] 2)).kept hg4 (.inr HOL.out))
    have HB4 := Lib.hid (bl_grown (bl_alloc HB3.out _) hg4 (fun k e => by injection e with e; omega))
    clear hS4 hg4 hA hv
    go_wp2_with fail
    go_returns
    exact ⟨A, xs, n, c, _, _, rfl, HXL.out, hn5, HXS.out, HO4.out, HB4.out⟩

end Go.Proofs.Ytggficacnmddiaa
