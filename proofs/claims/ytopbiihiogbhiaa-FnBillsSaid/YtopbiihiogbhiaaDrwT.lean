/- Drawn materials: the list. -/
import Derived.Test.YtopbiihiogbhiaaDrwS
namespace Go.Proofs.Ytopbiihiogbhiaa
open Go.RowKit

theorem info_Stuff : (Try.prog.info? 46).map (fun i => (i.zero, i.size, i.bytes)) = some (some (.agg #[.string ByteArray.empty, .int .i64 0, .int .i64 0, .int .i64 0, .int .i64 0]), 5, 48) := by kernel_rfl
theorem names_at (j : Nat) (h : j < 5) : ∃ nm : ByteArray, (#[.string ⟨#[98, 101, 110, 100]⟩, .string ⟨#[114, 117, 98, 98, 101, 114]⟩, .string ⟨#[99, 111, 114, 107]⟩, .string ⟨#[102, 101, 108, 116]⟩, .string ⟨#[99, 114, 101, 112, 101, 45, 50]⟩] : Array Value)[j]? = some (.string nm) ∧ nm.size ≤ 100 := by
  rcases j with _ | _ | _ | _ | _ | j
  · exact ⟨_, rfl, by decide⟩
  · exact ⟨_, rfl, by decide⟩
  · exact ⟨_, rfl, by decide⟩
  · exact ⟨_, rfl, by decide⟩
  · exact ⟨_, rfl, by decide⟩
  · omega
def OutDraw (g q : Nat) (w : World) (e : Ending) (w' : World) : Prop := ∃ (A : Option Addr) (xs : List Stuff) (n c : Nat), e = .returned (.slice A n c) ∧ xs.length = n ∧ n ≤ 5 ∧ (∀ x ∈ xs, drwS x ∧ x.name.size ≤ 100) ∧ w'.ownsRow (w.heap.size + 1) 46 5 (.slice A n c) n (flat Stuff.cells xs) ∧ w.heap.size + 2 ≤ w'.heap.size ∧ Src w' g (q + 42) ∧ w.grownBy w' (some g)
set_option maxRecDepth 100000 in
set_option maxHeartbeats 2000000 in
theorem l17Draw_c (g q : Nat) (hq : q ≤ 700000000000) (w : World) (hS : Src w g q) : Calls Try.prog 114 #[.pointer (some ⟨g, 0, none⟩)] w (OutDraw g q w) := by
  have HS := Lib.hid hS
  have hgw := hS.lt
  clear hS
  obtain ⟨i0, hi0, hz0, hz1, hz2⟩ := info_parts (P := Try.prog) (e := 46) (z := .agg #[.string ByteArray.empty, .int .i64 0, .int .i64 0, .int .i64 0, .int .i64 0]) (size := 5) (bytes := 48) info_Stuff
  go_enter Try.func114, Try.ntmps114
  go_wp2_with fail
  have hw2 := (World.grownBy.refl w (some g))
  have hN0 : Blk (w.alloc (.cells #[.string ⟨#[98, 101, 110, 100]⟩, .string ⟨#[114, 117, 98, 98, 101, 114]⟩, .string ⟨#[99, 111, 114, 107]⟩, .string ⟨#[102, 101, 108, 116]⟩, .string ⟨#[99, 114, 101, 112, 101, 45, 50]⟩] 9)) w.heap.size 9 #[.string ⟨#[98, 101, 110, 100]⟩, .string ⟨#[114, 117, 98, 98, 101, 114]⟩, .string ⟨#[99, 111, 114, 107]⟩, .string ⟨#[102, 101, 108, 116]⟩, .string ⟨#[99, 114, 101, 112, 101, 45, 50]⟩] := Blk.new _ _ _
  have hO0 := own_empty (w.alloc (.cells #[.string ⟨#[98, 101, 110, 100]⟩, .string ⟨#[114, 117, 98, 98, 101, 114]⟩, .string ⟨#[99, 111, 114, 107]⟩, .string ⟨#[102, 101, 108, 116]⟩, .string ⟨#[99, 114, 101, 112, 101, 45, 50]⟩] 9)) (w.heap.size + 1) 46 5 (Nat.le_of_eq (by rw [World.size_alloc]))
  have hb0 : Below w.heap.size w ((w.alloc (.cells #[.string ⟨#[98, 101, 110, 100]⟩, .string ⟨#[114, 117, 98, 98, 101, 114]⟩, .string ⟨#[99, 111, 114, 107]⟩, .string ⟨#[102, 101, 108, 116]⟩, .string ⟨#[99, 114, 101, 112, 101, 45, 50]⟩] 9)).alloc (.cells #[] 46)) := bl_alloc (bl_alloc (Below.refl _ _) _) _
  refine (pick_c g q 6 (by omega) (by omega) _ (HS.out.below hb0)).mono ?_
  rintro e W1 ⟨r, rfl, r0, r1, hS1, hg1⟩
  obtain ⟨kk, rfl⟩ := Int.eq_ofNat_of_zero_le r0
  have hN1 := (hN0.alloc (.cells #[] 46)).grown hg1 (by intro e; injection e; omega)
  have hO1 := hO0.kept hg1 (.inr (fun e => by have := own_at hO0 g e; omega))
  have hG1 := grown_trans (grown_of_below hb0 (some g)) hg1
  have hs0 : w.heap.size + 2 ≤ W1.heap.size := by have := hg1.size; rw [World.size_alloc, World.size_alloc] at this; omega
  have HS1 := Lib.hid hS1
  have HG1 := Lib.hid hG1
  have HN1 := Lib.hid hN1
  have HO1 := Lib.hid hO1
  clear hN0 hO0 hb0 hN1 hO1 hG1 hg1 hS1 hw2
  go_wp2_with fail
  obtain ⟨AN, hAN⟩ : ∃ AN : Addr, AN = ⟨w.heap.size, 0, none⟩ := ⟨_, rfl⟩
  rw [← hAN]
  have HAN := Lib.hid hAN
  clear hAN
  go_loopw [4, 5] (fun v i wr => ∃ (j kv : Nat) (xs : List Stuff) (A' : Option Addr) (c' : Nat), v = .slice A' j c' ∧ i = .int .i64 kv ∧ j + kv ≤ 5 ∧ w.heap.size + 2 ≤ wr.heap.size ∧ Hid (xs.length = j) ∧ Hid (∀ x ∈ xs, drwS x ∧ x.name.size ≤ 100) ∧ wr.ownsRow (w.heap.size + 1) 46 5 (.slice A' j c') j (flat Stuff.cells xs) ∧ Hid (Src wr g (q + 2 + 8 * j)) ∧ Hid (w.grownBy wr (some g)) ∧ Hid (Blk wr w.heap.size 9 #[.string ⟨#[98, 101, 110, 100]⟩, .string ⟨#[114, 117, 98, 98, 101, 114]⟩, .string ⟨#[99, 111, 114, 107]⟩, .string ⟨#[102, 101, 108, 116]⟩, .string ⟨#[99, 114, 101, 112, 101, 45, 50]⟩])) (fun _ i _ => (intOf i).toNat)
  case atStart => exact ⟨0, kk, [], _, _, rfl, rfl, by omega, hs0, Lib.hid rfl, Lib.hid (by simp), by have h := HO1.out; simp only [World.size_alloc] at h; exact h, HS1, HG1, HN1⟩
  case round =>
    clear HS1 HG1 HN1 HO1
    obtain ⟨j, kv, xs, A', c', rfl, rfl, hjk, hsz, hxl, hxs, hown, hS, hg, hN⟩ := hrel
    by_cases hk : 0 < kv
    · obtain ⟨nm, hnm, hnz⟩ := names_at j (by omega)
      have c0 : wr.cell? (AN.add j) = some (.string nm) := by
        have hadd : (⟨w.heap.size, 0, none⟩ : Addr).add j = ⟨w.heap.size, j, none⟩ := by unfold Addr.add; split <;> simp_all
        rw [HAN.out, hadd, hN.out.cell, hnm]
      have hj5 : (j : Int) < 5 := by omega
      have hk0 : (0 : Int) < (kv : Int) := by omega
      clear hnm
      go_wp2_with fail
      refine (l17New_c g (q + 2 + 8 * j) nm (by omega) _ hS.out).mono ?_
      rintro e W ⟨x, rfl, hxn, hxd, hS2, hg2⟩
      have hgo := hg.out.size
      have hown1 := hown.kept hg2 (.inr (fun e => by have := own_at hown g e; omega))
      have hN2 := Lib.hid (hN.out.grown hg2 (by intro e; injection e; omega))
      have hG2 := grown_trans hg.out hg2
      have hgW := Nat.le_trans hsz hg2.size
      have HS2 := Lib.hid hS2
      have HG2 := Lib.hid hG2
      have HXD := Lib.hid hxd
      have HXN := Lib.hid hxn
      clear hxn hS2 hG2 hg2 hxd hown
      unfold Stuff.val
      go_wp2_with (at_builtin; refine app_own W #[.string x.name, .int .i64 x.thick, .int .i64 x.gram, .int .i64 x.stiff, .int .i64 x.price] rfl _ _ 24 46 rfl i0 _ 5 48 Try.underlying24 hi0 hz0 hz1 hz2 rfl (by omega) (w.heap.size + 1) (.slice A' j c') j _ rfl rfl hown1 rfl (by simp [Value.oneCell']) (by unfold maxLen; omega) (by omega) (by omega) ?_; intro A2 c2 w2 hown2 hg3)
      have hr : ∀ i, (Value.slice A' j c').ownBlock = some i → w.heap.size + 1 ≤ i := own_at hown1
      refine ⟨⟨j + 1, kv - 1, xs ++ [x], A2, c2, rfl, vi (by omega), by omega, Nat.le_trans hgW hg3.size, Lib.hid (by rw [List.length_append, hxl.out]; rfl), Lib.hid ?_, ?_, Lib.hid ?_, Lib.hid ?_, Lib.hid ?_⟩, by simp [intOf]; omega⟩
      · intro y hy
        rcases List.mem_append.1 hy with hy | hy
        · exact hxs.out y hy
        · have hyx : y = x := by simpa using hy
          subst hyx
          exact ⟨HXD.out, by rw [HXN.out]; exact hnz⟩
      · have e : flat Stuff.cells (xs ++ [x]) = flat Stuff.cells xs ++ #[Value.string x.name, .int .i64 x.thick, .int .i64 x.gram, .int .i64 x.stiff, .int .i64 x.price].toList := by simp [flat, Stuff.cells]
        rw [e]
        exact hown2
      · exact (HS2.out.over hg3 (fun i e => by have := hr i e; omega)).more (by omega)
      · exact grown_over HG2.out hg3 (fun i e => by have := hr i e; omega)
      · exact hN2.out.grown hg3 (fun e => by have := hr _ e.symm; omega)
    · have hk0 : ¬ (0 : Int) < (kv : Int) := by omega
      go_wp2_with fail
      go_returns
      exact ⟨A', xs, j, c', rfl, hxl.out, by omega, hxs.out, hown, hsz, hS.out.more (by omega), hg.out⟩
end Go.Proofs.Ytopbiihiogbhiaa
