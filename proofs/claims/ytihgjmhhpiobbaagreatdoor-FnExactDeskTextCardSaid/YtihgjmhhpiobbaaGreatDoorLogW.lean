/- A log read whole, with its code: both sides. -/
import Derived.Test.YtihgjmhhpiobbaaGreatDoorLogV
namespace Go.Proofs.YtihgjmhhpiobbaaGreatDoor
open Go.RowKit

def cdL (s : ByteArray) : Int := if 4000 < s.size then 5 else if (rdL s).2.2 ≠ s.size then 8 else 0
theorem cdL_full {s : ByteArray} (h : 4000 < s.size) : cdL s = 5 := by unfold cdL; rw [if_pos h]
theorem cdL_bad {s : ByteArray} (h : ¬ 4000 < s.size) (h2 : (rdL s).2.2 ≠ s.size) : cdL s = 8 := by unfold cdL; rw [if_neg h, if_pos h2]
theorem cdL_ok {s : ByteArray} (h : ¬ 4000 < s.size) (h2 : (rdL s).2.2 = s.size) : cdL s = 0 := by unfold cdL; rw [if_neg h, if_neg (by simpa using h2)]
/-- what is said of the reference's reader -/
def OutR (s : ByteArray) (w : World) (e : Ending) (w' : World) : Prop :=
  ∃ g, e = .returned (.pointer (some ⟨g, 0, none⟩)) ∧ w.heap.size ≤ g ∧ RS s g (rdL s).1 (rdL s).2.1 (rdL s).2.2 (rdL s).1.length w.heap.size w' ∧ Below w.heap.size w w'
theorem OutR.mk {s : ByteArray} {w w' : World} {g : Nat} {es : List Entry} {st : Int} {n m : Nat} (hr : rdL s = (es, st, n)) (hm : es.length = m) (hg : w.heap.size ≤ g) (hRS : RS s g es st n m w.heap.size w') (hb : Below w.heap.size w w') :
    OutR s w (.returned (.pointer (some ⟨g, 0, none⟩))) w' := by
  subst hm
  unfold OutR
  rw [hr]
  exact ⟨g, rfl, hg, hRS, hb⟩
set_option maxRecDepth 100000 in
set_option maxHeartbeats 2000000 in
theorem l27Read_c (s : ByteArray) (hs : s.size ≤ 1048576) (w : World) : Calls Tryz.prog 84 #[.string s] w (OutR s w) := by
  go_enter Tryz.func84, Tryz.ntmps84
  go_wp2_with fail
  obtain ⟨W, hW⟩ : ∃ W, W = (w.alloc (Obj.cells #[] 158)).alloc (Obj.cells #[Value.string s, Value.int IntKind.i64 0, Value.int IntKind.i64 0, Value.slice (some ⟨w.heap.size, 0, none⟩) 0 0] 134) := ⟨_, rfl⟩
  obtain ⟨g, hg⟩ : ∃ g, g = w.heap.size + 1 := ⟨_, rfl⟩
  have hv : Below w.heap.size w W := by rw [hW]; exact bl_alloc (bl_alloc (Below.refl _ _) _) _
  have hB : Blk W g 134 (RV s 0 0 (some ⟨w.heap.size, 0, none⟩) 0 0) := by
    rw [hW, hg, show w.heap.size + 1 = (w.alloc (Obj.cells #[] 158)).heap.size from by simp]
    exact Blk.new _ _ _
  have hown : W.ownsRow w.heap.size 158 3 (.slice (some ⟨w.heap.size, 0, none⟩) 0 0) 0 (flat Entry.cells []) := by
    rw [hW]; exact (own_empty w w.heap.size 158 3 (Nat.le_refl _)).alloc _
  have hRS : RS s g [] 0 0 0 w.heap.size W := ⟨_, _, hB, hown, fun k e => (by
    have h1 : w.heap.size = k := by simpa [Value.ownBlock] using e
    omega)⟩
  have hgw : w.heap.size ≤ g := by omega
  rw [← hW, ← hg]
  clear hW hg hB hown
  have hR0 := Lib.hid (show rdL s = rdF s.data.toList (s.size + 1) [] 0 0 from rfl)
  go_loopw [8] (fun _ wr => ∃ (es : List Entry) (st : Int) (n f m : Nat), Good s es st n ∧ s.size + 1 ≤ n + f ∧ Hid (es.length = m) ∧ Hid (rdL s = rdF s.data.toList f es st n) ∧ RS s g es st n m w.heap.size wr ∧ Below w.heap.size w wr) (fun _ wr => s.size - cellN wr ⟨g, 1, none⟩)
  case atStart => exact ⟨[], 0, 0, s.size + 1, 0, Good.nil s, by omega, Lib.hid rfl, hR0, hRS, hv⟩
  case round =>
    clear hR0 hRS hv
    obtain ⟨es, st, n, f, m, hG, hf, hm, hRd, hRS, hv⟩ := hrel
    have hn := hG.le
    have hmeas : Hid (cellN wr ⟨g, 1, none⟩ = n) := by
      obtain ⟨A, c, hB, _, _⟩ := hRS
      exact Lib.hid (cellN_of (hB.cell 1))
    go_wp2_with fail
    refine (line_c s hs g es st n m w.heap.size hG hm hgw _ hRS).mono ?_
    rintro e W2 (⟨hS, rfl, hRS2, hb⟩ | ⟨x, k, hS, rfl, hRS2, hb⟩)
    · have HS := Lib.hid hS
      clear hS
      go_wp2_with fail
      go_returns
      exact OutR.mk (hRd.out.trans (rdF_stop HS.out)) hm.out hgw hRS2 (hv.trans hb)
    · have HG := stepL_some hG hS
      obtain ⟨f', rfl⟩ : ∃ f', f = f' + 1 := ⟨f - 1, by omega⟩
      have hR2 := Lib.hid (hRd.out.trans (rdF_step hS))
      have hm2 : Hid (cellN W2 ⟨g, 1, none⟩ = n + k) := by
        obtain ⟨A, c, hB, _, _⟩ := hRS2
        exact Lib.hid (cellN_of (hB.cell 1))
      have hle := HG.1.le
      have hk1 := HG.2
      clear hS
      go_wp2_with fail
      refine ⟨⟨es ++ [x], stp st x, n + k, f', m + 1, HG.1, by omega, Lib.hid (by rw [List.length_append, hm.out]; rfl), hR2, hRS2, hv.trans hb⟩, ?_⟩
      have h1 := hmeas.out
      have h2 := hm2.out
      rw [h1, h2]
      omega
def OutCd (s : ByteArray) (w : World) (e : Ending) (w' : World) : Prop :=
  ∃ g, e = .returned (.tuple #[.pointer (some ⟨g, 0, none⟩), .int .i64 (cdL s)]) ∧ w.heap.size ≤ g ∧ (cdL s = 0 → RS s g (rdL s).1 (rdL s).2.1 (rdL s).2.2 (rdL s).1.length w.heap.size w') ∧ Below w.heap.size w w'
set_option maxRecDepth 100000 in
set_option maxHeartbeats 2000000 in
theorem l27Code_c (s : ByteArray) (hs : s.size ≤ 1048576) (w : World) : Calls Tryz.prog 51 #[.string s] w (OutCd s w) := by
  by_cases h4 : 4000 < (s.size : Int)
  · have HC := Lib.hid (cdL_full (s := s) (by omega))
    go_enter Tryz.func51, Tryz.ntmps51
    go_wp2_with fail
    go_returns
    exact ⟨w.heap.size, by rw [HC.out]; rfl, Nat.le_refl _, (fun h => by rw [HC.out] at h; cases h), bl_alloc (Below.refl _ _) _⟩
  · have hd4 : decide (4000 < (s.size : Int)) = false := decide_eq_false h4
    have H4 := Lib.hid (show ¬ 4000 < s.size by omega)
    go_enter Tryz.func51, Tryz.ntmps51
    go_wp2_with fail
    refine (l27Read_c s hs _).mono ?_
    rintro e W ⟨g, rfl, hg, hRS, hb⟩
    obtain ⟨es, hes⟩ : ∃ es, es = (rdL s).1 := ⟨_, rfl⟩
    obtain ⟨st, hst⟩ : ∃ st, st = (rdL s).2.1 := ⟨_, rfl⟩
    obtain ⟨n, hn⟩ : ∃ n, n = (rdL s).2.2 := ⟨_, rfl⟩
    have HRS := Lib.hid hRS
    rw [← hes, ← hst, ← hn] at hRS
    have HN := Lib.hid hn
    obtain ⟨A, c, hB, _, _⟩ := hRS
    have k1 : W.cell? ⟨g, 1, none⟩ = some (.int .i64 n) := hB.cell 1
    clear hes hst hn hB
    by_cases hq : n = s.size
    · have HC := Lib.hid (cdL_ok (s := s) H4.out (by rw [← HN.out]; exact hq))
      subst hq
      go_wp2_with fail
      go_returns
      exact ⟨g, by rw [HC.out]; rfl, hg, fun _ => HRS.out, hb⟩
    · have HC := Lib.hid (cdL_bad (s := s) H4.out (by rw [← HN.out]; exact hq))
      have hne : ((n : Int) != (s.size : Int)) = true := by rw [bne_iff_ne]; omega
      clear hq
      go_wp2_with fail
      go_returns
      exact ⟨g, by rw [HC.out]; rfl, hg, (fun h => by rw [HC.out] at h; cases h), hb⟩
def OutLc (s : ByteArray) (w : World) (e : Ending) (w' : World) : Prop :=
  ∃ (A : Option Addr) (c m : Nat) (es : List Entry) (st : Int) (n : Nat), e = .returned (.tuple #[.agg #[.slice A m c, .int .i64 st, .int .i64 n], .int .i64 (cdL s)]) ∧ Good s es st n ∧ es.length = m ∧ w'.ownsRow w.heap.size 158 3 (.slice A m c) m (flat Entry.cells es) ∧ (cdL s = 0 → rdL s = (es, st, n)) ∧ (cdL s ≠ 0 → A = none ∧ m = 0 ∧ c = 0) ∧ Below w.heap.size w w'
set_option maxRecDepth 100000 in
set_option maxHeartbeats 2000000 in
theorem logCode_c (s : ByteArray) (hs : s.size ≤ 1048576) (w : World) (hT : Tabs w) : Calls Tryz.prog 58 #[.string s] w (OutLc s w) := by
  have HT := Lib.hid hT
  clear hT
  by_cases h4 : 4000 < (s.size : Int)
  · have HC := Lib.hid (cdL_full (s := s) (by omega))
    go_enter Tryz.func58, Tryz.ntmps58
    go_wp2_with fail
    refine bodyPost_ret (results_cell_row_tmp (P := Tryz.prog) rfl _ _ w.heap.size 101 Z74 (0, 0) _ rfl (Blk.new w 101 Z74) Tryz.underlying101 rfl (by kernel_rfl)) rfl ?_
    exact ⟨none, 0, 0, [], 0, 0, by rw [HC.out]; rfl, Good.nil s, rfl, World.ownsRow_nil _ _ _ _, (fun h => by rw [HC.out] at h; cases h), fun _ => ⟨rfl, rfl, rfl⟩, bl_alloc (Below.refl _ _) _⟩
  have hd4 : decide (4000 < (s.size : Int)) = false := decide_eq_false h4
  have H4 := Lib.hid (show ¬ 4000 < s.size by omega)
  have hR := Blk.new w 101 Z74
  have hv := bl_alloc (Below.refl w.heap.size w) (Obj.cells Z74 101)
  have hgR1 : w.heap.size < (w.alloc (Obj.cells Z74 101)).heap.size := by simp
  go_enter Tryz.func58, Tryz.ntmps58
  go_wp2_with fail
  refine (readLog_c s hs _ (HT.out.below hv)).mono ?_
  rintro e W ⟨A, c, rfl, hown, hb⟩
  obtain ⟨gR, hgR⟩ : ∃ gR, gR = w.heap.size := ⟨_, rfl⟩
  have hok := own_base (base' := w.heap.size) hown (Nat.le_of_lt hgR1)
  have hRlo : ∀ k, (Value.slice A (rdL s).1.length c).ownBlock = some k → k ≠ gR := fun k e => by have h1 := own_at hown k e; rw [hgR]; exact Nat.ne_of_gt (Nat.lt_of_lt_of_le hgR1 h1)
  rw [← hgR] at hR ⊢
  replace hR := hR.below hb
  replace hv := bl_trans hv hb
  have hGd := rdL_good s
  obtain ⟨es, hes⟩ : ∃ es, es = (rdL s).1 := ⟨_, rfl⟩
  obtain ⟨st, hst⟩ : ∃ st, st = (rdL s).2.1 := ⟨_, rfl⟩
  obtain ⟨n, hn⟩ : ∃ n, n = (rdL s).2.2 := ⟨_, rfl⟩
  have HN := Lib.hid hn
  have HRD := Lib.hid (show rdL s = (es, st, n) by rw [hes, hst, hn])
  rw [← hes, ← hst, ← hn] at hGd
  rw [← hes] at hok hRlo
  rw [← hes, ← hst, ← hn]
  obtain ⟨m, hm⟩ : ∃ m, m = es.length := ⟨_, rfl⟩
  rw [← hm] at hok hRlo ⊢
  have HM := Lib.hid hm.symm
  have hle := hGd.le
  clear hes hst hn hm hown hb hgR1
  have hg1 : w.heap.size ≤ gR := by omega
  have HGR := Lib.hid hgR
  clear hgR
  obtain ⟨W2, hW2⟩ : ∃ W2, W2 = W.alloc (Obj.cells #[.slice A m c, .int .i64 st, .int .i64 n] 101) := ⟨_, rfl⟩
  obtain ⟨gX, hgX⟩ : ∃ gX, gX = W.heap.size := ⟨_, rfl⟩
  have hX : Blk W2 gX 101 #[.slice A m c, .int .i64 st, .int .i64 n] := by rw [hW2, hgX]; exact Blk.new _ _ _
  have hb : Below W.heap.size W W2 := by rw [hW2]; exact bl_alloc (Below.refl _ _) _
  have r0 : ∀ O, (W.alloc O).cell? ⟨gR, 0, none⟩ = some (.slice none 0 0) := fun O => (hR.alloc O).cell 0
  have r1 : ∀ O, (W.alloc O).cell? ⟨gR, 1, none⟩ = some (.int .i64 0) := fun O => (hR.alloc O).cell 1
  have r2 : ∀ O, (W.alloc O).cell? ⟨gR, 2, none⟩ = some (.int .i64 0) := fun O => (hR.alloc O).cell 2
  have f0 : ∀ O, (W.alloc O).frozen? ⟨gR, 0, none⟩ = false := fun O => (hR.alloc O).frozen 0
  have f1 : ∀ O, (W.alloc O).frozen? ⟨gR, 1, none⟩ = false := fun O => (hR.alloc O).frozen 1
  have f2 : ∀ O, (W.alloc O).frozen? ⟨gR, 2, none⟩ = false := fun O => (hR.alloc O).frozen 2
  replace hR := hR.below hb
  replace hv := bl_trans hv hb
  replace hok := own_below hok hb
  have HW2 := Lib.hid hW2
  clear hX hb hgX hW2
  have hf := fun (u : Value) (i : Nat) (ww : World) (h : ww.ownsRow w.heap.size 158 3 (.slice A m c) m (flat Entry.cells es)) => own_far h (p := ⟨gR, i, none⟩) hRlo u
  by_cases hq : n = s.size
  · have HC := Lib.hid (cdL_ok (s := s) H4.out (by rw [HRD.out]; exact hq))
    have hlt : ¬ (n : Int) < (s.size : Int) := by omega
    clear hq
    go_wp2_with fail
    rw [← HW2.out]
    refine bodyPost_ret (results_cell_row_tmp (P := Tryz.prog) rfl _ _ gR 101 #[.slice A m c, .int .i64 st, .int .i64 n] (0, 0) _ rfl ?_ Tryz.underlying101 rfl (by kernel_rfl)) rfl ?_
    · exact ((hR.set_ 0 _).set_ 1 _).set_ 2 _
    · exact ⟨A, c, m, es, st, n, by rw [HC.out]; rfl, hGd, HM.out, hf _ 2 _ (hf _ 1 _ (hf _ 0 _ hok)), (fun _ => HRD.out), (fun h => absurd HC.out h), bl_set (bl_set (bl_set hv (p := ⟨gR, 0, none⟩) hg1 _) (p := ⟨gR, 1, none⟩) hg1 _) (p := ⟨gR, 2, none⟩) hg1 _⟩
  · have HC := Lib.hid (cdL_bad (s := s) H4.out (by rw [HRD.out]; exact hq))
    have hlt : (n : Int) < (s.size : Int) := by omega
    clear hq
    go_wp2_with fail
    rw [← HW2.out]
    refine bodyPost_ret (results_cell_row_tmp (P := Tryz.prog) rfl _ _ gR 101 Z74 (0, 0) _ rfl ?_ Tryz.underlying101 rfl (by kernel_rfl)) rfl ?_
    · exact ((hR.set_ 0 _).set_ 1 _).set_ 2 _
    · exact ⟨none, 0, 0, [], 0, 0, by rw [HC.out]; rfl, Good.nil s, rfl, World.ownsRow_nil _ _ _ _, (fun h => by rw [HC.out] at h; cases h), (fun _ => ⟨rfl, rfl, rfl⟩), bl_set (bl_set (bl_set hv (p := ⟨gR, 0, none⟩) hg1 _) (p := ⟨gR, 1, none⟩) hg1 _) (p := ⟨gR, 2, none⟩) hg1 _⟩
end Go.Proofs.YtihgjmhhpiobbaaGreatDoor
