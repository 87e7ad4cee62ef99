/- Lemmas for the law on the console: the parts LogW, SplP, StyP, StyQ. -/
import Derived.Test.YtpiehlfffjhoaaaGreatDoorQ0
import Derived.Test.YtpiehlfffjhoaaaGreatDoorQ10
import Derived.Test.YtpiehlfffjhoaaaGreatDoorQ5
import Derived.Test.YtpiehlfffjhoaaaGreatDoorQ6
import Derived.Test.YtpiehlfffjhoaaaGreatDoorQ9
namespace Go.Proofs.YtpiehlfffjhoaaaGreatDoor
open Go.RowKit
def cdL (s : ByteArray) : Int := if 4000 < s.size then 5 else if (rdL s).2.2 ≠ s.size then 8 else 0
theorem cdL_full {s : ByteArray} (h : 4000 < s.size) : cdL s = 5 := by unfold cdL; rw [if_pos h]
theorem cdL_bad {s : ByteArray} (h : ¬ 4000 < s.size) (h2 : (rdL s).2.2 ≠ s.size) : cdL s = 8 := by unfold cdL; rw [if_neg h, if_pos h2]
theorem cdL_ok {s : ByteArray} (h : ¬ 4000 < s.size) (h2 : (rdL s).2.2 = s.size) : cdL s = 0 := by unfold cdL; rw [if_neg h, if_neg (by simpa using h2)]
def OutR (s : ByteArray) (w : World) (e : Ending) (w' : World) : Prop :=
 ∃ g, e = .returned (.pointer (some ⟨g, 0, none⟩)) ∧ w.heap.size ≤ g ∧ RS s g (rdL s).1 (rdL s).2.1 (rdL s).2.2 (rdL s).1.length w.heap.size w' ∧ Below w.heap.size w w'
theorem OutR.mk {s : ByteArray} {w w' : World} {g : Nat} {es : List Entry} {st : Int} {n m : Nat} (hr : rdL s = (es, st, n)) (hm : es.length = m) (hg : w.heap.size ≤ g) (hRS : RS s g es st n m w.heap.size w') (hb : Below w.heap.size w w') :
   OutR s w (.returned (.pointer (some ⟨g, 0, none⟩))) w' := by
 subst hm
 unfold OutR
 rw [hr]
 exact ⟨g, rfl, hg, hRS, hb⟩
set_option maxRecDepth 100000 in
set_option maxHeartbeats 2000000 in
theorem l27Read_c (s : ByteArray) (hs : s.size ≤ 1048576) (w : World) : Calls Tryz.prog 147 #[.string s] w (OutR s w) := by
 go_enter Tryz.func147, Tryz.ntmps147
 go_wp2_with fail
 obtain ⟨W, hW⟩ : ∃ W, W = (w.alloc (Obj.cells #[] 141)).alloc (Obj.cells #[.string s, .int .i64 0, .int .i64 0, .slice (some ⟨w.heap.size, 0, none⟩) 0 0] 201) := ⟨_, rfl⟩
 obtain ⟨g, hg⟩ : ∃ g, g = w.heap.size + 1 := ⟨_, rfl⟩
 have hv : Below w.heap.size w W := by rw [hW]; exact bl_alloc (bl_alloc (Below.refl _ _) _) _
 have hB : Blk W g 201 (RV s 0 0 (some ⟨w.heap.size, 0, none⟩) 0 0) := by
   rw [hW, hg, show w.heap.size + 1 = (w.alloc (Obj.cells #[] 141)).heap.size from by simp]
   exact Blk.new _ _ _
 have hown : W.ownsRow w.heap.size 141 3 (.slice (some ⟨w.heap.size, 0, none⟩) 0 0) 0 (flat Entry.cells []) := by
   rw [hW]; exact (own_empty w w.heap.size 141 3 (Nat.le_refl _)).alloc _
 have hRS : RS s g [] 0 0 0 w.heap.size W := ⟨_, _, hB, hown, fun k e => (by
   have h1 : w.heap.size = k := by simpa [Value.ownBlock] using e
   omega)⟩
 have hgw : w.heap.size ≤ g := by omega
 rw [← hW, ← hg]
 clear hW hg hB hown
 have hR0 := qH (show rdL s = rdF s.data.toList (s.size + 1) [] 0 0 from rfl)
 go_loopw [8] (fun _ wr => ∃ (es : List Entry) (st : Int) (n f m : Nat), Good s es st n ∧ s.size + 1 ≤ n + f ∧ Hid (es.length = m) ∧ Hid (rdL s = rdF s.data.toList f es st n) ∧ RS s g es st n m w.heap.size wr ∧ Below w.heap.size w wr) (fun _ wr => s.size - cellN wr ⟨g, 1, none⟩)
 case atStart => exact ⟨[], 0, 0, s.size + 1, 0, Good.nil s, by omega, qH rfl, hR0, hRS, hv⟩
 case round =>
   clear hR0 hRS hv
   obtain ⟨es, st, n, f, m, hG, hf, hm, hRd, hRS, hv⟩ := hrel
   have hn := hG.le
   have hmeas : Hid (cellN wr ⟨g, 1, none⟩ = n) := by
     obtain ⟨A, c, hB, _, _⟩ := hRS
     exact qH (cellN_of (hB.cell 1))
   go_wp2_with fail
   refine (line_c s hs g es st n m w.heap.size hG hm hgw _ hRS).mono ?_
   rintro e W2 (⟨hS, rfl, hRS2, hb⟩ | ⟨x, k, hS, rfl, hRS2, hb⟩)
   · have HS := qH hS
     clear hS
     go_wp2_with fail
     go_returns
     exact OutR.mk (hRd.out.trans (rdF_stop HS.out)) hm.out hgw hRS2 (hv.trans hb)
   · have HG := stepL_some hG hS
     obtain ⟨f', rfl⟩ : ∃ f', f = f' + 1 := ⟨f - 1, by omega⟩
     have hR2 := qH (hRd.out.trans (rdF_step hS))
     have hm2 : Hid (cellN W2 ⟨g, 1, none⟩ = n + k) := by
       obtain ⟨A, c, hB, _, _⟩ := hRS2
       exact qH (cellN_of (hB.cell 1))
     have hle := HG.1.le
     have hk1 := HG.2
     clear hS
     go_wp2_with fail
     refine ⟨⟨es ++ [x], stp st x, n + k, f', m + 1, HG.1, by omega, qH (by rw [List.length_append, hm.out]; rfl), hR2, hRS2, hv.trans hb⟩, ?_⟩
     have h1 := hmeas.out
     have h2 := hm2.out
     rw [h1, h2]
     omega
def OutCd (s : ByteArray) (w : World) (e : Ending) (w' : World) : Prop :=
 ∃ g, e = .returned (.tuple #[.pointer (some ⟨g, 0, none⟩), .int .i64 (cdL s)]) ∧ w.heap.size ≤ g ∧ (cdL s = 0 → RS s g (rdL s).1 (rdL s).2.1 (rdL s).2.2 (rdL s).1.length w.heap.size w') ∧ Below w.heap.size w w'
set_option maxRecDepth 100000 in
set_option maxHeartbeats 2000000 in
theorem l27Code_c (s : ByteArray) (hs : s.size ≤ 1048576) (w : World) : Calls Tryz.prog 90 #[.string s] w (OutCd s w) := by
 by_cases h4 : 4000 < (s.size : Int)
 · have HC := qH (cdL_full (s := s) (by omega))
   go_enter Tryz.func90, Tryz.ntmps90
   go_wp2_with fail
   go_returns
   exact ⟨w.heap.size, by rw [HC.out]; rfl, Nat.le_refl _, (fun h => by rw [HC.out] at h; cases h), bl_alloc (Below.refl _ _) _⟩
 · have hd4 : decide (4000 < (s.size : Int)) = false := decide_eq_false h4
   have H4 := qH (show ¬ 4000 < s.size by omega)
   go_enter Tryz.func90, Tryz.ntmps90
   go_wp2_with fail
   refine (l27Read_c s hs _).mono ?_
   rintro e W ⟨g, rfl, hg, hRS, hb⟩
   obtain ⟨es, hes⟩ : ∃ es, es = (rdL s).1 := ⟨_, rfl⟩
   obtain ⟨st, hst⟩ : ∃ st, st = (rdL s).2.1 := ⟨_, rfl⟩
   obtain ⟨n, hn⟩ : ∃ n, n = (rdL s).2.2 := ⟨_, rfl⟩
   have HRS := qH hRS
   rw [← hes, ← hst, ← hn] at hRS
   have HN := qH hn
   obtain ⟨A, c, hB, _, _⟩ := hRS
   have k1 : W.cell? ⟨g, 1, none⟩ = some (.int .i64 n) := hB.cell 1
   clear hes hst hn hB
   by_cases hq : n = s.size
   · have HC := qH (cdL_ok (s := s) H4.out (by rw [← HN.out]; exact hq))
     subst hq
     go_wp2_with fail
     go_returns
     exact ⟨g, by rw [HC.out]; rfl, hg, fun _ => HRS.out, hb⟩
   · have HC := qH (cdL_bad (s := s) H4.out (by rw [← HN.out]; exact hq))
     have hne : ((n : Int) != (s.size : Int)) = true := by rw [bne_iff_ne]; omega
     clear hq
     go_wp2_with fail
     go_returns
     exact ⟨g, by rw [HC.out]; rfl, hg, (fun h => by rw [HC.out] at h; cases h), hb⟩
def OutLc (s : ByteArray) (w : World) (e : Ending) (w' : World) : Prop :=
 ∃ (A : Option Addr) (c m : Nat) (es : List Entry) (st : Int) (n : Nat), e = .returned (.tuple #[.agg #[.slice A m c, .int .i64 st, .int .i64 n], .int .i64 (cdL s)]) ∧ Good s es st n ∧ es.length = m ∧ w'.ownsRow w.heap.size 141 3 (.slice A m c) m (flat Entry.cells es) ∧ (cdL s = 0 → rdL s = (es, st, n)) ∧ (cdL s ≠ 0 → A = none ∧ m = 0 ∧ c = 0) ∧ Below w.heap.size w w'
set_option maxRecDepth 100000 in
set_option maxHeartbeats 2000000 in
theorem logCode_c (s : ByteArray) (hs : s.size ≤ 1048576) (w : World) (hT : Tabs w) : Calls Tryz.prog 119 #[.string s] w (OutLc s w) := by
 have HT := qH hT
 clear hT
 by_cases h4 : 4000 < (s.size : Int)
 · have HC := qH (cdL_full (s := s) (by omega))
   go_enter Tryz.func119, Tryz.ntmps119
   go_wp2_with fail
   refine bodyPost_ret (results_cell_row_tmp (P := Tryz.prog) rfl _ _ w.heap.size 146 Z74 (0, 0) _ rfl (Blk.new w 146 Z74) Tryz.underlying146 rfl (by kernel_rfl)) rfl ?_
   exact ⟨none, 0, 0, [], 0, 0, by rw [HC.out]; rfl, Good.nil s, rfl, World.ownsRow_nil _ _ _ _, (fun h => by rw [HC.out] at h; cases h), fun _ => ⟨rfl, rfl, rfl⟩, bl_alloc (Below.refl _ _) _⟩
 have hd4 : decide (4000 < (s.size : Int)) = false := decide_eq_false h4
 have H4 := qH (show ¬ 4000 < s.size by omega)
 have hR := Blk.new w 146 Z74
 have hv := bl_alloc (Below.refl w.heap.size w) (Obj.cells Z74 146)
 have hgR1 : w.heap.size < (w.alloc (Obj.cells Z74 146)).heap.size := by simp
 go_enter Tryz.func119, Tryz.ntmps119
 go_wp2_with fail
 refine (readLog_c s hs _ (HT.out.below hv)).mono ?_
 rintro e W ⟨A, c, rfl, hown, hb⟩
 obtain ⟨gR, hgR⟩ : ∃ gR, gR = w.heap.size := ⟨_, rfl⟩
 have hok := own_base (base' := w.heap.size) hown (Nat.le_of_lt hgR1)
 have hRlo : ∀ k, (Value.slice A (rdL s).1.length c).ownBlock = some k → k ≠ gR := fun k e => by have h1 := own_at hown k e; rw [hgR]; exact Nat.ne_of_gt (Nat.lt_of_lt_of_le hgR1 h1)
 rw [← hgR] at hR ⊢
 replace hR := hR.below hb
 replace hv := bl_trans hv hb
 have hGd := rdL_good s
 obtain ⟨es, hes⟩ : ∃ es, es = (rdL s).1 := ⟨_, rfl⟩
 obtain ⟨st, hst⟩ : ∃ st, st = (rdL s).2.1 := ⟨_, rfl⟩
 obtain ⟨n, hn⟩ : ∃ n, n = (rdL s).2.2 := ⟨_, rfl⟩
 have HN := qH hn
 have HRD := qH (show rdL s = (es, st, n) by rw [hes, hst, hn])
 rw [← hes, ← hst, ← hn] at hGd
 rw [← hes] at hok hRlo
 rw [← hes, ← hst, ← hn]
 obtain ⟨m, hm⟩ : ∃ m, m = es.length := ⟨_, rfl⟩
 rw [← hm] at hok hRlo ⊢
 have HM := qH hm.symm
 have hle := hGd.le
 clear hes hst hn hm hown hb hgR1
 have hg1 : w.heap.size ≤ gR := by omega
 have HGR := qH hgR
 clear hgR
 obtain ⟨W2, hW2⟩ : ∃ W2, W2 = W.alloc (Obj.cells #[.slice A m c, .int .i64 st, .int .i64 n] 146) := ⟨_, rfl⟩
 obtain ⟨gX, hgX⟩ : ∃ gX, gX = W.heap.size := ⟨_, rfl⟩
 have hX : Blk W2 gX 146 #[.slice A m c, .int .i64 st, .int .i64 n] := by rw [hW2, hgX]; exact Blk.new _ _ _
 have hb : Below W.heap.size W W2 := by rw [hW2]; exact bl_alloc (Below.refl _ _) _
 have r0 : ∀ O, (W.alloc O).cell? ⟨gR, 0, none⟩ = some (.slice none 0 0) := fun O => (hR.alloc O).cell 0
 have r1 : ∀ O, (W.alloc O).cell? ⟨gR, 1, none⟩ = some (.int .i64 0) := fun O => (hR.alloc O).cell 1
 have r2 : ∀ O, (W.alloc O).cell? ⟨gR, 2, none⟩ = some (.int .i64 0) := fun O => (hR.alloc O).cell 2
 have f0 : ∀ O, (W.alloc O).frozen? ⟨gR, 0, none⟩ = false := fun O => (hR.alloc O).frozen 0
 have f1 : ∀ O, (W.alloc O).frozen? ⟨gR, 1, none⟩ = false := fun O => (hR.alloc O).frozen 1
 have f2 : ∀ O, (W.alloc O).frozen? ⟨gR, 2, none⟩ = false := fun O => (hR.alloc O).frozen 2
 replace hR := hR.below hb
 replace hv := bl_trans hv hb
 replace hok := own_below hok hb
 have HW2 := qH hW2
 clear hX hb hgX hW2
 have hf := fun (u : Value) (i : Nat) (ww : World) (h : ww.ownsRow w.heap.size 141 3 (.slice A m c) m (flat Entry.cells es)) => own_far h (p := ⟨gR, i, none⟩) hRlo u
 by_cases hq : n = s.size
 · have HC := qH (cdL_ok (s := s) H4.out (by rw [HRD.out]; exact hq))
   have hlt : ¬ (n : Int) < (s.size : Int) := by omega
   clear hq
   go_wp2_with fail
   rw [← HW2.out]
   refine bodyPost_ret (results_cell_row_tmp (P := Tryz.prog) rfl _ _ gR 146 #[.slice A m c, .int .i64 st, .int .i64 n] (0, 0) _ rfl ?_ Tryz.underlying146 rfl (by kernel_rfl)) rfl ?_
   · exact ((hR.set_ 0 _).set_ 1 _).set_ 2 _
   · exact ⟨A, c, m, es, st, n, by rw [HC.out]; rfl, hGd, HM.out, hf _ 2 _ (hf _ 1 _ (hf _ 0 _ hok)), (fun _ => HRD.out), (fun h => absurd HC.out h), bl_set (bl_set (bl_set hv (p := ⟨gR, 0, none⟩) hg1 _) (p := ⟨gR, 1, none⟩) hg1 _) (p := ⟨gR, 2, none⟩) hg1 _⟩
 · have HC := qH (cdL_bad (s := s) H4.out (by rw [HRD.out]; exact hq))
   have hlt : (n : Int) < (s.size : Int) := by omega
   clear hq
   go_wp2_with fail
   rw [← HW2.out]
   refine bodyPost_ret (results_cell_row_tmp (P := Tryz.prog) rfl _ _ gR 146 Z74 (0, 0) _ rfl ?_ Tryz.underlying146 rfl (by kernel_rfl)) rfl ?_
   · exact ((hR.set_ 0 _).set_ 1 _).set_ 2 _
   · exact ⟨none, 0, 0, [], 0, 0, by rw [HC.out]; rfl, Good.nil s, rfl, World.ownsRow_nil _ _ _ _, (fun h => by rw [HC.out] at h; cases h), (fun _ => ⟨rfl, rfl, rfl⟩), bl_set (bl_set (bl_set hv (p := ⟨gR, 0, none⟩) hg1 _) (p := ⟨gR, 1, none⟩) hg1 _) (p := ⟨gR, 2, none⟩) hg1 _⟩
theorem spl_join (c : UInt8) : ∀ l : List UInt8, l = [c].intercalate (spl c l) := by
 intro l
 induction l with
 | nil => simp [spl, List.intercalate]
 | cons b r ih =>
   simp only [spl]
   split
   · rename_i hb
     subst hb
     cases hs : spl b r with
     | nil => exact absurd hs (spl_ne b r)
     | cons a t =>
       rw [hs] at ih
       conv => lhs; rw [ih]
       simp [List.intercalate]
   · cases hs : spl c r with
     | nil => exact absurd hs (spl_ne c r)
     | cons a t =>
       rw [hs] at ih
       conv => lhs; rw [ih]
       cases t <;> simp [List.intercalate, glue]
theorem spl_none {c : UInt8} : ∀ p : List UInt8, c ∉ p → spl c p = [p] := by
 intro p
 induction p with
 | nil => intro _; rfl
 | cons b r ih =>
   intro h
   simp only [List.mem_cons, not_or] at h
   simp only [spl]
   rw [if_neg (fun e => h.1 e.symm), ih h.2]
   rfl
theorem spl_cons {c : UInt8} (l : List UInt8) : ∀ p : List UInt8, c ∉ p → spl c (p ++ c :: l) = p :: spl c l := by
 intro p
 induction p with
 | nil => intro _; simp [spl]
 | cons b r ih =>
   intro h
   simp only [List.mem_cons, not_or] at h
   simp only [List.cons_append, spl]
   rw [if_neg (fun e => h.1 e.symm), ih h.2]
   rfl
theorem spl_inter {c : UInt8} : ∀ L : List (List UInt8), L ≠ [] → (∀ p ∈ L, c ∉ p) → spl c ([c].intercalate L) = L := by
 intro L
 induction L with
 | nil => intro h _; exact absurd rfl h
 | cons p t ih =>
   intro _ h
   cases t with
   | nil =>
     have := spl_none p (h p (by simp))
     simpa [List.intercalate] using this
   | cons q u =>
     have e : [c].intercalate (p :: q :: u) = p ++ c :: [c].intercalate (q :: u) := by simp [List.intercalate]
     rw [e, spl_cons _ p (h p (by simp)), ih (by simp) (fun x hx => h x (List.mem_cons_of_mem _ hx))]
theorem itoa_free (v : Int) : (32 : UInt8) ∉ Lib.itoa v := by
 have h := itoa_bare v
 have hd := (dig_all v.natAbs).1
 have key : ∀ l : List UInt8, l.all isDig = true → (32 : UInt8) ∉ l := by
   intro l hl hm
   have := List.all_eq_true.1 hl _ hm
   revert this; decide
 intro hm
 rw [← h.1] at hd
 cases hv : Lib.itoa v with
 | nil => rw [hv] at hm; cases hm
 | cons c r =>
   rw [hv] at hm hd
   simp only [bare] at hd
   split at hd
   · rename_i hc
     rcases List.mem_cons.1 hm with h1 | h1
     · rw [hc] at h1; revert h1; decide
     · exact key _ hd h1
   · exact key _ hd hm
theorem name_free {s : ByteArray} (h : nameB s = true) : (32 : UInt8) ∉ s.data.toList := by
 intro hm
 simp only [nameB, nameL, Bool.and_eq_true] at h
 have := List.all_eq_true.1 h.2 _ hm
 revert this; decide
theorem bappS (a b : ByteArray) : (a ++ b).data.toList = a.data.toList ++ b.data.toList := by simp
def wrds (s : ByteArray) : List ByteArray := (splC 32 s).filter fun t => decide (0 < t.size)
def wUpper : ByteArray := ⟨#[117, 112, 112, 101, 114]⟩
def wLining : ByteArray := ⟨#[108, 105, 110, 105, 110, 103]⟩
def wSole : ByteArray := ⟨#[115, 111, 108, 101]⟩
def wHeel : ByteArray := ⟨#[104, 101, 101, 108]⟩
def wEyelets : ByteArray := ⟨#[101, 121, 101, 108, 101, 116, 115]⟩
def wStitch : ByteArray := ⟨#[115, 116, 105, 116, 99, 104]⟩
def wDouble : ByteArray := ⟨#[100, 111, 117, 98, 108, 101]⟩
def styW : List ByteArray := [wUpper, wLining, wSole, wHeel, wEyelets, wStitch]
def kindW (t : ByteArray) : Int := if t = wUpper then 0 else if t = wLining then 1 else if t = wSole then 2 else if t = wHeel then 3 else if t = wEyelets then 4 else if t = wStitch then 5 else -1
def numOk (t : ByteArray) (lo hi : Int) : Bool := okN t.data.toList && inB (numV t) lo hi
def prob : List ByteArray → Int
 | [] => 1
 | t :: r =>
   if kindW t = 0 then (match r with | [a, b] => if (nameB a && nameB b) = true then 0 else 4 | _ => 2)
   else if kindW t = 1 then (match r with | [a] => if nameB a = true then 0 else 4 | _ => 2)
   else if kindW t = 2 then (match r with | [a, b] => if nameB a = true then (if numOk b 10 300 = true then 0 else 3) else 4 | _ => 2)
   else if kindW t = 3 then (match r with | [a] => if numOk a 0 1200 = true then 0 else 3 | _ => 2)
   else if kindW t = 4 then (match r with | [a] => if numOk a 1 12 = true then 0 else 3 | _ => 2)
   else if kindW t = 5 then (match r with | [a] => if numOk a 10 80 = true then 0 else 3 | [a, b] => if (numOk a 10 80 && decide (b = wDouble)) = true then 0 else 3 | _ => 2)
   else 1
def setS (x : Style) : List ByteArray → Style
 | t :: a :: r =>
   if kindW t = 0 then { x with upper := a, color := r.headD ByteArray.empty }
   else if kindW t = 1 then { x with lining := a }
   else if kindW t = 2 then { x with sole := a, thick := numV (r.headD ByteArray.empty) }
   else if kindW t = 3 then { x with heel := numV a }
   else if kindW t = 4 then { x with eyelets := numV a }
   else if kindW t = 5 then { x with density := numV a, double := decide (r.length = 1) }
   else x
 | _ => x
def styB (x : Style) : Bool := nameB x.upper && nameB x.color && (decide (x.lining.size = 0) || nameB x.lining) && nameB x.sole && inB x.thick 10 300 && inB x.heel 0 1200 && inB x.eyelets 0 12 && (decide (x.density = 0) && !x.double || inB x.density 10 80)
def spB : ByteArray := ⟨#[32]⟩
def txt0 (x : Style) : ByteArray := ((⟨#[117, 112, 112, 101, 114, 32]⟩ ++ x.upper) ++ spB) ++ x.color
def txt1 (x : Style) : ByteArray := if x.lining.size = 0 then ⟨#[]⟩ else ⟨#[108, 105, 110, 105, 110, 103, 32]⟩ ++ x.lining
def txt2 (x : Style) : ByteArray := ((⟨#[115, 111, 108, 101, 32]⟩ ++ x.sole) ++ spB) ++ decI x.thick
def txt3 (x : Style) : ByteArray := if x.heel = 0 then ⟨#[]⟩ else ⟨#[104, 101, 101, 108, 32]⟩ ++ decI x.heel
def txt4 (x : Style) : ByteArray := if x.eyelets = 0 then ⟨#[]⟩ else ⟨#[101, 121, 101, 108, 101, 116, 115, 32]⟩ ++ decI x.eyelets
def txt5a (x : Style) : ByteArray := if x.density = 0 ∧ x.double = false then ⟨#[]⟩ else ⟨#[115, 116, 105, 116, 99, 104, 32]⟩ ++ decI x.density
def txt5 (x : Style) : ByteArray := if x.double = true then txt5a x ++ ⟨#[32, 100, 111, 117, 98, 108, 101]⟩ else txt5a x
def txts (x : Style) : List ByteArray := [txt0 x, txt1 x, txt2 x, txt3 x, txt4 x, txt5 x]
def fineT (t : ByteArray) : Bool := decide (t.size = 0) || decide (prob (wrds t) = 0)
def okL (x : Style) : Bool := (txts x).all fineT && (nameB x.upper && nameB x.color && nameB x.sole && (decide (x.lining.size = 0) || nameB x.lining))
theorem wrds_join {L : List (List UInt8)} {s : ByteArray} (h : s.data.toList = [32].intercalate L) (hL : L ≠ []) (hf : ∀ p ∈ L, (32 : UInt8) ∉ p ∧ 0 < p.length) : wrds s = L.map fun l => ⟨l.toArray⟩ := by
 unfold wrds splC
 rw [h, spl_inter L hL (fun p hp => (hf p hp).1)]
 rw [List.filter_eq_self.2]
 intro t ht
 obtain ⟨p, hp, rfl⟩ := List.mem_map.1 ht
 rw [decide_eq_true_eq]
 have := (hf p hp).2
 simpa [ByteArray.size] using this
theorem bw_data (t : ByteArray) : (⟨t.data.toList.toArray⟩ : ByteArray) = t := by cases t; simp
theorem name_len {s : ByteArray} (h : nameB s = true) : 0 < s.data.toList.length := by
 rw [bytes_len]
 by_cases h1 : s.size < 1
 · rw [nameB_long (.inr h1)] at h; cases h
 · omega
theorem name_word {s : ByteArray} (h : nameB s = true) : (32 : UInt8) ∉ s.data.toList ∧ 0 < s.data.toList.length := ⟨name_free h, name_len h⟩
theorem itoa_pos (v : Int) : 0 < (Lib.itoa v).length := by
 have h := (itoa_bare v).1
 have h2 := (dig_all v.natAbs).2
 rw [← h] at h2
 cases hv : Lib.itoa v with
 | nil => rw [hv] at h2; simp [bare] at h2
 | cons c r => simp
theorem dec_word (v : Int) : (32 : UInt8) ∉ Lib.itoa v ∧ 0 < (Lib.itoa v).length := ⟨itoa_free v, itoa_pos v⟩
theorem numOk_dec (v lo hi : Int) (h0 : -1000000000000000000 < lo) (h1 : hi < 1000000000000000000) : numOk (decI v) lo hi = inB v lo hi := by
 have hd : (decI v).data.toList = Lib.itoa v := by simp [decI]
 unfold numOk
 cases ho : okN (decI v).data.toList
 · rw [Bool.false_and]
   symm
   rw [Bool.eq_false_iff]
   intro hb
   obtain ⟨a, b⟩ := inB_iff.1 hb
   rw [hd, okN_itoa (by omega) (by omega)] at ho
   cases ho
 · rw [numV_yes ho, hd, (itoa_bare v).2, Bool.true_and]
theorem kind0 : kindW wUpper = 0 := by decide
theorem kind1 : kindW wLining = 1 := by decide
theorem kind2 : kindW wSole = 2 := by decide
theorem kind3 : kindW wHeel = 3 := by decide
theorem kind4 : kindW wEyelets = 4 := by decide
theorem kind5 : kindW wStitch = 5 := by decide
theorem size0 {t : ByteArray} (h : 0 < t.size) : decide (t.size = 0) = false := by rw [decide_eq_false_iff_not]; omega
theorem fine_empty : fineT ⟨#[]⟩ = true := by unfold fineT; rw [decide_eq_true (by rfl : (⟨#[]⟩ : ByteArray).size = 0), Bool.true_or]
theorem fine_of {t : ByteArray} (h : 0 < t.size) : fineT t = decide (prob (wrds t) = 0) := by unfold fineT; rw [size0 h, Bool.false_or]
theorem app_size (a b : ByteArray) : (a ++ b).size = a.size + b.size := ByteArray.size_append' a b
theorem lit_pos (a b : ByteArray) (h : 0 < a.size) : 0 < (a ++ b).size := by rw [app_size]; omega
theorem wrds0 {x : Style} (h1 : nameB x.upper = true) (h2 : nameB x.color = true) : wrds (txt0 x) = [wUpper, x.upper, x.color] := by
 rw [wrds_join (L := [wUpper.data.toList, x.upper.data.toList, x.color.data.toList]) _ (by simp) _]
 · simp
 · unfold txt0; simp only [bappS, spB]; simp [List.intercalate, wUpper]
 · intro p hp
   simp only [List.mem_cons, List.not_mem_nil, or_false] at hp
   rcases hp with rfl | rfl | rfl
   · decide
   · exact name_word h1
   · exact name_word h2
theorem fine0 {x : Style} (h1 : nameB x.upper = true) (h2 : nameB x.color = true) : fineT (txt0 x) = true := by
 have hw := wrds0 h1 h2
 rw [fine_of (by unfold txt0; exact lit_pos _ _ (lit_pos _ _ (lit_pos _ _ (by decide)))), hw]
 simp [prob, kind0, h1, h2]
theorem wrds1 {x : Style} (h1 : nameB x.lining = true) : wrds (⟨#[108, 105, 110, 105, 110, 103, 32]⟩ ++ x.lining) = [wLining, x.lining] := by
 rw [wrds_join (L := [wLining.data.toList, x.lining.data.toList]) _ (by simp) _]
 · simp
 · simp only [bappS]; simp [List.intercalate, wLining]
 · intro p hp
   simp only [List.mem_cons, List.not_mem_nil, or_false] at hp
   rcases hp with rfl | rfl
   · decide
   · exact name_word h1
theorem fine1 {x : Style} (h : decide (x.lining.size = 0) = true ∨ nameB x.lining = true) : fineT (txt1 x) = true := by
 unfold txt1
 by_cases h0 : x.lining.size = 0
 · rw [if_pos h0]; exact fine_empty
 · rw [if_neg h0]
   have h1 : nameB x.lining = true := by rcases h with h | h; exact absurd (of_decide_eq_true h) h0; exact h
   rw [fine_of (lit_pos _ _ (by decide)), wrds1 h1]
   simp [prob, kind1, h1]
theorem wrds2 {x : Style} (h1 : nameB x.sole = true) : wrds (txt2 x) = [wSole, x.sole, decI x.thick] := by
 rw [wrds_join (L := [wSole.data.toList, x.sole.data.toList, Lib.itoa x.thick]) _ (by simp) _]
 · simp [decI]
 · unfold txt2; simp only [bappS, spB, decI]; simp [List.intercalate, wSole]
 · intro p hp
   simp only [List.mem_cons, List.not_mem_nil, or_false] at hp
   rcases hp with rfl | rfl | rfl
   · decide
   · exact name_word h1
   · exact dec_word _
theorem fine2 {x : Style} (h1 : nameB x.sole = true) : fineT (txt2 x) = inB x.thick 10 300 := by
 have hw := wrds2 h1
 rw [fine_of (by unfold txt2; exact lit_pos _ _ (lit_pos _ _ (lit_pos _ _ (by decide)))), hw, ← numOk_dec x.thick 10 300 (by omega) (by omega)]
 simp [prob, kind2, h1]
theorem word2 (v : Int) (h w : ByteArray) (hh : h.data.toList = w.data.toList ++ [32]) (hw : (32 : UInt8) ∉ w.data.toList ∧ 0 < w.data.toList.length) : wrds (h ++ decI v) = [w, decI v] := by
 rw [wrds_join (L := [w.data.toList, Lib.itoa v]) _ (by simp) _]
 · simp [decI]
 · simp only [bappS, hh, decI]; simp [List.intercalate]
 · intro p hp
   simp only [List.mem_cons, List.not_mem_nil, or_false] at hp
   rcases hp with rfl | rfl
   · exact hw
   · exact dec_word _
theorem fine3 {x : Style} : fineT (txt3 x) = inB x.heel 0 1200 := by
 unfold txt3
 by_cases h0 : x.heel = 0
 · rw [if_pos h0, h0]; rfl
 · rw [if_neg h0, fine_of (lit_pos _ _ (by decide)), word2 _ _ wHeel (by simp [wHeel]) (by decide), ← numOk_dec x.heel 0 1200 (by omega) (by omega)]
   simp [prob, kind3]
theorem inB_one {v hi : Int} (h : v ≠ 0) : inB v 1 hi = inB v 0 hi := by
 rw [Bool.eq_iff_iff, inB_iff, inB_iff]; omega
theorem fine4 {x : Style} : fineT (txt4 x) = inB x.eyelets 0 12 := by
 unfold txt4
 by_cases h0 : x.eyelets = 0
 · rw [if_pos h0, h0]; rfl
 · rw [if_neg h0, fine_of (lit_pos _ _ (by decide)), word2 _ _ wEyelets (by simp [wEyelets]) (by decide), ← inB_one h0, ← numOk_dec x.eyelets 1 12 (by omega) (by omega)]
   simp [prob, kind4]
theorem wrds5 (v : Int) : wrds ((⟨#[115, 116, 105, 116, 99, 104, 32]⟩ ++ decI v) ++ ⟨#[32, 100, 111, 117, 98, 108, 101]⟩) = [wStitch, decI v, wDouble] := by
 rw [wrds_join (L := [wStitch.data.toList, Lib.itoa v, wDouble.data.toList]) _ (by simp) _]
 · simp [decI]
 · simp only [bappS, decI]; simp [List.intercalate, wStitch, wDouble]
 · intro p hp
   simp only [List.mem_cons, List.not_mem_nil, or_false] at hp
   rcases hp with rfl | rfl | rfl
   · decide
   · exact dec_word _
   · decide
theorem fine5 {x : Style} : fineT (txt5 x) = (decide (x.density = 0) && !x.double || inB x.density 10 80) := by
 unfold txt5 txt5a
 cases hd : x.double
 · rw [if_neg (by simp)]
   by_cases h0 : x.density = 0
   · rw [if_pos ⟨h0, rfl⟩, fine_empty, h0]; rfl
   · rw [if_neg (fun h => h0 h.1), fine_of (lit_pos _ _ (by decide)), word2 _ _ wStitch (by simp [wStitch]) (by decide), ← numOk_dec x.density 10 80 (by omega) (by omega)]
     simp [prob, kind5, h0]
 · rw [if_pos rfl, if_neg (by simp)]
   have hw := wrds5 x.density
   rw [fine_of (lit_pos _ _ (lit_pos _ _ (by decide))), hw, ← numOk_dec x.density 10 80 (by omega) (by omega)]
   simp [prob, kind5]
theorem okL_styB (x : Style) : okL x = styB x := by
 unfold okL styB txts
 simp only [List.all_cons, List.all_nil, Bool.and_true]
 cases h1 : nameB x.upper
 · simp
 cases h2 : nameB x.color
 · simp
 cases h3 : nameB x.sole
 · simp
 cases h4 : (decide (x.lining.size = 0) || nameB x.lining)
 · simp
 rw [fine0 h1 h2, fine1 (by rw [Bool.or_eq_true] at h4; exact h4), fine2 h3, fine3, fine4, fine5]
 simp [Bool.and_assoc]
theorem kind_cases (t : ByteArray) : (t = wUpper ∧ kindW t = 0) ∨ (t = wLining ∧ kindW t = 1) ∨ (t = wSole ∧ kindW t = 2) ∨ (t = wHeel ∧ kindW t = 3) ∨ (t = wEyelets ∧ kindW t = 4) ∨ (t = wStitch ∧ kindW t = 5) ∨ (t ∉ styW ∧ kindW t = -1) := by
 by_cases h0 : t = wUpper
 · subst h0; exact .inl ⟨rfl, kind0⟩
 by_cases h1 : t = wLining
 · subst h1; exact .inr (.inl ⟨rfl, kind1⟩)
 by_cases h2 : t = wSole
 · subst h2; exact .inr (.inr (.inl ⟨rfl, kind2⟩))
 by_cases h3 : t = wHeel
 · subst h3; exact .inr (.inr (.inr (.inl ⟨rfl, kind3⟩)))
 by_cases h4 : t = wEyelets
 · subst h4; exact .inr (.inr (.inr (.inr (.inl ⟨rfl, kind4⟩))))
 by_cases h5 : t = wStitch
 · subst h5; exact .inr (.inr (.inr (.inr (.inr (.inl ⟨rfl, kind5⟩)))))
 refine .inr (.inr (.inr (.inr (.inr (.inr ⟨?_, ?_⟩)))))
 · simp [styW, h0, h1, h2, h3, h4, h5]
 · unfold kindW; rw [if_neg h0, if_neg h1, if_neg h2, if_neg h3, if_neg h4, if_neg h5]
theorem prob_forms {w : List ByteArray} (h : prob w = 0) :
   (∃ a b, w = [wUpper, a, b] ∧ nameB a = true ∧ nameB b = true) ∨ (∃ a, w = [wLining, a] ∧ nameB a = true) ∨ (∃ a b, w = [wSole, a, b] ∧ nameB a = true ∧ numOk b 10 300 = true) ∨
   (∃ a, w = [wHeel, a] ∧ numOk a 0 1200 = true) ∨ (∃ a, w = [wEyelets, a] ∧ numOk a 1 12 = true) ∨ (∃ a, w = [wStitch, a] ∧ numOk a 10 80 = true) ∨ (∃ a, w = [wStitch, a, wDouble] ∧ numOk a 10 80 = true) := by
 cases w with
 | nil => simp [prob] at h
 | cons t r =>
   rcases kind_cases t with ⟨rfl, hk⟩ | ⟨rfl, hk⟩ | ⟨rfl, hk⟩ | ⟨rfl, hk⟩ | ⟨rfl, hk⟩ | ⟨rfl, hk⟩ | ⟨_, hk⟩
   · rcases r with _ | ⟨a, _ | ⟨b, _ | ⟨c, r⟩⟩⟩ <;> simp [prob, hk] at h
     exact .inl ⟨a, b, rfl, h.1, h.2⟩
   · rcases r with _ | ⟨a, _ | ⟨b, r⟩⟩ <;> simp [prob, hk] at h
     exact .inr (.inl ⟨a, rfl, h⟩)
   · rcases r with _ | ⟨a, _ | ⟨b, _ | ⟨c, r⟩⟩⟩ <;> simp [prob, hk] at h
     refine .inr (.inr (.inl ⟨a, b, rfl, ?_⟩))
     cases h1 : nameB a <;> rw [h1] at h <;> simp at h
     exact ⟨rfl, h⟩
   · rcases r with _ | ⟨a, _ | ⟨b, r⟩⟩ <;> simp [prob, hk] at h
     exact .inr (.inr (.inr (.inl ⟨a, rfl, h⟩)))
   · rcases r with _ | ⟨a, _ | ⟨b, r⟩⟩ <;> simp [prob, hk] at h
     exact .inr (.inr (.inr (.inr (.inl ⟨a, rfl, h⟩))))
   · rcases r with _ | ⟨a, _ | ⟨b, _ | ⟨c, r⟩⟩⟩ <;> simp [prob, hk] at h
     · exact .inr (.inr (.inr (.inr (.inr (.inl ⟨a, rfl, h⟩)))))
     · obtain ⟨h1, rfl⟩ := h
       exact .inr (.inr (.inr (.inr (.inr (.inr ⟨a, rfl, h1⟩)))))
   · simp [prob, hk] at h
theorem numOk_in {t : ByteArray} {lo hi : Int} (h : numOk t lo hi = true) : inB (numV t) lo hi = true := by
 unfold numOk at h
 rw [Bool.and_eq_true] at h
 exact h.2
theorem in_wide {v lo lo' hi : Int} (h : inB v lo hi = true) (hl : lo' ≤ lo) : inB v lo' hi = true := by
 rw [inB_iff] at h ⊢; omega
theorem styB_parts {x : Style} : styB x = true ↔ nameB x.upper = true ∧ nameB x.color = true ∧ (decide (x.lining.size = 0) || nameB x.lining) = true ∧ nameB x.sole = true ∧ inB x.thick 10 300 = true ∧ inB x.heel 0 1200 = true ∧ inB x.eyelets 0 12 = true ∧ (decide (x.density = 0) && !x.double || inB x.density 10 80) = true := by
 unfold styB
 simp only [Bool.and_eq_true, and_assoc]
theorem set_upper (x : Style) (a b : ByteArray) : setS x [wUpper, a, b] = { x with upper := a, color := b } := by simp [setS, kind0]
theorem set_lining (x : Style) (a : ByteArray) : setS x [wLining, a] = { x with lining := a } := by simp [setS, kind1]
theorem set_sole (x : Style) (a b : ByteArray) : setS x [wSole, a, b] = { x with sole := a, thick := numV b } := by simp [setS, kind2]
theorem set_heel (x : Style) (a : ByteArray) : setS x [wHeel, a] = { x with heel := numV a } := by simp [setS, kind3]
theorem set_eyelets (x : Style) (a : ByteArray) : setS x [wEyelets, a] = { x with eyelets := numV a } := by simp [setS, kind4]
theorem set_stitch (x : Style) (a : ByteArray) : setS x [wStitch, a] = { x with density := numV a, double := false } := by simp [setS, kind5]
theorem set_double (x : Style) (a : ByteArray) : setS x [wStitch, a, wDouble] = { x with density := numV a, double := true } := by simp [setS, kind5]
theorem set_sty {x : Style} {w : List ByteArray} (hx : styB x = true) (h : prob w = 0) : styB (setS x w) = true := by
 rw [styB_parts] at hx ⊢
 obtain ⟨h1, h2, h3, h4, h5, h6, h7, h8⟩ := hx
 rcases prob_forms h with ⟨a, b, rfl, ha, hb⟩ | ⟨a, rfl, ha⟩ | ⟨a, b, rfl, ha, hb⟩ | ⟨a, rfl, ha⟩ | ⟨a, rfl, ha⟩ | ⟨a, rfl, ha⟩ | ⟨a, rfl, ha⟩
 · rw [set_upper]; exact ⟨ha, hb, h3, h4, h5, h6, h7, h8⟩
 · rw [set_lining]; exact ⟨h1, h2, by rw [Bool.or_eq_true]; exact .inr ha, h4, h5, h6, h7, h8⟩
 · rw [set_sole]; exact ⟨h1, h2, h3, ha, numOk_in hb, h6, h7, h8⟩
 · rw [set_heel]; exact ⟨h1, h2, h3, h4, h5, numOk_in ha, h7, h8⟩
 · rw [set_eyelets]; exact ⟨h1, h2, h3, h4, h5, h6, in_wide (numOk_in ha) (by omega), h8⟩
 · rw [set_stitch]; exact ⟨h1, h2, h3, h4, h5, h6, h7, by rw [Bool.or_eq_true]; exact .inr (numOk_in ha)⟩
 · rw [set_double]; exact ⟨h1, h2, h3, h4, h5, h6, h7, by rw [Bool.or_eq_true]; exact .inr (numOk_in ha)⟩
theorem size_zeroB {t : ByteArray} (h : t.size = 0) : t = ⟨#[]⟩ := by
 rw [← bytes_len] at h
 exact (bw_data t).symm.trans (by rw [List.eq_nil_of_length_eq_zero h])
end Go.Proofs.YtpiehlfffjhoaaaGreatDoor
