/- Styles: the program's tests. builds. -/
import Derived.Test.YtihgjmhhpiobbaaGreatDoorStyR
import Derived.Test.YtihgjmhhpiobbaaGreatDoorRdA
import Derived.Test.YtihgjmhhpiobbaaGreatDoorOwn
import Derived.Lib.OwnBridge
import Derived.Shelf.SlicesE.DeleteFunc
import Derived.Deep.RegionHeld3
namespace Go.Proofs.YtihgjmhhpiobbaaGreatDoor
open Go.RowKit

theorem splitC_of (c : UInt8) (s : ByteArray) : Lib.splitB ⟨#[c]⟩ 0 (Lib.countB s ⟨#[c]⟩) s = splC c s := by
  have h := Lib.splitB_data ⟨#[c]⟩ 0 (Lib.countB s ⟨#[c]⟩) s
  have e : Lib.countB s ⟨#[c]⟩ = Lib.count s.data.toList [c] := rfl
  rw [show (ByteArray.mk #[c]).data.toList = [c] from rfl, e, splitK_spl] at h
  unfold splC
  rw [← h, List.map_map, e]
  conv => lhs; rw [← List.map_id (Lib.splitB ⟨#[c]⟩ 0 (Lib.count s.data.toList [c]) s)]
  exact List.map_congr_left fun x _ => (bw_data x).symm
theorem splC_len (c : UInt8) (s : ByteArray) : (splC c s).length = Lib.countB s ⟨#[c]⟩ + 1 := by
  unfold splC
  rw [List.length_map, spl_len]
  have e : Lib.countB s ⟨#[c]⟩ = Lib.count s.data.toList [c] := rfl
  rw [e, Lib.count_one]
theorem splC_le (c : UInt8) (s : ByteArray) : (splC c s).length ≤ s.size + 1 := by
  unfold splC
  rw [List.length_map, spl_len]
  have := List.count_le_length (a := c) (l := s.data.toList)
  rw [bytes_len] at this
  omega
theorem SplitC_c (c : UInt8) (s : ByteArray) (hs : s.size ≤ 4000000000) (w : World) (hT : Tabs w) : Calls Tryz.prog 70 #[.string s, .string ⟨#[c]⟩] w fun e w' => e = .returned (.slice (some ⟨w.heap.size, 0, none⟩) (splC c s).length (splC c s).length) ∧ w' = w.alloc (.cells ((splC c s).map Value.string).toArray 9) := by
  obtain ⟨m, hm⟩ := hT.len
  have h := Tryz.strings_Split s ⟨#[c]⟩ m w (by omega) hm (Nat.le_refl 1)
  rw [← splC_len, splitC_of] at h
  exact h
theorem empty_beq (x : ByteArray) : x.toList.isEmpty = decide (x.size = 0) := by
  have e0 : (⟨#[]⟩ : ByteArray).toList = [] := by simp
  have h0 : x.toList.isEmpty = (x.toList == (⟨#[]⟩ : ByteArray).toList) := by rw [e0]; cases x.toList <;> rfl
  rw [h0, bytes_beq, decide_eq_decide]
  exact ⟨fun h => by rw [h]; rfl, fun h => size_zeroB h⟩
theorem del_c (x : ByteArray) (w : World) : Calls Tryz.prog 99 #[.string x] w fun e w' => e = .returned (.bool (decide (x.size = 0))) ∧ w' = w := by
  go_enter Tryz.func99, Tryz.ntmps99
  go_wp2_with fail
  go_returns
  exact ⟨congrArg Ending.returned (vb (empty_beq x)), rfl⟩
theorem wrds_filter (s : ByteArray) : ((splC 32 s).filter fun x => !decide (x.size = 0)) = wrds s := by
  unfold wrds
  congr 1
  funext t
  by_cases h : t.size = 0
  · rw [decide_eq_true h, decide_eq_false (show ¬ 0 < t.size by omega)]; rfl
  · rw [decide_eq_false h, decide_eq_true (show 0 < t.size by omega)]; rfl
theorem wrds_le (s : ByteArray) : (wrds s).length ≤ s.size + 1 := Nat.le_trans (List.length_filter_le _ _) (splC_le 32 s)
set_option maxRecDepth 100000 in
set_option maxHeartbeats 1600000 in
theorem SplitWords_c (s : ByteArray) (hs : s.size ≤ 4194304) (w : World) (hT : Tabs w) : Calls Tryz.prog 74 #[.string s] w (OutC 9 1 (wrds s).length ((wrds s).map Value.string) w) := by
  have HT := Lib.hid hT
  clear hT
  have hSP := SplitC_c 32 s (by omega) w HT.out
  obtain ⟨L, hL⟩ : ∃ L, L = splC 32 s := ⟨_, rfl⟩
  have hlen : L.length ≤ 4194305 := by have := splC_le 32 s; rw [hL]; omega
  have hW : (L.filter fun x => !decide (x.size = 0)) = wrds s := by rw [hL]; exact wrds_filter s
  rw [← hL] at hSP
  clear hL
  have hown : (w.alloc (.cells (L.map Value.string).toArray 9)).ownsRow w.heap.size 9 1 (.slice (some ⟨w.heap.size, 0, none⟩) L.length L.length) L.length (L.map Value.string) := by
    have h := World.ownsRow_lit (base := w.heap.size) (e := 9) (size := 1) w (L.map Value.string).toArray L.length (Nat.le_refl _) (by unfold maxLen; omega) (by simp)
    simpa using h
  obtain ⟨W, hWe⟩ : ∃ W, W = w.alloc (.cells (L.map Value.string).toArray 9) := ⟨_, rfl⟩
  have hb : Below w.heap.size w W := by rw [hWe]; exact bl_alloc (Below.refl _ _) _
  rw [← hWe] at hown hSP
  have eg : ∀ args w, (callFunc 99 args).run Tryz.prog w = .ok (.enter 99 args) w := enters_of Tryz.func99 (by kernel_rfl) rfl
  have hp : PredAt Tryz.prog 99 #[] Value.string (fun x => decide (x.size = 0)) W := fun W' x _ => (del_c x W').mono fun e w' h => ⟨h.1, 0, h.2⟩
  have hpo : PredOver Tryz.prog 99 #[] Value.string (fun x => decide (x.size = 0)) w.heap.size 0 L.toArray.size W := fun n os dk x _ => (del_c x _).mono fun e w' h => ⟨h.1, 0, h.2⟩
  have hH : Sort.Holds Value.string W w.heap.size 0 L.toArray := by
    obtain ⟨g, cap, e, _, _, _, _, _, h⟩ := Lib.holds_of_ownsRow hown (by simp)
    injection e with e1
    injection e1 with e1
    injection e1 with e1
    rw [← e1] at h
    exact h
  have hD := Tryz.slices_DeleteFunc Value.string (fun _ => rfl) (fun x : ByteArray => decide (x.size = 0)) 99 #[] eg ByteArray.empty (fun w => by kernel_rfl) w.heap.size 0 L.length L.toArray W hp hpo hH (by simp; omega) (by simp)
  have e1 : L.toArray.size = L.length := by simp
  have e2 : L.toArray.toList = L := by simp
  rw [e1, e2, hW] at hD
  have hk : (wrds s).length ≤ L.length := by rw [← hW]; exact List.length_filter_le _ _
  obtain ⟨WS, hWS⟩ : ∃ z, z = wrds s := ⟨_, rfl⟩
  rw [← hWS] at hD hk ⊢
  have HD := Lib.hid hD
  have HSP := Lib.hid hSP
  have HOW := Lib.hid hown
  have HB := Lib.hid hb
  clear hD hSP hown hb eg hp hpo hH e1 e2 hW hWS
  obtain ⟨g, hg⟩ : ∃ z, z = w.heap.size := ⟨_, rfl⟩
  rw [← hg] at HSP HD HOW
  have HG := Lib.hid hg
  clear hg hWe
  go_enter Tryz.func74, Tryz.ntmps74
  go_wp2_with fail
  refine HSP.out.mono ?_
  rintro e w1 ⟨rfl, hq⟩
  rw [hq]
  clear hq w1
  go_wp2_with fail
  refine HD.out.mono ?_
  rintro e w1 ⟨rfl, q, hq⟩
  rw [hq]
  clear hq w1
  go_wp2_with fail
  go_returns
  have ho := Lib.ownsRow_putRow (q := q) (ys := WS ++ List.replicate (L.length - WS.length) ByteArray.empty) HOW.out (by rw [List.length_append, List.length_replicate]; omega) hk
  rw [List.take_left'  rfl] at ho
  unfold OutC
  rw [← HG.out]
  exact ⟨_, _, rfl, ho, Lib.below_putRow (by rw [HG.out]; exact HB.out) (by rw [HG.out]; exact Nat.le_refl _)⟩

theorem flat_str (l : List ByteArray) : flat scell l = l.map Value.string := by
  unfold flat
  induction l with
  | nil => rfl
  | cons a r ih => rw [List.flatMap_cons, ih]; rfl
set_option maxRecDepth 100000 in
set_option maxHeartbeats 1600000 in
theorem clauseWord_c (s : ByteArray) (hs : s.size ≤ 4194304) (w : World) (hT : Tabs w) : Calls Tryz.prog 72 #[.string s] w (Ret (.string (hdW s)) w) := by
  have HT := Lib.hid hT
  clear hT
  have hle := wrds_le s
  obtain ⟨WS, hWS⟩ : ∃ z, z = wrds s := ⟨_, rfl⟩
  have HSW := SplitWords_c s hs w HT.out
  unfold OutC at HSW
  have hh : hdW s = WS.headD ⟨#[]⟩ := by rw [hWS]; rfl
  rw [← hWS] at HSW hle
  replace HSW := Lib.hid HSW
  have HH := Lib.hid hh
  clear hWS hh
  obtain ⟨n, hn⟩ : ∃ z, z = WS.length := ⟨_, rfl⟩
  rw [← hn] at HSW hle
  go_enter Tryz.func72, Tryz.ntmps72
  go_wp2_with fail
  refine HSW.out.mono ?_
  rintro e W ⟨A, c, rfl, ho, hb⟩
  have hA := Arr.own ho
  clear ho
  cases WS with
  | nil =>
    subst hn
    go_wp2_with fail
    go_returns
    exact Ret.mk (vs (by rw [HH.out]; rfl)) hb
  | cons t r =>
    have h0 : (n : Int) ≠ 0 := by rw [hn, List.length_cons]; omega
    have h1 : ((n : Int) == 0) = false := by rw [beq_eq_false_iff_ne]; exact h0
    have h2 : 0 < n := by omega
    rw [← flat_str] at hA
    obtain ⟨ad, had, _, c0⟩ := scell_at (k := 0) hA rfl
    subst had
    replace c0 : W.cell? ad = some (.string t) := c0
    have HN := Lib.hid hn
    clear hn
    go_wp2_with fail
    go_returns
    exact Ret.mk (vs (by rw [HH.out]; rfl)) hb
set_option maxHeartbeats 800000 in
theorem isNumber_c (s : ByteArray) (hs : s.size ≤ 4194304) (lo hi : Int) (w : World) (hT : Tabs w) : Calls Tryz.prog 96 #[.string s, .int .i64 lo, .int .i64 hi] w (Ret (.bool (numOk s lo hi)) w) := by
  have HRD := Lib.hid (ReadDecimal_c s (by omega) w hT)
  clear hT
  obtain ⟨v, hv⟩ : ∃ z, z = numV s := ⟨_, rfl⟩
  obtain ⟨b, hb⟩ : ∃ z, z = okN s.data.toList := ⟨_, rfl⟩
  have hN : numOk s lo hi = (b && inB v lo hi) := by rw [hv, hb]; rfl
  rw [← hv, ← hb] at HRD
  have HNN := Lib.hid hN
  clear hv hb hN
  go_enter Tryz.func96, Tryz.ntmps96
  go_wp2_with fail
  refine HRD.out.mono ?_
  rintro e W ⟨rfl, hb⟩
  cases b
  · go_wp2_with fail
    go_returns
    exact Ret.mk (vb (by rw [HNN.out]; rfl)) hb
  · go_wp2_with (go_at_call 47; refine (within_c _ _ _ _).mono ?_; rintro e w' ⟨rfl, rfl⟩)
    go_returns
    exact Ret.mk (vb (by rw [HNN.out]; rfl)) hb

def OutWd (s : ByteArray) (w : World) (e : Ending) (w' : World) : Prop := ∃ A n c, e = .returned (.slice A n c) ∧ (wrds s).length = n ∧ Arr w' A (flat scell (wrds s)) ∧ Below w.heap.size w w'
theorem SplitWordsR_c (s : ByteArray) (hs : s.size ≤ 4194304) (w : World) (hT : Tabs w) : Calls Tryz.prog 74 #[.string s] w (OutWd s w) :=
  (SplitWords_c s hs w hT).mono fun e w' ⟨A, c, he, ho, hb⟩ => ⟨A, _, c, he, rfl, by rw [flat_str]; exact Arr.own ho, hb⟩
/-- which of the six words -/
theorem kind_beq {t : ByteArray} {k : Int} (hk : kindW t = k) : (t.toList == wUpper.toList) = decide (k = 0) ∧ (t.toList == wLining.toList) = decide (k = 1) ∧ (t.toList == wSole.toList) = decide (k = 2) ∧ (t.toList == wHeel.toList) = decide (k = 3) ∧ (t.toList == wEyelets.toList) = decide (k = 4) ∧ (t.toList == wStitch.toList) = decide (k = 5) := by
  simp only [bytes_beq, decide_eq_decide]
  have hd : wUpper ≠ wLining ∧ wUpper ≠ wSole ∧ wUpper ≠ wHeel ∧ wUpper ≠ wEyelets ∧ wUpper ≠ wStitch ∧ wLining ≠ wSole ∧ wLining ≠ wHeel ∧ wLining ≠ wEyelets ∧ wLining ≠ wStitch ∧ wSole ≠ wHeel ∧ wSole ≠ wEyelets ∧ wSole ≠ wStitch ∧ wHeel ≠ wEyelets ∧ wHeel ≠ wStitch ∧ wEyelets ≠ wStitch := by decide
  obtain ⟨d1, d2, d3, d4, d5, d6, d7, d8, d9, d10, d11, d12, d13, d14, d15⟩ := hd
  subst hk
  rcases kind_cases t with ⟨rfl, hk⟩ | ⟨rfl, hk⟩ | ⟨rfl, hk⟩ | ⟨rfl, hk⟩ | ⟨rfl, hk⟩ | ⟨rfl, hk⟩ | ⟨hn, hk⟩ <;> rw [hk]
  · simp [d1, d2, d3, d4, d5]
  · simp [d1.symm, d6, d7, d8, d9]
  · simp [d2.symm, d6.symm, d10, d11, d12]
  · simp [d3.symm, d7.symm, d10.symm, d13, d14]
  · simp [d4.symm, d8.symm, d11.symm, d13.symm, d15]
  · simp [d5.symm, d9.symm, d12.symm, d14.symm, d15.symm]
  · simp only [styW, List.mem_cons, List.not_mem_nil, or_false, not_or] at hn
    simp [hn]
theorem kind_has (t : ByteArray) : Lib.containsS styW t = decide (0 ≤ kindW t) := by
  rw [Bool.eq_iff_iff, Lib.containsS_iff, decide_eq_true_eq]
  rcases kind_cases t with ⟨rfl, hk⟩ | ⟨rfl, hk⟩ | ⟨rfl, hk⟩ | ⟨rfl, hk⟩ | ⟨rfl, hk⟩ | ⟨rfl, hk⟩ | ⟨hn, hk⟩ <;> rw [hk]
  · simp [styW]
  · simp [styW]
  · simp [styW]
  · simp [styW]
  · simp [styW]
  · simp [styW]
  · constructor
    · intro h; exact absurd h hn
    · intro h; exact absurd h (by omega)
theorem StyleWords_c (w : World) : Calls Tryz.prog 40 #[] w fun e w' => e = .returned (.slice (some ⟨w.heap.size, 0, none⟩) 6 6) ∧ w' = w.alloc (.cells (styW.map Value.string).toArray 9) := by
  go_enter Tryz.func40, Tryz.ntmps40
  go_wp2_with fail
  go_returns
  exact ⟨rfl, rfl⟩
theorem containsSty_c (g : Nat) (x : ByteArray) (w : World) (h : ∀ j, j < 6 → w.cell? ⟨g, j, none⟩ = some (.string (styW.getD j ByteArray.empty))) : Calls Tryz.prog 73 #[.slice (some ⟨g, 0, none⟩) 6 6, .string x] w (RetQ (.bool (decide (0 ≤ kindW x))) w) := by
  have h2 := Tryz.slices_Contains_string g 0 6 6 styW x w (by decide) (by omega) (by intro j hj; rw [Nat.zero_add]; exact h j hj)
  rw [show styW.take 6 = styW from rfl, kind_has] at h2
  exact h2
end Go.Proofs.YtihgjmhhpiobbaaGreatDoor
