/- Lemmas for the law on the console: the parts StyA, StyB. -/
import Derived.Test.YtpiehlfffjhoaaaGreatDoorQ0
import Derived.Test.YtpiehlfffjhoaaaGreatDoorQ12
import Derived.Test.YtpiehlfffjhoaaaGreatDoorQ6
import Derived.Test.YtpiehlfffjhoaaaGreatDoorQ2
import Derived.Lib.OwnBridge
import Derived.Shelf.SlicesE.DeleteFunc
import Derived.Deep.RegionHeld3
namespace Go.Proofs.YtpiehlfffjhoaaaGreatDoor
open Go.RowKit
theorem splitC_of (c : UInt8) (s : ByteArray) : Lib.splitB ⟨#[c]⟩ 0 (Lib.countB s ⟨#[c]⟩) s = splC c s := by
 have h := Lib.splitB_data ⟨#[c]⟩ 0 (Lib.countB s ⟨#[c]⟩) s
 have e : Lib.countB s ⟨#[c]⟩ = Lib.count s.data.toList [c] := rfl
 rw [show (ByteArray.mk #[c]).data.toList = [c] from rfl, e, splitK_spl] at h
 unfold splC
 rw [← h, List.map_map, e]
 conv => lhs; rw [← List.map_id (Lib.splitB ⟨#[c]⟩ 0 (Lib.count s.data.toList [c]) s)]
 exact List.map_congr_left fun x _ => (bw_data x).symm
theorem splC_len (c : UInt8) (s : ByteArray) : (splC c s).length = Lib.countB s ⟨#[c]⟩ + 1 := by
 unfold splC
 rw [List.length_map, spl_len]
 have e : Lib.countB s ⟨#[c]⟩ = Lib.count s.data.toList [c] := rfl
 rw [e, Lib.count_one]
theorem splC_le (c : UInt8) (s : ByteArray) : (splC c s).length ≤ s.size + 1 := by
 unfold splC
 rw [List.length_map, spl_len]
 have := List.count_le_length (a := c) (l := s.data.toList)
 rw [bytes_len] at this
 omega
theorem SplitC_c (c : UInt8) (s : ByteArray) (hs : s.size ≤ 4000000000) (w : World) (hT : Tabs w) : Calls Tryz.prog 27 #[.string s, .string ⟨#[c]⟩] w fun e w' => e = .returned (.slice (some ⟨w.heap.size, 0, none⟩) (splC c s).length (splC c s).length) ∧ w' = w.alloc (.cells ((splC c s).map Value.string).toArray 9) := by
 obtain ⟨m, hm⟩ := hT.len
 have h := Tryz.strings_Split s ⟨#[c]⟩ m w (by omega) hm (Nat.le_refl 1)
 rw [← splC_len, splitC_of] at h
 exact h
theorem empty_beq (x : ByteArray) : x.toList.isEmpty = decide (x.size = 0) := by
 have e0 : (⟨#[]⟩ : ByteArray).toList = [] := by simp
 have h0 : x.toList.isEmpty = (x.toList == (⟨#[]⟩ : ByteArray).toList) := by rw [e0]; cases x.toList <;> rfl
 rw [h0, bytes_beq, decide_eq_decide]
 exact ⟨fun h => by rw [h]; rfl, fun h => size_zeroB h⟩
theorem del_c (x : ByteArray) (w : World) : Calls Tryz.prog 261 #[.string x] w fun e w' => e = .returned (.bool (decide (x.size = 0))) ∧ w' = w := by
 go_enter Tryz.func261, Tryz.ntmps261
 go_wp2_with fail
 go_returns
 exact ⟨congrArg Ending.returned (vb (empty_beq x)), rfl⟩
theorem wrds_filter (s : ByteArray) : ((splC 32 s).filter fun x => !decide (x.size = 0)) = wrds s := by
 unfold wrds
 congr 1
 funext t
 by_cases h : t.size = 0
 · rw [decide_eq_true h, decide_eq_false (show ¬ 0 < t.size by omega)]; rfl
 · rw [decide_eq_false h, decide_eq_true (show 0 < t.size by omega)]; rfl
theorem wrds_le (s : ByteArray) : (wrds s).length ≤ s.size + 1 := Nat.le_trans (List.length_filter_le _ _) (splC_le 32 s)
set_option maxRecDepth 100000 in
set_option maxHeartbeats 1600000 in
theorem SplitWords_c (s : ByteArray) (hs : s.size ≤ 4194304) (w : World) (hT : Tabs w) : Calls Tryz.prog 208 #[.string s] w (OutC 9 1 (wrds s).length ((wrds s).map Value.string) w) := by
 have HT := qH hT
 clear hT
 have hSP := SplitC_c 32 s (by omega) w HT.out
 obtain ⟨L, hL⟩ : ∃ L, L = splC 32 s := ⟨_, rfl⟩
 have hlen : L.length ≤ 4194305 := by have := splC_le 32 s; rw [hL]; omega
 have hW : (L.filter fun x => !decide (x.size = 0)) = wrds s := by rw [hL]; exact wrds_filter s
 rw [← hL] at hSP
 clear hL
 have hown : (w.alloc (.cells (L.map Value.string).toArray 9)).ownsRow w.heap.size 9 1 (.slice (some ⟨w.heap.size, 0, none⟩) L.length L.length) L.length (L.map Value.string) := by
   have h := World.ownsRow_lit (base := w.heap.size) (e := 9) (size := 1) w (L.map Value.string).toArray L.length (Nat.le_refl _) (by unfold maxLen; omega) (by simp)
   simpa using h
 obtain ⟨W, hWe⟩ : ∃ W, W = w.alloc (.cells (L.map Value.string).toArray 9) := ⟨_, rfl⟩
 have hb : Below w.heap.size w W := by rw [hWe]; exact bl_alloc (Below.refl _ _) _
 rw [← hWe] at hown hSP
 have eg : ∀ args w, (callFunc 261 args).run Tryz.prog w = .ok (.enter 261 args) w := enters_of Tryz.func261 (by kernel_rfl) rfl
 have hp : PredAt Tryz.prog 261 #[] Value.string (fun x => decide (x.size = 0)) W := fun W' x _ => (del_c x W').mono fun e w' h => ⟨h.1, 0, h.2⟩
 have hpo : PredOver Tryz.prog 261 #[] Value.string (fun x => decide (x.size = 0)) w.heap.size 0 L.toArray.size W := fun n os dk x _ => (del_c x _).mono fun e w' h => ⟨h.1, 0, h.2⟩
 have hH : Sort.Holds Value.string W w.heap.size 0 L.toArray := by
   obtain ⟨g, cap, e, _, _, _, _, _, h⟩ := Lib.holds_of_ownsRow hown (by simp)
   injection e with e1
   injection e1 with e1
   injection e1 with e1
   rw [← e1] at h
   exact h
 have hD := Tryz.slices_DeleteFunc Value.string (fun _ => rfl) (fun x : ByteArray => decide (x.size = 0)) 261 #[] eg ByteArray.empty (fun w => by kernel_rfl) w.heap.size 0 L.length L.toArray W hp hpo hH (by simp; omega) (by simp)
 have e1 : L.toArray.size = L.length := by simp
 have e2 : L.toArray.toList = L := by simp
 rw [e1, e2, hW] at hD
 have hk : (wrds s).length ≤ L.length := by rw [← hW]; exact List.length_filter_le _ _
 obtain ⟨WS, hWS⟩ : ∃ z, z = wrds s := ⟨_, rfl⟩
 rw [← hWS] at hD hk ⊢
 have HD := qH hD
 have HSP := qH hSP
 have HOW := qH hown
 have HB := qH hb
 clear hD hSP hown hb eg hp hpo hH e1 e2 hW hWS
 obtain ⟨g, hg⟩ : ∃ z, z = w.heap.size := ⟨_, rfl⟩
 rw [← hg] at HSP HD HOW
 have HG := qH hg
 clear hg hWe
 go_enter Tryz.func208, Tryz.ntmps208
 go_wp2_with fail
 refine HSP.out.mono ?_
 rintro e w1 ⟨rfl, hq⟩
 rw [hq]
 clear hq w1
 go_wp2_with fail
 refine HD.out.mono ?_
 rintro e w1 ⟨rfl, q, hq⟩
 rw [hq]
 clear hq w1
 go_wp2_with fail
 go_returns
 have ho := Lib.ownsRow_putRow (q := q) (ys := WS ++ List.replicate (L.length - WS.length) ByteArray.empty) HOW.out (by rw [List.length_append, List.length_replicate]; omega) hk
 rw [List.take_left'  rfl] at ho
 unfold OutC
 rw [← HG.out]
 exact ⟨_, _, rfl, ho, Lib.below_putRow (by rw [HG.out]; exact HB.out) (by rw [HG.out]; exact Nat.le_refl _)⟩
theorem flat_str (l : List ByteArray) : flat scell l = l.map Value.string := by
 unfold flat
 induction l with
 | nil => rfl
 | cons a r ih => rw [List.flatMap_cons, ih]; rfl
set_option maxRecDepth 100000 in
set_option maxHeartbeats 1600000 in
theorem clauseWord_c (s : ByteArray) (hs : s.size ≤ 4194304) (w : World) (hT : Tabs w) : Calls Tryz.prog 207 #[.string s] w (Ret (.string (hdW s)) w) := by
 have HT := qH hT
 clear hT
 have hle := wrds_le s
 obtain ⟨WS, hWS⟩ : ∃ z, z = wrds s := ⟨_, rfl⟩
 have HSW := SplitWords_c s hs w HT.out
 unfold OutC at HSW
 have hh : hdW s = WS.headD ⟨#[]⟩ := by rw [hWS]; rfl
 rw [← hWS] at HSW hle
 replace HSW := qH HSW
 have HH := qH hh
 clear hWS hh
 obtain ⟨n, hn⟩ : ∃ z, z = WS.length := ⟨_, rfl⟩
 rw [← hn] at HSW hle
 go_enter Tryz.func207, Tryz.ntmps207
 go_wp2_with fail
 refine HSW.out.mono ?_
 rintro e W ⟨A, c, rfl, ho, hb⟩
 have hA := Arr.own ho
 clear ho
 cases WS with
 | nil =>
   subst hn
   go_wp2_with fail
   go_returns
   exact Ret.mk (vs (by rw [HH.out]; rfl)) hb
 | cons t r =>
   have h0 : (n : Int) ≠ 0 := by rw [hn, List.length_cons]; omega
   have h1 : ((n : Int) == 0) = false := by rw [beq_eq_false_iff_ne]; exact h0
   have h2 : 0 < n := by omega
   rw [← flat_str] at hA
   obtain ⟨ad, had, _, c0⟩ := scell_at (k := 0) hA rfl
   subst had
   replace c0 : W.cell? ad = some (.string t) := c0
   have HN := qH hn
   clear hn
   go_wp2_with fail
   go_returns
   exact Ret.mk (vs (by rw [HH.out]; rfl)) hb
set_option maxHeartbeats 800000 in
theorem isNumber_c (s : ByteArray) (hs : s.size ≤ 4194304) (lo hi : Int) (w : World) (hT : Tabs w) : Calls Tryz.prog 210 #[.string s, .int .i64 lo, .int .i64 hi] w (Ret (.bool (numOk s lo hi)) w) := by
 have HRD := qH (ReadDecimal_c s (by omega) w hT)
 clear hT
 obtain ⟨v, hv⟩ : ∃ z, z = numV s := ⟨_, rfl⟩
 obtain ⟨b, hb⟩ : ∃ z, z = okN s.data.toList := ⟨_, rfl⟩
 have hN : numOk s lo hi = (b && inB v lo hi) := by rw [hv, hb]; rfl
 rw [← hv, ← hb] at HRD
 have HNN := qH hN
 clear hv hb hN
 go_enter Tryz.func210, Tryz.ntmps210
 go_wp2_with fail
 refine HRD.out.mono ?_
 rintro e W ⟨rfl, hb⟩
 cases b
 · go_wp2_with fail
   go_returns
   exact Ret.mk (vb (by rw [HNN.out]; rfl)) hb
 · go_wp2_with (go_at_call 68; refine (within_c _ _ _ _).mono ?_; rintro e w' ⟨rfl, rfl⟩)
   go_returns
   exact Ret.mk (vb (by rw [HNN.out]; rfl)) hb
def OutWd (s : ByteArray) (w : World) (e : Ending) (w' : World) : Prop := ∃ A n c, e = .returned (.slice A n c) ∧ (wrds s).length = n ∧ Arr w' A (flat scell (wrds s)) ∧ Below w.heap.size w w'
theorem SplitWordsR_c (s : ByteArray) (hs : s.size ≤ 4194304) (w : World) (hT : Tabs w) : Calls Tryz.prog 208 #[.string s] w (OutWd s w) :=
 (SplitWords_c s hs w hT).mono fun e w' ⟨A, c, he, ho, hb⟩ => ⟨A, _, c, he, rfl, by rw [flat_str]; exact Arr.own ho, hb⟩
theorem kind_beq {t : ByteArray} {k : Int} (hk : kindW t = k) : (t.toList == wUpper.toList) = decide (k = 0) ∧ (t.toList == wLining.toList) = decide (k = 1) ∧ (t.toList == wSole.toList) = decide (k = 2) ∧ (t.toList == wHeel.toList) = decide (k = 3) ∧ (t.toList == wEyelets.toList) = decide (k = 4) ∧ (t.toList == wStitch.toList) = decide (k = 5) := by
 simp only [bytes_beq, decide_eq_decide]
 have hd : wUpper ≠ wLining ∧ wUpper ≠ wSole ∧ wUpper ≠ wHeel ∧ wUpper ≠ wEyelets ∧ wUpper ≠ wStitch ∧ wLining ≠ wSole ∧ wLining ≠ wHeel ∧ wLining ≠ wEyelets ∧ wLining ≠ wStitch ∧ wSole ≠ wHeel ∧ wSole ≠ wEyelets ∧ wSole ≠ wStitch ∧ wHeel ≠ wEyelets ∧ wHeel ≠ wStitch ∧ wEyelets ≠ wStitch := by decide
 obtain ⟨d1, d2, d3, d4, d5, d6, d7, d8, d9, d10, d11, d12, d13, d14, d15⟩ := hd
 subst hk
 rcases kind_cases t with ⟨rfl, hk⟩ | ⟨rfl, hk⟩ | ⟨rfl, hk⟩ | ⟨rfl, hk⟩ | ⟨rfl, hk⟩ | ⟨rfl, hk⟩ | ⟨hn, hk⟩ <;> rw [hk]
 · simp [d1, d2, d3, d4, d5]
 · simp [d1.symm, d6, d7, d8, d9]
 · simp [d2.symm, d6.symm, d10, d11, d12]
 · simp [d3.symm, d7.symm, d10.symm, d13, d14]
 · simp [d4.symm, d8.symm, d11.symm, d13.symm, d15]
 · simp [d5.symm, d9.symm, d12.symm, d14.symm, d15.symm]
 · simp only [styW, List.mem_cons, List.not_mem_nil, or_false, not_or] at hn
   simp [hn]
theorem kind_has (t : ByteArray) : Lib.containsS styW t = decide (0 ≤ kindW t) := by
 rw [Bool.eq_iff_iff, Lib.containsS_iff, decide_eq_true_eq]
 rcases kind_cases t with ⟨rfl, hk⟩ | ⟨rfl, hk⟩ | ⟨rfl, hk⟩ | ⟨rfl, hk⟩ | ⟨rfl, hk⟩ | ⟨rfl, hk⟩ | ⟨hn, hk⟩ <;> rw [hk]
 · simp [styW]
 · simp [styW]
 · simp [styW]
 · simp [styW]
 · simp [styW]
 · simp [styW]
 · constructor
   · intro h; exact absurd h hn
   · intro h; exact absurd h (by omega)
theorem StyleWords_c (w : World) : Calls Tryz.prog 140 #[] w fun e w' => e = .returned (.slice (some ⟨w.heap.size, 0, none⟩) 6 6) ∧ w' = w.alloc (.cells (styW.map Value.string).toArray 9) := by
 go_enter Tryz.func140, Tryz.ntmps140
 go_wp2_with fail
 go_returns
 exact ⟨rfl, rfl⟩
theorem containsSty_c (g : Nat) (x : ByteArray) (w : World) (h : ∀ j, j < 6 → w.cell? ⟨g, j, none⟩ = some (.string (styW.getD j ByteArray.empty))) : Calls Tryz.prog 30 #[.slice (some ⟨g, 0, none⟩) 6 6, .string x] w (RetQ (.bool (decide (0 ≤ kindW x))) w) := by
 have h2 := Tryz.slices_Contains_string g 0 6 6 styW x w (by decide) (by omega) (by intro j hj; rw [Nat.zero_add]; exact h j hj)
 rw [show styW.take 6 = styW from rfl, kind_has] at h2
 exact h2
theorem spl_partS (c : UInt8) : ∀ l p : List UInt8, p ∈ spl c l → p.length ≤ l.length := by
 intro l
 induction l with
 | nil => intro p h; simp only [spl, List.mem_singleton] at h; subst h; simp
 | cons b l ih =>
   intro p h
   simp only [spl] at h
   split at h
   · rcases List.mem_cons.1 h with rfl | h
     · simp
     · have := ih p h; simp only [List.length_cons]; omega
   · cases hs : spl c l with
     | nil => exact absurd hs (spl_ne c l)
     | cons x r =>
       rw [hs] at h ih
       simp only [glue, List.mem_cons] at h
       rcases h with rfl | h
       · have := ih x (by simp); simp only [List.cons_append, List.nil_append, List.length_cons]; omega
       · have := ih p (by simp [h]); simp only [List.length_cons]; omega
theorem splC_part {c : UInt8} {s x : ByteArray} (h : x ∈ splC c s) : x.size ≤ s.size := by
 unfold splC at h
 obtain ⟨l, hl, rfl⟩ := List.mem_map.1 h
 have h1 := spl_partS c _ _ hl
 rw [bytes_len] at h1
 rw [show (ByteArray.mk l.toArray).size = l.length from by simp only [ByteArray.size, List.size_toArray]]
 exact h1
theorem wrds_part {s x : ByteArray} (h : x ∈ wrds s) : x.size ≤ s.size := splC_part (List.mem_filter.1 h).1
theorem len_two {α : Type} {l : List α} (h : l.length = 2) : ∃ a b, l = [a, b] := by
 rcases l with _ | ⟨a, _ | ⟨b, _ | ⟨c, l⟩⟩⟩ <;> simp at h
 exact ⟨a, b, rfl⟩
theorem len_three {α : Type} {l : List α} (h : l.length = 3) : ∃ a b c, l = [a, b, c] := by
 rcases l with _ | ⟨a, _ | ⟨b, _ | ⟨c, _ | ⟨d, l⟩⟩⟩⟩ <;> simp at h
 exact ⟨a, b, c, rfl⟩
theorem prob_three {t : ByteArray} {r : List ByteArray} (hk : kindW t = 0 ∨ kindW t = 2) (h : (t :: r).length ≠ 3) : prob (t :: r) = 2 := by
 rcases hk with hk | hk <;> rcases r with _ | ⟨a, _ | ⟨b, _ | ⟨c, r⟩⟩⟩ <;> simp [prob, hk] at h ⊢
theorem prob_two {t : ByteArray} {r : List ByteArray} (hk : kindW t = 1 ∨ kindW t = 3 ∨ kindW t = 4) (h : (t :: r).length ≠ 2) : prob (t :: r) = 2 := by
 rcases hk with hk | hk | hk <;> rcases r with _ | ⟨a, _ | ⟨b, r⟩⟩ <;> simp [prob, hk] at h ⊢
theorem prob_five {t : ByteArray} {r : List ByteArray} (hk : kindW t = 5) (h : (t :: r).length ≠ 2) (h3 : (t :: r).length ≠ 3) : prob (t :: r) = 2 := by
 rcases r with _ | ⟨a, _ | ⟨b, _ | ⟨c, r⟩⟩⟩ <;> simp [prob, hk] at h h3 ⊢
theorem prob_neg {l : List ByteArray} (h : kindW (l.headD ⟨#[]⟩) < 0) : prob l = 1 := by
 cases l with
 | nil => rfl
 | cons t r =>
   rcases kind_cases t with ⟨_, hk⟩ | ⟨_, hk⟩ | ⟨_, hk⟩ | ⟨_, hk⟩ | ⟨_, hk⟩ | ⟨_, hk⟩ | ⟨_, hk⟩ <;> simp only [List.headD_cons, hk] at h
   all_goals first | (simp [prob, hk]; done) | omega
set_option maxRecDepth 100000 in
set_option maxHeartbeats 8000000 in
theorem clauseProblem_c (s : ByteArray) (hs : s.size ≤ 4194304) (w : World) (hT : Tabs w) : Calls Tryz.prog 143 #[.string s] w (Ret (.int .i64 (prob (wrds s))) w) := by
 have HT := qH hT
 clear hT
 have hle := wrds_le s
 have HPT := qH (fun x (hx : x ∈ wrds s) => Nat.le_trans (wrds_part hx) hs)
 have HSW := fun w h => SplitWordsR_c s hs w h
 have HCW := fun w h => clauseWord_c s hs w h
 unfold hdW at HCW
 unfold OutWd at HSW
 obtain ⟨WS, hWS⟩ : ∃ z, z = wrds s := ⟨_, rfl⟩
 rw [← hWS] at HSW HCW hle HPT ⊢
 obtain ⟨t, ht⟩ : ∃ z, z = WS.headD ⟨#[]⟩ := ⟨_, rfl⟩
 rw [← ht] at HCW
 replace HSW := qH HSW
 replace HCW := qH HCW
 have HTT := qH ht
 clear hWS ht
 go_enter Tryz.func143, Tryz.ntmps143
 go_wp2_with fail
 refine (HSW.out _ HT.out).mono ?_
 rintro e W ⟨A, n, c, rfl, hn', hA', hv⟩
 have hn := qH hn'
 have hA := qH hA'
 clear hn' hA' HSW
 go_wp2_with fail
 refine (StyleWords_c _).mono ?_
 rintro e W1 ⟨rfl, hq⟩
 obtain ⟨g, hg⟩ : ∃ z, z = W.heap.size := ⟨_, rfl⟩
 have hC : Hid (Blk W1 g 9 (styW.map Value.string).toArray) := qH (by rw [hq, hg]; exact Blk.new _ _ _)
 have hb : Below W.heap.size W W1 := by rw [hq]; exact bl_alloc (Below.refl _ _) _
 rw [← hg]
 clear hq hg
 replace hv := bl_trans hv hb
 replace hA := qH (hA.out.below hb)
 clear hb
 go_wp2_with fail
 refine (HCW.out _ (HT.out.below hv)).mono ?_
 rintro e W2 ⟨rfl, hb⟩
 replace hv := bl_trans hv hb
 replace hA := qH (hA.out.below hb)
 have hC2 := qH (hC.out.below hb)
 clear hb hC HCW
 go_wp2_with fail
 refine (containsSty_c g t W2 (fun j hj => by
   rw [hC2.out.cell j]
   rcases j with _ | _ | _ | _ | _ | _ | j <;> first | rfl | omega)).mono ?_
 rintro e w' ⟨rfl, hq⟩
 rw [hq]
 clear hq w' hC2
 by_cases hk0 : kindW t < 0
 · have hd : decide (0 ≤ kindW t) = false := decide_eq_false (by omega)
   have HP := qH (prob_neg (l := WS) (by rw [← HTT.out]; exact hk0))
   rw [hd]
   clear hd
   go_wp2_with fail
   go_returns
   exact Ret.mk (vi (by rw [HP.out])) hv
 have hd : decide (0 ≤ kindW t) = true := decide_eq_true (by omega)
 rw [hd]
 clear hd
 obtain ⟨r, hr⟩ : ∃ r, WS = t :: r := by
   have h := HTT.out
   cases WS with
   | nil => rw [List.headD_nil] at h; rw [h] at hk0; exact absurd (show kindW ⟨#[]⟩ < 0 by decide) hk0
   | cons a r => rw [List.headD_cons] at h; subst h; exact ⟨r, rfl⟩
 subst hr
 obtain ⟨ad, had, _, c0⟩ := scell_at (k := 0) hA.out rfl
 subst had
 replace c0 : W2.cell? ad = some (.string t) := c0
 have hn0 : 0 < n := by have := hn.out; rw [List.length_cons] at this; omega
 have hn1 : (0 : Int) < (n : Int) := by omega
 clear HTT
 obtain ⟨k, hk⟩ : ∃ z, z = kindW t := ⟨_, rfl⟩
 obtain ⟨e0, e1, e2, e3, e4, e5⟩ := kind_beq hk.symm
 have hkk : k = 0 ∨ k = 1 ∨ k = 2 ∨ k = 3 ∨ k = 4 ∨ k = 5 := by
   rcases kind_cases t with ⟨_, h⟩ | ⟨_, h⟩ | ⟨_, h⟩ | ⟨_, h⟩ | ⟨_, h⟩ | ⟨_, h⟩ | ⟨_, h⟩ <;> omega
 clear hk0
 have HK := qH hk.symm
 clear hk
 rw [show wUpper.toList = [117, 112, 112, 101, 114] from by simp [wUpper]] at e0
 rw [show wLining.toList = [108, 105, 110, 105, 110, 103] from by simp [wLining]] at e1
 rw [show wSole.toList = [115, 111, 108, 101] from by simp [wSole]] at e2
 rw [show wHeel.toList = [104, 101, 101, 108] from by simp [wHeel]] at e3
 rw [show wEyelets.toList = [101, 121, 101, 108, 101, 116, 115] from by simp [wEyelets]] at e4
 rw [show wStitch.toList = [115, 116, 105, 116, 99, 104] from by simp [wStitch]] at e5
 rcases hkk with rfl | rfl | rfl | rfl | rfl | rfl
 · skip
   replace e0 := e0.trans (show decide ((0 : Int) = 0) = true from by decide)
   replace e1 := e1.trans (show decide ((0 : Int) = 1) = false from by decide)
   replace e2 := e2.trans (show decide ((0 : Int) = 2) = false from by decide)
   replace e3 := e3.trans (show decide ((0 : Int) = 3) = false from by decide)
   replace e4 := e4.trans (show decide ((0 : Int) = 4) = false from by decide)
   replace e5 := e5.trans (show decide ((0 : Int) = 5) = false from by decide)
   by_cases hc : n = 3
   · subst hc
     obtain ⟨t', a, b, hsh⟩ := len_three hn.out
     injection hsh with h1 h2
     subst h1
     subst h2
     obtain ⟨ad1, had1, _, c1⟩ := scell_at (k := 1) hA.out rfl
     injection had1 with had1
     subst had1
     replace c1 : W2.cell? ⟨ad.block, ad.off + 1, none⟩ = some (.string a) := c1
     have ha := Nat.le_trans (HPT.out a (by simp)) (by omega : 4194304 ≤ 9223372036854775807)
     obtain ⟨ad2, had2, _, c2⟩ := scell_at (k := 2) hA.out rfl
     injection had2 with had2
     subst had2
     replace c2 : W2.cell? ⟨ad.block, ad.off + 2, none⟩ = some (.string b) := c2
     have hb2 := Nat.le_trans (HPT.out b (by simp)) (by omega : 4194304 ≤ 9223372036854775807)
     obtain ⟨v1, hv1⟩ : ∃ z, z = nameB a := ⟨_, rfl⟩
     have Hv1 := fun w => IsName_c a ha w
     rw [← hv1] at Hv1
     replace Hv1 := qH Hv1
     obtain ⟨v2, hv2⟩ : ∃ z, z = nameB b := ⟨_, rfl⟩
     have Hv2 := fun w => IsName_c b hb2 w
     rw [← hv2] at Hv2
     replace Hv2 := qH Hv2
     have HP := qH (show prob [t, a, b] = if (v1 && v2) = true then 0 else 4 from by simp [prob, HK.out, hv1, hv2])
     clear hv1 hv2 HK
     cases v1
     · go_wp2_with fail
       refine (Hv1.out _).mono ?_
       rintro e w' ⟨rfl, hq⟩
       rw [hq]
       clear hq w'
       go_wp2_with fail
       go_returns
       exact Ret.mk (vi (by rw [HP.out]; rfl)) hv
     · cases v2
       · go_wp2_with fail
         refine (Hv1.out _).mono ?_
         rintro e w' ⟨rfl, hq⟩
         rw [hq]
         clear hq w'
         go_wp2_with fail
         refine (Hv2.out _).mono ?_
         rintro e w' ⟨rfl, hq⟩
         rw [hq]
         clear hq w'
         go_wp2_with fail
         go_returns
         exact Ret.mk (vi (by rw [HP.out]; rfl)) hv
       · go_wp2_with fail
         refine (Hv1.out _).mono ?_
         rintro e w' ⟨rfl, hq⟩
         rw [hq]
         clear hq w'
         go_wp2_with fail
         refine (Hv2.out _).mono ?_
         rintro e w' ⟨rfl, hq⟩
         rw [hq]
         clear hq w'
         go_wp2_with fail
         go_returns
         exact Ret.mk (vi (by rw [HP.out]; rfl)) hv
   · skip
     have HP := qH (prob_three (.inl HK.out) (by rw [hn.out]; exact hc))
     have q3 : ((n : Int) != 3) = true := by rw [bne_iff_ne]; omega
     go_wp2_with fail
     go_returns
     exact Ret.mk (vi (by rw [HP.out])) hv
 · skip
   replace e0 := e0.trans (show decide ((1 : Int) = 0) = false from by decide)
   replace e1 := e1.trans (show decide ((1 : Int) = 1) = true from by decide)
   replace e2 := e2.trans (show decide ((1 : Int) = 2) = false from by decide)
   replace e3 := e3.trans (show decide ((1 : Int) = 3) = false from by decide)
   replace e4 := e4.trans (show decide ((1 : Int) = 4) = false from by decide)
   replace e5 := e5.trans (show decide ((1 : Int) = 5) = false from by decide)
   by_cases hc : n = 2
   · subst hc
     obtain ⟨t', a, hsh⟩ := len_two hn.out
     injection hsh with h1 h2
     subst h1
     subst h2
     obtain ⟨ad1, had1, _, c1⟩ := scell_at (k := 1) hA.out rfl
     injection had1 with had1
     subst had1
     replace c1 : W2.cell? ⟨ad.block, ad.off + 1, none⟩ = some (.string a) := c1
     have ha := Nat.le_trans (HPT.out a (by simp)) (by omega : 4194304 ≤ 9223372036854775807)
     obtain ⟨v1, hv1⟩ : ∃ z, z = nameB a := ⟨_, rfl⟩
     have Hv1 := fun w => IsName_c a ha w
     rw [← hv1] at Hv1
     replace Hv1 := qH Hv1
     have HP := qH (show prob [t, a] = if v1 = true then 0 else 4 from by simp [prob, HK.out, hv1])
     clear hv1 HK
     cases v1
     · go_wp2_with fail
       refine (Hv1.out _).mono ?_
       rintro e w' ⟨rfl, hq⟩
       rw [hq]
       clear hq w'
       go_wp2_with fail
       go_returns
       exact Ret.mk (vi (by rw [HP.out]; rfl)) hv
     · go_wp2_with fail
       refine (Hv1.out _).mono ?_
       rintro e w' ⟨rfl, hq⟩
       rw [hq]
       clear hq w'
       go_wp2_with fail
       go_returns
       exact Ret.mk (vi (by rw [HP.out]; rfl)) hv
   · skip
     have HP := qH (prob_two (.inl HK.out) (by rw [hn.out]; exact hc))
     have q3 : ((n : Int) != 2) = true := by rw [bne_iff_ne]; omega
     go_wp2_with fail
     go_returns
     exact Ret.mk (vi (by rw [HP.out])) hv
 · skip
   replace e0 := e0.trans (show decide ((2 : Int) = 0) = false from by decide)
   replace e1 := e1.trans (show decide ((2 : Int) = 1) = false from by decide)
   replace e2 := e2.trans (show decide ((2 : Int) = 2) = true from by decide)
   replace e3 := e3.trans (show decide ((2 : Int) = 3) = false from by decide)
   replace e4 := e4.trans (show decide ((2 : Int) = 4) = false from by decide)
   replace e5 := e5.trans (show decide ((2 : Int) = 5) = false from by decide)
   by_cases hc : n = 3
   · subst hc
     obtain ⟨t', a, b, hsh⟩ := len_three hn.out
     injection hsh with h1 h2
     subst h1
     subst h2
     obtain ⟨ad1, had1, _, c1⟩ := scell_at (k := 1) hA.out rfl
     injection had1 with had1
     subst had1
     replace c1 : W2.cell? ⟨ad.block, ad.off + 1, none⟩ = some (.string a) := c1
     have ha := Nat.le_trans (HPT.out a (by simp)) (by omega : 4194304 ≤ 9223372036854775807)
     obtain ⟨ad2, had2, _, c2⟩ := scell_at (k := 2) hA.out rfl
     injection had2 with had2
     subst had2
     replace c2 : W2.cell? ⟨ad.block, ad.off + 2, none⟩ = some (.string b) := c2
     have hb2 := Nat.le_trans (HPT.out b (by simp)) (by omega : 4194304 ≤ 9223372036854775807)
     obtain ⟨v1, hv1⟩ : ∃ z, z = nameB a := ⟨_, rfl⟩
     have Hv1 := fun w => IsName_c a ha w
     rw [← hv1] at Hv1
     replace Hv1 := qH Hv1
     obtain ⟨v2, hv2⟩ : ∃ z, z = numOk b 10 300 := ⟨_, rfl⟩
     have Hv2 := fun w h => isNumber_c b (HPT.out b (by simp)) 10 300 w h
     rw [← hv2] at Hv2
     replace Hv2 := qH Hv2
     have HP := qH (show prob [t, a, b] = if v1 = true then (if v2 = true then 0 else 3) else 4 from by simp [prob, HK.out, hv1, hv2])
     clear hv1 hv2 HK
     go_wp2_with fail
     have HS := qH (show (fun w' : World => Below w.heap.size w w' ∧ w'.cell? ⟨ad.block, ad.off + 1, none⟩ = some (.string a) ∧ w'.cell? ⟨ad.block, ad.off + 2, none⟩ = some (.string b)) W2.drew from ⟨hv.drew, bl_cell (Below.refl _ _).drew c1, bl_cell (Below.refl _ _).drew c2⟩)
     clear hv c1 c2
     go_region_held3 (fun w' => Below w.heap.size w w' ∧ w'.cell? ⟨ad.block, ad.off + 1, none⟩ = some (.string a) ∧ w'.cell? ⟨ad.block, ad.off + 2, none⟩ = some (.string b))
       (first | exact HS.out | assumption | (go_split_ands; exact ⟨bl_trans (by assumption) hb, bl_cell hb (by assumption), bl_cell hb (by assumption)⟩))
       (first | (go_at_call 118; refine (Hv1.out _).mono ?_; rintro e w' ⟨rfl, hq⟩; rw [hq]; clear hq w') | (go_at_call 210; go_split_ands; refine (Hv2.out _ (HT.out.below (by assumption))).mono ?_; rintro e W3 ⟨rfl, hb⟩))
     go_split_ands
     have hv := (by assumption : Below w.heap.size w _)
     cases v1
     · go_wp2_with fail
       go_returns
       exact Ret.mk (vi (by rw [HP.out]; rfl)) hv
     cases v2
     · go_wp2_with fail
       go_returns
       exact Ret.mk (vi (by rw [HP.out]; rfl)) hv
     · go_wp2_with fail
       go_returns
       exact Ret.mk (vi (by rw [HP.out]; rfl)) hv
   · skip
     have HP := qH (prob_three (.inr HK.out) (by rw [hn.out]; exact hc))
     have q3 : ((n : Int) != 3) = true := by rw [bne_iff_ne]; omega
     go_wp2_with fail
     go_returns
     exact Ret.mk (vi (by rw [HP.out])) hv
 · skip
   replace e0 := e0.trans (show decide ((3 : Int) = 0) = false from by decide)
   replace e1 := e1.trans (show decide ((3 : Int) = 1) = false from by decide)
   replace e2 := e2.trans (show decide ((3 : Int) = 2) = false from by decide)
   replace e3 := e3.trans (show decide ((3 : Int) = 3) = true from by decide)
   replace e4 := e4.trans (show decide ((3 : Int) = 4) = false from by decide)
   replace e5 := e5.trans (show decide ((3 : Int) = 5) = false from by decide)
   by_cases hc : n = 2
   · subst hc
     obtain ⟨t', a, hsh⟩ := len_two hn.out
     injection hsh with h1 h2
     subst h1
     subst h2
     obtain ⟨ad1, had1, _, c1⟩ := scell_at (k := 1) hA.out rfl
     injection had1 with had1
     subst had1
     replace c1 : W2.cell? ⟨ad.block, ad.off + 1, none⟩ = some (.string a) := c1
     have ha := Nat.le_trans (HPT.out a (by simp)) (by omega : 4194304 ≤ 9223372036854775807)
     obtain ⟨v1, hv1⟩ : ∃ z, z = numOk a 0 1200 := ⟨_, rfl⟩
     have Hv1 := fun w h => isNumber_c a (HPT.out a (by simp)) 0 1200 w h
     rw [← hv1] at Hv1
     replace Hv1 := qH Hv1
     have HP := qH (show prob [t, a] = if v1 = true then 0 else 3 from by simp [prob, HK.out, hv1])
     clear hv1 HK
     go_wp2_with fail
     refine (Hv1.out _ (HT.out.below hv)).mono ?_
     rintro e W3 ⟨rfl, hb3⟩
     replace hv := bl_trans hv hb3
     clear hb3
     cases v1
     · go_wp2_with fail
       go_returns
       exact Ret.mk (vi (by rw [HP.out]; rfl)) hv
     · go_wp2_with fail
       go_returns
       exact Ret.mk (vi (by rw [HP.out]; rfl)) hv
   · skip
     have HP := qH (prob_two (.inr (.inl HK.out)) (by rw [hn.out]; exact hc))
     have q3 : ((n : Int) != 2) = true := by rw [bne_iff_ne]; omega
     go_wp2_with fail
     go_returns
     exact Ret.mk (vi (by rw [HP.out])) hv
 · skip
   replace e0 := e0.trans (show decide ((4 : Int) = 0) = false from by decide)
   replace e1 := e1.trans (show decide ((4 : Int) = 1) = false from by decide)
   replace e2 := e2.trans (show decide ((4 : Int) = 2) = false from by decide)
   replace e3 := e3.trans (show decide ((4 : Int) = 3) = false from by decide)
   replace e4 := e4.trans (show decide ((4 : Int) = 4) = true from by decide)
   replace e5 := e5.trans (show decide ((4 : Int) = 5) = false from by decide)
   by_cases hc : n = 2
   · subst hc
     obtain ⟨t', a, hsh⟩ := len_two hn.out
     injection hsh with h1 h2
     subst h1
     subst h2
     obtain ⟨ad1, had1, _, c1⟩ := scell_at (k := 1) hA.out rfl
     injection had1 with had1
     subst had1
     replace c1 : W2.cell? ⟨ad.block, ad.off + 1, none⟩ = some (.string a) := c1
     have ha := Nat.le_trans (HPT.out a (by simp)) (by omega : 4194304 ≤ 9223372036854775807)
     obtain ⟨v1, hv1⟩ : ∃ z, z = numOk a 1 12 := ⟨_, rfl⟩
     have Hv1 := fun w h => isNumber_c a (HPT.out a (by simp)) 1 12 w h
     rw [← hv1] at Hv1
     replace Hv1 := qH Hv1
     have HP := qH (show prob [t, a] = if v1 = true then 0 else 3 from by simp [prob, HK.out, hv1])
     clear hv1 HK
     go_wp2_with fail
     refine (Hv1.out _ (HT.out.below hv)).mono ?_
     rintro e W3 ⟨rfl, hb3⟩
     replace hv := bl_trans hv hb3
     clear hb3
     cases v1
     · go_wp2_with fail
       go_returns
       exact Ret.mk (vi (by rw [HP.out]; rfl)) hv
     · go_wp2_with fail
       go_returns
       exact Ret.mk (vi (by rw [HP.out]; rfl)) hv
   · skip
     have HP := qH (prob_two (.inr (.inr HK.out)) (by rw [hn.out]; exact hc))
     have q3 : ((n : Int) != 2) = true := by rw [bne_iff_ne]; omega
     go_wp2_with fail
     go_returns
     exact Ret.mk (vi (by rw [HP.out])) hv
 · skip
   replace e0 := e0.trans (show decide ((5 : Int) = 0) = false from by decide)
   replace e1 := e1.trans (show decide ((5 : Int) = 1) = false from by decide)
   replace e2 := e2.trans (show decide ((5 : Int) = 2) = false from by decide)
   replace e3 := e3.trans (show decide ((5 : Int) = 3) = false from by decide)
   replace e4 := e4.trans (show decide ((5 : Int) = 4) = false from by decide)
   replace e5 := e5.trans (show decide ((5 : Int) = 5) = true from by decide)
   by_cases hc2 : n = 2
   · subst hc2
     obtain ⟨t', a, hsh⟩ := len_two hn.out
     injection hsh with h1 h2
     subst h1
     subst h2
     obtain ⟨ad1, had1, _, c1⟩ := scell_at (k := 1) hA.out rfl
     injection had1 with had1
     subst had1
     replace c1 : W2.cell? ⟨ad.block, ad.off + 1, none⟩ = some (.string a) := c1
     have ha := Nat.le_trans (HPT.out a (by simp)) (by omega : 4194304 ≤ 9223372036854775807)
     obtain ⟨v1, hv1⟩ : ∃ z, z = numOk a 10 80 := ⟨_, rfl⟩
     have Hv1 := fun w h => isNumber_c a (HPT.out a (by simp)) 10 80 w h
     rw [← hv1] at Hv1
     replace Hv1 := qH Hv1
     have HP := qH (show prob [t, a] = if v1 = true then 0 else 3 from by simp [prob, HK.out, hv1])
     clear hv1 HK
     go_wp2_with fail
     refine (Hv1.out _ (HT.out.below hv)).mono ?_
     rintro e W3 ⟨rfl, hb3⟩
     replace hv := bl_trans hv hb3
     clear hb3
     cases v1
     · go_wp2_with fail
       go_returns
       exact Ret.mk (vi (by rw [HP.out]; rfl)) hv
     · go_wp2_with fail
       go_returns
       exact Ret.mk (vi (by rw [HP.out]; rfl)) hv
   by_cases hc3 : n = 3
   · subst hc3
     obtain ⟨t', a, b, hsh⟩ := len_three hn.out
     injection hsh with h1 h2
     subst h1
     subst h2
     obtain ⟨ad1, had1, _, c1⟩ := scell_at (k := 1) hA.out rfl
     injection had1 with had1
     subst had1
     replace c1 : W2.cell? ⟨ad.block, ad.off + 1, none⟩ = some (.string a) := c1
     have ha := Nat.le_trans (HPT.out a (by simp)) (by omega : 4194304 ≤ 9223372036854775807)
     obtain ⟨ad2, had2, _, c2⟩ := scell_at (k := 2) hA.out rfl
     injection had2 with had2
     subst had2
     replace c2 : W2.cell? ⟨ad.block, ad.off + 2, none⟩ = some (.string b) := c2
     have hb2 := Nat.le_trans (HPT.out b (by simp)) (by omega : 4194304 ≤ 9223372036854775807)
     obtain ⟨v1, hv1⟩ : ∃ z, z = numOk a 10 80 := ⟨_, rfl⟩
     have Hv1 := fun w h => isNumber_c a (HPT.out a (by simp)) 10 80 w h
     rw [← hv1] at Hv1
     replace Hv1 := qH Hv1
     obtain ⟨v2, hv2⟩ : ∃ z, z = decide (b = wDouble) := ⟨_, rfl⟩
     have q7 : (b.toList == [100, 111, 117, 98, 108, 101]) = v2 := by rw [hv2, ← bytes_beq, show wDouble.toList = [100, 111, 117, 98, 108, 101] from by simp [wDouble]]
     have HP := qH (show prob [t, a, b] = if (v1 && v2) = true then 0 else 3 from by simp [prob, HK.out, hv1, hv2])
     clear hv1 hv2 HK
     go_wp2_with fail
     refine (Hv1.out _ (HT.out.below hv)).mono ?_
     rintro e W3 ⟨rfl, hb3⟩
     replace hv := bl_trans hv hb3
     replace c2 := bl_cell hb3 c2
     clear hb3
     cases v1
     · go_wp2_with fail
       go_returns
       exact Ret.mk (vi (by rw [HP.out]; rfl)) hv
     · cases v2
       · go_wp2_with fail
         go_returns
         exact Ret.mk (vi (by rw [HP.out]; rfl)) hv
       · go_wp2_with fail
         go_returns
         exact Ret.mk (vi (by rw [HP.out]; rfl)) hv
   · skip
     have HP := qH (prob_five HK.out (by rw [hn.out]; exact hc2) (by rw [hn.out]; exact hc3))
     have q3 : ((n : Int) == 3) = false := by rw [beq_eq_false_iff_ne]; omega
     have q2 : ((n : Int) != 2) = true := by rw [bne_iff_ne]; omega
     go_wp2_with fail
     go_returns
     exact Ret.mk (vi (by rw [HP.out])) hv
end Go.Proofs.YtpiehlfffjhoaaaGreatDoor
