/- An order read back from its text: plain Lean. -/
import Derived.Test.YtapnllbbdfoaaaaGreatDoorMLogP
import Derived.Test.YtapnllbbdfoaaaaGreatDoorOText
import Derived.Lib.SlicesS
namespace Go.Proofs.YtapnllbbdfoaaaaGreatDoor
open Go.RowKit

def bDue : List UInt8 := [100, 117, 101]
def bLeft : List UInt8 := [108, 101, 102, 116]
def bFit : List UInt8 := [102, 105, 116, 116, 105, 110, 103, 115]
def partO (x : Order) : List (List UInt8) := [35 :: Lib.itoa x.id, x.customer.data.toList, (wordAt x.stage).data.toList, bDue, Lib.itoa x.due, bLeft, Lib.itoa x.left, bFit, Lib.itoa x.fittings]
theorem textO_data (x : Order) : (textO x).data.toList = [32].intercalate (partO x) := by
  unfold textO
  simp only [bytes_app, decI]
  simp [partO, List.intercalate, bDue, bLeft, bFit]
theorem word_free (k : Int) : (32 : UInt8) ∉ (wordAt k).data.toList := by
  unfold wordAt
  repeat' split
  all_goals decide
theorem ordB_nm {x : Order} (h : ordB x = true) : nameB x.customer = true := by
  simp only [ordB, Bool.and_eq_true] at h
  exact h.1.1.1.1.1.1.2
theorem spl_text {x : Order} (h : ordB x = true) : spl 32 (textO x).data.toList = partO x := by
  rw [textO_data]
  refine spl_inter _ (by simp [partO]) ?_
  intro p hp
  simp only [partO, List.mem_cons, List.not_mem_nil, or_false] at hp
  rcases hp with rfl | rfl | rfl | rfl | rfl | rfl | rfl | rfl | rfl
  · intro hm
    rcases List.mem_cons.1 hm with h1 | h1
    · revert h1; decide
    · exact itoa_free _ h1
  · exact name_free (ordB_nm h)
  · exact word_free _
  · decide
  · exact itoa_free _
  · decide
  · exact itoa_free _
  · decide
  · exact itoa_free _
def stgL (p : List UInt8) : Int := if p = (wordAt 0).data.toList then 0 else if p = (wordAt 1).data.toList then 1 else if p = (wordAt 2).data.toList then 2 else if p = (wordAt 3).data.toList then 3 else if p = (wordAt 4).data.toList then 4 else -1
theorem stg_bd (p : List UInt8) : -1 ≤ stgL p ∧ stgL p ≤ 4 := by
  unfold stgL
  repeat' split
  all_goals omega
theorem stg_word {k : Int} (h0 : 0 ≤ k) (h4 : k ≤ 4) : stgL (wordAt k).data.toList = k := by
  rcases (show k = 0 ∨ k = 1 ∨ k = 2 ∨ k = 3 ∨ k = 4 by omega) with rfl | rfl | rfl | rfl | rfl <;> decide
theorem word_stg {p : List UInt8} (h : 0 ≤ stgL p) : (wordAt (stgL p)).data.toList = p := by
  unfold stgL at h ⊢
  repeat' split
  all_goals first | (rename_i e; exact e.symm) | (simp_all; done) | omega
def trm (p : List UInt8) : List UInt8 := Lib.trimPrefix p [35]
theorem trm_cons (r : List UInt8) : trm (35 :: r) = r := by simp [trm, Lib.trimPrefix, Lib.hasPrefix]
def mkO (a p1 p2 p4 p6 p8 : List UInt8) : Order := ⟨numL a, ⟨p1.toArray⟩, stgL p2, numL p4, numL p6, numL p8⟩
def rdO (l : List UInt8) : Option Order := match spl 32 l with
  | [p0, p1, p2, p3, p4, p5, p6, p7, p8] =>
    if (decide (p3 = bDue) && decide (p5 = bLeft) && decide (p7 = bFit) && decide (2 ≤ p0.length) && decide (p0.head? = some 35) && okN (p0.drop 1) && okN p4 && okN p6 && okN p8 && ordB (mkO (p0.drop 1) p1 p2 p4 p6 p8)) = true
    then some (mkO (p0.drop 1) p1 p2 p4 p6 p8) else none
  | _ => none
theorem rdO_short {l : List UInt8} (h : (spl 32 l).length ≠ 9) : rdO l = none := by
  unfold rdO
  split
  · rename_i hs; rw [hs] at h; exact absurd rfl h
  · rfl
theorem rdO_nine {l p0 p1 p2 p3 p4 p5 p6 p7 p8 : List UInt8} (h : spl 32 l = [p0, p1, p2, p3, p4, p5, p6, p7, p8]) :
    rdO l = if (decide (p3 = bDue) && decide (p5 = bLeft) && decide (p7 = bFit) && decide (2 ≤ p0.length) && decide (p0.head? = some 35) && okN (p0.drop 1) && okN p4 && okN p6 && okN p8 && ordB (mkO (p0.drop 1) p1 p2 p4 p6 p8)) = true
    then some (mkO (p0.drop 1) p1 p2 p4 p6 p8) else none := by
  unfold rdO
  rw [h]
/-- as the program reads it -/
theorem rdO_prog {s : ByteArray} {p0 p1 p2 p3 p4 p5 p6 p7 p8 : List UInt8} (h : spl 32 s.data.toList = [p0, p1, p2, p3, p4, p5, p6, p7, p8]) :
    rdO s.data.toList = if (okN (trm p0) && okN p4 && okN p6 && okN p8 && decide (otB (mkO (trm p0) p1 p2 p4 p6 p8) = s)) = true then some (mkO (trm p0) p1 p2 p4 p6 p8) else none := by
  rw [rdO_nine h]
  by_cases hc : (okN (trm p0) && okN p4 && okN p6 && okN p8 && decide (otB (mkO (trm p0) p1 p2 p4 p6 p8) = s)) = true
  · rw [if_pos hc]
    simp only [Bool.and_eq_true, decide_eq_true_eq] at hc
    obtain ⟨⟨⟨⟨h0, h4⟩, h6⟩, h8⟩, ht⟩ := hc
    generalize hx : mkO (trm p0) p1 p2 p4 p6 p8 = x at *
    have hox : ordB x = true := by
      cases ho : ordB x
      · exfalso
        unfold otB at ht
        rw [ho, if_neg (by simp)] at ht
        rw [← ht] at h
        simp [spl] at h
      · rfl
    have htx : textO x = s := by unfold otB at ht; rwa [if_pos hox] at ht
    have hp := spl_text hox
    rw [htx, h] at hp
    simp only [partO, List.cons.injEq, and_true] at hp
    obtain ⟨e0, e1, e2, e3, e4, e5, e6, e7, e8⟩ := hp
    have et : trm p0 = Lib.itoa x.id := by rw [e0, trm_cons]
    have ed : p0.drop 1 = trm p0 := by rw [et, e0]; rfl
    have hlen : 1 ≤ (Lib.itoa x.id).length := by
      have h1 := (okN_iff.1 (by rw [← et]; exact h0) : 1 ≤ (bare (Lib.itoa x.id)).length ∧ _).1
      have : (bare (Lib.itoa x.id)).length ≤ (Lib.itoa x.id).length := by
        cases Lib.itoa x.id with
        | nil => simp [bare]
        | cons c r => simp only [bare]; split <;> simp
      omega
    rw [ed, hx, if_pos]
    simp only [Bool.and_eq_true, decide_eq_true_eq]
    exact ⟨⟨⟨⟨⟨⟨⟨⟨⟨e3, e5⟩, e7⟩, by rw [e0]; simp; omega⟩, by rw [e0]; rfl⟩, h0⟩, h4⟩, h6⟩, h8⟩, hox⟩
  · rw [if_neg hc, if_neg]
    intro hr
    apply hc
    simp only [Bool.and_eq_true, decide_eq_true_eq] at hr ⊢
    obtain ⟨⟨⟨⟨⟨⟨⟨⟨⟨e3, e5⟩, e7⟩, _⟩, hh⟩, h0⟩, h4⟩, h6⟩, h8⟩, hox⟩ := hr
    obtain ⟨r, hr0⟩ : ∃ r, p0 = 35 :: r := by
      cases p0 with
      | nil => simp at hh
      | cons a r => simp at hh; exact ⟨r, by rw [hh]⟩
    have ed : p0.drop 1 = trm p0 := by rw [hr0, trm_cons]; rfl
    rw [ed] at h0 hox
    refine ⟨⟨⟨⟨h0, h4⟩, h6⟩, h8⟩, ?_⟩
    unfold otB
    rw [if_pos hox]
    have hst := (ordB_all hox).2.1
    have hparts : partO (mkO (trm p0) p1 p2 p4 p6 p8) = [p0, p1, p2, p3, p4, p5, p6, p7, p8] := by
      simp only [partO, mkO, e3, e5, e7, (okN_iff.1 h0).2.2.2, (okN_iff.1 h4).2.2.2, (okN_iff.1 h6).2.2.2, (okN_iff.1 h8).2.2.2]
      have hw := word_stg (p := p2) hst.1
      rw [hw, ← ed, hr0]
      simp
    have hd : (textO (mkO (trm p0) p1 p2 p4 p6 p8)).data.toList = s.data.toList := by
      rw [textO_data, hparts, ← h, ← spl_join]
    rw [← bytes_list (textO _), hd, bytes_list]
/-- the place of a word -/
theorem idx_stg (p : ByteArray) : Lib.idxOfS [wordAt 0, wordAt 1, wordAt 2, wordAt 3, wordAt 4] p = stgL p.data.toList := by
  have key : ∀ k, (wordAt k = p) = (p.data.toList = (wordAt k).data.toList) := by
    intro k
    apply propext
    constructor
    · intro h; rw [h]
    · intro h; rw [← bytes_list p, h, bytes_list]
  unfold Lib.idxOfS stgL
  simp only [Lib.idxFromS, ← key]
  repeat' split
  all_goals first | rfl | (simp_all; done)
end Go.Proofs.YtapnllbbdfoaaaaGreatDoor
