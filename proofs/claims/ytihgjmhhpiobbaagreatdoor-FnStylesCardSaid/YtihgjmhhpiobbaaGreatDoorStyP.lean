/- Styles: what their clauses tell: plain Lean. builds (checked beside a seat without styles). -/
import Derived.Test.YtihgjmhhpiobbaaGreatDoorRdS
import Derived.Test.YtihgjmhhpiobbaaGreatDoorSplP
import Derived.Test.YtihgjmhhpiobbaaGreatDoorSplS
namespace Go.Proofs.YtihgjmhhpiobbaaGreatDoor
open Go.RowKit

theorem bappS (a b : ByteArray) : (a ++ b).data.toList = a.data.toList ++ b.data.toList := by simp
def wrds (s : ByteArray) : List ByteArray := (splC 32 s).filter fun t => decide (0 < t.size)
def wUpper : ByteArray := ⟨#[117, 112, 112, 101, 114]⟩
def wLining : ByteArray := ⟨#[108, 105, 110, 105, 110, 103]⟩
def wSole : ByteArray := ⟨#[115, 111, 108, 101]⟩
def wHeel : ByteArray := ⟨#[104, 101, 101, 108]⟩
def wEyelets : ByteArray := ⟨#[101, 121, 101, 108, 101, 116, 115]⟩
def wStitch : ByteArray := ⟨#[115, 116, 105, 116, 99, 104]⟩
def wDouble : ByteArray := ⟨#[100, 111, 117, 98, 108, 101]⟩
def styW : List ByteArray := [wUpper, wLining, wSole, wHeel, wEyelets, wStitch]
def kindW (t : ByteArray) : Int := if t = wUpper then 0 else if t = wLining then 1 else if t = wSole then 2 else if t = wHeel then 3 else if t = wEyelets then 4 else if t = wStitch then 5 else -1
def numOk (t : ByteArray) (lo hi : Int) : Bool := okN t.data.toList && inB (numV t) lo hi
/-- the problem of a clause alone -/
def prob : List ByteArray → Int
  | [] => 1
  | t :: r =>
    if kindW t = 0 then (match r with | [a, b] => if (nameB a && nameB b) = true then 0 else 4 | _ => 2)
    else if kindW t = 1 then (match r with | [a] => if nameB a = true then 0 else 4 | _ => 2)
    else if kindW t = 2 then (match r with | [a, b] => if nameB a = true then (if numOk b 10 300 = true then 0 else 3) else 4 | _ => 2)
    else if kindW t = 3 then (match r with | [a] => if numOk a 0 1200 = true then 0 else 3 | _ => 2)
    else if kindW t = 4 then (match r with | [a] => if numOk a 1 12 = true then 0 else 3 | _ => 2)
    else if kindW t = 5 then (match r with | [a] => if numOk a 10 80 = true then 0 else 3 | [a, b] => if (numOk a 10 80 && decide (b = wDouble)) = true then 0 else 3 | _ => 2)
    else 1
/-- the style with the fields of a clause without a problem -/
def setS (x : Style) : List ByteArray → Style
  | t :: a :: r =>
    if kindW t = 0 then { x with upper := a, color := r.headD ByteArray.empty }
    else if kindW t = 1 then { x with lining := a }
    else if kindW t = 2 then { x with sole := a, thick := numV (r.headD ByteArray.empty) }
    else if kindW t = 3 then { x with heel := numV a }
    else if kindW t = 4 then { x with eyelets := numV a }
    else if kindW t = 5 then { x with density := numV a, double := decide (r.length = 1) }
    else x
  | _ => x
def styB (x : Style) : Bool := nameB x.upper && nameB x.color && (decide (x.lining.size = 0) || nameB x.lining) && nameB x.sole && inB x.thick 10 300 && inB x.heel 0 1200 && inB x.eyelets 0 12 && (decide (x.density = 0) && !x.double || inB x.density 10 80)
def spB : ByteArray := ⟨#[32]⟩
/-- the six texts of a style -/
def txt0 (x : Style) : ByteArray := ((⟨#[117, 112, 112, 101, 114, 32]⟩ ++ x.upper) ++ spB) ++ x.color
def txt1 (x : Style) : ByteArray := if x.lining.size = 0 then ⟨#[]⟩ else ⟨#[108, 105, 110, 105, 110, 103, 32]⟩ ++ x.lining
def txt2 (x : Style) : ByteArray := ((⟨#[115, 111, 108, 101, 32]⟩ ++ x.sole) ++ spB) ++ decI x.thick
def txt3 (x : Style) : ByteArray := if x.heel = 0 then ⟨#[]⟩ else ⟨#[104, 101, 101, 108, 32]⟩ ++ decI x.heel
def txt4 (x : Style) : ByteArray := if x.eyelets = 0 then ⟨#[]⟩ else ⟨#[101, 121, 101, 108, 101, 116, 115, 32]⟩ ++ decI x.eyelets
def txt5a (x : Style) : ByteArray := if x.density = 0 ∧ x.double = false then ⟨#[]⟩ else ⟨#[115, 116, 105, 116, 99, 104, 32]⟩ ++ decI x.density
def txt5 (x : Style) : ByteArray := if x.double = true then txt5a x ++ ⟨#[32, 100, 111, 117, 98, 108, 101]⟩ else txt5a x
def txts (x : Style) : List ByteArray := [txt0 x, txt1 x, txt2 x, txt3 x, txt4 x, txt5 x]
def fineT (t : ByteArray) : Bool := decide (t.size = 0) || decide (prob (wrds t) = 0)
def okL (x : Style) : Bool := (txts x).all fineT && (nameB x.upper && nameB x.color && nameB x.sole && (decide (x.lining.size = 0) || nameB x.lining))

theorem wrds_join {L : List (List UInt8)} {s : ByteArray} (h : s.data.toList = [32].intercalate L) (hL : L ≠ []) (hf : ∀ p ∈ L, (32 : UInt8) ∉ p ∧ 0 < p.length) : wrds s = L.map fun l => ⟨l.toArray⟩ := by
  unfold wrds splC
  rw [h, spl_inter L hL (fun p hp => (hf p hp).1)]
  rw [List.filter_eq_self.2]
  intro t ht
  obtain ⟨p, hp, rfl⟩ := List.mem_map.1 ht
  rw [decide_eq_true_eq]
  have := (hf p hp).2
  simpa [ByteArray.size] using this
theorem bw_data (t : ByteArray) : (⟨t.data.toList.toArray⟩ : ByteArray) = t := by cases t; simp
theorem name_len {s : ByteArray} (h : nameB s = true) : 0 < s.data.toList.length := by
  rw [bytes_len]
  by_cases h1 : s.size < 1
  · rw [nameB_long (.inr h1)] at h; cases h
  · omega
theorem name_word {s : ByteArray} (h : nameB s = true) : (32 : UInt8) ∉ s.data.toList ∧ 0 < s.data.toList.length := ⟨name_free h, name_len h⟩
theorem itoa_pos (v : Int) : 0 < (Lib.itoa v).length := by
  have h := (itoa_bare v).1
  have h2 := (dig_all v.natAbs).2
  rw [← h] at h2
  cases hv : Lib.itoa v with
  | nil => rw [hv] at h2; simp [bare] at h2
  | cons c r => simp
theorem dec_word (v : Int) : (32 : UInt8) ∉ Lib.itoa v ∧ 0 < (Lib.itoa v).length := ⟨itoa_free v, itoa_pos v⟩
theorem numOk_dec (v lo hi : Int) (h0 : -1000000000000000000 < lo) (h1 : hi < 1000000000000000000) : numOk (decI v) lo hi = inB v lo hi := by
  have hd : (decI v).data.toList = Lib.itoa v := by simp [decI]
  unfold numOk
  cases ho : okN (decI v).data.toList
  · rw [Bool.false_and]
    symm
    rw [Bool.eq_false_iff]
    intro hb
    obtain ⟨a, b⟩ := inB_iff.1 hb
    rw [hd, okN_itoa (by omega) (by omega)] at ho
    cases ho
  · rw [numV_yes ho, hd, (itoa_bare v).2, Bool.true_and]
theorem kind0 : kindW wUpper = 0 := by decide
theorem kind1 : kindW wLining = 1 := by decide
theorem kind2 : kindW wSole = 2 := by decide
theorem kind3 : kindW wHeel = 3 := by decide
theorem kind4 : kindW wEyelets = 4 := by decide
theorem kind5 : kindW wStitch = 5 := by decide
theorem size0 {t : ByteArray} (h : 0 < t.size) : decide (t.size = 0) = false := by rw [decide_eq_false_iff_not]; omega
theorem fine_empty : fineT ⟨#[]⟩ = true := by unfold fineT; rw [decide_eq_true (by rfl : (⟨#[]⟩ : ByteArray).size = 0), Bool.true_or]
theorem fine_of {t : ByteArray} (h : 0 < t.size) : fineT t = decide (prob (wrds t) = 0) := by unfold fineT; rw [size0 h, Bool.false_or]
theorem app_size (a b : ByteArray) : (a ++ b).size = a.size + b.size := ByteArray.size_append' a b
theorem lit_pos (a b : ByteArray) (h : 0 < a.size) : 0 < (a ++ b).size := by rw [app_size]; omega
theorem wrds0 {x : Style} (h1 : nameB x.upper = true) (h2 : nameB x.color = true) : wrds (txt0 x) = [wUpper, x.upper, x.color] := by
  rw [wrds_join (L := [wUpper.data.toList, x.upper.data.toList, x.color.data.toList]) _ (by simp) _]
  · simp
  · unfold txt0; simp only [bappS, spB]; simp [List.intercalate, wUpper]
  · intro p hp
    simp only [List.mem_cons, List.not_mem_nil, or_false] at hp
    rcases hp with rfl | rfl | rfl
    · decide
    · exact name_word h1
    · exact name_word h2
theorem fine0 {x : Style} (h1 : nameB x.upper = true) (h2 : nameB x.color = true) : fineT (txt0 x) = true := by
  have hw := wrds0 h1 h2
  rw [fine_of (by unfold txt0; exact lit_pos _ _ (lit_pos _ _ (lit_pos _ _ (by decide)))), hw]
  simp [prob, kind0, h1, h2]
theorem wrds1 {x : Style} (h1 : nameB x.lining = true) : wrds (⟨#[108, 105, 110, 105, 110, 103, 32]⟩ ++ x.lining) = [wLining, x.lining] := by
  rw [wrds_join (L := [wLining.data.toList, x.lining.data.toList]) _ (by simp) _]
  · simp
  · simp only [bappS]; simp [List.intercalate, wLining]
  · intro p hp
    simp only [List.mem_cons, List.not_mem_nil, or_false] at hp
    rcases hp with rfl | rfl
    · decide
    · exact name_word h1
theorem fine1 {x : Style} (h : decide (x.lining.size = 0) = true ∨ nameB x.lining = true) : fineT (txt1 x) = true := by
  unfold txt1
  by_cases h0 : x.lining.size = 0
  · rw [if_pos h0]; exact fine_empty
  · rw [if_neg h0]
    have h1 : nameB x.lining = true := by rcases h with h | h; exact absurd (of_decide_eq_true h) h0; exact h
    rw [fine_of (lit_pos _ _ (by decide)), wrds1 h1]
    simp [prob, kind1, h1]
theorem wrds2 {x : Style} (h1 : nameB x.sole = true) : wrds (txt2 x) = [wSole, x.sole, decI x.thick] := by
  rw [wrds_join (L := [wSole.data.toList, x.sole.data.toList, Lib.itoa x.thick]) _ (by simp) _]
  · simp [decI]
  · unfold txt2; simp only [bappS, spB, decI]; simp [List.intercalate, wSole]
  · intro p hp
    simp only [List.mem_cons, List.not_mem_nil, or_false] at hp
    rcases hp with rfl | rfl | rfl
    · decide
    · exact name_word h1
    · exact dec_word _
theorem fine2 {x : Style} (h1 : nameB x.sole = true) : fineT (txt2 x) = inB x.thick 10 300 := by
  have hw := wrds2 h1
  rw [fine_of (by unfold txt2; exact lit_pos _ _ (lit_pos _ _ (lit_pos _ _ (by decide)))), hw, ← numOk_dec x.thick 10 300 (by omega) (by omega)]
  simp [prob, kind2, h1]
theorem word2 (v : Int) (h w : ByteArray) (hh : h.data.toList = w.data.toList ++ [32]) (hw : (32 : UInt8) ∉ w.data.toList ∧ 0 < w.data.toList.length) : wrds (h ++ decI v) = [w, decI v] := by
  rw [wrds_join (L := [w.data.toList, Lib.itoa v]) _ (by simp) _]
  · simp [decI]
  · simp only [bappS, hh, decI]; simp [List.intercalate]
  · intro p hp
    simp only [List.mem_cons, List.not_mem_nil, or_false] at hp
    rcases hp with rfl | rfl
    · exact hw
    · exact dec_word _
theorem fine3 {x : Style} : fineT (txt3 x) = inB x.heel 0 1200 := by
  unfold txt3
  by_cases h0 : x.heel = 0
  · rw [if_pos h0, h0]; rfl
  · rw [if_neg h0, fine_of (lit_pos _ _ (by decide)), word2 _ _ wHeel (by simp [wHeel]) (by decide), ← numOk_dec x.heel 0 1200 (by omega) (by omega)]
    simp [prob, kind3]
theorem inB_one {v hi : Int} (h : v ≠ 0) : inB v 1 hi = inB v 0 hi := by
  rw [Bool.eq_iff_iff, inB_iff, inB_iff]; omega
theorem fine4 {x : Style} : fineT (txt4 x) = inB x.eyelets 0 12 := by
  unfold txt4
  by_cases h0 : x.eyelets = 0
  · rw [if_pos h0, h0]; rfl
  · rw [if_neg h0, fine_of (lit_pos _ _ (by decide)), word2 _ _ wEyelets (by simp [wEyelets]) (by decide), ← inB_one h0, ← numOk_dec x.eyelets 1 12 (by omega) (by omega)]
    simp [prob, kind4]
theorem wrds5 (v : Int) : wrds ((⟨#[115, 116, 105, 116, 99, 104, 32]⟩ ++ decI v) ++ ⟨#[32, 100, 111, 117, 98, 108, 101]⟩) = [wStitch, decI v, wDouble] := by
  rw [wrds_join (L := [wStitch.data.toList, Lib.itoa v, wDouble.data.toList]) _ (by simp) _]
  · simp [decI]
  · simp only [bappS, decI]; simp [List.intercalate, wStitch, wDouble]
  · intro p hp
    simp only [List.mem_cons, List.not_mem_nil, or_false] at hp
    rcases hp with rfl | rfl | rfl
    · decide
    · exact dec_word _
    · decide
theorem fine5 {x : Style} : fineT (txt5 x) = (decide (x.density = 0) && !x.double || inB x.density 10 80) := by
  unfold txt5 txt5a
  cases hd : x.double
  · rw [if_neg (by simp)]
    by_cases h0 : x.density = 0
    · rw [if_pos ⟨h0, rfl⟩, fine_empty, h0]; rfl
    · rw [if_neg (fun h => h0 h.1), fine_of (lit_pos _ _ (by decide)), word2 _ _ wStitch (by simp [wStitch]) (by decide), ← numOk_dec x.density 10 80 (by omega) (by omega)]
      simp [prob, kind5, h0]
  · rw [if_pos rfl, if_neg (by simp)]
    have hw := wrds5 x.density
    rw [fine_of (lit_pos _ _ (lit_pos _ _ (by decide))), hw, ← numOk_dec x.density 10 80 (by omega) (by omega)]
    simp [prob, kind5]
/-- the reference's test of a style -/
theorem okL_styB (x : Style) : okL x = styB x := by
  unfold okL styB txts
  simp only [List.all_cons, List.all_nil, Bool.and_true]
  cases h1 : nameB x.upper
  · simp
  cases h2 : nameB x.color
  · simp
  cases h3 : nameB x.sole
  · simp
  cases h4 : (decide (x.lining.size = 0) || nameB x.lining)
  · simp
  rw [fine0 h1 h2, fine1 (by rw [Bool.or_eq_true] at h4; exact h4), fine2 h3, fine3, fine4, fine5]
  simp [Bool.and_assoc]
end Go.Proofs.YtihgjmhhpiobbaaGreatDoor
