/- Styles read back from their texts: plain Lean. builds (sty2.sh). -/
import Derived.Test.YtpiehlfffjhoaaaGreatDoorQ0
import Derived.Test.YtpiehlfffjhoaaaGreatDoorQ11
namespace Go.Proofs.YtpiehlfffjhoaaaGreatDoor
open Go.RowKit
structure TroubleP where
 clause : Int
 code : Int
def hdW (c : ByteArray) : ByteArray := (wrds c).headD ⟨#[]⟩
def memB (t : ByteArray) (l : List ByteArray) : Bool := l.any fun u => decide (u = t)
theorem memB_iff {t : ByteArray} {l : List ByteArray} : memB t l = true ↔ t ∈ l := by
 unfold memB
 rw [List.any_eq_true]
 constructor
 · rintro ⟨u, hu, h⟩
   rw [decide_eq_true_eq] at h
   subst h; exact hu
 · intro h
   exact ⟨t, h, by simp⟩
def codeT (c : ByteArray) (seen : List ByteArray) : Int := if prob (wrds c) = 0 ∧ memB (hdW c) seen = true then 5 else prob (wrds c)
def troGo : List ByteArray → List ByteArray → Nat → List TroubleP
 | [], _, _ => []
 | c :: r, seen, i => (if codeT c seen = 0 then [] else [⟨i, codeT c seen⟩]) ++ troGo r (seen ++ [hdW c]) (i + 1)
def lackT (cl : List ByteArray) : List TroubleP := if memB wUpper (cl.map hdW) = true ∧ memB wSole (cl.map hdW) = true then [] else [⟨cl.length, 6⟩]
def tro (cl : List ByteArray) : List TroubleP := troGo cl [] 0 ++ lackT cl
def zeroS : Style := ⟨⟨#[]⟩, ⟨#[]⟩, ⟨#[]⟩, ⟨#[]⟩, 0, 0, 0, 0, false⟩
def foldS (x : Style) (cl : List ByteArray) : Style := cl.foldl (fun x c => setS x (wrds c)) x
def clsOk (s : ByteArray) : Bool := decide (s.size ≤ 300) && decide ((splC 59 s).length ≤ 12)
def optT (t : ByteArray) : List ByteArray := if t.size = 0 then [] else [t]
def outT (x : Style) : List ByteArray := (txts x).flatMap optT
def textS (x : Style) : ByteArray := ⟨([59, 32].intercalate ((outT x).map (·.data.toList))).toArray⟩
theorem prob_bd (w : List ByteArray) : 0 ≤ prob w ∧ prob w ≤ 4 := by
 cases w with
 | nil => simp [prob]
 | cons t r =>
   simp only [prob]
   repeat' split
   all_goals omega
theorem troGo_nil : ∀ (cl seen : List ByteArray) (i : Nat), troGo cl seen i = [] ↔ (∀ c ∈ cl, prob (wrds c) = 0) ∧ (cl.map hdW).Nodup ∧ ∀ c ∈ cl, hdW c ∉ seen := by
 intro cl
 induction cl with
 | nil => intro seen i; simp [troGo]
 | cons c r ih =>
   intro seen i
   simp only [troGo, List.append_eq_nil_iff, ih, List.mem_cons, forall_eq_or_imp, List.map_cons, List.nodup_cons, List.mem_append, not_or, List.not_mem_nil, or_false]
   have hk : codeT c seen = 0 ↔ prob (wrds c) = 0 ∧ hdW c ∉ seen := by
     unfold codeT
     by_cases hs : memB (hdW c) seen = true
     · by_cases hp : prob (wrds c) = 0
       · rw [if_pos ⟨hp, hs⟩]; simp [memB_iff.1 hs]
       · rw [if_neg (fun h => hp h.1)]; simp [hp]
     · rw [if_neg (fun h => hs h.2)]
       have : hdW c ∉ seen := fun h => hs (memB_iff.2 h)
       simp [this]
   have hc : (if codeT c seen = 0 then ([] : List TroubleP) else [⟨i, codeT c seen⟩]) = [] ↔ prob (wrds c) = 0 ∧ hdW c ∉ seen := by
     rw [← hk]
     by_cases h0 : codeT c seen = 0 <;> simp [h0]
   rw [hc]
   constructor
   · rintro ⟨⟨a, b⟩, c1, d, e⟩
     refine ⟨⟨a, c1⟩, ⟨?_, d⟩, b, fun t ht => (e t ht).1⟩
     intro hm
     obtain ⟨t, ht, e'⟩ := List.mem_map.1 hm
     exact (e t ht).2 e'
   · rintro ⟨⟨a, c1⟩, ⟨d1, d⟩, b, e⟩
     exact ⟨⟨a, b⟩, c1, d, fun t ht => ⟨e t ht, fun e' => d1 (List.mem_map.2 ⟨t, ht, e'⟩)⟩⟩
def toldS (x : Style) (seen : List ByteArray) : Prop := (wUpper ∈ seen → nameB x.upper = true ∧ nameB x.color = true) ∧ (wSole ∈ seen → nameB x.sole = true ∧ inB x.thick 10 300 = true) ∧ (decide (x.lining.size = 0) || nameB x.lining) = true ∧ inB x.heel 0 1200 = true ∧ inB x.eyelets 0 12 = true ∧ (decide (x.density = 0) && !x.double || inB x.density 10 80) = true
theorem told_step {x : Style} {seen : List ByteArray} {c : ByteArray} (h : toldS x seen) (hp : prob (wrds c) = 0) : toldS (setS x (wrds c)) (seen ++ [hdW c]) := by
 obtain ⟨h1, h2, h3, h4, h5, h6⟩ := h
 unfold hdW
 rcases prob_forms hp with ⟨a, b, e, ha, hb⟩ | ⟨a, e, ha⟩ | ⟨a, b, e, ha, hb⟩ | ⟨a, e, ha⟩ | ⟨a, e, ha⟩ | ⟨a, e, ha⟩ | ⟨a, e, ha⟩ <;> rw [e]
 · rw [set_upper]
   refine ⟨fun _ => ⟨ha, hb⟩, fun hm => ?_, h3, h4, h5, h6⟩
   rcases List.mem_append.1 hm with hm | hm
   · exact h2 hm
   · exact absurd (List.mem_singleton.1 hm) (show wSole ≠ wUpper by decide)
 · rw [set_lining]
   refine ⟨fun hm => ?_, fun hm => ?_, by rw [Bool.or_eq_true]; exact .inr ha, h4, h5, h6⟩
   · rcases List.mem_append.1 hm with hm | hm
     · exact h1 hm
     · exact absurd (List.mem_singleton.1 hm) (show wUpper ≠ wLining by decide)
   · rcases List.mem_append.1 hm with hm | hm
     · exact h2 hm
     · exact absurd (List.mem_singleton.1 hm) (show wSole ≠ wLining by decide)
 · rw [set_sole]
   refine ⟨fun hm => ?_, fun _ => ⟨ha, numOk_in hb⟩, h3, h4, h5, h6⟩
   rcases List.mem_append.1 hm with hm | hm
   · exact h1 hm
   · exact absurd (List.mem_singleton.1 hm) (show wUpper ≠ wSole by decide)
 · rw [set_heel]
   refine ⟨fun hm => ?_, fun hm => ?_, h3, numOk_in ha, h5, h6⟩
   · rcases List.mem_append.1 hm with hm | hm
     · exact h1 hm
     · exact absurd (List.mem_singleton.1 hm) (show wUpper ≠ wHeel by decide)
   · rcases List.mem_append.1 hm with hm | hm
     · exact h2 hm
     · exact absurd (List.mem_singleton.1 hm) (show wSole ≠ wHeel by decide)
 · rw [set_eyelets]
   refine ⟨fun hm => ?_, fun hm => ?_, h3, h4, in_wide (numOk_in ha) (by omega), h6⟩
   · rcases List.mem_append.1 hm with hm | hm
     · exact h1 hm
     · exact absurd (List.mem_singleton.1 hm) (show wUpper ≠ wEyelets by decide)
   · rcases List.mem_append.1 hm with hm | hm
     · exact h2 hm
     · exact absurd (List.mem_singleton.1 hm) (show wSole ≠ wEyelets by decide)
 · rw [set_stitch]
   refine ⟨fun hm => ?_, fun hm => ?_, h3, h4, h5, by rw [Bool.or_eq_true]; exact .inr (numOk_in ha)⟩
   · rcases List.mem_append.1 hm with hm | hm
     · exact h1 hm
     · exact absurd (List.mem_singleton.1 hm) (show wUpper ≠ wStitch by decide)
   · rcases List.mem_append.1 hm with hm | hm
     · exact h2 hm
     · exact absurd (List.mem_singleton.1 hm) (show wSole ≠ wStitch by decide)
 · rw [set_double]
   refine ⟨fun hm => ?_, fun hm => ?_, h3, h4, h5, by rw [Bool.or_eq_true]; exact .inr (numOk_in ha)⟩
   · rcases List.mem_append.1 hm with hm | hm
     · exact h1 hm
     · exact absurd (List.mem_singleton.1 hm) (show wUpper ≠ wStitch by decide)
   · rcases List.mem_append.1 hm with hm | hm
     · exact h2 hm
     · exact absurd (List.mem_singleton.1 hm) (show wSole ≠ wStitch by decide)
theorem told_all : ∀ (cl : List ByteArray) (x : Style) (seen : List ByteArray), toldS x seen → (∀ c ∈ cl, prob (wrds c) = 0) → toldS (foldS x cl) (seen ++ cl.map hdW) := by
 intro cl
 induction cl with
 | nil => intro x seen h _; simpa [foldS] using h
 | cons c r ih =>
   intro x seen h hp
   have h2 := ih (setS x (wrds c)) (seen ++ [hdW c]) (told_step h (hp c (by simp))) (fun d hd => hp d (by simp [hd]))
   rw [List.append_assoc] at h2
   exact h2
theorem read_sty {cl : List ByteArray} (h : tro cl = []) : styB (foldS zeroS cl) = true := by
 unfold tro at h
 rw [List.append_eq_nil_iff, troGo_nil] at h
 obtain ⟨⟨h1, _, _⟩, h2⟩ := h
 have hm : wUpper ∈ cl.map hdW ∧ wSole ∈ cl.map hdW := by
   unfold lackT at h2
   by_cases hc : memB wUpper (cl.map hdW) = true ∧ memB wSole (cl.map hdW) = true
   · exact ⟨memB_iff.1 hc.1, memB_iff.1 hc.2⟩
   · rw [if_neg hc] at h2; cases h2
 have ht := told_all cl zeroS [] ⟨by simp, by simp, by decide, by decide, by decide, by decide⟩ h1
 rw [List.nil_append] at ht
 obtain ⟨t1, t2, t3, t4, t5, t6⟩ := ht
 rw [styB_parts]
 exact ⟨(t1 hm.1).1, (t1 hm.1).2, t3, (t2 hm.2).1, (t2 hm.2).2, t4, t5, t6⟩
theorem inter_two (c d : UInt8) (a : List UInt8) : ∀ r : List (List UInt8), [c, d].intercalate (a :: r) = [c].intercalate (a :: r.map (d :: ·)) := by
 intro r
 induction r generalizing a with
 | nil => simp [List.intercalate]
 | cons b r ih =>
   have h := ih b
   simp only [List.intercalate, List.intersperse_cons_cons, List.flatten_cons, List.map_cons] at h ⊢
   cases r with
   | nil => simp
   | cons e r =>
     simp only [List.intersperse_cons_cons, List.flatten_cons, List.map_cons] at h ⊢
     rw [h]
     simp
theorem spl_two {c d : UInt8} (hcd : c ≠ d) (a : List UInt8) (r : List (List UInt8)) (h : ∀ p ∈ a :: r, c ∉ p) : spl c ([c, d].intercalate (a :: r)) = a :: r.map (d :: ·) := by
 rw [inter_two, spl_inter _ (by simp)]
 intro p hp
 rcases List.mem_cons.1 hp with rfl | hp
 · exact h _ (by simp)
 · obtain ⟨q, hq, rfl⟩ := List.mem_map.1 hp
   intro hm
   rcases List.mem_cons.1 hm with e | hm
   · exact hcd e
   · exact h q (by simp [hq]) hm
theorem inter_len (c d : UInt8) : ∀ L : List (List UInt8), ([c, d].intercalate L).length ≤ (L.map fun l => l.length + 2).sum := by
 intro L
 induction L with
 | nil => simp [List.intercalate]
 | cons a r ih =>
   cases r with
   | nil => simp [List.intercalate]
   | cons b r =>
     simp only [List.intercalate, List.intersperse_cons_cons, List.flatten_cons, List.length_append, List.map_cons, List.sum_cons, List.length_cons, List.length_nil] at ih ⊢
     omega
theorem dec_lenS : ∀ (k u : Nat), u < 10 ^ (k + 1) → (Lib.decDigits u).length ≤ k + 1 := by
 intro k
 induction k with
 | zero => intro u h; rw [Lib.decDigits_one (by omega)]; simp
 | succ k ih =>
   intro u h
   by_cases h10 : u < 10
   · rw [Lib.decDigits_one h10]; simp
   · rw [Lib.decDigits, dif_neg h10, List.length_append]
     have h2 : u / 10 < 10 ^ (k + 1) := Nat.div_lt_of_lt_mul (by rw [Nat.mul_comm, ← Nat.pow_succ]; exact h)
     have := ih (u / 10) h2
     simp only [List.length_cons, List.length_nil]
     omega
theorem itoa_lenS {v : Int} (h : v.natAbs < 10000000) : (Lib.itoa v).length ≤ 8 := by
 unfold Lib.itoa
 split
 · have := dec_lenS 6 v.natAbs (by omega)
   simp only [List.length_cons]; omega
 · have := dec_lenS 6 v.toNat (by omega)
   omega
theorem decS_size {v : Int} (h : v.natAbs < 10000000) : (decI v).size ≤ 8 := by
 rw [← bytes_len]
 simpa [decI] using itoa_lenS h
theorem name_size {s : ByteArray} (h : nameB s = true) : s.size ≤ 12 := by
 by_cases h1 : 12 < s.size
 · rw [nameB_long (.inl h1)] at h; cases h
 · omega
theorem opt_size {s : ByteArray} (h : (decide (s.size = 0) || nameB s) = true) : s.size ≤ 12 := by
 rw [Bool.or_eq_true, decide_eq_true_eq] at h
 rcases h with h | h
 · omega
 · exact name_size h
theorem txt_sizes {x : Style} (hx : styB x = true) : (txt0 x).size ≤ 31 ∧ (txt1 x).size ≤ 19 ∧ (txt2 x).size ≤ 26 ∧ (txt3 x).size ≤ 13 ∧ (txt4 x).size ≤ 16 ∧ (txt5 x).size ≤ 22 := by
 rw [styB_parts] at hx
 obtain ⟨h1, h2, h3, h4, h5, h6, h7, h8⟩ := hx
 have n1 := name_size h1
 have n2 := name_size h2
 have n3 := opt_size h3
 have n4 := name_size h4
 rw [inB_iff] at h5 h6 h7
 have d1 := decS_size (v := x.thick) (by omega)
 have d2 := decS_size (v := x.heel) (by omega)
 have d3 := decS_size (v := x.eyelets) (by omega)
 have d4 := decS_size (v := x.density) (by
   rw [Bool.or_eq_true, Bool.and_eq_true, decide_eq_true_eq, inB_iff] at h8
   rcases h8 with h8 | h8
   · rw [h8.1]; decide
   · omega)
 have z0 : (⟨#[117, 112, 112, 101, 114, 32]⟩ : ByteArray).size = 6 := rfl
 have z1 : (⟨#[108, 105, 110, 105, 110, 103, 32]⟩ : ByteArray).size = 7 := rfl
 have z2 : (⟨#[115, 111, 108, 101, 32]⟩ : ByteArray).size = 5 := rfl
 have z3 : (⟨#[104, 101, 101, 108, 32]⟩ : ByteArray).size = 5 := rfl
 have z4 : (⟨#[101, 121, 101, 108, 101, 116, 115, 32]⟩ : ByteArray).size = 8 := rfl
 have z5 : (⟨#[115, 116, 105, 116, 99, 104, 32]⟩ : ByteArray).size = 7 := rfl
 have z6 : (⟨#[32, 100, 111, 117, 98, 108, 101]⟩ : ByteArray).size = 7 := rfl
 have zs : spB.size = 1 := rfl
 have z : (⟨#[]⟩ : ByteArray).size = 0 := rfl
 refine ⟨?_, ?_, ?_, ?_, ?_, ?_⟩
 · unfold txt0; simp only [app_size]; omega
 · unfold txt1; split
   · omega
   · simp only [app_size]; omega
 · unfold txt2; simp only [app_size]; omega
 · unfold txt3; split
   · omega
   · simp only [app_size]; omega
 · unfold txt4; split
   · omega
   · simp only [app_size]; omega
 · unfold txt5 txt5a
   split <;> split <;> (try simp only [app_size]) <;> omega
theorem numV_dec {v : Int} (h0 : -1000000000000000000 < v) (h1 : v < 1000000000000000000) : numV (decI v) = v := by
 have hd : (decI v).data.toList = Lib.itoa v := by simp [decI]
 rw [numV_yes (by rw [hd]; exact okN_itoa h0 h1), hd, (itoa_bare v).2]
theorem optT_wrds {P : Prop} [Decidable P] {a : ByteArray} (ha : 0 < a.size) : (optT (if P then ⟨#[]⟩ else a)).map wrds = if P then [] else [wrds a] := by
 by_cases h : P
 · rw [if_pos h, if_pos h]; rfl
 · rw [if_neg h, if_neg h]; unfold optT; rw [if_neg (by omega)]; rfl
theorem opt_one {a : ByteArray} (ha : 0 < a.size) : optT a = [a] := by unfold optT; rw [if_neg (by omega)]
theorem itoa_free59 (v : Int) : (59 : UInt8) ∉ Lib.itoa v := by
 have h := itoa_bare v
 have hd := (dig_all v.natAbs).1
 have key : ∀ l : List UInt8, l.all isDig = true → (59 : UInt8) ∉ l := by
   intro l hl hm
   have := List.all_eq_true.1 hl _ hm
   revert this; decide
 intro hm
 rw [← h.1] at hd
 cases hv : Lib.itoa v with
 | nil => rw [hv] at hm; cases hm
 | cons c r =>
   rw [hv] at hm hd
   simp only [bare] at hd
   split at hd
   · rename_i hc
     rcases List.mem_cons.1 hm with h1 | h1
     · rw [hc] at h1; revert h1; decide
     · exact key _ hd h1
   · exact key _ hd hm
theorem name_free59 {s : ByteArray} (h : nameB s = true) : (59 : UInt8) ∉ s.data.toList := by
 intro hm
 simp only [nameB, nameL, Bool.and_eq_true] at h
 have := List.all_eq_true.1 h.2 _ hm
 revert this; decide
theorem opt_free59 {s : ByteArray} (h : (decide (s.size = 0) || nameB s) = true) : (59 : UInt8) ∉ s.data.toList := by
 rw [Bool.or_eq_true, decide_eq_true_eq] at h
 rcases h with h | h
 · rw [size_zeroB h]; simp
 · exact name_free59 h
theorem app_free {a b : ByteArray} (h1 : (59 : UInt8) ∉ a.data.toList) (h2 : (59 : UInt8) ∉ b.data.toList) : (59 : UInt8) ∉ (a ++ b).data.toList := by
 rw [bappS, List.mem_append]
 rintro (h | h)
 · exact h1 h
 · exact h2 h
theorem dec_free59 (v : Int) : (59 : UInt8) ∉ (decI v).data.toList := by
 have : (decI v).data.toList = Lib.itoa v := by simp [decI]
 rw [this]; exact itoa_free59 v
theorem txts_free {x : Style} (hx : styB x = true) : ∀ t ∈ txts x, (59 : UInt8) ∉ t.data.toList := by
 rw [styB_parts] at hx
 obtain ⟨h1, h2, h3, h4, _, _, _, _⟩ := hx
 intro t ht
 simp only [txts, List.mem_cons, List.not_mem_nil, or_false] at ht
 rcases ht with rfl | rfl | rfl | rfl | rfl | rfl
 · exact app_free (app_free (app_free (by decide) (name_free59 h1)) (by decide)) (name_free59 h2)
 · unfold txt1; split
   · simp
   · exact app_free (by decide) (opt_free59 h3)
 · exact app_free (app_free (app_free (by decide) (name_free59 h4)) (by decide)) (dec_free59 _)
 · unfold txt3; split
   · simp
   · exact app_free (by decide) (dec_free59 _)
 · unfold txt4; split
   · simp
   · exact app_free (by decide) (dec_free59 _)
 · have h5 : (59 : UInt8) ∉ (txt5a x).data.toList := by
     unfold txt5a; split
     · simp
     · exact app_free (by decide) (dec_free59 _)
   unfold txt5; split
   · exact app_free h5 (by decide)
   · exact h5
theorem outT_mem {x : Style} {t : ByteArray} (h : t ∈ outT x) : t ∈ txts x := by
 unfold outT at h
 obtain ⟨u, hu, h⟩ := List.mem_flatMap.1 h
 unfold optT at h
 split at h
 · cases h
 · rw [List.mem_singleton] at h; subst h; exact hu
def clsW (x : Style) : List (List ByteArray) := [[wUpper, x.upper, x.color]] ++ (if x.lining.size = 0 then [] else [[wLining, x.lining]]) ++ [[wSole, x.sole, decI x.thick]] ++ (if x.heel = 0 then [] else [[wHeel, decI x.heel]]) ++
 (if x.eyelets = 0 then [] else [[wEyelets, decI x.eyelets]]) ++ (if x.double = true then [[wStitch, decI x.density, wDouble]] else if x.density = 0 then [] else [[wStitch, decI x.density]])
theorem opt5 (x : Style) : (optT (txt5 x)).map wrds = if x.double = true then [[wStitch, decI x.density, wDouble]] else if x.density = 0 then [] else [[wStitch, decI x.density]] := by
 unfold txt5 txt5a
 cases hd : x.double
 · simp only [Bool.false_eq_true, if_false]
   by_cases h0 : x.density = 0
   · rw [if_pos ⟨h0, trivial⟩, if_pos h0]; rfl
   · rw [if_neg (fun h => h0 h.1), if_neg h0, opt_one (lit_pos _ _ (by decide)), List.map_singleton, word2 _ _ wStitch (by simp [wStitch]) (by decide)]
 · simp only [if_true, Bool.true_eq_false, and_false, if_false]
   rw [opt_one (lit_pos _ _ (lit_pos _ _ (by decide))), List.map_singleton, wrds5]
theorem outT_wrds {x : Style} (hx : styB x = true) : (outT x).map wrds = clsW x := by
 rw [styB_parts] at hx
 obtain ⟨h1, h2, h3, h4, h5, h6, h7, h8⟩ := hx
 have w1 : (optT (txt1 x)).map wrds = if x.lining.size = 0 then [] else [[wLining, x.lining]] := by
   unfold txt1
   rw [optT_wrds (lit_pos _ _ (by decide))]
   by_cases h0 : x.lining.size = 0
   · rw [if_pos h0, if_pos h0]
   · rw [if_neg h0, if_neg h0, wrds1 (by rw [Bool.or_eq_true] at h3; rcases h3 with h | h; exact absurd (of_decide_eq_true h) h0; exact h)]
 have w3 : (optT (txt3 x)).map wrds = if x.heel = 0 then [] else [[wHeel, decI x.heel]] := by
   unfold txt3
   rw [optT_wrds (lit_pos _ _ (by decide)), word2 _ _ wHeel (by simp [wHeel]) (by decide)]
 have w4 : (optT (txt4 x)).map wrds = if x.eyelets = 0 then [] else [[wEyelets, decI x.eyelets]] := by
   unfold txt4
   rw [optT_wrds (lit_pos _ _ (by decide)), word2 _ _ wEyelets (by simp [wEyelets]) (by decide)]
 have w0 : (optT (txt0 x)).map wrds = [[wUpper, x.upper, x.color]] := by
   rw [opt_one (by unfold txt0; exact lit_pos _ _ (lit_pos _ _ (lit_pos _ _ (by decide)))), List.map_singleton, wrds0 h1 h2]
 have w2 : (optT (txt2 x)).map wrds = [[wSole, x.sole, decI x.thick]] := by
   rw [opt_one (by unfold txt2; exact lit_pos _ _ (lit_pos _ _ (lit_pos _ _ (by decide)))), List.map_singleton, wrds2 h4]
 unfold outT txts clsW
 simp only [List.flatMap_cons, List.flatMap_nil, List.map_append, List.append_nil, w0, w1, w2, w3, w4, opt5]
 simp only [List.append_assoc]
theorem clsW_prob {x : Style} (hx : styB x = true) : ∀ w ∈ clsW x, prob w = 0 := by
 rw [styB_parts] at hx
 obtain ⟨h1, h2, h3, h4, h5, h6, h7, h8⟩ := hx
 intro w hw
 simp only [clsW, List.mem_append, List.mem_singleton] at hw
 rcases hw with ((((rfl | hw) | rfl) | hw) | hw) | hw
 · simp [prob, kind0, h1, h2]
 · split at hw
   · cases hw
   · rename_i h0
     rw [List.mem_singleton] at hw; subst hw
     have : nameB x.lining = true := by rw [Bool.or_eq_true] at h3; rcases h3 with h | h; exact absurd (of_decide_eq_true h) h0; exact h
     simp [prob, kind1, this]
 · simp [prob, kind2, h4, numOk_dec x.thick 10 300 (by omega) (by omega), h5]
 · split at hw
   · cases hw
   · rw [List.mem_singleton] at hw; subst hw
     simp [prob, kind3, numOk_dec x.heel 0 1200 (by omega) (by omega), h6]
 · split at hw
   · cases hw
   · rename_i h0
     rw [List.mem_singleton] at hw; subst hw
     simp [prob, kind4, numOk_dec x.eyelets 1 12 (by omega) (by omega), inB_one h0, h7]
 · split at hw
   · rename_i hd
     rw [List.mem_singleton] at hw; subst hw
     rw [hd] at h8
     simp only [Bool.not_true, Bool.and_false, Bool.false_or] at h8
     simp [prob, kind5, numOk_dec x.density 10 80 (by omega) (by omega), h8]
   · split at hw
     · cases hw
     · rename_i h0
       rw [List.mem_singleton] at hw; subst hw
       rw [decide_eq_false h0, Bool.false_and, Bool.false_or] at h8
       simp [prob, kind5, numOk_dec x.density 10 80 (by omega) (by omega), h8]
theorem clsW_heads (x : Style) : ((clsW x).map fun w => w.headD ⟨#[]⟩).Nodup ∧ wUpper ∈ ((clsW x).map fun w => w.headD ⟨#[]⟩) ∧ wSole ∈ ((clsW x).map fun w => w.headD ⟨#[]⟩) := by
 unfold clsW
 refine ⟨?_, by simp, by simp⟩
 have hd : wUpper ≠ wLining ∧ wUpper ≠ wSole ∧ wUpper ≠ wHeel ∧ wUpper ≠ wEyelets ∧ wUpper ≠ wStitch ∧ wLining ≠ wSole ∧ wLining ≠ wHeel ∧ wLining ≠ wEyelets ∧ wLining ≠ wStitch ∧ wSole ≠ wHeel ∧ wSole ≠ wEyelets ∧ wSole ≠ wStitch ∧ wHeel ≠ wEyelets ∧ wHeel ≠ wStitch ∧ wEyelets ≠ wStitch := by decide
 obtain ⟨d1, d2, d3, d4, d5, d6, d7, d8, d9, d10, d11, d12, d13, d14, d15⟩ := hd
 by_cases c1 : x.lining.size = 0 <;> by_cases c2 : x.heel = 0 <;> by_cases c3 : x.eyelets = 0 <;> by_cases c4 : x.double = true <;> by_cases c5 : x.density = 0 <;> simp [*]
theorem clsW_fold {x : Style} (hx : styB x = true) : (clsW x).foldl setS zeroS = x := by
 rw [styB_parts] at hx
 obtain ⟨_, _, _, _, h5, h6, h7, h8⟩ := hx
 rw [inB_iff] at h5 h6 h7
 have n1 := numV_dec (v := x.thick) (by omega) (by omega)
 have n2 := numV_dec (v := x.heel) (by omega) (by omega)
 have n3 := numV_dec (v := x.eyelets) (by omega) (by omega)
 have hdn : 0 ≤ x.density ∧ x.density ≤ 80 := by
   rw [Bool.or_eq_true, Bool.and_eq_true, decide_eq_true_eq, inB_iff] at h8
   rcases h8 with h8 | h8 <;> omega
 have n4 := numV_dec (v := x.density) (by omega) (by omega)
 have s1 : ∀ y : Style, y.lining = ⟨#[]⟩ → (if x.lining.size = 0 then [] else [[wLining, x.lining]]).foldl setS y = { y with lining := x.lining } := by
   intro y hy
   by_cases h0 : x.lining.size = 0
   · rw [if_pos h0, List.foldl_nil, size_zeroB h0, ← hy]
   · rw [if_neg h0, List.foldl_cons, List.foldl_nil, set_lining]
 have s3 : ∀ y : Style, y.heel = 0 → (if x.heel = 0 then [] else [[wHeel, decI x.heel]]).foldl setS y = { y with heel := x.heel } := by
   intro y hy
   by_cases h0 : x.heel = 0
   · rw [if_pos h0, List.foldl_nil, h0, ← hy]
   · rw [if_neg h0, List.foldl_cons, List.foldl_nil, set_heel, n2]
 have s4 : ∀ y : Style, y.eyelets = 0 → (if x.eyelets = 0 then [] else [[wEyelets, decI x.eyelets]]).foldl setS y = { y with eyelets := x.eyelets } := by
   intro y hy
   by_cases h0 : x.eyelets = 0
   · rw [if_pos h0, List.foldl_nil, h0, ← hy]
   · rw [if_neg h0, List.foldl_cons, List.foldl_nil, set_eyelets, n3]
 have s5 : ∀ y : Style, y.density = 0 → y.double = false → (if x.double = true then [[wStitch, decI x.density, wDouble]] else if x.density = 0 then [] else [[wStitch, decI x.density]]).foldl setS y = { y with density := x.density, double := x.double } := by
   intro y hy hz
   cases hd : x.double
   · rw [if_neg (by simp)]
     by_cases h0 : x.density = 0
     · rw [if_pos h0, List.foldl_nil, h0, ← hy, ← hz]
     · rw [if_neg h0, List.foldl_cons, List.foldl_nil, set_stitch, n4]
   · rw [if_pos rfl, List.foldl_cons, List.foldl_nil, set_double, n4]
 unfold clsW
 simp only [List.foldl_append, List.foldl_cons, List.foldl_nil]
 rw [set_upper, s1 _ rfl, set_sole, n1, s3 _ rfl, s4 _ rfl, s5 _ rfl rfl]
theorem text_reads {x : Style} (hx : styB x = true) : (textS x).size ≤ 300 ∧ (splC 59 (textS x)).length ≤ 12 ∧ tro (splC 59 (textS x)) = [] ∧ foldS zeroS (splC 59 (textS x)) = x := by
 have hf := txts_free hx
 obtain ⟨L, hL⟩ : ∃ L, L = outT x := ⟨_, rfl⟩
 have h0 : optT (txt0 x) = [txt0 x] := opt_one (by unfold txt0; exact lit_pos _ _ (lit_pos _ _ (lit_pos _ _ (by decide))))
 obtain ⟨r, hr⟩ : ∃ r, outT x = txt0 x :: r := ⟨_, by unfold outT txts; rw [List.flatMap_cons, h0, List.singleton_append]⟩
 have hspl : spl 59 (textS x).data.toList = (txt0 x).data.toList :: (r.map (·.data.toList)).map (32 :: ·) := by
   unfold textS
   rw [hr]
   simp only [List.map_cons]
   have : ∀ p ∈ (txt0 x).data.toList :: r.map (·.data.toList), (59 : UInt8) ∉ p := by
     intro p hp
     have hp2 : p ∈ (outT x).map (·.data.toList) := by rw [hr]; exact hp
     obtain ⟨t, ht, rfl⟩ := List.mem_map.1 hp2
     exact hf t (outT_mem ht)
   simpa using spl_two (by decide) _ _ this
 have hw : (splC 59 (textS x)).map wrds = clsW x := by
   rw [← outT_wrds hx, hr]
   unfold splC
   rw [hspl]
   simp only [List.map_cons, List.map_map, bw_data]
   congr 1
 have hlen : (outT x).length ≤ 6 := by
   unfold outT txts
   simp only [List.flatMap_cons, List.flatMap_nil, List.length_append, List.length_nil]
   have key : ∀ t, (optT t).length ≤ 1 := by intro t; unfold optT; split <;> simp
   have := key (txt0 x); have := key (txt1 x); have := key (txt2 x); have := key (txt3 x); have := key (txt4 x); have := key (txt5 x)
   omega
 obtain ⟨k1, k2, k3⟩ := clsW_heads x
 have hh : (splC 59 (textS x)).map hdW = (clsW x).map fun w => w.headD ⟨#[]⟩ := by rw [← hw, List.map_map]; rfl
 refine ⟨?_, ?_, ?_, ?_⟩
 · have h1 := inter_len 59 32 ((outT x).map (·.data.toList))
   have h2 : (textS x).size = ([59, 32].intercalate ((outT x).map (·.data.toList))).length := by rw [← bytes_len]; simp [textS]
   rw [h2]
   refine Nat.le_trans h1 ?_
   have hs := txt_sizes hx
   rw [List.map_map]
   have key : ∀ t : ByteArray, ((optT t).map ((fun l : List UInt8 => l.length + 2) ∘ fun t : ByteArray => t.data.toList)).sum ≤ t.size + 2 := by
     intro t
     unfold optT
     split
     · simp
     · simp
   unfold outT txts
   simp only [List.flatMap_cons, List.flatMap_nil, List.map_append, List.sum_append, List.map_nil, List.sum_nil]
   have := key (txt0 x); have := key (txt1 x); have := key (txt2 x); have := key (txt3 x); have := key (txt4 x); have := key (txt5 x)
   omega
 · unfold splC
   rw [hspl]
   rw [hr] at hlen
   simp only [List.length_cons, List.length_map] at hlen ⊢
   omega
 · unfold tro
   rw [List.append_eq_nil_iff]
   constructor
   · rw [troGo_nil]
     refine ⟨fun c hc => clsW_prob hx _ (by rw [← hw]; exact List.mem_map.2 ⟨c, hc, rfl⟩), by rw [hh]; exact k1, by simp⟩
   · unfold lackT
     rw [hh, if_pos ⟨memB_iff.2 k2, memB_iff.2 k3⟩]
 · have : foldS zeroS (splC 59 (textS x)) = ((splC 59 (textS x)).map wrds).foldl setS zeroS := by unfold foldS; rw [List.foldl_map]
   rw [this, hw, clsW_fold hx]
end Go.Proofs.YtpiehlfffjhoaaaGreatDoor
