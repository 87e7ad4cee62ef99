/- Lemmas for the law on the console: the parts CnQ, CnR, CnS. -/
import Derived.Test.YtpiehlfffjhoaaaGreatDoorQ0
import Derived.Test.YtpiehlfffjhoaaaGreatDoorQ18
namespace Go.Proofs.YtpiehlfffjhoaaaGreatDoor
open Go.RowKit
theorem less_lex : ∀ (l r : List UInt8), Op.bytesLess l r = decide (l < r) := by
 intro l
 induction l with
 | nil => intro r; cases r <;> simp [Op.bytesLess]
 | cons c t ih =>
   intro r
   cases r with
   | nil => simp [Op.bytesLess]
   | cons d u =>
     rw [Op.bytesLess, ih u, Bool.eq_iff_iff, decide_eq_true_eq, List.cons_lt_cons_iff, Bool.or_eq_true, Bool.and_eq_true, beq_iff_eq, decide_eq_true_eq, decide_eq_true_eq]
theorem lessB_eq (a b : ByteArray) : lessB a b = decide (a.data.toList < b.data.toList) := by unfold lessB; rw [less_lex, Lib.toList_data, Lib.toList_data]
theorem lessB_iff {a b : ByteArray} : lessB a b = true ↔ a.data.toList < b.data.toList := by rw [lessB_eq, decide_eq_true_eq]
theorem lessB_trans {a b c : ByteArray} (h1 : lessB a b = true) (h2 : lessB b c = true) : lessB a c = true := by
 rw [lessB_iff] at *
 exact List.lt_trans h1 h2
theorem lessB_irr (a : ByteArray) : lessB a a = false := by
 rw [lessB_eq]
 exact decide_eq_false (List.lt_irrefl _)
theorem lessB_asym {a b : ByteArray} (h1 : lessB a b = true) : lessB b a = false := by
 cases h : lessB b a
 · rfl
 · have := lessB_trans h1 h
   rw [lessB_irr] at this
   cases this
theorem lessB_tri (a b : ByteArray) : lessB a b = true ∨ a = b ∨ lessB b a = true := by
 rw [lessB_iff, lessB_iff]
 rcases Std.lt_trichotomy a.data.toList b.data.toList with h | h | h
 · exact .inl h
 · exact .inr (.inl (ba_ext h))
 · exact .inr (.inr h)
theorem lessB_ne {a b : ByteArray} (h : lessB a b = true) : a ≠ b := by
 intro e
 rw [e, lessB_irr] at h
 cases h
def byName (a b : Last) : Prop := lessB a.name b.name = true
theorem lasGo_pair : ∀ (xs : List Last) (p : Option ByteArray), lasGo p xs = true → (∀ q, p = some q → ∀ x ∈ xs, lessB q x.name = true) ∧ xs.Pairwise byName
 | [], _, _ => ⟨by simp, List.Pairwise.nil⟩
 | x :: xs, p, h => by
   have h2 : lasGo (some x.name) xs = true := by cases p <;> (simp only [lasGo, Bool.and_eq_true] at h; first | exact h.2 | exact h.2.2)
   obtain ⟨h3, h4⟩ := lasGo_pair xs (some x.name) h2
   refine ⟨?_, List.Pairwise.cons (h3 x.name rfl) h4⟩
   intro q hq y hy
   subst hq
   simp only [lasGo, Bool.and_eq_true] at h
   rcases List.mem_cons.1 hy with rfl | hy
   · exact h.2.1
   · exact lessB_trans h.2.1 (h3 x.name rfl y hy)
theorem lasGo_mem : ∀ (xs : List Last) (p : Option ByteArray), lasGo p xs = true → ∀ x ∈ xs, lastB x = true
 | [], _, _ => by simp
 | x :: xs, p, h => by
   have h2 : lastB x = true ∧ lasGo (some x.name) xs = true := by cases p <;> (simp only [lasGo, Bool.and_eq_true] at h; first | exact ⟨h.1, h.2⟩ | exact ⟨h.1, h.2.2⟩)
   intro y hy
   rcases List.mem_cons.1 hy with rfl | hy
   · exact h2.1
   · exact lasGo_mem xs _ h2.2 y hy
theorem lasGo_of : ∀ (xs : List Last) (p : Option ByteArray), (∀ q, p = some q → ∀ x ∈ xs, lessB q x.name = true) → xs.Pairwise byName → (∀ x ∈ xs, lastB x = true) → lasGo p xs = true
 | [], p, _, _, _ => by cases p <;> rfl
 | x :: xs, p, h1, h2, h3 => by
   obtain ⟨a, b⟩ := List.pairwise_cons.1 h2
   have ih := lasGo_of xs (some x.name) (fun q e => by injection e with e; subst e; exact a) b (fun y hy => h3 y (by simp [hy]))
   cases p with
   | none => simp only [lasGo, ih, h3 x (by simp), Bool.and_self]
   | some q => simp only [lasGo, ih, h3 x (by simp), h1 q rfl x (by simp), Bool.and_self]
theorem las_pair {xs : List Last} (h : lasB xs = true) : xs.Pairwise byName := by
 unfold lasB at h
 rw [Bool.and_eq_true] at h
 exact (lasGo_pair xs none h.1).2
theorem las_mem {xs : List Last} (h : lasB xs = true) : ∀ x ∈ xs, lastB x = true := by
 unfold lasB at h
 rw [Bool.and_eq_true] at h
 exact lasGo_mem xs none h.1
theorem las_len {xs : List Last} (h : lasB xs = true) : xs.length ≤ 30 := by
 unfold lasB at h
 rw [Bool.and_eq_true, decide_eq_true_eq] at h
 exact h.2
theorem las_of {xs : List Last} (h2 : xs.Pairwise byName) (h3 : ∀ x ∈ xs, lastB x = true) (h4 : xs.length ≤ 30) : lasB xs = true := by
 unfold lasB
 rw [Bool.and_eq_true, decide_eq_true_eq]
 exact ⟨lasGo_of xs none (by simp) h2 h3, h4⟩
def lbN (nm : ByteArray) : List Last → Nat
 | [] => 0
 | x :: xs => if lessB x.name nm = true then lbN nm xs + 1 else 0
theorem lbN_le (nm : ByteArray) : ∀ xs : List Last, lbN nm xs ≤ xs.length
 | [] => by simp [lbN]
 | x :: xs => by
   have := lbN_le nm xs
   simp only [lbN, List.length_cons]
   split <;> omega
theorem lbN_iff (nm : ByteArray) : ∀ (xs : List Last), xs.Pairwise byName → ∀ k x, xs[k]? = some x → (lessB x.name nm = true ↔ k < lbN nm xs)
 | [], _, k, x, h => by simp at h
 | y :: ys, hp, k, x, h => by
   obtain ⟨h1, h2⟩ := List.pairwise_cons.1 hp
   cases k with
   | zero =>
     simp only [List.getElem?_cons_zero, Option.some.injEq] at h
     subst h
     simp only [lbN]
     split
     · rename_i e; simp [e]
     · rename_i e; simp [e]
   | succ k =>
     simp only [List.getElem?_cons_succ] at h
     have ih := lbN_iff nm ys h2 k x h
     have h3 := h1 x (List.mem_of_getElem? h)
     simp only [lbN]
     split
     · rw [ih]; omega
     · rename_i e
       constructor
       · intro hx
         exact absurd (lessB_trans h3 hx) e
       · omega
def hitN (nm : ByteArray) (xs : List Last) : Bool := (xs[lbN nm xs]?).any (fun x => decide (x.name = nm))
theorem hitN_at {nm : ByteArray} {xs : List Last} (h : hitN nm xs = true) : ∃ x, xs[lbN nm xs]? = some x ∧ x.name = nm := by
 unfold hitN at h
 cases hx : xs[lbN nm xs]? with
 | none => rw [hx] at h; simp at h
 | some x => rw [hx] at h; exact ⟨x, rfl, by simpa using h⟩
theorem missN_gt {nm : ByteArray} {xs : List Last} (hp : xs.Pairwise byName) (hh : hitN nm xs = false) {j : Nat} {y : Last} (hy : xs[j]? = some y) (hj : lbN nm xs ≤ j) : lessB nm y.name = true := by
 have hn : ¬ lessB y.name nm = true := fun h => by have := (lbN_iff nm xs hp j y hy).1 h; omega
 rcases lessB_tri y.name nm with h | h | h
 · exact absurd h hn
 · exfalso
   have hlen := (List.getElem?_eq_some_iff.1 hy).1
   obtain ⟨z, hz⟩ : ∃ z, xs[lbN nm xs]? = some z := ⟨_, List.getElem?_eq_getElem (by omega)⟩
   have hz2 : ¬ lessB z.name nm = true := fun h => by have := (lbN_iff nm xs hp _ z hz).1 h; omega
   have hz3 : z.name ≠ nm := by
     intro e
     unfold hitN at hh
     rw [hz] at hh
     simp [e] at hh
   rcases Nat.lt_or_eq_of_le hj with hlt | heq
   · obtain ⟨a, ha⟩ := List.getElem?_eq_some_iff.1 hz
     obtain ⟨b, hb⟩ := List.getElem?_eq_some_iff.1 hy
     have := List.pairwise_iff_getElem.1 hp _ _ a b hlt
     unfold byName at this
     rw [ha, hb, h] at this
     exact hz2 this
   · rw [← heq, hz] at hy
     injection hy with hy
     exact hz3 (by rw [hy, h])
 · exact h
def insN (xs : List Last) (i : Nat) (x : Last) : List Last := xs.take i ++ x :: xs.drop i
theorem insN_len (xs : List Last) (i : Nat) (x : Last) (hi : i ≤ xs.length) : (insN xs i x).length = xs.length + 1 := by simp [insN]; omega
def addP (xs : List Last) (x : Last) : List Last × Int :=
 if lasB xs = true then (if lastB x = true then (if hitN x.name xs = true then ([], 4) else if xs.length = 30 then ([], 5) else (insN xs (lbN x.name xs) x, 0)) else ([], 2)) else ([], 1)
section
variable {xs : List Last} {x : Last}
theorem addP_inv (h : lasB xs = false) : addP xs x = ([], 1) := by unfold addP; rw [if_neg (by simp [h])]
theorem addP_rng (h : lasB xs = true) (h2 : lastB x = false) : addP xs x = ([], 2) := by unfold addP; rw [if_pos h, if_neg (by simp [h2])]
theorem addP_hit (h : lasB xs = true) (h2 : lastB x = true) (h3 : hitN x.name xs = true) : addP xs x = ([], 4) := by unfold addP; rw [if_pos h, if_pos h2, if_pos h3]
theorem addP_full (h : lasB xs = true) (h2 : lastB x = true) (h3 : hitN x.name xs = false) (h4 : xs.length = 30) : addP xs x = ([], 5) := by unfold addP; rw [if_pos h, if_pos h2, if_neg (by simp [h3]), if_pos h4]
theorem addP_ok (h : lasB xs = true) (h2 : lastB x = true) (h3 : hitN x.name xs = false) (h4 : ¬ xs.length = 30) : addP xs x = (insN xs (lbN x.name xs) x, 0) := by unfold addP; rw [if_pos h, if_pos h2, if_neg (by simp [h3]), if_neg h4]
end
theorem addP_len (xs : List Last) (x : Last) : ((addP xs x).1.length : Int) ≤ 30 := by
 unfold addP
 split
 · rename_i h
   have := las_len h
   repeat' split
   all_goals (first | (simp; done) | skip)
   rw [insN_len _ _ _ (lbN_le _ _)]
   omega
 · simp
theorem pair_ins {xs : List Last} {x : Last} (hp : xs.Pairwise byName) (hh : hitN x.name xs = false) : (insN xs (lbN x.name xs) x).Pairwise byName := by
 unfold insN
 have hl := lbN_le x.name xs
 rw [List.pairwise_append]
 refine ⟨hp.take, ?_, ?_⟩
 · rw [List.pairwise_cons]
   refine ⟨?_, hp.drop⟩
   intro y hy
   obtain ⟨j, hj⟩ := List.getElem?_of_mem hy
   rw [List.getElem?_drop] at hj
   exact missN_gt hp hh hj (by omega)
 · have key : ∀ a ∈ xs.take (lbN x.name xs), lessB a.name x.name = true := by
     intro a ha
     obtain ⟨j, hj⟩ := List.getElem?_of_mem ha
     rw [List.getElem?_take] at hj
     split at hj
     · rename_i hlt
       exact (lbN_iff x.name xs hp j a hj).2 hlt
     · cases hj
   intro a ha b hb
   rcases List.mem_cons.1 hb with rfl | hb
   · exact key a ha
   · obtain ⟨j, hj⟩ := List.getElem?_of_mem hb
     rw [List.getElem?_drop] at hj
     exact lessB_trans (key a ha) (missN_gt hp hh hj (by omega))
theorem add_ok {xs : List Last} {x : Last} (h : (addP xs x).2 = 0) : lasB (addP xs x).1 = true ∧ lasB xs = true := by
 cases h1 : lasB xs
 · rw [addP_inv h1] at h; cases h
 cases h2 : lastB x
 · rw [addP_rng h1 h2] at h; cases h
 cases h3 : hitN x.name xs
 · by_cases h4 : xs.length = 30
   · rw [addP_full h1 h2 h3 h4] at h; cases h
   · rw [addP_ok h1 h2 h3 h4]
     refine ⟨las_of (pair_ins (las_pair h1) h3) ?_ ?_, rfl⟩
     · intro y hy
       unfold insN at hy
       rcases List.mem_append.1 hy with hy | hy
       · exact las_mem h1 y (List.mem_of_mem_take hy)
       · rcases List.mem_cons.1 hy with rfl | hy
         · exact h2
         · exact las_mem h1 y (List.mem_of_mem_drop hy)
     · show (insN xs (lbN x.name xs) x).length ≤ 30
       rw [insN_len _ _ _ (lbN_le _ _)]
       have := las_len h1
       omega
 · rw [addP_hit h1 h2 h3] at h; cases h
theorem las_set {xs : List Last} {k : Nat} {x y : Last} (h : lasB xs = true) (hx : xs[k]? = some x) (hy : lastB y = true) (hn : y.name = x.name) : lasB (xs.set k y) = true := by
 obtain ⟨hk, he⟩ := List.getElem?_eq_some_iff.1 hx
 refine las_of ?_ ?_ (by rw [List.length_set]; exact las_len h)
 · rw [List.pairwise_iff_getElem]
   intro i j hi hj hij
   have hp := List.pairwise_iff_getElem.1 (las_pair h) i j (by simpa using hi) (by simpa using hj) hij
   unfold byName at hp ⊢
   rw [List.getElem_set, List.getElem_set]
   by_cases h1 : k = i
   · rw [if_pos h1, if_neg (by omega)]
     subst h1
     rw [he] at hp
     rw [hn]; exact hp
   · by_cases h2 : k = j
     · rw [if_neg h1, if_pos h2]
       subst h2
       rw [he] at hp
       rw [hn]; exact hp
     · rw [if_neg h1, if_neg h2]; exact hp
 · intro z hz
   rcases List.mem_or_eq_of_mem_set hz with hz | hz
   · exact las_mem h z hz
   · rw [hz]; exact hy
def namP (xs : List Last) (nm : ByteArray) : Int × Int :=
 if lasB xs = true then (if nameB nm = true then (if hitN nm xs = true then ((lbN nm xs : Int), 0) else (0, 3)) else (0, 2)) else (0, 1)
def apt (a b : Int) : Int := max (a - b) (b - a)
def rmP (x : Last) (f : Foot) : Int := x.length - f.length
def okC (x : Last) (f : Foot) (lo hi gi : Int) : Bool := inB (rmP x f) lo hi && (decide (apt x.ball f.ball ≤ gi) && (decide (apt x.instep f.instep ≤ gi) && decide (apt x.heel f.heel ≤ gi)))
def cstP (x : Last) (f : Foot) (lo : Int) : Int := (rmP x f - lo) + apt x.ball f.ball + apt x.instep f.instep + apt x.heel f.heel
def fitB (lo hi gi : Int) : Bool := inB hi 0 500 && (inB lo 0 hi && inB gi 0 500)
section
variable (f : Foot) (lo hi gi : Int)
def bstS (b : Option (Nat × Int)) (i : Nat) (x : Last) : Option (Nat × Int) :=
 if okC x f lo hi gi = true then (match b with
   | none => some (i, cstP x f lo)
   | some (j, m) => if cstP x f lo < m then some (i, cstP x f lo) else some (j, m)) else b
def bstGo : Option (Nat × Int) → Nat → List Last → Option (Nat × Int)
 | b, _, [] => b
 | b, i, x :: r => bstGo (bstS f lo hi gi b i x) (i + 1) r
def alwGo : Nat → List Last → List (Nat × Int)
 | _, [] => []
 | i, x :: r => if okC x f lo hi gi = true then (i, cstP x f lo) :: alwGo (i + 1) r else alwGo (i + 1) r
end
def minS (b : Option (Nat × Int)) (p : Nat × Int) : Option (Nat × Int) := match b with
 | none => some p
 | some (j, m) => if p.2 < m then some p else some (j, m)
theorem bstGo_fold (f : Foot) (lo hi gi : Int) : ∀ (xs : List Last) (b : Option (Nat × Int)) (i : Nat), bstGo f lo hi gi b i xs = (alwGo f lo hi gi i xs).foldl minS b
 | [], b, i => rfl
 | x :: r, b, i => by
   simp only [bstGo, alwGo]
   by_cases h : okC x f lo hi gi = true
   · rw [if_pos h, List.foldl_cons, ← bstGo_fold f lo hi gi r]
     congr 1
     unfold bstS minS
     rw [if_pos h]
   · rw [if_neg h, ← bstGo_fold f lo hi gi r]
     congr 1
     unfold bstS
     rw [if_neg h]
def bstP (xs : List Last) (f : Foot) (lo hi gi : Int) : Int × Int :=
 if (lasB xs && (footB f && fitB lo hi gi)) = true then (match bstGo f lo hi gi none 0 xs with
   | some (k, _) => ((k : Int), 0)
   | none => (0, 10)) else (0, 1)
theorem alwGo_snoc (f : Foot) (lo hi gi : Int) : ∀ (xs : List Last) (i : Nat) (x : Last), alwGo f lo hi gi i (xs ++ [x]) = alwGo f lo hi gi i xs ++ (if okC x f lo hi gi = true then [(i + xs.length, cstP x f lo)] else [])
 | [], i, x => by simp only [List.nil_append, alwGo]; split <;> rfl
 | y :: r, i, x => by
   simp only [List.cons_append, alwGo, alwGo_snoc f lo hi gi r (i + 1) x, List.length_cons]
   rw [show i + 1 + r.length = i + (r.length + 1) by omega]
   split <;> rfl
theorem alwGo_len (f : Foot) (lo hi gi : Int) : ∀ (xs : List Last) (i : Nat), (alwGo f lo hi gi i xs).length ≤ xs.length
 | [], _ => by simp [alwGo]
 | x :: r, i => by
   have := alwGo_len f lo hi gi r (i + 1)
   simp only [alwGo, List.length_cons]
   split
   · simp only [List.length_cons]; omega
   · omega
theorem alwGo_lt (f : Foot) (lo hi gi : Int) : ∀ (xs : List Last) (i : Nat) (p : Nat × Int), p ∈ alwGo f lo hi gi i xs → i ≤ p.1 ∧ p.1 < i + xs.length
 | [], _, p, h => by simp [alwGo] at h
 | x :: r, i, p, h => by
   simp only [alwGo] at h
   split at h
   · rcases List.mem_cons.1 h with rfl | h
     · simp
     · have := alwGo_lt f lo hi gi r (i + 1) p h
       simp only [List.length_cons]; omega
   · have := alwGo_lt f lo hi gi r (i + 1) p h
     simp only [List.length_cons]; omega
theorem fold_some : ∀ (l : List (Nat × Int)) (p : Nat × Int), ∃ q, l.foldl minS (some p) = some q ∧ (q = p ∨ q ∈ l) ∧ q.2 ≤ p.2
 | [], p => ⟨p, rfl, .inl rfl, Int.le_refl _⟩
 | r :: l, p => by
   rw [List.foldl_cons]
   by_cases h : r.2 < p.2
   · have e : minS (some p) r = some r := by unfold minS; exact if_pos h
     rw [e]
     obtain ⟨q, h1, h2, h3⟩ := fold_some l r
     refine ⟨q, h1, ?_, by omega⟩
     rcases h2 with h2 | h2
     · exact .inr (by simp [h2])
     · exact .inr (by simp [h2])
   · have e : minS (some p) r = some p := by unfold minS; exact if_neg h
     rw [e]
     obtain ⟨q, h1, h2, h3⟩ := fold_some l p
     refine ⟨q, h1, ?_, h3⟩
     rcases h2 with h2 | h2
     · exact .inl h2
     · exact .inr (by simp [h2])
theorem bstP_zero {xs : List Last} {f : Foot} {lo hi gi : Int} (h : (bstP xs f lo hi gi).2 = 0) : ∃ (k : Nat) (x : Last), (bstP xs f lo hi gi).1 = (k : Int) ∧ xs[k]? = some x ∧ lasB xs = true := by
 unfold bstP at h ⊢
 split at h
 · rename_i hc
   rw [if_pos hc]
   cases hb : bstGo f lo hi gi none 0 xs with
   | none => rw [hb] at h; cases h
   | some p =>
     obtain ⟨k, m⟩ := p
     simp only [Bool.and_eq_true] at hc
     rw [bstGo_fold] at hb
     cases ha : alwGo f lo hi gi 0 xs with
     | nil => rw [ha] at hb; cases hb
     | cons a l =>
       rw [ha, List.foldl_cons] at hb
       obtain ⟨q, h1, h2, _⟩ := fold_some l a
       have e : minS none a = some a := rfl
       rw [e, h1] at hb
       injection hb with hb
       subst hb
       have hm : ((k, m) : Nat × Int) ∈ alwGo f lo hi gi 0 xs := by
         rw [ha]
         rcases h2 with h2 | h2
         · simp [h2]
         · simp [h2]
       have hk := (alwGo_lt f lo hi gi xs 0 _ hm).2
       simp only [Nat.zero_add] at hk
       exact ⟨k, xs[k], rfl, List.getElem?_eq_getElem hk, hc.1⟩
 · cases h
def minL : List Int → Int → Int
 | [], m => m
 | c :: r, m => minL r (min m c)
def idxE (c : Int) : List Int → Nat → Int
 | [], _ => -1
 | x :: r, i => if x = c then (i : Int) else idxE c r (i + 1)
theorem minL_fold : ∀ (l : List (Nat × Int)) (p : Nat × Int), ∃ q, l.foldl minS (some p) = some q ∧ q.2 = minL (l.map (·.2)) p.2
 | [], p => ⟨p, rfl, rfl⟩
 | r :: l, p => by
   rw [List.foldl_cons, List.map_cons]
   by_cases h : r.2 < p.2
   · have e : minS (some p) r = some r := by unfold minS; exact if_pos h
     rw [e]
     obtain ⟨q, h1, h2⟩ := minL_fold l r
     exact ⟨q, h1, by rw [h2, minL, show min p.2 r.2 = r.2 by omega]⟩
   · have e : minS (some p) r = some p := by unfold minS; exact if_neg h
     rw [e]
     obtain ⟨q, h1, h2⟩ := minL_fold l p
     exact ⟨q, h1, by rw [h2, minL, show min p.2 r.2 = p.2 by omega]⟩
theorem first_min : ∀ (l : List (Nat × Int)) (p : Nat × Int) (q : Nat × Int), l.foldl minS (some p) = some q →
   ∃ k : Nat, idxE (minL (l.map (·.2)) p.2) ((p :: l).map (·.2)) 0 = (k : Int) ∧ (p :: l)[k]? = some q := by
 -- a general start: the best so far stands at place j of what was read, no earlier one has its cost
 have key : ∀ (l : List (Nat × Int)) (done : List (Nat × Int)) (j : Nat) (p q : Nat × Int), done[j]? = some p → (∀ (i : Nat) (r : Nat × Int), done[i]? = some r → p.2 ≤ r.2 ∧ (i < j → p.2 < r.2)) → l.foldl minS (some p) = some q →
     ∃ k : Nat, (done ++ l)[k]? = some q ∧ ∀ (i : Nat) (r : Nat × Int), (done ++ l)[i]? = some r → q.2 ≤ r.2 ∧ (i < k → q.2 < r.2) := by
   intro l
   induction l with
   | nil =>
     intro done j p q h1 h2 h3
     injection h3 with h3
     subst h3
     exact ⟨j, by simpa using h1, by simpa using h2⟩
   | cons r l ih =>
     intro done j p q h1 h2 h3
     have e : done ++ r :: l = (done ++ [r]) ++ l := by simp
     have hj := (List.getElem?_eq_some_iff.1 h1).1
     rw [e]
     rw [List.foldl_cons] at h3
     by_cases h : r.2 < p.2
     · have e2 : minS (some p) r = some r := by unfold minS; exact if_pos h
       rw [e2] at h3
       refine ih (done ++ [r]) done.length r q (by simp) ?_ h3
       intro i s hs
       by_cases hi : i < done.length
       · rw [List.getElem?_append_left hi] at hs
         have := (h2 i s hs).1
         exact ⟨by omega, fun _ => by omega⟩
       · rw [List.getElem?_append_right (by omega)] at hs
         have hi2 : i = done.length := by
           have := (List.getElem?_eq_some_iff.1 hs).1
           simp at this; omega
         subst hi2
         simp at hs
         subst hs
         exact ⟨Int.le_refl _, fun h => by omega⟩
     · have e2 : minS (some p) r = some p := by unfold minS; exact if_neg h
       rw [e2] at h3
       refine ih (done ++ [r]) j p q (by rw [List.getElem?_append_left hj]; exact h1) ?_ h3
       intro i s hs
       by_cases hi : i < done.length
       · rw [List.getElem?_append_left hi] at hs
         exact h2 i s hs
       · rw [List.getElem?_append_right (by omega)] at hs
         have hi2 : i = done.length := by
           have := (List.getElem?_eq_some_iff.1 hs).1
           simp at this; omega
         subst hi2
         simp at hs
         subst hs
         exact ⟨by omega, fun h => by omega⟩
 have idx : ∀ (l : List (Nat × Int)) (k : Nat) (q : Nat × Int) (o : Nat), l[k]? = some q → (∀ (i : Nat) (r : Nat × Int), l[i]? = some r → i < k → q.2 ≠ r.2) → idxE q.2 (l.map (·.2)) o = ((o + k : Nat) : Int) := by
   intro l
   induction l with
   | nil => intro k q o h; simp at h
   | cons r l ih =>
     intro k q o h1 h2
     simp only [List.map_cons, idxE]
     cases k with
     | zero =>
       simp at h1
       subst h1
       rw [if_pos rfl]; simp
     | succ k =>
       simp only [List.getElem?_cons_succ] at h1
       rw [if_neg (fun e => h2 0 r (by simp) (by omega) e.symm), ih k q (o + 1) h1 (fun i s hs hi => h2 (i + 1) s (by simpa using hs) (by omega))]
       congr 1
       omega
 intro l p q h
 obtain ⟨q2, e1, e2⟩ := minL_fold l p
 rw [h] at e1
 injection e1 with e1
 subst e1
 obtain ⟨k, h1, h2⟩ := key l [p] 0 p q (by simp) (by
   intro i r hr
   have hi : i = 0 := by
     have := (List.getElem?_eq_some_iff.1 hr).1
     simp at this; omega
   subst hi
   simp at hr
   subst hr
   exact ⟨Int.le_refl _, fun h => by omega⟩) h
 rw [List.singleton_append] at h1 h2
 refine ⟨k, ?_, h1⟩
 rw [← e2, idx _ k q 0 h1 (fun i r hr hi => by have := (h2 i r hr).2 hi; omega)]
 simp
def needP (x : Last) (f : Foot) : List Int := [max (f.ball - x.ball) 0, max (f.instep - x.instep) 0, max (f.heel - x.heel) 0]
def shB (n : Int) : Bool := inB n 0 400
def raiP (s i h o : Int) : List Int × Int :=
 if (shB s && (shB i && (shB h && shB o))) = true then
   (if min s i + min (s - min s i) h + min (s - min s i - min (s - min s i) h) o < s then ([], 10)
    else ([min s i, min (s - min s i) h + min (s - min s i - min (s - min s i) h) o, min (s - min s i - min (s - min s i) h) o], 0))
 else ([], 2)
def chgd (x : Last) (k a : Int) : Last :=
 if k = 1 then { x with length := x.length + a } else if k = 2 then { x with ball := x.ball + a } else if k = 3 then { x with instep := x.instep + a } else if k = 4 then { x with heel := x.heel + a } else { x with pitch := x.pitch + a }
def zLast : Last := ⟨⟨#[]⟩, 0, 0, 0, 0, 0⟩
def aplP (x : Last) (k a : Int) : Last × Int :=
 if (lastB x && chgB k a) = true then (if lastB (chgd x k a) = true then (chgd x k a, 0) else (zLast, 10)) else (zLast, 1)
theorem chgd_name (x : Last) (k a : Int) : (chgd x k a).name = x.name := by
 unfold chgd
 by_cases h1 : k = 1
 · rw [if_pos h1]
 rw [if_neg h1]
 by_cases h2 : k = 2
 · rw [if_pos h2]
 rw [if_neg h2]
 by_cases h3 : k = 3
 · rw [if_pos h3]
 rw [if_neg h3]
 by_cases h4 : k = 4
 · rw [if_pos h4]
 rw [if_neg h4]
theorem aplP_zero {x : Last} {k a : Int} (h : (aplP x k a).2 = 0) : (aplP x k a).1 = chgd x k a ∧ lastB (chgd x k a) = true := by
 unfold aplP at h ⊢
 split at h
 · rename_i hc
   rw [if_pos hc]
   split at h
   · rename_i h2
     rw [if_pos h2]
     exact ⟨rfl, h2⟩
   · cases h
 · cases h
end Go.Proofs.YtpiehlfffjhoaaaGreatDoor
