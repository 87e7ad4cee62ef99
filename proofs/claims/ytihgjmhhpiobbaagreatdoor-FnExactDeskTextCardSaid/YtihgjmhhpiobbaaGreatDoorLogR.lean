/- Reading a log: plain Lean. -/
import Derived.Test.YtihgjmhhpiobbaaGreatDoorRdP
import Derived.Test.YtihgjmhhpiobbaaGreatDoorLogP
namespace Go.Proofs.YtihgjmhhpiobbaaGreatDoor
open Go.RowKit

def nl10 (l : List UInt8) : Nat := (l.takeWhile (fun b => b != 10)).length
def linE (w : List UInt8) : Option (Entry × Int) :=
  match spl 32 w with
  | [a, b, c, d] => if (okN a && okN c && okN d && entB ⟨numL a, ⟨b.toArray⟩, numL c⟩) = true then some (⟨numL a, ⟨b.toArray⟩, numL c⟩, numL d) else none
  | _ => none
def lastD (es : List Entry) : Int := match es.getLast? with
  | none => 0
  | some e => e.day
def stepL (l : List UInt8) (es : List Entry) (st : Int) : Option (Entry × Nat) :=
  if nl10 l < l.length then
    match linE (l.take (nl10 l)) with
    | some (e, s) => if lastD es ≤ e.day ∧ stp st e = s then some (e, nl10 l + 1) else none
    | none => none
  else none
def rdF (l : List UInt8) : Nat → List Entry → Int → Nat → List Entry × Int × Nat
  | 0, es, st, n => (es, st, n)
  | f + 1, es, st, n => match stepL (l.drop n) es st with
    | none => (es, st, n)
    | some (e, m) => rdF l f (es ++ [e]) (stp st e) (n + m)
def rdL (s : ByteArray) : List Entry × Int × Nat := rdF s.data.toList (s.size + 1) [] 0 0
structure Good (s : ByteArray) (es : List Entry) (st : Int) (n : Nat) : Prop where
  le : n ≤ s.size
  few : es.length ≤ n
  ent : ∀ e ∈ es, entB e = true
  s0 : 0 ≤ st
  s1 : st ≤ 65518
theorem Good.nil (s : ByteArray) : Good s [] 0 0 := ⟨by omega, by simp, by simp, by omega, by omega⟩
theorem nl10_le (l : List UInt8) : nl10 l ≤ l.length := by
  unfold nl10
  exact (List.takeWhile_prefix _).length_le
theorem nl10_cons (b : UInt8) (r : List UInt8) : nl10 (b :: r) = if b = 10 then 0 else nl10 r + 1 := by
  unfold nl10
  rw [List.takeWhile_cons]
  by_cases h : b = 10
  · simp [h]
  · have : (b != 10) = true := by simpa using h
    simp [this, h]
theorem nl10_at : ∀ l : List UInt8, nl10 l < l.length → l[nl10 l]? = some 10 := by
  intro l
  induction l with
  | nil => intro h; simp at h
  | cons b r ih =>
    intro h
    rw [nl10_cons] at h ⊢
    split
    · rename_i hb; simp [hb]
    · rename_i hb
      rw [if_neg hb] at h
      rw [List.getElem?_cons_succ]
      exact ih (by simpa using h)
theorem nl10_ne : ∀ (l : List UInt8) (j : Nat) (b : UInt8), j < nl10 l → l[j]? = some b → b ≠ 10 := by
  intro l
  induction l with
  | nil => intro j b h; simp [nl10] at h
  | cons c r ih =>
    intro j b h hb
    rw [nl10_cons] at h
    split at h
    · omega
    · rename_i hc
      cases j with
      | zero => simp at hb; subst hb; exact hc
      | succ j =>
        rw [List.getElem?_cons_succ] at hb
        exact ih j b (by omega) hb
theorem nl10_index : ∀ l : List UInt8, Lib.index l [10] = if nl10 l < l.length then (nl10 l : Int) else -1 := by
  intro l
  rw [Lib.index_one]
  induction l with
  | nil => simp [Lib.indexByte, nl10]
  | cons b r ih =>
    rw [Lib.indexByte, nl10_cons]
    by_cases h : b = 10
    · subst h
      simp
    · have hb : (b == 10) = false := by simpa using h
      rw [hb, ih, if_neg h]
      by_cases hk : nl10 r < r.length
      · have h1 : nl10 r + 1 < (b :: r).length := by rw [List.length_cons]; omega
        have h2 : ((nl10 r : Int) == -1) = false := by rw [beq_eq_false_iff_ne]; omega
        simp only [hk, h1, if_true, h2, Bool.false_eq_true, if_false]
        omega
      · have h1 : ¬ nl10 r + 1 < (b :: r).length := by rw [List.length_cons]; omega
        simp only [hk, h1, if_false, Bool.false_eq_true]
        rfl
theorem take_nl {l : List UInt8} (h : nl10 l < l.length) : l.take (nl10 l + 1) = l.take (nl10 l) ++ [10] := by
  rw [List.take_add_one, nl10_at l h]
  rfl
theorem stepL_some {s : ByteArray} {es : List Entry} {st : Int} {n m : Nat} {e : Entry} (hg : Good s es st n) (h : stepL (s.data.toList.drop n) es st = some (e, m)) : Good s (es ++ [e]) (stp st e) (n + m) ∧ 1 ≤ m := by
  unfold stepL at h
  split at h
  · rename_i hk
    split at h
    · rename_i e' s' hl
      split at h
      · rename_i hc
        simp only [Option.some.injEq, Prod.mk.injEq] at h
        obtain ⟨rfl, rfl⟩ := h
        have hl2 : (s.data.toList.drop n).length = s.size - n := by rw [List.length_drop, bytes_len]
        have he : entB e' = true := by
          unfold linE at hl
          split at hl
          · split at hl
            · rename_i hq
              simp only [Option.some.injEq, Prod.mk.injEq] at hl
              simp only [Bool.and_eq_true] at hq
              rw [← hl.1]
              exact hq.2
            · cases hl
          · cases hl
        refine ⟨⟨by have := hg.le; omega, by have := hg.few; simp; omega, ?_, (stp_bd st e').1, (stp_bd st e').2⟩, by omega⟩
        intro x hx
        rcases List.mem_append.1 hx with h1 | h1
        · exact hg.ent x h1
        · simp at h1; subst h1; exact he
      · cases h
    · cases h
  · cases h
theorem rdF_step {l : List UInt8} {f : Nat} {es : List Entry} {st : Int} {n m : Nat} {e : Entry} (h : stepL (l.drop n) es st = some (e, m)) : rdF l (f + 1) es st n = rdF l f (es ++ [e]) (stp st e) (n + m) := by
  rw [rdF, h]
theorem rdF_stop {l : List UInt8} {f : Nat} {es : List Entry} {st : Int} {n : Nat} (h : stepL (l.drop n) es st = none) : rdF l f es st n = (es, st, n) := by
  cases f with
  | zero => rfl
  | succ f => rw [rdF, h]
/-- what holds of the end -/
theorem rdF_good {s : ByteArray} : ∀ (f : Nat) (es : List Entry) (st : Int) (n : Nat), Good s es st n → Good s (rdF s.data.toList f es st n).1 (rdF s.data.toList f es st n).2.1 (rdF s.data.toList f es st n).2.2 := by
  intro f
  induction f with
  | zero => intro es st n h; exact h
  | succ f ih =>
    intro es st n h
    rw [rdF]
    split
    · exact h
    · rename_i e m hs
      exact ih _ _ _ (stepL_some h hs).1
theorem rdL_good (s : ByteArray) : Good s (rdL s).1 (rdL s).2.1 (rdL s).2.2 := rdF_good _ _ _ _ (Good.nil s)
theorem bytes_app (a b : ByteArray) : (a ++ b).data.toList = a.data.toList ++ b.data.toList := by
  rw [ByteArray.data_append, Array.toList_append]
theorem line_eq {w a b c d : List UInt8} (h : spl 32 w = [a, b, c, d]) (ha : okN a = true) (hc : okN c = true) {st : Int} (h0 : 0 ≤ st) (h1 : st ≤ 65518) :
    (lineE st ⟨numL a, ⟨b.toArray⟩, numL c⟩).data.toList = w ++ [10] ↔ (okN d = true ∧ numL d = st) := by
  have hw := spl_four h
  have ea := (okN_iff.1 ha).2.2.2
  have ec := (okN_iff.1 hc).2.2.2
  have e1 : (lineE st ⟨numL a, ⟨b.toArray⟩, numL c⟩).data.toList = a ++ 32 :: (b ++ 32 :: (c ++ 32 :: (Lib.itoa st ++ [10]))) := by
    simp only [lineE, wordsB, decI, bytes_app, ea, ec]
    simp
  rw [e1, hw]
  simp only [List.append_assoc, List.cons_append, List.append_cancel_left_eq, List.cons.injEq, true_and]
  constructor
  · intro e
    have e2 : Lib.itoa st = d := List.append_cancel_right e
    rw [← e2]
    exact ⟨okN_itoa (by omega) (by omega), (itoa_bare st).2⟩
  · rintro ⟨hd, rfl⟩
    rw [(okN_iff.1 hd).2.2.2]
theorem lastD_snoc (es : List Entry) (e : Entry) : lastD (es ++ [e]) = e.day := by simp [lastD]
theorem lastD_at {es : List Entry} {x : Entry} {n : Nat} (hn : es.length = n + 1) (h : es[n]? = some x) : lastD es = x.day := by
  unfold lastD
  rw [List.getLast?_eq_getElem?, hn, Nat.add_sub_cancel, h]
end Go.Proofs.YtihgjmhhpiobbaaGreatDoor
