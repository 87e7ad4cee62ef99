/- A log as text: what it is, in plain Lean. Reading a log: plain Lean. A line of a log read: the program's function. A text split at a byte and joined: plain Lean. -/
import Derived.Test.YtapnllbbdfoaaaaGreatDoorMDec
import Derived.Lib.AppendStr
import Derived.Test.YtapnllbbdfoaaaaGreatDoorMCore
import Derived.Test.YtapnllbbdfoaaaaGreatDoorMRdP
import Derived.Deep.RegionHeld3

namespace Go.Proofs.YtapnllbbdfoaaaaGreatDoor
open Go.RowKit

def stp (s : Int) (x : Entry) : Int := stampV s (wordsB x)
def lineE (s : Int) (x : Entry) : ByteArray := wordsB x ++ ⟨#[32]⟩ ++ decI s ++ ⟨#[10]⟩
def logGo : List Entry → Int → ByteArray → ByteArray
  | [], _, a => a
  | x :: r, s, a => logGo r (stp s x) (a ++ lineE (stp s x) x)
def upGo : Int → List Entry → Bool
  | _, [] => true
  | d, x :: r => decide (d ≤ x.day) && upGo x.day r
def upB : List Entry → Bool
  | [] => true
  | x :: r => upGo x.day r
def logV (xs : List Entry) : ByteArray := if xs.all entB = true then (if upB xs = true then (if (logGo xs 0 ⟨#[]⟩).size ≤ 4000 then logGo xs 0 ⟨#[]⟩ else ⟨#[]⟩) else ⟨#[]⟩) else ⟨#[]⟩
def logC (xs : List Entry) : Int := if xs.all entB = true then (if upB xs = true then (if (logGo xs 0 ⟨#[]⟩).size ≤ 4000 then 0 else 5) else 6) else 7
theorem stampGo_bd : ∀ (l : List UInt8) (s : Int), 0 ≤ s → s ≤ 65518 → 0 ≤ stampGo l s ∧ stampGo l s ≤ 65518 := by
  intro l
  induction l with
  | nil => intro s h0 h1; exact ⟨h0, h1⟩
  | cons b r ih => intro s h0 h1; exact ih _ (by omega) (by omega)
theorem stp_bd (s : Int) (x : Entry) : 0 ≤ stp s x ∧ stp s x ≤ 65518 := stampGo_bd _ _ (by omega) (by omega)
theorem wordsB_size {x : Entry} (h : entB x = true) : (wordsB x).size ≤ 1100100 := by
  obtain ⟨d0, d1, v0, v1, ws⟩ := entB_bd h
  have sa := decI_size x.day
  have sb := decI_size x.value
  unfold wordsB
  rw [ByteArray.size_append', ByteArray.size_append', ByteArray.size_append', ByteArray.size_append', show (ByteArray.mk #[32]).size = 1 from rfl]
  omega
theorem lineE_size {x : Entry} (h : entB x = true) (s : Int) (h0 : 0 ≤ s) (h1 : s ≤ 65518) : (lineE s x).size ≤ 1200000 := by
  have a := wordsB_size h
  have b := decI_size s
  unfold lineE
  rw [ByteArray.size_append', ByteArray.size_append', ByteArray.size_append', show (ByteArray.mk #[32]).size = 1 from rfl, show (ByteArray.mk #[10]).size = 1 from rfl]
  omega
theorem logGo_ge : ∀ (xs : List Entry) (s : Int) (a : ByteArray), a.size ≤ (logGo xs s a).size := by
  intro xs
  induction xs with
  | nil => intro s a; exact Nat.le_refl _
  | cons x r ih =>
    intro s a
    have h := ih (stp s x) (a ++ lineE (stp s x) x)
    rw [ByteArray.size_append'] at h
    simp only [logGo]
    omega
theorem logGo_le : ∀ (xs : List Entry) (s : Int) (a : ByteArray), (∀ x ∈ xs, entB x = true) → (logGo xs s a).size ≤ a.size + xs.length * 1200000 := by
  intro xs
  induction xs with
  | nil => intro s a _; simp [logGo]
  | cons x r ih =>
    intro s a h
    have h1 := ih (stp s x) (a ++ lineE (stp s x) x) (fun y hy => h y (List.mem_cons_of_mem _ hy))
    have hb := stp_bd s x
    have h2 := lineE_size (h x (List.mem_cons_self ..)) (stp s x) hb.1 hb.2
    rw [ByteArray.size_append'] at h1
    simp only [logGo, List.length_cons]
    omega
theorem logGo_at {xs : List Entry} {k : Nat} {x : Entry} (h : xs[k]? = some x) (s : Int) (a : ByteArray) : logGo (xs.drop k) s a = logGo (xs.drop (k + 1)) (stp s x) (a ++ lineE (stp s x) x) := by
  rw [drop_at h]; rfl
theorem up_at {xs : List Entry} {k : Nat} {y x : Entry} (hy : xs[k]? = some y) (hx : xs[k + 1]? = some x) : upB (xs.drop k) = (decide (y.day ≤ x.day) && upB (xs.drop (k + 1))) := by
  rw [drop_at hy, drop_at hx]; rfl
theorem up_end {xs : List Entry} {k : Nat} (h : xs.length ≤ k + 1) : upB (xs.drop k) = true := by
  have h1 : (xs.drop k).length ≤ 1 := by simp; omega
  match hq : xs.drop k, h1 with
  | [], _ => rfl
  | [x], _ => rfl
theorem all_ent {xs : List Entry} (h : xs.all entB = true) {k : Nat} {x : Entry} (hx : xs[k]? = some x) : entB x = true := List.all_eq_true.1 h x (List.mem_of_getElem? hx)
theorem strCells_append (a b : ByteArray) : Lib.strCells a ++ Lib.strCells b = Lib.strCells (a ++ b) := by
  unfold Lib.strCells
  rw [← List.map_append]
  congr 1
theorem run_bytes_own {P : Program} (src dst e : TypeId) (hs : P.underlying src = some (.slice e)) (he : P.underlying e = some (.int .u8)) (hd : P.underlying dst = some .string) (W : World) {base : Nat} {A : Option Addr} {m c : Nat} {B : ByteArray}
    (hown : W.ownsRow base e 1 (.slice A m c) m (Lib.strCells B)) (hm : m = B.size) : (convert src dst (.slice A m c)).run P W = .ok (.string B) W := by
  by_cases h0 : 0 < m
  · obtain ⟨g, rfl⟩ := own_addr hown h0
    have h := run_bytes (P := P) src dst e hs he hd W ⟨g, 0, none⟩ c B.data.toList (Arr.own hown) (by rw [bytes_len]; omega)
    rw [bytes_len, ← hm] at h
    exact h
  · have hB : B = ⟨#[]⟩ := by
      have : B.data.toList = [] := List.eq_nil_of_length_eq_zero (by rw [bytes_len]; omega)
      cases B with
      | mk d => cases d with
        | mk q => simp at this; subst this; rfl
    have hm0 : m = 0 := by omega
    subst hm0
    rw [run_convert_bytes_string _ _ _ _ _ _ _ hs he hd, hB]
    cases A with
    | none => rfl
    | some ad =>
      rw [run_bytesToString W ad 0 c [] (by simpa using run_loadCells_list (P := P) (w := W) ad [] (by intro j v hv; simp at hv))]
      rfl
end Go.Proofs.YtapnllbbdfoaaaaGreatDoor

namespace Go.Proofs.YtapnllbbdfoaaaaGreatDoor
open Go.RowKit

def nl10 (l : List UInt8) : Nat := (l.takeWhile (fun b => b != 10)).length
def linE (w : List UInt8) : Option (Entry × Int) :=
  match spl 32 w with
  | [a, b, c, d] => if (okN a && okN c && okN d && entB ⟨numL a, ⟨b.toArray⟩, numL c⟩) = true then some (⟨numL a, ⟨b.toArray⟩, numL c⟩, numL d) else none
  | _ => none
def lastD (es : List Entry) : Int := match es.getLast? with
  | none => 0
  | some e => e.day
def stepL (l : List UInt8) (es : List Entry) (st : Int) : Option (Entry × Nat) :=
  if nl10 l < l.length then
    match linE (l.take (nl10 l)) with
    | some (e, s) => if lastD es ≤ e.day ∧ stp st e = s then some (e, nl10 l + 1) else none
    | none => none
  else none
def rdF (l : List UInt8) : Nat → List Entry → Int → Nat → List Entry × Int × Nat
  | 0, es, st, n => (es, st, n)
  | f + 1, es, st, n => match stepL (l.drop n) es st with
    | none => (es, st, n)
    | some (e, m) => rdF l f (es ++ [e]) (stp st e) (n + m)
def rdL (s : ByteArray) : List Entry × Int × Nat := rdF s.data.toList (s.size + 1) [] 0 0
structure Good (s : ByteArray) (es : List Entry) (st : Int) (n : Nat) : Prop where
  le : n ≤ s.size
  few : es.length ≤ n
  ent : ∀ e ∈ es, entB e = true
  s0 : 0 ≤ st
  s1 : st ≤ 65518
theorem Good.nil (s : ByteArray) : Good s [] 0 0 := ⟨by omega, by simp, by simp, by omega, by omega⟩
theorem nl10_le (l : List UInt8) : nl10 l ≤ l.length := by
  unfold nl10
  exact (List.takeWhile_prefix _).length_le
theorem nl10_cons (b : UInt8) (r : List UInt8) : nl10 (b :: r) = if b = 10 then 0 else nl10 r + 1 := by
  unfold nl10
  rw [List.takeWhile_cons]
  by_cases h : b = 10
  · simp [h]
  · have : (b != 10) = true := by simpa using h
    simp [this, h]
theorem nl10_at : ∀ l : List UInt8, nl10 l < l.length → l[nl10 l]? = some 10 := by
  intro l
  induction l with
  | nil => intro h; simp at h
  | cons b r ih =>
    intro h
    rw [nl10_cons] at h ⊢
    split
    · rename_i hb; simp [hb]
    · rename_i hb
      rw [if_neg hb] at h
      rw [List.getElem?_cons_succ]
      exact ih (by simpa using h)
theorem nl10_ne : ∀ (l : List UInt8) (j : Nat) (b : UInt8), j < nl10 l → l[j]? = some b → b ≠ 10 := by
  intro l
  induction l with
  | nil => intro j b h; simp [nl10] at h
  | cons c r ih =>
    intro j b h hb
    rw [nl10_cons] at h
    split at h
    · omega
    · rename_i hc
      cases j with
      | zero => simp at hb; subst hb; exact hc
      | succ j =>
        rw [List.getElem?_cons_succ] at hb
        exact ih j b (by omega) hb
theorem nl10_index : ∀ l : List UInt8, Lib.index l [10] = if nl10 l < l.length then (nl10 l : Int) else -1 := by
  intro l
  rw [Lib.index_one]
  induction l with
  | nil => simp [Lib.indexByte, nl10]
  | cons b r ih =>
    rw [Lib.indexByte, nl10_cons]
    by_cases h : b = 10
    · subst h
      simp
    · have hb : (b == 10) = false := by simpa using h
      rw [hb, ih, if_neg h]
      by_cases hk : nl10 r < r.length
      · have h1 : nl10 r + 1 < (b :: r).length := by rw [List.length_cons]; omega
        have h2 : ((nl10 r : Int) == -1) = false := by rw [beq_eq_false_iff_ne]; omega
        simp only [hk, h1, if_true, h2, Bool.false_eq_true, if_false]
        omega
      · have h1 : ¬ nl10 r + 1 < (b :: r).length := by rw [List.length_cons]; omega
        simp only [hk, h1, if_false, Bool.false_eq_true]
        rfl
theorem take_nl {l : List UInt8} (h : nl10 l < l.length) : l.take (nl10 l + 1) = l.take (nl10 l) ++ [10] := by
  rw [List.take_add_one, nl10_at l h]
  rfl
theorem stepL_some {s : ByteArray} {es : List Entry} {st : Int} {n m : Nat} {e : Entry} (hg : Good s es st n) (h : stepL (s.data.toList.drop n) es st = some (e, m)) : Good s (es ++ [e]) (stp st e) (n + m) ∧ 1 ≤ m := by
  unfold stepL at h
  split at h
  · rename_i hk
    split at h
    · rename_i e' s' hl
      split at h
      · rename_i hc
        simp only [Option.some.injEq, Prod.mk.injEq] at h
        obtain ⟨rfl, rfl⟩ := h
        have hl2 : (s.data.toList.drop n).length = s.size - n := by rw [List.length_drop, bytes_len]
        have he : entB e' = true := by
          unfold linE at hl
          split at hl
          · split at hl
            · rename_i hq
              simp only [Option.some.injEq, Prod.mk.injEq] at hl
              simp only [Bool.and_eq_true] at hq
              rw [← hl.1]
              exact hq.2
            · cases hl
          · cases hl
        refine ⟨⟨by have := hg.le; omega, by have := hg.few; simp; omega, ?_, (stp_bd st e').1, (stp_bd st e').2⟩, by omega⟩
        intro x hx
        rcases List.mem_append.1 hx with h1 | h1
        · exact hg.ent x h1
        · simp at h1; subst h1; exact he
      · cases h
    · cases h
  · cases h
theorem rdF_step {l : List UInt8} {f : Nat} {es : List Entry} {st : Int} {n m : Nat} {e : Entry} (h : stepL (l.drop n) es st = some (e, m)) : rdF l (f + 1) es st n = rdF l f (es ++ [e]) (stp st e) (n + m) := by
  rw [rdF, h]
theorem rdF_stop {l : List UInt8} {f : Nat} {es : List Entry} {st : Int} {n : Nat} (h : stepL (l.drop n) es st = none) : rdF l f es st n = (es, st, n) := by
  cases f with
  | zero => rfl
  | succ f => rw [rdF, h]
/-- what holds of the end -/
theorem rdF_good {s : ByteArray} : ∀ (f : Nat) (es : List Entry) (st : Int) (n : Nat), Good s es st n → Good s (rdF s.data.toList f es st n).1 (rdF s.data.toList f es st n).2.1 (rdF s.data.toList f es st n).2.2 := by
  intro f
  induction f with
  | zero => intro es st n h; exact h
  | succ f ih =>
    intro es st n h
    rw [rdF]
    split
    · exact h
    · rename_i e m hs
      exact ih _ _ _ (stepL_some h hs).1
theorem rdL_good (s : ByteArray) : Good s (rdL s).1 (rdL s).2.1 (rdL s).2.2 := rdF_good _ _ _ _ (Good.nil s)
theorem bytes_app (a b : ByteArray) : (a ++ b).data.toList = a.data.toList ++ b.data.toList := by
  rw [ByteArray.data_append, Array.toList_append]
theorem line_eq {w a b c d : List UInt8} (h : spl 32 w = [a, b, c, d]) (ha : okN a = true) (hc : okN c = true) {st : Int} (h0 : 0 ≤ st) (h1 : st ≤ 65518) :
    (lineE st ⟨numL a, ⟨b.toArray⟩, numL c⟩).data.toList = w ++ [10] ↔ (okN d = true ∧ numL d = st) := by
  have hw := spl_four h
  have ea := (okN_iff.1 ha).2.2.2
  have ec := (okN_iff.1 hc).2.2.2
  have e1 : (lineE st ⟨numL a, ⟨b.toArray⟩, numL c⟩).data.toList = a ++ 32 :: (b ++ 32 :: (c ++ 32 :: (Lib.itoa st ++ [10]))) := by
    simp only [lineE, wordsB, decI, bytes_app, ea, ec]
    simp
  rw [e1, hw]
  simp only [List.append_assoc, List.cons_append, List.append_cancel_left_eq, List.cons.injEq, true_and]
  constructor
  · intro e
    have e2 : Lib.itoa st = d := List.append_cancel_right e
    rw [← e2]
    exact ⟨okN_itoa (by omega) (by omega), (itoa_bare st).2⟩
  · rintro ⟨hd, rfl⟩
    rw [(okN_iff.1 hd).2.2.2]
theorem lastD_snoc (es : List Entry) (e : Entry) : lastD (es ++ [e]) = e.day := by simp [lastD]
theorem lastD_at {es : List Entry} {x : Entry} {n : Nat} (hn : es.length = n + 1) (h : es[n]? = some x) : lastD es = x.day := by
  unfold lastD
  rw [List.getLast?_eq_getElem?, hn, Nat.add_sub_cancel, h]
end Go.Proofs.YtapnllbbdfoaaaaGreatDoor

namespace Go.Proofs.YtapnllbbdfoaaaaGreatDoor
open Go.RowKit

theorem results_cell_row_tmp2 {P : Program} {fn : Func} {p u u' : Tmp} {ty : TypeId} (h : fn.results = #[.cell p ty, .tmp u, .tmp u']) (tmps : Array Value) (w : World) (g : Nat) (t : TypeId) (cs : Array Value) (fr : Nat × Nat) (d : TypeDesc)
    (hp : tmps.getD p undef = .pointer (some ⟨g, 0, none⟩)) (hg : w.heap[g]? = some (.cells cs t fr))
    (hu : P.underlying ty = some d) (hd : (match d with | .struct _ | .array _ _ => true | _ => false) = true) (hi : (P.info? ty).map (·.size) = some cs.size) :
    (results fn tmps).run P w = .ok (.tuple #[.agg cs, tmps.getD u undef, tmps.getD u' undef]) w := by
  have hp' : tmps[p]?.getD undef = .pointer (some ⟨g, 0, none⟩) := by simpa using hp
  simp only [results, h]
  simp [Result.andThen, hp', asAddr, run_loadVar_row w g t ty cs fr d hg hu hd hi]
def splB (s : ByteArray) : List ByteArray := (spl 32 s.data.toList).map (fun l => ⟨l.toArray⟩)
theorem bytes_list (s : ByteArray) : (⟨s.data.toList.toArray⟩ : ByteArray) = s := by cases s; simp
theorem splB_of (s : ByteArray) : Lib.splitB ⟨#[32]⟩ 0 (Lib.countB s ⟨#[32]⟩) s = splB s := by
  have h := Lib.splitB_data ⟨#[32]⟩ 0 (Lib.countB s ⟨#[32]⟩) s
  have e : Lib.countB s ⟨#[32]⟩ = Lib.count s.data.toList [32] := rfl
  rw [show (ByteArray.mk #[32]).data.toList = [32] from rfl, e, splitK_spl] at h
  unfold splB
  rw [← h, List.map_map, e]
  conv => lhs; rw [← List.map_id (Lib.splitB ⟨#[32]⟩ 0 (Lib.count s.data.toList [32]) s)]
  exact List.map_congr_left fun x _ => (bytes_list x).symm
theorem splB_len (s : ByteArray) : (splB s).length = Lib.countB s ⟨#[32]⟩ + 1 := by
  unfold splB
  rw [List.length_map, spl_len]
  have e : Lib.countB s ⟨#[32]⟩ = Lib.count s.data.toList [32] := rfl
  rw [e, Lib.count_one]
theorem splB_le (s : ByteArray) : (splB s).length ≤ s.size + 1 := by
  unfold splB
  rw [List.length_map, spl_len]
  have := List.count_le_length (a := (32 : UInt8)) (l := s.data.toList)
  rw [bytes_len] at this
  omega
theorem spl_part {c : UInt8} : ∀ (l x : List UInt8), x ∈ spl c l → x.length ≤ l.length := by
  intro l
  induction l with
  | nil => intro x h; simp [spl] at h; subst h; simp
  | cons b r ih =>
    intro x h
    simp only [spl] at h
    split at h
    · rcases List.mem_cons.1 h with h | h
      · subst h; simp
      · have := ih x h; simp only [List.length_cons]; omega
    · cases hs : spl c r with
      | nil => exact absurd hs (spl_ne c r)
      | cons a t =>
        rw [hs] at h ih
        simp only [glue] at h
        rcases List.mem_cons.1 h with h | h
        · subst h
          have := ih a (by simp)
          simp only [List.length_append, List.length_cons, List.length_nil]; omega
        · have := ih x (List.mem_cons_of_mem _ h); simp only [List.length_cons]; omega
theorem splB_part {s x : ByteArray} (h : x ∈ splB s) : x.size ≤ s.size := by
  unfold splB at h
  obtain ⟨l, hl, rfl⟩ := List.mem_map.1 h
  have h1 := spl_part _ _ hl
  rw [bytes_len] at h1
  rw [show (ByteArray.mk l.toArray).size = l.length from by simp only [ByteArray.size, List.size_toArray]]
  exact h1
theorem SplitSp_c (s : ByteArray) (hs : s.size ≤ 4000000000) (w : World) (hT : Tabs w) : Calls Tryz.prog 53 #[.string s, .string ⟨#[32]⟩] w fun e w' => e = .returned (.slice (some ⟨w.heap.size, 0, none⟩) (splB s).length (splB s).length) ∧ w' = w.alloc (.cells ((splB s).map Value.string).toArray 9) := by
  obtain ⟨m, hm⟩ := hT.len
  have h := Tryz.strings_Split s ⟨#[32]⟩ m w (by omega) hm (by decide)
  rw [← splB_len, splB_of] at h
  exact h
/-- what is said of a line that was read -/
def OutLn (s : ByteArray) (w : World) (e : Ending) (w' : World) : Prop :=
  ∃ (x : Entry) (st : Int) (ok : Bool), e = .returned (.tuple #[.agg #[.int .i64 x.day, .string x.what, .int .i64 x.value], .int .i64 st, .bool ok]) ∧ x.what.size ≤ s.size ∧
    (-1000000000000000000 < x.day ∧ x.day < 1000000000000000000) ∧ (-1000000000000000000 < st ∧ st < 1000000000000000000) ∧ linE s.data.toList = (if ok = true then some (x, st) else none) ∧ Below w.heap.size w w'
theorem linE_no {s : ByteArray} (h : (splB s).length ≠ 4) : linE s.data.toList = none := by
  unfold linE
  split
  · rename_i a b c d hs
    exfalso
    apply h
    unfold splB
    rw [hs]; rfl
  · rfl
theorem linE_four {s a b c d : ByteArray} (h : splB s = [a, b, c, d]) : linE s.data.toList = (if (okN a.data.toList && okN c.data.toList && okN d.data.toList && entB ⟨numV a, b, numV c⟩) = true then some (⟨numV a, b, numV c⟩, numV d) else none) := by
  have hs : spl 32 s.data.toList = [a.data.toList, b.data.toList, c.data.toList, d.data.toList] := by
    have h1 : (splB s).map (·.data.toList) = spl 32 s.data.toList := by
      unfold splB
      rw [List.map_map]
      conv => rhs; rw [← List.map_id (spl 32 s.data.toList)]
      exact List.map_congr_left fun x _ => by simp
    rw [← h1, h]; rfl
  unfold linE
  rw [hs]
  simp only []
  cases ha : okN a.data.toList
  · simp
  cases hc : okN c.data.toList
  · simp
  cases hd : okN d.data.toList
  · simp
  rw [numV_yes ha, numV_yes hc, numV_yes hd, bytes_list]
theorem four_of {s : ByteArray} (h : (splB s).length = 4) : ∃ a b c d, splB s = [a, b, c, d] := by
  match hs : splB s, h with
  | [a, b, c, d], _ => exact ⟨a, b, c, d, rfl⟩
end Go.Proofs.YtapnllbbdfoaaaaGreatDoor

namespace Go.Proofs.YtapnllbbdfoaaaaGreatDoor
open Go.RowKit

theorem spl_join (c : UInt8) : ∀ l : List UInt8, l = [c].intercalate (spl c l) := by
  intro l
  induction l with
  | nil => simp [spl, List.intercalate]
  | cons b r ih =>
    simp only [spl]
    split
    · rename_i hb
      subst hb
      cases hs : spl b r with
      | nil => exact absurd hs (spl_ne b r)
      | cons a t =>
        rw [hs] at ih
        conv => lhs; rw [ih]
        simp [List.intercalate]
    · cases hs : spl c r with
      | nil => exact absurd hs (spl_ne c r)
      | cons a t =>
        rw [hs] at ih
        conv => lhs; rw [ih]
        cases t <;> simp [List.intercalate, glue]
theorem spl_none {c : UInt8} : ∀ p : List UInt8, c ∉ p → spl c p = [p] := by
  intro p
  induction p with
  | nil => intro _; rfl
  | cons b r ih =>
    intro h
    simp only [List.mem_cons, not_or] at h
    simp only [spl]
    rw [if_neg (fun e => h.1 e.symm), ih h.2]
    rfl
theorem spl_cons {c : UInt8} (l : List UInt8) : ∀ p : List UInt8, c ∉ p → spl c (p ++ c :: l) = p :: spl c l := by
  intro p
  induction p with
  | nil => intro _; simp [spl]
  | cons b r ih =>
    intro h
    simp only [List.mem_cons, not_or] at h
    simp only [List.cons_append, spl]
    rw [if_neg (fun e => h.1 e.symm), ih h.2]
    rfl
theorem spl_inter {c : UInt8} : ∀ L : List (List UInt8), L ≠ [] → (∀ p ∈ L, c ∉ p) → spl c ([c].intercalate L) = L := by
  intro L
  induction L with
  | nil => intro h _; exact absurd rfl h
  | cons p t ih =>
    intro _ h
    cases t with
    | nil =>
      have := spl_none p (h p (by simp))
      simpa [List.intercalate] using this
    | cons q u =>
      have e : [c].intercalate (p :: q :: u) = p ++ c :: [c].intercalate (q :: u) := by simp [List.intercalate]
      rw [e, spl_cons _ p (h p (by simp)), ih (by simp) (fun x hx => h x (List.mem_cons_of_mem _ hx))]
theorem itoa_free (v : Int) : (32 : UInt8) ∉ Lib.itoa v := by
  have h := itoa_bare v
  have hd := (dig_all v.natAbs).1
  have key : ∀ l : List UInt8, l.all isDig = true → (32 : UInt8) ∉ l := by
    intro l hl hm
    have := List.all_eq_true.1 hl _ hm
    revert this; decide
  intro hm
  rw [← h.1] at hd
  cases hv : Lib.itoa v with
  | nil => rw [hv] at hm; cases hm
  | cons c r =>
    rw [hv] at hm hd
    simp only [bare] at hd
    split at hd
    · rename_i hc
      rcases List.mem_cons.1 hm with h1 | h1
      · rw [hc] at h1; revert h1; decide
      · exact key _ hd h1
    · exact key _ hd hm
theorem name_free {s : ByteArray} (h : nameB s = true) : (32 : UInt8) ∉ s.data.toList := by
  intro hm
  simp only [nameB, nameL, Bool.and_eq_true] at h
  have := List.all_eq_true.1 h.2 _ hm
  revert this; decide
end Go.Proofs.YtapnllbbdfoaaaaGreatDoor
