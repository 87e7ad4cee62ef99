/- Lemmas for the law on the console: the parts LogR, LogT. -/
import Derived.Test.YtpiehlfffjhoaaaGreatDoorQ0
import Derived.Test.YtpiehlfffjhoaaaGreatDoorQ5
import Derived.Test.YtpiehlfffjhoaaaGreatDoorQ6
import Derived.Deep.RegionHeld3
namespace Go.Proofs.YtpiehlfffjhoaaaGreatDoor
open Go.RowKit
def nl10 (l : List UInt8) : Nat := (l.takeWhile (fun b => b != 10)).length
def linE (w : List UInt8) : Option (Entry × Int) :=
 match spl 32 w with
 | [a, b, c, d] => if (okN a && okN c && okN d && entB ⟨numL a, ⟨b.toArray⟩, numL c⟩) = true then some (⟨numL a, ⟨b.toArray⟩, numL c⟩, numL d) else none
 | _ => none
def lastD (es : List Entry) : Int := match es.getLast? with
 | none => 0
 | some e => e.day
def stepL (l : List UInt8) (es : List Entry) (st : Int) : Option (Entry × Nat) :=
 if nl10 l < l.length then
   match linE (l.take (nl10 l)) with
   | some (e, s) => if lastD es ≤ e.day ∧ stp st e = s then some (e, nl10 l + 1) else none
   | none => none
 else none
def rdF (l : List UInt8) : Nat → List Entry → Int → Nat → List Entry × Int × Nat
 | 0, es, st, n => (es, st, n)
 | f + 1, es, st, n => match stepL (l.drop n) es st with
   | none => (es, st, n)
   | some (e, m) => rdF l f (es ++ [e]) (stp st e) (n + m)
def rdL (s : ByteArray) : List Entry × Int × Nat := rdF s.data.toList (s.size + 1) [] 0 0
structure Good (s : ByteArray) (es : List Entry) (st : Int) (n : Nat) : Prop where
 le : n ≤ s.size
 few : es.length ≤ n
 ent : ∀ e ∈ es, entB e = true
 s0 : 0 ≤ st
 s1 : st ≤ 65518
theorem Good.nil (s : ByteArray) : Good s [] 0 0 := ⟨by omega, by simp, by simp, by omega, by omega⟩
theorem nl10_le (l : List UInt8) : nl10 l ≤ l.length := by
 unfold nl10
 exact (List.takeWhile_prefix _).length_le
theorem nl10_cons (b : UInt8) (r : List UInt8) : nl10 (b :: r) = if b = 10 then 0 else nl10 r + 1 := by
 unfold nl10
 rw [List.takeWhile_cons]
 by_cases h : b = 10
 · simp [h]
 · have : (b != 10) = true := by simpa using h
   simp [this, h]
theorem nl10_at : ∀ l : List UInt8, nl10 l < l.length → l[nl10 l]? = some 10 := by
 intro l
 induction l with
 | nil => intro h; simp at h
 | cons b r ih =>
   intro h
   rw [nl10_cons] at h ⊢
   split
   · rename_i hb; simp [hb]
   · rename_i hb
     rw [if_neg hb] at h
     rw [List.getElem?_cons_succ]
     exact ih (by simpa using h)
theorem nl10_ne : ∀ (l : List UInt8) (j : Nat) (b : UInt8), j < nl10 l → l[j]? = some b → b ≠ 10 := by
 intro l
 induction l with
 | nil => intro j b h; simp [nl10] at h
 | cons c r ih =>
   intro j b h hb
   rw [nl10_cons] at h
   split at h
   · omega
   · rename_i hc
     cases j with
     | zero => simp at hb; subst hb; exact hc
     | succ j =>
       rw [List.getElem?_cons_succ] at hb
       exact ih j b (by omega) hb
theorem nl10_index : ∀ l : List UInt8, Lib.index l [10] = if nl10 l < l.length then (nl10 l : Int) else -1 := by
 intro l
 rw [Lib.index_one]
 induction l with
 | nil => simp [Lib.indexByte, nl10]
 | cons b r ih =>
   rw [Lib.indexByte, nl10_cons]
   by_cases h : b = 10
   · subst h
     simp
   · have hb : (b == 10) = false := by simpa using h
     rw [hb, ih, if_neg h]
     by_cases hk : nl10 r < r.length
     · have h1 : nl10 r + 1 < (b :: r).length := by rw [List.length_cons]; omega
       have h2 : ((nl10 r : Int) == -1) = false := by rw [beq_eq_false_iff_ne]; omega
       simp only [hk, h1, if_true, h2, Bool.false_eq_true, if_false]
       omega
     · have h1 : ¬ nl10 r + 1 < (b :: r).length := by rw [List.length_cons]; omega
       simp only [hk, h1, if_false, Bool.false_eq_true]
       rfl
theorem take_nl {l : List UInt8} (h : nl10 l < l.length) : l.take (nl10 l + 1) = l.take (nl10 l) ++ [10] := by
 rw [List.take_add_one, nl10_at l h]
 rfl
theorem stepL_some {s : ByteArray} {es : List Entry} {st : Int} {n m : Nat} {e : Entry} (hg : Good s es st n) (h : stepL (s.data.toList.drop n) es st = some (e, m)) : Good s (es ++ [e]) (stp st e) (n + m) ∧ 1 ≤ m := by
 unfold stepL at h
 split at h
 · rename_i hk
   split at h
   · rename_i e' s' hl
     split at h
     · rename_i hc
       simp only [Option.some.injEq, Prod.mk.injEq] at h
       obtain ⟨rfl, rfl⟩ := h
       have hl2 : (s.data.toList.drop n).length = s.size - n := by rw [List.length_drop, bytes_len]
       have he : entB e' = true := by
         unfold linE at hl
         split at hl
         · split at hl
           · rename_i hq
             simp only [Option.some.injEq, Prod.mk.injEq] at hl
             simp only [Bool.and_eq_true] at hq
             rw [← hl.1]
             exact hq.2
           · cases hl
         · cases hl
       refine ⟨⟨by have := hg.le; omega, by have := hg.few; simp; omega, ?_, (stp_bd st e').1, (stp_bd st e').2⟩, by omega⟩
       intro x hx
       rcases List.mem_append.1 hx with h1 | h1
       · exact hg.ent x h1
       · simp at h1; subst h1; exact he
     · cases h
   · cases h
 · cases h
theorem rdF_step {l : List UInt8} {f : Nat} {es : List Entry} {st : Int} {n m : Nat} {e : Entry} (h : stepL (l.drop n) es st = some (e, m)) : rdF l (f + 1) es st n = rdF l f (es ++ [e]) (stp st e) (n + m) := by
 rw [rdF, h]
theorem rdF_stop {l : List UInt8} {f : Nat} {es : List Entry} {st : Int} {n : Nat} (h : stepL (l.drop n) es st = none) : rdF l f es st n = (es, st, n) := by
 cases f with
 | zero => rfl
 | succ f => rw [rdF, h]
theorem rdF_good {s : ByteArray} : ∀ (f : Nat) (es : List Entry) (st : Int) (n : Nat), Good s es st n → Good s (rdF s.data.toList f es st n).1 (rdF s.data.toList f es st n).2.1 (rdF s.data.toList f es st n).2.2 := by
 intro f
 induction f with
 | zero => intro es st n h; exact h
 | succ f ih =>
   intro es st n h
   rw [rdF]
   split
   · exact h
   · rename_i e m hs
     exact ih _ _ _ (stepL_some h hs).1
theorem rdL_good (s : ByteArray) : Good s (rdL s).1 (rdL s).2.1 (rdL s).2.2 := rdF_good _ _ _ _ (Good.nil s)
theorem bytes_app (a b : ByteArray) : (a ++ b).data.toList = a.data.toList ++ b.data.toList := by
 rw [ByteArray.data_append, Array.toList_append]
theorem line_eq {w a b c d : List UInt8} (h : spl 32 w = [a, b, c, d]) (ha : okN a = true) (hc : okN c = true) {st : Int} (h0 : 0 ≤ st) (h1 : st ≤ 65518) :
   (lineE st ⟨numL a, ⟨b.toArray⟩, numL c⟩).data.toList = w ++ [10] ↔ (okN d = true ∧ numL d = st) := by
 have hw := spl_four h
 have ea := (okN_iff.1 ha).2.2.2
 have ec := (okN_iff.1 hc).2.2.2
 have e1 : (lineE st ⟨numL a, ⟨b.toArray⟩, numL c⟩).data.toList = a ++ 32 :: (b ++ 32 :: (c ++ 32 :: (Lib.itoa st ++ [10]))) := by
   simp only [lineE, wordsB, decI, bytes_app, ea, ec]
   simp
 rw [e1, hw]
 simp only [List.append_assoc, List.cons_append, List.append_cancel_left_eq, List.cons.injEq, true_and]
 constructor
 · intro e
   have e2 : Lib.itoa st = d := List.append_cancel_right e
   rw [← e2]
   exact ⟨okN_itoa (by omega) (by omega), (itoa_bare st).2⟩
 · rintro ⟨hd, rfl⟩
   rw [(okN_iff.1 hd).2.2.2]
theorem lastD_at {es : List Entry} {x : Entry} {n : Nat} (hn : es.length = n + 1) (h : es[n]? = some x) : lastD es = x.day := by
 unfold lastD
 rw [List.getLast?_eq_getElem?, hn, Nat.add_sub_cancel, h]
theorem results_cell_row_tmp2 {P : Program} {fn : Func} {p u u' : Tmp} {ty : TypeId} (h : fn.results = #[.cell p ty, .tmp u, .tmp u']) (tmps : Array Value) (w : World) (g : Nat) (t : TypeId) (cs : Array Value) (fr : Nat × Nat) (d : TypeDesc)
   (hp : tmps.getD p undef = .pointer (some ⟨g, 0, none⟩)) (hg : w.heap[g]? = some (.cells cs t fr))
   (hu : P.underlying ty = some d) (hd : (match d with | .struct _ | .array _ _ => true | _ => false) = true) (hi : (P.info? ty).map (·.size) = some cs.size) :
   (results fn tmps).run P w = .ok (.tuple #[.agg cs, tmps.getD u undef, tmps.getD u' undef]) w := by
 have hp' : tmps[p]?.getD undef = .pointer (some ⟨g, 0, none⟩) := by simpa using hp
 simp only [results, h]
 simp [Result.andThen, hp', asAddr, run_loadVar_row w g t ty cs fr d hg hu hd hi]
def splB (s : ByteArray) : List ByteArray := (spl 32 s.data.toList).map (fun l => ⟨l.toArray⟩)
theorem bytes_list (s : ByteArray) : (⟨s.data.toList.toArray⟩ : ByteArray) = s := by cases s; simp
theorem splB_of (s : ByteArray) : Lib.splitB ⟨#[32]⟩ 0 (Lib.countB s ⟨#[32]⟩) s = splB s := by
 have h := Lib.splitB_data ⟨#[32]⟩ 0 (Lib.countB s ⟨#[32]⟩) s
 have e : Lib.countB s ⟨#[32]⟩ = Lib.count s.data.toList [32] := rfl
 rw [show (ByteArray.mk #[32]).data.toList = [32] from rfl, e, splitK_spl] at h
 unfold splB
 rw [← h, List.map_map, e]
 conv => lhs; rw [← List.map_id (Lib.splitB ⟨#[32]⟩ 0 (Lib.count s.data.toList [32]) s)]
 exact List.map_congr_left fun x _ => (bytes_list x).symm
theorem splB_len (s : ByteArray) : (splB s).length = Lib.countB s ⟨#[32]⟩ + 1 := by
 unfold splB
 rw [List.length_map, spl_len]
 have e : Lib.countB s ⟨#[32]⟩ = Lib.count s.data.toList [32] := rfl
 rw [e, Lib.count_one]
theorem splB_le (s : ByteArray) : (splB s).length ≤ s.size + 1 := by
 unfold splB
 rw [List.length_map, spl_len]
 have := List.count_le_length (a := (32 : UInt8)) (l := s.data.toList)
 rw [bytes_len] at this
 omega
theorem spl_part {c : UInt8} : ∀ (l x : List UInt8), x ∈ spl c l → x.length ≤ l.length := by
 intro l
 induction l with
 | nil => intro x h; simp [spl] at h; subst h; simp
 | cons b r ih =>
   intro x h
   simp only [spl] at h
   split at h
   · rcases List.mem_cons.1 h with h | h
     · subst h; simp
     · have := ih x h; simp only [List.length_cons]; omega
   · cases hs : spl c r with
     | nil => exact absurd hs (spl_ne c r)
     | cons a t =>
       rw [hs] at h ih
       simp only [glue] at h
       rcases List.mem_cons.1 h with h | h
       · subst h
         have := ih a (by simp)
         simp only [List.length_append, List.length_cons, List.length_nil]; omega
       · have := ih x (List.mem_cons_of_mem _ h); simp only [List.length_cons]; omega
theorem splB_part {s x : ByteArray} (h : x ∈ splB s) : x.size ≤ s.size := by
 unfold splB at h
 obtain ⟨l, hl, rfl⟩ := List.mem_map.1 h
 have h1 := spl_part _ _ hl
 rw [bytes_len] at h1
 rw [show (ByteArray.mk l.toArray).size = l.length from by simp only [ByteArray.size, List.size_toArray]]
 exact h1
theorem SplitSp_c (s : ByteArray) (hs : s.size ≤ 4000000000) (w : World) (hT : Tabs w) : Calls Tryz.prog 27 #[.string s, .string ⟨#[32]⟩] w fun e w' => e = .returned (.slice (some ⟨w.heap.size, 0, none⟩) (splB s).length (splB s).length) ∧ w' = w.alloc (.cells ((splB s).map Value.string).toArray 9) := by
 obtain ⟨m, hm⟩ := hT.len
 have h := Tryz.strings_Split s ⟨#[32]⟩ m w (by omega) hm (by decide)
 rw [← splB_len, splB_of] at h
 exact h
def OutLn (s : ByteArray) (w : World) (e : Ending) (w' : World) : Prop :=
 ∃ (x : Entry) (st : Int) (ok : Bool), e = .returned (.tuple #[.agg #[.int .i64 x.day, .string x.what, .int .i64 x.value], .int .i64 st, .bool ok]) ∧ x.what.size ≤ s.size ∧
   (-1000000000000000000 < x.day ∧ x.day < 1000000000000000000) ∧ (-1000000000000000000 < st ∧ st < 1000000000000000000) ∧ linE s.data.toList = (if ok = true then some (x, st) else none) ∧ Below w.heap.size w w'
theorem linE_no {s : ByteArray} (h : (splB s).length ≠ 4) : linE s.data.toList = none := by
 unfold linE
 split
 · rename_i a b c d hs
   exfalso
   apply h
   unfold splB
   rw [hs]; rfl
 · rfl
theorem linE_four {s a b c d : ByteArray} (h : splB s = [a, b, c, d]) : linE s.data.toList = (if (okN a.data.toList && okN c.data.toList && okN d.data.toList && entB ⟨numV a, b, numV c⟩) = true then some (⟨numV a, b, numV c⟩, numV d) else none) := by
 have hs : spl 32 s.data.toList = [a.data.toList, b.data.toList, c.data.toList, d.data.toList] := by
   have h1 : (splB s).map (·.data.toList) = spl 32 s.data.toList := by
     unfold splB
     rw [List.map_map]
     conv => rhs; rw [← List.map_id (spl 32 s.data.toList)]
     exact List.map_congr_left fun x _ => by simp
   rw [← h1, h]; rfl
 unfold linE
 rw [hs]
 simp only []
 cases ha : okN a.data.toList
 · simp
 cases hc : okN c.data.toList
 · simp
 cases hd : okN d.data.toList
 · simp
 rw [numV_yes ha, numV_yes hc, numV_yes hd, bytes_list]
theorem four_of {s : ByteArray} (h : (splB s).length = 4) : ∃ a b c d, splB s = [a, b, c, d] := by
 match hs : splB s, h with
 | [a, b, c, d], _ => exact ⟨a, b, c, d, rfl⟩
set_option maxRecDepth 100000 in
set_option maxHeartbeats 4000000 in
theorem readLine_c (s : ByteArray) (hs : s.size ≤ 1048576) (w : World) (hT : Tabs w) : Calls Tryz.prog 145 #[.string s] w (OutLn s w) := by
 have HT := qH hT
 have hle := splB_le s
 clear hT
 go_enter Tryz.func145, Tryz.ntmps145
 go_wp2_with fail
 have hv := bl_alloc (Below.refl w.heap.size w) (Obj.cells #[.int .i64 0, .string ⟨#[]⟩, .int .i64 0] 141)
 have hR := Blk.new w 141 #[Value.int .i64 0, Value.string ⟨#[]⟩, Value.int .i64 0]
 refine (SplitSp_c s (by omega) _ (HT.out.below hv)).mono ?_
 rintro e W ⟨rfl, hW⟩
 have hv1 := bl_alloc hv (Obj.cells ((splB s).map Value.string).toArray 9)
 have hS := Blk.new (w.alloc (Obj.cells #[.int .i64 0, .string ⟨#[]⟩, .int .i64 0] 141)) 9 ((splB s).map Value.string).toArray
 replace hR := hR.alloc (Obj.cells ((splB s).map Value.string).toArray 9)
 rw [← hW] at hv1 hS hR
 obtain ⟨gS, hgS⟩ : ∃ gS, gS = (w.alloc (Obj.cells #[.int .i64 0, .string ⟨#[]⟩, .int .i64 0] 141)).heap.size := ⟨_, rfl⟩
 have hgS1 : w.heap.size < gS := by rw [hgS]; simp
 obtain ⟨gR, hgR⟩ : ∃ gR, gR = w.heap.size := ⟨_, rfl⟩
 rw [← hgS] at hS ⊢
 have hgR1 : w.heap.size ≤ gR := by omega
 have hne : gR ≠ gS := by omega
 rw [← hgR] at hR
 have HGR := qH hgR
 clear hW hgS hv
 by_cases h4 : (splB s).length = 4
 case neg =>
   have HL := qH (linE_no h4)
   have h4' : ¬ ((splB s).length : Int) = 4 := by omega
   obtain ⟨r0, r1, r2⟩ := qC3 hR
   have f0 := hR.frozen 0
   have f1 := hR.frozen 1
   have f2 := hR.frozen 2
   generalize (splB s).length = n at h4 h4' hle ⊢
   rw [← hgR]
   clear hgR
   go_wp2_with fail
   refine bodyPost_ret (results_cell_row_tmp2 (P := Tryz.prog) rfl _ _ gR 141 #[Value.int .i64 0, Value.string ⟨#[]⟩, Value.int .i64 0] (0, 0) _ rfl ?_ Tryz.underlying141 rfl (by kernel_rfl)) rfl ?_
   · exact ((hR.set_ 0 _).set_ 1 _).set_ 2 _
   · exact ⟨⟨0, ⟨#[]⟩, 0⟩, 0, false, rfl, Nat.zero_le _, by simp, by simp, by rw [HL.out]; rfl, bl_set (bl_set (bl_set hv1 hgR1 _) hgR1 _) hgR1 _⟩
 obtain ⟨a, b, c, d, hq⟩ := four_of h4
 have hsa := splB_part (s := s) (x := a) (by rw [hq]; simp)
 have hsb := splB_part (s := s) (x := b) (by rw [hq]; simp)
 have hsc := splB_part (s := s) (x := c) (by rw [hq]; simp)
 have hsd := splB_part (s := s) (x := d) (by rw [hq]; simp)
 have HL := qH (linE_four hq)
 have hS2 : Blk W gS 9 #[.string a, .string b, .string c, .string d] := by rw [hq] at hS; exact hS
 rw [hq]
 simp only [List.length_cons, List.length_nil]
 clear hS hq h4 hle
 obtain ⟨ba0, ba1⟩ := numV_bd a
 obtain ⟨bc0, bc1⟩ := numV_bd c
 obtain ⟨bd0, bd1⟩ := numV_bd d
 have HA := qH (fun w hT => ReadDecimal_c a (by omega) w hT)
 have HC := qH (fun w hT => ReadDecimal_c c (by omega) w hT)
 have HD := qH (fun w hT => ReadDecimal_c d (by omega) w hT)
 obtain ⟨oa, hoa⟩ : ∃ o, o = okN a.data.toList := ⟨_, rfl⟩
 obtain ⟨oc, hoc⟩ : ∃ o, o = okN c.data.toList := ⟨_, rfl⟩
 obtain ⟨od, hod⟩ : ∃ o, o = okN d.data.toList := ⟨_, rfl⟩
 obtain ⟨na, hna⟩ : ∃ o, o = numV a := ⟨_, rfl⟩
 obtain ⟨nc, hnc⟩ : ∃ o, o = numV c := ⟨_, rfl⟩
 obtain ⟨nd, hnd⟩ : ∃ o, o = numV d := ⟨_, rfl⟩
 rw [← hoa, ← hna] at HA
 rw [← hoc, ← hnc] at HC
 rw [← hod, ← hnd] at HD
 rw [← hoa, ← hoc, ← hod, ← hna, ← hnc, ← hnd] at HL
 rw [← hna] at ba0 ba1
 rw [← hnc] at bc0 bc1
 rw [← hnd] at bd0 bd1
 clear hoa hoc hod hna hnc hnd
 rw [← hgR]
 clear hgR
 have s0 : W.cell? ⟨gS, 0, none⟩ = some (.string a) := hS2.cell 0
 go_wp2_with fail
 refine (HA.out _ (HT.out.below hv1)).mono ?_
 rintro e W2 ⟨rfl, hb⟩
 replace hv1 := bl_trans hv1 hb
 replace hR := hR.below hb
 replace hS2 := hS2.below hb
 clear hb s0
 have s2 : W2.cell? ⟨gS, 2, none⟩ = some (.string c) := hS2.cell 2
 go_wp2_with fail
 refine (HC.out _ (HT.out.below hv1)).mono ?_
 rintro e W3 ⟨rfl, hb⟩
 replace hv1 := bl_trans hv1 hb
 replace hR := hR.below hb
 replace hS2 := hS2.below hb
 clear hb s2
 have s3 : W3.cell? ⟨gS, 3, none⟩ = some (.string d) := hS2.cell 3
 go_wp2_with fail
 refine (HD.out _ (HT.out.below hv1)).mono ?_
 rintro e W4 ⟨rfl, hb⟩
 replace hv1 := bl_trans hv1 hb
 replace hR := hR.below hb
 replace hS2 := hS2.below hb
 clear hb s3
 have s1 : W4.cell? ⟨gS, 1, none⟩ = some (.string b) := hS2.cell 1
 obtain ⟨W5, hW5⟩ : ∃ W5, W5 = W4.alloc (Obj.cells #[.int .i64 na, .string b, .int .i64 nc] 141) := ⟨_, rfl⟩
 obtain ⟨gE, hgE⟩ : ∃ gE, gE = W4.heap.size := ⟨_, rfl⟩
 have hE : Blk W5 gE 141 #[.int .i64 na, .string b, .int .i64 nc] := by rw [hW5, hgE]; exact Blk.new _ _ _
 have hb : Below W4.heap.size W4 W5 := by rw [hW5]; exact bl_alloc (Below.refl _ _) _
 have hgE1 : gR ≠ gE := by have := hR.lt; omega
 go_wp2_with fail
 rw [← hW5, ← hgE]
 clear hW5 hgE s1
 replace hv1 := bl_trans hv1 hb
 replace hR := hR.below hb
 clear hb hS2
 replace hv1 : Below w.heap.size w W5.drew := hv1.drew
 replace hR := hR.below (Below.refl W5.heap.size W5).drew
 have hE2 := hE.below (Below.refl W5.heap.size W5).drew
 cases oa
 · refine wp_region_held_drew (S := fun w' => Blk w' gE 141 #[Value.int .i64 na, Value.string b, Value.int .i64 nc]) (by kernel_rfl) ?_ (fun hHeld => ?_)
   · exact hE2
   refine zT 0 46 ?_ rfl ?_ (by assumption) ?_
   rotate_left
   · intro w hSw
     try dsimp only at hSw
     obtain ⟨k0, k1, k2⟩ := qC3 hSw
     go_simp
     try with_reducible rfl
   try simp only [Act.put, zA, zB, zC]
   refine zU 1 47 rfl (by assumption) ?_
   try simp only [Act.put, zA, zB, zC]
   refine zU 2 48 rfl (by assumption) ?_
   try simp only [Act.put, zA, zB, zC]
   refine zU 3 49 rfl (by assumption) ?_
   try simp only [Act.put, zA, zB, zC]
   refine zS 4 50 rfl (by assumption) ?_
   try simp only [Act.put, zA, zB, zC]
   refine zU 5 51 rfl (by assumption) ?_
   try simp only [Act.put, zA, zB, zC]
   refine zU 6 52 rfl (by assumption) ?_
   try simp only [Act.put, zA, zB, zC]
   refine zS 7 53 rfl (by assumption) ?_
   try simp only [Act.put, zA, zB, zC]
   refine zU 8 54 rfl (by assumption) ?_
   try simp only [Act.put, zA, zB, zC]
   refine zU 9 55 rfl (by assumption) ?_
   try simp only [Act.put, zA, zB, zC]
   refine zS 10 56 rfl (by assumption) ?_
   try simp only [Act.put, zA, zB, zC]
   refine zS 11 57 rfl (by assumption) ?_
   try simp only [Act.put, zA, zB, zC]
   refine zU 12 58 rfl (by assumption) ?_
   try simp only [Act.put, zA, zB, zC]
   have f0 : W5.frozen? ⟨gR, 0, none⟩ = false := hR.frozen 0
   have r0 : W5.cell? ⟨gR, 0, none⟩ = some (.int .i64 0) := hR.cell 0
   have f1 : W5.frozen? ⟨gR, 1, none⟩ = false := hR.frozen 1
   have r1 : W5.cell? ⟨gR, 1, none⟩ = some (.string ⟨#[]⟩) := hR.cell 1
   have f2 : W5.frozen? ⟨gR, 2, none⟩ = false := hR.frozen 2
   have r2 : W5.cell? ⟨gR, 2, none⟩ = some (.int .i64 0) := hR.cell 2
   refine zR 13 none rfl (fun K hK => ?_)
   go_simp
   (try dsimp only at hHeld); go_split_ands
   have hR2 := ((hR.set_ 0 (.int .i64 na)).set_ 1 (.string b)).set_ 2 (.int .i64 nc)
   have hv2 := bl_set (bl_set (bl_set hv1 (p := ⟨gR, 0, none⟩) hgR1 (.int .i64 na)) (p := ⟨gR, 1, none⟩) hgR1 (.string b)) (p := ⟨gR, 2, none⟩) hgR1 (.int .i64 nc)
   refine hK.out _ _ ?_ (fun hHeld => ?_)
   · (try dsimp only); go_split_ands; exact ((hE2.far hgE1.symm _).far hgE1.symm _).far hgE1.symm _
   clear hK K
   try simp only [Act.put]
   refine zU 14 3 rfl (by assumption) ?_
   try simp only [Act.put, zA, zB, zC]
   refine zU 15 4 rfl (by assumption) ?_
   try simp only [Act.put, zA, zB, zC]
   refine wpAnyH_done (by kernel_rfl) ?_ _
   go_wp2_with fail
   refine bodyPost_ret (results_cell_row_tmp2 (P := Tryz.prog) rfl _ _ gR 141 #[Value.int .i64 na, Value.string b, Value.int .i64 nc] (0, 0) _ rfl hR2 Tryz.underlying141 rfl (by kernel_rfl)) rfl ?_
   exact ⟨⟨na, b, nc⟩, nd, false, rfl, hsb, ⟨ba0, ba1⟩, ⟨bd0, bd1⟩, by rw [HL.out]; rfl, hv2⟩
 cases oc
 · refine wp_region_held_drew (S := fun w' => Blk w' gE 141 #[Value.int .i64 na, Value.string b, Value.int .i64 nc]) (by kernel_rfl) ?_ (fun hHeld => ?_)
   · exact hE2
   refine zT 0 46 ?_ rfl ?_ (by assumption) ?_
   rotate_left
   · intro w hSw
     try dsimp only at hSw
     obtain ⟨k0, k1, k2⟩ := qC3 hSw
     go_simp
     try with_reducible rfl
   try simp only [Act.put, zA, zB, zC]
   refine zU 1 47 rfl (by assumption) ?_
   try simp only [Act.put, zA, zB, zC]
   refine zU 2 48 rfl (by assumption) ?_
   try simp only [Act.put, zA, zB, zC]
   refine zU 3 49 rfl (by assumption) ?_
   try simp only [Act.put, zA, zB, zC]
   refine zU 4 50 rfl (by assumption) ?_
   try simp only [Act.put, zA, zB, zC]
   refine zU 5 51 rfl (by assumption) ?_
   try simp only [Act.put, zA, zB, zC]
   refine zU 6 52 rfl (by assumption) ?_
   try simp only [Act.put, zA, zB, zC]
   refine zS 7 53 rfl (by assumption) ?_
   try simp only [Act.put, zA, zB, zC]
   refine zU 8 54 rfl (by assumption) ?_
   try simp only [Act.put, zA, zB, zC]
   refine zU 9 55 rfl (by assumption) ?_
   try simp only [Act.put, zA, zB, zC]
   refine zS 10 56 rfl (by assumption) ?_
   try simp only [Act.put, zA, zB, zC]
   refine zS 11 57 rfl (by assumption) ?_
   try simp only [Act.put, zA, zB, zC]
   refine zU 12 58 rfl (by assumption) ?_
   try simp only [Act.put, zA, zB, zC]
   have f0 : W5.frozen? ⟨gR, 0, none⟩ = false := hR.frozen 0
   have r0 : W5.cell? ⟨gR, 0, none⟩ = some (.int .i64 0) := hR.cell 0
   have f1 : W5.frozen? ⟨gR, 1, none⟩ = false := hR.frozen 1
   have r1 : W5.cell? ⟨gR, 1, none⟩ = some (.string ⟨#[]⟩) := hR.cell 1
   have f2 : W5.frozen? ⟨gR, 2, none⟩ = false := hR.frozen 2
   have r2 : W5.cell? ⟨gR, 2, none⟩ = some (.int .i64 0) := hR.cell 2
   refine zR 13 none rfl (fun K hK => ?_)
   go_simp
   (try dsimp only at hHeld); go_split_ands
   have hR2 := ((hR.set_ 0 (.int .i64 na)).set_ 1 (.string b)).set_ 2 (.int .i64 nc)
   have hv2 := bl_set (bl_set (bl_set hv1 (p := ⟨gR, 0, none⟩) hgR1 (.int .i64 na)) (p := ⟨gR, 1, none⟩) hgR1 (.string b)) (p := ⟨gR, 2, none⟩) hgR1 (.int .i64 nc)
   refine hK.out _ _ ?_ (fun hHeld => ?_)
   · (try dsimp only); go_split_ands; exact ((hE2.far hgE1.symm _).far hgE1.symm _).far hgE1.symm _
   clear hK K
   try simp only [Act.put]
   refine zU 14 3 rfl (by assumption) ?_
   try simp only [Act.put, zA, zB, zC]
   refine zU 15 4 rfl (by assumption) ?_
   try simp only [Act.put, zA, zB, zC]
   refine wpAnyH_done (by kernel_rfl) ?_ _
   go_wp2_with fail
   refine bodyPost_ret (results_cell_row_tmp2 (P := Tryz.prog) rfl _ _ gR 141 #[Value.int .i64 na, Value.string b, Value.int .i64 nc] (0, 0) _ rfl hR2 Tryz.underlying141 rfl (by kernel_rfl)) rfl ?_
   exact ⟨⟨na, b, nc⟩, nd, false, rfl, hsb, ⟨ba0, ba1⟩, ⟨bd0, bd1⟩, by rw [HL.out]; rfl, hv2⟩
 cases od
 · refine wp_region_held_drew (S := fun w' => Blk w' gE 141 #[Value.int .i64 na, Value.string b, Value.int .i64 nc]) (by kernel_rfl) ?_ (fun hHeld => ?_)
   · exact hE2
   refine zT 0 46 ?_ rfl ?_ (by assumption) ?_
   rotate_left
   · intro w hSw
     try dsimp only at hSw
     obtain ⟨k0, k1, k2⟩ := qC3 hSw
     go_simp
     try with_reducible rfl
   try simp only [Act.put, zA, zB, zC]
   refine zU 1 47 rfl (by assumption) ?_
   try simp only [Act.put, zA, zB, zC]
   refine zU 2 48 rfl (by assumption) ?_
   try simp only [Act.put, zA, zB, zC]
   refine zU 3 49 rfl (by assumption) ?_
   try simp only [Act.put, zA, zB, zC]
   refine zU 4 50 rfl (by assumption) ?_
   try simp only [Act.put, zA, zB, zC]
   refine zU 5 51 rfl (by assumption) ?_
   try simp only [Act.put, zA, zB, zC]
   refine zU 6 52 rfl (by assumption) ?_
   try simp only [Act.put, zA, zB, zC]
   refine zU 7 53 rfl (by assumption) ?_
   try simp only [Act.put, zA, zB, zC]
   refine zU 8 54 rfl (by assumption) ?_
   try simp only [Act.put, zA, zB, zC]
   refine zU 9 55 rfl (by assumption) ?_
   try simp only [Act.put, zA, zB, zC]
   refine zS 10 56 rfl (by assumption) ?_
   try simp only [Act.put, zA, zB, zC]
   refine zS 11 57 rfl (by assumption) ?_
   try simp only [Act.put, zA, zB, zC]
   refine zU 12 58 rfl (by assumption) ?_
   try simp only [Act.put, zA, zB, zC]
   have f0 : W5.frozen? ⟨gR, 0, none⟩ = false := hR.frozen 0
   have r0 : W5.cell? ⟨gR, 0, none⟩ = some (.int .i64 0) := hR.cell 0
   have f1 : W5.frozen? ⟨gR, 1, none⟩ = false := hR.frozen 1
   have r1 : W5.cell? ⟨gR, 1, none⟩ = some (.string ⟨#[]⟩) := hR.cell 1
   have f2 : W5.frozen? ⟨gR, 2, none⟩ = false := hR.frozen 2
   have r2 : W5.cell? ⟨gR, 2, none⟩ = some (.int .i64 0) := hR.cell 2
   refine zR 13 none rfl (fun K hK => ?_)
   go_simp
   (try dsimp only at hHeld); go_split_ands
   have hR2 := ((hR.set_ 0 (.int .i64 na)).set_ 1 (.string b)).set_ 2 (.int .i64 nc)
   have hv2 := bl_set (bl_set (bl_set hv1 (p := ⟨gR, 0, none⟩) hgR1 (.int .i64 na)) (p := ⟨gR, 1, none⟩) hgR1 (.string b)) (p := ⟨gR, 2, none⟩) hgR1 (.int .i64 nc)
   refine hK.out _ _ ?_ (fun hHeld => ?_)
   · (try dsimp only); go_split_ands; exact ((hE2.far hgE1.symm _).far hgE1.symm _).far hgE1.symm _
   clear hK K
   try simp only [Act.put]
   refine zU 14 3 rfl (by assumption) ?_
   try simp only [Act.put, zA, zB, zC]
   refine zU 15 4 rfl (by assumption) ?_
   try simp only [Act.put, zA, zB, zC]
   refine wpAnyH_done (by kernel_rfl) ?_ _
   go_wp2_with fail
   refine bodyPost_ret (results_cell_row_tmp2 (P := Tryz.prog) rfl _ _ gR 141 #[Value.int .i64 na, Value.string b, Value.int .i64 nc] (0, 0) _ rfl hR2 Tryz.underlying141 rfl (by kernel_rfl)) rfl ?_
   exact ⟨⟨na, b, nc⟩, nd, false, rfl, hsb, ⟨ba0, ba1⟩, ⟨bd0, bd1⟩, by rw [HL.out]; rfl, hv2⟩
 refine wp_region_held_drew (S := fun w' => Blk w' gE 141 #[Value.int .i64 na, Value.string b, Value.int .i64 nc]) (by kernel_rfl) ?_ (fun hHeld => ?_)
 · exact hE2
 refine zT 0 46 ?_ rfl ?_ (by assumption) ?_
 rotate_left
 · intro w hSw
   try dsimp only at hSw
   obtain ⟨k0, k1, k2⟩ := qC3 hSw
   go_simp
   try with_reducible rfl
 try simp only [Act.put, zA, zB, zC]
 refine zU 1 47 rfl (by assumption) ?_
 try simp only [Act.put, zA, zB, zC]
 refine zU 2 48 rfl (by assumption) ?_
 try simp only [Act.put, zA, zB, zC]
 refine zU 3 49 rfl (by assumption) ?_
 try simp only [Act.put, zA, zB, zC]
 refine zU 4 50 rfl (by assumption) ?_
 try simp only [Act.put, zA, zB, zC]
 refine zU 5 51 rfl (by assumption) ?_
 try simp only [Act.put, zA, zB, zC]
 refine zU 6 52 rfl (by assumption) ?_
 try simp only [Act.put, zA, zB, zC]
 refine zU 7 53 rfl (by assumption) ?_
 try simp only [Act.put, zA, zB, zC]
 refine zU 8 54 rfl (by assumption) ?_
 try simp only [Act.put, zA, zB, zC]
 refine zU 9 55 rfl (by assumption) ?_
 try simp only [Act.put, zA, zB, zC]
 refine zT 10 56 ?_ rfl ?_ (by assumption) ?_
 rotate_left
 · intro w hSw
   try dsimp only at hSw
   obtain ⟨k0, k1, k2⟩ := qC3 hSw
   go_simp
   try with_reducible rfl
 try simp only [Act.put, zA, zB, zC]
 refine zR 11 (some 57) rfl (fun K hK => ?_)
 go_simp
 (try dsimp only at hHeld); go_split_ands
 refine (ValidEntry_c ⟨na, b, nc⟩ (show b.size ≤ _ by omega) _).mono ?_
 rintro e W6 ⟨rfl, hb⟩
 replace hv1 := bl_trans hv1 hb
 replace hR := hR.below hb
 replace hE2 := hE2.below hb
 clear hb
 go_wp2_with fail
 refine hK.out _ _ ?_ (fun hHeld => ?_)
 · (try dsimp only); go_split_ands; exact hE2
 clear hK K
 try simp only [Act.put, zA, zB, zC]
 refine zU 12 58 rfl (by assumption) ?_
 try simp only [Act.put, zA, zB, zC]
 have f0 : W6.frozen? ⟨gR, 0, none⟩ = false := hR.frozen 0
 have r0 : W6.cell? ⟨gR, 0, none⟩ = some (.int .i64 0) := hR.cell 0
 have f1 : W6.frozen? ⟨gR, 1, none⟩ = false := hR.frozen 1
 have r1 : W6.cell? ⟨gR, 1, none⟩ = some (.string ⟨#[]⟩) := hR.cell 1
 have f2 : W6.frozen? ⟨gR, 2, none⟩ = false := hR.frozen 2
 have r2 : W6.cell? ⟨gR, 2, none⟩ = some (.int .i64 0) := hR.cell 2
 refine zR 13 none rfl (fun K hK => ?_)
 go_simp
 (try dsimp only at hHeld); go_split_ands
 have hR2 := ((hR.set_ 0 (.int .i64 na)).set_ 1 (.string b)).set_ 2 (.int .i64 nc)
 have hv2 := bl_set (bl_set (bl_set hv1 (p := ⟨gR, 0, none⟩) hgR1 (.int .i64 na)) (p := ⟨gR, 1, none⟩) hgR1 (.string b)) (p := ⟨gR, 2, none⟩) hgR1 (.int .i64 nc)
 refine hK.out _ _ ?_ (fun hHeld => ?_)
 · (try dsimp only); go_split_ands; exact ((hE2.far hgE1.symm _).far hgE1.symm _).far hgE1.symm _
 clear hK K
 try simp only [Act.put]
 refine zU 14 3 rfl (by assumption) ?_
 try simp only [Act.put, zA, zB, zC]
 refine zU 15 4 rfl (by assumption) ?_
 try simp only [Act.put, zA, zB, zC]
 refine wpAnyH_done (by kernel_rfl) ?_ _
 go_wp2_with fail
 refine bodyPost_ret (results_cell_row_tmp2 (P := Tryz.prog) rfl _ _ gR 141 #[Value.int .i64 na, Value.string b, Value.int .i64 nc] (0, 0) _ rfl hR2 Tryz.underlying141 rfl (by kernel_rfl)) rfl ?_
 exact ⟨⟨na, b, nc⟩, nd, entB ⟨na, b, nc⟩, rfl, hsb, ⟨ba0, ba1⟩, ⟨bd0, bd1⟩, by rw [HL.out]; rfl, hv2⟩
end Go.Proofs.YtpiehlfffjhoaaaGreatDoor
