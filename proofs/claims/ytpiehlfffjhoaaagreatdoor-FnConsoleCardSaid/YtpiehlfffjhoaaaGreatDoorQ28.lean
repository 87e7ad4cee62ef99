/- Lemmas for the law on the console: the parts CnV, CoB, DeskA, Clone. -/
import Derived.Test.YtpiehlfffjhoaaaGreatDoorQ0
import Derived.Test.YtpiehlfffjhoaaaGreatDoorQ27
import Derived.Test.YtpiehlfffjhoaaaGreatDoorQ23
import Derived.Test.YtpiehlfffjhoaaaGreatDoorQ2
import Derived.Laws.ResultCell
import Derived.BigRegion
import Derived.Test.YtpiehlfffjhoaaaGreatDoorQ1
import Derived.Lib.SliceRun
namespace Go.Proofs.YtpiehlfffjhoaaaGreatDoor
open Go.RowKit
theorem stepL_app {l r : List UInt8} {es : List Entry} {st : Int} {e : Entry} {m : Nat} (h : stepL l es st = some (e, m)) : stepL (l ++ r) es st = some (e, m) ∧ 1 ≤ m ∧ m ≤ l.length := by
 unfold stepL at h
 by_cases hn : nl10 l < l.length
 · rw [if_pos hn] at h
   have hat := nl10_at l hn
   obtain ⟨a, b, hab⟩ : ∃ a b, l = a ++ 10 :: b ∧ a.length = nl10 l ∧ (10 : UInt8) ∉ a := by
     refine ⟨l.take (nl10 l), l.drop (nl10 l + 1), ?_, by rw [List.length_take]; omega, ?_⟩
     · have e1 := List.take_append_drop (nl10 l) l
       rw [List.drop_eq_getElem_cons hn] at e1
       have e2 : l[nl10 l] = 10 := by
         have := List.getElem?_eq_getElem hn
         rw [hat] at this
         injection this with this
         exact this.symm
       rw [e2] at e1
       exact e1.symm
     · intro hm
       obtain ⟨j, hj⟩ := List.getElem?_of_mem hm
       rw [List.getElem?_take] at hj
       split at hj
       · exact nl10_ne l j 10 (by assumption) hj rfl
       · cases hj
   obtain ⟨hl, ha, hf⟩ := hab
   have h2 : nl10 (l ++ r) = nl10 l := by
     rw [hl, List.append_assoc, List.cons_append, nl10_app a _ hf, nl10_app a _ hf]
   have ht : (l ++ r).take (nl10 l) = l.take (nl10 l) := List.take_append_of_le_length (by omega)
   have hm : m = nl10 l + 1 := by
     revert h
     cases linE (l.take (nl10 l)) with
     | none => intro h; cases h
     | some p =>
       obtain ⟨e', s'⟩ := p
       simp only []
       intro h
       split at h
       · injection h with h; injection h with _ h; exact h.symm
       · cases h
   refine ⟨?_, by omega, by omega⟩
   unfold stepL
   rw [h2, if_pos (by rw [List.length_append]; omega), ht]
   exact h
 · rw [if_neg hn] at h; cases h
theorem rdF_app (l r : List UInt8) (k : Nat) : ∀ (f : Nat) (es : List Entry) (st : Int) (n : Nat) (es' : List Entry) (st' : Int), rdF l f es st n = (es', st', l.length) → n ≤ l.length → 1 + l.length - n ≤ f → ∃ g, k + 1 ≤ g ∧ rdF (l ++ r) (f + k) es st n = rdF (l ++ r) g es' st' l.length
 | 0, es, st, n, es', st', h, h1, h2 => by omega
 | f + 1, es, st, n, es', st', h, h1, h2 => by
   rw [rdF] at h
   cases hs : stepL (l.drop n) es st with
   | none =>
     rw [hs] at h
     simp only [Prod.mk.injEq] at h
     obtain ⟨rfl, rfl, rfl⟩ := h
     exact ⟨f + 1 + k, by omega, rfl⟩
   | some p =>
     obtain ⟨e, m⟩ := p
     rw [hs] at h
     simp only [] at h
     obtain ⟨h3, h4, h5⟩ := stepL_app (r := r) hs
     rw [List.length_drop] at h5
     obtain ⟨g, hg, he⟩ := rdF_app l r k f _ _ _ _ _ h (by omega) (by omega)
     refine ⟨g, hg, ?_⟩
     rw [← he, show f + 1 + k = (f + k) + 1 by omega, rdF, List.drop_append_of_le_length h1, h3]
theorem log_add {s : ByteArray} {x : Entry} (h0 : cdL s = 0) (h : (addV s x).2 = 0) : cdL (addV s x).1 = 0 ∧ rdL (addV s x).1 = ((rdL s).1 ++ [x], stp (rdL s).2.1 x, (addV s x).1.size) ∧ entB x = true ∧ (addV s x).1.size ≤ 4000 := by
 have hz : (rdL s).2.2 = s.size ∧ ¬ 4000 < s.size := by
   by_cases h4 : 4000 < s.size
   · rw [cdL_full h4] at h0; cases h0
   · by_cases h5 : (rdL s).2.2 = s.size
     · exact ⟨h5, h4⟩
     · rw [cdL_bad h4 h5] at h0; cases h0
 obtain ⟨hr, _⟩ := hz
 have hR : rdL s = ((rdL s).1, (rdL s).2.1, s.size) := by rw [← hr]
 rw [addV_ok h0 hR] at h ⊢
 generalize (rdL s).1 = es at *
 generalize (rdL s).2.1 = st at *
 cases he : entB x
 · rw [addR_ent he] at h; cases h
 by_cases hd : x.day < lastD es
 · rw [addR_day he hd] at h; cases h
 by_cases hb : 4000 < (s ++ lineE (stp st x) x).size
 · rw [addR_big he hd hb] at h; cases h
 rw [addR_yes he hd hb]
 have hl : s.data.toList.length = s.size := bytes_len s
 have hsz : (s ++ lineE (stp st x) x).size = s.size + (lineE (stp st x) x).size := ByteArray.size_append' _ _
 have hone : 1 ≤ (lineE (stp st x) x).size := by
   have : (lineE (stp st x) x).data.toList.length = (lineE (stp st x) x).size := bytes_len _
   rw [← this, lineE_data]; simp
 have hrd : rdL (s ++ lineE (stp st x) x) = (es ++ [x], stp st x, (s ++ lineE (stp st x) x).size) := by
   unfold rdL at hR ⊢
   rw [bytes_app, hsz]
   rw [← hl] at hR
   obtain ⟨g, hg, heq⟩ := rdF_app s.data.toList (lineE (stp st x) x).data.toList (lineE (stp st x) x).size (s.data.toList.length + 1) [] 0 0 es st hR (by omega) (by omega)
   rw [← hl, show s.data.toList.length + (lineE (stp st x) x).size + 1 = s.data.toList.length + 1 + (lineE (stp st x) x).size by omega, heq]
   obtain ⟨g2, rfl⟩ : ∃ g2, g = g2 + 1 := ⟨g - 1, by omega⟩
   have hst := step_line (es := es) (st := st) he (by omega) []
   rw [List.append_nil] at hst
   rw [rdF, List.drop_append_of_le_length (Nat.le_refl _), List.drop_length, List.nil_append, hst]
   simp only []
   obtain ⟨g3, rfl⟩ : ∃ g3, g2 = g3 + 1 := ⟨g2 - 1, by omega⟩
   rw [rdF, List.drop_eq_nil_of_le (by rw [List.length_append, bytes_len (lineE (stp st x) x)]; exact Nat.le_refl _), stepL_nil]
 exact ⟨cdL_ok hb (by rw [hrd]), hrd, rfl, Nat.le_of_not_lt hb⟩
theorem footD_ok {d : Dk} (h : d.ok = true) {t : ByteArray} (hc : (footD d t).2.2 = 0) : (footD d t).1.ok = true ∧ (footD d t).2.1 ≠ [] := by
 obtain ⟨_, h2, h3, h4⟩ := ok_parts h
 unfold footD at hc ⊢
 cases hr : rdFo t with
 | none => rw [hr] at hc; cases hc
 | some f => exact ⟨ok_of (rdFo_some hr).2 h2 h3 h4, by simp⟩
theorem lastD_ok {d : Dk} (h : d.ok = true) {t : ByteArray} (hc : (lastD' d t).2.2 = 0) : (lastD' d t).1.ok = true ∧ (lastD' d t).2.1 ≠ [] := by
 obtain ⟨h1, h2, h3, h4⟩ := ok_parts h
 unfold lastD' at hc ⊢
 cases hr : rdLa t with
 | none => rw [hr] at hc; cases hc
 | some x =>
   rw [hr] at hc
   simp only [] at hc ⊢
   by_cases ha : (addP d.xs x).2 = 0
   · rw [if_pos ha]
     exact ⟨ok_of h1 (add_ok ha).1 h3 h4, by simp⟩
   · rw [if_neg ha] at hc
     exact absurd hc ha
theorem lastsD_ok {d : Dk} (h : d.ok = true) : (lastsD d).1.ok = true ∧ (lastsD d).2.1 ≠ [] := ⟨h, by simp [lastsD]⟩
theorem fitD_ok {d : Dk} (h : d.ok = true) {a b c : Int} (hc : (fitD d a b c).2.2 = 0) : (fitD d a b c).1.ok = true ∧ (fitD d a b c).2.1 ≠ [] := by
 unfold fitD at hc ⊢
 by_cases hb : (bstP d.xs d.f a b c).2 = 0
 · rw [if_pos hb]; exact ⟨h, by simp⟩
 · rw [if_neg hb] at hc; exact absurd hc hb
theorem needD_ok {d : Dk} (h : d.ok = true) {nm : ByteArray} (hc : (needD d nm).2.2 = 0) : (needD d nm).1.ok = true ∧ (needD d nm).2.1 ≠ [] := by
 unfold needD at hc ⊢
 by_cases hb : (namP d.xs nm).2 = 0
 · rw [if_pos hb]; exact ⟨h, by simp⟩
 · rw [if_neg hb] at hc; exact absurd hc hb
theorem namP_zero {xs : List Last} {nm : ByteArray} (h : (namP xs nm).2 = 0) : (namP xs nm).1 = (lbN nm xs : Int) ∧ (∃ x, xs[lbN nm xs]? = some x ∧ x.name = nm) ∧ nameB nm = true := by
 unfold namP at h ⊢
 split at h
 · rename_i h1
   rw [if_pos h1]
   split at h
   · rename_i h2
     rw [if_pos h2]
     split at h
     · rename_i h3
       rw [if_pos h3]
       exact ⟨rfl, hitN_at h3, h2⟩
     · cases h
   · cases h
 · cases h
theorem atD_at {d : Dk} {nm : ByteArray} (h : (namP d.xs nm).2 = 0) : d.xs[(namP d.xs nm).1.toNat]? = some (atD d nm) ∧ (namP d.xs nm).1 = ((namP d.xs nm).1.toNat : Int) := by
 obtain ⟨h1, ⟨x, hx, _⟩, _⟩ := namP_zero h
 unfold atD
 rw [h1, Int.toNat_natCast, hx]
 exact ⟨rfl, rfl⟩
theorem alterD_ok {d : Dk} (h : d.ok = true) {nm t : ByteArray} (hc : (alterD d nm t).2.2 = 0) : (alterD d nm t).1.ok = true ∧ (alterD d nm t).2.1 ≠ [] := by
 obtain ⟨h1, h2, h3, h4⟩ := ok_parts h
 unfold alterD at hc ⊢
 cases hr : rdCh t with
 | none => rw [hr] at hc; cases hc
 | some p =>
   obtain ⟨k, a⟩ := p
   rw [hr] at hc
   simp only [] at hc ⊢
   by_cases hn : (namP d.xs nm).2 = 0
   · rw [if_pos hn] at hc ⊢
     by_cases ha : (aplP (atD d nm) k a).2 = 0
     · rw [if_pos ha]
       obtain ⟨e1, e2⟩ := aplP_zero ha
       refine ⟨ok_of h1 ?_ h3 h4, by simp⟩
       show lasB (d.xs.set _ _) = true
       rw [e1]
       exact las_set h2 (atD_at hn).1 e2 (chgd_name _ _ _)
     · rw [if_neg ha] at hc
       exact absurd hc ha
   · rw [if_neg hn] at hc
     exact absurd hc hn
theorem styleD_ok {d : Dk} (h : d.ok = true) {t : ByteArray} (hc : (styleD d t).2.2 = 0) : (styleD d t).1.ok = true ∧ (styleD d t).2.1 ≠ [] := by
 obtain ⟨h1, h2, h3, h4⟩ := ok_parts h
 unfold styleD at hc ⊢
 by_cases hr : rdC t = 0
 · rw [if_pos hr]
   refine ⟨ok_of h1 h2 ?_ h4, by simp⟩
   cases hk : clsOk t
   · rw [rd_no hk] at hr; cases hr
   · by_cases ht : tro (splC 59 t) = []
     · exact (rd_ok hk ht).2
     · rw [rd_bad hk ht] at hr; cases hr
 · rw [if_neg hr] at hc
   exact absurd hc hr
theorem clauseD_ok {d : Dk} (h : d.ok = true) {t : ByteArray} (hc : (clauseD d t).2.2 = 0) : (clauseD d t).1.ok = true ∧ (clauseD d t).2.1 ≠ [] := by
 obtain ⟨h1, h2, h3, h4⟩ := ok_parts h
 unfold clauseD at hc ⊢
 by_cases hr : chgC d.s t = 0
 · rw [if_pos hr]
   refine ⟨ok_of h1 h2 ?_ h4, by simp⟩
   show styB (chgS d.s t) = true
   unfold chgC at hr
   rw [if_pos h3] at hr
   split at hr
   · rename_i ho
     unfold chgS
     rw [if_pos h3, if_pos ho]
     unfold okCl at ho
     simp only [Bool.and_eq_true, decide_eq_true_eq] at ho
     exact set_sty h3 ho.2
   · cases hr
 · rw [if_neg hr] at hc
   exact absurd hc hr
theorem raiseD_ok {d : Dk} (h : d.ok = true) {a b c e : Int} (hc : (raiseD d a b c e).2.2 = 0) : (raiseD d a b c e).1.ok = true ∧ (raiseD d a b c e).2.1 ≠ [] := by
 unfold raiseD at hc ⊢
 by_cases hr : (raiP a b c e).2 = 0
 · rw [if_pos hr]; exact ⟨h, by simp⟩
 · rw [if_neg hr] at hc; exact absurd hc hr
theorem enterD_ok {d : Dk} (h : d.ok = true) {a : Int} {w : ByteArray} {v : Int} (hc : (enterD d a w v).2.2 = 0) : (enterD d a w v).1.ok = true ∧ (enterD d a w v).2.1 ≠ [] := by
 obtain ⟨h1, h2, h3, h4⟩ := ok_parts h
 unfold enterD at hc ⊢
 by_cases hr : (addV d.lg ⟨a, w, v⟩).2 = 0
 · rw [if_pos hr]
   exact ⟨ok_of h1 h2 h3 (log_add h4 hr).1, by simp⟩
 · rw [if_neg hr] at hc; exact absurd hc hr
theorem logD_ok {d : Dk} (h : d.ok = true) : (logD d).1.ok = true ∧ (logD d).2.1 ≠ [] := ⟨h, by simp [logD]⟩
theorem exeD_ok {d : Dk} (h : d.ok = true) (ws : List ByteArray) (ns : List Int) (hc : (exeD d ws ns).2.2 = 0) : (exeD d ws ns).1.ok = true ∧ (exeD d ws ns).2.1 ≠ [] := by
 unfold exeD at hc ⊢
 by_cases hFoot : nthD ws 0 = kFoot
 · rw [if_pos hFoot] at hc ⊢
   exact footD_ok h hc
 rw [if_neg hFoot] at hc ⊢
 by_cases hLast : nthD ws 0 = kLast
 · rw [if_pos hLast] at hc ⊢
   exact lastD_ok h hc
 rw [if_neg hLast] at hc ⊢
 by_cases hLasts : nthD ws 0 = kLasts
 · rw [if_pos hLasts] at hc ⊢
   exact lastsD_ok h
 rw [if_neg hLasts] at hc ⊢
 by_cases hFit : nthD ws 0 = kFit
 · rw [if_pos hFit] at hc ⊢
   exact fitD_ok h hc
 rw [if_neg hFit] at hc ⊢
 by_cases hNeed : nthD ws 0 = kNeed
 · rw [if_pos hNeed] at hc ⊢
   exact needD_ok h hc
 rw [if_neg hNeed] at hc ⊢
 by_cases hAlter : nthD ws 0 = kAlter
 · rw [if_pos hAlter] at hc ⊢
   exact alterD_ok h hc
 rw [if_neg hAlter] at hc ⊢
 by_cases hStyle : nthD ws 0 = kStyle
 · rw [if_pos hStyle] at hc ⊢
   exact styleD_ok h hc
 rw [if_neg hStyle] at hc ⊢
 by_cases hClause : nthD ws 0 = kClause
 · rw [if_pos hClause] at hc ⊢
   exact clauseD_ok h hc
 rw [if_neg hClause] at hc ⊢
 by_cases hRaise : nthD ws 0 = kRaise
 · rw [if_pos hRaise] at hc ⊢
   exact raiseD_ok h hc
 rw [if_neg hRaise] at hc ⊢
 by_cases hEnter : nthD ws 0 = kEnter
 · rw [if_pos hEnter] at hc ⊢
   exact enterD_ok h hc
 rw [if_neg hEnter] at hc ⊢
 exact logD_ok h
theorem runD_ok {d : Dk} (h : d.ok = true) (ws : List ByteArray) : (runD d ws).1.ok = true ∧ (runD d ws).2.1 ≠ [] ∧ (runD d ws).2.2 = 0 := by
 unfold runD
 split
 · exact ⟨h, by simp, rfl⟩
 · rename_i ns _
   by_cases hc : (exeD d ws ns).2.2 = 0
   · rw [if_pos hc]
     obtain ⟨e1, e2⟩ := exeD_ok h ws ns hc
     exact ⟨e1, e2, rfl⟩
   · rw [if_neg hc]
     exact ⟨h, by simp, rfl⟩
theorem cmdD_ok {d : Dk} (h : d.ok = true) (line : ByteArray) : ((cmdD d line).2.2 = 7 ∧ isD (splC 32 line) = false) ∨ ((cmdD d line).2.2 = 0 ∧ isD (splC 32 line) = true ∧ cmdD d line = runD d (splC 32 line) ∧ (cmdD d line).1.ok = true ∧ (cmdD d line).2.1 ≠ []) := by
 unfold cmdD
 rw [if_pos h]
 cases hi : isD (splC 32 line)
 · left
   exact ⟨rfl, rfl⟩
 · right
   obtain ⟨e1, e2, e3⟩ := runD_ok h (splC 32 line)
   exact ⟨e3, rfl, rfl, e1, e2⟩
def CdN (w : World) : Prop := ∀ k : Nat, k ≤ 10 → w.cell? ⟨0, k, none⟩ = some (.string (errT k))
theorem CdN.below {w w' : World} (h : CdN w) (hb : Below w.heap.size w w') : CdN w' := fun k hk => bl_cell hb (h k hk)
theorem errT_out {c : Int} (h : inB c 0 10 = false) : errT c = ⟨#[]⟩ := by
 have h1 : ¬ (0 ≤ c ∧ c ≤ 10) := by
   intro h2
   rw [inB_true h2.1 h2.2] at h
   cases h
 unfold errT
 repeat' split
 all_goals first | rfl | (exfalso; omega)
theorem errT_size (c : Int) : (errT c).size ≤ 9 := by
 unfold errT
 repeat' split
 all_goals decide
set_option maxHeartbeats 1000000 in
theorem CodeName_c (c : Int) (w : World) (hT : CdN w) : Calls Tryz.prog 34 #[.int .i64 c] w (Ret (.string (errT c)) w) := by
 have HW := fun w => within_c c 0 10 w
 have HO := qH (fun h => errT_out (c := c) h)
 have HI := qH (fun (h : inB c 0 10 = true) => inB_iff.1 h)
 obtain ⟨b, hb⟩ : ∃ z, z = inB c 0 10 := ⟨_, rfl⟩
 rw [← hb] at HW HO HI
 replace HW := qH HW
 clear hb
 go_enter Tryz.func34, Tryz.ntmps34
 go_wp2_with fail
 refine (HW.out _).mono ?_
 rintro e w' ⟨rfl, hq⟩
 rw [hq]
 clear hq w'
 cases b
 · have HE := qH (HO.out rfl)
   clear HO HI
   go_wp2_with fail
   go_returns
   exact Ret.mk (vs HE.out.symm) (Below.refl _ _)
 · obtain ⟨h0, h10⟩ := HI.out rfl
   obtain ⟨j, rfl⟩ : ∃ j : Nat, c = (j : Int) := ⟨c.toNat, by omega⟩
   have hj0 : (0 : Int) ≤ (j : Int) := by omega
   have hj1 : (j : Int) < 11 := by omega
   have n0 := hT j (by omega)
   obtain ⟨t, ht⟩ : ∃ z, z = errT (j : Int) := ⟨_, rfl⟩
   rw [← ht] at n0
   have HE := qH ht
   clear HO HI ht
   go_wp2_with fail
   go_returns
   exact Ret.mk (vs HE.out) (Below.refl _ _)
theorem lit_eq {t : ByteArray} {L : List UInt8} {k : ByteArray} (hk : k = ⟨L.toArray⟩) (h : ¬ t = k) : (t.toList == L) = false := by
 rw [beq_eq_false_iff_ne]
 intro e
 apply h
 rw [hk, ← e]
 apply ByteArray.ext
 rw [ByteArray.toList_eq]
set_option maxHeartbeats 2000000 in
theorem deskShape_c (t : ByteArray) (w : World) : Calls Tryz.prog 28 #[.string t] w (RetQ (.string (formD t)) w) := by
 by_cases hfoot : t = kFoot
 · have HE := qH (show formD t = ⟨#[119]⟩ by rw [hfoot]; decide)
   have ht : t = ⟨#[102, 111, 111, 116]⟩ := hfoot
   subst ht
   rw [HE.out]
   clear  hfoot HE
   go_enter Tryz.func28, Tryz.ntmps28
   go_wp2_with fail
   go_returns
   exact RetQ.mk rfl
 have nfoot : (t.toList == [102, 111, 111, 116]) = false := lit_eq rfl hfoot
 by_cases hneed : t = kNeed
 · have HE := qH (show formD t = ⟨#[119]⟩ by rw [hneed]; decide)
   have ht : t = ⟨#[110, 101, 101, 100]⟩ := hneed
   subst ht
   rw [HE.out]
   clear nfoot hneed HE
   go_enter Tryz.func28, Tryz.ntmps28
   go_wp2_with fail
   go_returns
   exact RetQ.mk rfl
 have nneed : (t.toList == [110, 101, 101, 100]) = false := lit_eq rfl hneed
 by_cases hlast : t = kLast
 · have HE := qH (show formD t = ⟨#[43]⟩ by rw [hlast]; decide)
   have ht : t = ⟨#[108, 97, 115, 116]⟩ := hlast
   subst ht
   rw [HE.out]
   clear nfoot nneed hlast HE
   go_enter Tryz.func28, Tryz.ntmps28
   go_wp2_with fail
   go_returns
   exact RetQ.mk rfl
 have nlast : (t.toList == [108, 97, 115, 116]) = false := lit_eq rfl hlast
 by_cases hstyle : t = kStyle
 · have HE := qH (show formD t = ⟨#[43]⟩ by rw [hstyle]; decide)
   have ht : t = ⟨#[115, 116, 121, 108, 101]⟩ := hstyle
   subst ht
   rw [HE.out]
   clear nfoot nneed nlast hstyle HE
   go_enter Tryz.func28, Tryz.ntmps28
   go_wp2_with fail
   go_returns
   exact RetQ.mk rfl
 have nstyle : (t.toList == [115, 116, 121, 108, 101]) = false := lit_eq rfl hstyle
 by_cases hclause : t = kClause
 · have HE := qH (show formD t = ⟨#[43]⟩ by rw [hclause]; decide)
   have ht : t = ⟨#[99, 108, 97, 117, 115, 101]⟩ := hclause
   subst ht
   rw [HE.out]
   clear nfoot nneed nlast nstyle hclause HE
   go_enter Tryz.func28, Tryz.ntmps28
   go_wp2_with fail
   go_returns
   exact RetQ.mk rfl
 have nclause : (t.toList == [99, 108, 97, 117, 115, 101]) = false := lit_eq rfl hclause
 by_cases hfit : t = kFit
 · have HE := qH (show formD t = ⟨#[110, 110, 110]⟩ by rw [hfit]; decide)
   have ht : t = ⟨#[102, 105, 116]⟩ := hfit
   subst ht
   rw [HE.out]
   clear nfoot nneed nlast nstyle nclause hfit HE
   go_enter Tryz.func28, Tryz.ntmps28
   go_wp2_with fail
   go_returns
   exact RetQ.mk rfl
 have nfit : (t.toList == [102, 105, 116]) = false := lit_eq rfl hfit
 by_cases halter : t = kAlter
 · have HE := qH (show formD t = ⟨#[119, 119, 119]⟩ by rw [halter]; decide)
   have ht : t = ⟨#[97, 108, 116, 101, 114]⟩ := halter
   subst ht
   rw [HE.out]
   clear nfoot nneed nlast nstyle nclause nfit halter HE
   go_enter Tryz.func28, Tryz.ntmps28
   go_wp2_with fail
   go_returns
   exact RetQ.mk rfl
 have nalter : (t.toList == [97, 108, 116, 101, 114]) = false := lit_eq rfl halter
 by_cases hraise : t = kRaise
 · have HE := qH (show formD t = ⟨#[110, 110, 110, 110]⟩ by rw [hraise]; decide)
   have ht : t = ⟨#[114, 97, 105, 115, 101]⟩ := hraise
   subst ht
   rw [HE.out]
   clear nfoot nneed nlast nstyle nclause nfit nalter hraise HE
   go_enter Tryz.func28, Tryz.ntmps28
   go_wp2_with fail
   go_returns
   exact RetQ.mk rfl
 have nraise : (t.toList == [114, 97, 105, 115, 101]) = false := lit_eq rfl hraise
 by_cases henter : t = kEnter
 · have HE := qH (show formD t = ⟨#[110, 119, 110]⟩ by rw [henter]; decide)
   have ht : t = ⟨#[101, 110, 116, 101, 114]⟩ := henter
   subst ht
   rw [HE.out]
   clear nfoot nneed nlast nstyle nclause nfit nalter nraise henter HE
   go_enter Tryz.func28, Tryz.ntmps28
   go_wp2_with fail
   go_returns
   exact RetQ.mk rfl
 have nenter : (t.toList == [101, 110, 116, 101, 114]) = false := lit_eq rfl henter
 have HE := qH (show formD t = ⟨#[]⟩ by unfold formD; simp only [hfoot, hneed, hlast, hstyle, hclause, hfit, halter, hraise, henter, if_false])
 rw [HE.out]
 clear hfoot hneed hlast hstyle hclause hfit halter hraise henter HE
 go_enter Tryz.func28, Tryz.ntmps28
 go_wp2_with fail
 go_returns
 exact RetQ.mk rfl
def OutOk (lo : Nat) (L : List ByteArray) (row : Option Nat) (w : World) (e : Ending) (w' : World) : Prop := ∃ A c, e = .returned (.slice A L.length c) ∧ w'.ownsRow lo 9 1 (.slice A L.length c) L.length (flat scell L) ∧ w.grownBy w' row
set_option maxHeartbeats 2000000 in
theorem okLine_c (lo : Nat) (A : Option Addr) (L : List ByteArray) (n c : Nat) (hn : Hid (L.length = n)) (hm : n ≤ 100000) (w : World) (hlo : lo ≤ w.heap.size) (hO : w.ownsRow lo 9 1 (.slice A n c) n (flat scell L)) (hT : Pow10 w) :
   Calls Tryz.prog 74 #[.slice A n c] w (OutOk lo (L ++ [okW n]) (Value.slice A n c).ownBlock w) := by
 obtain ⟨i0, hi0, hz0, hz1, hz2⟩ := info_parts (P := Tryz.prog) (e := 9) (z := .string ByteArray.empty) (size := 1) (bytes := 16) infoStrT
 have HD := qH (DecimalI_c (n : Int) (by omega) (by omega) w hT)
 have HE : Hid (okW n = ⟨#[111, 107, 32]⟩ ++ decI n) := qH rfl
 have z2 := dec21 (v := (n : Int)) (by omega) (by omega)
 obtain ⟨d, hd⟩ : ∃ z, z = decI (n : Int) := ⟨_, rfl⟩
 rw [← hd] at HD HE z2
 have l1 : (⟨#[111, 107, 32]⟩ : ByteArray).size = 3 := rfl
 have s1 := fun (w : World) => run_string_add_sum (P := Tryz.prog) w ⟨#[111, 107, 32]⟩ d (by omega)
 have HO := qH hO
 clear hd hO hT z2 l1
 go_enter Tryz.func74, Tryz.ntmps74
 go_wp2_with fail
 refine HD.out.mono ?_
 rintro e W ⟨rfl, hb⟩
 replace HO := qH (own_below HO.out hb)
 have hlo2 : lo ≤ W.heap.size := Nat.le_trans hlo hb.size
 have hg0 := grown_of_below hb (Value.slice A n c).ownBlock
 clear hb HD
 obtain ⟨y, hy⟩ : ∃ z, z = (⟨#[111, 107, 32]⟩ : ByteArray) ++ d := ⟨_, rfl⟩
 rw [← hy] at HE s1
 clear hy
 go_wp2_with (at_builtin; refine app_own W #[.string y] rfl _ _ 24 9 rfl i0 _ 1 16 Tryz.underlying24 hi0 hz0 hz1 hz2 rfl (by omega) lo (.slice A n c) n _ rfl rfl HO.out rfl (by simp [Value.oneCell']) (by unfold maxLen; omega) (by omega) hlo2 ?_; intro A2 c2 w2 hown2 hg3)
 have e9 : flat scell (L ++ [okW n]) = flat scell L ++ #[Value.string y].toList := by rw [HE.out]; simp [flat, scell]
 have e8 : (L ++ [okW n]).length = n + 1 := by rw [List.length_append, hn.out]; rfl
 go_returns
 unfold OutOk
 rw [e9, e8]
 exact ⟨A2, c2, rfl, hown2, grown_trans hg0 hg3⟩
set_option maxHeartbeats 1000000 in
theorem sumOf_c (A : Option Addr) (l : List Int) (n k : Nat) (hn : Hid (l.length = n)) (hm : (n : Int) ≤ 1000000) (hb : Hid (∀ v ∈ l, -1000000000 ≤ v ∧ v ≤ 1000000000)) (w : World) (hA : Arr w A (flat icell l)) : Calls Tryz.prog 87 #[.slice A n k] w (Ret (.int .i64 l.sum) w) := by
 have bds : ∀ (l : List Int), (∀ v ∈ l, -1000000000 ≤ v ∧ v ≤ 1000000000) → -1000000000 * (l.length : Int) ≤ l.sum ∧ l.sum ≤ 1000000000 * (l.length : Int) := by
   intro l
   induction l with
   | nil => intro _; simp
   | cons a r ih =>
     intro h
     have h1 := ih (fun v hv => h v (by simp [hv]))
     have h2 := h a (by simp)
     rw [List.sum_cons, List.length_cons]
     omega
 have HB := qH bds
 clear bds
 go_enter Tryz.func87, Tryz.ntmps87
 go_wp2_with fail
 have hR := qH (show (0 : Int) = (l.take 0).sum from rfl)
 go_loopw [3, 8] (fun v i wr => ∃ (j : Nat) (s : Int), j ≤ n ∧ i = .int .i64 j ∧ v = .int .i64 s ∧ Hid (s = (l.take j).sum) ∧ Below w.heap.size w wr) (fun _ i _ => n - (intOf i).toNat)
 case atStart => exact ⟨0, 0, by omega, rfl, rfl, hR, Below.refl _ _⟩
 case round =>
   clear hR
   obtain ⟨j, s, hj, rfl, rfl, hR, hv⟩ := hrel
   by_cases hlt : j < n
   · obtain ⟨y, hy⟩ := get_of_lt (xs := l) (k := j) (by rw [hn.out]; exact hlt)
     obtain ⟨bd, rfl, _, d0⟩ := icell_at (hA.below hv) hy
     have HN := qH (show s + y = (l.take (j + 1)).sum by rw [take_at hy, List.sum_append, hR.out]; simp)
     have hsb := HB.out (l.take (j + 1)) (fun v hv => hb.out v (List.mem_of_mem_take hv))
     rw [← HN.out, List.length_take, hn.out, Nat.min_eq_left (by omega)] at hsb
     obtain ⟨b1, b2⟩ := hsb
     have hw : IntKind.i64.wrap (s + y) = s + y := IntWalk.i64_in _ (by omega)
     have h0 : (0 : Int) ≤ (j : Int) := by omega
     have h1 : (j : Int) < (n : Int) := by omega
     clear hy hR b1 b2
     go_wp2_with fail
     exact ⟨⟨j + 1, s + y, by omega, by go_num, rfl, HN, hv⟩, by simp [intOf]; omega⟩
   · have htk : l.take j = l := List.take_of_length_le (by rw [hn.out]; omega)
     have HF := qH (show s = l.sum by rw [hR.out, htk])
     clear hR htk
     have h1 : ¬ (j : Int) < (n : Int) := by omega
     go_wp2_with fail
     go_returns
     exact Ret.mk (vi HF.out) hv
def bCalf : ByteArray := ⟨#[99, 97, 108, 102]⟩
def bBlack : ByteArray := ⟨#[98, 108, 97, 99, 107]⟩
def bLeather : ByteArray := ⟨#[108, 101, 97, 116, 104, 101, 114]⟩
set_option maxRecDepth 100000 in
set_option maxHeartbeats 2000000 in
theorem footOfG_c (g : Nat) (a b c d : Int) (cp : Nat) (w : World) (q0 : w.cell? ⟨g, 0, none⟩ = some (.int .i64 a)) (q1 : w.cell? ⟨g, 1, none⟩ = some (.int .i64 b)) (q2 : w.cell? ⟨g, 2, none⟩ = some (.int .i64 c)) (q3 : w.cell? ⟨g, 3, none⟩ = some (.int .i64 d)) :
   Calls Tryz.prog 26 #[.slice (some ⟨g, 0, none⟩) 4 cp] w (Ret (.agg #[.int .i64 a, .int .i64 b, .int .i64 c, .int .i64 d]) w) := by
 obtain ⟨W, hW⟩ : ∃ W, W = w.alloc (Obj.cells #[.int .i64 0, .int .i64 0, .int .i64 0, .int .i64 0] 27) := ⟨_, rfl⟩
 obtain ⟨g0, hg0⟩ : ∃ g0, g0 = w.heap.size := ⟨_, rfl⟩
 have hv : Below w.heap.size w W := by rw [hW]; exact bl_alloc (Below.refl _ _) _
 have h0 : Blk W g0 27 #[.int .i64 0, .int .i64 0, .int .i64 0, .int .i64 0] := by rw [hW, hg0]; exact Blk.new _ _ _
 have hge : w.heap.size ≤ g0 := by omega
 have c0 := bl_cell hv q0
 have c1 := bl_cell hv q1
 have c2 := bl_cell hv q2
 have c3 := bl_cell hv q3
 clear q0 q1 q2 q3
 obtain ⟨k0, k1, k2, k3⟩ := qC4 h0
 have f0 : W.frozen? ⟨g0, 0, none⟩ = false := h0.frozen 0
 have f1 : W.frozen? ⟨g0, 1, none⟩ = false := h0.frozen 1
 have f2 : W.frozen? ⟨g0, 2, none⟩ = false := h0.frozen 2
 have f3 : W.frozen? ⟨g0, 3, none⟩ = false := h0.frozen 3
 go_enter Tryz.func26, Tryz.ntmps26
 go_wp2_with fail
 rw [← hW, ← hg0]
 clear hW hg0
 go_region
 go_wp2_with fail
 refine bodyPost_ret (results_cell_row (P := Tryz.prog) rfl _ _ g0 27 #[.int .i64 a, .int .i64 b, .int .i64 c, .int .i64 d] (0, 0) _ rfl ?_ Tryz.underlying27 rfl (by kernel_rfl)) rfl ?_
 · exact Blk.below (((((h0).set_ 0 _).set_ 1 _).set_ 2 _).set_ 3 _) (Below.refl _ _).drew
 · exact Ret.mk rfl (bl_set (bl_set (bl_set (bl_set hv hge _) hge _) hge _) hge _).drew
set_option maxRecDepth 100000 in
set_option maxHeartbeats 2000000 in
theorem NewDesk_c (w : World) : Calls Tryz.prog 8 #[] w (Ret (.agg #[.int .i64 2500, .int .i64 2400, .int .i64 2500, .int .i64 3200, .slice none 0 0, .string bCalf, .string bBlack, .string ⟨#[]⟩, .string bLeather, .int .i64 40, .int .i64 0, .int .i64 0, .int .i64 0, .bool false, .string ⟨#[]⟩]) w) := by
 go_enter Tryz.func8, Tryz.ntmps8
 go_wp2_with fail
 obtain ⟨W, hW⟩ : ∃ W, W = w.alloc (Obj.cells #[.int .i64 0, .int .i64 0, .int .i64 0, .int .i64 0, .slice none 0 0, .string ⟨#[]⟩, .string ⟨#[]⟩, .string ⟨#[]⟩, .string ⟨#[]⟩, .int .i64 0, .int .i64 0, .int .i64 0, .int .i64 0, .bool false, .string ⟨#[]⟩] 32) := ⟨_, rfl⟩
 obtain ⟨g0, hg0⟩ : ∃ g0, g0 = w.heap.size := ⟨_, rfl⟩
 have hv : Below w.heap.size w W := by rw [hW]; exact bl_alloc (Below.refl _ _) _
 have h0 : Blk W g0 32 #[.int .i64 0, .int .i64 0, .int .i64 0, .int .i64 0, .slice none 0 0, .string ⟨#[]⟩, .string ⟨#[]⟩, .string ⟨#[]⟩, .string ⟨#[]⟩, .int .i64 0, .int .i64 0, .int .i64 0, .int .i64 0, .bool false, .string ⟨#[]⟩] := by rw [hW, hg0]; exact Blk.new _ _ _
 have hge : w.heap.size ≤ g0 := by omega
 obtain ⟨W2, hW2⟩ : ∃ W2, W2 = W.alloc (Obj.cells #[.int .i64 2500, .int .i64 2400, .int .i64 2500, .int .i64 3200] 2) := ⟨_, rfl⟩
 obtain ⟨g1, hg1⟩ : ∃ g1, g1 = w.heap.size + 1 := ⟨_, rfl⟩
 have hb2 : Below W.heap.size W W2 := by rw [hW2]; exact bl_alloc (Below.refl _ _) _
 have h1 : Blk W2 g1 2 #[.int .i64 2500, .int .i64 2400, .int .i64 2500, .int .i64 3200] := by
   rw [hW2, hg1]; have h := Blk.new W 2 #[Value.int .i64 2500, Value.int .i64 2400, Value.int .i64 2500, Value.int .i64 3200]; rw [show W.heap.size = w.heap.size + 1 by rw [hW]; simp] at h; exact h
 rw [← hW, ← hW2, ← hg1, ← hg0]
 replace hv := bl_trans hv hb2
 replace h0 := h0.below hb2
 clear hW hg0 hW2 hg1 hb2
 refine (footOfG_c g1 2500 2400 2500 3200 4 _ (h1.cell 0) (h1.cell 1) (h1.cell 2) (h1.cell 3)).mono ?_
 rintro e W1 ⟨rfl, hb⟩
 replace hv := bl_trans hv hb
 replace h0 := h0.below hb
 clear hb h1
 obtain ⟨k0, k1, k2, k3, k4, k5, k6, k7, k8, k9, k10, k11, k12, k13, k14⟩ := qC15 h0
 have f0 : W1.frozen? ⟨g0, 0, none⟩ = false := h0.frozen 0
 have f1 : W1.frozen? ⟨g0, 1, none⟩ = false := h0.frozen 1
 have f2 : W1.frozen? ⟨g0, 2, none⟩ = false := h0.frozen 2
 have f3 : W1.frozen? ⟨g0, 3, none⟩ = false := h0.frozen 3
 have f4 : W1.frozen? ⟨g0, 4, none⟩ = false := h0.frozen 4
 have f5 : W1.frozen? ⟨g0, 5, none⟩ = false := h0.frozen 5
 have f6 : W1.frozen? ⟨g0, 6, none⟩ = false := h0.frozen 6
 have f7 : W1.frozen? ⟨g0, 7, none⟩ = false := h0.frozen 7
 have f8 : W1.frozen? ⟨g0, 8, none⟩ = false := h0.frozen 8
 have f9 : W1.frozen? ⟨g0, 9, none⟩ = false := h0.frozen 9
 have f10 : W1.frozen? ⟨g0, 10, none⟩ = false := h0.frozen 10
 have f11 : W1.frozen? ⟨g0, 11, none⟩ = false := h0.frozen 11
 have f12 : W1.frozen? ⟨g0, 12, none⟩ = false := h0.frozen 12
 have f13 : W1.frozen? ⟨g0, 13, none⟩ = false := h0.frozen 13
 have f14 : W1.frozen? ⟨g0, 14, none⟩ = false := h0.frozen 14
 go_wp2_with fail
 refine bodyPost_ret (results_cell_row (P := Tryz.prog) rfl _ _ g0 32 #[Value.int .i64 2500, Value.int .i64 2400, Value.int .i64 2500, Value.int .i64 3200, Value.slice none 0 0, Value.string bCalf, Value.string bBlack, Value.string ⟨#[]⟩, Value.string bLeather, Value.int .i64 40, Value.int .i64 0, Value.int .i64 0, Value.int .i64 0, Value.bool false, Value.string ⟨#[]⟩] (0, 0) _ rfl ?_ Tryz.underlying32 rfl (by kernel_rfl)) rfl ?_
 · exact (((((((((((((((h0).set_ 0 _).set_ 1 _).set_ 2 _).set_ 3 _).set_ 4 _).set_ 5 _).set_ 6 _).set_ 7 _).set_ 8 _).set_ 9 _).set_ 10 _).set_ 11 _).set_ 12 _).set_ 13 _).set_ 14 _
 · exact Ret.mk rfl (bl_set (bl_set (bl_set (bl_set (bl_set (bl_set (bl_set (bl_set (bl_set (bl_set (bl_set (bl_set (bl_set (bl_set (bl_set (hv) hge _) hge _) hge _) hge _) hge _) hge _) hge _) hge _) hge _) hge _) hge _) hge _) hge _) hge _) hge _)
theorem Last.ones (xs : List Last) : ∀ u ∈ flat Last.cells xs, u.oneCell' = true := by
 intro u hu
 simp only [flat, List.mem_flatMap] at hu
 obtain ⟨x, _, hx⟩ := hu
 simp only [Last.cells, List.mem_cons, List.not_mem_nil, or_false] at hx
 rcases hx with rfl | rfl | rfl | rfl | rfl | rfl <;> rfl
set_option maxRecDepth 100000 in
set_option maxHeartbeats 1000000 in
theorem cloneLast_c (ad : Addr) (xs : List Last) (n c : Nat) (hn : Hid (xs.length = n)) (hm : (n : Int) ≤ 1048576) (w : World) (hA : Arr w (some ad) (flat Last.cells xs)) :
   Calls Tryz.prog 65 #[.slice (some ad) n c] w (OutC 100 6 n (flat Last.cells xs) w) := by
 obtain ⟨i0, hi0, hz0, hz1, hz2⟩ := info_parts (P := Tryz.prog) (e := 100) (z := .agg #[.string ByteArray.empty, .int .i64 0, .int .i64 0, .int .i64 0, .int .i64 0, .int .i64 0]) (size := 6) (bytes := 56) info_Last
 have hlen : (flat Last.cells xs).length = n * 6 := by rw [flat_length Last.cells_length, hn.out]
 have q22 : ∀ (w : World) (a : Option Addr) (n c n' c' : Nat), (binOp .eql 28 (.slice a n c) (.slice none n' c')).run Tryz.prog w = .ok (.bool a.isNone) w := fun w a n c n' c' => Lib.run_eql_slice_nil w _ _ a n c n' c' Tryz.underlying28
 go_enter Tryz.func65, Tryz.ntmps65
 go_wp2_with (at_builtin; refine app_many _ rfl _ _ 28 100 rfl i0 _ 6 56 Tryz.underlying28 hi0 hz0 hz1 hz2 rfl (by omega) w.heap.size _ 0 [] rfl (own_empty w _ _ _ (Nat.le_refl _)) ad n c (flat Last.cells xs) rfl (hA.alloc _) hlen (Last.ones xs) (by unfold maxLen; omega) (by omega) (by simp) ?_; intro A2 c2 w2 hown2 hg2)
 go_returns
 simp only [Nat.zero_add, List.nil_append] at hown2 ⊢
 exact ⟨A2, c2, rfl, hown2, bl_grown (bl_alloc (Below.refl _ _) _) hg2 (own_at (own_empty w w.heap.size 100 6 (Nat.le_refl _)))⟩
end Go.Proofs.YtpiehlfffjhoaaaGreatDoor
