
/- A name asked of a log: l27What; SumOfWhat: both sides; the law walked. -/
import Derived.Test.YtnhkdcebldppmaaDoorLogE
namespace Go.Proofs.YtnhkdcebldppmaaDoor
open Go.RowKit

def cdW (s t : ByteArray) : Int := if cdL s = 0 then (if nameB t = true then 0 else 2) else cdL s
theorem cdW_no {s t : ByteArray} (h : ¬ cdL s = 0) : cdW s t = cdL s := by unfold cdW; rw [if_neg h]
theorem cdW_name {s t : ByteArray} (h : cdL s = 0) (h2 : nameB t = false) : cdW s t = 2 := by unfold cdW; rw [if_pos h, if_neg (by simp [h2])]
theorem cdW_ok {s t : ByteArray} (h : cdL s = 0) (h2 : nameB t = true) : cdW s t = 0 := by unfold cdW; rw [if_pos h, if_pos h2]
def cdS (s t : ByteArray) (f o : Int) : Int := if cdW s t = 0 then (if (inB f 0 100000 && inB o 0 100000) = true then 0 else 2) else cdW s t
def sumG (t : ByteArray) (f o : Int) : List Entry → Int → Int
  | [], a => a
  | x :: r, a => sumG t f o r (if ((x.what.toList == t.toList) && inB x.day f o) = true then a + x.value else a)
def sumW (s t : ByteArray) (f o : Int) : Int := if cdS s t f o = 0 then sumG t f o (rdL s).1 0 else 0
theorem sumG_at {es : List Entry} {k : Nat} {x : Entry} (h : es[k]? = some x) (t : ByteArray) (f o a : Int) : sumG t f o (es.drop k) a = sumG t f o (es.drop (k + 1)) (if ((x.what.toList == t.toList) && inB x.day f o) = true then a + x.value else a) := by
  rw [drop_at h]; rfl
def OutWh (s t : ByteArray) (w : World) (e : Ending) (w' : World) : Prop :=
  ∃ g, e = .returned (.tuple #[.pointer (some ⟨g, 0, none⟩), .int .i64 (cdW s t)]) ∧ w.heap.size ≤ g ∧ (cdW s t = 0 → cdL s = 0 ∧ RS s g (rdL s).1 (rdL s).2.1 (rdL s).2.2 (rdL s).1.length w.heap.size w') ∧ Below w.heap.size w w'
theorem cdL_vals (s : ByteArray) : cdL s = 0 ∨ cdL s = 5 ∨ cdL s = 8 := by
  unfold cdL
  split
  · simp
  · split <;> simp
theorem cdS_no {s t : ByteArray} {f o : Int} (h : ¬ cdW s t = 0) : cdS s t f o = cdW s t ∧ sumW s t f o = 0 := by
  have h1 : cdS s t f o = cdW s t := by unfold cdS; rw [if_neg h]
  exact ⟨h1, by unfold sumW; rw [h1, if_neg h]⟩
theorem cdS_rng {s t : ByteArray} {f o : Int} (h : cdW s t = 0) (h2 : (inB f 0 100000 && inB o 0 100000) = false) : cdS s t f o = 2 ∧ sumW s t f o = 0 := by
  have h1 : cdS s t f o = 2 := by unfold cdS; rw [if_pos h, if_neg (by simp [h2])]
  exact ⟨h1, by unfold sumW; rw [h1, if_neg (by decide)]⟩
theorem cdS_ok {s t : ByteArray} {f o : Int} (h : cdW s t = 0) (h2 : (inB f 0 100000 && inB o 0 100000) = true) : cdS s t f o = 0 ∧ sumW s t f o = sumG t f o (rdL s).1 0 := by
  have h1 : cdS s t f o = 0 := by unfold cdS; rw [if_pos h, if_pos h2]
  exact ⟨h1, by unfold sumW; rw [h1, if_pos rfl]⟩
theorem ent_val {es : List Entry} (h : ∀ e ∈ es, entB e = true) {k : Nat} {x : Entry} (hx : es[k]? = some x) : -1000000 ≤ x.value ∧ x.value ≤ 1000000 ∧ 0 ≤ x.day ∧ x.day ≤ 100000 ∧ x.what.size ≤ 12 := by
  have := entB_bd (h x (List.mem_of_getElem? hx))
  omega
set_option maxRecDepth 100000 in
set_option maxHeartbeats 4000000 in
theorem SumOfWhat_c (s t : ByteArray) (f o : Int) (hs : s.size ≤ 1048576) (ht : t.size ≤ 9223372036854775807) (w : World) (hT : Tabs w) : Calls Tryd.prog 27 #[.string s, .string t, .int .i64 f, .int .i64 o] w (RetT #[.int .i64 (sumW s t f o), .int .i64 (cdS s t f o)] w) := by
  have HT := Lib.hid hT
  clear hT
  go_enter Tryd.func27, Tryd.ntmps27
  go_wp2_with fail
  refine (logCode_c s hs _ HT.out).mono ?_
  rintro e W ⟨A, c, m, es, st, n, rfl, hG, hm0, hown, hok, hno, hb⟩
  by_cases h0 : cdL s = 0
  case neg =>
    have HW := Lib.hid (cdW_no (t := t) h0)
    have HC := Lib.hid (cdS_no (f := f) (o := o) (s := s) (t := t) (by rw [HW.out]; exact h0))
    have hne : (cdL s == 0) = false := by rw [beq_eq_false_iff_ne]; exact h0
    have hne2 : (cdL s != 0) = true := by rw [bne_iff_ne]; exact h0
    clear hok hno
    rw [HW.out] at HC
    generalize cdL s = C at *
    clear h0
    go_wp2_with fail
    go_returns
    exact RetT.mk (by rw [HC.out.1, HC.out.2]; rfl) (bl_alloc hb _)
  have HRD := Lib.hid (hok h0)
  have hfew : m ≤ 4000 := by rw [← hm0]; have := rdL_few s; rw [HRD.out] at this; exact Nat.le_trans this (cdL_small h0)
  have H0 := Lib.hid h0
  rw [h0]
  have hent := Lib.hid hG.ent
  have hm := Lib.hid hm0
  clear hok hno h0 hG hm0
  have hb2 : Below w.heap.size w (W.alloc (Obj.cells #[.slice A m c, .int .i64 st, .int .i64 n] 86)) := bl_alloc hb _
  have hown2 := hown.alloc (Obj.cells #[.slice A m c, .int .i64 st, .int .i64 n] 86)
  cases hn : nameB t
  · have HW := Lib.hid (cdW_name (t := t) H0.out hn)
    have HC := Lib.hid (cdS_no (f := f) (o := o) (s := s) (t := t) (by rw [HW.out]; decide))
    go_wp2_with (go_at_call 64; refine (IsName_c t ht _).mono ?_; rintro e w' ⟨rfl, hq⟩; rw [hq]; clear hq w'; rw [hn])
    go_returns
    exact RetT.mk (by rw [HC.out.1, HC.out.2, HW.out]; rfl) hb2
  have HW := Lib.hid (cdW_ok (t := t) H0.out hn)
  cases hr : (inB f 0 100000 && inB o 0 100000)
  · have HC := Lib.hid (cdS_rng (f := f) (o := o) HW.out hr)
    cases h1 : inB f 0 100000
    · clear hr
      go_wp2_with (first | (go_at_call 64; refine (IsName_c t ht _).mono ?_; rintro e w' ⟨rfl, hq⟩; rw [hq]; clear hq w'; rw [hn]) | (go_at_call 43; refine (within_c _ _ _ _).mono ?_; rintro e w' ⟨rfl, hq⟩; rw [hq]; clear hq w'))
      go_returns
      exact RetT.mk (by rw [HC.out.1, HC.out.2]; rfl) hb2
    · rw [h1, Bool.true_and] at hr
      go_wp2_with (first | (go_at_call 64; refine (IsName_c t ht _).mono ?_; rintro e w' ⟨rfl, hq⟩; rw [hq]; clear hq w'; rw [hn]) | (go_at_call 43; refine (within_c _ _ _ _).mono ?_; rintro e w' ⟨rfl, hq⟩; rw [hq]; clear hq w'))
      go_returns
      exact RetT.mk (by rw [HC.out.1, HC.out.2]; rfl) hb2
  have HC := Lib.hid (cdS_ok (f := f) (o := o) HW.out hr)
  rw [Bool.and_eq_true] at hr
  obtain ⟨h1, h2⟩ := hr
  go_wp2_with (first | (go_at_call 64; refine (IsName_c t ht _).mono ?_; rintro e w' ⟨rfl, hq⟩; rw [hq]; clear hq w'; rw [hn]) | (go_at_call 43; refine (within_c _ _ _ _).mono ?_; rintro e w' ⟨rfl, hq⟩; rw [hq]; clear hq w'))
  clear h1 h2 hn
  have hR := Lib.hid (show sumG t f o es 0 = sumG t f o (es.drop 0) 0 from rfl)
  go_loopw [12, 43] (fun sv i wr => ∃ (k : Nat) (a : Int), k ≤ m ∧ i = .int .i64 k ∧ sv = .int .i64 a ∧ -((k : Int) * 1000000) ≤ a ∧ a ≤ (k : Int) * 1000000 ∧ Hid (sumG t f o es 0 = sumG t f o (es.drop k) a) ∧ wr.ownsRow w.heap.size 54 3 (.slice A m c) m (flat Entry.cells es) ∧ Below w.heap.size w wr) (fun _ i _ => m - (intOf i).toNat)
  case atStart => exact ⟨0, 0, by omega, rfl, rfl, by omega, by omega, hR, hown2, hb2⟩
  case round =>
    clear hR hown hown2 hb hb2
    obtain ⟨k, a, hk, rfl, rfl, ha0, ha1, hR, hown, hv⟩ := hrel
    by_cases hlt : k < m
    · obtain ⟨x, hx⟩ := get_of_lt (xs := es) (k := k) (by rw [hm.out]; exact hlt)
      obtain ⟨ad, rfl, hab, c0, c1, c2⟩ := Entry.at_ (Arr.own hown) hx
      obtain ⟨v0, v1, _, _, _⟩ := ent_val hent.out hx
      have hR2 := Lib.hid (hR.out.trans (sumG_at hx t f o a))
      have hj0 : (0 : Int) ≤ (k : Int) := by omega
      have hj1 : (k : Int) < (m : Int) := by omega
      have hownA := fun O => hown.alloc O
      have hvA := fun O => bl_alloc hv O
      replace hownA := Lib.hid hownA
      replace hvA := Lib.hid hvA
      clear hR hx
      cases hq1 : (x.what.toList == t.toList)
      · have hR3 := Lib.hid (hR2.out.trans (by rw [hq1]; rfl : _ = sumG t f o (es.drop (k + 1)) a))
        clear hR2
        go_wp2_with fail
        exact ⟨⟨k + 1, a, by omega, by go_num, rfl, by omega, by omega, hR3, hownA.out _, hvA.out _⟩, by simp [intOf]; omega⟩
      · cases hq2 : inB x.day f o
        · have hR3 := Lib.hid (hR2.out.trans (by rw [hq1, hq2]; rfl : _ = sumG t f o (es.drop (k + 1)) a))
          clear hR2
          go_wp2_with (go_at_call 43; refine (within_c _ _ _ _).mono ?_; rintro e w' ⟨rfl, hq⟩; rw [hq]; clear hq w')
          exact ⟨⟨k + 1, a, by omega, by go_num, rfl, by omega, by omega, hR3, hownA.out _, hvA.out _⟩, by simp [intOf]; omega⟩
        · have hR3 := Lib.hid (hR2.out.trans (by rw [hq1, hq2]; rfl : _ = sumG t f o (es.drop (k + 1)) (a + x.value)))
          clear hR2
          go_wp2_with (go_at_call 43; refine (within_c _ _ _ _).mono ?_; rintro e w' ⟨rfl, hq⟩; rw [hq]; clear hq w')
          exact ⟨⟨k + 1, a + x.value, by omega, by go_num, rfl, by omega, by omega, hR3, hownA.out _, hvA.out _⟩, by simp [intOf]; omega⟩
    · have hR2 := Lib.hid (hR.out.trans (by rw [List.drop_eq_nil_of_le (by rw [hm.out]; omega)]; rfl : _ = a))
      clear hR
      go_wp2_with fail
      go_returns
      exact RetT.mk (by rw [HC.out.1, HC.out.2, HRD.out, hR2.out]; rfl) hv
end Go.Proofs.YtnhkdcebldppmaaDoor
