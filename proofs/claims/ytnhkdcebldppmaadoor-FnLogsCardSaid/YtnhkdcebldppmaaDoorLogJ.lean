
/- NamesIn: both sides; the law walked. -/
import Derived.Test.YtnhkdcebldppmaaDoorLogE
import Derived.Lib.SlicesS
import Derived.Deep.RegionHeld3
namespace Go.Proofs.YtnhkdcebldppmaaDoor
open Go.RowKit

def namSt (out : List ByteArray) (x : Entry) : List ByteArray := if Lib.containsS out x.what = true then out else out ++ [x.what]
def namG (es : List Entry) : List ByteArray := es.foldl namSt []
def namV (s : ByteArray) : List ByteArray := if cdL s = 0 then namG (rdL s).1 else []
theorem namV_ok {s : ByteArray} (h : cdL s = 0) : namV s = namG (rdL s).1 := by unfold namV; rw [if_pos h]
theorem namV_no {s : ByteArray} (h : ¬ cdL s = 0) : namV s = [] := by unfold namV; rw [if_neg h]
theorem namG_step {es : List Entry} {k : Nat} {x : Entry} (h : es[k]? = some x) : namG (es.take (k + 1)) = namSt (namG (es.take k)) x := by
  rw [take_at h]
  unfold namG
  rw [List.foldl_append]
  rfl
theorem namSt_len (out : List ByteArray) (x : Entry) : (namSt out x).length ≤ out.length + 1 := by
  unfold namSt
  split <;> simp
theorem namF_len : ∀ (es : List Entry) (out : List ByteArray), (es.foldl namSt out).length ≤ out.length + es.length := by
  intro es
  induction es with
  | nil => intro out; simp
  | cons x r ih =>
    intro out
    have h1 := ih (namSt out x)
    have h2 := namSt_len out x
    simp only [List.foldl_cons, List.length_cons]
    omega
theorem namG_len (es : List Entry) : (namG es).length ≤ es.length := by have := namF_len es []; simpa [namG] using this
theorem namV_len (s : ByteArray) : (namV s).length ≤ 4000 := by
  by_cases h : cdL s = 0
  · rw [namV_ok h]
    exact Nat.le_trans (namG_len _) (Nat.le_trans (rdL_few s) (cdL_small h))
  · rw [namV_no h]; simp
theorem anyT {out : List ByteArray} {k : Nat} {y : ByteArray} (h : out[k]? = some y) (x : ByteArray) : (out.take (k + 1)).any (fun z => z.toList == x.toList) = ((out.take k).any (fun z => z.toList == x.toList) || (y.toList == x.toList)) := by
  rw [take_at h, List.any_append]
  simp
theorem any_contains (out : List ByteArray) (x : ByteArray) : out.any (fun z => z.toList == x.toList) = Lib.containsS out x := by
  rw [Bool.eq_iff_iff, Lib.containsS_iff, List.any_eq_true]
  constructor
  · rintro ⟨z, hz, h⟩
    rw [bytes_beq, decide_eq_true_eq] at h
    rw [← h]; exact hz
  · intro h
    exact ⟨x, h, by simp⟩
theorem infoStrJ : (Tryd.prog.info? 9).map (fun i => (i.zero, i.size, i.bytes)) = some (some (.string ByteArray.empty), 1, 16) := by kernel_rfl
theorem ent_val' {es : List Entry} (h : ∀ e ∈ es, entB e = true) {k : Nat} {x : Entry} (hx : es[k]? = some x) : x.what.size ≤ 12 := by
  have := entB_bd (h x (List.mem_of_getElem? hx))
  omega
/-- the library's Contains over an owned slice -/
theorem containsO_c (A : Option Addr) (out : List ByteArray) (r c base : Nat) (x : ByteArray) (hr : Hid (out.length = r)) (hb : r ≤ 4000) (w : World) (hown : w.ownsRow base 9 1 (.slice A r c) r (flat scell out)) :
    Calls Tryd.prog 63 #[.slice A r c, .string x] w (RetQ (.bool (Lib.containsS out x)) w) := by
  by_cases h0 : r = 0
  · subst h0
    have he : out = [] := List.eq_nil_of_length_eq_zero hr.out
    subst he
    exact Tryd.slices_Contains_string_empty A c x w
  · obtain ⟨g, rfl⟩ := own_addr hown (by omega)
    have h := Tryd.slices_Contains_string g 0 r c out x w (by rw [hr.out]; exact Nat.le_refl _) (by omega) (by
      intro j hj
      have h1 := hown.cellAt j (by rw [hr.out] at hj; omega)
      rw [Nat.zero_add, h1]
      have h2 := flat_get (f := scell) (s := 1) (fun _ => rfl) out j 0 _ (List.getElem?_eq_getElem hj) (by omega)
      rw [Nat.mul_one, Nat.add_zero] at h2
      rw [h2]
      simp [scell, List.getElem?_eq_getElem hj])
    rw [show out.take r = out from List.take_of_length_le (by rw [hr.out]; exact Nat.le_refl _)] at h
    exact h
set_option maxRecDepth 100000 in
set_option maxHeartbeats 4000000 in
theorem NamesIn_c (s : ByteArray) (hs : s.size ≤ 1048576) (w : World) (hT : Tabs w) : Calls Tryd.prog 26 #[.string s] w (OutL 9 1 (namV s).length (flat scell (namV s)) (cdL s) w) := by
  obtain ⟨i0, hi0, hz0, hz1, hz2⟩ := info_parts (P := Tryd.prog) (e := 9) (z := .string ByteArray.empty) (size := 1) (bytes := 16) infoStrJ
  have HT := Lib.hid hT
  clear hT
  go_enter Tryd.func26, Tryd.ntmps26
  go_wp2_with fail
  refine (logCode_c s hs _ HT.out).mono ?_
  rintro e W ⟨A, c, m, es, st, n, rfl, hG, hm0, hown, hok, hno, hb0⟩
  obtain ⟨WB, hWB⟩ : ∃ WB, WB = W.alloc (Obj.cells #[.slice A m c, .int .i64 st, .int .i64 n] 86) := ⟨_, rfl⟩
  have hb : Below w.heap.size w WB := by rw [hWB]; exact bl_alloc hb0 _
  have hAr : Arr WB A (flat Entry.cells es) := by rw [hWB]; exact (Arr.own hown).alloc _
  have HWB := Lib.hid hWB
  clear hWB hown hb0
  by_cases h0 : cdL s = 0
  case neg =>
    have HC := Lib.hid (namV_no h0)
    have hne2 : (cdL s != 0) = true := by rw [bne_iff_ne]; exact h0
    clear hok hno hAr
    generalize cdL s = C at *
    clear h0
    go_wp2_with fail
    rw [← HWB.out]
    go_returns
    rw [HC.out]
    exact OutL.nil hb
  have HRD := Lib.hid (hok h0)
  have hfew : m ≤ 4000 := by rw [← hm0]; have := rdL_few s; rw [HRD.out] at this; exact Nat.le_trans this (cdL_small h0)
  have H0 := Lib.hid h0
  have HC := Lib.hid ((namV_ok h0).trans (by rw [HRD.out] : _ = namG es))
  rw [h0]
  have hent := Lib.hid hG.ent
  have hm := Lib.hid hm0
  clear hok hno h0 hG hm0
  go_wp2_with fail
  rw [← HWB.out, show W.heap.size + 1 = WB.heap.size from by rw [HWB.out, World.size_alloc]]
  have hR := Lib.hid (show (namG (es.take 0)).length = 0 from rfl)
  go_loopw [6, 21] (fun ov i wr => ∃ (k r : Nat) (A' : Option Addr) (c' : Nat), k ≤ m ∧ r ≤ k ∧ i = .int .i64 k ∧ ov = .slice A' r c' ∧ Hid ((namG (es.take k)).length = r) ∧ wr.ownsRow WB.heap.size 9 1 (.slice A' r c') r (flat scell (namG (es.take k))) ∧ Below WB.heap.size WB wr) (fun _ i _ => m - (intOf i).toNat)
  case atStart => exact ⟨0, 0, _, _, by omega, by omega, rfl, rfl, hR, own_empty WB WB.heap.size 9 1 (Nat.le_refl _), bl_alloc (Below.refl _ _) _⟩
  case round =>
    clear hR
    obtain ⟨k, r, A', c', hk, hrk, rfl, rfl, hR, hownV, hv⟩ := hrel
    skip
    by_cases hlt : k < m
    · obtain ⟨x, hx⟩ := get_of_lt (xs := es) (k := k) (by rw [hm.out]; exact hlt)
      obtain ⟨ad, rfl, hab, c0, c1, c2⟩ := Entry.at_ (hAr.below hv) hx
      have hj0 : (0 : Int) ≤ (k : Int) := by omega
      have hj1 : (k : Int) < (m : Int) := by omega
      have hst := Lib.hid (namG_step hx)
      clear hx
      have HO := Lib.hid hownV
      go_wp2_with fail
      refine (containsO_c A' (namG (es.take k)) r c' WB.heap.size x.what hR (by omega) _ (HO.out.alloc _)).mono ?_
      rintro e w' ⟨rfl, hqw⟩
      rw [hqw]
      clear hqw w'
      cases hq : Lib.containsS (namG (es.take k)) x.what
      · have HST := Lib.hid (hst.out.trans (by unfold namSt; rw [if_neg (by rw [hq]; decide)] : _ = namG (es.take k) ++ [x.what]))
        go_wp2_with (at_builtin; refine app_ownX _ _ rfl _ _ 35 9 rfl i0 _ 1 16 Tryd.underlying35 hi0 hz0 hz1 hz2 rfl (by omega) WB.heap.size (.slice A' r c') r (flat scell (namG (es.take k))) rfl _ (World.size_alloc _ _).symm rfl (HO.out.alloc _) rfl (by simp [Value.oneCell']) (by unfold maxLen; omega) (by omega) (Nat.le_trans hv.size (by simp)) ?_; intro A2 c2 w2 hown2 hg2)
        refine ⟨⟨k + 1, r + 1, A2, c2, by omega, by omega, by go_num, rfl, Lib.hid (by rw [HST.out, List.length_append, hR.out]; rfl), by rw [HST.out, flat_append]; exact hown2, bl_grown (bl_alloc hv _) hg2 (own_at HO.out)⟩, by simp [intOf]; omega⟩
      · have HST := Lib.hid (hst.out.trans (by unfold namSt; rw [if_pos hq] : _ = namG (es.take k)))
        go_wp2_with fail
        exact ⟨⟨k + 1, r, A', c', by omega, by omega, by go_num, rfl, Lib.hid (by rw [HST.out]; exact hR.out), by rw [HST.out]; exact HO.out.alloc _, bl_alloc hv _⟩, by simp [intOf]; omega⟩
    · have HV := Lib.hid (show namG es = namG (es.take k) by rw [List.take_of_length_le (by rw [hm.out]; omega)])
      go_wp2_with fail
      go_returns
      exact OutL.mk (own_base hownV hb.size) (by rw [HC.out, HV.out]; exact hR.out.symm) (by rw [HC.out, HV.out]) (by first | rfl | exact H0.out.symm) (bl_trans hb hv)

end Go.Proofs.YtnhkdcebldppmaaDoor
