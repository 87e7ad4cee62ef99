/- NamesIn: both sides; the law walked. -/
import Derived.Test.YtbfelgfnebeliaaDoorLogE
import Derived.Lib.SlicesS
import Derived.Deep.RegionHeld3
namespace Go.Proofs.YtbfelgfnebeliaaDoor
open Go.RowKit

def namSt (out : List ByteArray) (x : Entry) : List ByteArray := if Lib.containsS out x.what = true then out else out ++ [x.what]
def namG (es : List Entry) : List ByteArray := es.foldl namSt []
def namV (s : ByteArray) : List ByteArray := if cdL s = 0 then namG (rdL s).1 else []
theorem namV_ok {s : ByteArray} (h : cdL s = 0) : namV s = namG (rdL s).1 := by unfold namV; rw [if_pos h]
theorem namV_no {s : ByteArray} (h : ¬ cdL s = 0) : namV s = [] := by unfold namV; rw [if_neg h]
theorem namG_step {es : List Entry} {k : Nat} {x : Entry} (h : es[k]? = some x) : namG (es.take (k + 1)) = namSt (namG (es.take k)) x := by
  rw [take_at h]
  unfold namG
  rw [List.foldl_append]
  rfl
theorem namSt_len (out : List ByteArray) (x : Entry) : (namSt out x).length ≤ out.length + 1 := by
  unfold namSt
  split <;> simp
theorem namF_len : ∀ (es : List Entry) (out : List ByteArray), (es.foldl namSt out).length ≤ out.length + es.length := by
  intro es
  induction es with
  | nil => intro out; simp
  | cons x r ih =>
    intro out
    have h1 := ih (namSt out x)
    have h2 := namSt_len out x
    simp only [List.foldl_cons, List.length_cons]
    omega
theorem namG_len (es : List Entry) : (namG es).length ≤ es.length := by have := namF_len es []; simpa [namG] using this
theorem namV_len (s : ByteArray) : (namV s).length ≤ 4000 := by
  by_cases h : cdL s = 0
  · rw [namV_ok h]
    exact Nat.le_trans (namG_len _) (Nat.le_trans (rdL_few s) (cdL_small h))
  · rw [namV_no h]; simp
theorem anyT {out : List ByteArray} {k : Nat} {y : ByteArray} (h : out[k]? = some y) (x : ByteArray) : (out.take (k + 1)).any (fun z => z.toList == x.toList) = ((out.take k).any (fun z => z.toList == x.toList) || (y.toList == x.toList)) := by
  rw [take_at h, List.any_append]
  simp
theorem any_contains (out : List ByteArray) (x : ByteArray) : out.any (fun z => z.toList == x.toList) = Lib.containsS out x := by
  rw [Bool.eq_iff_iff, Lib.containsS_iff, List.any_eq_true]
  constructor
  · rintro ⟨z, hz, h⟩
    rw [bytes_beq, decide_eq_true_eq] at h
    rw [← h]; exact hz
  · intro h
    exact ⟨x, h, by simp⟩
theorem infoStrJ : (Tryd.prog.info? 9).map (fun i => (i.zero, i.size, i.bytes)) = some (some (.string ByteArray.empty), 1, 16) := by kernel_rfl
theorem ent_val' {es : List Entry} (h : ∀ e ∈ es, entB e = true) {k : Nat} {x : Entry} (hx : es[k]? = some x) : x.what.size ≤ 12 := by
  have := entB_bd (h x (List.mem_of_getElem? hx))
  omega
/-- the library's Contains over an owned slice -/
theorem containsO_c (A : Option Addr) (out : List ByteArray) (r c base : Nat) (x : ByteArray) (hr : Hid (out.length = r)) (hb : r ≤ 4000) (w : World) (hown : w.ownsRow base 9 1 (.slice A r c) r (flat scell out)) :
    Calls Tryd.prog 65 #[.slice A r c, .string x] w (RetQ (.bool (Lib.containsS out x)) w) := by
  by_cases h0 : r = 0
  · subst h0
    have he : out = [] := List.eq_nil_of_length_eq_zero hr.out
    subst he
    exact Tryd.slices_Contains_string_empty A c x w
  · obtain ⟨g, rfl⟩ := own_addr hown (by omega)
    have h := Tryd.slices_Contains_string g 0 r c out x w (by rw [hr.out]; exact Nat.le_refl _) (by omega) (by
      intro j hj
      have h1 := hown.cellAt j (by rw [hr.out] at hj; omega)
      rw [Nat.zero_add, h1]
      have h2 := flat_get (f := scell) (s := 1) (fun _ => rfl) out j 0 _ (List.getElem?_eq_getElem hj) (by omega)
      rw [Nat.mul_one, Nat.add_zero] at h2
      rw [h2]
      simp [scell, List.getElem?_eq_getElem hj])
    rw [show out.take r = out from List.take_of_length_le (by rw [hr.out]; exact Nat.le_refl _)] at h
    exact h
set_option maxRecDepth 100000 in
set_option maxHeartbeats 4000000 in
theorem NamesIn_c (s : ByteArray) (hs : s.size ≤ 1048576) (w : World) (hT : Tabs w) : Calls Tryd.prog 35 #[.string s] w (OutL 9 1 (namV s).length (flat scell (namV s)) (cdL s) w) := by
  obtain ⟨i0, hi0, hz0, hz1, hz2⟩ := info_parts (P := Tryd.prog) (e := 9) (z := .string ByteArray.empty) (size := 1) (bytes := 16) infoStrJ
  have HT := Lib.hid hT
  clear hT
  go_enter Tryd.func35, Tryd.ntmps35
  go_wp2_with fail
  refine (logCode_c s hs _ HT.out).mono ?_
  rintro e W ⟨A, c, m, es, st, n, rfl, hG, hm0, hown, hok, hno, hb0⟩
  obtain ⟨WB, hWB⟩ : ∃ WB, WB = W.alloc (Obj.cells #[.slice A m c, .int .i64 st, .int .i64 n] 74) := ⟨_, rfl⟩
  have hb : Below w.heap.size w WB := by rw [hWB]; exact bl_alloc hb0 _
  have hAr : Arr WB A (flat Entry.cells es) := by rw [hWB]; exact (Arr.own hown).alloc _
  have HWB := Lib.hid hWB
  clear hWB hown hb0
  by_cases h0 : cdL s = 0
  case neg =>
    have HC := Lib.hid (namV_no h0)
    have hne2 : (cdL s != 0) = true := by rw [bne_iff_ne]; exact h0
    clear hok hno hAr
    generalize cdL s = C at *
    clear h0
    go_wp2_with fail
    rw [← HWB.out]
    go_returns
    rw [HC.out]
    exact OutL.nil hb
  have HRD := Lib.hid (hok h0)
  have hfew : m ≤ 4000 := by rw [← hm0]; have := rdL_few s; rw [HRD.out] at this; exact Nat.le_trans this (cdL_small h0)
  have H0 := Lib.hid h0
  have HC := Lib.hid ((namV_ok h0).trans (by rw [HRD.out] : _ = namG es))
  rw [h0]
  have hent := Lib.hid hG.ent
  have hm := Lib.hid hm0
  clear hok hno h0 hG hm0
  go_wp2_with fail
  rw [← HWB.out, show W.heap.size + 1 = WB.heap.size from by rw [HWB.out, World.size_alloc]]
  have hR := Lib.hid (show (namG (es.take 0)).length = 0 from rfl)
  go_loopw [6, 21] (fun ov i wr => ∃ (k r : Nat) (A' : Option Addr) (c' : Nat), k ≤ m ∧ r ≤ k ∧ i = .int .i64 k ∧ ov = .slice A' r c' ∧ Hid ((namG (es.take k)).length = r) ∧ wr.ownsRow WB.heap.size 9 1 (.slice A' r c') r (flat scell (namG (es.take k))) ∧ Below WB.heap.size WB wr) (fun _ i _ => m - (intOf i).toNat)
  case atStart => exact ⟨0, 0, _, _, by omega, by omega, rfl, rfl, hR, own_empty WB WB.heap.size 9 1 (Nat.le_refl _), bl_alloc (Below.refl _ _) _⟩
  case round =>
    clear hR
    obtain ⟨k, r, A', c', hk, hrk, rfl, rfl, hR, hownV, hv⟩ := hrel
    skip
    by_cases hlt : k < m
    · obtain ⟨x, hx⟩ := get_of_lt (xs := es) (k := k) (by rw [hm.out]; exact hlt)
      obtain ⟨ad, rfl, hab, c0, c1, c2⟩ := Entry.at_ (hAr.below hv) hx
      have hj0 : (0 : Int) ≤ (k : Int) := by omega
      have hj1 : (k : Int) < (m : Int) := by omega
      have hst := Lib.hid (namG_step hx)
      clear hx
      have HO := Lib.hid hownV
      go_wp2_with fail
      refine (containsO_c A' (namG (es.take k)) r c' WB.heap.size x.what hR (by omega) _ (HO.out.alloc _)).mono ?_
      rintro e w' ⟨rfl, hqw⟩
      rw [hqw]
      clear hqw w'
      cases hq : Lib.containsS (namG (es.take k)) x.what
      · have HST := Lib.hid (hst.out.trans (by unfold namSt; rw [if_neg (by rw [hq]; decide)] : _ = namG (es.take k) ++ [x.what]))
        go_wp2_with (at_builtin; refine app_ownX _ _ rfl _ _ 53 9 rfl i0 _ 1 16 Tryd.underlying53 hi0 hz0 hz1 hz2 rfl (by omega) WB.heap.size (.slice A' r c') r (flat scell (namG (es.take k))) rfl _ (World.size_alloc _ _).symm rfl (HO.out.alloc _) rfl (by simp [Value.oneCell']) (by unfold maxLen; omega) (by omega) (Nat.le_trans hv.size (by simp)) ?_; intro A2 c2 w2 hown2 hg2)
        refine ⟨⟨k + 1, r + 1, A2, c2, by omega, by omega, by go_num, rfl, Lib.hid (by rw [HST.out, List.length_append, hR.out]; rfl), by rw [HST.out, flat_append]; exact hown2, bl_grown (bl_alloc hv _) hg2 (own_at HO.out)⟩, by simp [intOf]; omega⟩
      · have HST := Lib.hid (hst.out.trans (by unfold namSt; rw [if_pos hq] : _ = namG (es.take k)))
        go_wp2_with fail
        exact ⟨⟨k + 1, r, A', c', by omega, by omega, by go_num, rfl, Lib.hid (by rw [HST.out]; exact hR.out), by rw [HST.out]; exact HO.out.alloc _, bl_alloc hv _⟩, by simp [intOf]; omega⟩
    · have HV := Lib.hid (show namG es = namG (es.take k) by rw [List.take_of_length_le (by rw [hm.out]; omega)])
      go_wp2_with fail
      go_returns
      exact OutL.mk (own_base hownV hb.size) (by rw [HC.out, HV.out]; exact hR.out.symm) (by rw [HC.out, HV.out]) (by first | rfl | exact H0.out.symm) (bl_trans hb hv)

set_option maxRecDepth 100000 in
set_option maxHeartbeats 4000000 in
theorem SNamesIn_c (s : ByteArray) (hs : s.size ≤ 1048576) (w : World) : Calls Tryd.prog 34 #[.string s] w (OutL 9 1 (namV s).length (flat scell (namV s)) (cdL s) w) := by
  obtain ⟨i0, hi0, hz0, hz1, hz2⟩ := info_parts (P := Tryd.prog) (e := 9) (z := .string ByteArray.empty) (size := 1) (bytes := 16) infoStrJ
  go_enter Tryd.func34, Tryd.ntmps34
  go_wp2_with fail
  refine (l27Code_c s hs _).mono ?_
  rintro e W ⟨g, rfl, hg, hRS, hb⟩
  by_cases h0 : cdL s = 0
  case neg =>
    have HC := Lib.hid (namV_no h0)
    have hne2 : (cdL s != 0) = true := by rw [bne_iff_ne]; exact h0
    clear hRS
    generalize cdL s = C at *
    clear h0
    go_wp2_with fail
    go_returns
    rw [HC.out]
    exact OutL.nil hb
  obtain ⟨A, c, hB, hown, _⟩ := hRS h0
  have hfew : (rdL s).1.length ≤ 4000 := Nat.le_trans (rdL_few s) (cdL_small h0)
  have hent := Lib.hid (rdL_good s).ent
  have HC := Lib.hid (namV_ok h0)
  have H0 := Lib.hid h0
  rw [h0]
  clear hRS h0
  generalize (rdL s).1 = es at *
  generalize (rdL s).2.1 = st at *
  generalize (rdL s).2.2 = n at *
  obtain ⟨m, hm0⟩ : ∃ m, m = es.length := ⟨_, rfl⟩
  rw [← hm0] at hB hown hfew
  have hm := Lib.hid hm0.symm
  clear hm0
  have hAr := Arr.own hown
  clear hown
  go_wp2_with fail
  have hR := Lib.hid (show (namG (es.take 0)).length = 0 from rfl)
  go_loopw [6, 7] (fun ov i wr => ∃ (k r : Nat) (A' : Option Addr) (c' : Nat), k ≤ m ∧ r ≤ k ∧ i = .int .i64 k ∧ ov = .slice A' r c' ∧ Hid ((namG (es.take k)).length = r) ∧ wr.ownsRow W.heap.size 9 1 (.slice A' r c') r (flat scell (namG (es.take k))) ∧ Below W.heap.size W wr) (fun _ i _ => m - (intOf i).toNat)
  case atStart => exact ⟨0, 0, _, _, by omega, by omega, rfl, rfl, hR, own_empty W W.heap.size 9 1 (Nat.le_refl _), bl_alloc (Below.refl _ _) _⟩
  case round =>
    clear hR
    obtain ⟨k, r, A', c', hk, hrk, rfl, rfl, hR, hownV, hv⟩ := hrel
    rename World => wo
    have k3 : wo.cell? ⟨g, 3, none⟩ = some (.slice A m c) := (hB.below hv).cell 3
    by_cases hlt : k < m
    · obtain ⟨x, hx⟩ := get_of_lt (xs := es) (k := k) (by rw [hm.out]; exact hlt)
      obtain ⟨ad, rfl, hab, c0, c1, c2⟩ := Entry.at_ (hAr.below hv) hx
      have hj0 : (0 : Int) ≤ (k : Int) := by omega
      have hj1 : (k : Int) < (m : Int) := by omega
      have hst := Lib.hid (namG_step hx)
      clear hx
      have HO := Lib.hid hownV
      go_wp2_with fail
      have hF := Lib.hid (show false = ((namG (es.take k)).take 0).any (fun z => z.toList == x.what.toList) from rfl)
      go_loopw [8, 9] (fun fv i2 wr2 => ∃ (j : Nat) (f : Bool), j ≤ r ∧ i2 = .int .i64 j ∧ fv = .bool f ∧ Hid (f = ((namG (es.take k)).take j).any (fun z => z.toList == x.what.toList)) ∧ Below wo.heap.size wo wr2) (fun _ i2 _ => r - (intOf i2).toNat)
      case atStart => exact ⟨0, false, by omega, rfl, rfl, hF, Below.refl _ _⟩
      case round =>
        clear hF
        obtain ⟨j, f, hj, rfl, rfl, hF, hv2⟩ := hrel
        replace hv := bl_trans hv hv2
        replace hownV := own_below hownV hv2
        replace c1 := bl_cell hv2 c1
        have hB3 := hB.below hv
        have HO2 := Lib.hid hownV
        by_cases hlj : j < r
        · obtain ⟨y, hy⟩ := get_of_lt (xs := namG (es.take k)) (k := j) (by rw [hR.out]; exact hlj)
          obtain ⟨gV, rfl⟩ := own_addr hownV (by omega)
          have y0 : wr.cell? ⟨gV, j, none⟩ = some (.string y) := by
            rw [hownV.cellAt j (by omega)]
            have h9 := flat_get (f := scell) (s := 1) (fun _ => rfl) _ j 0 y hy (by omega)
            rw [Nat.mul_one, Nat.add_zero] at h9
            exact h9
          have hF2 := Lib.hid (anyT hy x.what)
          have hjj0 : (0 : Int) ≤ (j : Int) := by omega
          have hjj1 : (j : Int) < (r : Int) := by omega
          clear hy
          have hB4 := hB3.below (Below.refl wr.heap.size wr).drew
          replace c1 := bl_cell (Below.refl wr.heap.size wr).drew c1
          replace y0 := bl_cell (Below.refl wr.heap.size wr).drew y0
          go_wp2_with fail
          cases f
          · obtain ⟨q, hq⟩ : ∃ q, (y.toList == x.what.toList) = q := ⟨_, rfl⟩
            have HQ := Lib.hid hq
            refine wp_region_held_drew (S := fun w' => Blk w' g 70 (RV s n st (some ad) m c) ∧ w'.cell? ⟨(ad.add (k * 3)).block, (ad.add (k * 3)).off + 1, none⟩ = some (.string x.what) ∧ w'.cell? ⟨gV, j, none⟩ = some (.string y)) (by kernel_rfl) ?_ (fun hHeld => ?_)
            · exact ⟨hB4, c1, y0⟩
            refine wpAnyH_take (i := 0) (oi := { dst := some 34, op := _, type := _, pos := _, after := _, guard := _ }) (v := ?_) rfl (by kernel_rfl) (by kernel_rfl) (by kernel_rfl) (fun _ _ _ h => h) (Or.inl ⟨by kernel_rfl, ?_⟩) (by assumption) ?_
            rotate_left
            · intro w hSw
              try dsimp only at hSw
              go_simp
              try with_reducible rfl
            try simp only [Act.put, List.setIfInBounds_toArray, List.set_cons_zero, List.set_cons_succ]
            refine wpAnyH_take (i := 1) (oi := { dst := some 35, op := _, type := _, pos := _, after := _, guard := _ }) (v := ?_) rfl (by kernel_rfl) (by kernel_rfl) (by kernel_rfl) (fun _ _ _ h => h) (Or.inl ⟨by kernel_rfl, ?_⟩) (by assumption) ?_
            rotate_left
            · intro w hSw
              try dsimp only at hSw
              go_simp
              try with_reducible rfl
            try simp only [Act.put, List.setIfInBounds_toArray, List.set_cons_zero, List.set_cons_succ]
            refine wpAnyH_take (i := 2) (oi := { dst := some 36, op := _, type := _, pos := _, after := _, guard := _ }) (v := ?_) rfl (by kernel_rfl) (by kernel_rfl) (by kernel_rfl) (fun _ _ _ h => h) (Or.inl ⟨by kernel_rfl, ?_⟩) (by assumption) ?_
            rotate_left
            · intro w hSw
              try dsimp only at hSw
              go_simp
              try with_reducible rfl
            try simp only [Act.put, List.setIfInBounds_toArray, List.set_cons_zero, List.set_cons_succ]
            refine wpAnyH_take (i := 3) (oi := { dst := some 37, op := _, type := _, pos := _, after := _, guard := _ }) (v := ?_) rfl (by kernel_rfl) (by kernel_rfl) (by kernel_rfl) (fun _ _ _ h => h) (Or.inl ⟨by kernel_rfl, ?_⟩) (by assumption) ?_
            rotate_left
            · intro w hSw
              try dsimp only at hSw
              go_simp
              try with_reducible rfl
            try simp only [Act.put, List.setIfInBounds_toArray, List.set_cons_zero, List.set_cons_succ]
            refine wpAnyH_take (i := 4) (oi := { dst := some 38, op := _, type := _, pos := _, after := _, guard := _ }) (v := ?_) rfl (by kernel_rfl) (by kernel_rfl) (by kernel_rfl) (fun _ _ _ h => h) (Or.inl ⟨by kernel_rfl, ?_⟩) (by assumption) ?_
            rotate_left
            · intro w hSw
              try dsimp only at hSw
              go_simp
              try with_reducible rfl
            try simp only [Act.put, List.setIfInBounds_toArray, List.set_cons_zero, List.set_cons_succ]
            refine wpAnyH_take (i := 5) (oi := { dst := some 39, op := _, type := _, pos := _, after := _, guard := _ }) (v := ?_) rfl (by kernel_rfl) (by kernel_rfl) (by kernel_rfl) (fun _ _ _ h => h) (Or.inl ⟨by kernel_rfl, ?_⟩) (by assumption) ?_
            rotate_left
            · intro w hSw
              try dsimp only at hSw
              have k3 : w.cell? ⟨g, 3, none⟩ = some (.slice (some ad) m c) := hSw.1.cell 3
              have c1' := hSw.2.1
              have y0' := hSw.2.2
              go_simp
              try with_reducible rfl
            try simp only [Act.put, List.setIfInBounds_toArray, List.set_cons_zero, List.set_cons_succ]
            refine wpAnyH_take (i := 6) (oi := { dst := some 40, op := _, type := _, pos := _, after := _, guard := _ }) (v := ?_) rfl (by kernel_rfl) (by kernel_rfl) (by kernel_rfl) (fun _ _ _ h => h) (Or.inl ⟨by kernel_rfl, ?_⟩) (by assumption) ?_
            rotate_left
            · intro w hSw
              try dsimp only at hSw
              go_simp
              try with_reducible rfl
            try simp only [Act.put, List.setIfInBounds_toArray, List.set_cons_zero, List.set_cons_succ]
            refine wpAnyH_take (i := 7) (oi := { dst := some 41, op := _, type := _, pos := _, after := _, guard := _ }) (v := ?_) rfl (by kernel_rfl) (by kernel_rfl) (by kernel_rfl) (fun _ _ _ h => h) (Or.inl ⟨by kernel_rfl, ?_⟩) (by assumption) ?_
            rotate_left
            · intro w hSw
              try dsimp only at hSw
              go_simp
              try with_reducible rfl
            try simp only [Act.put, List.setIfInBounds_toArray, List.set_cons_zero, List.set_cons_succ]
            refine wpAnyH_take (i := 8) (oi := { dst := some 42, op := _, type := _, pos := _, after := _, guard := _ }) (v := ?_) rfl (by kernel_rfl) (by kernel_rfl) (by kernel_rfl) (fun _ _ _ h => h) (Or.inl ⟨by kernel_rfl, ?_⟩) (by assumption) ?_
            rotate_left
            · intro w hSw
              try dsimp only at hSw
              go_simp
              try with_reducible rfl
            try simp only [Act.put, List.setIfInBounds_toArray, List.set_cons_zero, List.set_cons_succ]
            refine wpAnyH_take (i := 9) (oi := { dst := some 43, op := _, type := _, pos := _, after := _, guard := _ }) (v := ?_) rfl (by kernel_rfl) (by kernel_rfl) (by kernel_rfl) (fun _ _ _ h => h) (Or.inl ⟨by kernel_rfl, ?_⟩) (by assumption) ?_
            rotate_left
            · intro w hSw
              try dsimp only at hSw
              have k3 : w.cell? ⟨g, 3, none⟩ = some (.slice (some ad) m c) := hSw.1.cell 3
              have c1' := hSw.2.1
              have y0' := hSw.2.2
              go_simp
              try with_reducible rfl
            try simp only [Act.put, List.setIfInBounds_toArray, List.set_cons_zero, List.set_cons_succ]
            refine wpAnyH_take (i := 10) (oi := { dst := some 44, op := _, type := _, pos := _, after := _, guard := _ }) (v := ?_) rfl (by kernel_rfl) (by kernel_rfl) (by kernel_rfl) (fun _ _ _ h => h) (Or.inl ⟨by kernel_rfl, ?_⟩) (by assumption) ?_
            rotate_left
            · intro w hSw
              try dsimp only at hSw
              go_simp
              try with_reducible rfl
            try simp only [Act.put, List.setIfInBounds_toArray, List.set_cons_zero, List.set_cons_succ]
            refine wpAnyH_take (i := 11) (oi := { dst := some 45, op := _, type := _, pos := _, after := _, guard := _ }) (v := ?_) rfl (by kernel_rfl) (by kernel_rfl) (by kernel_rfl) (fun _ _ _ h => h) (Or.inl ⟨by kernel_rfl, ?_⟩) (by assumption) ?_
            rotate_left
            · intro w hSw
              try dsimp only at hSw
              go_simp
              try with_reducible rfl
            try simp only [Act.put, List.setIfInBounds_toArray, List.set_cons_zero, List.set_cons_succ]
            refine wpAnyH_take (i := 12) (oi := { dst := some 46, op := _, type := _, pos := _, after := _, guard := _ }) (v := ?_) rfl (by kernel_rfl) (by kernel_rfl) (by kernel_rfl) (fun _ _ _ h => h) (Or.inl ⟨by kernel_rfl, ?_⟩) (by assumption) ?_
            rotate_left
            · intro w hSw
              try dsimp only at hSw
              go_simp
              try with_reducible rfl
            try simp only [Act.put, List.setIfInBounds_toArray, List.set_cons_zero, List.set_cons_succ]
            refine wpAnyH_take (i := 13) (oi := { dst := some 47, op := _, type := _, pos := _, after := _, guard := _ }) (v := ?_) rfl (by kernel_rfl) (by kernel_rfl) (by kernel_rfl) (fun _ _ _ h => h) (Or.inl ⟨by kernel_rfl, ?_⟩) (by assumption) ?_
            rotate_left
            · intro w hSw
              try dsimp only at hSw
              have k3 : w.cell? ⟨g, 3, none⟩ = some (.slice (some ad) m c) := hSw.1.cell 3
              have c1' := hSw.2.1
              have y0' := hSw.2.2
              go_simp
              try with_reducible rfl
            try simp only [Act.put, List.setIfInBounds_toArray, List.set_cons_zero, List.set_cons_succ]
            refine wpAnyH_take (i := 14) (oi := { dst := some 48, op := _, type := _, pos := _, after := _, guard := _ }) (v := ?_) rfl (by kernel_rfl) (by kernel_rfl) (by kernel_rfl) (fun _ _ _ h => h) (Or.inl ⟨by kernel_rfl, ?_⟩) (by assumption) ?_
            rotate_left
            · intro w hSw
              try dsimp only at hSw
              go_simp
              try with_reducible rfl
            try simp only [Act.put, List.setIfInBounds_toArray, List.set_cons_zero, List.set_cons_succ]
            refine wpAnyH_take (i := 15) (oi := { dst := some 49, op := _, type := _, pos := _, after := _, guard := _ }) (v := ?_) rfl (by kernel_rfl) (by kernel_rfl) (by kernel_rfl) (fun _ _ _ h => h) (Or.inl ⟨by kernel_rfl, ?_⟩) (by assumption) ?_
            rotate_left
            · intro w hSw
              try dsimp only at hSw
              go_simp
              try with_reducible rfl
            try simp only [Act.put, List.setIfInBounds_toArray, List.set_cons_zero, List.set_cons_succ]
            refine wpAnyH_take (i := 16) (oi := { dst := some 8, op := _, type := _, pos := _, after := _, guard := _ }) (v := ?_) rfl (by kernel_rfl) (by kernel_rfl) (by kernel_rfl) (fun _ _ _ h => h) (Or.inl ⟨by kernel_rfl, ?_⟩) (by assumption) ?_
            rotate_left
            · intro w hSw
              try dsimp only at hSw
              go_simp
              try with_reducible rfl
            try simp only [Act.put, List.setIfInBounds_toArray, List.set_cons_zero, List.set_cons_succ]
            refine wpAnyH_done (by kernel_rfl) ?_ _
            clear hHeld
            clear hq
            go_wp2_with fail
            exact ⟨⟨j + 1, q, by omega, by go_num, rfl, Lib.hid (by rw [hF2.out, ← hF.out, HQ.out]; rfl), hv2.drew⟩, by simp [intOf]; omega⟩
          · skip
            refine wp_region_held_drew (S := fun w' => Blk w' g 70 (RV s n st (some ad) m c) ∧ w'.cell? ⟨(ad.add (k * 3)).block, (ad.add (k * 3)).off + 1, none⟩ = some (.string x.what) ∧ w'.cell? ⟨gV, j, none⟩ = some (.string y)) (by kernel_rfl) ?_ (fun hHeld => ?_)
            · exact ⟨hB4, c1, y0⟩
            refine wpAnyH_take (i := 0) (oi := { dst := some 34, op := _, type := _, pos := _, after := _, guard := _ }) (v := ?_) rfl (by kernel_rfl) (by kernel_rfl) (by kernel_rfl) (fun _ _ _ h => h) (Or.inl ⟨by kernel_rfl, ?_⟩) (by assumption) ?_
            rotate_left
            · intro w hSw
              try dsimp only at hSw
              go_simp
              try with_reducible rfl
            try simp only [Act.put, List.setIfInBounds_toArray, List.set_cons_zero, List.set_cons_succ]
            refine wpAnyH_take (i := 1) (oi := { dst := some 35, op := _, type := _, pos := _, after := _, guard := _ }) (v := ?_) rfl (by kernel_rfl) (by kernel_rfl) (by kernel_rfl) (fun _ _ _ h => h) (Or.inl ⟨by kernel_rfl, ?_⟩) (by assumption) ?_
            rotate_left
            · intro w hSw
              try dsimp only at hSw
              go_simp
              try with_reducible rfl
            try simp only [Act.put, List.setIfInBounds_toArray, List.set_cons_zero, List.set_cons_succ]
            refine wpAnyH_take (i := 2) (oi := { dst := some 36, op := _, type := _, pos := _, after := _, guard := _ }) (v := undef) rfl (by kernel_rfl) (by kernel_rfl) (by kernel_rfl) (fun _ _ _ h => h) (Or.inr ⟨by kernel_rfl, rfl⟩) (by assumption) ?_
            try simp only [Act.put, List.setIfInBounds_toArray, List.set_cons_zero, List.set_cons_succ]
            refine wpAnyH_take (i := 3) (oi := { dst := some 37, op := _, type := _, pos := _, after := _, guard := _ }) (v := undef) rfl (by kernel_rfl) (by kernel_rfl) (by kernel_rfl) (fun _ _ _ h => h) (Or.inr ⟨by kernel_rfl, rfl⟩) (by assumption) ?_
            try simp only [Act.put, List.setIfInBounds_toArray, List.set_cons_zero, List.set_cons_succ]
            refine wpAnyH_take (i := 4) (oi := { dst := some 38, op := _, type := _, pos := _, after := _, guard := _ }) (v := undef) rfl (by kernel_rfl) (by kernel_rfl) (by kernel_rfl) (fun _ _ _ h => h) (Or.inr ⟨by kernel_rfl, rfl⟩) (by assumption) ?_
            try simp only [Act.put, List.setIfInBounds_toArray, List.set_cons_zero, List.set_cons_succ]
            refine wpAnyH_take (i := 5) (oi := { dst := some 39, op := _, type := _, pos := _, after := _, guard := _ }) (v := undef) rfl (by kernel_rfl) (by kernel_rfl) (by kernel_rfl) (fun _ _ _ h => h) (Or.inr ⟨by kernel_rfl, rfl⟩) (by assumption) ?_
            try simp only [Act.put, List.setIfInBounds_toArray, List.set_cons_zero, List.set_cons_succ]
            refine wpAnyH_take (i := 6) (oi := { dst := some 40, op := _, type := _, pos := _, after := _, guard := _ }) (v := undef) rfl (by kernel_rfl) (by kernel_rfl) (by kernel_rfl) (fun _ _ _ h => h) (Or.inr ⟨by kernel_rfl, rfl⟩) (by assumption) ?_
            try simp only [Act.put, List.setIfInBounds_toArray, List.set_cons_zero, List.set_cons_succ]
            refine wpAnyH_take (i := 7) (oi := { dst := some 41, op := _, type := _, pos := _, after := _, guard := _ }) (v := undef) rfl (by kernel_rfl) (by kernel_rfl) (by kernel_rfl) (fun _ _ _ h => h) (Or.inr ⟨by kernel_rfl, rfl⟩) (by assumption) ?_
            try simp only [Act.put, List.setIfInBounds_toArray, List.set_cons_zero, List.set_cons_succ]
            refine wpAnyH_take (i := 8) (oi := { dst := some 42, op := _, type := _, pos := _, after := _, guard := _ }) (v := undef) rfl (by kernel_rfl) (by kernel_rfl) (by kernel_rfl) (fun _ _ _ h => h) (Or.inr ⟨by kernel_rfl, rfl⟩) (by assumption) ?_
            try simp only [Act.put, List.setIfInBounds_toArray, List.set_cons_zero, List.set_cons_succ]
            refine wpAnyH_take (i := 9) (oi := { dst := some 43, op := _, type := _, pos := _, after := _, guard := _ }) (v := undef) rfl (by kernel_rfl) (by kernel_rfl) (by kernel_rfl) (fun _ _ _ h => h) (Or.inr ⟨by kernel_rfl, rfl⟩) (by assumption) ?_
            try simp only [Act.put, List.setIfInBounds_toArray, List.set_cons_zero, List.set_cons_succ]
            refine wpAnyH_take (i := 10) (oi := { dst := some 44, op := _, type := _, pos := _, after := _, guard := _ }) (v := undef) rfl (by kernel_rfl) (by kernel_rfl) (by kernel_rfl) (fun _ _ _ h => h) (Or.inr ⟨by kernel_rfl, rfl⟩) (by assumption) ?_
            try simp only [Act.put, List.setIfInBounds_toArray, List.set_cons_zero, List.set_cons_succ]
            refine wpAnyH_take (i := 11) (oi := { dst := some 45, op := _, type := _, pos := _, after := _, guard := _ }) (v := undef) rfl (by kernel_rfl) (by kernel_rfl) (by kernel_rfl) (fun _ _ _ h => h) (Or.inr ⟨by kernel_rfl, rfl⟩) (by assumption) ?_
            try simp only [Act.put, List.setIfInBounds_toArray, List.set_cons_zero, List.set_cons_succ]
            refine wpAnyH_take (i := 12) (oi := { dst := some 46, op := _, type := _, pos := _, after := _, guard := _ }) (v := undef) rfl (by kernel_rfl) (by kernel_rfl) (by kernel_rfl) (fun _ _ _ h => h) (Or.inr ⟨by kernel_rfl, rfl⟩) (by assumption) ?_
            try simp only [Act.put, List.setIfInBounds_toArray, List.set_cons_zero, List.set_cons_succ]
            refine wpAnyH_take (i := 13) (oi := { dst := some 47, op := _, type := _, pos := _, after := _, guard := _ }) (v := undef) rfl (by kernel_rfl) (by kernel_rfl) (by kernel_rfl) (fun _ _ _ h => h) (Or.inr ⟨by kernel_rfl, rfl⟩) (by assumption) ?_
            try simp only [Act.put, List.setIfInBounds_toArray, List.set_cons_zero, List.set_cons_succ]
            refine wpAnyH_take (i := 14) (oi := { dst := some 48, op := _, type := _, pos := _, after := _, guard := _ }) (v := undef) rfl (by kernel_rfl) (by kernel_rfl) (by kernel_rfl) (fun _ _ _ h => h) (Or.inr ⟨by kernel_rfl, rfl⟩) (by assumption) ?_
            try simp only [Act.put, List.setIfInBounds_toArray, List.set_cons_zero, List.set_cons_succ]
            refine wpAnyH_take (i := 15) (oi := { dst := some 49, op := _, type := _, pos := _, after := _, guard := _ }) (v := ?_) rfl (by kernel_rfl) (by kernel_rfl) (by kernel_rfl) (fun _ _ _ h => h) (Or.inl ⟨by kernel_rfl, ?_⟩) (by assumption) ?_
            rotate_left
            · intro w hSw
              try dsimp only at hSw
              go_simp
              try with_reducible rfl
            try simp only [Act.put, List.setIfInBounds_toArray, List.set_cons_zero, List.set_cons_succ]
            refine wpAnyH_take (i := 16) (oi := { dst := some 8, op := _, type := _, pos := _, after := _, guard := _ }) (v := ?_) rfl (by kernel_rfl) (by kernel_rfl) (by kernel_rfl) (fun _ _ _ h => h) (Or.inl ⟨by kernel_rfl, ?_⟩) (by assumption) ?_
            rotate_left
            · intro w hSw
              try dsimp only at hSw
              go_simp
              try with_reducible rfl
            try simp only [Act.put, List.setIfInBounds_toArray, List.set_cons_zero, List.set_cons_succ]
            refine wpAnyH_done (by kernel_rfl) ?_ _
            clear hHeld
            go_wp2_with fail
            exact ⟨⟨j + 1, true, by omega, by go_num, rfl, Lib.hid (by rw [hF2.out, ← hF.out]; rfl), hv2.drew⟩, by simp [intOf]; omega⟩
        · have hq' : f = Lib.containsS (namG (es.take k)) x.what := by
            have h1 := hF.out
            rw [List.take_of_length_le (by rw [hR.out]; omega), any_contains] at h1
            exact h1
          have HQ := Lib.hid hq'
          clear hq' hF
          have k3 : wr.cell? ⟨g, 3, none⟩ = some (.slice (some ad) m c) := hB3.cell 3
          cases f
          · have hq := HQ.out.symm
            have HST := Lib.hid (hst.out.trans (by unfold namSt; rw [if_neg (by rw [hq]; decide)] : _ = namG (es.take k) ++ [x.what]))
            clear hq
            go_wp2_with (at_builtin; refine app_ownX _ _ rfl _ _ 53 9 rfl i0 _ 1 16 Tryd.underlying53 hi0 hz0 hz1 hz2 rfl (by omega) W.heap.size (.slice A' r c') r (flat scell (namG (es.take k))) rfl _ rfl rfl HO2.out rfl (by simp [Value.oneCell']) (by unfold maxLen; omega) (by omega) hv.size ?_; intro A2 c2 w2 hown2 hg2)
            refine ⟨⟨k + 1, r + 1, A2, c2, by omega, by omega, by go_num, rfl, Lib.hid (by rw [HST.out, List.length_append, hR.out]; rfl), by rw [HST.out, flat_append]; exact hown2, bl_grown hv hg2 (own_at HO2.out)⟩, by simp [intOf]; omega⟩
          · have hq := HQ.out.symm
            have HST := Lib.hid (hst.out.trans (by unfold namSt; rw [if_pos hq] : _ = namG (es.take k)))
            clear hq
            go_wp2_with fail
            exact ⟨⟨k + 1, r, A', c', by omega, by omega, by go_num, rfl, Lib.hid (by rw [HST.out]; exact hR.out), by rw [HST.out]; exact HO2.out, hv⟩, by simp [intOf]; omega⟩
    · have HV := Lib.hid (show namG es = namG (es.take k) by rw [List.take_of_length_le (by rw [hm.out]; omega)])
      go_wp2_with fail
      go_returns
      exact OutL.mk (own_base hownV hb.size) (by rw [HC.out, HV.out]; exact hR.out.symm) (by rw [HC.out, HV.out]) (by first | rfl | exact H0.out.symm) (bl_trans hb hv)

theorem eqStringS_same (A B : Option Addr) (xs : List ByteArray) (n c d : Nat) (hn : Hid (xs.length = n)) (hz : (n : Int) ≤ 9223372036854775807) (w : World) (hA : Arr w A (flat scell xs)) (hB : Arr w B (flat scell xs)) :
    Calls Tryd.prog 36 #[.slice A n c, .slice B n d] w (Ret (.bool true) w) := by
  have h := eqStringS_c A B xs xs n n c d hn hn hz w hA hB
  rwa [decide_eq_true rfl] at h

set_option maxRecDepth 100000 in
set_option maxHeartbeats 2000000 in
theorem FnExactNamesIn_law (s : ByteArray) (hm_s : s.size ≤ 9223372036854775807) (w : World) (hT : Tabs w) : Calls Tryd.prog 10 #[.string s] w (Ret (.bool true) w) := by
  have HT := Lib.hid hT
  clear hT
  by_cases hb_s : 1048576 < (s.size : Int)
  · go_enter Tryd.func10, Tryd.ntmps10
    go_wp2_with fail
    go_returns
    exact Ret.mk rfl (Below.refl _ _)
  have hd_s : decide (1048576 < (s.size : Int)) = false := decide_eq_false hb_s
  have hz_s : s.size ≤ 1048576 := by omega
  have hv := Below.refl w.heap.size w
  obtain ⟨l, hl⟩ : ∃ l, l = namV s := ⟨_, rfl⟩
  obtain ⟨co, hco⟩ : ∃ co, co = cdL s := ⟨_, rfl⟩
  have hlen : l.length ≤ 4000 := by rw [hl]; exact namV_len s
  obtain ⟨r, hr⟩ : ∃ r, r = l.length := ⟨_, rfl⟩
  have HW := fun (w : World) => SNamesIn_c s (by omega) w
  have HG' := fun (w : World) (ht : Tabs w) => NamesIn_c s (by omega) w ht
  rw [← hl, ← hco, ← hr] at HW HG'
  rw [← hr] at hlen
  have hr1 := Lib.hid hr.symm
  clear hl hco hr
  have hcc : (co != co) = false := by simp
  replace HW := Lib.hid HW
  replace HG' := Lib.hid HG'
  go_enter Tryd.func10, Tryd.ntmps10
  go_wp2_with fail
  refine (HW.out _).mono ?_
  rintro e W ⟨Aw, cw, rfl, how, hb⟩
  obtain ⟨lw, uw, h_own, z0, z1⟩ := Own.named how hb
  replace how := h_own
  clear h_own
  have z2 := Lib.hid hb.size
  replace hv := bl_trans hv hb
  clear hb
  go_wp2_with fail
  refine (HG'.out _ (HT.out.below hv)).mono ?_
  rintro e W ⟨Ag, cg, rfl, hog, hb⟩
  obtain ⟨lg, ug, h_own, z3, z4⟩ := Own.named hog hb
  replace hog := h_own
  clear h_own
  have z5 := Lib.hid hb.size
  replace hv := bl_trans hv hb
  replace how := how.below hb
  clear hb
  go_wp2_with fail
  refine (eqStringS_same Ag Aw l r cg cw hr1 (by omega) _ hog.arr how.arr).mono ?_
  rintro e W ⟨rfl, hb⟩
  have z6 := Lib.hid hb.size
  replace hv := bl_trans hv hb
  replace how := how.below hb
  replace hog := hog.below hb
  clear hb
  go_wp2_with fail
  refine (markStringS_c Ag r cg lg _ 1 (by omega) (by omega) (by omega) _ hog.1).mono ?_
  rintro e W ⟨rfl, hown, hg⟩
  have y0 := z0.out
  have y1 := z1.out
  have y2 := z2.out
  have y3 := z3.out
  have y4 := z4.out
  have y5 := z5.out
  have y6 := z6.out
  have hr := hog.row
  have l_how := how.2.1
  have l_hog := hog.2.1
  replace hv := bl_grown hv hg (fun k e => by have h1 := hr k e; omega)
  replace how := how.grown hg (fun k e => by have h1 := hr k e; omega)
  replace hog := hog.marked hg hown
  clear hg hown hr l_how l_hog
  clear y0 y1 y2 y3 y4 y5 y6
  go_wp2_with fail
  refine (heldStringS_c Ag r cg 1 (by omega) (by omega) (by omega) _ hog.arr).mono ?_
  rintro e W ⟨rfl, hb⟩
  have z7 := Lib.hid hb.size
  replace hv := bl_trans hv hb
  replace how := how.below hb
  replace hog := hog.below hb
  clear hb
  go_wp2_with fail
  refine (HG'.out _ (HT.out.below hv)).mono ?_
  rintro e W ⟨Ah, ch, rfl, hoh, hb⟩
  obtain ⟨lh, uh, h_own, z8, z9⟩ := Own.named hoh hb
  replace hoh := h_own
  clear h_own
  have z10 := Lib.hid hb.size
  replace hv := bl_trans hv hb
  replace how := how.below hb
  replace hog := hog.below hb
  clear hb
  go_wp2_with fail
  refine (eqStringS_same Ah Aw l r ch cw hr1 (by omega) _ hoh.arr how.arr).mono ?_
  rintro e W ⟨rfl, hb⟩
  have z11 := Lib.hid hb.size
  replace hv := bl_trans hv hb
  replace how := how.below hb
  replace hog := hog.below hb
  replace hoh := hoh.below hb
  clear hb
  go_wp2_with fail
  refine (heldStringS_c Ag r cg 1 (by omega) (by omega) (by omega) _ hog.arr).mono ?_
  rintro e W ⟨rfl, hb⟩
  have z12 := Lib.hid hb.size
  replace hv := bl_trans hv hb
  replace how := how.below hb
  replace hog := hog.below hb
  replace hoh := hoh.below hb
  clear hb
  go_wp2_with fail
  go_returns
  exact Ret.mk rfl hv

end Go.Proofs.YtbfelgfnebeliaaDoor
