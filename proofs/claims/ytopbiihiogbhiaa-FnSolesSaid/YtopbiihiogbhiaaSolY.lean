/- A sole as text. -/
import Derived.Test.YtopbiihiogbhiaaSolX
import Derived.Laws.Concat
namespace Go.Proofs.Ytopbiihiogbhiaa
open Go.RowKit

def nmOf (xs : List Stuff) (k : Int) : ByteArray := match xs[k.toNat]? with
  | some x => x.name
  | none => ⟨#[]⟩
def nmL (xs : List Stuff) (ps : List Int) : List ByteArray := ps.map (nmOf xs)
def SEP : List UInt8 := [32, 43, 32]
def joinB (L : List ByteArray) : ByteArray := ⟨(Lib.join (L.map (·.data.toList)) SEP).toArray⟩
def soleT (xs : List Stuff) (ps : List Int) : ByteArray := if soleB xs ps = true then joinB (nmL xs ps) else ⟨#[]⟩
theorem joinTail_snoc (sep : List UInt8) (r : List (List UInt8)) (y : List UInt8) : Lib.joinTail sep (r ++ [y]) = Lib.joinTail sep r ++ (sep ++ y) := by
  simp [Lib.joinTail]
theorem join_snoc {L : List ByteArray} (h : L ≠ []) (y : ByteArray) : joinB (L ++ [y]) = joinB L ++ ⟨#[32, 43, 32]⟩ ++ y := by
  cases L with
  | nil => exact absurd rfl h
  | cons x r =>
    apply ByteArray.ext
    apply Array.ext'
    unfold joinB
    simp only [List.map_append, List.map_cons, List.cons_append, List.map_nil, Lib.join_cons, joinTail_snoc, ByteArray.data_append, Array.toList_append]
    simp [SEP]
theorem join_single (y : ByteArray) : joinB [y] = y := by
  unfold joinB
  rw [List.map_cons, List.map_nil, Lib.join_one]
theorem nm_at {xs : List Stuff} {ps : List Int} {j kk : Nat} {x : Stuff} (h : ps[j]? = some (kk : Int)) (hx : xs[kk]? = some x) : (nmL xs ps)[j]? = some x.name := by
  unfold nmL nmOf
  rw [List.getElem?_map, h]
  simp only [Option.map_some, Int.toNat_natCast, hx]
theorem nm_size {xs : List Stuff} {ps : List Int} (h : soleB xs ps = true) : ∀ y ∈ nmL xs ps, y.size ≤ 12 := by
  intro y hy
  obtain ⟨p1, p2, p3, p4⟩ := sole_parts h
  unfold nmL at hy
  obtain ⟨k, hk, rfl⟩ := List.mem_map.1 hy
  unfold nmOf
  split
  · rename_i x hx
    have := (stuffs_ok p1).1 x (List.mem_of_getElem? hx)
    simp only [stuffOk, Bool.and_eq_true] at this
    have h1 := this.1.1.1.1
    by_cases hl : 12 < x.name.size
    · rw [nameB_long (.inl hl)] at h1; cases h1
    · omega
  · exact Nat.zero_le _
theorem join_size (L : List ByteArray) (h : ∀ y ∈ L, y.size ≤ 12) : (Lib.join (L.map (·.data.toList)) SEP).length ≤ 15 * L.length := by
  cases L with
  | nil => simp [Lib.join_nil]
  | cons x r =>
    rw [List.map_cons, Lib.join_cons, List.length_append]
    have key : ∀ r : List ByteArray, (∀ y ∈ r, y.size ≤ 12) → (Lib.joinTail SEP (r.map (·.data.toList))).length ≤ 15 * r.length := by
      intro r
      induction r with
      | nil => intro _; simp [Lib.joinTail]
      | cons y t ih =>
        intro hr
        have h1 := ih (fun z hz => hr z (by simp [hz]))
        have h2 := hr y (by simp)
        have e : y.data.toList.length = y.size := bytes_len y
        simp only [Lib.joinTail, List.map_cons, List.flatten_cons, List.length_append, List.length_cons] at h1 ⊢
        have e3 : SEP.length = 3 := rfl
        omega
    have h1 := key r (fun y hy => h y (by simp [hy]))
    have h2 := h x (by simp)
    have e : x.data.toList.length = x.size := bytes_len x
    rw [List.length_cons]
    omega
theorem infoStrY : (Try.prog.info? 9).map (fun i => (i.zero, i.size, i.bytes)) = some (some (.string ByteArray.empty), 1, 16) := by kernel_rfl
set_option maxRecDepth 100000 in
set_option maxHeartbeats 2000000 in
theorem SoleText_c (A : Option Addr) (xs : List Stuff) (n c : Nat) (hn : Hid (xs.length = n)) (hm : (n : Int) ≤ 1048576) (hs : Hid (∀ x ∈ xs, x.name.size ≤ 9223372036854775807)) (hnc : (n : Int) ≤ c) (B : Option Addr) (ps : List Int) (m d : Nat) (hp : Hid (ps.length = m)) (hm' : (m : Int) ≤ 1048576) (w : World) (hA : Arr w A (flat Stuff.cells xs)) (hB : Arr w B (flat icell ps)) :
    Calls Try.prog 24 #[.slice A n c, .agg #[.slice B m d]] w (Ret (.string (soleT xs ps)) w) := by
  obtain ⟨i0, hi0', hz0, hz1, hz2⟩ := info_parts (P := Try.prog) (e := 9) (z := .string ByteArray.empty) (size := 1) (bytes := 16) infoStrY
  go_enter Try.func24, Try.ntmps24
  go_wp2_with fail
  refine (ValidSole_c A xs n c hn hm hs hnc B ps m d hp hm' _ (hA.alloc _) (hB.alloc _)).mono ?_
  rintro e W ⟨rfl, hb⟩
  have hv0 : Below w.heap.size w W := bl_trans (bl_alloc (Below.refl _ _) _) hb
  have hX := (Blk.new w 27 #[Value.slice B m d]).below hb
  have k0 : ∀ O, (W.alloc O).cell? ⟨w.heap.size, 0, none⟩ = some (.slice B m d) := fun O => (hX.alloc O).cell 0
  cases hso : soleB xs ps
  · have e1 : soleT xs ps = ⟨#[]⟩ := by unfold soleT; rw [hso]; rfl
    have HE := Lib.hid e1
    clear hso e1
    go_wp2_with fail
    go_returns
    exact Ret.mk (vs HE.out.symm) hv0
  have e1 : soleT xs ps = joinB (nmL xs ps) := by unfold soleT; rw [hso]; rfl
  have HE := Lib.hid e1
  have HS := Lib.hid hso
  have hm6 : m ≤ 6 := by have := (sole_parts hso).2.2.1; have := hp.out; omega
  have hm1 : 0 < m := by have := (sole_parts hso).2.1; have := hp.out; omega
  have HNL := Lib.hid (show (nmL xs ps).length = m by unfold nmL; rw [List.length_map]; exact hp.out)
  clear hso e1
  go_wp2_with fail
  clear k0
  have hO0 := own_empty W w.heap.size 9 1 hv0.size
  have hv1 := bl_alloc hv0 (.cells #[] 9)
  go_loopw [5, 16] (fun v i wr => ∃ (j : Nat) (A' : Option Addr) (c' : Nat), i = .int .i64 j ∧ v = .slice A' j c' ∧ j ≤ m ∧ Hid (wr.ownsRow w.heap.size 9 1 (.slice A' j c') j (flat scell ((nmL xs ps).take j))) ∧ Below w.heap.size w wr) (fun _ i _ => m - (intOf i).toNat)
  case atStart => exact ⟨0, _, _, rfl, rfl, by omega, Lib.hid hO0, hv1⟩
  case round =>
    clear hO0 hv1
    obtain ⟨j, A', c', rfl, rfl, hj, HO, hv⟩ := hrel
    by_cases hlt : j < m
    · skip
      obtain ⟨k, hkj⟩ := get_of_lt (xs := ps) (k := j) (by rw [hp.out]; exact hlt)
      obtain ⟨bd, hbd, hbb, d0⟩ := icell_at (hB.below hv) hkj
      subst hbd
      obtain ⟨hk0, hk1⟩ := (sole_parts HS.out).2.2.2 k (List.mem_of_getElem? hkj)
      obtain ⟨kk, rfl⟩ := Int.eq_ofNat_of_zero_le hk0
      rw [hn.out] at hk1
      obtain ⟨x, hx⟩ := get_of_lt (xs := xs) (k := kk) (by rw [hn.out]; omega)
      obtain ⟨ad, rfl, hab, c0, c1, c2, c3, c4⟩ := Stuff.at_ (hA.below hv) hx
      have HNM := Lib.hid (nm_at hkj hx)
      have hxz : x.name.size ≤ 12 := nm_size HS.out _ (List.mem_of_getElem? HNM.out)
      have hi0 : (0 : Int) ≤ (j : Int) := by omega
      have hi1 : (j : Int) < (m : Int) := by omega
      clear hkj hx
      go_wp2_with (at_builtin; refine app_own wr #[.string x.name] rfl _ _ 79 9 rfl i0 _ 1 16 Try.underlying79 hi0' hz0 hz1 hz2 rfl (by omega) w.heap.size (.slice A' j c') j _ rfl rfl HO.out rfl (by simp [Value.oneCell']) (by unfold maxLen; omega) (by omega) hv.size ?_; intro A2 c2 w2 hown2 hg3)
      have hr := own_at HO.out
      have e9 : flat scell ((nmL xs ps).take (j + 1)) = flat scell ((nmL xs ps).take j) ++ #[Value.string x.name].toList := by rw [take_at HNM.out]; simp [flat, scell]
      exact ⟨⟨j + 1, A2, c2, by go_num, rfl, by omega, Lib.hid (by rw [e9]; exact hown2), bl_grown hv hg3 hr⟩, by simp [intOf]; omega⟩
    · have hjm : j = m := by omega
      subst hjm
      obtain ⟨gO, rfl⟩ := own_addr HO.out hm1
      have hgl := own_lt HO.out gO rfl
      have htk : (nmL xs ps).take j = nmL xs ps := List.take_of_length_le (by rw [HNL.out]; exact Nat.le_refl _)
      rw [htk] at HO
      have hcap : j ≤ c' := by obtain ⟨_, _, e, h, _⟩ := own_form HO.out; injection e with _ _ e3; omega
      have hjn := Try.strings_Join gO 0 c' (nmL xs ps) ⟨#[32, 43, 32]⟩ wr (fun i y hy => by
        have hi : i < (nmL xs ps).length := (List.getElem?_eq_some_iff.1 hy).1
        have h0 := HO.out.cellAt i (by rw [Nat.mul_one, ← HNL.out]; exact hi)
        rw [Nat.zero_add, h0]
        have := flat_get (f := scell) (s := 1) (fun _ => rfl) (nmL xs ps) i 0 y hy (by omega)
        rw [Nat.mul_one, Nat.add_zero] at this
        exact this) hgl (by rw [HNL.out]; omega) (by rw [HNL.out]; exact hcap) (by have := join_size _ (nm_size HS.out); rw [HNL.out] at this; unfold SEP at this; exact Nat.le_trans this (by omega))
      rw [HNL.out] at hjn
      have HJ := Lib.hid hjn
      clear hjn htk
      go_wp2_with fail
      refine HJ.out.mono ?_
      rintro e W3 ⟨rfl, hb3⟩
      go_wp2_with fail
      go_returns
      exact Ret.mk (vs HE.out.symm) (bl_trans hv hb3)
set_option maxRecDepth 100000 in
set_option maxHeartbeats 2000000 in
theorem SSoleText_c (A : Option Addr) (xs : List Stuff) (n c : Nat) (hn : Hid (xs.length = n)) (hm : (n : Int) ≤ 1048576) (hs : Hid (∀ x ∈ xs, x.name.size ≤ 9223372036854775807)) (B : Option Addr) (ps : List Int) (m d : Nat) (hp : Hid (ps.length = m)) (hm' : (m : Int) ≤ 1048576) (w : World) (hA : Arr w A (flat Stuff.cells xs)) (hB : Arr w B (flat icell ps)) :
    Calls Try.prog 25 #[.slice A n c, .agg #[.slice B m d]] w (Ret (.string (soleT xs ps)) w) := by
  go_enter Try.func25, Try.ntmps25
  go_wp2_with fail
  refine (l17Sole_c A xs n c hn hm hs w.heap.size B ps m d hp hm' _ (Blk.new _ _ _) (hA.alloc _) (hB.alloc _)).mono ?_
  rintro e W ⟨rfl, hb⟩
  have hv0 : Below w.heap.size w W := bl_trans (bl_alloc (Below.refl _ _) _) hb
  have hX := (Blk.new w 27 #[Value.slice B m d]).below hb
  obtain ⟨g0, hg0⟩ : ∃ z, z = w.heap.size := ⟨_, rfl⟩
  rw [← hg0] at hX ⊢
  have HX := Lib.hid hX
  clear hg0 hX
  cases hso : soleB xs ps
  · have e1 : soleT xs ps = ⟨#[]⟩ := by unfold soleT; rw [hso]; rfl
    have HE := Lib.hid e1
    clear hso e1
    go_wp2_with fail
    go_returns
    exact Ret.mk (vs HE.out.symm) hv0
  have e1 : soleT xs ps = joinB (nmL xs ps) := by unfold soleT; rw [hso]; rfl
  have HE := Lib.hid e1
  have HS := Lib.hid hso
  have hm6 : m ≤ 6 := by have := (sole_parts hso).2.2.1; have := hp.out; omega
  have hm1 : 0 < m := by have := (sole_parts hso).2.1; have := hp.out; omega
  have HNL := Lib.hid (show (nmL xs ps).length = m by unfold nmL; rw [List.length_map]; exact hp.out)
  clear hso e1
  go_wp2_with fail
  go_loopw [5, 6] (fun v i wr => ∃ (j : Nat) (t : ByteArray), i = .int .i64 j ∧ v = .string t ∧ j ≤ m ∧ t.size ≤ 15 * j ∧ Hid (t = joinB ((nmL xs ps).take j)) ∧ Hid (Blk wr g0 27 #[Value.slice B m d]) ∧ Below w.heap.size w wr) (fun _ i _ => m - (intOf i).toNat)
  case atStart => exact ⟨0, ⟨#[]⟩, rfl, rfl, by omega, Nat.zero_le _, Lib.hid rfl, HX, hv0⟩
  case round =>
    clear HX hv0
    obtain ⟨j, t, rfl, rfl, hj, htz, HT, HX, hv⟩ := hrel
    have k0 : wr.cell? ⟨g0, 0, none⟩ = some (.slice B m d) := HX.out.cell 0
    by_cases hlt : j < m
    · skip
      obtain ⟨k, hkj⟩ := get_of_lt (xs := ps) (k := j) (by rw [hp.out]; exact hlt)
      obtain ⟨bd, hbd, hbb, d0⟩ := icell_at (hB.below hv) hkj
      subst hbd
      obtain ⟨hk0, hk1⟩ := (sole_parts HS.out).2.2.2 k (List.mem_of_getElem? hkj)
      obtain ⟨kk, rfl⟩ := Int.eq_ofNat_of_zero_le hk0
      rw [hn.out] at hk1
      obtain ⟨x, hx⟩ := get_of_lt (xs := xs) (k := kk) (by rw [hn.out]; omega)
      obtain ⟨ad, rfl, hab, c0, c1, c2, c3, c4⟩ := Stuff.at_ (hA.below hv) hx
      have HNM := Lib.hid (nm_at hkj hx)
      have hxz : x.name.size ≤ 12 := nm_size HS.out _ (List.mem_of_getElem? HNM.out)
      have hi0 : (0 : Int) ≤ (j : Int) := by omega
      have hi1 : (j : Int) < (m : Int) := by omega
      clear hkj hx
      by_cases hj0 : j = 0
      · have hj1 : ¬ (0 : Int) < (j : Int) := by omega
        have hadd := fun (w : World) => run_string_add_sum (P := Try.prog) w t x.name (by omega)
        have ht : t = ⟨#[]⟩ := by rw [HT.out, hj0, List.take_zero]; rfl
        have e9 : t ++ x.name = joinB ((nmL xs ps).take (j + 1)) := by
          rw [take_at HNM.out, ht, hj0, List.take_zero, List.nil_append, join_single]
          apply ByteArray.ext
          simp
        have H9 := Lib.hid e9
        have hz9 : (t ++ x.name).size ≤ 15 * (j + 1) := by rw [ByteArray.size_append']; omega
        clear e9 ht hj0
        go_wp2_with fail
        exact ⟨⟨j + 1, t ++ x.name, by go_num, rfl, by omega, hz9, H9, HX, hv⟩, by simp [intOf]; omega⟩
      · have hj1 : (0 : Int) < (j : Int) := by omega
        have hz8 : (t ++ ⟨#[32, 43, 32]⟩).size ≤ 15 * j + 3 := by rw [ByteArray.size_append']; have : (ByteArray.mk #[32, 43, 32]).size = 3 := rfl; omega
        have hadd := fun (w : World) => run_string_add_sum (P := Try.prog) w t ⟨#[32, 43, 32]⟩ (by have : (ByteArray.mk #[32, 43, 32]).size = 3 := rfl; omega)
        have hadd2 := fun (w : World) => run_string_add_sum (P := Try.prog) w (t ++ ⟨#[32, 43, 32]⟩) x.name (by omega)
        have e9 : t ++ ⟨#[32, 43, 32]⟩ ++ x.name = joinB ((nmL xs ps).take (j + 1)) := by
          rw [take_at HNM.out, join_snoc (by
            intro h
            have h1 := congrArg List.length h
            rw [List.length_take, HNL.out] at h1
            simp at h1
            omega), ← HT.out]
        have H9 := Lib.hid e9
        have hz9 : (t ++ ⟨#[32, 43, 32]⟩ ++ x.name).size ≤ 15 * (j + 1) := by rw [ByteArray.size_append']; omega
        clear e9
        go_wp2_with fail
        exact ⟨⟨j + 1, t ++ ⟨#[32, 43, 32]⟩ ++ x.name, by go_num, rfl, by omega, hz9, H9, HX, hv⟩, by simp [intOf]; omega⟩
    · have hjm : j = m := by omega
      subst hjm
      have htk : (nmL xs ps).take j = nmL xs ps := List.take_of_length_le (by rw [HNL.out]; exact Nat.le_refl _)
      rw [htk] at HT
      clear htk
      go_wp2_with fail
      go_returns
      exact Ret.mk (vs (HT.out.trans HE.out.symm)) hv
end Go.Proofs.Ytopbiihiogbhiaa
