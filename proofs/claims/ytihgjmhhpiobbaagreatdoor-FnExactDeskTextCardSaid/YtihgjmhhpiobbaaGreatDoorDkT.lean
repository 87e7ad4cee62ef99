/- A state of the console as text, both sides. -/
import Derived.Test.YtihgjmhhpiobbaaGreatDoorDkV
import Derived.Test.YtihgjmhhpiobbaaGreatDoorDecI
import Derived.Laws.Concat
namespace Go.Proofs.YtihgjmhhpiobbaaGreatDoor
open Go.RowKit

def joinW (sep : ByteArray) (L : List ByteArray) : ByteArray := ⟨(Lib.join (L.map (·.data.toList)) sep.data.toList).toArray⟩
theorem joinW_size (sep : ByteArray) (hs : sep.size ≤ 4) (L : List ByteArray) (h : ∀ y ∈ L, y.size ≤ 21) : (Lib.join (L.map (·.data.toList)) sep.data.toList).length ≤ 25 * L.length := by
  cases L with
  | nil => simp [Lib.join_nil]
  | cons x r =>
    have es : sep.data.toList.length = sep.size := bytes_len sep
    rw [List.map_cons, Lib.join_cons, List.length_append]
    have key : ∀ r : List ByteArray, (∀ y ∈ r, y.size ≤ 21) → (Lib.joinTail sep.data.toList (r.map (·.data.toList))).length ≤ 25 * r.length := by
      intro r
      induction r with
      | nil => intro _; simp [Lib.joinTail]
      | cons y t ih =>
        intro hr
        have h1 := ih (fun z hz => hr z (by simp [hz]))
        have h2 := hr y (by simp)
        have e : y.data.toList.length = y.size := bytes_len y
        simp only [Lib.joinTail, List.map_cons, List.flatten_cons, List.length_append, List.length_cons] at h1 ⊢
        omega
    have h1 := key r (fun y hy => h y (by simp [hy]))
    have h2 := h x (by simp)
    have e : x.data.toList.length = x.size := bytes_len x
    rw [List.length_cons]
    omega
theorem infoStrT : (Tryz.prog.info? 9).map (fun i => (i.zero, i.size, i.bytes)) = some (some (.string ByteArray.empty), 1, 16) := by kernel_rfl
def decL (ps : List Int) : List ByteArray := ps.map decI
theorem decL_at {ps : List Int} {j : Nat} {k : Int} (h : ps[j]? = some k) : (decL ps)[j]? = some (decI k) := by unfold decL; rw [List.getElem?_map, h]; rfl
set_option maxRecDepth 100000 in
set_option maxHeartbeats 2000000 in
theorem numbersText_c (sp : ByteArray) (hsp : sp.size ≤ 4) (B : Option Addr) (ps : List Int) (m d : Nat) (hp : Hid (ps.length = m)) (hm0 : 0 < m) (hm' : m ≤ 1000) (hb : Hid (∀ k ∈ ps, -1000000000 ≤ k ∧ k ≤ 1000000000)) (w : World) (hB : Arr w B (flat icell ps)) (hT : Tabs w) :
    Calls Tryz.prog 62 #[.string sp, .slice B m d] w (Ret (.string (joinW sp (decL ps))) w) := by
  obtain ⟨i0, hi0', hz0, hz1, hz2⟩ := info_parts (P := Tryz.prog) (e := 9) (z := .string ByteArray.empty) (size := 1) (bytes := 16) infoStrT
  have HT := Lib.hid hT
  have HBB := Lib.hid hB
  have HNL := Lib.hid (show (decL ps).length = m by unfold decL; rw [List.length_map]; exact hp.out)
  have HSZ := Lib.hid (show ∀ y ∈ decL ps, y.size ≤ 21 by
    intro y hy
    unfold decL at hy
    obtain ⟨k, hk, rfl⟩ := List.mem_map.1 hy
    have := hb.out k hk
    exact dec21 (by omega) (by omega))
  clear hT hB
  go_enter Tryz.func62, Tryz.ntmps62
  go_wp2_with fail
  have hO0 := own_empty w w.heap.size 9 1 (Nat.le_refl _)
  have hv1 := bl_alloc (Below.refl w.heap.size w) (.cells #[] 9)
  go_loopw [5, 11] (fun v i wr => ∃ (j : Nat) (A' : Option Addr) (c' : Nat), i = .int .i64 j ∧ v = .slice A' j c' ∧ j ≤ m ∧ Hid (wr.ownsRow w.heap.size 9 1 (.slice A' j c') j (flat scell ((decL ps).take j))) ∧ Below w.heap.size w wr) (fun _ i _ => m - (intOf i).toNat)
  case atStart => exact ⟨0, _, _, rfl, rfl, by omega, Lib.hid hO0, hv1⟩
  case round =>
    clear hO0 hv1
    obtain ⟨j, A', c', rfl, rfl, hj, HO, hv⟩ := hrel
    have hi0 : (0 : Int) ≤ (j : Int) := by omega
    by_cases hlt : j < m
    · obtain ⟨k, hkj⟩ := get_of_lt (xs := ps) (k := j) (by rw [hp.out]; exact hlt)
      obtain ⟨bd, hbd, hbb, d0⟩ := icell_at (HBB.out.below hv) hkj
      subst hbd
      obtain ⟨hk0, hk1⟩ := hb.out k (List.mem_of_getElem? hkj)
      have HNM := Lib.hid (decL_at hkj)
      have HDC := fun w h => DecimalI_c k (by omega) (by omega) w h
      obtain ⟨t, ht⟩ : ∃ z, z = decI k := ⟨_, rfl⟩
      rw [← ht] at HDC HNM
      replace HDC := Lib.hid HDC
      have hi1 : (j : Int) < (m : Int) := by omega
      clear hkj ht
      go_wp2_with fail
      refine (HDC.out _ (HT.out.pow.below hv)).mono ?_
      rintro e W2 ⟨rfl, hb9⟩
      replace hv := bl_trans hv hb9
      replace HO := Lib.hid (own_below HO.out hb9)
      clear hb9 HDC d0
      go_wp2_with (at_builtin; refine app_own W2 #[.string t] rfl _ _ 51 9 rfl i0 _ 1 16 Tryz.underlying51 hi0' hz0 hz1 hz2 rfl (by omega) w.heap.size (.slice A' j c') j _ rfl rfl HO.out rfl (by simp [Value.oneCell']) (by unfold maxLen; omega) (by omega) hv.size ?_; intro A2 c2 w2 hown2 hg3)
      have hr := own_at HO.out
      have e9 : flat scell ((decL ps).take (j + 1)) = flat scell ((decL ps).take j) ++ #[Value.string t].toList := by rw [take_at HNM.out]; simp [flat, scell]
      exact ⟨⟨j + 1, A2, c2, by go_num, rfl, by omega, Lib.hid (by rw [e9]; exact hown2), bl_grown hv hg3 hr⟩, by simp [intOf]; omega⟩
    · have hjm : j = m := by omega
      subst hjm
      have hi1 : ¬ (j : Int) < (j : Int) := by omega
      obtain ⟨gO, rfl⟩ := own_addr HO.out hm0
      have hgl := own_lt HO.out gO rfl
      have htk : (decL ps).take j = decL ps := List.take_of_length_le (by rw [HNL.out]; exact Nat.le_refl _)
      rw [htk] at HO
      have hcap : j ≤ c' := by obtain ⟨_, _, e, h, _⟩ := own_form HO.out; injection e with _ _ e3; omega
      have hjn := Tryz.strings_Join gO 0 c' (decL ps) sp wr (fun i y hy => by
        have hi : i < (decL ps).length := (List.getElem?_eq_some_iff.1 hy).1
        have h0 := HO.out.cellAt i (by rw [Nat.mul_one, ← HNL.out]; exact hi)
        rw [Nat.zero_add, h0]
        have := flat_get (f := scell) (s := 1) (fun _ => rfl) (decL ps) i 0 y hy (by omega)
        rw [Nat.mul_one, Nat.add_zero] at this
        exact this) hgl (by rw [HNL.out]; omega) (by rw [HNL.out]; exact hcap) (by have := joinW_size sp hsp _ HSZ.out; rw [HNL.out] at this; exact Nat.le_trans this (by omega))
      rw [HNL.out] at hjn
      have HJ := Lib.hid hjn
      clear hjn htk
      go_wp2_with fail
      refine HJ.out.mono ?_
      rintro e W3 ⟨rfl, hb3⟩
      go_wp2_with fail
      go_returns
      exact Ret.mk rfl (bl_trans hv hb3)
def slB : ByteArray := ⟨#[47]⟩
def footT (f : Foot) : ByteArray := (((((decI f.length ++ ⟨#[47]⟩) ++ decI f.ball) ++ ⟨#[47]⟩) ++ decI f.instep) ++ ⟨#[47]⟩) ++ decI f.heel
theorem foot_join (f : Foot) : joinW ⟨#[47]⟩ (decL [f.length, f.ball, f.instep, f.heel]) = footT f := by
  apply ByteArray.ext
  apply Array.ext'
  unfold joinW footT decL
  simp only [List.map_cons, List.map_nil, Lib.join_cons, Lib.joinTail, bappS, List.flatten_cons, List.flatten_nil]
  simp
theorem foot_bd {f : Foot} (h : footB f = true) : (500 ≤ f.length ∧ f.length ≤ 5000) ∧ (500 ≤ f.ball ∧ f.ball ≤ 5000) ∧ (500 ≤ f.instep ∧ f.instep ≤ 5000) ∧ (500 ≤ f.heel ∧ f.heel ≤ 5000) := by
  unfold footB at h
  simp only [Bool.and_eq_true, inB_iff] at h
  exact ⟨h.1.1.1, h.1.1.2, h.1.2, h.2⟩
theorem footT_size {f : Foot} (h : footB f = true) : (footT f).size ≤ 87 := by
  obtain ⟨h1, h2, h3, h4⟩ := foot_bd h
  have e1 := dec21 (v := f.length) (by omega) (by omega)
  have e2 := dec21 (v := f.ball) (by omega) (by omega)
  have e3 := dec21 (v := f.instep) (by omega) (by omega)
  have e4 := dec21 (v := f.heel) (by omega) (by omega)
  have l : (⟨#[47]⟩ : ByteArray).size = 1 := rfl
  unfold footT
  simp only [app_size]
  omega
set_option maxHeartbeats 1000000 in
theorem FootText_c (f : Foot) (hf : Hid (footB f = true)) (w : World) (hT : Tabs w) : Calls Tryz.prog 36 #[.agg #[.int .i64 f.length, .int .i64 f.ball, .int .i64 f.instep, .int .i64 f.heel]] w (Ret (.string (footT f)) w) := by
  have HT := Lib.hid hT
  clear hT
  have HV := fun w => ValidFoot_c f w
  rw [hf.out] at HV
  replace HV := Lib.hid HV
  have HNT := Lib.hid (fun g w h t => numbersText_c ⟨#[47]⟩ (by decide) (some ⟨g, 0, none⟩) [f.length, f.ball, f.instep, f.heel] 4 4 (Lib.hid rfl) (by omega) (by omega) (Lib.hid (by
    obtain ⟨h1, h2, h3, h4⟩ := foot_bd hf.out
    intro k hk
    simp only [List.mem_cons, List.not_mem_nil, or_false] at hk
    rcases hk with rfl | rfl | rfl | rfl <;> omega)) w h t)
  have HJ := Lib.hid (foot_join f)
  obtain ⟨W, hW⟩ : ∃ W, W = w.alloc (Obj.cells #[Value.int IntKind.i64 f.length, Value.int IntKind.i64 f.ball, Value.int IntKind.i64 f.instep, Value.int IntKind.i64 f.heel] 31) := ⟨_, rfl⟩
  obtain ⟨g, hg⟩ : ∃ g, g = w.heap.size := ⟨_, rfl⟩
  have hv : Below w.heap.size w W := by rw [hW]; exact bl_alloc (Below.refl _ _) _
  have hB : Hid (Blk W g 31 #[Value.int IntKind.i64 f.length, Value.int IntKind.i64 f.ball, Value.int IntKind.i64 f.instep, Value.int IntKind.i64 f.heel]) := Lib.hid (by rw [hW, hg]; exact Blk.new _ _ _)
  have HW := Lib.hid hW
  have HG := Lib.hid hg
  clear hW hg
  have k0 : W.cell? ⟨g, 0, none⟩ = some (.int .i64 f.length) := hB.out.cell 0
  have k1 : W.cell? ⟨g, 1, none⟩ = some (.int .i64 f.ball) := hB.out.cell 1
  have k2 : W.cell? ⟨g, 2, none⟩ = some (.int .i64 f.instep) := hB.out.cell 2
  have k3 : W.cell? ⟨g, 3, none⟩ = some (.int .i64 f.heel) := hB.out.cell 3
  go_enter Tryz.func36, Tryz.ntmps36
  go_upto_region 1 with fail
  rw [← HW.out, ← HG.out]
  clear HW HG
  go_wp2_with fail
  refine (HV.out _).mono ?_
  rintro e W1 ⟨rfl, hb⟩
  replace hv := bl_trans hv hb
  replace hB := Lib.hid (hB.out.below hb)
  clear hb HV
  replace k0 : W1.cell? ⟨g, 0, none⟩ = some (.int .i64 f.length) := hB.out.cell 0
  replace k1 : W1.cell? ⟨g, 1, none⟩ = some (.int .i64 f.ball) := hB.out.cell 1
  replace k2 : W1.cell? ⟨g, 2, none⟩ = some (.int .i64 f.instep) := hB.out.cell 2
  replace k3 : W1.cell? ⟨g, 3, none⟩ = some (.int .i64 f.heel) := hB.out.cell 3
  go_wp2_with fail
  refine (measures_c f _).mono ?_
  rintro e W2 ⟨gm, rfl, hM, hb⟩
  replace hv := bl_trans hv hb
  clear hb
  go_wp2_with fail
  refine (HNT.out gm _ (arr_blkO hM) (HT.out.below hv)).mono ?_
  rintro e W3 ⟨rfl, hb⟩
  replace hv := bl_trans hv hb
  go_wp2_with fail
  go_returns
  exact Ret.mk (vs HJ.out) hv
set_option maxRecDepth 100000 in
set_option maxHeartbeats 4000000 in
theorem l02Text_c (f : Foot) (hf : Hid (footB f = true)) (w : World) : Calls Tryz.prog 60 #[.agg #[.int .i64 f.length, .int .i64 f.ball, .int .i64 f.instep, .int .i64 f.heel]] w (Ret (.string (footT f)) w) := by
  obtain ⟨h1, h2, h3, h4⟩ := foot_bd hf.out
  have hP : footT f = (((((decI f.length ++ ⟨#[47]⟩) ++ decI f.ball) ++ ⟨#[47]⟩) ++ decI f.instep) ++ ⟨#[47]⟩) ++ decI f.heel := rfl
  have l : (⟨#[47]⟩ : ByteArray).size = 1 := rfl
  have D1 := fun w => l01DecI_c f.length (by omega) (by omega) w
  have y1 := dec21 (v := f.length) (by omega) (by omega)
  obtain ⟨d1, e1⟩ : ∃ z, z = decI f.length := ⟨_, rfl⟩
  rw [← e1] at D1 y1 hP
  replace D1 := Lib.hid D1
  clear e1
  have D2 := fun w => l01DecI_c f.ball (by omega) (by omega) w
  have y2 := dec21 (v := f.ball) (by omega) (by omega)
  obtain ⟨d2, e2⟩ : ∃ z, z = decI f.ball := ⟨_, rfl⟩
  rw [← e2] at D2 y2 hP
  replace D2 := Lib.hid D2
  clear e2
  have D3 := fun w => l01DecI_c f.instep (by omega) (by omega) w
  have y3 := dec21 (v := f.instep) (by omega) (by omega)
  obtain ⟨d3, e3⟩ : ∃ z, z = decI f.instep := ⟨_, rfl⟩
  rw [← e3] at D3 y3 hP
  replace D3 := Lib.hid D3
  clear e3
  have D4 := fun w => l01DecI_c f.heel (by omega) (by omega) w
  have y4 := dec21 (v := f.heel) (by omega) (by omega)
  obtain ⟨d4, e4⟩ : ∃ z, z = decI f.heel := ⟨_, rfl⟩
  rw [← e4] at D4 y4 hP
  replace D4 := Lib.hid D4
  clear e4
  have HP := Lib.hid hP
  clear hP h1 h2 h3 h4 hf
  have a0 := fun (w : World) => run_string_add_sum (P := Tryz.prog) w d1 (⟨#[47]⟩ : ByteArray) (by (try simp only [app_size]); omega)
  have a1 := fun (w : World) => run_string_add_sum (P := Tryz.prog) w (d1 ++ (⟨#[47]⟩ : ByteArray)) d2 (by (try simp only [app_size]); omega)
  have a2 := fun (w : World) => run_string_add_sum (P := Tryz.prog) w ((d1 ++ (⟨#[47]⟩ : ByteArray)) ++ d2) (⟨#[47]⟩ : ByteArray) (by (try simp only [app_size]); omega)
  have a3 := fun (w : World) => run_string_add_sum (P := Tryz.prog) w (((d1 ++ (⟨#[47]⟩ : ByteArray)) ++ d2) ++ (⟨#[47]⟩ : ByteArray)) d3 (by (try simp only [app_size]); omega)
  have a4 := fun (w : World) => run_string_add_sum (P := Tryz.prog) w ((((d1 ++ (⟨#[47]⟩ : ByteArray)) ++ d2) ++ (⟨#[47]⟩ : ByteArray)) ++ d3) (⟨#[47]⟩ : ByteArray) (by (try simp only [app_size]); omega)
  have a5 := fun (w : World) => run_string_add_sum (P := Tryz.prog) w (((((d1 ++ (⟨#[47]⟩ : ByteArray)) ++ d2) ++ (⟨#[47]⟩ : ByteArray)) ++ d3) ++ (⟨#[47]⟩ : ByteArray)) d4 (by (try simp only [app_size]); omega)
  obtain ⟨W, hW⟩ : ∃ W, W = w.alloc (Obj.cells #[Value.int IntKind.i64 f.length, Value.int IntKind.i64 f.ball, Value.int IntKind.i64 f.instep, Value.int IntKind.i64 f.heel] 31) := ⟨_, rfl⟩
  obtain ⟨g, hg⟩ : ∃ g, g = w.heap.size := ⟨_, rfl⟩
  have hv : Below w.heap.size w W := by rw [hW]; exact bl_alloc (Below.refl _ _) _
  have hB : Blk W g 31 #[Value.int IntKind.i64 f.length, Value.int IntKind.i64 f.ball, Value.int IntKind.i64 f.instep, Value.int IntKind.i64 f.heel] := by rw [hW, hg]; exact Blk.new _ _ _
  have HW := Lib.hid hW
  have HG := Lib.hid hg
  clear hW hg
  have k0 : W.cell? ⟨g, 0, none⟩ = some (Value.int IntKind.i64 f.length) := hB.cell 0
  have k1 : W.cell? ⟨g, 1, none⟩ = some (Value.int IntKind.i64 f.ball) := hB.cell 1
  have k2 : W.cell? ⟨g, 2, none⟩ = some (Value.int IntKind.i64 f.instep) := hB.cell 2
  have k3 : W.cell? ⟨g, 3, none⟩ = some (Value.int IntKind.i64 f.heel) := hB.cell 3
  clear hB
  go_enter Tryz.func60, Tryz.ntmps60
  go_upto_region 1 with fail
  rw [← HW.out, ← HG.out]
  clear HW HG y1 y2 y3 y4 l
  refine wp_region_held_drew (S := fun w' => Below W.heap.size W w' ∧ True) (by as_aux_lemma => kernel_rfl) ?_ (fun hHeld => ?_)
  · exact ⟨(Below.refl _ _).drew, trivial⟩
  have hd9 := hHeld.1
  refine wpAnyH_take (i := 0) (oi := { dst := some 3, op := _, type := _, pos := _, after := _, guard := _ }) (v := ?_) rfl (by as_aux_lemma => kernel_rfl) (by as_aux_lemma => kernel_rfl) (by as_aux_lemma => kernel_rfl) (fun _ _ _ h => h) (Or.inl ⟨by as_aux_lemma => kernel_rfl, ?_⟩) (by assumption) ?_
  rotate_left
  · intro w hSw
    try dsimp only at hSw
    go_simp
    try with_reducible rfl
  try simp only [Act.put, List.setIfInBounds_toArray, List.set_cons_zero, List.set_cons_succ]
  refine wpAnyH_take (i := 1) (oi := { dst := some 4, op := _, type := _, pos := _, after := _, guard := _ }) (v := ?_) rfl (by as_aux_lemma => kernel_rfl) (by as_aux_lemma => kernel_rfl) (by as_aux_lemma => kernel_rfl) (fun _ _ _ h => h) (Or.inl ⟨by as_aux_lemma => kernel_rfl, ?_⟩) (by assumption) ?_
  rotate_left
  · intro w hSw
    try dsimp only at hSw
    have x_k0 := bl_cell hSw.1 k0
    go_simp
    try with_reducible rfl
  try simp only [Act.put, List.setIfInBounds_toArray, List.set_cons_zero, List.set_cons_succ]
  refine wpAnyH_take (i := 4) (oi := { dst := some 7, op := _, type := _, pos := _, after := _, guard := _ }) (v := ?_) rfl (by as_aux_lemma => kernel_rfl) (by as_aux_lemma => kernel_rfl) (by as_aux_lemma => kernel_rfl) (fun _ _ _ h => h) (Or.inl ⟨by as_aux_lemma => kernel_rfl, ?_⟩) (by assumption) ?_
  rotate_left
  · intro w hSw
    try dsimp only at hSw
    go_simp
    try with_reducible rfl
  try simp only [Act.put, List.setIfInBounds_toArray, List.set_cons_zero, List.set_cons_succ]
  refine wpAnyH_take (i := 5) (oi := { dst := some 8, op := _, type := _, pos := _, after := _, guard := _ }) (v := ?_) rfl (by as_aux_lemma => kernel_rfl) (by as_aux_lemma => kernel_rfl) (by as_aux_lemma => kernel_rfl) (fun _ _ _ h => h) (Or.inl ⟨by as_aux_lemma => kernel_rfl, ?_⟩) (by assumption) ?_
  rotate_left
  · intro w hSw
    try dsimp only at hSw
    have x_k1 := bl_cell hSw.1 k1
    go_simp
    try with_reducible rfl
  try simp only [Act.put, List.setIfInBounds_toArray, List.set_cons_zero, List.set_cons_succ]
  refine wpAnyH_take (i := 9) (oi := { dst := some 12, op := _, type := _, pos := _, after := _, guard := _ }) (v := ?_) rfl (by as_aux_lemma => kernel_rfl) (by as_aux_lemma => kernel_rfl) (by as_aux_lemma => kernel_rfl) (fun _ _ _ h => h) (Or.inl ⟨by as_aux_lemma => kernel_rfl, ?_⟩) (by assumption) ?_
  rotate_left
  · intro w hSw
    try dsimp only at hSw
    go_simp
    try with_reducible rfl
  try simp only [Act.put, List.setIfInBounds_toArray, List.set_cons_zero, List.set_cons_succ]
  refine wpAnyH_take (i := 10) (oi := { dst := some 13, op := _, type := _, pos := _, after := _, guard := _ }) (v := ?_) rfl (by as_aux_lemma => kernel_rfl) (by as_aux_lemma => kernel_rfl) (by as_aux_lemma => kernel_rfl) (fun _ _ _ h => h) (Or.inl ⟨by as_aux_lemma => kernel_rfl, ?_⟩) (by assumption) ?_
  rotate_left
  · intro w hSw
    try dsimp only at hSw
    have x_k2 := bl_cell hSw.1 k2
    go_simp
    try with_reducible rfl
  try simp only [Act.put, List.setIfInBounds_toArray, List.set_cons_zero, List.set_cons_succ]
  refine wpAnyH_take (i := 14) (oi := { dst := some 17, op := _, type := _, pos := _, after := _, guard := _ }) (v := ?_) rfl (by as_aux_lemma => kernel_rfl) (by as_aux_lemma => kernel_rfl) (by as_aux_lemma => kernel_rfl) (fun _ _ _ h => h) (Or.inl ⟨by as_aux_lemma => kernel_rfl, ?_⟩) (by assumption) ?_
  rotate_left
  · intro w hSw
    try dsimp only at hSw
    go_simp
    try with_reducible rfl
  try simp only [Act.put, List.setIfInBounds_toArray, List.set_cons_zero, List.set_cons_succ]
  refine wpAnyH_take (i := 15) (oi := { dst := some 18, op := _, type := _, pos := _, after := _, guard := _ }) (v := ?_) rfl (by as_aux_lemma => kernel_rfl) (by as_aux_lemma => kernel_rfl) (by as_aux_lemma => kernel_rfl) (fun _ _ _ h => h) (Or.inl ⟨by as_aux_lemma => kernel_rfl, ?_⟩) (by assumption) ?_
  rotate_left
  · intro w hSw
    try dsimp only at hSw
    have x_k3 := bl_cell hSw.1 k3
    go_simp
    try with_reducible rfl
  try simp only [Act.put, List.setIfInBounds_toArray, List.set_cons_zero, List.set_cons_succ]
  refine wpAnyH_ready (rs := [2]) (by as_aux_lemma => kernel_rfl) (by simp) ?_
  refine AllReadyH.cons (o := { dst := some 5, op := _, type := _, pos := _, after := _, guard := _ }) rfl (fun K hK => ?_) AllReadyH.nil
  go_simp
  (try dsimp only at hHeld); go_split_ands
  refine (D1.out _).mono ?_
  rintro e V1 ⟨rfl, hb9⟩
  replace hd9 := bl_trans hd9 hb9
  clear hb9
  go_wp2_with fail
  refine hK.out _ _ ?_ (fun hHeld => ?_)
  · (try dsimp only); go_split_ands; exact ⟨hd9, trivial⟩
  clear hK K
  try simp only [Act.put, List.setIfInBounds_toArray, List.set_cons_zero, List.set_cons_succ]
  refine wpAnyH_take (i := 3) (oi := { dst := some 6, op := _, type := _, pos := _, after := _, guard := _ }) (v := ?_) rfl (by as_aux_lemma => kernel_rfl) (by as_aux_lemma => kernel_rfl) (by as_aux_lemma => kernel_rfl) (fun _ _ _ h => h) (Or.inl ⟨by as_aux_lemma => kernel_rfl, ?_⟩) (by assumption) ?_
  rotate_left
  · intro w hSw
    try dsimp only at hSw
    go_simp
    try with_reducible rfl
  try simp only [Act.put, List.setIfInBounds_toArray, List.set_cons_zero, List.set_cons_succ]
  refine wpAnyH_ready (rs := [6]) (by as_aux_lemma => kernel_rfl) (by simp) ?_
  refine AllReadyH.cons (o := { dst := some 9, op := _, type := _, pos := _, after := _, guard := _ }) rfl (fun K hK => ?_) AllReadyH.nil
  go_simp
  (try dsimp only at hHeld); go_split_ands
  refine (D2.out _).mono ?_
  rintro e V2 ⟨rfl, hb9⟩
  replace hd9 := bl_trans hd9 hb9
  clear hb9
  go_wp2_with fail
  refine hK.out _ _ ?_ (fun hHeld => ?_)
  · (try dsimp only); go_split_ands; exact ⟨hd9, trivial⟩
  clear hK K
  try simp only [Act.put, List.setIfInBounds_toArray, List.set_cons_zero, List.set_cons_succ]
  refine wpAnyH_take (i := 7) (oi := { dst := some 10, op := _, type := _, pos := _, after := _, guard := _ }) (v := ?_) rfl (by as_aux_lemma => kernel_rfl) (by as_aux_lemma => kernel_rfl) (by as_aux_lemma => kernel_rfl) (fun _ _ _ h => h) (Or.inl ⟨by as_aux_lemma => kernel_rfl, ?_⟩) (by assumption) ?_
  rotate_left
  · intro w hSw
    try dsimp only at hSw
    go_simp
    try with_reducible rfl
  try simp only [Act.put, List.setIfInBounds_toArray, List.set_cons_zero, List.set_cons_succ]
  refine wpAnyH_take (i := 8) (oi := { dst := some 11, op := _, type := _, pos := _, after := _, guard := _ }) (v := ?_) rfl (by as_aux_lemma => kernel_rfl) (by as_aux_lemma => kernel_rfl) (by as_aux_lemma => kernel_rfl) (fun _ _ _ h => h) (Or.inl ⟨by as_aux_lemma => kernel_rfl, ?_⟩) (by assumption) ?_
  rotate_left
  · intro w hSw
    try dsimp only at hSw
    go_simp
    try with_reducible rfl
  try simp only [Act.put, List.setIfInBounds_toArray, List.set_cons_zero, List.set_cons_succ]
  refine wpAnyH_ready (rs := [11]) (by as_aux_lemma => kernel_rfl) (by simp) ?_
  refine AllReadyH.cons (o := { dst := some 14, op := _, type := _, pos := _, after := _, guard := _ }) rfl (fun K hK => ?_) AllReadyH.nil
  go_simp
  (try dsimp only at hHeld); go_split_ands
  refine (D3.out _).mono ?_
  rintro e V3 ⟨rfl, hb9⟩
  replace hd9 := bl_trans hd9 hb9
  clear hb9
  go_wp2_with fail
  refine hK.out _ _ ?_ (fun hHeld => ?_)
  · (try dsimp only); go_split_ands; exact ⟨hd9, trivial⟩
  clear hK K
  try simp only [Act.put, List.setIfInBounds_toArray, List.set_cons_zero, List.set_cons_succ]
  refine wpAnyH_take (i := 12) (oi := { dst := some 15, op := _, type := _, pos := _, after := _, guard := _ }) (v := ?_) rfl (by as_aux_lemma => kernel_rfl) (by as_aux_lemma => kernel_rfl) (by as_aux_lemma => kernel_rfl) (fun _ _ _ h => h) (Or.inl ⟨by as_aux_lemma => kernel_rfl, ?_⟩) (by assumption) ?_
  rotate_left
  · intro w hSw
    try dsimp only at hSw
    go_simp
    try with_reducible rfl
  try simp only [Act.put, List.setIfInBounds_toArray, List.set_cons_zero, List.set_cons_succ]
  refine wpAnyH_take (i := 13) (oi := { dst := some 16, op := _, type := _, pos := _, after := _, guard := _ }) (v := ?_) rfl (by as_aux_lemma => kernel_rfl) (by as_aux_lemma => kernel_rfl) (by as_aux_lemma => kernel_rfl) (fun _ _ _ h => h) (Or.inl ⟨by as_aux_lemma => kernel_rfl, ?_⟩) (by assumption) ?_
  rotate_left
  · intro w hSw
    try dsimp only at hSw
    go_simp
    try with_reducible rfl
  try simp only [Act.put, List.setIfInBounds_toArray, List.set_cons_zero, List.set_cons_succ]
  refine wpAnyH_ready (rs := [16]) (by as_aux_lemma => kernel_rfl) (by simp) ?_
  refine AllReadyH.cons (o := { dst := some 19, op := _, type := _, pos := _, after := _, guard := _ }) rfl (fun K hK => ?_) AllReadyH.nil
  go_simp
  (try dsimp only at hHeld); go_split_ands
  refine (D4.out _).mono ?_
  rintro e V4 ⟨rfl, hb9⟩
  replace hd9 := bl_trans hd9 hb9
  clear hb9
  go_wp2_with fail
  refine hK.out _ _ ?_ (fun hHeld => ?_)
  · (try dsimp only); go_split_ands; exact ⟨hd9, trivial⟩
  clear hK K
  try simp only [Act.put, List.setIfInBounds_toArray, List.set_cons_zero, List.set_cons_succ]
  refine wpAnyH_take (i := 17) (oi := { dst := some 20, op := _, type := _, pos := _, after := _, guard := _ }) (v := ?_) rfl (by as_aux_lemma => kernel_rfl) (by as_aux_lemma => kernel_rfl) (by as_aux_lemma => kernel_rfl) (fun _ _ _ h => h) (Or.inl ⟨by as_aux_lemma => kernel_rfl, ?_⟩) (by assumption) ?_
  rotate_left
  · intro w hSw
    try dsimp only at hSw
    go_simp
    try with_reducible rfl
  try simp only [Act.put, List.setIfInBounds_toArray, List.set_cons_zero, List.set_cons_succ]
  refine wpAnyH_take (i := 18) (oi := { dst := some 2, op := _, type := _, pos := _, after := _, guard := _ }) (v := ?_) rfl (by as_aux_lemma => kernel_rfl) (by as_aux_lemma => kernel_rfl) (by as_aux_lemma => kernel_rfl) (fun _ _ _ h => h) (Or.inl ⟨by as_aux_lemma => kernel_rfl, ?_⟩) (by assumption) ?_
  rotate_left
  · intro w hSw
    try dsimp only at hSw
    go_simp
    try with_reducible rfl
  try simp only [Act.put, List.setIfInBounds_toArray, List.set_cons_zero, List.set_cons_succ]
  refine wpAnyH_done (by as_aux_lemma => kernel_rfl) ?_ _
  clear hHeld
  replace hv := bl_trans hv hd9
  go_wp2_with fail
  go_returns
  exact Ret.mk (vs HP.out.symm) hv
def deskT (f : Foot) (n : Nat) : ByteArray := ((footT f ++ ⟨#[32]⟩) ++ decI n) ++ ⟨#[32, 108, 97, 115, 116, 115]⟩
def deskX (f : Foot) (xs : List Last) (s : Style) (lg : ByteArray) (n : Nat) : ByteArray := if deskB f xs s lg = true then deskT f n else ⟨#[]⟩
theorem desk_foot {f : Foot} {xs : List Last} {s : Style} {lg : ByteArray} (h : deskB f xs s lg = true) : footB f = true := by
  unfold deskB at h
  simp only [Bool.and_eq_true] at h
  exact h.1.1.1
set_option maxRecDepth 100000 in
set_option maxHeartbeats 4000000 in
theorem l28Text_c (f : Foot) (s : Style) (lg : ByteArray) (A : Option Addr) (n c : Nat) (hf : Hid (footB f = true)) (hm : (n : Int) ≤ 1048576) (g : Nat) (w : World) (hB : Blk w g 35 #[Value.int IntKind.i64 f.length, Value.int IntKind.i64 f.ball, Value.int IntKind.i64 f.instep, Value.int IntKind.i64 f.heel, Value.slice A n c, Value.string s.upper, Value.string s.color, Value.string s.lining, Value.string s.sole, Value.int IntKind.i64 s.thick, Value.int IntKind.i64 s.heel, Value.int IntKind.i64 s.eyelets, Value.int IntKind.i64 s.density, Value.bool s.double, Value.string lg]) : Calls Tryz.prog 35 #[.pointer (some ⟨g, 0, none⟩)] w (Ret (.string (deskT f n)) w) := by
  have D1 := fun w => l02Text_c f hf w
  have D2 := fun w => l01DecI_c (n : Int) (by omega) (by omega) w
  have hP : deskT f n = ((footT f ++ ⟨#[32]⟩) ++ decI n) ++ ⟨#[32, 108, 97, 115, 116, 115]⟩ := rfl
  have l1 : (⟨#[32]⟩ : ByteArray).size = 1 := rfl
  have l2 : (⟨#[32, 108, 97, 115, 116, 115]⟩ : ByteArray).size = 6 := rfl
  have y1 := footT_size hf.out
  have y2 := dec21 (v := (n : Int)) (by omega) (by omega)
  obtain ⟨d1, e1⟩ : ∃ z, z = footT f := ⟨_, rfl⟩
  obtain ⟨d2, e2⟩ : ∃ z, z = decI (n : Int) := ⟨_, rfl⟩
  rw [← e1] at D1 y1 hP
  rw [← e2] at D2 y2 hP
  replace D1 := Lib.hid D1
  replace D2 := Lib.hid D2
  have a0 := fun (w : World) => run_string_add_sum (P := Tryz.prog) w d1 (⟨#[32]⟩ : ByteArray) (by omega)
  have a1 := fun (w : World) => run_string_add_sum (P := Tryz.prog) w (d1 ++ (⟨#[32]⟩ : ByteArray)) d2 (by simp only [app_size]; omega)
  have a2 := fun (w : World) => run_string_add_sum (P := Tryz.prog) w ((d1 ++ (⟨#[32]⟩ : ByteArray)) ++ d2) (⟨#[32, 108, 97, 115, 116, 115]⟩ : ByteArray) (by simp only [app_size]; omega)
  have HP := Lib.hid hP
  clear hP e1 e2 y1 y2 l1 l2 hf
  have k0 : w.cell? ⟨g, 0, none⟩ = some (Value.int IntKind.i64 f.length) := hB.cell 0
  have k1 : w.cell? ⟨g, 1, none⟩ = some (Value.int IntKind.i64 f.ball) := hB.cell 1
  have k2 : w.cell? ⟨g, 2, none⟩ = some (Value.int IntKind.i64 f.instep) := hB.cell 2
  have k3 : w.cell? ⟨g, 3, none⟩ = some (Value.int IntKind.i64 f.heel) := hB.cell 3
  have k4 : w.cell? ⟨g, 4, none⟩ = some (Value.slice A n c) := hB.cell 4
  have k5 : w.cell? ⟨g, 5, none⟩ = some (Value.string s.upper) := hB.cell 5
  have k6 : w.cell? ⟨g, 6, none⟩ = some (Value.string s.color) := hB.cell 6
  have k7 : w.cell? ⟨g, 7, none⟩ = some (Value.string s.lining) := hB.cell 7
  have k8 : w.cell? ⟨g, 8, none⟩ = some (Value.string s.sole) := hB.cell 8
  have k9 : w.cell? ⟨g, 9, none⟩ = some (Value.int IntKind.i64 s.thick) := hB.cell 9
  have k10 : w.cell? ⟨g, 10, none⟩ = some (Value.int IntKind.i64 s.heel) := hB.cell 10
  have k11 : w.cell? ⟨g, 11, none⟩ = some (Value.int IntKind.i64 s.eyelets) := hB.cell 11
  have k12 : w.cell? ⟨g, 12, none⟩ = some (Value.int IntKind.i64 s.density) := hB.cell 12
  have k13 : w.cell? ⟨g, 13, none⟩ = some (Value.bool s.double) := hB.cell 13
  have k14 : w.cell? ⟨g, 14, none⟩ = some (Value.string lg) := hB.cell 14
  clear hB
  go_enter Tryz.func35, Tryz.ntmps35
  go_upto_region 1 with fail
  refine wp_region_held_drew (S := fun w' => Below w.heap.size w w' ∧ True) (by as_aux_lemma => kernel_rfl) ?_ (fun hHeld => ?_)
  · exact ⟨(Below.refl _ _).drew, trivial⟩
  have hd9 := hHeld.1
  refine wpAnyH_take (i := 0) (oi := { dst := some 3, op := _, type := _, pos := _, after := _, guard := _ }) (v := ?_) rfl (by as_aux_lemma => kernel_rfl) (by as_aux_lemma => kernel_rfl) (by as_aux_lemma => kernel_rfl) (fun _ _ _ h => h) (Or.inl ⟨by as_aux_lemma => kernel_rfl, ?_⟩) (by assumption) ?_
  rotate_left
  · intro w hSw
    try dsimp only at hSw
    go_simp
    try with_reducible rfl
  try simp only [Act.put, List.setIfInBounds_toArray, List.set_cons_zero, List.set_cons_succ]
  refine wpAnyH_take (i := 1) (oi := { dst := some 4, op := _, type := _, pos := _, after := _, guard := _ }) (v := ?_) rfl (by as_aux_lemma => kernel_rfl) (by as_aux_lemma => kernel_rfl) (by as_aux_lemma => kernel_rfl) (fun _ _ _ h => h) (Or.inl ⟨by as_aux_lemma => kernel_rfl, ?_⟩) (by assumption) ?_
  rotate_left
  · intro w hSw
    try dsimp only at hSw
    have x_k0 := bl_cell hSw.1 k0
    go_simp
    try with_reducible rfl
  try simp only [Act.put, List.setIfInBounds_toArray, List.set_cons_zero, List.set_cons_succ]
  refine wpAnyH_take (i := 2) (oi := { dst := some 5, op := _, type := _, pos := _, after := _, guard := _ }) (v := ?_) rfl (by as_aux_lemma => kernel_rfl) (by as_aux_lemma => kernel_rfl) (by as_aux_lemma => kernel_rfl) (fun _ _ _ h => h) (Or.inl ⟨by as_aux_lemma => kernel_rfl, ?_⟩) (by assumption) ?_
  rotate_left
  · intro w hSw
    try dsimp only at hSw
    go_simp
    try with_reducible rfl
  try simp only [Act.put, List.setIfInBounds_toArray, List.set_cons_zero, List.set_cons_succ]
  refine wpAnyH_take (i := 3) (oi := { dst := some 6, op := _, type := _, pos := _, after := _, guard := _ }) (v := ?_) rfl (by as_aux_lemma => kernel_rfl) (by as_aux_lemma => kernel_rfl) (by as_aux_lemma => kernel_rfl) (fun _ _ _ h => h) (Or.inl ⟨by as_aux_lemma => kernel_rfl, ?_⟩) (by assumption) ?_
  rotate_left
  · intro w hSw
    try dsimp only at hSw
    have x_k0 := bl_cell hSw.1 k0
    have x_k1 := bl_cell hSw.1 k1
    have x_k2 := bl_cell hSw.1 k2
    have x_k3 := bl_cell hSw.1 k3
    go_simp
    try with_reducible rfl
  try simp only [Act.put, List.setIfInBounds_toArray, List.set_cons_zero, List.set_cons_succ]
  refine wpAnyH_take (i := 6) (oi := { dst := some 9, op := _, type := _, pos := _, after := _, guard := _ }) (v := ?_) rfl (by as_aux_lemma => kernel_rfl) (by as_aux_lemma => kernel_rfl) (by as_aux_lemma => kernel_rfl) (fun _ _ _ h => h) (Or.inl ⟨by as_aux_lemma => kernel_rfl, ?_⟩) (by assumption) ?_
  rotate_left
  · intro w hSw
    try dsimp only at hSw
    go_simp
    try with_reducible rfl
  try simp only [Act.put, List.setIfInBounds_toArray, List.set_cons_zero, List.set_cons_succ]
  refine wpAnyH_take (i := 7) (oi := { dst := some 10, op := _, type := _, pos := _, after := _, guard := _ }) (v := ?_) rfl (by as_aux_lemma => kernel_rfl) (by as_aux_lemma => kernel_rfl) (by as_aux_lemma => kernel_rfl) (fun _ _ _ h => h) (Or.inl ⟨by as_aux_lemma => kernel_rfl, ?_⟩) (by assumption) ?_
  rotate_left
  · intro w hSw
    try dsimp only at hSw
    have x_k0 := bl_cell hSw.1 k0
    go_simp
    try with_reducible rfl
  try simp only [Act.put, List.setIfInBounds_toArray, List.set_cons_zero, List.set_cons_succ]
  refine wpAnyH_take (i := 8) (oi := { dst := some 11, op := _, type := _, pos := _, after := _, guard := _ }) (v := ?_) rfl (by as_aux_lemma => kernel_rfl) (by as_aux_lemma => kernel_rfl) (by as_aux_lemma => kernel_rfl) (fun _ _ _ h => h) (Or.inl ⟨by as_aux_lemma => kernel_rfl, ?_⟩) (by assumption) ?_
  rotate_left
  · intro w hSw
    try dsimp only at hSw
    go_simp
    try with_reducible rfl
  try simp only [Act.put, List.setIfInBounds_toArray, List.set_cons_zero, List.set_cons_succ]
  refine wpAnyH_take (i := 9) (oi := { dst := some 12, op := _, type := _, pos := _, after := _, guard := _ }) (v := ?_) rfl (by as_aux_lemma => kernel_rfl) (by as_aux_lemma => kernel_rfl) (by as_aux_lemma => kernel_rfl) (fun _ _ _ h => h) (Or.inl ⟨by as_aux_lemma => kernel_rfl, ?_⟩) (by assumption) ?_
  rotate_left
  · intro w hSw
    try dsimp only at hSw
    have x_k4 := bl_cell hSw.1 k4
    go_simp
    try with_reducible rfl
  try simp only [Act.put, List.setIfInBounds_toArray, List.set_cons_zero, List.set_cons_succ]
  refine wpAnyH_take (i := 10) (oi := { dst := some 13, op := _, type := _, pos := _, after := _, guard := _ }) (v := ?_) rfl (by as_aux_lemma => kernel_rfl) (by as_aux_lemma => kernel_rfl) (by as_aux_lemma => kernel_rfl) (fun _ _ _ h => h) (Or.inl ⟨by as_aux_lemma => kernel_rfl, ?_⟩) (by assumption) ?_
  rotate_left
  · intro w hSw
    try dsimp only at hSw
    go_simp
    try with_reducible rfl
  try simp only [Act.put, List.setIfInBounds_toArray, List.set_cons_zero, List.set_cons_succ]
  refine wpAnyH_ready (rs := [4]) (by as_aux_lemma => kernel_rfl) (by simp) ?_
  refine AllReadyH.cons (o := { dst := some 7, op := _, type := _, pos := _, after := _, guard := _ }) rfl (fun K hK => ?_) AllReadyH.nil
  go_simp
  (try dsimp only at hHeld); go_split_ands
  refine (D1.out _).mono ?_
  rintro e V1 ⟨rfl, hb9⟩
  replace hd9 := bl_trans hd9 hb9
  clear hb9
  go_wp2_with fail
  refine hK.out _ _ ?_ (fun hHeld => ?_)
  · (try dsimp only); go_split_ands; exact ⟨hd9, trivial⟩
  clear hK K
  try simp only [Act.put, List.setIfInBounds_toArray, List.set_cons_zero, List.set_cons_succ]
  refine wpAnyH_take (i := 5) (oi := { dst := some 8, op := _, type := _, pos := _, after := _, guard := _ }) (v := ?_) rfl (by as_aux_lemma => kernel_rfl) (by as_aux_lemma => kernel_rfl) (by as_aux_lemma => kernel_rfl) (fun _ _ _ h => h) (Or.inl ⟨by as_aux_lemma => kernel_rfl, ?_⟩) (by assumption) ?_
  rotate_left
  · intro w hSw
    try dsimp only at hSw
    go_simp
    try with_reducible rfl
  try simp only [Act.put, List.setIfInBounds_toArray, List.set_cons_zero, List.set_cons_succ]
  refine wpAnyH_ready (rs := [11]) (by as_aux_lemma => kernel_rfl) (by simp) ?_
  refine AllReadyH.cons (o := { dst := some 14, op := _, type := _, pos := _, after := _, guard := _ }) rfl (fun K hK => ?_) AllReadyH.nil
  go_simp
  (try dsimp only at hHeld); go_split_ands
  refine (D2.out _).mono ?_
  rintro e V2 ⟨rfl, hb9⟩
  replace hd9 := bl_trans hd9 hb9
  clear hb9
  go_wp2_with fail
  refine hK.out _ _ ?_ (fun hHeld => ?_)
  · (try dsimp only); go_split_ands; exact ⟨hd9, trivial⟩
  clear hK K
  try simp only [Act.put, List.setIfInBounds_toArray, List.set_cons_zero, List.set_cons_succ]
  refine wpAnyH_take (i := 12) (oi := { dst := some 15, op := _, type := _, pos := _, after := _, guard := _ }) (v := ?_) rfl (by as_aux_lemma => kernel_rfl) (by as_aux_lemma => kernel_rfl) (by as_aux_lemma => kernel_rfl) (fun _ _ _ h => h) (Or.inl ⟨by as_aux_lemma => kernel_rfl, ?_⟩) (by assumption) ?_
  rotate_left
  · intro w hSw
    try dsimp only at hSw
    go_simp
    try with_reducible rfl
  try simp only [Act.put, List.setIfInBounds_toArray, List.set_cons_zero, List.set_cons_succ]
  refine wpAnyH_take (i := 13) (oi := { dst := some 16, op := _, type := _, pos := _, after := _, guard := _ }) (v := ?_) rfl (by as_aux_lemma => kernel_rfl) (by as_aux_lemma => kernel_rfl) (by as_aux_lemma => kernel_rfl) (fun _ _ _ h => h) (Or.inl ⟨by as_aux_lemma => kernel_rfl, ?_⟩) (by assumption) ?_
  rotate_left
  · intro w hSw
    try dsimp only at hSw
    go_simp
    try with_reducible rfl
  try simp only [Act.put, List.setIfInBounds_toArray, List.set_cons_zero, List.set_cons_succ]
  refine wpAnyH_take (i := 14) (oi := { dst := some 2, op := _, type := _, pos := _, after := _, guard := _ }) (v := ?_) rfl (by as_aux_lemma => kernel_rfl) (by as_aux_lemma => kernel_rfl) (by as_aux_lemma => kernel_rfl) (fun _ _ _ h => h) (Or.inl ⟨by as_aux_lemma => kernel_rfl, ?_⟩) (by assumption) ?_
  rotate_left
  · intro w hSw
    try dsimp only at hSw
    go_simp
    try with_reducible rfl
  try simp only [Act.put, List.setIfInBounds_toArray, List.set_cons_zero, List.set_cons_succ]
  refine wpAnyH_done (by as_aux_lemma => kernel_rfl) ?_ _
  clear hHeld
  go_wp2_with fail
  go_returns
  exact Ret.mk (vs HP.out.symm) hd9
set_option maxHeartbeats 4000000 in
theorem SDeskText_c (f : Foot) (s : Style) (lg : ByteArray) (A : Option Addr) (xs : List Last) (n c : Nat) (hn : Hid (xs.length = n)) (hm : (n : Int) ≤ 1048576) (hs : Hid (∀ x ∈ xs, x.name.size ≤ 9223372036854775807)) (hx : Hid s.fits) (hl : lg.size ≤ 1048576) (w : World) (hA : Arr w A (flat Last.cells xs)) : Calls Tryz.prog 11 #[Value.agg #[Value.int IntKind.i64 f.length, Value.int IntKind.i64 f.ball, Value.int IntKind.i64 f.instep, Value.int IntKind.i64 f.heel, Value.slice A n c, Value.string s.upper, Value.string s.color, Value.string s.lining, Value.string s.sole, Value.int IntKind.i64 s.thick, Value.int IntKind.i64 s.heel, Value.int IntKind.i64 s.eyelets, Value.int IntKind.i64 s.density, Value.bool s.double, Value.string lg]] w (Ret (.string (deskX f xs s lg n)) w) := by
  obtain ⟨W, hW⟩ : ∃ W, W = w.alloc (Obj.cells #[Value.int IntKind.i64 f.length, Value.int IntKind.i64 f.ball, Value.int IntKind.i64 f.instep, Value.int IntKind.i64 f.heel, Value.slice A n c, Value.string s.upper, Value.string s.color, Value.string s.lining, Value.string s.sole, Value.int IntKind.i64 s.thick, Value.int IntKind.i64 s.heel, Value.int IntKind.i64 s.eyelets, Value.int IntKind.i64 s.density, Value.bool s.double, Value.string lg] 35) := ⟨_, rfl⟩
  obtain ⟨g, hg⟩ : ∃ g, g = w.heap.size := ⟨_, rfl⟩
  have hv : Below w.heap.size w W := by rw [hW]; exact bl_alloc (Below.refl _ _) _
  have hB : Hid (Blk W g 35 #[Value.int IntKind.i64 f.length, Value.int IntKind.i64 f.ball, Value.int IntKind.i64 f.instep, Value.int IntKind.i64 f.heel, Value.slice A n c, Value.string s.upper, Value.string s.color, Value.string s.lining, Value.string s.sole, Value.int IntKind.i64 s.thick, Value.int IntKind.i64 s.heel, Value.int IntKind.i64 s.eyelets, Value.int IntKind.i64 s.density, Value.bool s.double, Value.string lg]) := Lib.hid (by rw [hW, hg]; exact Blk.new _ _ _)
  have HW := Lib.hid hW
  have HG := Lib.hid hg
  clear hW hg
  have HOK := l28Ok_c f s lg A xs n c hn hm hs hx hl g W hB.out (hA.below hv)
  obtain ⟨b, hb⟩ : ∃ z, z = deskB f xs s lg := ⟨_, rfl⟩
  rw [← hb] at HOK
  replace HOK := Lib.hid HOK
  have HBE := Lib.hid hb.symm
  clear hb hA hn hs hx hl
  go_enter Tryz.func11, Tryz.ntmps11
  go_upto_region 1 with fail
  rw [← HW.out, ← HG.out]
  clear HW HG
  go_wp2_with fail
  refine HOK.out.mono ?_
  rintro e W1 ⟨rfl, hb⟩
  replace hv := bl_trans hv hb
  replace hB := Lib.hid (hB.out.below hb)
  clear hb HOK
  cases b
  · have HE := Lib.hid (show deskX f xs s lg n = ⟨#[]⟩ by unfold deskX; rw [HBE.out]; rfl)
    go_wp2_with fail
    go_returns
    exact Ret.mk (vs HE.out.symm) hv
  have HE := Lib.hid (show deskX f xs s lg n = deskT f n by unfold deskX; rw [HBE.out]; rfl)
  have hf := Lib.hid (desk_foot HBE.out)
  clear HBE
  go_wp2_with fail
  refine (l28Text_c f s lg A n c hf hm g _ hB.out).mono ?_
  rintro e W2 ⟨rfl, hb⟩
  replace hv := bl_trans hv hb
  go_wp2_with fail
  go_returns
  exact Ret.mk (vs HE.out.symm) hv
set_option maxRecDepth 100000 in
set_option maxHeartbeats 8000000 in
theorem DeskText_c (f : Foot) (s : Style) (lg : ByteArray) (A : Option Addr) (xs : List Last) (n c : Nat) (hn : Hid (xs.length = n)) (hm : (n : Int) ≤ 1048576) (hs : Hid (∀ x ∈ xs, x.name.size ≤ 9223372036854775807)) (hx : Hid s.fits) (hl : lg.size ≤ 1048576) (w : World) (hA : Arr w A (flat Last.cells xs)) (hT : Tabs w) : Calls Tryz.prog 12 #[Value.agg #[Value.int IntKind.i64 f.length, Value.int IntKind.i64 f.ball, Value.int IntKind.i64 f.instep, Value.int IntKind.i64 f.heel, Value.slice A n c, Value.string s.upper, Value.string s.color, Value.string s.lining, Value.string s.sole, Value.int IntKind.i64 s.thick, Value.int IntKind.i64 s.heel, Value.int IntKind.i64 s.eyelets, Value.int IntKind.i64 s.density, Value.bool s.double, Value.string lg]] w (Ret (.string (deskX f xs s lg n)) w) := by
  have HT := Lib.hid hT
  have HA := Lib.hid hA
  clear hT hA
  obtain ⟨W, hW⟩ : ∃ W, W = w.alloc (Obj.cells #[Value.int IntKind.i64 f.length, Value.int IntKind.i64 f.ball, Value.int IntKind.i64 f.instep, Value.int IntKind.i64 f.heel, Value.slice A n c, Value.string s.upper, Value.string s.color, Value.string s.lining, Value.string s.sole, Value.int IntKind.i64 s.thick, Value.int IntKind.i64 s.heel, Value.int IntKind.i64 s.eyelets, Value.int IntKind.i64 s.density, Value.bool s.double, Value.string lg] 35) := ⟨_, rfl⟩
  obtain ⟨g, hg⟩ : ∃ g, g = w.heap.size := ⟨_, rfl⟩
  have hv : Below w.heap.size w W := by rw [hW]; exact bl_alloc (Below.refl _ _) _
  have hB : Hid (Blk W g 35 #[Value.int IntKind.i64 f.length, Value.int IntKind.i64 f.ball, Value.int IntKind.i64 f.instep, Value.int IntKind.i64 f.heel, Value.slice A n c, Value.string s.upper, Value.string s.color, Value.string s.lining, Value.string s.sole, Value.int IntKind.i64 s.thick, Value.int IntKind.i64 s.heel, Value.int IntKind.i64 s.eyelets, Value.int IntKind.i64 s.density, Value.bool s.double, Value.string lg]) := Lib.hid (by rw [hW, hg]; exact Blk.new _ _ _)
  have HW := Lib.hid hW
  have HG := Lib.hid hg
  clear hW hg
  have HOK := fun w h t => ValidDesk_c f s lg A xs n c hn hm hs hx hl w h t
  obtain ⟨b, hb⟩ : ∃ z, z = deskB f xs s lg := ⟨_, rfl⟩
  rw [← hb] at HOK
  replace HOK := Lib.hid HOK
  have HBE := Lib.hid hb.symm
  clear hb hn hs hx hl
  go_enter Tryz.func12, Tryz.ntmps12
  go_upto_region 1 with fail
  rw [← HW.out, ← HG.out]
  clear HW HG
  go_wp2_with (refine wpList_load_row rfl 35 _ rfl g rfl 35 #[Value.int IntKind.i64 f.length, Value.int IntKind.i64 f.ball, Value.int IntKind.i64 f.instep, Value.int IntKind.i64 f.heel, Value.slice A n c, Value.string s.upper, Value.string s.color, Value.string s.lining, Value.string s.sole, Value.int IntKind.i64 s.thick, Value.int IntKind.i64 s.heel, Value.int IntKind.i64 s.eyelets, Value.int IntKind.i64 s.density, Value.bool s.double, Value.string lg] (0, 0) _ hB.out Tryz.underlying35 rfl (by kernel_rfl) ?_)
  refine (HOK.out _ (HA.out.below hv) (HT.out.below hv)).mono ?_
  rintro e W1 ⟨rfl, hb⟩
  replace hv := bl_trans hv hb
  replace hB := Lib.hid (hB.out.below hb)
  clear hb HOK
  cases b
  · have HE := Lib.hid (show deskX f xs s lg n = ⟨#[]⟩ by unfold deskX; rw [HBE.out]; rfl)
    go_wp2_with fail
    go_returns
    exact Ret.mk (vs HE.out.symm) hv
  have HE := Lib.hid (show deskX f xs s lg n = deskT f n by unfold deskX; rw [HBE.out]; rfl)
  have hf := Lib.hid (desk_foot HBE.out)
  clear HBE
  have HT1 := Lib.hid (HT.out.below hv)
  have D1 := fun w h => FootText_c f hf w h
  have D2 := fun w h => DecimalI_c (n : Int) (by omega) (by omega) w h
  have hP : deskT f n = ((footT f ++ ⟨#[32]⟩) ++ decI n) ++ ⟨#[32, 108, 97, 115, 116, 115]⟩ := rfl
  have l1 : (⟨#[32]⟩ : ByteArray).size = 1 := rfl
  have l2 : (⟨#[32, 108, 97, 115, 116, 115]⟩ : ByteArray).size = 6 := rfl
  have y1 := footT_size hf.out
  have y2 := dec21 (v := (n : Int)) (by omega) (by omega)
  obtain ⟨d1, e1⟩ : ∃ z, z = footT f := ⟨_, rfl⟩
  obtain ⟨d2, e2⟩ : ∃ z, z = decI (n : Int) := ⟨_, rfl⟩
  rw [← e1] at D1 y1 hP
  rw [← e2] at D2 y2 hP
  replace D1 := Lib.hid D1
  replace D2 := Lib.hid D2
  have a0 := fun (w : World) => run_string_add_sum (P := Tryz.prog) w d1 (⟨#[32]⟩ : ByteArray) (by omega)
  have a1 := fun (w : World) => run_string_add_sum (P := Tryz.prog) w (d1 ++ (⟨#[32]⟩ : ByteArray)) d2 (by simp only [app_size]; omega)
  have a2 := fun (w : World) => run_string_add_sum (P := Tryz.prog) w ((d1 ++ (⟨#[32]⟩ : ByteArray)) ++ d2) (⟨#[32, 108, 97, 115, 116, 115]⟩ : ByteArray) (by simp only [app_size]; omega)
  have HP := Lib.hid hP
  clear hP e1 e2 y1 y2 l1 l2 hf
  have k0 : W1.cell? ⟨g, 0, none⟩ = some (Value.int IntKind.i64 f.length) := hB.out.cell 0
  have k1 : W1.cell? ⟨g, 1, none⟩ = some (Value.int IntKind.i64 f.ball) := hB.out.cell 1
  have k2 : W1.cell? ⟨g, 2, none⟩ = some (Value.int IntKind.i64 f.instep) := hB.out.cell 2
  have k3 : W1.cell? ⟨g, 3, none⟩ = some (Value.int IntKind.i64 f.heel) := hB.out.cell 3
  have k4 : W1.cell? ⟨g, 4, none⟩ = some (Value.slice A n c) := hB.out.cell 4
  have k5 : W1.cell? ⟨g, 5, none⟩ = some (Value.string s.upper) := hB.out.cell 5
  have k6 : W1.cell? ⟨g, 6, none⟩ = some (Value.string s.color) := hB.out.cell 6
  have k7 : W1.cell? ⟨g, 7, none⟩ = some (Value.string s.lining) := hB.out.cell 7
  have k8 : W1.cell? ⟨g, 8, none⟩ = some (Value.string s.sole) := hB.out.cell 8
  have k9 : W1.cell? ⟨g, 9, none⟩ = some (Value.int IntKind.i64 s.thick) := hB.out.cell 9
  have k10 : W1.cell? ⟨g, 10, none⟩ = some (Value.int IntKind.i64 s.heel) := hB.out.cell 10
  have k11 : W1.cell? ⟨g, 11, none⟩ = some (Value.int IntKind.i64 s.eyelets) := hB.out.cell 11
  have k12 : W1.cell? ⟨g, 12, none⟩ = some (Value.int IntKind.i64 s.density) := hB.out.cell 12
  have k13 : W1.cell? ⟨g, 13, none⟩ = some (Value.bool s.double) := hB.out.cell 13
  have k14 : W1.cell? ⟨g, 14, none⟩ = some (Value.string lg) := hB.out.cell 14
  go_upto_region 3 with fail
  refine wp_region_held_drew (S := fun w' => Below W1.heap.size W1 w' ∧ True) (by as_aux_lemma => kernel_rfl) ?_ (fun hHeld => ?_)
  · exact ⟨(Below.refl _ _).drew, trivial⟩
  have hd9 := hHeld.1
  refine wpAnyH_take (i := 0) (oi := { dst := some 6, op := _, type := _, pos := _, after := _, guard := _ }) (v := ?_) rfl (by as_aux_lemma => kernel_rfl) (by as_aux_lemma => kernel_rfl) (by as_aux_lemma => kernel_rfl) (fun _ _ _ h => h) (Or.inl ⟨by as_aux_lemma => kernel_rfl, ?_⟩) (by assumption) ?_
  rotate_left
  · intro w hSw
    try dsimp only at hSw
    go_simp
    try with_reducible rfl
  try simp only [Act.put, List.setIfInBounds_toArray, List.set_cons_zero, List.set_cons_succ]
  refine wpAnyH_take (i := 1) (oi := { dst := some 7, op := _, type := _, pos := _, after := _, guard := _ }) (v := ?_) rfl (by as_aux_lemma => kernel_rfl) (by as_aux_lemma => kernel_rfl) (by as_aux_lemma => kernel_rfl) (fun _ _ _ h => h) (Or.inl ⟨by as_aux_lemma => kernel_rfl, ?_⟩) (by assumption) ?_
  rotate_left
  · intro w hSw
    try dsimp only at hSw
    have x_k0 := bl_cell hSw.1 k0
    have x_k1 := bl_cell hSw.1 k1
    have x_k2 := bl_cell hSw.1 k2
    have x_k3 := bl_cell hSw.1 k3
    go_simp
    try with_reducible rfl
  try simp only [Act.put, List.setIfInBounds_toArray, List.set_cons_zero, List.set_cons_succ]
  refine wpAnyH_take (i := 4) (oi := { dst := some 10, op := _, type := _, pos := _, after := _, guard := _ }) (v := ?_) rfl (by as_aux_lemma => kernel_rfl) (by as_aux_lemma => kernel_rfl) (by as_aux_lemma => kernel_rfl) (fun _ _ _ h => h) (Or.inl ⟨by as_aux_lemma => kernel_rfl, ?_⟩) (by assumption) ?_
  rotate_left
  · intro w hSw
    try dsimp only at hSw
    go_simp
    try with_reducible rfl
  try simp only [Act.put, List.setIfInBounds_toArray, List.set_cons_zero, List.set_cons_succ]
  refine wpAnyH_take (i := 5) (oi := { dst := some 11, op := _, type := _, pos := _, after := _, guard := _ }) (v := ?_) rfl (by as_aux_lemma => kernel_rfl) (by as_aux_lemma => kernel_rfl) (by as_aux_lemma => kernel_rfl) (fun _ _ _ h => h) (Or.inl ⟨by as_aux_lemma => kernel_rfl, ?_⟩) (by assumption) ?_
  rotate_left
  · intro w hSw
    try dsimp only at hSw
    have x_k4 := bl_cell hSw.1 k4
    go_simp
    try with_reducible rfl
  try simp only [Act.put, List.setIfInBounds_toArray, List.set_cons_zero, List.set_cons_succ]
  refine wpAnyH_take (i := 6) (oi := { dst := some 12, op := _, type := _, pos := _, after := _, guard := _ }) (v := ?_) rfl (by as_aux_lemma => kernel_rfl) (by as_aux_lemma => kernel_rfl) (by as_aux_lemma => kernel_rfl) (fun _ _ _ h => h) (Or.inl ⟨by as_aux_lemma => kernel_rfl, ?_⟩) (by assumption) ?_
  rotate_left
  · intro w hSw
    try dsimp only at hSw
    go_simp
    try with_reducible rfl
  try simp only [Act.put, List.setIfInBounds_toArray, List.set_cons_zero, List.set_cons_succ]
  refine wpAnyH_ready (rs := [2]) (by as_aux_lemma => kernel_rfl) (by simp) ?_
  refine AllReadyH.cons (o := { dst := some 8, op := _, type := _, pos := _, after := _, guard := _ }) rfl (fun K hK => ?_) AllReadyH.nil
  go_simp
  (try dsimp only at hHeld); go_split_ands
  refine (D1.out _ (HT1.out.below hd9)).mono ?_
  rintro e V1 ⟨rfl, hb9⟩
  replace hd9 := bl_trans hd9 hb9
  clear hb9
  go_wp2_with fail
  refine hK.out _ _ ?_ (fun hHeld => ?_)
  · (try dsimp only); go_split_ands; exact ⟨hd9, trivial⟩
  clear hK K
  try simp only [Act.put, List.setIfInBounds_toArray, List.set_cons_zero, List.set_cons_succ]
  refine wpAnyH_take (i := 3) (oi := { dst := some 9, op := _, type := _, pos := _, after := _, guard := _ }) (v := ?_) rfl (by as_aux_lemma => kernel_rfl) (by as_aux_lemma => kernel_rfl) (by as_aux_lemma => kernel_rfl) (fun _ _ _ h => h) (Or.inl ⟨by as_aux_lemma => kernel_rfl, ?_⟩) (by assumption) ?_
  rotate_left
  · intro w hSw
    try dsimp only at hSw
    go_simp
    try with_reducible rfl
  try simp only [Act.put, List.setIfInBounds_toArray, List.set_cons_zero, List.set_cons_succ]
  refine wpAnyH_ready (rs := [7]) (by as_aux_lemma => kernel_rfl) (by simp) ?_
  refine AllReadyH.cons (o := { dst := some 13, op := _, type := _, pos := _, after := _, guard := _ }) rfl (fun K hK => ?_) AllReadyH.nil
  go_simp
  (try dsimp only at hHeld); go_split_ands
  refine (D2.out _ (HT1.out.below hd9).pow).mono ?_
  rintro e V2 ⟨rfl, hb9⟩
  replace hd9 := bl_trans hd9 hb9
  clear hb9
  go_wp2_with fail
  refine hK.out _ _ ?_ (fun hHeld => ?_)
  · (try dsimp only); go_split_ands; exact ⟨hd9, trivial⟩
  clear hK K
  try simp only [Act.put, List.setIfInBounds_toArray, List.set_cons_zero, List.set_cons_succ]
  refine wpAnyH_take (i := 8) (oi := { dst := some 14, op := _, type := _, pos := _, after := _, guard := _ }) (v := ?_) rfl (by as_aux_lemma => kernel_rfl) (by as_aux_lemma => kernel_rfl) (by as_aux_lemma => kernel_rfl) (fun _ _ _ h => h) (Or.inl ⟨by as_aux_lemma => kernel_rfl, ?_⟩) (by assumption) ?_
  rotate_left
  · intro w hSw
    try dsimp only at hSw
    go_simp
    try with_reducible rfl
  try simp only [Act.put, List.setIfInBounds_toArray, List.set_cons_zero, List.set_cons_succ]
  refine wpAnyH_take (i := 9) (oi := { dst := some 15, op := _, type := _, pos := _, after := _, guard := _ }) (v := ?_) rfl (by as_aux_lemma => kernel_rfl) (by as_aux_lemma => kernel_rfl) (by as_aux_lemma => kernel_rfl) (fun _ _ _ h => h) (Or.inl ⟨by as_aux_lemma => kernel_rfl, ?_⟩) (by assumption) ?_
  rotate_left
  · intro w hSw
    try dsimp only at hSw
    go_simp
    try with_reducible rfl
  try simp only [Act.put, List.setIfInBounds_toArray, List.set_cons_zero, List.set_cons_succ]
  refine wpAnyH_take (i := 10) (oi := { dst := some 2, op := _, type := _, pos := _, after := _, guard := _ }) (v := ?_) rfl (by as_aux_lemma => kernel_rfl) (by as_aux_lemma => kernel_rfl) (by as_aux_lemma => kernel_rfl) (fun _ _ _ h => h) (Or.inl ⟨by as_aux_lemma => kernel_rfl, ?_⟩) (by assumption) ?_
  rotate_left
  · intro w hSw
    try dsimp only at hSw
    go_simp
    try with_reducible rfl
  try simp only [Act.put, List.setIfInBounds_toArray, List.set_cons_zero, List.set_cons_succ]
  refine wpAnyH_done (by as_aux_lemma => kernel_rfl) ?_ _
  clear hHeld
  replace hv := bl_trans hv hd9
  go_wp2_with fail
  go_returns
  exact Ret.mk (vs (HE.out.trans HP.out).symm) hv
end Go.Proofs.YtihgjmhhpiobbaaGreatDoor
