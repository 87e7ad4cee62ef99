/- Styles: the words of the clauses in which two styles differ, the program's. -/
import Derived.Test.YtihgjmhhpiobbaaDoorStyJ
import Derived.Test.YtihgjmhhpiobbaaDoorStyD
import Derived.Lib.SliceRun
namespace Go.Proofs.YtihgjmhhpiobbaaDoor
open Go.RowKit

theorem bl_sets {a : World} {g : Nat} (hg : a.heap.size ≤ g) : ∀ (vs : List Value) (o : Nat) (w : World), Below a.heap.size a w → Below a.heap.size a (w.setCells g o vs)
  | [], _, _, h => h
  | v :: r, o, w, h => bl_sets hg r (o + 1) (w.setCell ⟨g, o, none⟩ v) (bl_set h (p := ⟨g, o, none⟩) hg v)
theorem Blk.sets {g : Nat} {t : TypeId} : ∀ (vs : List Value) (o : Nat) (w : World) (cs : Array Value), Blk w g t cs → ∃ cs', Blk (w.setCells g o vs) g t cs'
  | [], _, _, cs, h => ⟨cs, h⟩
  | v :: r, o, w, _, h => Blk.sets r (o + 1) (w.setCell ⟨g, o, none⟩ v) _ (h.set_ o v)
def OutIx (q : ByteArray → Bool) (L : List ByteArray) (n : Nat) (w : World) (e : Ending) (w' : World) : Prop := ∃ r : Int, e = .returned (.int .i64 r) ∧ ((r = -1 ∧ ∀ z ∈ L, q z = false) ∨ ∃ k : Nat, r = (k : Int) ∧ k < n ∧ Kp q L L k (k + 1)) ∧ Below w.heap.size w w'
def OutDe (q : ByteArray → Bool) (L : List ByteArray) (gl c : Nat) (w0 : World) (e : Ending) (w' : World) : Prop := ∃ k : Nat, e = .returned (.slice (some ⟨gl, 0, none⟩) k c) ∧ k = (L.filter fun z => !q z).length ∧ Arr w' (some ⟨gl, 0, none⟩) ((L.filter fun z => !q z).map Value.string) ∧ Below w0.heap.size w0 w'
def OutDf (x y : Style) (w : World) (e : Ending) (w' : World) : Prop := ∃ (A : Option Addr) (k c : Nat), e = .returned (.tuple #[.slice A k c, .int .i64 0]) ∧ k = (dif x y).length ∧ Arr w' A ((dif x y).map Value.string) ∧ Below w.heap.size w w'
set_option maxRecDepth 100000 in
set_option maxHeartbeats 8000000 in
theorem same_c (x y : Style) (hx : Hid (styB x = true)) (hy : Hid (styB y = true)) (t : ByteArray) (ht : t ∈ styW) (ga gb : Nat) (w : World) (hA : Blk w ga 25 #[Value.string x.upper, Value.string x.color, Value.string x.lining, Value.string x.sole, Value.int IntKind.i64 x.thick, Value.int IntKind.i64 x.heel, Value.int IntKind.i64 x.eyelets, Value.int IntKind.i64 x.density, Value.bool x.double]) (hB : Blk w gb 25 #[Value.string y.upper, Value.string y.color, Value.string y.lining, Value.string y.sole, Value.int IntKind.i64 y.thick, Value.int IntKind.i64 y.heel, Value.int IntKind.i64 y.eyelets, Value.int IntKind.i64 y.density, Value.bool y.double]) (hT : Tabs w) :
    Calls Tryd.prog 30 #[.string t, .pointer (some ⟨ga, 0, none⟩), .pointer (some ⟨gb, 0, none⟩)] w (Ret (.bool (sameC x y t)) w) := by
  have HT := Lib.hid hT
  have HA := Lib.hid hA
  have HB := Lib.hid hB
  clear hT hA hB
  have C1 := Lib.hid (fun w h => clause_c x hx t ht w h)
  have C2 := Lib.hid (fun w h => clause_c y hy t ht w h)
  have hr : sameC x y t = decide (clK (kindW t) x = clK (kindW t) y) := rfl
  obtain ⟨r1, h1⟩ : ∃ z, z = clK (kindW t) x := ⟨_, rfl⟩
  obtain ⟨r2, h2⟩ : ∃ z, z = clK (kindW t) y := ⟨_, rfl⟩
  rw [← h1] at C1 hr
  rw [← h2] at C2 hr
  have HR := Lib.hid hr
  clear hr h1 h2 ht hx hy
  go_enter Tryd.func30, Tryd.ntmps30
  go_upto_region 1 with fail
  refine wp_region_held_drew (S := fun w' => Below w.heap.size w w' ∧ True) (by as_aux_lemma => kernel_rfl) ?_ (fun hHeld => ?_)
  · exact ⟨(Below.refl _ _).drew, trivial⟩
  have hd9 := hHeld.1
  refine wpAnyH_take (i := 0) (oi := { dst := some 5, op := _, type := _, pos := _, after := _, guard := _ }) (v := ?_) rfl (by as_aux_lemma => kernel_rfl) (by as_aux_lemma => kernel_rfl) (by as_aux_lemma => kernel_rfl) (fun _ _ _ h => h) (Or.inl ⟨by as_aux_lemma => kernel_rfl, ?_⟩) (by assumption) ?_
  rotate_left
  · intro w hSw
    try dsimp only at hSw
    have hz9 := HA.out.below hSw.1
    have k0 : w.cell? ⟨ga, 0, none⟩ = some (Value.string x.upper) := hz9.cell 0
    have k1 : w.cell? ⟨ga, 1, none⟩ = some (Value.string x.color) := hz9.cell 1
    have k2 : w.cell? ⟨ga, 2, none⟩ = some (Value.string x.lining) := hz9.cell 2
    have k3 : w.cell? ⟨ga, 3, none⟩ = some (Value.string x.sole) := hz9.cell 3
    have k4 : w.cell? ⟨ga, 4, none⟩ = some (Value.int IntKind.i64 x.thick) := hz9.cell 4
    have k5 : w.cell? ⟨ga, 5, none⟩ = some (Value.int IntKind.i64 x.heel) := hz9.cell 5
    have k6 : w.cell? ⟨ga, 6, none⟩ = some (Value.int IntKind.i64 x.eyelets) := hz9.cell 6
    have k7 : w.cell? ⟨ga, 7, none⟩ = some (Value.int IntKind.i64 x.density) := hz9.cell 7
    have k8 : w.cell? ⟨ga, 8, none⟩ = some (Value.bool x.double) := hz9.cell 8
    clear hz9
    go_simp
    try with_reducible rfl
  try simp only [Act.put, List.setIfInBounds_toArray, List.set_cons_zero, List.set_cons_succ]
  refine wpAnyH_take (i := 1) (oi := { dst := some 6, op := _, type := _, pos := _, after := _, guard := _ }) (v := ?_) rfl (by as_aux_lemma => kernel_rfl) (by as_aux_lemma => kernel_rfl) (by as_aux_lemma => kernel_rfl) (fun _ _ _ h => h) (Or.inl ⟨by as_aux_lemma => kernel_rfl, ?_⟩) (by assumption) ?_
  rotate_left
  · intro w hSw
    try dsimp only at hSw
    go_simp
    try with_reducible rfl
  try simp only [Act.put, List.setIfInBounds_toArray, List.set_cons_zero, List.set_cons_succ]
  refine wpAnyH_take (i := 3) (oi := { dst := some 8, op := _, type := _, pos := _, after := _, guard := _ }) (v := ?_) rfl (by as_aux_lemma => kernel_rfl) (by as_aux_lemma => kernel_rfl) (by as_aux_lemma => kernel_rfl) (fun _ _ _ h => h) (Or.inl ⟨by as_aux_lemma => kernel_rfl, ?_⟩) (by assumption) ?_
  rotate_left
  · intro w hSw
    try dsimp only at hSw
    have hz9 := HB.out.below hSw.1
    have k0 : w.cell? ⟨gb, 0, none⟩ = some (Value.string y.upper) := hz9.cell 0
    have k1 : w.cell? ⟨gb, 1, none⟩ = some (Value.string y.color) := hz9.cell 1
    have k2 : w.cell? ⟨gb, 2, none⟩ = some (Value.string y.lining) := hz9.cell 2
    have k3 : w.cell? ⟨gb, 3, none⟩ = some (Value.string y.sole) := hz9.cell 3
    have k4 : w.cell? ⟨gb, 4, none⟩ = some (Value.int IntKind.i64 y.thick) := hz9.cell 4
    have k5 : w.cell? ⟨gb, 5, none⟩ = some (Value.int IntKind.i64 y.heel) := hz9.cell 5
    have k6 : w.cell? ⟨gb, 6, none⟩ = some (Value.int IntKind.i64 y.eyelets) := hz9.cell 6
    have k7 : w.cell? ⟨gb, 7, none⟩ = some (Value.int IntKind.i64 y.density) := hz9.cell 7
    have k8 : w.cell? ⟨gb, 8, none⟩ = some (Value.bool y.double) := hz9.cell 8
    clear hz9
    go_simp
    try with_reducible rfl
  try simp only [Act.put, List.setIfInBounds_toArray, List.set_cons_zero, List.set_cons_succ]
  refine wpAnyH_take (i := 4) (oi := { dst := some 9, op := _, type := _, pos := _, after := _, guard := _ }) (v := ?_) rfl (by as_aux_lemma => kernel_rfl) (by as_aux_lemma => kernel_rfl) (by as_aux_lemma => kernel_rfl) (fun _ _ _ h => h) (Or.inl ⟨by as_aux_lemma => kernel_rfl, ?_⟩) (by assumption) ?_
  rotate_left
  · intro w hSw
    try dsimp only at hSw
    go_simp
    try with_reducible rfl
  try simp only [Act.put, List.setIfInBounds_toArray, List.set_cons_zero, List.set_cons_succ]
  refine wpAnyH_ready (rs := [2]) (by as_aux_lemma => kernel_rfl) (by simp) ?_
  refine AllReadyH.cons (o := { dst := some 7, op := _, type := _, pos := _, after := _, guard := _ }) rfl (fun K hK => ?_) AllReadyH.nil
  go_simp
  (try dsimp only at hHeld); go_split_ands
  refine (C1.out _ (HT.out.below hd9)).mono ?_
  rintro e W1 ⟨rfl, hb9⟩
  replace hd9 := bl_trans hd9 hb9
  clear hb9
  go_wp2_with fail
  refine hK.out _ _ ?_ (fun hHeld => ?_)
  · (try dsimp only); go_split_ands; exact ⟨hd9, trivial⟩
  clear hK K
  try simp only [Act.put, List.setIfInBounds_toArray, List.set_cons_zero, List.set_cons_succ]
  refine wpAnyH_ready (rs := [5]) (by as_aux_lemma => kernel_rfl) (by simp) ?_
  refine AllReadyH.cons (o := { dst := some 10, op := _, type := _, pos := _, after := _, guard := _ }) rfl (fun K hK => ?_) AllReadyH.nil
  go_simp
  (try dsimp only at hHeld); go_split_ands
  refine (C2.out _ (HT.out.below hd9)).mono ?_
  rintro e W2 ⟨rfl, hb9⟩
  replace hd9 := bl_trans hd9 hb9
  clear hb9
  go_wp2_with fail
  refine hK.out _ _ ?_ (fun hHeld => ?_)
  · (try dsimp only); go_split_ands; exact ⟨hd9, trivial⟩
  clear hK K
  try simp only [Act.put, List.setIfInBounds_toArray, List.set_cons_zero, List.set_cons_succ]
  refine wpAnyH_take (i := 6) (oi := { dst := some 11, op := _, type := _, pos := _, after := _, guard := _ }) (v := ?_) rfl (by as_aux_lemma => kernel_rfl) (by as_aux_lemma => kernel_rfl) (by as_aux_lemma => kernel_rfl) (fun _ _ _ h => h) (Or.inl ⟨by as_aux_lemma => kernel_rfl, ?_⟩) (by assumption) ?_
  rotate_left
  · intro w hSw
    try dsimp only at hSw
    go_simp
    try with_reducible rfl
  try simp only [Act.put, List.setIfInBounds_toArray, List.set_cons_zero, List.set_cons_succ]
  refine wpAnyH_take (i := 7) (oi := { dst := some 4, op := _, type := _, pos := _, after := _, guard := _ }) (v := ?_) rfl (by as_aux_lemma => kernel_rfl) (by as_aux_lemma => kernel_rfl) (by as_aux_lemma => kernel_rfl) (fun _ _ _ h => h) (Or.inl ⟨by as_aux_lemma => kernel_rfl, ?_⟩) (by assumption) ?_
  rotate_left
  · intro w hSw
    try dsimp only at hSw
    go_simp
    try with_reducible rfl
  try simp only [Act.put, List.setIfInBounds_toArray, List.set_cons_zero, List.set_cons_succ]
  refine wpAnyH_done (by as_aux_lemma => kernel_rfl) ?_ _
  clear hHeld
  go_wp2_with fail
  go_returns
  exact Ret.mk (vb (by rw [HR.out, bytes_beq])) hd9
set_option maxRecDepth 100000 in
set_option maxHeartbeats 4000000 in
theorem indexSty_c (q : ByteArray → Bool) (L : List ByteArray) (n c gl ga gb : Nat) (hn : Hid (L.length = n)) (hm : n ≤ 1000) (w0 : World) (HP : Hid (∀ t ∈ L, ∀ W : World, Below w0.heap.size w0 W → Calls Tryd.prog 30 #[.string t, .pointer (some ⟨ga, 0, none⟩), .pointer (some ⟨gb, 0, none⟩)] W (Ret (.bool (q t)) W))) (w : World) (hb : Below w0.heap.size w0 w) (hL : Hid (Blk w gl 9 (L.map Value.string).toArray)) :
    Calls Tryd.prog 52 #[.slice (some ⟨gl, 0, none⟩) n c, .func (.func 30) #[] #[.pointer (some ⟨ga, 0, none⟩), .pointer (some ⟨gb, 0, none⟩)]] w (OutIx q L n w) := by
  go_enter Tryd.func52, Tryd.ntmps52
  go_wp2_with fail
  have hR := Lib.hid (show ∀ z ∈ L.take 0, q z = false by simp)
  go_loopw [8] (fun i wr => ∃ k : Nat, k ≤ n ∧ i = .int .i64 k ∧ Hid (∀ z ∈ L.take k, q z = false) ∧ Below w.heap.size w wr) (fun i _ => n - (intOf i).toNat)
  case atStart => exact ⟨0, by omega, rfl, hR, Below.refl _ _⟩
  case round =>
    clear hR
    obtain ⟨k, hk, rfl, hR, hbel⟩ := hrel
    have hk0 : (0 : Int) ≤ (k : Int) := by omega
    by_cases hlt : k < n
    · obtain ⟨t, ht⟩ := get_of_lt (xs := L) (k := k) (by rw [hn.out]; exact hlt)
      have hk1 : (k : Int) < (n : Int) := by omega
      have c0 : wr.cell? ⟨gl, k, none⟩ = some (.string t) := by
        rw [(hL.out.below hbel).cell k]
        simp [ht]
      have HPT9 := Lib.hid (fun W h => HP.out t (List.mem_of_getElem? ht) W h)
      have HTT := Lib.hid ht
      clear ht
      go_wp2_with fail
      refine (HPT9.out _ (bl_trans hb hbel)).mono ?_
      rintro e w1 ⟨rfl, hb1⟩
      replace hbel := bl_trans hbel hb1
      clear hb1 c0
      cases hq : q t
      · have hR2 := Lib.hid (show ∀ z ∈ L.take (k + 1), q z = false by
          rw [take_at HTT.out]
          intro z hz
          rcases List.mem_append.1 hz with hz | hz
          · exact hR.out z hz
          · rw [List.mem_singleton] at hz; rw [hz]; exact hq)
        clear hq HTT HPT9
        go_wp2_with fail
        exact ⟨⟨k + 1, by omega, by go_num, hR2, hbel⟩, by simp [intOf]; omega⟩
      · have hR2 := Lib.hid (Kp.start HTT.out hq hR.out)
        clear hq HTT HPT9
        go_wp2_with fail
        go_returns
        exact ⟨_, rfl, .inr ⟨k, rfl, hlt, hR2.out⟩, hbel⟩
    · have hkn : k = n := by omega
      subst hkn
      have hk1 : ¬ (k : Int) < (k : Int) := by omega
      have hR2 := Lib.hid (show ∀ z ∈ L, q z = false by have h := hR.out; rwa [List.take_of_length_le (by rw [hn.out]; omega)] at h)
      clear hR
      go_wp2_with fail
      go_returns
      exact ⟨_, rfl, .inl ⟨rfl, hR2.out⟩, hbel⟩
set_option maxRecDepth 100000 in
set_option maxHeartbeats 8000000 in
theorem deleteSty_c (q : ByteArray → Bool) (L : List ByteArray) (n c gl ga gb : Nat) (hn : Hid (L.length = n)) (hm : n ≤ 1000) (hc : n ≤ c) (w0 : World) (hge : w0.heap.size ≤ gl) (HP : Hid (∀ t ∈ L, ∀ W : World, Below w0.heap.size w0 W → Calls Tryd.prog 30 #[.string t, .pointer (some ⟨ga, 0, none⟩), .pointer (some ⟨gb, 0, none⟩)] W (Ret (.bool (q t)) W))) (w : World) (hb : Below w0.heap.size w0 w) (hL : Hid (Blk w gl 9 (L.map Value.string).toArray)) :
    Calls Tryd.prog 29 #[.slice (some ⟨gl, 0, none⟩) n c, .func (.func 30) #[] #[.pointer (some ⟨ga, 0, none⟩), .pointer (some ⟨gb, 0, none⟩)]] w (OutDe q L gl c w0) := by
  go_enter Tryd.func29, Tryd.ntmps29
  go_wp2_with fail
  refine (indexSty_c q L n c gl ga gb hn hm w0 HP _ hb hL).mono ?_
  rintro e W1 ⟨r, rfl, hr, hb1⟩
  replace hb := bl_trans hb hb1
  replace hL := Lib.hid (hL.out.below hb1)
  clear hb1
  rcases hr with ⟨rfl, hall⟩ | ⟨k, rfl, hk, hkp⟩
  · have HF := Lib.hid (show (L.filter fun z => !q z) = L by rw [List.filter_eq_self]; intro z hz; rw [hall z hz]; rfl)
    clear hall
    go_wp2_with fail
    go_returns
    refine ⟨n, rfl, by rw [HF.out]; exact hn.out.symm, ?_, hb⟩
    rw [HF.out]
    intro _
    refine ⟨_, rfl, hL.out.lt, fun j u hu => ?_⟩
    have hadd : (⟨gl, 0, none⟩ : Addr).add j = ⟨gl, j, none⟩ := by unfold Addr.add; split <;> simp_all
    rw [hadd, hL.out.cell j]
    simpa using hu
  · have hne : ((k : Int) == -1) = false := by rw [beq_eq_false_iff_ne]; omega
    have HK := Lib.hid hkp
    clear hkp
    go_wp2_with fail
    go_loopw [5, 6, 7] (fun i j _ wr => ∃ (a b : Nat) (D : List ByteArray), i = .int .i64 a ∧ j = .int .i64 b ∧ b ≤ n ∧ Hid (Kp q L D a b) ∧ Hid (Blk wr gl 9 (D.map Value.string).toArray) ∧ Below w0.heap.size w0 wr) (fun _ j _ _ => n - (intOf j).toNat)
    case atStart => exact ⟨k, k + 1, L, rfl, by go_num, by omega, HK, hL, hb⟩
    case round =>
      clear HK hL hb hne
      obtain ⟨a, b, D, rfl, rfl, hbn, HK, hL, hb⟩ := hrel
      have hab := HK.out.lt
      have hb0 : (0 : Int) ≤ (b : Int) := by omega
      have ha0 : (0 : Int) ≤ (a : Int) := by omega
      have ha1 : (a : Int) < (n : Int) := by omega
      by_cases hlt : b < n
      · obtain ⟨t, ht⟩ := get_of_lt (xs := L) (k := b) (by rw [hn.out]; exact hlt)
        have hb1 : (b : Int) < (n : Int) := by omega
        have hd := HK.out.high b (by omega)
        rw [ht] at hd
        have c0 : wr.cell? ⟨gl, b, none⟩ = some (.string t) := by
          rw [hL.out.cell b]
          simp [hd]
        have HPT9 := Lib.hid (fun W h => HP.out t (List.mem_of_getElem? ht) W h)
        have HTT := Lib.hid ht
        clear ht hd
        go_wp2_with fail
        refine (HPT9.out _ hb).mono ?_
        rintro e W2 ⟨rfl, hb2⟩
        replace hb := bl_trans hb hb2
        replace hL := Lib.hid (hL.out.below hb2)
        clear hb2 c0 HPT9
        cases hq : q t
        · have HK2 := Lib.hid (HK.out.keep HTT.out hq)
          obtain ⟨old, hold⟩ := get_of_lt (xs := D) (k := a) (by rw [HK.out.len, hn.out]; omega)
          have ca : W2.cell? ⟨gl, a, none⟩ = some (.string old) := by
            rw [hL.out.cell a]
            simp [hold]
          have fa := hL.out.frozen a
          clear hq hold
          go_wp2_with fail
          refine ⟨⟨a + 1, b + 1, D.set a t, by go_num, by go_num, by omega, HK2, Lib.hid ?_, bl_set hb (p := ⟨gl, a, none⟩) hge _⟩, by simp [intOf]; omega⟩
          have h9 := hL.out.set_ a (.string t)
          rw [List.setIfInBounds_toArray, ← List.map_set] at h9
          exact h9
        · have HK2 := Lib.hid (HK.out.skip HTT.out hq)
          clear hq
          go_wp2_with fail
          exact ⟨⟨a, b + 1, D, rfl, by go_num, by omega, HK2, hL, hb⟩, by simp [intOf]; omega⟩
      · have hbn2 : b = n := by omega
        subst hbn2
        have hb1 : ¬ (b : Int) < (b : Int) := by omega
        have HK2 := Lib.hid (show Kp q L D a L.length by rw [hn.out]; exact HK.out)
        have hdl : D.length = b := HK.out.len.trans hn.out
        have hcl : ∀ ty, (Builtin.clear_ #[35] ty #[.slice (some ⟨gl, a, none⟩) (b - a) (c - a)]).run Tryd.prog wr = .ok (.tuple #[]) (wr.setCells gl a (List.replicate (b - a) (.string ⟨#[]⟩))) :=
          fun ty => Lib.run_clear_slice wr _ _ ty (.string ⟨#[]⟩) Tryd.underlying35 (fun w => by kernel_rfl) rfl rfl gl a _ _ (by omega) (fun t ht => by rw [hL.out.cell]; simp; omega) (fun t ht => hL.out.frozen _)
        clear HK
        go_wp2_with fail
        go_returns
        refine ⟨a, rfl, HK2.out.num.symm, ?_, bl_sets hge _ _ _ hb⟩
        rw [← HK2.out.done]
        intro _
        obtain ⟨cs, hcs⟩ := Blk.sets (List.replicate (b - a) (Value.string ⟨#[]⟩)) a wr _ hL.out
        refine ⟨_, rfl, hcs.lt, fun j u hu => ?_⟩
        have hadd : (⟨gl, 0, none⟩ : Addr).add j = ⟨gl, j, none⟩ := by unfold Addr.add; split <;> simp_all
        have hj : j < a := by
          rcases Nat.lt_or_ge j a with h | h
          · exact h
          · rw [List.getElem?_eq_none (by simp; omega)] at hu; cases hu
        rw [hadd, World.cell?_setCells_out gl _ a wr _ (fun _ _ => .inl hj), hL.out.cell j]
        rw [List.getElem?_map, List.getElem?_take_of_lt hj] at hu
        simpa using hu

set_option maxRecDepth 100000 in
set_option maxHeartbeats 8000000 in
theorem DiffStyles_c (x y : Style) (hx : Hid (styB x = true)) (hy : Hid (styB y = true)) (w : World) (hT : Tabs w) : Calls Tryd.prog 13 #[.agg #[.string x.upper, .string x.color, .string x.lining, .string x.sole, .int .i64 x.thick, .int .i64 x.heel, .int .i64 x.eyelets, .int .i64 x.density, .bool x.double], .agg #[.string y.upper, .string y.color, .string y.lining, .string y.sole, .int .i64 y.thick, .int .i64 y.heel, .int .i64 y.eyelets, .int .i64 y.density, .bool y.double]] w (OutDf x y w) := by
  have HT := Lib.hid hT
  clear hT
  have HD := Lib.hid (dif_filter hx.out hy.out)
  have hsx : Hid (x.upper.size ≤ 4194304 ∧ x.color.size ≤ 4194304 ∧ x.lining.size ≤ 4194304 ∧ x.sole.size ≤ 4194304) := Lib.hid (by have h := (sty_small hx.out).1; omega)
  have hsy : Hid (y.upper.size ≤ 4194304 ∧ y.color.size ≤ 4194304 ∧ y.lining.size ≤ 4194304 ∧ y.sole.size ≤ 4194304) := Lib.hid (by have h := (sty_small hy.out).1; omega)
  have V1 := fun w => ValidStyle_c x hsx w
  have V2 := fun w => ValidStyle_c y hsy w
  rw [hx.out] at V1
  rw [hy.out] at V2
  replace V1 := Lib.hid V1
  replace V2 := Lib.hid V2
  obtain ⟨W, hW⟩ : ∃ W, W = (w.alloc (Obj.cells #[Value.string x.upper, Value.string x.color, Value.string x.lining, Value.string x.sole, Value.int IntKind.i64 x.thick, Value.int IntKind.i64 x.heel, Value.int IntKind.i64 x.eyelets, Value.int IntKind.i64 x.density, Value.bool x.double] 25)).alloc (Obj.cells #[Value.string y.upper, Value.string y.color, Value.string y.lining, Value.string y.sole, Value.int IntKind.i64 y.thick, Value.int IntKind.i64 y.heel, Value.int IntKind.i64 y.eyelets, Value.int IntKind.i64 y.density, Value.bool y.double] 25) := ⟨_, rfl⟩
  obtain ⟨ga, hga⟩ : ∃ g, g = w.heap.size := ⟨_, rfl⟩
  obtain ⟨gb, hgb⟩ : ∃ g, g = w.heap.size + 1 := ⟨_, rfl⟩
  have hv : Below w.heap.size w W := by rw [hW]; exact bl_alloc (bl_alloc (Below.refl _ _) _) _
  have hX : Hid (Blk W ga 25 #[Value.string x.upper, Value.string x.color, Value.string x.lining, Value.string x.sole, Value.int IntKind.i64 x.thick, Value.int IntKind.i64 x.heel, Value.int IntKind.i64 x.eyelets, Value.int IntKind.i64 x.density, Value.bool x.double]) := Lib.hid (by rw [hW, hga]; exact (Blk.new _ _ _).alloc _)
  have hY : Hid (Blk W gb 25 #[Value.string y.upper, Value.string y.color, Value.string y.lining, Value.string y.sole, Value.int IntKind.i64 y.thick, Value.int IntKind.i64 y.heel, Value.int IntKind.i64 y.eyelets, Value.int IntKind.i64 y.density, Value.bool y.double]) := Lib.hid (by
    have h := Blk.new (w.alloc (Obj.cells #[Value.string x.upper, Value.string x.color, Value.string x.lining, Value.string x.sole, Value.int IntKind.i64 x.thick, Value.int IntKind.i64 x.heel, Value.int IntKind.i64 x.eyelets, Value.int IntKind.i64 x.density, Value.bool x.double] 25)) 25 #[Value.string y.upper, Value.string y.color, Value.string y.lining, Value.string y.sole, Value.int IntKind.i64 y.thick, Value.int IntKind.i64 y.heel, Value.int IntKind.i64 y.eyelets, Value.int IntKind.i64 y.density, Value.bool y.double]
    rw [World.size_alloc] at h
    rw [hW, hgb]; exact h)
  have HW := Lib.hid hW
  have HGA := Lib.hid hga
  have HGB := Lib.hid hgb
  clear hW hga hgb
  go_enter Tryd.func13, Tryd.ntmps13
  go_upto_region 1 with fail
  rw [← HW.out, ← HGB.out, ← HGA.out]
  clear HW HGA HGB
  go_wp2_with (first | refine wpList_load_row rfl 25 _ rfl ga rfl 25 #[Value.string x.upper, Value.string x.color, Value.string x.lining, Value.string x.sole, Value.int IntKind.i64 x.thick, Value.int IntKind.i64 x.heel, Value.int IntKind.i64 x.eyelets, Value.int IntKind.i64 x.density, Value.bool x.double] (0, 0) _ hX.out Tryd.underlying25 rfl (by kernel_rfl) ?_ | refine wpList_load_row rfl 25 _ rfl gb rfl 25 #[Value.string y.upper, Value.string y.color, Value.string y.lining, Value.string y.sole, Value.int IntKind.i64 y.thick, Value.int IntKind.i64 y.heel, Value.int IntKind.i64 y.eyelets, Value.int IntKind.i64 y.density, Value.bool y.double] (0, 0) _ hY.out Tryd.underlying25 rfl (by kernel_rfl) ?_)
  refine (V1.out _).mono ?_
  rintro e W1 ⟨rfl, hb⟩
  replace hv := bl_trans hv hb
  replace hX := Lib.hid (hX.out.below hb)
  replace hY := Lib.hid (hY.out.below hb)
  clear hb V1
  have k0 : W1.cell? ⟨gb, 0, none⟩ = some (Value.string y.upper) := hY.out.cell 0
  have k1 : W1.cell? ⟨gb, 1, none⟩ = some (Value.string y.color) := hY.out.cell 1
  have k2 : W1.cell? ⟨gb, 2, none⟩ = some (Value.string y.lining) := hY.out.cell 2
  have k3 : W1.cell? ⟨gb, 3, none⟩ = some (Value.string y.sole) := hY.out.cell 3
  have k4 : W1.cell? ⟨gb, 4, none⟩ = some (Value.int IntKind.i64 y.thick) := hY.out.cell 4
  have k5 : W1.cell? ⟨gb, 5, none⟩ = some (Value.int IntKind.i64 y.heel) := hY.out.cell 5
  have k6 : W1.cell? ⟨gb, 6, none⟩ = some (Value.int IntKind.i64 y.eyelets) := hY.out.cell 6
  have k7 : W1.cell? ⟨gb, 7, none⟩ = some (Value.int IntKind.i64 y.density) := hY.out.cell 7
  have k8 : W1.cell? ⟨gb, 8, none⟩ = some (Value.bool y.double) := hY.out.cell 8
  go_wp2_with fail
  refine (V2.out _).mono ?_
  rintro e W2 ⟨rfl, hb⟩
  replace hv := bl_trans hv hb
  replace hX := Lib.hid (hX.out.below hb)
  replace hY := Lib.hid (hY.out.below hb)
  clear hb V2
  go_wp2_with fail
  refine (StyleWords_c _).mono ?_
  rintro e W3 ⟨rfl, hq⟩
  have hL : Hid (Blk W3 W2.heap.size 9 (styW.map Value.string).toArray) := Lib.hid (by rw [hq]; exact Blk.new _ _ _)
  have hb : Below W2.heap.size W2 W3 := by rw [hq]; exact bl_alloc (Below.refl _ _) _
  have HT2 := Lib.hid (HT.out.below hv)
  have HP := Lib.hid (fun t (ht : t ∈ styW) (V : World) (h : Below W2.heap.size W2 V) => same_c x y hx hy t ht ga gb V (hX.out.below h) (hY.out.below h) (HT2.out.below h))
  have HDE := Lib.hid (deleteSty_c (sameC x y) styW 6 6 W2.heap.size ga gb (Lib.hid rfl) (by omega) (by omega) W2 (Nat.le_refl _) HP W3 hb hL)
  clear hq HP HT2 hL hb
  go_wp2_with fail
  refine HDE.out.mono ?_
  rintro e W4 ⟨k, rfl, hk, hA, hb⟩
  rw [HD.out] at hk hA
  have HA := Lib.hid hA
  have HK := Lib.hid hk
  replace hv := bl_trans hv hb
  clear hk hA hb HDE
  go_wp2_with fail
  go_returns
  exact ⟨_, k, 6, rfl, HK.out, HA.out, hv⟩
end Go.Proofs.YtihgjmhhpiobbaaDoor
