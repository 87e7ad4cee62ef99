/- The best sole: the closure that is told each sole. -/
import Derived.Test.YtefkfkdpfecnoaaBstA
namespace Go.Proofs.Ytefkfkdpfecnoaa
open Go.RowKit

/-- the boxes that the closure reads, and the two that it writes -/
structure BInv (A : Option Addr) (n c : Nat) (T S : Int) (FV : FuncId) (gl gt gs gv gB gL : Nat) (st : Bst) (w : World) : Prop where
  l : Blk w gl 24 #[.slice A n c]
  t : Blk w gt 2 #[.int .i64 T]
  s : Blk w gs 2 #[.int .i64 S]
  v : Blk w gv 53 #[.func (.func FV) #[] #[]]
  L : Blk w gL 2 #[.int .i64 st.2]
  B : ∃ (B : Option Addr) (d : Nat), Blk w gB 29 #[.slice B st.1.length d] ∧ Arr w B (flat icell st.1) ∧ plForm B st.1.length d gB gL
theorem BInv.below {A : Option Addr} {n c : Nat} {T S : Int} {FV : FuncId} {gl gt gs gv gB gL : Nat} {st : Bst} {w w' : World} (h : BInv A n c T S FV gl gt gs gv gB gL st w) (hb : Below w.heap.size w w') : BInv A n c T S FV gl gt gs gv gB gL st w' := by
  obtain ⟨B, d, h1, h2, h3⟩ := h.B
  exact ⟨h.l.below hb, h.t.below hb, h.s.below hb, h.v.below hb, h.L.below hb, B, d, h1.below hb, h2.below hb, h3⟩
/-- behind the closure -/
def OutY (A : Option Addr) (n c : Nat) (T S : Int) (FV : FuncId) (gl gt gs gv gB gL : Nat) (st : Bst) (w : World) (e : Ending) (w' : World) : Prop := e = .returned (.tuple #[]) ∧ BInv A n c T S FV gl gt gs gv gB gL st w' ∧ Fr gB gL w w'
set_option maxRecDepth 100000 in
set_option maxHeartbeats 2000000 in
theorem yield_c (A : Option Addr) (xs : List Stuff) (n c : Nat) (hn : Hid (xs.length = n)) (hm : (n : Int) ≤ 1048576) (hs : Hid (∀ x ∈ xs, x.name.size ≤ 9223372036854775807)) (T S : Int) (f : Stuff → Int) (FV : FuncId)
    (HV : Hid (∀ (B : Option Addr) (ps : List Int) (m d : Nat) (w : World), Hid (ps.length = m) → (m : Int) ≤ 1048576 → Hid (soleB xs ps = true) → Arr w A (flat Stuff.cells xs) → Arr w B (flat icell ps) → Calls Try.prog 54 #[.agg #[.slice B m d], .slice A n c, .func (.func FV) #[] #[]] w (Ret (.int .i64 (sumR f xs ps)) w)))
    (gl gt gs gv gB gL : Nat) (hdl : gl < gB ∧ gt < gB ∧ gs < gB ∧ gv < gB ∧ gB < gL) (hfa : farA A gB gL) (st : Bst) (B : Option Addr) (ps : List Int) (m cc : Nat) (hp : Hid (ps.length = m)) (hm' : (m : Int) ≤ 6) (hso : Hid (soleB xs ps = true)) (hBf : plForm B m cc gB gL) (w : World)
    (hI : BInv A n c T S FV gl gt gs gv gB gL st w) (hA : Arr w A (flat Stuff.cells xs)) (hB : Arr w B (flat icell ps)) :
    Calls Try.prog 53 #[.agg #[.slice B m cc], .pointer (some ⟨gl, 0, none⟩), .pointer (some ⟨gt, 0, none⟩), .pointer (some ⟨gs, 0, none⟩), .pointer (some ⟨gv, 0, none⟩), .pointer (some ⟨gL, 0, none⟩), .pointer (some ⟨gB, 0, none⟩)] w (OutY A n c T S FV gl gt gs gv gB gL (updB xs T S f ps st) w) := by
  have _h1 := hfa
  have HTH := Lib.hid (fun w h1 h2 => total_thick_c A xs n c hn hm hs B ps m cc hp (by omega) hso w h1 h2)
  have HST := Lib.hid (fun w h1 h2 => total_stiff_c A xs n c hn hm hs B ps m cc hp (by omega) hso w h1 h2)
  have HVL := Lib.hid (fun w h1 h2 => HV.out B ps m cc w hp (by omega) hso h1 h2)
  obtain ⟨th, hth⟩ : ∃ th, th = sumR Stuff.thick xs ps := ⟨_, rfl⟩
  obtain ⟨sf, hsf⟩ : ∃ sf, sf = sumR Stuff.stiff xs ps := ⟨_, rfl⟩
  obtain ⟨vl, hvl⟩ : ∃ vl, vl = sumR f xs ps := ⟨_, rfl⟩
  have HU := Lib.hid (show updB xs T S f ps st = if (decide (th = T) && decide (sf ≤ S)) = true ∧ (st.2 < 0 ∨ vl < st.2) then (ps, vl) else st by rw [hth, hsf, hvl]; rfl)
  rw [← hth] at HTH
  rw [← hsf] at HST
  rw [← hvl] at HVL
  clear hth hsf hvl
  go_enter Try.func53, Try.ntmps53
  obtain ⟨W0, hW0⟩ : ∃ W0, W0 = w.alloc (Obj.cells #[Value.slice B m cc] 29) := ⟨_, rfl⟩
  obtain ⟨gx, hgx⟩ : ∃ gx, gx = w.heap.size := ⟨_, rfl⟩
  have hb0 : Below w.heap.size w W0 := by rw [hW0]; exact bl_alloc (Below.refl _ _) _
  have hX : Blk W0 gx 29 #[Value.slice B m cc] := by rw [hW0, hgx]; exact Blk.new _ _ _
  have hv := hb0
  go_wp2_with fail
  rw [← hW0, ← hgx]
  have HGX := Lib.hid hgx
  clear hW0 hgx
  by_cases hT : th = T
  case neg =>
    have ht : (th != T) = true := by rw [bne_iff_ne]; exact hT
    have HE := Lib.hid (show updB xs T S f ps st = st by rw [HU.out, if_neg]; simp [hT])
    clear hT HU
    refine wp_region_held_drew (S := fun w' => Below w.heap.size w w' ∧ Blk w' gx 29 #[Value.slice B m cc] ∧ Blk w' gl 24 #[Value.slice A n c] ∧ Blk w' gt 2 #[Value.int IntKind.i64 T] ∧ Blk w' gs 2 #[Value.int IntKind.i64 S]) (by kernel_rfl) ?_ (fun hHeld => ?_)
    · exact ⟨hv.drew, hX.below (Below.refl _ _).drew, (hI.l.below hb0).below (Below.refl _ _).drew, (hI.t.below hb0).below (Below.refl _ _).drew, (hI.s.below hb0).below (Below.refl _ _).drew⟩
    clear hv hX
    refine wpAnyH_take (i := 0) (oi := { dst := some 9, op := _, type := _, pos := _, after := _, guard := _ }) (v := ?_) rfl (by kernel_rfl) (by kernel_rfl) (by kernel_rfl) (fun _ _ _ h => h) (Or.inl ⟨by kernel_rfl, ?_⟩) (by assumption) ?_
    rotate_left
    · intro w hSw
      try dsimp only at hSw
      have y0 : w.cell? ⟨gx, 0, none⟩ = some (.slice B m cc) := hSw.2.1.cell 0
      have y1 : w.cell? ⟨gl, 0, none⟩ = some (.slice A n c) := hSw.2.2.1.cell 0
      have y2 : w.cell? ⟨gt, 0, none⟩ = some (.int .i64 T) := hSw.2.2.2.1.cell 0
      have y3 : w.cell? ⟨gs, 0, none⟩ = some (.int .i64 S) := hSw.2.2.2.2.cell 0
      go_simp
      try with_reducible rfl
    try simp only [Act.put, List.setIfInBounds_toArray, List.set_cons_zero, List.set_cons_succ]
    refine wpAnyH_take (i := 1) (oi := { dst := some 10, op := _, type := _, pos := _, after := _, guard := _ }) (v := ?_) rfl (by kernel_rfl) (by kernel_rfl) (by kernel_rfl) (fun _ _ _ h => h) (Or.inl ⟨by kernel_rfl, ?_⟩) (by assumption) ?_
    rotate_left
    · intro w hSw
      try dsimp only at hSw
      have y0 : w.cell? ⟨gx, 0, none⟩ = some (.slice B m cc) := hSw.2.1.cell 0
      have y1 : w.cell? ⟨gl, 0, none⟩ = some (.slice A n c) := hSw.2.2.1.cell 0
      have y2 : w.cell? ⟨gt, 0, none⟩ = some (.int .i64 T) := hSw.2.2.2.1.cell 0
      have y3 : w.cell? ⟨gs, 0, none⟩ = some (.int .i64 S) := hSw.2.2.2.2.cell 0
      go_simp
      try with_reducible rfl
    try simp only [Act.put, List.setIfInBounds_toArray, List.set_cons_zero, List.set_cons_succ]
    refine wpAnyH_take (i := 3) (oi := { dst := some 12, op := _, type := _, pos := _, after := _, guard := _ }) (v := ?_) rfl (by kernel_rfl) (by kernel_rfl) (by kernel_rfl) (fun _ _ _ h => h) (Or.inl ⟨by kernel_rfl, ?_⟩) (by assumption) ?_
    rotate_left
    · intro w hSw
      try dsimp only at hSw
      have y0 : w.cell? ⟨gx, 0, none⟩ = some (.slice B m cc) := hSw.2.1.cell 0
      have y1 : w.cell? ⟨gl, 0, none⟩ = some (.slice A n c) := hSw.2.2.1.cell 0
      have y2 : w.cell? ⟨gt, 0, none⟩ = some (.int .i64 T) := hSw.2.2.2.1.cell 0
      have y3 : w.cell? ⟨gs, 0, none⟩ = some (.int .i64 S) := hSw.2.2.2.2.cell 0
      go_simp
      try with_reducible rfl
    try simp only [Act.put, List.setIfInBounds_toArray, List.set_cons_zero, List.set_cons_succ]
    refine wpAnyH_ready (rs := [2]) (by kernel_rfl) (by simp) ?_
    refine AllReadyH.cons (o := { dst := some 11, op := _, type := _, pos := _, after := _, guard := _ }) rfl (fun K hK => ?_) AllReadyH.nil
    go_simp
    (try dsimp only at hHeld); go_split_ands
    refine (HTH.out _ (hA.below (by assumption)) (hB.below (by assumption))).mono ?_; rintro e W ⟨rfl, hb⟩
    go_wp2_with fail
    refine hK.out _ _ ?_ (fun hHeld => ?_)
    · (try dsimp only); go_split_ands; exact ⟨bl_trans (by assumption) hb, Blk.below (by assumption) hb, Blk.below (by assumption) hb, Blk.below (by assumption) hb, Blk.below (by assumption) hb⟩
    clear hK K
    try simp only [Act.put, List.setIfInBounds_toArray, List.set_cons_zero, List.set_cons_succ]
    refine wpAnyH_take (i := 4) (oi := { dst := some 13, op := _, type := _, pos := _, after := _, guard := _ }) (v := ?_) rfl (by kernel_rfl) (by kernel_rfl) (by kernel_rfl) (fun _ _ _ h => h) (Or.inl ⟨by kernel_rfl, ?_⟩) (by assumption) ?_
    rotate_left
    · intro w hSw
      try dsimp only at hSw
      go_simp
      try with_reducible rfl
    try simp only [Act.put, List.setIfInBounds_toArray, List.set_cons_zero, List.set_cons_succ]
    refine wpAnyH_take (i := 5) (oi := { dst := some 14, op := _, type := _, pos := _, after := _, guard := _ }) (v := ?_) rfl (by kernel_rfl) (by kernel_rfl) (by kernel_rfl) (fun _ _ _ h => h) (Or.inl ⟨by kernel_rfl, ?_⟩) (by assumption) ?_
    rotate_left
    · intro w hSw
      try dsimp only at hSw
      go_simp
      try with_reducible rfl
    try simp only [Act.put, List.setIfInBounds_toArray, List.set_cons_zero, List.set_cons_succ]
    refine wpAnyH_take (i := 6) (oi := { dst := some 15, op := _, type := _, pos := _, after := _, guard := _ }) (v := undef) rfl (by kernel_rfl) (by kernel_rfl) (by kernel_rfl) (fun _ _ _ h => h) (Or.inr ⟨by kernel_rfl, rfl⟩) (by assumption) ?_
    try simp only [Act.put, List.setIfInBounds_toArray, List.set_cons_zero, List.set_cons_succ]
    refine wpAnyH_take (i := 7) (oi := { dst := some 16, op := _, type := _, pos := _, after := _, guard := _ }) (v := undef) rfl (by kernel_rfl) (by kernel_rfl) (by kernel_rfl) (fun _ _ _ h => h) (Or.inr ⟨by kernel_rfl, rfl⟩) (by assumption) ?_
    try simp only [Act.put, List.setIfInBounds_toArray, List.set_cons_zero, List.set_cons_succ]
    refine wpAnyH_take (i := 8) (oi := { dst := some 17, op := _, type := _, pos := _, after := _, guard := _ }) (v := undef) rfl (by kernel_rfl) (by kernel_rfl) (by kernel_rfl) (fun _ _ _ h => h) (Or.inr ⟨by kernel_rfl, rfl⟩) (by assumption) ?_
    try simp only [Act.put, List.setIfInBounds_toArray, List.set_cons_zero, List.set_cons_succ]
    refine wpAnyH_take (i := 9) (oi := { dst := some 18, op := _, type := _, pos := _, after := _, guard := _ }) (v := undef) rfl (by kernel_rfl) (by kernel_rfl) (by kernel_rfl) (fun _ _ _ h => h) (Or.inr ⟨by kernel_rfl, rfl⟩) (by assumption) ?_
    try simp only [Act.put, List.setIfInBounds_toArray, List.set_cons_zero, List.set_cons_succ]
    refine wpAnyH_take (i := 10) (oi := { dst := some 19, op := _, type := _, pos := _, after := _, guard := _ }) (v := undef) rfl (by kernel_rfl) (by kernel_rfl) (by kernel_rfl) (fun _ _ _ h => h) (Or.inr ⟨by kernel_rfl, rfl⟩) (by assumption) ?_
    try simp only [Act.put, List.setIfInBounds_toArray, List.set_cons_zero, List.set_cons_succ]
    refine wpAnyH_take (i := 11) (oi := { dst := some 20, op := _, type := _, pos := _, after := _, guard := _ }) (v := ?_) rfl (by kernel_rfl) (by kernel_rfl) (by kernel_rfl) (fun _ _ _ h => h) (Or.inl ⟨by kernel_rfl, ?_⟩) (by assumption) ?_
    rotate_left
    · intro w hSw
      try dsimp only at hSw
      go_simp
      try with_reducible rfl
    try simp only [Act.put, List.setIfInBounds_toArray, List.set_cons_zero, List.set_cons_succ]
    refine wpAnyH_done (by kernel_rfl) ?_ _
    go_split_ands
    have hv := (by assumption : Below w.heap.size w _)
    have hX := (by assumption : Blk _ gx 29 _)
    have hl := (by assumption : Blk _ gl 24 _)
    go_wp2_with fail
    go_returns
    rw [HE.out]
    exact ⟨rfl, hI.below hv, Fr.of hv⟩
  have ht : (th != T) = false := by simp [hT]
  refine wp_region_held_drew (S := fun w' => Below w.heap.size w w' ∧ Blk w' gx 29 #[Value.slice B m cc] ∧ Blk w' gl 24 #[Value.slice A n c] ∧ Blk w' gt 2 #[Value.int IntKind.i64 T] ∧ Blk w' gs 2 #[Value.int IntKind.i64 S]) (by kernel_rfl) ?_ (fun hHeld => ?_)
  · exact ⟨hv.drew, hX.below (Below.refl _ _).drew, (hI.l.below hb0).below (Below.refl _ _).drew, (hI.t.below hb0).below (Below.refl _ _).drew, (hI.s.below hb0).below (Below.refl _ _).drew⟩
  clear hv hX
  refine wpAnyH_take (i := 0) (oi := { dst := some 9, op := _, type := _, pos := _, after := _, guard := _ }) (v := ?_) rfl (by kernel_rfl) (by kernel_rfl) (by kernel_rfl) (fun _ _ _ h => h) (Or.inl ⟨by kernel_rfl, ?_⟩) (by assumption) ?_
  rotate_left
  · intro w hSw
    try dsimp only at hSw
    have y0 : w.cell? ⟨gx, 0, none⟩ = some (.slice B m cc) := hSw.2.1.cell 0
    have y1 : w.cell? ⟨gl, 0, none⟩ = some (.slice A n c) := hSw.2.2.1.cell 0
    have y2 : w.cell? ⟨gt, 0, none⟩ = some (.int .i64 T) := hSw.2.2.2.1.cell 0
    have y3 : w.cell? ⟨gs, 0, none⟩ = some (.int .i64 S) := hSw.2.2.2.2.cell 0
    go_simp
    try with_reducible rfl
  try simp only [Act.put, List.setIfInBounds_toArray, List.set_cons_zero, List.set_cons_succ]
  refine wpAnyH_take (i := 1) (oi := { dst := some 10, op := _, type := _, pos := _, after := _, guard := _ }) (v := ?_) rfl (by kernel_rfl) (by kernel_rfl) (by kernel_rfl) (fun _ _ _ h => h) (Or.inl ⟨by kernel_rfl, ?_⟩) (by assumption) ?_
  rotate_left
  · intro w hSw
    try dsimp only at hSw
    have y0 : w.cell? ⟨gx, 0, none⟩ = some (.slice B m cc) := hSw.2.1.cell 0
    have y1 : w.cell? ⟨gl, 0, none⟩ = some (.slice A n c) := hSw.2.2.1.cell 0
    have y2 : w.cell? ⟨gt, 0, none⟩ = some (.int .i64 T) := hSw.2.2.2.1.cell 0
    have y3 : w.cell? ⟨gs, 0, none⟩ = some (.int .i64 S) := hSw.2.2.2.2.cell 0
    go_simp
    try with_reducible rfl
  try simp only [Act.put, List.setIfInBounds_toArray, List.set_cons_zero, List.set_cons_succ]
  refine wpAnyH_take (i := 3) (oi := { dst := some 12, op := _, type := _, pos := _, after := _, guard := _ }) (v := ?_) rfl (by kernel_rfl) (by kernel_rfl) (by kernel_rfl) (fun _ _ _ h => h) (Or.inl ⟨by kernel_rfl, ?_⟩) (by assumption) ?_
  rotate_left
  · intro w hSw
    try dsimp only at hSw
    have y0 : w.cell? ⟨gx, 0, none⟩ = some (.slice B m cc) := hSw.2.1.cell 0
    have y1 : w.cell? ⟨gl, 0, none⟩ = some (.slice A n c) := hSw.2.2.1.cell 0
    have y2 : w.cell? ⟨gt, 0, none⟩ = some (.int .i64 T) := hSw.2.2.2.1.cell 0
    have y3 : w.cell? ⟨gs, 0, none⟩ = some (.int .i64 S) := hSw.2.2.2.2.cell 0
    go_simp
    try with_reducible rfl
  try simp only [Act.put, List.setIfInBounds_toArray, List.set_cons_zero, List.set_cons_succ]
  refine wpAnyH_ready (rs := [2]) (by kernel_rfl) (by simp) ?_
  refine AllReadyH.cons (o := { dst := some 11, op := _, type := _, pos := _, after := _, guard := _ }) rfl (fun K hK => ?_) AllReadyH.nil
  go_simp
  (try dsimp only at hHeld); go_split_ands
  refine (HTH.out _ (hA.below (by assumption)) (hB.below (by assumption))).mono ?_; rintro e W ⟨rfl, hb⟩
  go_wp2_with fail
  refine hK.out _ _ ?_ (fun hHeld => ?_)
  · (try dsimp only); go_split_ands; exact ⟨bl_trans (by assumption) hb, Blk.below (by assumption) hb, Blk.below (by assumption) hb, Blk.below (by assumption) hb, Blk.below (by assumption) hb⟩
  clear hK K
  try simp only [Act.put, List.setIfInBounds_toArray, List.set_cons_zero, List.set_cons_succ]
  refine wpAnyH_take (i := 4) (oi := { dst := some 13, op := _, type := _, pos := _, after := _, guard := _ }) (v := ?_) rfl (by kernel_rfl) (by kernel_rfl) (by kernel_rfl) (fun _ _ _ h => h) (Or.inl ⟨by kernel_rfl, ?_⟩) (by assumption) ?_
  rotate_left
  · intro w hSw
    try dsimp only at hSw
    go_simp
    try with_reducible rfl
  try simp only [Act.put, List.setIfInBounds_toArray, List.set_cons_zero, List.set_cons_succ]
  refine wpAnyH_take (i := 5) (oi := { dst := some 14, op := _, type := _, pos := _, after := _, guard := _ }) (v := ?_) rfl (by kernel_rfl) (by kernel_rfl) (by kernel_rfl) (fun _ _ _ h => h) (Or.inl ⟨by kernel_rfl, ?_⟩) (by assumption) ?_
  rotate_left
  · intro w hSw
    try dsimp only at hSw
    go_simp
    try with_reducible rfl
  try simp only [Act.put, List.setIfInBounds_toArray, List.set_cons_zero, List.set_cons_succ]
  refine wpAnyH_take (i := 6) (oi := { dst := some 15, op := _, type := _, pos := _, after := _, guard := _ }) (v := ?_) rfl (by kernel_rfl) (by kernel_rfl) (by kernel_rfl) (fun _ _ _ h => h) (Or.inl ⟨by kernel_rfl, ?_⟩) (by assumption) ?_
  rotate_left
  · intro w hSw
    try dsimp only at hSw
    have y0 : w.cell? ⟨gx, 0, none⟩ = some (.slice B m cc) := hSw.2.1.cell 0
    have y1 : w.cell? ⟨gl, 0, none⟩ = some (.slice A n c) := hSw.2.2.1.cell 0
    have y2 : w.cell? ⟨gt, 0, none⟩ = some (.int .i64 T) := hSw.2.2.2.1.cell 0
    have y3 : w.cell? ⟨gs, 0, none⟩ = some (.int .i64 S) := hSw.2.2.2.2.cell 0
    go_simp
    try with_reducible rfl
  try simp only [Act.put, List.setIfInBounds_toArray, List.set_cons_zero, List.set_cons_succ]
  refine wpAnyH_take (i := 7) (oi := { dst := some 16, op := _, type := _, pos := _, after := _, guard := _ }) (v := ?_) rfl (by kernel_rfl) (by kernel_rfl) (by kernel_rfl) (fun _ _ _ h => h) (Or.inl ⟨by kernel_rfl, ?_⟩) (by assumption) ?_
  rotate_left
  · intro w hSw
    try dsimp only at hSw
    have y0 : w.cell? ⟨gx, 0, none⟩ = some (.slice B m cc) := hSw.2.1.cell 0
    have y1 : w.cell? ⟨gl, 0, none⟩ = some (.slice A n c) := hSw.2.2.1.cell 0
    have y2 : w.cell? ⟨gt, 0, none⟩ = some (.int .i64 T) := hSw.2.2.2.1.cell 0
    have y3 : w.cell? ⟨gs, 0, none⟩ = some (.int .i64 S) := hSw.2.2.2.2.cell 0
    go_simp
    try with_reducible rfl
  try simp only [Act.put, List.setIfInBounds_toArray, List.set_cons_zero, List.set_cons_succ]
  refine wpAnyH_take (i := 9) (oi := { dst := some 18, op := _, type := _, pos := _, after := _, guard := _ }) (v := ?_) rfl (by kernel_rfl) (by kernel_rfl) (by kernel_rfl) (fun _ _ _ h => h) (Or.inl ⟨by kernel_rfl, ?_⟩) (by assumption) ?_
  rotate_left
  · intro w hSw
    try dsimp only at hSw
    have y0 : w.cell? ⟨gx, 0, none⟩ = some (.slice B m cc) := hSw.2.1.cell 0
    have y1 : w.cell? ⟨gl, 0, none⟩ = some (.slice A n c) := hSw.2.2.1.cell 0
    have y2 : w.cell? ⟨gt, 0, none⟩ = some (.int .i64 T) := hSw.2.2.2.1.cell 0
    have y3 : w.cell? ⟨gs, 0, none⟩ = some (.int .i64 S) := hSw.2.2.2.2.cell 0
    go_simp
    try with_reducible rfl
  try simp only [Act.put, List.setIfInBounds_toArray, List.set_cons_zero, List.set_cons_succ]
  refine wpAnyH_ready (rs := [8]) (by kernel_rfl) (by simp) ?_
  refine AllReadyH.cons (o := { dst := some 17, op := _, type := _, pos := _, after := _, guard := _ }) rfl (fun K hK => ?_) AllReadyH.nil
  go_simp
  (try dsimp only at hHeld); go_split_ands
  refine (HST.out _ (hA.below (by assumption)) (hB.below (by assumption))).mono ?_; rintro e W ⟨rfl, hb⟩
  go_wp2_with fail
  refine hK.out _ _ ?_ (fun hHeld => ?_)
  · (try dsimp only); go_split_ands; exact ⟨bl_trans (by assumption) hb, Blk.below (by assumption) hb, Blk.below (by assumption) hb, Blk.below (by assumption) hb, Blk.below (by assumption) hb⟩
  clear hK K
  try simp only [Act.put, List.setIfInBounds_toArray, List.set_cons_zero, List.set_cons_succ]
  refine wpAnyH_take (i := 10) (oi := { dst := some 19, op := _, type := _, pos := _, after := _, guard := _ }) (v := ?_) rfl (by kernel_rfl) (by kernel_rfl) (by kernel_rfl) (fun _ _ _ h => h) (Or.inl ⟨by kernel_rfl, ?_⟩) (by assumption) ?_
  rotate_left
  · intro w hSw
    try dsimp only at hSw
    go_simp
    try with_reducible rfl
  try simp only [Act.put, List.setIfInBounds_toArray, List.set_cons_zero, List.set_cons_succ]
  refine wpAnyH_take (i := 11) (oi := { dst := some 20, op := _, type := _, pos := _, after := _, guard := _ }) (v := ?_) rfl (by kernel_rfl) (by kernel_rfl) (by kernel_rfl) (fun _ _ _ h => h) (Or.inl ⟨by kernel_rfl, ?_⟩) (by assumption) ?_
  rotate_left
  · intro w hSw
    try dsimp only at hSw
    go_simp
    try with_reducible rfl
  try simp only [Act.put, List.setIfInBounds_toArray, List.set_cons_zero, List.set_cons_succ]
  refine wpAnyH_done (by kernel_rfl) ?_ _
  go_split_ands
  have hv := (by assumption : Below w.heap.size w _)
  have hX := (by assumption : Blk _ gx 29 _)
  have hl := (by assumption : Blk _ gl 24 _)
  by_cases hS : S < sf
  · have HE := Lib.hid (show updB xs T S f ps st = st by rw [HU.out, if_neg]; simp; omega)
    go_wp2_with fail
    go_returns
    rw [HE.out]
    exact ⟨rfl, hI.below hv, Fr.of hv⟩
  have HE := Lib.hid (show updB xs T S f ps st = if (st.2 < 0 ∨ vl < st.2) then (ps, vl) else st by
    rw [HU.out]; simp only [hT, show sf ≤ S by omega, decide_true, Bool.and_self, true_and])
  clear HU HTH HST ht
  have hIW := hI.below hv
  have k0 : World.cell? _ ⟨gx, 0, none⟩ = some (.slice B m cc) := hX.cell 0
  have k1 : World.cell? _ ⟨gl, 0, none⟩ = some (.slice A n c) := hl.cell 0
  have k2 : World.cell? _ ⟨gv, 0, none⟩ = some (.func (.func FV) #[] #[]) := hIW.v.cell 0
  go_wp2_with fail
  refine (HVL.out _ (hA.below hv) (hB.below hv)).mono ?_
  rintro e W3 ⟨rfl, hb⟩
  replace hv := bl_trans hv hb
  replace hX := hX.below hb
  clear hb k0 k1 k2 hl hIW
  have hIW := hI.below hv
  have k0 : W3.cell? ⟨gx, 0, none⟩ = some (.slice B m cc) := hX.cell 0
  have k3 : W3.cell? ⟨gL, 0, none⟩ = some (.int .i64 st.2) := hIW.L.cell 0
  by_cases hup : st.2 < 0 ∨ vl < st.2
  case neg =>
    have hn1 : ¬ st.2 < 0 := fun h => hup (.inl h)
    have hn2 : ¬ vl < st.2 := fun h => hup (.inr h)
    have HE2 := Lib.hid (HE.out.trans (if_neg hup))
    clear hup HE
    go_wp2_with fail
    go_returns
    rw [HE2.out]
    exact ⟨rfl, hIW, Fr.of hv⟩
  have HE2 := Lib.hid (HE.out.trans (if_pos hup))
  clear HE
  obtain ⟨B0, d0, hB1, hB2, hB3⟩ := hIW.B
  have k4 : W3.cell? ⟨gB, 0, none⟩ = some (.slice B0 st.1.length d0) := hB1.cell 0
  have f4 := hB1.frozen 0
  have f3 := hIW.L.frozen 0
  have hne1 : gB ≠ gL := by omega
  have hne2 : gL ≠ gB := by omega
  have hLB := hIW.L
  have hpm := hp.out
  have hFr : Fr gB gL w ((W3.setCell ⟨gB, 0, none⟩ (.slice B m cc)).setCell ⟨gL, 0, none⟩ (.int .i64 vl)) := ((Fr.of hv).trans (Fr.set_ gB 0 (.inl rfl) _)).trans (Fr.set_ gL 0 (.inr rfl) _)
  have hBX : Blk ((W3.setCell ⟨gB, 0, none⟩ (.slice B m cc)).setCell ⟨gL, 0, none⟩ (.int .i64 vl)) gB 29 #[.slice B m cc] := (hB1.set_ 0 _).far hne1 _
  have hLX : Blk ((W3.setCell ⟨gB, 0, none⟩ (.slice B m cc)).setCell ⟨gL, 0, none⟩ (.int .i64 vl)) gL 2 #[.int .i64 vl] := (hLB.far hne2 _).set_ 0 _
  have hInv : BInv A n c T S FV gl gt gs gv gB gL (ps, vl) ((W3.setCell ⟨gB, 0, none⟩ (.slice B m cc)).setCell ⟨gL, 0, none⟩ (.int .i64 vl)) :=
    ⟨hI.l.fr hFr (by omega) (by omega), hI.t.fr hFr (by omega) (by omega), hI.s.fr hFr (by omega) (by omega), hI.v.fr hFr (by omega) (by omega), hLX, B, cc, by rw [hpm]; exact hBX, hB.fr hFr hBf.far, by rw [hpm]; exact hBf⟩
  have HF := Lib.hid hFr
  have HJ := Lib.hid hInv
  clear hFr hBX hLX hInv hIW hB1 hB2 hB3 hLB hpm
  rcases hup with h1 | h1
  · go_wp2_with fail
    go_returns
    rw [HE2.out]
    exact ⟨rfl, HJ.out, HF.out⟩
  · by_cases h2 : st.2 < 0
    · go_wp2_with fail
      go_returns
      rw [HE2.out]
      exact ⟨rfl, HJ.out, HF.out⟩
    · go_wp2_with fail
      go_returns
      rw [HE2.out]
      exact ⟨rfl, HJ.out, HF.out⟩

end Go.Proofs.Ytefkfkdpfecnoaa
