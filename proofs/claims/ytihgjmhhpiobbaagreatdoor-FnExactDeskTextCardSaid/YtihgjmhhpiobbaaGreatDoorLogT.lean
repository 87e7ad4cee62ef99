/- A line of a log read: the program's function. -/
import Derived.Test.YtihgjmhhpiobbaaGreatDoorRdA
import Derived.Test.YtihgjmhhpiobbaaGreatDoorLogR
import Derived.Deep.RegionHeld3
namespace Go.Proofs.YtihgjmhhpiobbaaGreatDoor
open Go.RowKit

theorem results_cell_row_tmp2 {P : Program} {fn : Func} {p u u' : Tmp} {ty : TypeId} (h : fn.results = #[.cell p ty, .tmp u, .tmp u']) (tmps : Array Value) (w : World) (g : Nat) (t : TypeId) (cs : Array Value) (fr : Nat × Nat) (d : TypeDesc)
    (hp : tmps.getD p undef = .pointer (some ⟨g, 0, none⟩)) (hg : w.heap[g]? = some (.cells cs t fr))
    (hu : P.underlying ty = some d) (hd : (match d with | .struct _ | .array _ _ => true | _ => false) = true) (hi : (P.info? ty).map (·.size) = some cs.size) :
    (results fn tmps).run P w = .ok (.tuple #[.agg cs, tmps.getD u undef, tmps.getD u' undef]) w := by
  have hp' : tmps[p]?.getD undef = .pointer (some ⟨g, 0, none⟩) := by simpa using hp
  simp only [results, h]
  simp [Result.andThen, hp', asAddr, run_loadVar_row w g t ty cs fr d hg hu hd hi]
def splB (s : ByteArray) : List ByteArray := (spl 32 s.data.toList).map (fun l => ⟨l.toArray⟩)
theorem bytes_list (s : ByteArray) : (⟨s.data.toList.toArray⟩ : ByteArray) = s := by cases s; simp
theorem splB_of (s : ByteArray) : Lib.splitB ⟨#[32]⟩ 0 (Lib.countB s ⟨#[32]⟩) s = splB s := by
  have h := Lib.splitB_data ⟨#[32]⟩ 0 (Lib.countB s ⟨#[32]⟩) s
  have e : Lib.countB s ⟨#[32]⟩ = Lib.count s.data.toList [32] := rfl
  rw [show (ByteArray.mk #[32]).data.toList = [32] from rfl, e, splitK_spl] at h
  unfold splB
  rw [← h, List.map_map, e]
  conv => lhs; rw [← List.map_id (Lib.splitB ⟨#[32]⟩ 0 (Lib.count s.data.toList [32]) s)]
  exact List.map_congr_left fun x _ => (bytes_list x).symm
theorem splB_len (s : ByteArray) : (splB s).length = Lib.countB s ⟨#[32]⟩ + 1 := by
  unfold splB
  rw [List.length_map, spl_len]
  have e : Lib.countB s ⟨#[32]⟩ = Lib.count s.data.toList [32] := rfl
  rw [e, Lib.count_one]
theorem splB_le (s : ByteArray) : (splB s).length ≤ s.size + 1 := by
  unfold splB
  rw [List.length_map, spl_len]
  have := List.count_le_length (a := (32 : UInt8)) (l := s.data.toList)
  rw [bytes_len] at this
  omega
theorem spl_part {c : UInt8} : ∀ (l x : List UInt8), x ∈ spl c l → x.length ≤ l.length := by
  intro l
  induction l with
  | nil => intro x h; simp [spl] at h; subst h; simp
  | cons b r ih =>
    intro x h
    simp only [spl] at h
    split at h
    · rcases List.mem_cons.1 h with h | h
      · subst h; simp
      · have := ih x h; simp only [List.length_cons]; omega
    · cases hs : spl c r with
      | nil => exact absurd hs (spl_ne c r)
      | cons a t =>
        rw [hs] at h ih
        simp only [glue] at h
        rcases List.mem_cons.1 h with h | h
        · subst h
          have := ih a (by simp)
          simp only [List.length_append, List.length_cons, List.length_nil]; omega
        · have := ih x (List.mem_cons_of_mem _ h); simp only [List.length_cons]; omega
theorem splB_part {s x : ByteArray} (h : x ∈ splB s) : x.size ≤ s.size := by
  unfold splB at h
  obtain ⟨l, hl, rfl⟩ := List.mem_map.1 h
  have h1 := spl_part _ _ hl
  rw [bytes_len] at h1
  rw [show (ByteArray.mk l.toArray).size = l.length from by simp only [ByteArray.size, List.size_toArray]]
  exact h1
theorem SplitSp_c (s : ByteArray) (hs : s.size ≤ 4000000000) (w : World) (hT : Tabs w) : Calls Tryz.prog 70 #[.string s, .string ⟨#[32]⟩] w fun e w' => e = .returned (.slice (some ⟨w.heap.size, 0, none⟩) (splB s).length (splB s).length) ∧ w' = w.alloc (.cells ((splB s).map Value.string).toArray 9) := by
  obtain ⟨m, hm⟩ := hT.len
  have h := Tryz.strings_Split s ⟨#[32]⟩ m w (by omega) hm (by decide)
  rw [← splB_len, splB_of] at h
  exact h
/-- what is said of a line that was read -/
def OutLn (s : ByteArray) (w : World) (e : Ending) (w' : World) : Prop :=
  ∃ (x : Entry) (st : Int) (ok : Bool), e = .returned (.tuple #[.agg #[.int .i64 x.day, .string x.what, .int .i64 x.value], .int .i64 st, .bool ok]) ∧ x.what.size ≤ s.size ∧
    (-1000000000000000000 < x.day ∧ x.day < 1000000000000000000) ∧ (-1000000000000000000 < st ∧ st < 1000000000000000000) ∧ linE s.data.toList = (if ok = true then some (x, st) else none) ∧ Below w.heap.size w w'
theorem linE_no {s : ByteArray} (h : (splB s).length ≠ 4) : linE s.data.toList = none := by
  unfold linE
  split
  · rename_i a b c d hs
    exfalso
    apply h
    unfold splB
    rw [hs]; rfl
  · rfl
theorem linE_four {s a b c d : ByteArray} (h : splB s = [a, b, c, d]) : linE s.data.toList = (if (okN a.data.toList && okN c.data.toList && okN d.data.toList && entB ⟨numV a, b, numV c⟩) = true then some (⟨numV a, b, numV c⟩, numV d) else none) := by
  have hs : spl 32 s.data.toList = [a.data.toList, b.data.toList, c.data.toList, d.data.toList] := by
    have h1 : (splB s).map (·.data.toList) = spl 32 s.data.toList := by
      unfold splB
      rw [List.map_map]
      conv => rhs; rw [← List.map_id (spl 32 s.data.toList)]
      exact List.map_congr_left fun x _ => by simp
    rw [← h1, h]; rfl
  unfold linE
  rw [hs]
  simp only []
  cases ha : okN a.data.toList
  · simp
  cases hc : okN c.data.toList
  · simp
  cases hd : okN d.data.toList
  · simp
  rw [numV_yes ha, numV_yes hc, numV_yes hd, bytes_list]
theorem four_of {s : ByteArray} (h : (splB s).length = 4) : ∃ a b c d, splB s = [a, b, c, d] := by
  match hs : splB s, h with
  | [a, b, c, d], _ => exact ⟨a, b, c, d, rfl⟩
set_option maxRecDepth 100000 in
set_option maxHeartbeats 4000000 in
theorem readLine_c (s : ByteArray) (hs : s.size ≤ 1048576) (w : World) (hT : Tabs w) : Calls Tryz.prog 113 #[.string s] w (OutLn s w) := by
  have HT := Lib.hid hT
  have hle := splB_le s
  clear hT
  go_enter Tryz.func113, Tryz.ntmps113
  go_wp2_with fail
  have hv := bl_alloc (Below.refl w.heap.size w) (Obj.cells #[Value.int IntKind.i64 0, Value.string ⟨#[]⟩, Value.int IntKind.i64 0] 158)
  have hR := Blk.new w 158 #[Value.int IntKind.i64 0, Value.string ⟨#[]⟩, Value.int IntKind.i64 0]
  refine (SplitSp_c s (by omega) _ (HT.out.below hv)).mono ?_
  rintro e W ⟨rfl, hW⟩
  have hv1 := bl_alloc hv (Obj.cells ((splB s).map Value.string).toArray 9)
  have hS := Blk.new (w.alloc (Obj.cells #[Value.int IntKind.i64 0, Value.string ⟨#[]⟩, Value.int IntKind.i64 0] 158)) 9 ((splB s).map Value.string).toArray
  replace hR := hR.alloc (Obj.cells ((splB s).map Value.string).toArray 9)
  rw [← hW] at hv1 hS hR
  obtain ⟨gS, hgS⟩ : ∃ gS, gS = (w.alloc (Obj.cells #[Value.int IntKind.i64 0, Value.string ⟨#[]⟩, Value.int IntKind.i64 0] 158)).heap.size := ⟨_, rfl⟩
  have hgS1 : w.heap.size < gS := by rw [hgS]; simp
  obtain ⟨gR, hgR⟩ : ∃ gR, gR = w.heap.size := ⟨_, rfl⟩
  rw [← hgS] at hS ⊢
  have hgR1 : w.heap.size ≤ gR := by omega
  have hne : gR ≠ gS := by omega
  rw [← hgR] at hR
  have HGR := Lib.hid hgR
  clear hW hgS hv
  by_cases h4 : (splB s).length = 4
  case neg =>
    have HL := Lib.hid (linE_no h4)
    have h4' : ¬ ((splB s).length : Int) = 4 := by omega
    have r0 : W.cell? ⟨gR, 0, none⟩ = some (.int .i64 0) := hR.cell 0
    have r1 : W.cell? ⟨gR, 1, none⟩ = some (.string ⟨#[]⟩) := hR.cell 1
    have r2 : W.cell? ⟨gR, 2, none⟩ = some (.int .i64 0) := hR.cell 2
    have f0 := hR.frozen 0
    have f1 := hR.frozen 1
    have f2 := hR.frozen 2
    generalize (splB s).length = n at h4 h4' hle ⊢
    rw [← hgR]
    clear hgR
    go_wp2_with fail
    refine bodyPost_ret (results_cell_row_tmp2 (P := Tryz.prog) rfl _ _ gR 158 #[Value.int IntKind.i64 0, Value.string ⟨#[]⟩, Value.int IntKind.i64 0] (0, 0) _ rfl ?_ Tryz.underlying158 rfl (by kernel_rfl)) rfl ?_
    · exact ((hR.set_ 0 _).set_ 1 _).set_ 2 _
    · exact ⟨⟨0, ⟨#[]⟩, 0⟩, 0, false, rfl, Nat.zero_le _, by simp, by simp, by rw [HL.out]; rfl, bl_set (bl_set (bl_set hv1 hgR1 _) hgR1 _) hgR1 _⟩
  obtain ⟨a, b, c, d, hq⟩ := four_of h4
  have hsa := splB_part (s := s) (x := a) (by rw [hq]; simp)
  have hsb := splB_part (s := s) (x := b) (by rw [hq]; simp)
  have hsc := splB_part (s := s) (x := c) (by rw [hq]; simp)
  have hsd := splB_part (s := s) (x := d) (by rw [hq]; simp)
  have HL := Lib.hid (linE_four hq)
  have hS2 : Blk W gS 9 #[.string a, .string b, .string c, .string d] := by rw [hq] at hS; exact hS
  rw [hq]
  simp only [List.length_cons, List.length_nil]
  clear hS hq h4 hle
  obtain ⟨ba0, ba1⟩ := numV_bd a
  obtain ⟨bc0, bc1⟩ := numV_bd c
  obtain ⟨bd0, bd1⟩ := numV_bd d
  have HA := Lib.hid (fun w hT => ReadDecimal_c a (by omega) w hT)
  have HC := Lib.hid (fun w hT => ReadDecimal_c c (by omega) w hT)
  have HD := Lib.hid (fun w hT => ReadDecimal_c d (by omega) w hT)
  obtain ⟨oa, hoa⟩ : ∃ o, o = okN a.data.toList := ⟨_, rfl⟩
  obtain ⟨oc, hoc⟩ : ∃ o, o = okN c.data.toList := ⟨_, rfl⟩
  obtain ⟨od, hod⟩ : ∃ o, o = okN d.data.toList := ⟨_, rfl⟩
  obtain ⟨na, hna⟩ : ∃ o, o = numV a := ⟨_, rfl⟩
  obtain ⟨nc, hnc⟩ : ∃ o, o = numV c := ⟨_, rfl⟩
  obtain ⟨nd, hnd⟩ : ∃ o, o = numV d := ⟨_, rfl⟩
  rw [← hoa, ← hna] at HA
  rw [← hoc, ← hnc] at HC
  rw [← hod, ← hnd] at HD
  rw [← hoa, ← hoc, ← hod, ← hna, ← hnc, ← hnd] at HL
  rw [← hna] at ba0 ba1
  rw [← hnc] at bc0 bc1
  rw [← hnd] at bd0 bd1
  clear hoa hoc hod hna hnc hnd
  rw [← hgR]
  clear hgR
  have s0 : W.cell? ⟨gS, 0, none⟩ = some (.string a) := hS2.cell 0
  go_wp2_with fail
  refine (HA.out _ (HT.out.below hv1)).mono ?_
  rintro e W2 ⟨rfl, hb⟩
  replace hv1 := bl_trans hv1 hb
  replace hR := hR.below hb
  replace hS2 := hS2.below hb
  clear hb s0
  have s2 : W2.cell? ⟨gS, 2, none⟩ = some (.string c) := hS2.cell 2
  go_wp2_with fail
  refine (HC.out _ (HT.out.below hv1)).mono ?_
  rintro e W3 ⟨rfl, hb⟩
  replace hv1 := bl_trans hv1 hb
  replace hR := hR.below hb
  replace hS2 := hS2.below hb
  clear hb s2
  have s3 : W3.cell? ⟨gS, 3, none⟩ = some (.string d) := hS2.cell 3
  go_wp2_with fail
  refine (HD.out _ (HT.out.below hv1)).mono ?_
  rintro e W4 ⟨rfl, hb⟩
  replace hv1 := bl_trans hv1 hb
  replace hR := hR.below hb
  replace hS2 := hS2.below hb
  clear hb s3
  have s1 : W4.cell? ⟨gS, 1, none⟩ = some (.string b) := hS2.cell 1
  obtain ⟨W5, hW5⟩ : ∃ W5, W5 = W4.alloc (Obj.cells #[Value.int IntKind.i64 na, Value.string b, Value.int IntKind.i64 nc] 158) := ⟨_, rfl⟩
  obtain ⟨gE, hgE⟩ : ∃ gE, gE = W4.heap.size := ⟨_, rfl⟩
  have hE : Blk W5 gE 158 #[Value.int IntKind.i64 na, Value.string b, Value.int IntKind.i64 nc] := by rw [hW5, hgE]; exact Blk.new _ _ _
  have hb : Below W4.heap.size W4 W5 := by rw [hW5]; exact bl_alloc (Below.refl _ _) _
  have hgE1 : gR ≠ gE := by have := hR.lt; omega
  go_wp2_with fail
  rw [← hW5, ← hgE]
  clear hW5 hgE s1
  replace hv1 := bl_trans hv1 hb
  replace hR := hR.below hb
  clear hb hS2
  replace hv1 : Below w.heap.size w W5.drew := hv1.drew
  replace hR := hR.below (Below.refl W5.heap.size W5).drew
  have hE2 := hE.below (Below.refl W5.heap.size W5).drew
  cases oa
  · refine wp_region_held_drew (S := fun w' => Blk w' gE 158 #[Value.int IntKind.i64 na, Value.string b, Value.int IntKind.i64 nc]) (by kernel_rfl) ?_ (fun hHeld => ?_)
    · exact hE2
    refine wpAnyH_take (i := 0) (oi := { dst := some 46, op := _, type := _, pos := _, after := _, guard := _ }) (v := ?_) rfl (by kernel_rfl) (by kernel_rfl) (by kernel_rfl) (fun _ _ _ h => h) (Or.inl ⟨by kernel_rfl, ?_⟩) (by assumption) ?_
    rotate_left
    · intro w hSw
      try dsimp only at hSw
      have k0 : w.cell? ⟨gE, 0, none⟩ = some (.int .i64 na) := hSw.cell 0
      have k1 : w.cell? ⟨gE, 1, none⟩ = some (.string b) := hSw.cell 1
      have k2 : w.cell? ⟨gE, 2, none⟩ = some (.int .i64 nc) := hSw.cell 2
      go_simp
      try with_reducible rfl
    try simp only [Act.put, List.setIfInBounds_toArray, List.set_cons_zero, List.set_cons_succ]
    refine wpAnyH_take (i := 1) (oi := { dst := some 47, op := _, type := _, pos := _, after := _, guard := _ }) (v := ?_) rfl (by kernel_rfl) (by kernel_rfl) (by kernel_rfl) (fun _ _ _ h => h) (Or.inl ⟨by kernel_rfl, ?_⟩) (by assumption) ?_
    rotate_left
    · intro w hSw
      try dsimp only at hSw
      go_simp
      try with_reducible rfl
    try simp only [Act.put, List.setIfInBounds_toArray, List.set_cons_zero, List.set_cons_succ]
    refine wpAnyH_take (i := 2) (oi := { dst := some 48, op := _, type := _, pos := _, after := _, guard := _ }) (v := ?_) rfl (by kernel_rfl) (by kernel_rfl) (by kernel_rfl) (fun _ _ _ h => h) (Or.inl ⟨by kernel_rfl, ?_⟩) (by assumption) ?_
    rotate_left
    · intro w hSw
      try dsimp only at hSw
      go_simp
      try with_reducible rfl
    try simp only [Act.put, List.setIfInBounds_toArray, List.set_cons_zero, List.set_cons_succ]
    refine wpAnyH_take (i := 3) (oi := { dst := some 49, op := _, type := _, pos := _, after := _, guard := _ }) (v := ?_) rfl (by kernel_rfl) (by kernel_rfl) (by kernel_rfl) (fun _ _ _ h => h) (Or.inl ⟨by kernel_rfl, ?_⟩) (by assumption) ?_
    rotate_left
    · intro w hSw
      try dsimp only at hSw
      go_simp
      try with_reducible rfl
    try simp only [Act.put, List.setIfInBounds_toArray, List.set_cons_zero, List.set_cons_succ]
    refine wpAnyH_take (i := 4) (oi := { dst := some 50, op := _, type := _, pos := _, after := _, guard := _ }) (v := undef) rfl (by kernel_rfl) (by kernel_rfl) (by kernel_rfl) (fun _ _ _ h => h) (Or.inr ⟨by kernel_rfl, rfl⟩) (by assumption) ?_
    try simp only [Act.put, List.setIfInBounds_toArray, List.set_cons_zero, List.set_cons_succ]
    refine wpAnyH_take (i := 5) (oi := { dst := some 51, op := _, type := _, pos := _, after := _, guard := _ }) (v := ?_) rfl (by kernel_rfl) (by kernel_rfl) (by kernel_rfl) (fun _ _ _ h => h) (Or.inl ⟨by kernel_rfl, ?_⟩) (by assumption) ?_
    rotate_left
    · intro w hSw
      try dsimp only at hSw
      go_simp
      try with_reducible rfl
    try simp only [Act.put, List.setIfInBounds_toArray, List.set_cons_zero, List.set_cons_succ]
    refine wpAnyH_take (i := 6) (oi := { dst := some 52, op := _, type := _, pos := _, after := _, guard := _ }) (v := ?_) rfl (by kernel_rfl) (by kernel_rfl) (by kernel_rfl) (fun _ _ _ h => h) (Or.inl ⟨by kernel_rfl, ?_⟩) (by assumption) ?_
    rotate_left
    · intro w hSw
      try dsimp only at hSw
      go_simp
      try with_reducible rfl
    try simp only [Act.put, List.setIfInBounds_toArray, List.set_cons_zero, List.set_cons_succ]
    refine wpAnyH_take (i := 7) (oi := { dst := some 53, op := _, type := _, pos := _, after := _, guard := _ }) (v := undef) rfl (by kernel_rfl) (by kernel_rfl) (by kernel_rfl) (fun _ _ _ h => h) (Or.inr ⟨by kernel_rfl, rfl⟩) (by assumption) ?_
    try simp only [Act.put, List.setIfInBounds_toArray, List.set_cons_zero, List.set_cons_succ]
    refine wpAnyH_take (i := 8) (oi := { dst := some 54, op := _, type := _, pos := _, after := _, guard := _ }) (v := ?_) rfl (by kernel_rfl) (by kernel_rfl) (by kernel_rfl) (fun _ _ _ h => h) (Or.inl ⟨by kernel_rfl, ?_⟩) (by assumption) ?_
    rotate_left
    · intro w hSw
      try dsimp only at hSw
      go_simp
      try with_reducible rfl
    try simp only [Act.put, List.setIfInBounds_toArray, List.set_cons_zero, List.set_cons_succ]
    refine wpAnyH_take (i := 9) (oi := { dst := some 55, op := _, type := _, pos := _, after := _, guard := _ }) (v := ?_) rfl (by kernel_rfl) (by kernel_rfl) (by kernel_rfl) (fun _ _ _ h => h) (Or.inl ⟨by kernel_rfl, ?_⟩) (by assumption) ?_
    rotate_left
    · intro w hSw
      try dsimp only at hSw
      go_simp
      try with_reducible rfl
    try simp only [Act.put, List.setIfInBounds_toArray, List.set_cons_zero, List.set_cons_succ]
    refine wpAnyH_take (i := 10) (oi := { dst := some 56, op := _, type := _, pos := _, after := _, guard := _ }) (v := undef) rfl (by kernel_rfl) (by kernel_rfl) (by kernel_rfl) (fun _ _ _ h => h) (Or.inr ⟨by kernel_rfl, rfl⟩) (by assumption) ?_
    try simp only [Act.put, List.setIfInBounds_toArray, List.set_cons_zero, List.set_cons_succ]
    refine wpAnyH_take (i := 11) (oi := { dst := some 57, op := _, type := _, pos := _, after := _, guard := _ }) (v := undef) rfl (by kernel_rfl) (by kernel_rfl) (by kernel_rfl) (fun _ _ _ h => h) (Or.inr ⟨by kernel_rfl, rfl⟩) (by assumption) ?_
    try simp only [Act.put, List.setIfInBounds_toArray, List.set_cons_zero, List.set_cons_succ]
    refine wpAnyH_take (i := 12) (oi := { dst := some 58, op := _, type := _, pos := _, after := _, guard := _ }) (v := ?_) rfl (by kernel_rfl) (by kernel_rfl) (by kernel_rfl) (fun _ _ _ h => h) (Or.inl ⟨by kernel_rfl, ?_⟩) (by assumption) ?_
    rotate_left
    · intro w hSw
      try dsimp only at hSw
      go_simp
      try with_reducible rfl
    try simp only [Act.put, List.setIfInBounds_toArray, List.set_cons_zero, List.set_cons_succ]
    have f0 : W5.frozen? ⟨gR, 0, none⟩ = false := hR.frozen 0
    have r0 : W5.cell? ⟨gR, 0, none⟩ = some (.int .i64 0) := hR.cell 0
    have f1 : W5.frozen? ⟨gR, 1, none⟩ = false := hR.frozen 1
    have r1 : W5.cell? ⟨gR, 1, none⟩ = some (.string ⟨#[]⟩) := hR.cell 1
    have f2 : W5.frozen? ⟨gR, 2, none⟩ = false := hR.frozen 2
    have r2 : W5.cell? ⟨gR, 2, none⟩ = some (.int .i64 0) := hR.cell 2
    refine wpAnyH_ready (rs := [13]) (by kernel_rfl) (by simp) ?_
    refine AllReadyH.cons (o := { dst := none, op := _, type := _, pos := _, after := _, guard := _ }) rfl (fun K hK => ?_) AllReadyH.nil
    go_simp
    (try dsimp only at hHeld); go_split_ands
    have hR2 := ((hR.set_ 0 (.int .i64 na)).set_ 1 (.string b)).set_ 2 (.int .i64 nc)
    have hv2 := bl_set (bl_set (bl_set hv1 (p := ⟨gR, 0, none⟩) hgR1 (.int .i64 na)) (p := ⟨gR, 1, none⟩) hgR1 (.string b)) (p := ⟨gR, 2, none⟩) hgR1 (.int .i64 nc)
    refine hK.out _ _ ?_ (fun hHeld => ?_)
    · (try dsimp only); go_split_ands; exact ((hE2.far hgE1.symm _).far hgE1.symm _).far hgE1.symm _
    clear hK K
    try simp only [Act.put]
    refine wpAnyH_take (i := 14) (oi := { dst := some 3, op := _, type := _, pos := _, after := _, guard := _ }) (v := ?_) rfl (by kernel_rfl) (by kernel_rfl) (by kernel_rfl) (fun _ _ _ h => h) (Or.inl ⟨by kernel_rfl, ?_⟩) (by assumption) ?_
    rotate_left
    · intro w hSw
      try dsimp only at hSw
      go_simp
      try with_reducible rfl
    try simp only [Act.put, List.setIfInBounds_toArray, List.set_cons_zero, List.set_cons_succ]
    refine wpAnyH_take (i := 15) (oi := { dst := some 4, op := _, type := _, pos := _, after := _, guard := _ }) (v := ?_) rfl (by kernel_rfl) (by kernel_rfl) (by kernel_rfl) (fun _ _ _ h => h) (Or.inl ⟨by kernel_rfl, ?_⟩) (by assumption) ?_
    rotate_left
    · intro w hSw
      try dsimp only at hSw
      go_simp
      try with_reducible rfl
    try simp only [Act.put, List.setIfInBounds_toArray, List.set_cons_zero, List.set_cons_succ]
    refine wpAnyH_done (by kernel_rfl) ?_ _
    go_wp2_with fail
    refine bodyPost_ret (results_cell_row_tmp2 (P := Tryz.prog) rfl _ _ gR 158 #[Value.int IntKind.i64 na, Value.string b, Value.int IntKind.i64 nc] (0, 0) _ rfl hR2 Tryz.underlying158 rfl (by kernel_rfl)) rfl ?_
    exact ⟨⟨na, b, nc⟩, nd, false, rfl, hsb, ⟨ba0, ba1⟩, ⟨bd0, bd1⟩, by rw [HL.out]; rfl, hv2⟩

  cases oc
  · refine wp_region_held_drew (S := fun w' => Blk w' gE 158 #[Value.int IntKind.i64 na, Value.string b, Value.int IntKind.i64 nc]) (by kernel_rfl) ?_ (fun hHeld => ?_)
    · exact hE2
    refine wpAnyH_take (i := 0) (oi := { dst := some 46, op := _, type := _, pos := _, after := _, guard := _ }) (v := ?_) rfl (by kernel_rfl) (by kernel_rfl) (by kernel_rfl) (fun _ _ _ h => h) (Or.inl ⟨by kernel_rfl, ?_⟩) (by assumption) ?_
    rotate_left
    · intro w hSw
      try dsimp only at hSw
      have k0 : w.cell? ⟨gE, 0, none⟩ = some (.int .i64 na) := hSw.cell 0
      have k1 : w.cell? ⟨gE, 1, none⟩ = some (.string b) := hSw.cell 1
      have k2 : w.cell? ⟨gE, 2, none⟩ = some (.int .i64 nc) := hSw.cell 2
      go_simp
      try with_reducible rfl
    try simp only [Act.put, List.setIfInBounds_toArray, List.set_cons_zero, List.set_cons_succ]
    refine wpAnyH_take (i := 1) (oi := { dst := some 47, op := _, type := _, pos := _, after := _, guard := _ }) (v := ?_) rfl (by kernel_rfl) (by kernel_rfl) (by kernel_rfl) (fun _ _ _ h => h) (Or.inl ⟨by kernel_rfl, ?_⟩) (by assumption) ?_
    rotate_left
    · intro w hSw
      try dsimp only at hSw
      go_simp
      try with_reducible rfl
    try simp only [Act.put, List.setIfInBounds_toArray, List.set_cons_zero, List.set_cons_succ]
    refine wpAnyH_take (i := 2) (oi := { dst := some 48, op := _, type := _, pos := _, after := _, guard := _ }) (v := ?_) rfl (by kernel_rfl) (by kernel_rfl) (by kernel_rfl) (fun _ _ _ h => h) (Or.inl ⟨by kernel_rfl, ?_⟩) (by assumption) ?_
    rotate_left
    · intro w hSw
      try dsimp only at hSw
      go_simp
      try with_reducible rfl
    try simp only [Act.put, List.setIfInBounds_toArray, List.set_cons_zero, List.set_cons_succ]
    refine wpAnyH_take (i := 3) (oi := { dst := some 49, op := _, type := _, pos := _, after := _, guard := _ }) (v := ?_) rfl (by kernel_rfl) (by kernel_rfl) (by kernel_rfl) (fun _ _ _ h => h) (Or.inl ⟨by kernel_rfl, ?_⟩) (by assumption) ?_
    rotate_left
    · intro w hSw
      try dsimp only at hSw
      go_simp
      try with_reducible rfl
    try simp only [Act.put, List.setIfInBounds_toArray, List.set_cons_zero, List.set_cons_succ]
    refine wpAnyH_take (i := 4) (oi := { dst := some 50, op := _, type := _, pos := _, after := _, guard := _ }) (v := ?_) rfl (by kernel_rfl) (by kernel_rfl) (by kernel_rfl) (fun _ _ _ h => h) (Or.inl ⟨by kernel_rfl, ?_⟩) (by assumption) ?_
    rotate_left
    · intro w hSw
      try dsimp only at hSw
      go_simp
      try with_reducible rfl
    try simp only [Act.put, List.setIfInBounds_toArray, List.set_cons_zero, List.set_cons_succ]
    refine wpAnyH_take (i := 5) (oi := { dst := some 51, op := _, type := _, pos := _, after := _, guard := _ }) (v := ?_) rfl (by kernel_rfl) (by kernel_rfl) (by kernel_rfl) (fun _ _ _ h => h) (Or.inl ⟨by kernel_rfl, ?_⟩) (by assumption) ?_
    rotate_left
    · intro w hSw
      try dsimp only at hSw
      go_simp
      try with_reducible rfl
    try simp only [Act.put, List.setIfInBounds_toArray, List.set_cons_zero, List.set_cons_succ]
    refine wpAnyH_take (i := 6) (oi := { dst := some 52, op := _, type := _, pos := _, after := _, guard := _ }) (v := ?_) rfl (by kernel_rfl) (by kernel_rfl) (by kernel_rfl) (fun _ _ _ h => h) (Or.inl ⟨by kernel_rfl, ?_⟩) (by assumption) ?_
    rotate_left
    · intro w hSw
      try dsimp only at hSw
      go_simp
      try with_reducible rfl
    try simp only [Act.put, List.setIfInBounds_toArray, List.set_cons_zero, List.set_cons_succ]
    refine wpAnyH_take (i := 7) (oi := { dst := some 53, op := _, type := _, pos := _, after := _, guard := _ }) (v := undef) rfl (by kernel_rfl) (by kernel_rfl) (by kernel_rfl) (fun _ _ _ h => h) (Or.inr ⟨by kernel_rfl, rfl⟩) (by assumption) ?_
    try simp only [Act.put, List.setIfInBounds_toArray, List.set_cons_zero, List.set_cons_succ]
    refine wpAnyH_take (i := 8) (oi := { dst := some 54, op := _, type := _, pos := _, after := _, guard := _ }) (v := ?_) rfl (by kernel_rfl) (by kernel_rfl) (by kernel_rfl) (fun _ _ _ h => h) (Or.inl ⟨by kernel_rfl, ?_⟩) (by assumption) ?_
    rotate_left
    · intro w hSw
      try dsimp only at hSw
      go_simp
      try with_reducible rfl
    try simp only [Act.put, List.setIfInBounds_toArray, List.set_cons_zero, List.set_cons_succ]
    refine wpAnyH_take (i := 9) (oi := { dst := some 55, op := _, type := _, pos := _, after := _, guard := _ }) (v := ?_) rfl (by kernel_rfl) (by kernel_rfl) (by kernel_rfl) (fun _ _ _ h => h) (Or.inl ⟨by kernel_rfl, ?_⟩) (by assumption) ?_
    rotate_left
    · intro w hSw
      try dsimp only at hSw
      go_simp
      try with_reducible rfl
    try simp only [Act.put, List.setIfInBounds_toArray, List.set_cons_zero, List.set_cons_succ]
    refine wpAnyH_take (i := 10) (oi := { dst := some 56, op := _, type := _, pos := _, after := _, guard := _ }) (v := undef) rfl (by kernel_rfl) (by kernel_rfl) (by kernel_rfl) (fun _ _ _ h => h) (Or.inr ⟨by kernel_rfl, rfl⟩) (by assumption) ?_
    try simp only [Act.put, List.setIfInBounds_toArray, List.set_cons_zero, List.set_cons_succ]
    refine wpAnyH_take (i := 11) (oi := { dst := some 57, op := _, type := _, pos := _, after := _, guard := _ }) (v := undef) rfl (by kernel_rfl) (by kernel_rfl) (by kernel_rfl) (fun _ _ _ h => h) (Or.inr ⟨by kernel_rfl, rfl⟩) (by assumption) ?_
    try simp only [Act.put, List.setIfInBounds_toArray, List.set_cons_zero, List.set_cons_succ]
    refine wpAnyH_take (i := 12) (oi := { dst := some 58, op := _, type := _, pos := _, after := _, guard := _ }) (v := ?_) rfl (by kernel_rfl) (by kernel_rfl) (by kernel_rfl) (fun _ _ _ h => h) (Or.inl ⟨by kernel_rfl, ?_⟩) (by assumption) ?_
    rotate_left
    · intro w hSw
      try dsimp only at hSw
      go_simp
      try with_reducible rfl
    try simp only [Act.put, List.setIfInBounds_toArray, List.set_cons_zero, List.set_cons_succ]
    have f0 : W5.frozen? ⟨gR, 0, none⟩ = false := hR.frozen 0
    have r0 : W5.cell? ⟨gR, 0, none⟩ = some (.int .i64 0) := hR.cell 0
    have f1 : W5.frozen? ⟨gR, 1, none⟩ = false := hR.frozen 1
    have r1 : W5.cell? ⟨gR, 1, none⟩ = some (.string ⟨#[]⟩) := hR.cell 1
    have f2 : W5.frozen? ⟨gR, 2, none⟩ = false := hR.frozen 2
    have r2 : W5.cell? ⟨gR, 2, none⟩ = some (.int .i64 0) := hR.cell 2
    refine wpAnyH_ready (rs := [13]) (by kernel_rfl) (by simp) ?_
    refine AllReadyH.cons (o := { dst := none, op := _, type := _, pos := _, after := _, guard := _ }) rfl (fun K hK => ?_) AllReadyH.nil
    go_simp
    (try dsimp only at hHeld); go_split_ands
    have hR2 := ((hR.set_ 0 (.int .i64 na)).set_ 1 (.string b)).set_ 2 (.int .i64 nc)
    have hv2 := bl_set (bl_set (bl_set hv1 (p := ⟨gR, 0, none⟩) hgR1 (.int .i64 na)) (p := ⟨gR, 1, none⟩) hgR1 (.string b)) (p := ⟨gR, 2, none⟩) hgR1 (.int .i64 nc)
    refine hK.out _ _ ?_ (fun hHeld => ?_)
    · (try dsimp only); go_split_ands; exact ((hE2.far hgE1.symm _).far hgE1.symm _).far hgE1.symm _
    clear hK K
    try simp only [Act.put]
    refine wpAnyH_take (i := 14) (oi := { dst := some 3, op := _, type := _, pos := _, after := _, guard := _ }) (v := ?_) rfl (by kernel_rfl) (by kernel_rfl) (by kernel_rfl) (fun _ _ _ h => h) (Or.inl ⟨by kernel_rfl, ?_⟩) (by assumption) ?_
    rotate_left
    · intro w hSw
      try dsimp only at hSw
      go_simp
      try with_reducible rfl
    try simp only [Act.put, List.setIfInBounds_toArray, List.set_cons_zero, List.set_cons_succ]
    refine wpAnyH_take (i := 15) (oi := { dst := some 4, op := _, type := _, pos := _, after := _, guard := _ }) (v := ?_) rfl (by kernel_rfl) (by kernel_rfl) (by kernel_rfl) (fun _ _ _ h => h) (Or.inl ⟨by kernel_rfl, ?_⟩) (by assumption) ?_
    rotate_left
    · intro w hSw
      try dsimp only at hSw
      go_simp
      try with_reducible rfl
    try simp only [Act.put, List.setIfInBounds_toArray, List.set_cons_zero, List.set_cons_succ]
    refine wpAnyH_done (by kernel_rfl) ?_ _
    go_wp2_with fail
    refine bodyPost_ret (results_cell_row_tmp2 (P := Tryz.prog) rfl _ _ gR 158 #[Value.int IntKind.i64 na, Value.string b, Value.int IntKind.i64 nc] (0, 0) _ rfl hR2 Tryz.underlying158 rfl (by kernel_rfl)) rfl ?_
    exact ⟨⟨na, b, nc⟩, nd, false, rfl, hsb, ⟨ba0, ba1⟩, ⟨bd0, bd1⟩, by rw [HL.out]; rfl, hv2⟩

  cases od
  · refine wp_region_held_drew (S := fun w' => Blk w' gE 158 #[Value.int IntKind.i64 na, Value.string b, Value.int IntKind.i64 nc]) (by kernel_rfl) ?_ (fun hHeld => ?_)
    · exact hE2
    refine wpAnyH_take (i := 0) (oi := { dst := some 46, op := _, type := _, pos := _, after := _, guard := _ }) (v := ?_) rfl (by kernel_rfl) (by kernel_rfl) (by kernel_rfl) (fun _ _ _ h => h) (Or.inl ⟨by kernel_rfl, ?_⟩) (by assumption) ?_
    rotate_left
    · intro w hSw
      try dsimp only at hSw
      have k0 : w.cell? ⟨gE, 0, none⟩ = some (.int .i64 na) := hSw.cell 0
      have k1 : w.cell? ⟨gE, 1, none⟩ = some (.string b) := hSw.cell 1
      have k2 : w.cell? ⟨gE, 2, none⟩ = some (.int .i64 nc) := hSw.cell 2
      go_simp
      try with_reducible rfl
    try simp only [Act.put, List.setIfInBounds_toArray, List.set_cons_zero, List.set_cons_succ]
    refine wpAnyH_take (i := 1) (oi := { dst := some 47, op := _, type := _, pos := _, after := _, guard := _ }) (v := ?_) rfl (by kernel_rfl) (by kernel_rfl) (by kernel_rfl) (fun _ _ _ h => h) (Or.inl ⟨by kernel_rfl, ?_⟩) (by assumption) ?_
    rotate_left
    · intro w hSw
      try dsimp only at hSw
      go_simp
      try with_reducible rfl
    try simp only [Act.put, List.setIfInBounds_toArray, List.set_cons_zero, List.set_cons_succ]
    refine wpAnyH_take (i := 2) (oi := { dst := some 48, op := _, type := _, pos := _, after := _, guard := _ }) (v := ?_) rfl (by kernel_rfl) (by kernel_rfl) (by kernel_rfl) (fun _ _ _ h => h) (Or.inl ⟨by kernel_rfl, ?_⟩) (by assumption) ?_
    rotate_left
    · intro w hSw
      try dsimp only at hSw
      go_simp
      try with_reducible rfl
    try simp only [Act.put, List.setIfInBounds_toArray, List.set_cons_zero, List.set_cons_succ]
    refine wpAnyH_take (i := 3) (oi := { dst := some 49, op := _, type := _, pos := _, after := _, guard := _ }) (v := ?_) rfl (by kernel_rfl) (by kernel_rfl) (by kernel_rfl) (fun _ _ _ h => h) (Or.inl ⟨by kernel_rfl, ?_⟩) (by assumption) ?_
    rotate_left
    · intro w hSw
      try dsimp only at hSw
      go_simp
      try with_reducible rfl
    try simp only [Act.put, List.setIfInBounds_toArray, List.set_cons_zero, List.set_cons_succ]
    refine wpAnyH_take (i := 4) (oi := { dst := some 50, op := _, type := _, pos := _, after := _, guard := _ }) (v := ?_) rfl (by kernel_rfl) (by kernel_rfl) (by kernel_rfl) (fun _ _ _ h => h) (Or.inl ⟨by kernel_rfl, ?_⟩) (by assumption) ?_
    rotate_left
    · intro w hSw
      try dsimp only at hSw
      go_simp
      try with_reducible rfl
    try simp only [Act.put, List.setIfInBounds_toArray, List.set_cons_zero, List.set_cons_succ]
    refine wpAnyH_take (i := 5) (oi := { dst := some 51, op := _, type := _, pos := _, after := _, guard := _ }) (v := ?_) rfl (by kernel_rfl) (by kernel_rfl) (by kernel_rfl) (fun _ _ _ h => h) (Or.inl ⟨by kernel_rfl, ?_⟩) (by assumption) ?_
    rotate_left
    · intro w hSw
      try dsimp only at hSw
      go_simp
      try with_reducible rfl
    try simp only [Act.put, List.setIfInBounds_toArray, List.set_cons_zero, List.set_cons_succ]
    refine wpAnyH_take (i := 6) (oi := { dst := some 52, op := _, type := _, pos := _, after := _, guard := _ }) (v := ?_) rfl (by kernel_rfl) (by kernel_rfl) (by kernel_rfl) (fun _ _ _ h => h) (Or.inl ⟨by kernel_rfl, ?_⟩) (by assumption) ?_
    rotate_left
    · intro w hSw
      try dsimp only at hSw
      go_simp
      try with_reducible rfl
    try simp only [Act.put, List.setIfInBounds_toArray, List.set_cons_zero, List.set_cons_succ]
    refine wpAnyH_take (i := 7) (oi := { dst := some 53, op := _, type := _, pos := _, after := _, guard := _ }) (v := ?_) rfl (by kernel_rfl) (by kernel_rfl) (by kernel_rfl) (fun _ _ _ h => h) (Or.inl ⟨by kernel_rfl, ?_⟩) (by assumption) ?_
    rotate_left
    · intro w hSw
      try dsimp only at hSw
      go_simp
      try with_reducible rfl
    try simp only [Act.put, List.setIfInBounds_toArray, List.set_cons_zero, List.set_cons_succ]
    refine wpAnyH_take (i := 8) (oi := { dst := some 54, op := _, type := _, pos := _, after := _, guard := _ }) (v := ?_) rfl (by kernel_rfl) (by kernel_rfl) (by kernel_rfl) (fun _ _ _ h => h) (Or.inl ⟨by kernel_rfl, ?_⟩) (by assumption) ?_
    rotate_left
    · intro w hSw
      try dsimp only at hSw
      go_simp
      try with_reducible rfl
    try simp only [Act.put, List.setIfInBounds_toArray, List.set_cons_zero, List.set_cons_succ]
    refine wpAnyH_take (i := 9) (oi := { dst := some 55, op := _, type := _, pos := _, after := _, guard := _ }) (v := ?_) rfl (by kernel_rfl) (by kernel_rfl) (by kernel_rfl) (fun _ _ _ h => h) (Or.inl ⟨by kernel_rfl, ?_⟩) (by assumption) ?_
    rotate_left
    · intro w hSw
      try dsimp only at hSw
      go_simp
      try with_reducible rfl
    try simp only [Act.put, List.setIfInBounds_toArray, List.set_cons_zero, List.set_cons_succ]
    refine wpAnyH_take (i := 10) (oi := { dst := some 56, op := _, type := _, pos := _, after := _, guard := _ }) (v := undef) rfl (by kernel_rfl) (by kernel_rfl) (by kernel_rfl) (fun _ _ _ h => h) (Or.inr ⟨by kernel_rfl, rfl⟩) (by assumption) ?_
    try simp only [Act.put, List.setIfInBounds_toArray, List.set_cons_zero, List.set_cons_succ]
    refine wpAnyH_take (i := 11) (oi := { dst := some 57, op := _, type := _, pos := _, after := _, guard := _ }) (v := undef) rfl (by kernel_rfl) (by kernel_rfl) (by kernel_rfl) (fun _ _ _ h => h) (Or.inr ⟨by kernel_rfl, rfl⟩) (by assumption) ?_
    try simp only [Act.put, List.setIfInBounds_toArray, List.set_cons_zero, List.set_cons_succ]
    refine wpAnyH_take (i := 12) (oi := { dst := some 58, op := _, type := _, pos := _, after := _, guard := _ }) (v := ?_) rfl (by kernel_rfl) (by kernel_rfl) (by kernel_rfl) (fun _ _ _ h => h) (Or.inl ⟨by kernel_rfl, ?_⟩) (by assumption) ?_
    rotate_left
    · intro w hSw
      try dsimp only at hSw
      go_simp
      try with_reducible rfl
    try simp only [Act.put, List.setIfInBounds_toArray, List.set_cons_zero, List.set_cons_succ]
    have f0 : W5.frozen? ⟨gR, 0, none⟩ = false := hR.frozen 0
    have r0 : W5.cell? ⟨gR, 0, none⟩ = some (.int .i64 0) := hR.cell 0
    have f1 : W5.frozen? ⟨gR, 1, none⟩ = false := hR.frozen 1
    have r1 : W5.cell? ⟨gR, 1, none⟩ = some (.string ⟨#[]⟩) := hR.cell 1
    have f2 : W5.frozen? ⟨gR, 2, none⟩ = false := hR.frozen 2
    have r2 : W5.cell? ⟨gR, 2, none⟩ = some (.int .i64 0) := hR.cell 2
    refine wpAnyH_ready (rs := [13]) (by kernel_rfl) (by simp) ?_
    refine AllReadyH.cons (o := { dst := none, op := _, type := _, pos := _, after := _, guard := _ }) rfl (fun K hK => ?_) AllReadyH.nil
    go_simp
    (try dsimp only at hHeld); go_split_ands
    have hR2 := ((hR.set_ 0 (.int .i64 na)).set_ 1 (.string b)).set_ 2 (.int .i64 nc)
    have hv2 := bl_set (bl_set (bl_set hv1 (p := ⟨gR, 0, none⟩) hgR1 (.int .i64 na)) (p := ⟨gR, 1, none⟩) hgR1 (.string b)) (p := ⟨gR, 2, none⟩) hgR1 (.int .i64 nc)
    refine hK.out _ _ ?_ (fun hHeld => ?_)
    · (try dsimp only); go_split_ands; exact ((hE2.far hgE1.symm _).far hgE1.symm _).far hgE1.symm _
    clear hK K
    try simp only [Act.put]
    refine wpAnyH_take (i := 14) (oi := { dst := some 3, op := _, type := _, pos := _, after := _, guard := _ }) (v := ?_) rfl (by kernel_rfl) (by kernel_rfl) (by kernel_rfl) (fun _ _ _ h => h) (Or.inl ⟨by kernel_rfl, ?_⟩) (by assumption) ?_
    rotate_left
    · intro w hSw
      try dsimp only at hSw
      go_simp
      try with_reducible rfl
    try simp only [Act.put, List.setIfInBounds_toArray, List.set_cons_zero, List.set_cons_succ]
    refine wpAnyH_take (i := 15) (oi := { dst := some 4, op := _, type := _, pos := _, after := _, guard := _ }) (v := ?_) rfl (by kernel_rfl) (by kernel_rfl) (by kernel_rfl) (fun _ _ _ h => h) (Or.inl ⟨by kernel_rfl, ?_⟩) (by assumption) ?_
    rotate_left
    · intro w hSw
      try dsimp only at hSw
      go_simp
      try with_reducible rfl
    try simp only [Act.put, List.setIfInBounds_toArray, List.set_cons_zero, List.set_cons_succ]
    refine wpAnyH_done (by kernel_rfl) ?_ _
    go_wp2_with fail
    refine bodyPost_ret (results_cell_row_tmp2 (P := Tryz.prog) rfl _ _ gR 158 #[Value.int IntKind.i64 na, Value.string b, Value.int IntKind.i64 nc] (0, 0) _ rfl hR2 Tryz.underlying158 rfl (by kernel_rfl)) rfl ?_
    exact ⟨⟨na, b, nc⟩, nd, false, rfl, hsb, ⟨ba0, ba1⟩, ⟨bd0, bd1⟩, by rw [HL.out]; rfl, hv2⟩

  refine wp_region_held_drew (S := fun w' => Blk w' gE 158 #[Value.int IntKind.i64 na, Value.string b, Value.int IntKind.i64 nc]) (by kernel_rfl) ?_ (fun hHeld => ?_)
  · exact hE2
  refine wpAnyH_take (i := 0) (oi := { dst := some 46, op := _, type := _, pos := _, after := _, guard := _ }) (v := ?_) rfl (by kernel_rfl) (by kernel_rfl) (by kernel_rfl) (fun _ _ _ h => h) (Or.inl ⟨by kernel_rfl, ?_⟩) (by assumption) ?_
  rotate_left
  · intro w hSw
    try dsimp only at hSw
    have k0 : w.cell? ⟨gE, 0, none⟩ = some (.int .i64 na) := hSw.cell 0
    have k1 : w.cell? ⟨gE, 1, none⟩ = some (.string b) := hSw.cell 1
    have k2 : w.cell? ⟨gE, 2, none⟩ = some (.int .i64 nc) := hSw.cell 2
    go_simp
    try with_reducible rfl
  try simp only [Act.put, List.setIfInBounds_toArray, List.set_cons_zero, List.set_cons_succ]
  refine wpAnyH_take (i := 1) (oi := { dst := some 47, op := _, type := _, pos := _, after := _, guard := _ }) (v := ?_) rfl (by kernel_rfl) (by kernel_rfl) (by kernel_rfl) (fun _ _ _ h => h) (Or.inl ⟨by kernel_rfl, ?_⟩) (by assumption) ?_
  rotate_left
  · intro w hSw
    try dsimp only at hSw
    go_simp
    try with_reducible rfl
  try simp only [Act.put, List.setIfInBounds_toArray, List.set_cons_zero, List.set_cons_succ]
  refine wpAnyH_take (i := 2) (oi := { dst := some 48, op := _, type := _, pos := _, after := _, guard := _ }) (v := ?_) rfl (by kernel_rfl) (by kernel_rfl) (by kernel_rfl) (fun _ _ _ h => h) (Or.inl ⟨by kernel_rfl, ?_⟩) (by assumption) ?_
  rotate_left
  · intro w hSw
    try dsimp only at hSw
    go_simp
    try with_reducible rfl
  try simp only [Act.put, List.setIfInBounds_toArray, List.set_cons_zero, List.set_cons_succ]
  refine wpAnyH_take (i := 3) (oi := { dst := some 49, op := _, type := _, pos := _, after := _, guard := _ }) (v := ?_) rfl (by kernel_rfl) (by kernel_rfl) (by kernel_rfl) (fun _ _ _ h => h) (Or.inl ⟨by kernel_rfl, ?_⟩) (by assumption) ?_
  rotate_left
  · intro w hSw
    try dsimp only at hSw
    go_simp
    try with_reducible rfl
  try simp only [Act.put, List.setIfInBounds_toArray, List.set_cons_zero, List.set_cons_succ]
  refine wpAnyH_take (i := 4) (oi := { dst := some 50, op := _, type := _, pos := _, after := _, guard := _ }) (v := ?_) rfl (by kernel_rfl) (by kernel_rfl) (by kernel_rfl) (fun _ _ _ h => h) (Or.inl ⟨by kernel_rfl, ?_⟩) (by assumption) ?_
  rotate_left
  · intro w hSw
    try dsimp only at hSw
    go_simp
    try with_reducible rfl
  try simp only [Act.put, List.setIfInBounds_toArray, List.set_cons_zero, List.set_cons_succ]
  refine wpAnyH_take (i := 5) (oi := { dst := some 51, op := _, type := _, pos := _, after := _, guard := _ }) (v := ?_) rfl (by kernel_rfl) (by kernel_rfl) (by kernel_rfl) (fun _ _ _ h => h) (Or.inl ⟨by kernel_rfl, ?_⟩) (by assumption) ?_
  rotate_left
  · intro w hSw
    try dsimp only at hSw
    go_simp
    try with_reducible rfl
  try simp only [Act.put, List.setIfInBounds_toArray, List.set_cons_zero, List.set_cons_succ]
  refine wpAnyH_take (i := 6) (oi := { dst := some 52, op := _, type := _, pos := _, after := _, guard := _ }) (v := ?_) rfl (by kernel_rfl) (by kernel_rfl) (by kernel_rfl) (fun _ _ _ h => h) (Or.inl ⟨by kernel_rfl, ?_⟩) (by assumption) ?_
  rotate_left
  · intro w hSw
    try dsimp only at hSw
    go_simp
    try with_reducible rfl
  try simp only [Act.put, List.setIfInBounds_toArray, List.set_cons_zero, List.set_cons_succ]
  refine wpAnyH_take (i := 7) (oi := { dst := some 53, op := _, type := _, pos := _, after := _, guard := _ }) (v := ?_) rfl (by kernel_rfl) (by kernel_rfl) (by kernel_rfl) (fun _ _ _ h => h) (Or.inl ⟨by kernel_rfl, ?_⟩) (by assumption) ?_
  rotate_left
  · intro w hSw
    try dsimp only at hSw
    go_simp
    try with_reducible rfl
  try simp only [Act.put, List.setIfInBounds_toArray, List.set_cons_zero, List.set_cons_succ]
  refine wpAnyH_take (i := 8) (oi := { dst := some 54, op := _, type := _, pos := _, after := _, guard := _ }) (v := ?_) rfl (by kernel_rfl) (by kernel_rfl) (by kernel_rfl) (fun _ _ _ h => h) (Or.inl ⟨by kernel_rfl, ?_⟩) (by assumption) ?_
  rotate_left
  · intro w hSw
    try dsimp only at hSw
    go_simp
    try with_reducible rfl
  try simp only [Act.put, List.setIfInBounds_toArray, List.set_cons_zero, List.set_cons_succ]
  refine wpAnyH_take (i := 9) (oi := { dst := some 55, op := _, type := _, pos := _, after := _, guard := _ }) (v := ?_) rfl (by kernel_rfl) (by kernel_rfl) (by kernel_rfl) (fun _ _ _ h => h) (Or.inl ⟨by kernel_rfl, ?_⟩) (by assumption) ?_
  rotate_left
  · intro w hSw
    try dsimp only at hSw
    go_simp
    try with_reducible rfl
  try simp only [Act.put, List.setIfInBounds_toArray, List.set_cons_zero, List.set_cons_succ]
  refine wpAnyH_take (i := 10) (oi := { dst := some 56, op := _, type := _, pos := _, after := _, guard := _ }) (v := ?_) rfl (by kernel_rfl) (by kernel_rfl) (by kernel_rfl) (fun _ _ _ h => h) (Or.inl ⟨by kernel_rfl, ?_⟩) (by assumption) ?_
  rotate_left
  · intro w hSw
    try dsimp only at hSw
    have k0 : w.cell? ⟨gE, 0, none⟩ = some (.int .i64 na) := hSw.cell 0
    have k1 : w.cell? ⟨gE, 1, none⟩ = some (.string b) := hSw.cell 1
    have k2 : w.cell? ⟨gE, 2, none⟩ = some (.int .i64 nc) := hSw.cell 2
    go_simp
    try with_reducible rfl
  try simp only [Act.put, List.setIfInBounds_toArray, List.set_cons_zero, List.set_cons_succ]
  refine wpAnyH_ready (rs := [11]) (by kernel_rfl) (by simp) ?_
  refine AllReadyH.cons (o := { dst := some 57, op := _, type := _, pos := _, after := _, guard := _ }) rfl (fun K hK => ?_) AllReadyH.nil
  go_simp
  (try dsimp only at hHeld); go_split_ands
  refine (ValidEntry_c ⟨na, b, nc⟩ (show b.size ≤ _ by omega) _).mono ?_
  rintro e W6 ⟨rfl, hb⟩
  replace hv1 := bl_trans hv1 hb
  replace hR := hR.below hb
  replace hE2 := hE2.below hb
  clear hb
  go_wp2_with fail
  refine hK.out _ _ ?_ (fun hHeld => ?_)
  · (try dsimp only); go_split_ands; exact hE2
  clear hK K
  try simp only [Act.put, List.setIfInBounds_toArray, List.set_cons_zero, List.set_cons_succ]
  refine wpAnyH_take (i := 12) (oi := { dst := some 58, op := _, type := _, pos := _, after := _, guard := _ }) (v := ?_) rfl (by kernel_rfl) (by kernel_rfl) (by kernel_rfl) (fun _ _ _ h => h) (Or.inl ⟨by kernel_rfl, ?_⟩) (by assumption) ?_
  rotate_left
  · intro w hSw
    try dsimp only at hSw
    go_simp
    try with_reducible rfl
  try simp only [Act.put, List.setIfInBounds_toArray, List.set_cons_zero, List.set_cons_succ]
  have f0 : W6.frozen? ⟨gR, 0, none⟩ = false := hR.frozen 0
  have r0 : W6.cell? ⟨gR, 0, none⟩ = some (.int .i64 0) := hR.cell 0
  have f1 : W6.frozen? ⟨gR, 1, none⟩ = false := hR.frozen 1
  have r1 : W6.cell? ⟨gR, 1, none⟩ = some (.string ⟨#[]⟩) := hR.cell 1
  have f2 : W6.frozen? ⟨gR, 2, none⟩ = false := hR.frozen 2
  have r2 : W6.cell? ⟨gR, 2, none⟩ = some (.int .i64 0) := hR.cell 2
  refine wpAnyH_ready (rs := [13]) (by kernel_rfl) (by simp) ?_
  refine AllReadyH.cons (o := { dst := none, op := _, type := _, pos := _, after := _, guard := _ }) rfl (fun K hK => ?_) AllReadyH.nil
  go_simp
  (try dsimp only at hHeld); go_split_ands
  have hR2 := ((hR.set_ 0 (.int .i64 na)).set_ 1 (.string b)).set_ 2 (.int .i64 nc)
  have hv2 := bl_set (bl_set (bl_set hv1 (p := ⟨gR, 0, none⟩) hgR1 (.int .i64 na)) (p := ⟨gR, 1, none⟩) hgR1 (.string b)) (p := ⟨gR, 2, none⟩) hgR1 (.int .i64 nc)
  refine hK.out _ _ ?_ (fun hHeld => ?_)
  · (try dsimp only); go_split_ands; exact ((hE2.far hgE1.symm _).far hgE1.symm _).far hgE1.symm _
  clear hK K
  try simp only [Act.put]
  refine wpAnyH_take (i := 14) (oi := { dst := some 3, op := _, type := _, pos := _, after := _, guard := _ }) (v := ?_) rfl (by kernel_rfl) (by kernel_rfl) (by kernel_rfl) (fun _ _ _ h => h) (Or.inl ⟨by kernel_rfl, ?_⟩) (by assumption) ?_
  rotate_left
  · intro w hSw
    try dsimp only at hSw
    go_simp
    try with_reducible rfl
  try simp only [Act.put, List.setIfInBounds_toArray, List.set_cons_zero, List.set_cons_succ]
  refine wpAnyH_take (i := 15) (oi := { dst := some 4, op := _, type := _, pos := _, after := _, guard := _ }) (v := ?_) rfl (by kernel_rfl) (by kernel_rfl) (by kernel_rfl) (fun _ _ _ h => h) (Or.inl ⟨by kernel_rfl, ?_⟩) (by assumption) ?_
  rotate_left
  · intro w hSw
    try dsimp only at hSw
    go_simp
    try with_reducible rfl
  try simp only [Act.put, List.setIfInBounds_toArray, List.set_cons_zero, List.set_cons_succ]
  refine wpAnyH_done (by kernel_rfl) ?_ _
  go_wp2_with fail
  refine bodyPost_ret (results_cell_row_tmp2 (P := Tryz.prog) rfl _ _ gR 158 #[Value.int IntKind.i64 na, Value.string b, Value.int IntKind.i64 nc] (0, 0) _ rfl hR2 Tryz.underlying158 rfl (by kernel_rfl)) rfl ?_
  exact ⟨⟨na, b, nc⟩, nd, entB ⟨na, b, nc⟩, rfl, hsb, ⟨ba0, ba1⟩, ⟨bd0, bd1⟩, by rw [HL.out]; rfl, hv2⟩

end Go.Proofs.YtihgjmhhpiobbaaGreatDoor
