/- Instalments: the program's and the reference's. -/
import Derived.Test.YtopbiihiogbhiaaBillZ
import Derived.Test.YtopbiihiogbhiaaApp
namespace Go.Proofs.Ytopbiihiogbhiaa
open Go.RowKit


def instF (l m : Int) (k : Nat) : Int := l / m + if (k : Int) < l % m then 1 else 0
def instL (l m : Int) : List Int := (List.range m.toNat).map (instF l m)
def iInst (xs : List Item) (o t p k : Int) : List Int := if billB xs o t p = true then (if inB k 1 60 = true then instL (totOf (sumGo xs 0) o t - p) k else []) else []
def cInst (xs : List Item) (o t p k : Int) : Int := if billB xs o t p = true then (if inB k 1 60 = true then 0 else 2) else 1
theorem info_int64' : (Try.prog.info? 2).map (fun i => (i.zero, i.size, i.bytes)) = some (some (.int .i64 0), 1, 8) := by kernel_rfl

theorem instL_length (l m : Int) : (instL l m).length = m.toNat := by simp [instL]
theorem inst_step (l m : Int) (k : Nat) (h : k < m.toNat) : flat icell ((instL l m).take (k + 1)) = flat icell ((instL l m).take k) ++ [Value.int .i64 (instF l m k)] := by
  unfold instL
  rw [← List.map_take, ← List.map_take, range_take_succ _ _ h, List.map_append]
  simp [flat, icell]
theorem inst_all (l m : Int) (k : Nat) (h : k = m.toNat) : (instL l m).take k = instL l m := List.take_of_length_le (by rw [instL_length]; omega)
theorem OutL.nil' {E size : Nat} {l : List Int} {code code' : Int} {w w' : World} (hl : l = []) (hc : code' = code) (hb : Below w.heap.size w w') : OutL E size l.length (flat icell l) code' w (.returned (.tuple #[.slice none 0 0, .int .i64 code])) w' := by
  subst hl; subst hc; exact OutL.nil hb
theorem inst_bd {l m : Int} (k : Nat) (h0 : 0 ≤ l) (h2 : 1 ≤ m) : 0 ≤ l / m ∧ l / m ≤ l ∧ 0 ≤ l % m ∧ l % m < m ∧ 0 ≤ instF l m k ∧ instF l m k ≤ l + 1 := by
  have a := Int.ediv_nonneg h0 (by omega : 0 ≤ m)
  have b := Int.ediv_le_self m h0
  have c := Int.emod_nonneg l (by omega : m ≠ 0)
  have d := Int.emod_lt_of_pos l (by omega : 0 < m)
  refine ⟨a, b, c, d, ?_⟩
  unfold instF
  split <;> omega

set_option maxRecDepth 100000 in
set_option maxHeartbeats 1600000 in
theorem Instalments_c (A : Option Addr) (xs : List Item) (n c : Nat) (o t p : Int) (hn : Hid (xs.length = n)) (k : Int) (hm : (n : Int) ≤ 1048576) (hs : Hid (∀ x ∈ xs, x.name.size ≤ 9223372036854775807)) (w : World) (hA : Arr w A (flat Item.cells xs)) : Calls Try.prog 41 #[.agg #[.slice A n c, .int .i64 o, .int .i64 t, .int .i64 p], .int .i64 k] w (OutL 2 1 (iInst xs o t p k).length (flat icell (iInst xs o t p k)) (cInst xs o t p k) w) := by
  obtain ⟨i0, hi0, hz0, hz1, hz2⟩ := info_parts (P := Try.prog) (e := 2) (z := .int .i64 0) (size := 1) (bytes := 8) info_int64'
  go_enter Try.func41, Try.ntmps41
  go_wp2_with fail
  obtain ⟨w0, hw0⟩ : ∃ w0, w0 = w.alloc (Obj.cells #[Value.slice A n c, Value.int IntKind.i64 o, Value.int IntKind.i64 t, Value.int IntKind.i64 p] 49) := ⟨_, rfl⟩
  obtain ⟨g, hg⟩ : ∃ g, g = w.heap.size := ⟨_, rfl⟩
  have hv : Below w.heap.size w w0 := by rw [hw0]; exact bl_alloc (Below.refl _ _) _
  have hB : Blk w0 g 49 #[Value.slice A n c, Value.int IntKind.i64 o, Value.int IntKind.i64 t, Value.int IntKind.i64 p] := by rw [hw0, hg]; exact Blk.new _ _ _
  rw [← hw0, ← hg]
  clear hw0
  have HG := Lib.hid hg
  clear hg
  have k0 : w0.cell? ⟨g, 0, none⟩ = some (.slice A n c) := hB.cell 0
  have k1 : w0.cell? ⟨g, 1, none⟩ = some (.int .i64 o) := hB.cell 1
  have k2 : w0.cell? ⟨g, 2, none⟩ = some (.int .i64 t) := hB.cell 2
  have k3 : w0.cell? ⟨g, 3, none⟩ = some (.int .i64 p) := hB.cell 3
  refine (billCode_c A xs n c o t p hn k 1 60 hm hs _ (hA.below hv)).mono ?_
  rintro e W ⟨rfl, hb⟩
  replace hv := bl_trans hv hb
  replace hB := hB.below hb
  have k0 : W.cell? ⟨g, 0, none⟩ = some (.slice A n c) := hB.cell 0
  have k1 : W.cell? ⟨g, 1, none⟩ = some (.int .i64 o) := hB.cell 1
  have k2 : W.cell? ⟨g, 2, none⟩ = some (.int .i64 t) := hB.cell 2
  have k3 : W.cell? ⟨g, 3, none⟩ = some (.int .i64 p) := hB.cell 3
  rcases bill_cases xs o t p with HB | ⟨HB, hx, ho0, ho1, ht0, ht1, hp0, hp1, hs0, hs1, hT0, hT1⟩
  · rw [show bCode xs o t p k 1 60 = 1 from by rw [bCode, HB.out]; rfl]
    have HC := Lib.hid (show cInst xs o t p k = 1 from by rw [cInst, HB.out]; rfl)
    have HI := Lib.hid (show iInst xs o t p k = [] from by rw [iInst, HB.out]; rfl)
    go_wp2_with fail
    go_returns
    exact OutL.nil' HI.out HC.out hv
  · cases h1 : inB k 1 60
    · rw [show bCode xs o t p k 1 60 = 2 from by rw [bCode, HB.out, h1]; rfl]
      have HC := Lib.hid (show cInst xs o t p k = 2 from by rw [cInst, HB.out, h1]; rfl)
      have HI := Lib.hid (show iInst xs o t p k = [] from by rw [iInst, HB.out, h1]; rfl)
      go_wp2_with fail
      go_returns
      exact OutL.nil' HI.out HC.out hv
    · rw [show bCode xs o t p k 1 60 = 0 from by rw [bCode, HB.out, h1]; rfl]
      have HI := Lib.hid (show iInst xs o t p k = instL (totOf (sumGo xs 0) o t - p) k from by rw [iInst, HB.out, h1]; rfl)
      have HC := Lib.hid (show cInst xs o t p k = 0 from by rw [cInst, HB.out, h1]; rfl)
      obtain ⟨hk0, hk1⟩ := inB_iff.1 h1
      obtain ⟨l, hl⟩ : ∃ l, l = totOf (sumGo xs 0) o t - p := ⟨_, rfl⟩
      have hl0 : 0 ≤ l := by omega
      have hl1 : l ≤ 2400000000000 := by omega
      rw [← hl] at HI
      have HL := Lib.hid hl
      clear hl
      obtain ⟨m, rfl⟩ : ∃ m : Nat, k = (m : Int) := ⟨k.toNat, by omega⟩
      clear h1
      obtain ⟨W1, hW1⟩ : ∃ W1, W1 = W.alloc (Obj.cells #[] 2) := ⟨_, rfl⟩
      obtain ⟨g1, hg1⟩ : ∃ g1, g1 = W.heap.size := ⟨_, rfl⟩
      have hb1 : Below W.heap.size W W1 := by rw [hW1]; exact bl_alloc (Below.refl _ _) _
      have hown : W1.ownsRow w.heap.size 2 1 (.slice (some ⟨g1, 0, none⟩) 0 0) 0 [] := by rw [hW1, hg1]; exact own_empty W _ _ _ hv.size
      have a0 := bl_cell hb1 k0
      have a1 := bl_cell hb1 k1
      have a2 := bl_cell hb1 k2
      have a3 := bl_cell hb1 k3
      rw [hW1] at a0 a1 a2 a3
      go_wp2_with fail
      rw [← hW1, ← hg1]
      clear hW1 hg1 a0 a1 a2 a3
      replace hv := bl_trans hv hb1
      replace hB := hB.below hb1
      refine (left_c A xs n c o t p _ hn hx (Lib.hid rfl) ho0 ho1 ht0 ht1 hp0 hp1 _ (hA.below hv)).mono ?_
      rintro e W ⟨rfl, hb⟩
      rw [← HL.out]
      replace hv := bl_trans hv hb
      replace hown := own_below hown hb
      clear hB k0 k1 k2 k3
      go_wp2_with fail
      have hown0 : ∃ A' c', Value.slice (some ⟨g1, 0, none⟩) 0 0 = .slice A' 0 c' ∧ W.ownsRow w.heap.size 2 1 (.slice A' 0 c') 0 (flat icell ((instL l m).take 0)) := ⟨_, _, rfl, by simpa [flat] using hown⟩
      go_loopw [7, 21] (fun v i wr => ∃ (j : Nat) (A' : Option Addr) (c' : Nat), j ≤ m ∧ i = .int .i64 j ∧ v = .slice A' j c' ∧ wr.ownsRow w.heap.size 2 1 (.slice A' j c') j (flat icell ((instL l m).take j)) ∧ Below w.heap.size w wr) (fun _ i _ => m - (intOf i).toNat)
      case atStart => exact ⟨0, _, _, by omega, rfl, rfl, by simpa [flat] using hown, hv⟩
      case round =>
        clear hown hown0 hv
        obtain ⟨j, A', c', hj, rfl, rfl, hown, hv⟩ := hrel
        by_cases hlt : j < m
        · obtain ⟨q0, q1, r0, r1, f0, f1⟩ := inst_bd (l := l) (m := m) j hl0 hk0
          have hq := Int.tdiv_eq_ediv_of_nonneg (b := (m : Int)) hl0
          have hr := Int.tmod_eq_emod_of_nonneg (b := (m : Int)) hl0
          have hm0 : ¬ (m : Int) = 0 := by omega
          have HS := Lib.hid (inst_step l m j (by omega))
          by_cases hjr : (j : Int) < l % m
          · have hf : instF l m j = l / m + 1 := by rw [instF, if_pos hjr]
            go_wp2_with (at_builtin; refine app_own _ _ rfl _ _ 25 2 rfl i0 _ 1 8 Try.underlying25 hi0 hz0 hz1 hz2 rfl (by omega) _ (.slice A' j c') j _ rfl rfl hown rfl (by simp [Value.oneCell']) (by unfold maxLen; omega) (by omega) hv.size ?_; intro A2 c2 w2 hown2 hg2)
            exact ⟨⟨j + 1, A2, c2, by omega, by go_num, rfl, by rw [HS.out, hf]; exact hown2, bl_grown hv hg2 (own_at hown)⟩, by simp [intOf]; omega⟩
          · have hf : instF l m j = l / m := by rw [instF, if_neg hjr]; omega
            go_wp2_with (at_builtin; refine app_own _ _ rfl _ _ 25 2 rfl i0 _ 1 8 Try.underlying25 hi0 hz0 hz1 hz2 rfl (by omega) _ (.slice A' j c') j _ rfl rfl hown rfl (by simp [Value.oneCell']) (by unfold maxLen; omega) (by omega) hv.size ?_; intro A2 c2 w2 hown2 hg2)
            exact ⟨⟨j + 1, A2, c2, by omega, by go_num, rfl, by rw [HS.out, hf]; exact hown2, bl_grown hv hg2 (own_at hown)⟩, by simp [intOf]; omega⟩
        · have hjm : j = m := by omega
          subst hjm
          go_wp2_with fail
          go_returns
          rw [inst_all l j j (by omega)] at hown
          exact OutL.mk hown (by rw [HI.out, instL_length]; omega) (by rw [HI.out]) HC.out.symm hv

set_option maxRecDepth 100000 in
set_option maxHeartbeats 1600000 in
theorem SInstalments_c (A : Option Addr) (xs : List Item) (n c : Nat) (o t p : Int) (hn : Hid (xs.length = n)) (k : Int) (hm : (n : Int) ≤ 1048576) (hs : Hid (∀ x ∈ xs, x.name.size ≤ 9223372036854775807)) (w : World) (hA : Arr w A (flat Item.cells xs)) : Calls Try.prog 42 #[.agg #[.slice A n c, .int .i64 o, .int .i64 t, .int .i64 p], .int .i64 k] w (OutL 2 1 (iInst xs o t p k).length (flat icell (iInst xs o t p k)) (cInst xs o t p k) w) := by
  obtain ⟨i0, hi0, hz0, hz1, hz2⟩ := info_parts (P := Try.prog) (e := 2) (z := .int .i64 0) (size := 1) (bytes := 8) info_int64'
  go_enter Try.func42, Try.ntmps42
  go_wp2_with fail
  obtain ⟨w0, hw0⟩ : ∃ w0, w0 = w.alloc (Obj.cells #[Value.slice A n c, Value.int IntKind.i64 o, Value.int IntKind.i64 t, Value.int IntKind.i64 p] 49) := ⟨_, rfl⟩
  obtain ⟨g, hg⟩ : ∃ g, g = w.heap.size := ⟨_, rfl⟩
  have hv : Below w.heap.size w w0 := by rw [hw0]; exact bl_alloc (Below.refl _ _) _
  have hB : Blk w0 g 49 #[Value.slice A n c, Value.int IntKind.i64 o, Value.int IntKind.i64 t, Value.int IntKind.i64 p] := by rw [hw0, hg]; exact Blk.new _ _ _
  rw [← hw0, ← hg]
  clear hw0
  have HG := Lib.hid hg
  clear hg
  have k0 : w0.cell? ⟨g, 0, none⟩ = some (.slice A n c) := hB.cell 0
  have k1 : w0.cell? ⟨g, 1, none⟩ = some (.int .i64 o) := hB.cell 1
  have k2 : w0.cell? ⟨g, 2, none⟩ = some (.int .i64 t) := hB.cell 2
  have k3 : w0.cell? ⟨g, 3, none⟩ = some (.int .i64 p) := hB.cell 3
  refine (l26Ok_c g A xs n c o t p hn hm hs _ hB (hA.below hv)).mono ?_
  rintro e W ⟨rfl, hb⟩
  replace hv := bl_trans hv hb
  replace hB := hB.below hb
  have k0 : W.cell? ⟨g, 0, none⟩ = some (.slice A n c) := hB.cell 0
  have k1 : W.cell? ⟨g, 1, none⟩ = some (.int .i64 o) := hB.cell 1
  have k2 : W.cell? ⟨g, 2, none⟩ = some (.int .i64 t) := hB.cell 2
  have k3 : W.cell? ⟨g, 3, none⟩ = some (.int .i64 p) := hB.cell 3
  rcases bill_cases xs o t p with HB | ⟨HB, hx, ho0, ho1, ht0, ht1, hp0, hp1, hs0, hs1, hT0, hT1⟩
  · rw [HB.out]
    have HC := Lib.hid (show cInst xs o t p k = 1 from by rw [cInst, HB.out]; rfl)
    have HI := Lib.hid (show iInst xs o t p k = [] from by rw [iInst, HB.out]; rfl)
    go_wp2_with fail
    go_returns
    exact OutL.nil' HI.out HC.out hv
  · rw [HB.out]
    cases h1 : inB k 1 60
    · have HC := Lib.hid (show cInst xs o t p k = 2 from by rw [cInst, HB.out, h1]; rfl)
      have HI := Lib.hid (show iInst xs o t p k = [] from by rw [iInst, HB.out, h1]; rfl)
      go_wp2_with (first | (go_at_call 57; refine (l00In_c _ _ _ _).mono ?_; rintro e w' ⟨rfl, rfl⟩))
      go_returns
      exact OutL.nil' HI.out HC.out hv
    · have HI := Lib.hid (show iInst xs o t p k = instL (totOf (sumGo xs 0) o t - p) k from by rw [iInst, HB.out, h1]; rfl)
      have HC := Lib.hid (show cInst xs o t p k = 0 from by rw [cInst, HB.out, h1]; rfl)
      obtain ⟨hk0, hk1⟩ := inB_iff.1 h1
      obtain ⟨l, hl⟩ : ∃ l, l = totOf (sumGo xs 0) o t - p := ⟨_, rfl⟩
      have hl0 : 0 ≤ l := by omega
      have hl1 : l ≤ 2400000000000 := by omega
      rw [← hl] at HI
      have HL := Lib.hid hl
      clear hl
      obtain ⟨m, rfl⟩ : ∃ m : Nat, k = (m : Int) := ⟨k.toNat, by omega⟩
      go_wp2_with (first | (go_at_call 57; refine (l00In_c _ _ _ _).mono ?_; rintro e w' ⟨rfl, rfl⟩))
      refine (l26Left_c g A xs n c o t p hn _ hx (Lib.hid rfl) ho0 ho1 ht0 ht1 hp0 hp1 _ hB (hA.below hv)).mono ?_
      rintro e W ⟨rfl, hb⟩
      rw [← HL.out]
      replace hv := bl_trans hv hb
      clear hB h1
      go_wp2_with fail
      have hown := own_empty W w.heap.size 2 1 hv.size
      replace hv := bl_alloc hv (Obj.cells #[] 2)
      go_loopw [7, 8] (fun v i wr => ∃ (j : Nat) (A' : Option Addr) (c' : Nat), j ≤ m ∧ i = .int .i64 j ∧ v = .slice A' j c' ∧ wr.ownsRow w.heap.size 2 1 (.slice A' j c') j (flat icell ((instL l m).take j)) ∧ Below w.heap.size w wr) (fun _ i _ => m - (intOf i).toNat)
      case atStart => exact ⟨0, _, _, by omega, rfl, rfl, by simpa [flat] using hown, hv⟩
      case round =>
        clear hown hv
        obtain ⟨j, A', c', hj, rfl, rfl, hown, hv⟩ := hrel
        by_cases hlt : j < m
        · obtain ⟨q0, q1, r0, r1, f0, f1⟩ := inst_bd (l := l) (m := m) j hl0 hk0
          have hq := Int.tdiv_eq_ediv_of_nonneg (b := (m : Int)) hl0
          have hr := Int.tmod_eq_emod_of_nonneg (b := (m : Int)) hl0
          have hm0 : ¬ (m : Int) = 0 := by omega
          have HS := Lib.hid (inst_step l m j (by omega))
          by_cases hjr : (j : Int) < l % m
          · have hf : instF l m j = l / m + 1 := by rw [instF, if_pos hjr]
            go_wp2_with (at_builtin; refine app_own _ _ rfl _ _ 25 2 rfl i0 _ 1 8 Try.underlying25 hi0 hz0 hz1 hz2 rfl (by omega) _ (.slice A' j c') j _ rfl rfl hown rfl (by simp [Value.oneCell']) (by unfold maxLen; omega) (by omega) hv.size ?_; intro A2 c2 w2 hown2 hg2)
            exact ⟨⟨j + 1, A2, c2, by omega, by go_num, rfl, by rw [HS.out, hf]; exact hown2, bl_grown hv hg2 (own_at hown)⟩, by simp [intOf]; omega⟩
          · have hf : instF l m j = l / m := by rw [instF, if_neg hjr]; omega
            go_wp2_with (at_builtin; refine app_own _ _ rfl _ _ 25 2 rfl i0 _ 1 8 Try.underlying25 hi0 hz0 hz1 hz2 rfl (by omega) _ (.slice A' j c') j _ rfl rfl hown rfl (by simp [Value.oneCell']) (by unfold maxLen; omega) (by omega) hv.size ?_; intro A2 c2 w2 hown2 hg2)
            exact ⟨⟨j + 1, A2, c2, by omega, by go_num, rfl, by rw [HS.out, hf]; exact hown2, bl_grown hv hg2 (own_at hown)⟩, by simp [intOf]; omega⟩
        · have hjm : j = m := by omega
          subst hjm
          go_wp2_with fail
          go_returns
          rw [inst_all l j j (by omega)] at hown
          exact OutL.mk hown (by rw [HI.out, instL_length]; omega) (by rw [HI.out]) HC.out.symm hv
end Go.Proofs.Ytopbiihiogbhiaa
