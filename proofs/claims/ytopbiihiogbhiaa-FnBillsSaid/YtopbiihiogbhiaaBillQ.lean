/- PayBill: the reference's. -/
import Derived.Test.YtopbiihiogbhiaaBillP
namespace Go.Proofs.Ytopbiihiogbhiaa
open Go.RowKit

/-- append onto a new empty slice -/
theorem wp_clone {P : Program} {o : Oper} {a : Act} {K : Act → World → Prop} {Q : Exit → Act → World → Prop} (w : World) (s x : Operand) (t e : TypeId)
    (ho : o.op = .call { callee := .builtin .append, args := #[s, x], argTypes := #[t, t] })
    (i : TypeInfo) (z : Value) (size bytes : Nat) (ht : P.underlying t = some (.slice e)) (hi : P.info? e = some i) (hz : i.zero = some z)
    (hsize : i.size = size) (hby : i.bytes = bytes) (hzs : z.cells.size = size) (hsz : 0 < size)
    (g : Nat) (hg : g = w.heap.size) (hs : a.eval s = .slice (some ⟨g, 0, none⟩) 0 0) (ad : Addr) (m c : Nat) (C : List Value) (hx : a.eval x = .slice (some ad) m c) (hA : Arr w (some ad) C)
    (hl : C.length = m * size) (h1 : ∀ u ∈ C, u.oneCell' = true) (h63 : m ≤ maxLen) (hbytes : m * bytes ≤ 140737488355328)
    (h : ∀ A c' w', w'.ownsRow w.heap.size e size (.slice A m c') m C → Below w.heap.size w w' → K (a.put o.dst (.slice A m c')) w') :
    o.wp P a (w.alloc (.cells #[] e)) K Q := by
  subst hg
  have he := own_empty w w.heap.size e size (Nat.le_refl _)
  refine wp_append_own (w.alloc (.cells #[] e)) s x t ho w.heap.size e i z size bytes ht hi hz hsize hby hzs hsz _ 0 [] hs he ad m c C hx hl ?_ h1 (by simpa using h63) (by simpa using hbytes) (by simp) ?_
  · intro j u hu
    obtain ⟨ad', e', _, hc⟩ := (hA.alloc (.cells #[] e)) (by have := (List.getElem?_eq_some_iff.1 hu).1; omega)
    injection e' with e'
    subst e'
    exact hc j u hu
  · intro v' w' hown hg _
    obtain ⟨A, c', rfl, _, _⟩ := own_form hown
    simp only [Nat.zero_add, List.nil_append] at hown ⊢
    exact h A c' w' hown (bl_grown (bl_alloc (Below.refl _ _) _) hg (own_at he))
def OutO (n : Nat) (o t p : Int) (cs : List Value) (w : World) (e : Ending) (w' : World) : Prop :=
  ∃ A c, e = .returned (.agg #[.slice A n c, .int .i64 o, .int .i64 t, .int .i64 p]) ∧ w'.ownsRow w.heap.size 94 3 (.slice A n c) n cs ∧ Below w.heap.size w w'
set_option maxRecDepth 100000 in
set_option maxHeartbeats 3200000 in
theorem l26Own_c (g : Nat) (A0 : Addr) (xs : List Item) (n c : Nat) (o t p : Int) (hn : Hid (xs.length = n)) (hm : (n : Int) ≤ 1048576) (w : World) (hB : Blk w g 49 #[Value.slice (some A0) n c, Value.int IntKind.i64 o, Value.int IntKind.i64 t, Value.int IntKind.i64 p]) (hA : Arr w (some A0) (flat Item.cells xs)) :
    Calls Try.prog 82 #[.pointer (some ⟨g, 0, none⟩)] w (OutO n o t p (flat Item.cells xs) w) := by
  obtain ⟨i0, hi0, hz0, hz1, hz2⟩ := info_parts (P := Try.prog) (e := 94) (z := .agg #[.string ByteArray.empty, .int .i64 0, .int .i64 0]) (size := 3) (bytes := 32) info_Item
  have hlen : (flat Item.cells xs).length = n * 3 := by rw [flat_length Item.cells_length, hn.out]
  go_enter Try.func82, Try.ntmps82
  go_wp2_with fail
  obtain ⟨W, hW⟩ : ∃ W, W = w.alloc (Obj.cells #[Value.slice none 0 0, Value.int IntKind.i64 0, Value.int IntKind.i64 0, Value.int IntKind.i64 0] 49) := ⟨_, rfl⟩
  obtain ⟨g1, hg1⟩ : ∃ g1, g1 = w.heap.size := ⟨_, rfl⟩
  have hv : Below w.heap.size w W := by rw [hW]; exact bl_alloc (Below.refl _ _) _
  have hR : Blk W g1 49 #[Value.slice none 0 0, Value.int IntKind.i64 0, Value.int IntKind.i64 0, Value.int IntKind.i64 0] := by rw [hW, hg1]; exact Blk.new _ _ _
  have hge : w.heap.size ≤ g1 := by omega
  have hgne : g ≠ g1 := by have := hB.lt; omega
  replace hB := hB.below hv
  replace hA := hA.below hv
  rw [← hW, ← hg1]
  clear hW hg1
  have hrl := hR.lt
  have hvs := hv.size
  have k0 : W.cell? ⟨g, 0, none⟩ = some (.slice (some A0) n c) := hB.cell 0
  have k1 : W.cell? ⟨g, 1, none⟩ = some (.int .i64 o) := hB.cell 1
  have k2 : W.cell? ⟨g, 2, none⟩ = some (.int .i64 t) := hB.cell 2
  have k3 : W.cell? ⟨g, 3, none⟩ = some (.int .i64 p) := hB.cell 3
  have hvd := hv.drew
  have hBd : Blk W.drew g 49 #[Value.slice (some A0) n c, Value.int IntKind.i64 o, Value.int IntKind.i64 t, Value.int IntKind.i64 p] := hB.below (Below.refl _ _).drew
  go_region_held3 (fun w' => Below w.heap.size w w' ∧ Blk w' g 49 #[Value.slice (some A0) n c, Value.int IntKind.i64 o, Value.int IntKind.i64 t, Value.int IntKind.i64 p] ∧ w'.cell? ⟨g, 0, none⟩ = some (.slice (some A0) n c) ∧ w'.cell? ⟨g, 1, none⟩ = some (.int .i64 o) ∧ w'.cell? ⟨g, 2, none⟩ = some (.int .i64 t) ∧ w'.cell? ⟨g, 3, none⟩ = some (.int .i64 p))
    (first | exact ⟨hvd, hBd, k0, k1, k2, k3⟩ | exact ⟨bl_alloc hvd _, hBd.alloc _, (hBd.alloc _).cell 0, (hBd.alloc _).cell 1, (hBd.alloc _).cell 2, (hBd.alloc _).cell 3⟩ | exact ⟨bl_trans hvd hb, hBd.below hb, (hBd.below hb).cell 0, (hBd.below hb).cell 1, (hBd.below hb).cell 2, (hBd.below hb).cell 3⟩ | (have hb4 := bl_set (bl_set (bl_set (bl_set (bl_trans hvd hb) (p := ⟨g1, 0, none⟩) hge (Value.slice A2 n c2)) (p := ⟨g1, 1, none⟩) hge (Value.int IntKind.i64 o)) (p := ⟨g1, 2, none⟩) hge (Value.int IntKind.i64 t)) (p := ⟨g1, 3, none⟩) hge (Value.int IntKind.i64 p); have hB4 := ((((hBd.below hb).far (p := ⟨g1, 0, none⟩) hgne (Value.slice A2 n c2)).far (p := ⟨g1, 1, none⟩) hgne (Value.int IntKind.i64 o)).far (p := ⟨g1, 2, none⟩) hgne (Value.int IntKind.i64 t)).far (p := ⟨g1, 3, none⟩) hgne (Value.int IntKind.i64 p); exact ⟨hb4, hB4, hB4.cell 0, hB4.cell 1, hB4.cell 2, hB4.cell 3⟩))
    (first | (rw [if_pos (by rfl)]; refine wp_clone _ _ _ 47 94 rfl i0 _ 3 32 Try.underlying47 hi0 hz0 hz1 hz2 rfl (by omega) _ rfl rfl A0 n c _ rfl (hA.below (Below.refl _ _).drew) hlen (Item.ones xs) (by unfold maxLen; omega) (by omega) ?_; intro A2 c2 w2 hown hb; have hR' := (hR.below (Below.refl _ _).drew).below hb; have e0 := hR'.cell 0; have e1 := hR'.cell 1; have e2 := hR'.cell 2; have e3 := hR'.cell 3; have z0 := hR'.frozen 0; have z1 := hR'.frozen 1; have z2 := hR'.frozen 2; have z3 := hR'.frozen 3))
  go_split_ands
  go_wp2_with fail
  refine bodyPost_ret (results_cell_row (P := Try.prog) rfl _ _ g1 49 #[.slice A2 n c2, .int .i64 o, .int .i64 t, .int .i64 p] (0, 0) _ rfl ?_ Try.underlying49 rfl (by kernel_rfl)) rfl ?_
  · exact (((hR'.set_ 0 _).set_ 1 _).set_ 2 _).set_ 3 _
  · have hfar : ∀ g', Value.ownBlock (.slice A2 n c2) = some g' → g' ≠ g1 := fun g' h => Nat.ne_of_gt (Nat.lt_of_lt_of_le hrl (own_at hown g' h))
    refine ⟨A2, c2, rfl, own_base (own_far (own_far (own_far (own_far hown ?_ _) ?_ _) ?_ _) ?_ _) hvs, ?_⟩
    · exact hfar
    · exact hfar
    · exact hfar
    · exact hfar
    · assumption
set_option maxRecDepth 100000 in
set_option maxHeartbeats 3200000 in
theorem SPayBill_c (A0 : Addr) (A : Option Addr) (xs : List Item) (n c : Nat) (o t p : Int) (hn : Hid (xs.length = n)) (hA0 : A = some A0) (k : Int) (hm : (n : Int) ≤ 1048576) (hs : Hid (∀ x ∈ xs, x.name.size ≤ 9223372036854775807)) (w : World) (hA : Arr w A (flat Item.cells xs)) : Calls Try.prog 32 #[.agg #[.slice A n c, .int .i64 o, .int .i64 t, .int .i64 p], .int .i64 k] w
    (OutP (lPay xs o t p k).length (vPay xs o t p k o) (vPay xs o t p k t) (vPay xs o t p k (p + k)) (flat Item.cells (lPay xs o t p k)) (cPay xs o t p k) w) := by
  subst hA0
  go_enter Try.func32, Try.ntmps32
  go_wp2_with fail
  obtain ⟨w0, hw0⟩ : ∃ w0, w0 = (w.alloc (Obj.cells #[Value.slice (some A0) n c, Value.int IntKind.i64 o, Value.int IntKind.i64 t, Value.int IntKind.i64 p] 49)).alloc (Obj.cells #[Value.slice none 0 0, Value.int IntKind.i64 0, Value.int IntKind.i64 0, Value.int IntKind.i64 0] 49) := ⟨_, rfl⟩
  obtain ⟨g, hg⟩ : ∃ g, g = w.heap.size := ⟨_, rfl⟩
  obtain ⟨g1, hg1⟩ : ∃ g1, g1 = w.heap.size + 1 := ⟨_, rfl⟩
  have hv : Below w.heap.size w w0 := by rw [hw0]; exact bl_alloc (bl_alloc (Below.refl _ _) _) _
  have hB : Blk w0 g 49 #[Value.slice (some A0) n c, Value.int IntKind.i64 o, Value.int IntKind.i64 t, Value.int IntKind.i64 p] := by rw [hw0, hg]; exact (Blk.new _ _ _).alloc _
  have hR : Blk w0 g1 49 #[Value.slice none 0 0, Value.int IntKind.i64 0, Value.int IntKind.i64 0, Value.int IntKind.i64 0] := by
    rw [hw0, hg1]; have h := Blk.new (w.alloc (Obj.cells #[Value.slice (some A0) n c, Value.int IntKind.i64 o, Value.int IntKind.i64 t, Value.int IntKind.i64 p] 49)) 49 #[Value.slice none 0 0, Value.int IntKind.i64 0, Value.int IntKind.i64 0, Value.int IntKind.i64 0]; simpa using h
  rw [← hw0, ← hg1, ← hg]
  clear hw0
  have HG := Lib.hid hg
  have HG1 := Lib.hid hg1
  clear hg hg1
  refine (l26Ok_c g (some A0) xs n c o t p hn hm hs _ hB (hA.below hv)).mono ?_
  rintro e W ⟨rfl, hb⟩
  replace hv := bl_trans hv hb
  replace hB := hB.below hb
  replace hR := hR.below hb
  have k0 : W.cell? ⟨g, 0, none⟩ = some (.slice (some A0) n c) := hB.cell 0
  have k1 : W.cell? ⟨g, 1, none⟩ = some (.int .i64 o) := hB.cell 1
  have k2 : W.cell? ⟨g, 2, none⟩ = some (.int .i64 t) := hB.cell 2
  have k3 : W.cell? ⟨g, 3, none⟩ = some (.int .i64 p) := hB.cell 3
  have e0 : W.cell? ⟨g1, 0, none⟩ = some (.slice none 0 0) := hR.cell 0
  have e1 : W.cell? ⟨g1, 1, none⟩ = some (.int .i64 0) := hR.cell 1
  have e2 : W.cell? ⟨g1, 2, none⟩ = some (.int .i64 0) := hR.cell 2
  have e3 : W.cell? ⟨g1, 3, none⟩ = some (.int .i64 0) := hR.cell 3
  have z0 : W.frozen? ⟨g1, 0, none⟩ = false := hR.frozen 0
  have z1 : W.frozen? ⟨g1, 1, none⟩ = false := hR.frozen 1
  have z2 : W.frozen? ⟨g1, 2, none⟩ = false := hR.frozen 2
  have z3 : W.frozen? ⟨g1, 3, none⟩ = false := hR.frozen 3
  rcases bill_cases xs o t p with HB | ⟨HB, hx, ho0, ho1, ht0, ht1, hp0, hp1, hs0, hs1, hT0, hT1⟩
  · rw [HB.out]
    have HO := Lib.hid (show okPay xs o t p k = false by unfold okPay; rw [HB.out]; rfl)
    have HC := Lib.hid (show cPay xs o t p k = 1 by unfold cPay; rw [HB.out]; rfl)
    go_wp2_with fail
    refine bodyPost_ret (results_cell_row_tmp (P := Try.prog) rfl _ _ g1 49 #[.slice none 0 0, .int .i64 0, .int .i64 0, .int .i64 0] (0, 0) _ rfl ?_ Try.underlying49 rfl (by kernel_rfl)) rfl ?_
    · exact (((hR.set_ 0 _).set_ 1 _).set_ 2 _).set_ 3 _
    · refine OutP.nil HO.out (code := 1) HC.out ?_
      have hge : w.heap.size ≤ g1 := by have := HG1.out; omega
      exact bl_set (bl_set (bl_set (bl_set hv (by exact hge) _) (by exact hge) _) (by exact hge) _) (by exact hge) _
  · rw [HB.out]
    cases h1 : inB k 0 100000000000
    · have HO := Lib.hid (show okPay xs o t p k = false by unfold okPay; rw [HB.out, h1]; rfl)
      have HC := Lib.hid (show cPay xs o t p k = 2 by unfold cPay; rw [HB.out, h1]; rfl)
      have hin := fun w => l26Money_c k w
      rw [h1] at hin
      replace hin := Lib.hid hin
      clear h1
      go_wp2_with fail
      refine (hin.out _).mono ?_
      rintro e w' ⟨rfl, rfl⟩
      go_wp2_with fail
      refine bodyPost_ret (results_cell_row_tmp (P := Try.prog) rfl _ _ g1 49 #[.slice none 0 0, .int .i64 0, .int .i64 0, .int .i64 0] (0, 0) _ rfl ?_ Try.underlying49 rfl (by kernel_rfl)) rfl ?_
      · exact (((hR.set_ 0 _).set_ 1 _).set_ 2 _).set_ 3 _
      · refine OutP.nil HO.out (code := 2) HC.out ?_
        have hge : w.heap.size ≤ g1 := by have := HG1.out; omega
        exact bl_set (bl_set (bl_set (bl_set hv (by exact hge) _) (by exact hge) _) (by exact hge) _) (by exact hge) _
    · have H1 := Lib.hid h1
      obtain ⟨hk0, hk1⟩ := inB_iff.1 h1
      have hin := fun w => l26Money_c k w
      rw [h1] at hin
      replace hin := Lib.hid hin
      clear h1
      go_wp2_with fail
      refine (hin.out _).mono ?_
      rintro e w' ⟨rfl, rfl⟩
      go_wp2_with fail
      refine (l26Left_c g (some A0) xs n c o t p hn _ hx (Lib.hid rfl) ho0 ho1 ht0 ht1 hp0 hp1 _ hB (hA.below hv)).mono ?_
      rintro e W ⟨rfl, hb⟩
      replace hv := bl_trans hv hb
      replace hB := hB.below hb
      replace hR := hR.below hb
      have k0 : W.cell? ⟨g, 0, none⟩ = some (.slice (some A0) n c) := hB.cell 0
      have k1 : W.cell? ⟨g, 1, none⟩ = some (.int .i64 o) := hB.cell 1
      have k2 : W.cell? ⟨g, 2, none⟩ = some (.int .i64 t) := hB.cell 2
      have k3 : W.cell? ⟨g, 3, none⟩ = some (.int .i64 p) := hB.cell 3
      have e0 : W.cell? ⟨g1, 0, none⟩ = some (.slice none 0 0) := hR.cell 0
      have e1 : W.cell? ⟨g1, 1, none⟩ = some (.int .i64 0) := hR.cell 1
      have e2 : W.cell? ⟨g1, 2, none⟩ = some (.int .i64 0) := hR.cell 2
      have e3 : W.cell? ⟨g1, 3, none⟩ = some (.int .i64 0) := hR.cell 3
      have z0 : W.frozen? ⟨g1, 0, none⟩ = false := hR.frozen 0
      have z1 : W.frozen? ⟨g1, 1, none⟩ = false := hR.frozen 1
      have z2 : W.frozen? ⟨g1, 2, none⟩ = false := hR.frozen 2
      have z3 : W.frozen? ⟨g1, 3, none⟩ = false := hR.frozen 3
      by_cases hle : k ≤ totOf (sumGo xs 0) o t - p
      · have HO := Lib.hid (show okPay xs o t p k = true by unfold okPay; rw [HB.out, H1.out, decide_eq_true hle]; rfl)
        have HC := Lib.hid (show cPay xs o t p k = 0 by unfold cPay; rw [if_pos HB.out, if_pos H1.out, if_pos hle])
        have hsum : IntKind.i64.wrap (p + k) = p + k := IntWalk.i64_in _ (by omega)
        go_wp2_with fail
        refine (l26Own_c g A0 xs n c o t p hn hm _ hB (hA.below hv)).mono ?_
        rintro e W2 ⟨A2, c2, rfl, hown, hb2⟩
        have hv2 := bl_trans hv hb2
        have hR2 := hR.below hb2
        have hrl := hR.lt
        have hvs := hv.size
        clear hB k0 k1 k2 k3 e0 e1 e2 e3 z0 z1 z2 z3
        have a0 : ∀ O, (W2.alloc O).cell? ⟨g1, 0, none⟩ = some (.slice none 0 0) := fun O => (hR2.alloc O).cell 0
        have a1 : ∀ O, (W2.alloc O).cell? ⟨g1, 1, none⟩ = some (.int .i64 0) := fun O => (hR2.alloc O).cell 1
        have a2 : ∀ O, (W2.alloc O).cell? ⟨g1, 2, none⟩ = some (.int .i64 0) := fun O => (hR2.alloc O).cell 2
        have a3 : ∀ O, (W2.alloc O).cell? ⟨g1, 3, none⟩ = some (.int .i64 0) := fun O => (hR2.alloc O).cell 3
        have f0 : ∀ O, (W2.alloc O).frozen? ⟨g1, 0, none⟩ = false := fun O => (hR2.alloc O).frozen 0
        have f1 : ∀ O, (W2.alloc O).frozen? ⟨g1, 1, none⟩ = false := fun O => (hR2.alloc O).frozen 1
        have f2 : ∀ O, (W2.alloc O).frozen? ⟨g1, 2, none⟩ = false := fun O => (hR2.alloc O).frozen 2
        have f3 : ∀ O, (W2.alloc O).frozen? ⟨g1, 3, none⟩ = false := fun O => (hR2.alloc O).frozen 3
        have hge : w.heap.size ≤ g1 := by have := HG1.out; omega
        go_wp2_with fail
        have hfar : ∀ g', Value.ownBlock (.slice A2 n c2) = some g' → g' ≠ g1 := fun g' h => Nat.ne_of_gt (Nat.lt_of_lt_of_le hrl (own_at hown g' h))
        refine bodyPost_ret (results_cell_row_tmp (P := Try.prog) rfl _ _ g1 49 #[.slice A2 n c2, .int .i64 o, .int .i64 t, .int .i64 (p + k)] (0, 0) _ rfl ?_ Try.underlying49 rfl (by kernel_rfl)) rfl ?_
        · exact ((((hR2.alloc _).set_ 0 _).set_ 1 _).set_ 2 _).set_ 3 _
        · refine OutP.ok HO.out HC.out hn.out (own_base (own_far (own_far (own_far (own_far (own_below hown (bl_alloc (Below.refl _ _) _)) ?_ _) ?_ _) ?_ _) ?_ _) hvs) (bl_set (bl_set (bl_set (bl_set (bl_alloc hv2 _) hge _) hge _) hge _) hge _)
          · exact hfar
          · exact hfar
          · exact hfar
          · exact hfar
      · have HO := Lib.hid (show okPay xs o t p k = false by unfold okPay; rw [HB.out, H1.out, decide_eq_false hle]; rfl)
        have HC := Lib.hid (show cPay xs o t p k = 5 by unfold cPay; rw [if_pos HB.out, if_pos H1.out, if_neg hle])
        go_wp2_with fail
        refine bodyPost_ret (results_cell_row_tmp (P := Try.prog) rfl _ _ g1 49 #[.slice none 0 0, .int .i64 0, .int .i64 0, .int .i64 0] (0, 0) _ rfl ?_ Try.underlying49 rfl (by kernel_rfl)) rfl ?_
        · exact (((hR.set_ 0 _).set_ 1 _).set_ 2 _).set_ 3 _
        · refine OutP.nil HO.out (code := 5) HC.out ?_
          have hge : w.heap.size ≤ g1 := by have := HG1.out; omega
          exact bl_set (bl_set (bl_set (bl_set hv (by exact hge) _) (by exact hge) _) (by exact hge) _) (by exact hge) _
end Go.Proofs.Ytopbiihiogbhiaa
