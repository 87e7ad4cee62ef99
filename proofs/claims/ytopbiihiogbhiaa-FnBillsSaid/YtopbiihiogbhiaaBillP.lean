/- PayBill: the program's and the reference's. -/
import Derived.Test.YtopbiihiogbhiaaBillZ
import Derived.Test.YtopbiihiogbhiaaClone
import Derived.Test.YtopbiihiogbhiaaOwn
import Derived.Laws.ResultCell
namespace Go.Proofs.Ytopbiihiogbhiaa
open Go.RowKit

def okPay (xs : List Item) (o t p k : Int) : Bool := billB xs o t p && inB k 0 100000000000 && decide (k ≤ totOf (sumGo xs 0) o t - p)
def cPay (xs : List Item) (o t p k : Int) : Int := if billB xs o t p = true then (if inB k 0 100000000000 = true then (if k ≤ totOf (sumGo xs 0) o t - p then 0 else 5) else 2) else 1
def lPay (xs : List Item) (o t p k : Int) : List Item := if okPay xs o t p k = true then xs else []
def vPay (xs : List Item) (o t p k : Int) (v : Int) : Int := if okPay xs o t p k = true then v else 0
/-- A bill of one's own and a code. -/
def OutP (n : Nat) (o t p : Int) (cs : List Value) (code : Int) (w : World) (e : Ending) (w' : World) : Prop :=
  ∃ A c, e = .returned (.tuple #[.agg #[.slice A n c, .int .i64 o, .int .i64 t, .int .i64 p], .int .i64 code]) ∧ w'.ownsRow w.heap.size 94 3 (.slice A n c) n cs ∧ Below w.heap.size w w'

theorem OutP.nil {xs : List Item} {o t p k code : Int} {w w' : World} (h : okPay xs o t p k = false) (hc : cPay xs o t p k = code) (hb : Below w.heap.size w w') :
    OutP (lPay xs o t p k).length (vPay xs o t p k o) (vPay xs o t p k t) (vPay xs o t p k (p + k)) (flat Item.cells (lPay xs o t p k)) (cPay xs o t p k) w (.returned (.tuple #[.agg #[.slice none 0 0, .int .i64 0, .int .i64 0, .int .i64 0], .int .i64 code])) w' := by
  have e1 : lPay xs o t p k = [] := by unfold lPay; rw [h]; rfl
  have e2 : ∀ v, vPay xs o t p k v = 0 := by intro v; unfold vPay; rw [h]; rfl
  rw [e1, e2, e2, e2, hc]
  exact ⟨none, 0, rfl, World.ownsRow_nil _ _ _ _, hb⟩

theorem OutP.ok {xs : List Item} {o t p k : Int} {n c : Nat} {A : Option Addr} {w w' : World} (h : okPay xs o t p k = true) (hc : cPay xs o t p k = 0) (hn : xs.length = n) (ho : w'.ownsRow w.heap.size 94 3 (.slice A n c) n (flat Item.cells xs)) (hb : Below w.heap.size w w') :
    OutP (lPay xs o t p k).length (vPay xs o t p k o) (vPay xs o t p k t) (vPay xs o t p k (p + k)) (flat Item.cells (lPay xs o t p k)) (cPay xs o t p k) w (.returned (.tuple #[.agg #[.slice A n c, .int .i64 o, .int .i64 t, .int .i64 (p + k)], .int .i64 0])) w' := by
  have e1 : lPay xs o t p k = xs := by unfold lPay; rw [h]; rfl
  have e2 : ∀ v, vPay xs o t p k v = v := by intro v; unfold vPay; rw [h]; rfl
  rw [e1, e2, e2, e2, hc, hn]
  exact ⟨A, c, rfl, ho, hb⟩

set_option maxRecDepth 100000 in
set_option maxHeartbeats 3200000 in
theorem PayBill_c (A0 : Addr) (A : Option Addr) (xs : List Item) (n c : Nat) (o t p : Int) (hn : Hid (xs.length = n)) (hA0 : A = some A0) (k : Int) (hm : (n : Int) ≤ 1048576) (hs : Hid (∀ x ∈ xs, x.name.size ≤ 9223372036854775807)) (w : World) (hA : Arr w A (flat Item.cells xs)) : Calls Try.prog 31 #[.agg #[.slice A n c, .int .i64 o, .int .i64 t, .int .i64 p], .int .i64 k] w
    (OutP (lPay xs o t p k).length (vPay xs o t p k o) (vPay xs o t p k t) (vPay xs o t p k (p + k)) (flat Item.cells (lPay xs o t p k)) (cPay xs o t p k) w) := by
  subst hA0
  go_enter Try.func31, Try.ntmps31
  go_wp2_with fail
  obtain ⟨w0, hw0⟩ : ∃ w0, w0 = (w.alloc (Obj.cells #[Value.slice (some A0) n c, Value.int IntKind.i64 o, Value.int IntKind.i64 t, Value.int IntKind.i64 p] 49)).alloc (Obj.cells #[Value.slice none 0 0, Value.int IntKind.i64 0, Value.int IntKind.i64 0, Value.int IntKind.i64 0] 49) := ⟨_, rfl⟩
  obtain ⟨g, hg⟩ : ∃ g, g = w.heap.size := ⟨_, rfl⟩
  obtain ⟨g1, hg1⟩ : ∃ g1, g1 = w.heap.size + 1 := ⟨_, rfl⟩
  have hv : Below w.heap.size w w0 := by rw [hw0]; exact bl_alloc (bl_alloc (Below.refl _ _) _) _
  have hB : Blk w0 g 49 #[Value.slice (some A0) n c, Value.int IntKind.i64 o, Value.int IntKind.i64 t, Value.int IntKind.i64 p] := by rw [hw0, hg]; exact (Blk.new _ _ _).alloc _
  have hR : Blk w0 g1 49 #[Value.slice none 0 0, Value.int IntKind.i64 0, Value.int IntKind.i64 0, Value.int IntKind.i64 0] := by
    rw [hw0, hg1]; have h := Blk.new (w.alloc (Obj.cells #[Value.slice (some A0) n c, Value.int IntKind.i64 o, Value.int IntKind.i64 t, Value.int IntKind.i64 p] 49)) 49 #[Value.slice none 0 0, Value.int IntKind.i64 0, Value.int IntKind.i64 0, Value.int IntKind.i64 0]; simpa using h
  rw [← hw0, ← hg1, ← hg]
  clear hw0
  have HG := Lib.hid hg
  have HG1 := Lib.hid hg1
  clear hg hg1
  refine (billCode_c (some A0) xs n c o t p hn k 0 100000000000 hm hs _ (hA.below hv)).mono ?_
  rintro e W ⟨rfl, hb⟩
  replace hv := bl_trans hv hb
  replace hB := hB.below hb
  replace hR := hR.below hb
  have k0 : W.cell? ⟨g, 0, none⟩ = some (.slice (some A0) n c) := hB.cell 0
  have k1 : W.cell? ⟨g, 1, none⟩ = some (.int .i64 o) := hB.cell 1
  have k2 : W.cell? ⟨g, 2, none⟩ = some (.int .i64 t) := hB.cell 2
  have k3 : W.cell? ⟨g, 3, none⟩ = some (.int .i64 p) := hB.cell 3
  have e0 : W.cell? ⟨g1, 0, none⟩ = some (.slice none 0 0) := hR.cell 0
  have e1 : W.cell? ⟨g1, 1, none⟩ = some (.int .i64 0) := hR.cell 1
  have e2 : W.cell? ⟨g1, 2, none⟩ = some (.int .i64 0) := hR.cell 2
  have e3 : W.cell? ⟨g1, 3, none⟩ = some (.int .i64 0) := hR.cell 3
  have z0 : W.frozen? ⟨g1, 0, none⟩ = false := hR.frozen 0
  have z1 : W.frozen? ⟨g1, 1, none⟩ = false := hR.frozen 1
  have z2 : W.frozen? ⟨g1, 2, none⟩ = false := hR.frozen 2
  have z3 : W.frozen? ⟨g1, 3, none⟩ = false := hR.frozen 3
  rcases bill_cases xs o t p with HB | ⟨HB, hx, ho0, ho1, ht0, ht1, hp0, hp1, hs0, hs1, hT0, hT1⟩
  · rw [show bCode xs o t p k 0 100000000000 = 1 from by rw [bCode, HB.out]; rfl]
    have HO := Lib.hid (show okPay xs o t p k = false by unfold okPay; rw [HB.out]; rfl)
    have HC := Lib.hid (show cPay xs o t p k = 1 by unfold cPay; rw [HB.out]; rfl)
    go_wp2_with fail
    refine bodyPost_ret (results_cell_row_tmp (P := Try.prog) rfl _ _ g1 49 #[.slice none 0 0, .int .i64 0, .int .i64 0, .int .i64 0] (0, 0) _ rfl ?_ Try.underlying49 rfl (by kernel_rfl)) rfl ?_
    · exact (((hR.set_ 0 _).set_ 1 _).set_ 2 _).set_ 3 _
    · refine OutP.nil HO.out (code := 1) HC.out ?_
      have hge : w.heap.size ≤ g1 := by have := HG1.out; omega
      exact bl_set (bl_set (bl_set (bl_set hv (by exact hge) _) (by exact hge) _) (by exact hge) _) (by exact hge) _
  · cases h1 : inB k 0 100000000000
    · rw [show bCode xs o t p k 0 100000000000 = 2 from by rw [bCode, HB.out, h1]; rfl]
      have HO := Lib.hid (show okPay xs o t p k = false by unfold okPay; rw [HB.out, h1]; rfl)
      have HC := Lib.hid (show cPay xs o t p k = 2 by unfold cPay; rw [HB.out, h1]; rfl)
      go_wp2_with fail
      refine bodyPost_ret (results_cell_row_tmp (P := Try.prog) rfl _ _ g1 49 #[.slice none 0 0, .int .i64 0, .int .i64 0, .int .i64 0] (0, 0) _ rfl ?_ Try.underlying49 rfl (by kernel_rfl)) rfl ?_
      · exact (((hR.set_ 0 _).set_ 1 _).set_ 2 _).set_ 3 _
      · refine OutP.nil HO.out (code := 2) HC.out ?_
        have hge : w.heap.size ≤ g1 := by have := HG1.out; omega
        exact bl_set (bl_set (bl_set (bl_set hv (by exact hge) _) (by exact hge) _) (by exact hge) _) (by exact hge) _
    · rw [show bCode xs o t p k 0 100000000000 = 0 from by rw [bCode, HB.out, h1]; rfl]
      have H1 := Lib.hid h1
      obtain ⟨hk0, hk1⟩ := inB_iff.1 h1
      clear h1
      go_wp2_with fail
      refine (left_c (some A0) xs n c o t p _ hn hx (Lib.hid rfl) ho0 ho1 ht0 ht1 hp0 hp1 _ (hA.below hv)).mono ?_
      rintro e W ⟨rfl, hb⟩
      replace hv := bl_trans hv hb
      replace hB := hB.below hb
      replace hR := hR.below hb
      have k0 : W.cell? ⟨g, 0, none⟩ = some (.slice (some A0) n c) := hB.cell 0
      have k1 : W.cell? ⟨g, 1, none⟩ = some (.int .i64 o) := hB.cell 1
      have k2 : W.cell? ⟨g, 2, none⟩ = some (.int .i64 t) := hB.cell 2
      have k3 : W.cell? ⟨g, 3, none⟩ = some (.int .i64 p) := hB.cell 3
      have e0 : W.cell? ⟨g1, 0, none⟩ = some (.slice none 0 0) := hR.cell 0
      have e1 : W.cell? ⟨g1, 1, none⟩ = some (.int .i64 0) := hR.cell 1
      have e2 : W.cell? ⟨g1, 2, none⟩ = some (.int .i64 0) := hR.cell 2
      have e3 : W.cell? ⟨g1, 3, none⟩ = some (.int .i64 0) := hR.cell 3
      have z0 : W.frozen? ⟨g1, 0, none⟩ = false := hR.frozen 0
      have z1 : W.frozen? ⟨g1, 1, none⟩ = false := hR.frozen 1
      have z2 : W.frozen? ⟨g1, 2, none⟩ = false := hR.frozen 2
      have z3 : W.frozen? ⟨g1, 3, none⟩ = false := hR.frozen 3
      by_cases hle : k ≤ totOf (sumGo xs 0) o t - p
      · have HO := Lib.hid (show okPay xs o t p k = true by unfold okPay; rw [HB.out, H1.out, decide_eq_true hle]; rfl)
        have HC := Lib.hid (show cPay xs o t p k = 0 by unfold cPay; rw [if_pos HB.out, if_pos H1.out, if_pos hle])
        have hsum : IntKind.i64.wrap (p + k) = p + k := IntWalk.i64_in _ (by omega)
        go_wp2_with fail
        have hrl := hR.lt
        have hvs := hv.size
        have hge : w.heap.size ≤ g1 := by have := HG1.out; omega
        have hgne : g ≠ g1 := by have h1 := HG1.out; have h2 := HG.out; omega
        go_region_held3 (fun w' => Below w.heap.size w w' ∧ Blk w' g 49 #[Value.slice (some A0) n c, Value.int IntKind.i64 o, Value.int IntKind.i64 t, Value.int IntKind.i64 p] ∧ w'.cell? ⟨g, 0, none⟩ = some (.slice (some A0) n c) ∧ w'.cell? ⟨g, 1, none⟩ = some (.int .i64 o) ∧ w'.cell? ⟨g, 2, none⟩ = some (.int .i64 t) ∧ w'.cell? ⟨g, 3, none⟩ = some (.int .i64 p))
          (first | exact ⟨hv.drew, hB.below (Below.refl _ _).drew, k0, k1, k2, k3⟩ | (go_split_ands; exact ⟨bl_trans (by assumption) hb, Blk.below (by assumption) hb, bl_cell hb (by assumption), bl_cell hb (by assumption), bl_cell hb (by assumption), bl_cell hb (by assumption)⟩) | (go_split_ands; refine ⟨bl_set (bl_set (bl_set (bl_set (by assumption) hge _) hge _) hge _) hge _, (((Blk.far (by assumption) hgne _).far hgne _).far hgne _).far hgne _, ?_, ?_, ?_, ?_⟩ <;> exact ((((Blk.far (g := g) (t := 49) (cs := #[Value.slice (some A0) n c, Value.int IntKind.i64 o, Value.int IntKind.i64 t, Value.int IntKind.i64 p]) (by assumption) hgne _).far hgne _).far hgne _).far hgne _).cell _))
          (first | (go_at_call 80; go_split_ands; refine (cloneItem_c A0 xs n c hn hm _ (hA.below (by assumption))).mono ?_; rintro e W ⟨A2, c2, rfl, hown, hb⟩; have hR' := (hR.below (Below.refl _ _).drew).below hb; have e0 := hR'.cell 0; have e1 := hR'.cell 1; have e2 := hR'.cell 2; have e3 := hR'.cell 3; have z0 := hR'.frozen 0; have z1 := hR'.frozen 1; have z2 := hR'.frozen 2; have z3 := hR'.frozen 3))
        go_split_ands
        go_wp2_with fail
        refine bodyPost_ret (results_cell_row_tmp (P := Try.prog) rfl _ _ g1 49 #[.slice A2 n c2, .int .i64 o, .int .i64 t, .int .i64 (p + k)] (0, 0) _ rfl ?_ Try.underlying49 rfl (by kernel_rfl)) rfl ?_
        · exact (((hR'.set_ 0 _).set_ 1 _).set_ 2 _).set_ 3 _
        · have hfar : ∀ g', Value.ownBlock (.slice A2 n c2) = some g' → g' ≠ g1 := fun g' h => Nat.ne_of_gt (Nat.lt_of_lt_of_le hrl (own_at hown g' h))
          refine OutP.ok HO.out HC.out hn.out (own_base (own_far (own_far (own_far (own_far hown ?_ _) ?_ _) ?_ _) ?_ _) hvs) ?_
          · exact hfar
          · exact hfar
          · exact hfar
          · exact hfar
          · assumption
      · have HO := Lib.hid (show okPay xs o t p k = false by unfold okPay; rw [HB.out, H1.out, decide_eq_false hle]; rfl)
        have HC := Lib.hid (show cPay xs o t p k = 5 by unfold cPay; rw [if_pos HB.out, if_pos H1.out, if_neg hle])
        go_wp2_with fail
        refine bodyPost_ret (results_cell_row_tmp (P := Try.prog) rfl _ _ g1 49 #[.slice none 0 0, .int .i64 0, .int .i64 0, .int .i64 0] (0, 0) _ rfl ?_ Try.underlying49 rfl (by kernel_rfl)) rfl ?_
        · exact (((hR.set_ 0 _).set_ 1 _).set_ 2 _).set_ 3 _
        · refine OutP.nil HO.out (code := 5) HC.out ?_
          have hge : w.heap.size ≤ g1 := by have := HG1.out; omega
          exact bl_set (bl_set (bl_set (bl_set hv (by exact hge) _) (by exact hge) _) (by exact hge) _) (by exact hge) _
end Go.Proofs.Ytopbiihiogbhiaa
