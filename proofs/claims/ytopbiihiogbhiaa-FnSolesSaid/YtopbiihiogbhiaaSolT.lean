/- Soles: sums, the reference's functions. -/
import Derived.Test.YtopbiihiogbhiaaSolB
namespace Go.Proofs.Ytopbiihiogbhiaa
open Go.RowKit

def SumIs (xs : List Stuff) (ps : List Int) (j : Nat) (a b e f : Int) : Prop := sumR Stuff.thick xs ps = sumS Stuff.thick xs (ps.drop j) a ∧ sumR Stuff.gram xs ps = sumS Stuff.gram xs (ps.drop j) b ∧ sumR Stuff.stiff xs ps = sumS Stuff.stiff xs (ps.drop j) e ∧ sumR Stuff.price xs ps = sumS Stuff.price xs (ps.drop j) f
set_option maxRecDepth 100000 in
set_option maxHeartbeats 2000000 in
theorem l17Sum_c (A : Option Addr) (xs : List Stuff) (n c : Nat) (hn : Hid (xs.length = n)) (_hm : (n : Int) ≤ 1048576) (_hs : Hid (∀ x ∈ xs, x.name.size ≤ 9223372036854775807)) (B : Option Addr) (ps : List Int) (m d : Nat) (hp : Hid (ps.length = m)) (hm' : (m : Int) ≤ 1048576) (hso : Hid (soleB xs ps = true)) (w : World) (hA : Arr w A (flat Stuff.cells xs)) (hB : Arr w B (flat icell ps)) :
    Calls Try.prog 58 #[.slice A n c, .slice B m d] w (Ret (.agg #[.string ⟨#[]⟩, .int .i64 (sumR Stuff.thick xs ps), .int .i64 (sumR Stuff.gram xs ps), .int .i64 (sumR Stuff.stiff xs ps), .int .i64 (sumR Stuff.price xs ps)]) w) := by
  have h6 : (m : Int) ≤ 6 := by have := (sole_parts hso.out).2.2.1; have := hp.out; omega
  have hR := Lib.hid (show SumIs xs ps 0 0 0 0 0 from ⟨rfl, rfl, rfl, rfl⟩)
  go_enter Try.func58, Try.ntmps58
  go_wp2_with fail
  obtain ⟨W1, hW1⟩ : ∃ W1, W1 = (w.alloc (Obj.cells #[Value.string ⟨#[]⟩, Value.int IntKind.i64 0, Value.int IntKind.i64 0, Value.int IntKind.i64 0, Value.int IntKind.i64 0] 46)).alloc (Obj.cells #[Value.string ⟨#[]⟩, Value.int IntKind.i64 0, Value.int IntKind.i64 0, Value.int IntKind.i64 0, Value.int IntKind.i64 0] 46) := ⟨_, rfl⟩
  obtain ⟨g1, hg1⟩ : ∃ g1, g1 = w.heap.size + 1 := ⟨_, rfl⟩
  obtain ⟨g0, hg0⟩ : ∃ g0, g0 = w.heap.size := ⟨_, rfl⟩
  have hv0 : Below w.heap.size w W1 := by rw [hW1]; exact bl_alloc (bl_alloc (Below.refl _ _) _) _
  have hZ0 : Blk W1 g0 46 #[Value.string ⟨#[]⟩, Value.int IntKind.i64 0, Value.int IntKind.i64 0, Value.int IntKind.i64 0, Value.int IntKind.i64 0] := by rw [hW1, hg0]; exact (Blk.new _ _ _).alloc _
  have hZ1 : Blk W1 g1 46 #[Value.string ⟨#[]⟩, Value.int IntKind.i64 0, Value.int IntKind.i64 0, Value.int IntKind.i64 0, Value.int IntKind.i64 0] := by
    rw [hW1, hg1]; have h := Blk.new (w.alloc (Obj.cells #[Value.string ⟨#[]⟩, Value.int IntKind.i64 0, Value.int IntKind.i64 0, Value.int IntKind.i64 0, Value.int IntKind.i64 0] 46)) 46 #[Value.string ⟨#[]⟩, Value.int IntKind.i64 0, Value.int IntKind.i64 0, Value.int IntKind.i64 0, Value.int IntKind.i64 0]; simpa using h
  rw [← hW1, ← hg1, ← hg0]
  clear hW1
  have hge0 : w.heap.size ≤ g0 := by omega
  have hge1 : w.heap.size ≤ g1 := by omega
  have hne : ¬ g0 = g1 := by omega
  clear hg0 hg1
  go_loopw [6] (fun i wr => ∃ (j : Nat) (a b e f : Int), j ≤ m ∧ i = .int .i64 j ∧ (0 ≤ a ∧ a ≤ j * 10000) ∧ (0 ≤ b ∧ b ≤ j * 10000) ∧ (0 ≤ e ∧ e ≤ j * 10000) ∧ (0 ≤ f ∧ f ≤ j * 10000) ∧ Blk wr g0 46 #[Value.string ⟨#[]⟩, Value.int IntKind.i64 0, Value.int IntKind.i64 0, Value.int IntKind.i64 0, Value.int IntKind.i64 0] ∧ Blk wr g1 46 #[Value.string ⟨#[]⟩, Value.int IntKind.i64 a, Value.int IntKind.i64 b, Value.int IntKind.i64 e, Value.int IntKind.i64 f] ∧ Hid (SumIs xs ps j a b e f) ∧ Below w.heap.size w wr) (fun i _ => m - (intOf i).toNat)
  case atStart => exact ⟨0, 0, 0, 0, 0, by omega, rfl, by omega, by omega, by omega, by omega, hZ0, hZ1, hR, hv0⟩
  case round =>
    clear hR hv0 hZ0 hZ1
    obtain ⟨j, a, b, e, f, hj, rfl, ⟨ha0, ha1⟩, ⟨hb0, hb1⟩, ⟨he0, he1⟩, ⟨hf0, hf1⟩, hZ0, hZ1, hR, hv⟩ := hrel
    by_cases hlt : j < m
    · obtain ⟨k, hkj⟩ := get_of_lt (xs := ps) (k := j) (by rw [hp.out]; exact hlt)
      obtain ⟨bd, rfl, hbb, d0⟩ := icell_at (hB.below hv) hkj
      obtain ⟨hk0, hk1⟩ := (sole_parts hso.out).2.2.2 k (List.mem_of_getElem? hkj)
      obtain ⟨kk, rfl⟩ := Int.eq_ofNat_of_zero_le hk0
      rw [hn.out] at hk1
      obtain ⟨x, hx⟩ := get_of_lt (xs := xs) (k := kk) (by rw [hn.out]; omega)
      obtain ⟨ad, rfl, hab, c0, c1, c2, c3, c4⟩ := Stuff.at_ (hA.below hv) hx
      have few := few_stuff (sole_parts hso.out).1
      obtain ⟨t0, t1⟩ := few.1 x (List.mem_of_getElem? hx)
      obtain ⟨r0, r1⟩ := few.2.1 x (List.mem_of_getElem? hx)
      obtain ⟨s0, s1⟩ := few.2.2.1 x (List.mem_of_getElem? hx)
      obtain ⟨p0, p1⟩ := few.2.2.2 x (List.mem_of_getElem? hx)
      have hxk : xs[((kk : Int)).toNat]? = some x := by simpa using hx
      have hR2 := Lib.hid (show SumIs xs ps (j + 1) (a + x.thick) (b + x.gram) (e + x.stiff) (f + x.price) from ⟨hR.out.1.trans (sumS_step a hkj hxk), hR.out.2.1.trans (sumS_step b hkj hxk), hR.out.2.2.1.trans (sumS_step e hkj hxk), hR.out.2.2.2.trans (sumS_step f hkj hxk)⟩)
      have hlt1 := hZ1.lt
      have hlt0 := hZ0.lt
      have hne1 : ¬ g1 = wr.heap.size := by omega
      have hne2 : ¬ wr.heap.size = g1 := by omega
      have hY1 := (hZ1).alloc (Obj.cells #[Value.string x.name, Value.int IntKind.i64 x.thick, Value.int IntKind.i64 x.gram, Value.int IntKind.i64 x.stiff, Value.int IntKind.i64 x.price] 46)
      have o1 : ((wr).alloc (Obj.cells #[Value.string x.name, Value.int IntKind.i64 x.thick, Value.int IntKind.i64 x.gram, Value.int IntKind.i64 x.stiff, Value.int IntKind.i64 x.price] 46)).cell? ⟨g1, 1, none⟩ = some (.int .i64 a) := hY1.cell 1
      have z1 : ((wr).alloc (Obj.cells #[Value.string x.name, Value.int IntKind.i64 x.thick, Value.int IntKind.i64 x.gram, Value.int IntKind.i64 x.stiff, Value.int IntKind.i64 x.price] 46)).frozen? ⟨g1, 1, none⟩ = false := hY1.frozen 1
      have hY2 := ((hZ1).set_ 1 (Value.int IntKind.i64 (a + x.thick))).alloc (Obj.cells #[Value.string x.name, Value.int IntKind.i64 x.thick, Value.int IntKind.i64 x.gram, Value.int IntKind.i64 x.stiff, Value.int IntKind.i64 x.price] 46)
      have o2 : (((wr).setCell ⟨g1, 1, none⟩ (Value.int IntKind.i64 (a + x.thick))).alloc (Obj.cells #[Value.string x.name, Value.int IntKind.i64 x.thick, Value.int IntKind.i64 x.gram, Value.int IntKind.i64 x.stiff, Value.int IntKind.i64 x.price] 46)).cell? ⟨g1, 2, none⟩ = some (.int .i64 b) := hY2.cell 2
      have z2 : (((wr).setCell ⟨g1, 1, none⟩ (Value.int IntKind.i64 (a + x.thick))).alloc (Obj.cells #[Value.string x.name, Value.int IntKind.i64 x.thick, Value.int IntKind.i64 x.gram, Value.int IntKind.i64 x.stiff, Value.int IntKind.i64 x.price] 46)).frozen? ⟨g1, 2, none⟩ = false := hY2.frozen 2
      have hY3 := (((hZ1).set_ 1 (Value.int IntKind.i64 (a + x.thick))).set_ 2 (Value.int IntKind.i64 (b + x.gram))).alloc (Obj.cells #[Value.string x.name, Value.int IntKind.i64 x.thick, Value.int IntKind.i64 x.gram, Value.int IntKind.i64 x.stiff, Value.int IntKind.i64 x.price] 46)
      have o3 : ((((wr).setCell ⟨g1, 1, none⟩ (Value.int IntKind.i64 (a + x.thick))).setCell ⟨g1, 2, none⟩ (Value.int IntKind.i64 (b + x.gram))).alloc (Obj.cells #[Value.string x.name, Value.int IntKind.i64 x.thick, Value.int IntKind.i64 x.gram, Value.int IntKind.i64 x.stiff, Value.int IntKind.i64 x.price] 46)).cell? ⟨g1, 3, none⟩ = some (.int .i64 e) := hY3.cell 3
      have z3 : ((((wr).setCell ⟨g1, 1, none⟩ (Value.int IntKind.i64 (a + x.thick))).setCell ⟨g1, 2, none⟩ (Value.int IntKind.i64 (b + x.gram))).alloc (Obj.cells #[Value.string x.name, Value.int IntKind.i64 x.thick, Value.int IntKind.i64 x.gram, Value.int IntKind.i64 x.stiff, Value.int IntKind.i64 x.price] 46)).frozen? ⟨g1, 3, none⟩ = false := hY3.frozen 3
      have hY4 := ((((hZ1).set_ 1 (Value.int IntKind.i64 (a + x.thick))).set_ 2 (Value.int IntKind.i64 (b + x.gram))).set_ 3 (Value.int IntKind.i64 (e + x.stiff))).alloc (Obj.cells #[Value.string x.name, Value.int IntKind.i64 x.thick, Value.int IntKind.i64 x.gram, Value.int IntKind.i64 x.stiff, Value.int IntKind.i64 x.price] 46)
      have o4 : (((((wr).setCell ⟨g1, 1, none⟩ (Value.int IntKind.i64 (a + x.thick))).setCell ⟨g1, 2, none⟩ (Value.int IntKind.i64 (b + x.gram))).setCell ⟨g1, 3, none⟩ (Value.int IntKind.i64 (e + x.stiff))).alloc (Obj.cells #[Value.string x.name, Value.int IntKind.i64 x.thick, Value.int IntKind.i64 x.gram, Value.int IntKind.i64 x.stiff, Value.int IntKind.i64 x.price] 46)).cell? ⟨g1, 4, none⟩ = some (.int .i64 f) := hY4.cell 4
      have z4 : (((((wr).setCell ⟨g1, 1, none⟩ (Value.int IntKind.i64 (a + x.thick))).setCell ⟨g1, 2, none⟩ (Value.int IntKind.i64 (b + x.gram))).setCell ⟨g1, 3, none⟩ (Value.int IntKind.i64 (e + x.stiff))).alloc (Obj.cells #[Value.string x.name, Value.int IntKind.i64 x.thick, Value.int IntKind.i64 x.gram, Value.int IntKind.i64 x.stiff, Value.int IntKind.i64 x.price] 46)).frozen? ⟨g1, 4, none⟩ = false := hY4.frozen 4
      clear hR hkj hx few hxk hY1 hY2 hY3 hY4
      go_wp2_with fail
      refine ⟨⟨j + 1, _, _, _, _, by omega, by go_num, ⟨by omega, by omega⟩, ⟨by omega, by omega⟩, ⟨by omega, by omega⟩, ⟨by omega, by omega⟩, ?_, ?_, hR2, ?_⟩, by simp [intOf]; omega⟩
      · exact ((((hZ0.far (p := ⟨g1, 1, none⟩) hne _).far (p := ⟨g1, 2, none⟩) hne _).far (p := ⟨g1, 3, none⟩) hne _).far (p := ⟨g1, 4, none⟩) hne _).alloc _
      · exact ((((hZ1.set_ 1 _).set_ 2 _).set_ 3 _).set_ 4 _).alloc _
      · refine bl_alloc (bl_set (bl_set (bl_set (bl_set hv ?_ _) ?_ _) ?_ _) ?_ _) _ <;> exact hge1
    · have hR2 := Lib.hid (show sumR Stuff.thick xs ps = a ∧ sumR Stuff.gram xs ps = b ∧ sumR Stuff.stiff xs ps = e ∧ sumR Stuff.price xs ps = f by
        have h := hR.out
        unfold SumIs at h
        rw [List.drop_eq_nil_of_le (by rw [hp.out]; omega)] at h
        exact h)
      have o0 : wr.cell? ⟨g1, 0, none⟩ = some (.string ⟨#[]⟩) := hZ1.cell 0
      have o1 : wr.cell? ⟨g1, 1, none⟩ = some (.int .i64 a) := hZ1.cell 1
      have o2 : wr.cell? ⟨g1, 2, none⟩ = some (.int .i64 b) := hZ1.cell 2
      have o3 : wr.cell? ⟨g1, 3, none⟩ = some (.int .i64 e) := hZ1.cell 3
      have o4 : wr.cell? ⟨g1, 4, none⟩ = some (.int .i64 f) := hZ1.cell 4
      have q0 : wr.cell? ⟨g0, 0, none⟩ = some (.string ⟨#[]⟩) := hZ0.cell 0
      have q1 : wr.cell? ⟨g0, 1, none⟩ = some (.int .i64 0) := hZ0.cell 1
      have q2 : wr.cell? ⟨g0, 2, none⟩ = some (.int .i64 0) := hZ0.cell 2
      have q3 : wr.cell? ⟨g0, 3, none⟩ = some (.int .i64 0) := hZ0.cell 3
      have q4 : wr.cell? ⟨g0, 4, none⟩ = some (.int .i64 0) := hZ0.cell 4
      have z0 : wr.frozen? ⟨g0, 0, none⟩ = false := hZ0.frozen 0
      have z1 : wr.frozen? ⟨g0, 1, none⟩ = false := hZ0.frozen 1
      have z2 : wr.frozen? ⟨g0, 2, none⟩ = false := hZ0.frozen 2
      have z3 : wr.frozen? ⟨g0, 3, none⟩ = false := hZ0.frozen 3
      have z4 : wr.frozen? ⟨g0, 4, none⟩ = false := hZ0.frozen 4
      clear hR
      go_wp2_with fail
      refine bodyPost_ret (results_cell_row (P := Try.prog) rfl _ _ g0 46 #[.string ⟨#[]⟩, .int .i64 a, .int .i64 b, .int .i64 e, .int .i64 f] (0, 0) _ rfl ?_ Try.underlying46 rfl (by kernel_rfl)) rfl ?_
      · exact ((((hZ0.set_ 0 _).set_ 1 _).set_ 2 _).set_ 3 _).set_ 4 _
      · refine ⟨by rw [hR2.out.1, hR2.out.2.1, hR2.out.2.2.1, hR2.out.2.2.2], ?_⟩
        refine bl_set (bl_set (bl_set (bl_set (bl_set hv ?_ _) ?_ _) ?_ _) ?_ _) ?_ _ <;> exact hge0
theorem ThickOf_c (A : Option Addr) (xs : List Stuff) (n c : Nat) (hn : Hid (xs.length = n)) (hm : (n : Int) ≤ 1048576) (hs : Hid (∀ x ∈ xs, x.name.size ≤ 9223372036854775807)) (hnc : (n : Int) ≤ c) (B : Option Addr) (ps : List Int) (m d : Nat) (hp : Hid (ps.length = m)) (hm' : (m : Int) ≤ 1048576) (w : World) (hA : Arr w A (flat Stuff.cells xs)) (hB : Arr w B (flat icell ps)) :
    Calls Try.prog 11 #[.slice A n c, .agg #[.slice B m d]] w (RetT (rSole Stuff.thick xs ps) w) := by
  go_enter Try.func11, Try.ntmps11
  go_wp2_with fail
  refine (soleTotal_thick_c A xs n c hn hm hs hnc B ps m d hp hm' _ (hA.alloc _) (hB.alloc _)).mono ?_
  rintro e W ⟨rfl, hb⟩
  obtain ⟨ra, rb, hform⟩ : ∃ ra rb : Int, rSole Stuff.thick xs ps = #[.int .i64 ra, .int .i64 rb] := by unfold rSole; split <;> exact ⟨_, _, rfl⟩
  have HFM := Lib.hid hform
  rw [hform]
  clear hform
  go_wp2_with fail
  go_returns
  exact RetT.mk (by rw [HFM.out]; rfl) (bl_trans (bl_alloc (Below.refl _ _) _) hb)

theorem StiffOf_c (A : Option Addr) (xs : List Stuff) (n c : Nat) (hn : Hid (xs.length = n)) (hm : (n : Int) ≤ 1048576) (hs : Hid (∀ x ∈ xs, x.name.size ≤ 9223372036854775807)) (hnc : (n : Int) ≤ c) (B : Option Addr) (ps : List Int) (m d : Nat) (hp : Hid (ps.length = m)) (hm' : (m : Int) ≤ 1048576) (w : World) (hA : Arr w A (flat Stuff.cells xs)) (hB : Arr w B (flat icell ps)) :
    Calls Try.prog 13 #[.slice A n c, .agg #[.slice B m d]] w (RetT (rSole Stuff.stiff xs ps) w) := by
  go_enter Try.func13, Try.ntmps13
  go_wp2_with fail
  refine (soleTotal_stiff_c A xs n c hn hm hs hnc B ps m d hp hm' _ (hA.alloc _) (hB.alloc _)).mono ?_
  rintro e W ⟨rfl, hb⟩
  obtain ⟨ra, rb, hform⟩ : ∃ ra rb : Int, rSole Stuff.stiff xs ps = #[.int .i64 ra, .int .i64 rb] := by unfold rSole; split <;> exact ⟨_, _, rfl⟩
  have HFM := Lib.hid hform
  rw [hform]
  clear hform
  go_wp2_with fail
  go_returns
  exact RetT.mk (by rw [HFM.out]; rfl) (bl_trans (bl_alloc (Below.refl _ _) _) hb)

theorem PriceOfSole_c (A : Option Addr) (xs : List Stuff) (n c : Nat) (hn : Hid (xs.length = n)) (hm : (n : Int) ≤ 1048576) (hs : Hid (∀ x ∈ xs, x.name.size ≤ 9223372036854775807)) (hnc : (n : Int) ≤ c) (B : Option Addr) (ps : List Int) (m d : Nat) (hp : Hid (ps.length = m)) (hm' : (m : Int) ≤ 1048576) (w : World) (hA : Arr w A (flat Stuff.cells xs)) (hB : Arr w B (flat icell ps)) :
    Calls Try.prog 15 #[.slice A n c, .agg #[.slice B m d]] w (RetT (rSole Stuff.price xs ps) w) := by
  go_enter Try.func15, Try.ntmps15
  go_wp2_with fail
  refine (soleTotal_price_c A xs n c hn hm hs hnc B ps m d hp hm' _ (hA.alloc _) (hB.alloc _)).mono ?_
  rintro e W ⟨rfl, hb⟩
  obtain ⟨ra, rb, hform⟩ : ∃ ra rb : Int, rSole Stuff.price xs ps = #[.int .i64 ra, .int .i64 rb] := by unfold rSole; split <;> exact ⟨_, _, rfl⟩
  have HFM := Lib.hid hform
  rw [hform]
  clear hform
  go_wp2_with fail
  go_returns
  exact RetT.mk (by rw [HFM.out]; rfl) (bl_trans (bl_alloc (Below.refl _ _) _) hb)

set_option maxRecDepth 100000 in
set_option maxHeartbeats 1000000 in
theorem SThickOf_c (A : Option Addr) (xs : List Stuff) (n c : Nat) (hn : Hid (xs.length = n)) (hm : (n : Int) ≤ 1048576) (hs : Hid (∀ x ∈ xs, x.name.size ≤ 9223372036854775807)) (B : Option Addr) (ps : List Int) (m d : Nat) (hp : Hid (ps.length = m)) (hm' : (m : Int) ≤ 1048576) (w : World) (hA : Arr w A (flat Stuff.cells xs)) (hB : Arr w B (flat icell ps)) :
    Calls Try.prog 12 #[.slice A n c, .agg #[.slice B m d]] w (RetT (rSole Stuff.thick xs ps) w) := by
  have hfd : ∀ (a b e f : Int) (w : World), (Instr.field 46 (.agg #[.string ⟨#[]⟩, .int .i64 a, .int .i64 b, .int .i64 e, .int .i64 f]) 1).run Try.prog w = .ok (.int .i64 a) w := fun _ _ _ _ _ => by kernel_rfl
  go_enter Try.func12, Try.ntmps12
  go_wp2_with fail
  refine (l17Sole_c A xs n c hn hm hs w.heap.size B ps m d hp hm' _ (Blk.new _ _ _) (hA.alloc _) (hB.alloc _)).mono ?_
  rintro e W ⟨rfl, hb⟩
  have hv : Below w.heap.size w W := bl_trans (bl_alloc (Below.refl _ _) _) hb
  have k0 : W.cell? ⟨w.heap.size, 0, none⟩ = some (.slice B m d) := ((Blk.new w 27 #[Value.slice B m d]).below hb).cell 0
  cases hso : soleB xs ps
  · have HS := Lib.hid hso
    clear hso
    go_wp2_with fail
    go_returns
    exact RetT.mk (by rw [rSole, HS.out]; rfl) hv
  · have HS := Lib.hid hso
    clear hso
    go_wp2_with fail
    refine (l17Sum_c A xs n c hn hm hs B ps m d hp hm' HS _ (hA.below hv) (hB.below hv)).mono ?_
    rintro e W2 ⟨rfl, hb2⟩
    go_wp2_with fail
    go_returns
    exact RetT.mk (by rw [rSole, HS.out]; rfl) (bl_trans hv hb2)

set_option maxRecDepth 100000 in
set_option maxHeartbeats 1000000 in
theorem SStiffOf_c (A : Option Addr) (xs : List Stuff) (n c : Nat) (hn : Hid (xs.length = n)) (hm : (n : Int) ≤ 1048576) (hs : Hid (∀ x ∈ xs, x.name.size ≤ 9223372036854775807)) (B : Option Addr) (ps : List Int) (m d : Nat) (hp : Hid (ps.length = m)) (hm' : (m : Int) ≤ 1048576) (w : World) (hA : Arr w A (flat Stuff.cells xs)) (hB : Arr w B (flat icell ps)) :
    Calls Try.prog 14 #[.slice A n c, .agg #[.slice B m d]] w (RetT (rSole Stuff.stiff xs ps) w) := by
  have hfd : ∀ (a b e f : Int) (w : World), (Instr.field 46 (.agg #[.string ⟨#[]⟩, .int .i64 a, .int .i64 b, .int .i64 e, .int .i64 f]) 3).run Try.prog w = .ok (.int .i64 e) w := fun _ _ _ _ _ => by kernel_rfl
  go_enter Try.func14, Try.ntmps14
  go_wp2_with fail
  refine (l17Sole_c A xs n c hn hm hs w.heap.size B ps m d hp hm' _ (Blk.new _ _ _) (hA.alloc _) (hB.alloc _)).mono ?_
  rintro e W ⟨rfl, hb⟩
  have hv : Below w.heap.size w W := bl_trans (bl_alloc (Below.refl _ _) _) hb
  have k0 : W.cell? ⟨w.heap.size, 0, none⟩ = some (.slice B m d) := ((Blk.new w 27 #[Value.slice B m d]).below hb).cell 0
  cases hso : soleB xs ps
  · have HS := Lib.hid hso
    clear hso
    go_wp2_with fail
    go_returns
    exact RetT.mk (by rw [rSole, HS.out]; rfl) hv
  · have HS := Lib.hid hso
    clear hso
    go_wp2_with fail
    refine (l17Sum_c A xs n c hn hm hs B ps m d hp hm' HS _ (hA.below hv) (hB.below hv)).mono ?_
    rintro e W2 ⟨rfl, hb2⟩
    go_wp2_with fail
    go_returns
    exact RetT.mk (by rw [rSole, HS.out]; rfl) (bl_trans hv hb2)

set_option maxRecDepth 100000 in
set_option maxHeartbeats 1000000 in
theorem SPriceOfSole_c (A : Option Addr) (xs : List Stuff) (n c : Nat) (hn : Hid (xs.length = n)) (hm : (n : Int) ≤ 1048576) (hs : Hid (∀ x ∈ xs, x.name.size ≤ 9223372036854775807)) (B : Option Addr) (ps : List Int) (m d : Nat) (hp : Hid (ps.length = m)) (hm' : (m : Int) ≤ 1048576) (w : World) (hA : Arr w A (flat Stuff.cells xs)) (hB : Arr w B (flat icell ps)) :
    Calls Try.prog 16 #[.slice A n c, .agg #[.slice B m d]] w (RetT (rSole Stuff.price xs ps) w) := by
  have hfd : ∀ (a b e f : Int) (w : World), (Instr.field 46 (.agg #[.string ⟨#[]⟩, .int .i64 a, .int .i64 b, .int .i64 e, .int .i64 f]) 4).run Try.prog w = .ok (.int .i64 f) w := fun _ _ _ _ _ => by kernel_rfl
  go_enter Try.func16, Try.ntmps16
  go_wp2_with fail
  refine (l17Sole_c A xs n c hn hm hs w.heap.size B ps m d hp hm' _ (Blk.new _ _ _) (hA.alloc _) (hB.alloc _)).mono ?_
  rintro e W ⟨rfl, hb⟩
  have hv : Below w.heap.size w W := bl_trans (bl_alloc (Below.refl _ _) _) hb
  have k0 : W.cell? ⟨w.heap.size, 0, none⟩ = some (.slice B m d) := ((Blk.new w 27 #[Value.slice B m d]).below hb).cell 0
  cases hso : soleB xs ps
  · have HS := Lib.hid hso
    clear hso
    go_wp2_with fail
    go_returns
    exact RetT.mk (by rw [rSole, HS.out]; rfl) hv
  · have HS := Lib.hid hso
    clear hso
    go_wp2_with fail
    refine (l17Sum_c A xs n c hn hm hs B ps m d hp hm' HS _ (hA.below hv) (hB.below hv)).mono ?_
    rintro e W2 ⟨rfl, hb2⟩
    go_wp2_with fail
    go_returns
    exact RetT.mk (by rw [rSole, HS.out]; rfl) (bl_trans hv hb2)

end Go.Proofs.Ytopbiihiogbhiaa
