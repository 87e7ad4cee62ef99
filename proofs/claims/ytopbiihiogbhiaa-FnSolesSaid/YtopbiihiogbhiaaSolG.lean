
/- The mass of a sole: the program's and the reference's functions. -/
import Derived.Test.YtopbiihiogbhiaaSolLaw
import Derived.Test.YtopbiihiogbhiaaGcd
namespace Go.Proofs.Ytopbiihiogbhiaa
open Go.RowKit

def gramS (xs : List Stuff) (ps : List Int) (ar : Int) : Nat := (sumR Stuff.gram xs ps * ar).toNat
def okG (xs : List Stuff) (ps : List Int) (ar : Int) : Bool := soleB xs ps && inB ar 1 1000
def gramU (xs : List Stuff) (ps : List Int) (ar : Int) : Int := if okG xs ps ar = true then ((gramS xs ps ar / Nat.gcd (gramS xs ps ar) 100 : Nat) : Int) else 0
def gramW (xs : List Stuff) (ps : List Int) (ar : Int) : Int := if okG xs ps ar = true then ((100 / Nat.gcd (gramS xs ps ar) 100 : Nat) : Int) else 0
def gramC (xs : List Stuff) (ps : List Int) (ar : Int) : Int := if soleB xs ps = true then (if inB ar 1 1000 = true then 0 else 2) else 1
def gramR (xs : List Stuff) (ps : List Int) (ar : Int) : Array Value := #[.agg #[.int .i64 (gramU xs ps ar), .int .i64 (gramW xs ps ar)], .int .i64 (gramC xs ps ar)]
theorem gramR_inv {xs : List Stuff} {ps : List Int} {ar : Int} (h : soleB xs ps = false) : gramR xs ps ar = #[.agg #[.int .i64 0, .int .i64 0], .int .i64 1] := by
  simp [gramR, gramU, gramW, gramC, okG, h]
theorem gramR_rng {xs : List Stuff} {ps : List Int} {ar : Int} (h : soleB xs ps = true) (h2 : inB ar 1 1000 = false) : gramR xs ps ar = #[.agg #[.int .i64 0, .int .i64 0], .int .i64 2] := by
  simp [gramR, gramU, gramW, gramC, okG, h, h2]
theorem gramR_ok {xs : List Stuff} {ps : List Int} {ar : Int} (h : soleB xs ps = true) (h2 : inB ar 1 1000 = true) : gramR xs ps ar = #[lowV (gramS xs ps ar) 100, .int .i64 0] := by
  simp [gramR, gramU, gramW, gramC, okG, h, h2, lowV]
theorem gram_bd {xs : List Stuff} {ps : List Int} {ar : Int} {m : Nat} (h : soleB xs ps = true) (hp : ps.length = m) (h2 : inB ar 1 1000 = true) :
    sumR Stuff.gram xs ps * ar = (gramS xs ps ar : Int) ∧ (gramS xs ps ar : Int) ≤ 60000000 := by
  obtain ⟨h3, h4⟩ := sumS_bd (few_stuff (sole_parts h).1).2.1 ps 0
  have h6 := (sole_parts h).2.2.1
  obtain ⟨h7, h8⟩ := inB_iff.1 h2
  have e : sumR Stuff.gram xs ps = sumS Stuff.gram xs ps 0 := rfl
  have b0 : 0 ≤ sumR Stuff.gram xs ps := by rw [e]; omega
  have b1 : sumR Stuff.gram xs ps ≤ 60000 := by rw [e]; omega
  have c0 : 0 ≤ sumR Stuff.gram xs ps * ar := Int.mul_nonneg b0 (by omega)
  have c1 : sumR Stuff.gram xs ps * ar ≤ 60000 * 1000 := by
    calc sumR Stuff.gram xs ps * ar ≤ 60000 * ar := Int.mul_le_mul_of_nonneg_right b1 (by omega)
      _ ≤ 60000 * 1000 := Int.mul_le_mul_of_nonneg_left h8 (by omega)
  unfold gramS
  omega
set_option maxRecDepth 100000 in
set_option maxHeartbeats 2000000 in
theorem GramsOf_c (A : Option Addr) (xs : List Stuff) (n c : Nat) (hn : Hid (xs.length = n)) (hm : (n : Int) ≤ 1048576) (hs : Hid (∀ x ∈ xs, x.name.size ≤ 9223372036854775807)) (hnc : (n : Int) ≤ c) (B : Option Addr) (ps : List Int) (m d : Nat) (hp : Hid (ps.length = m)) (hm' : (m : Int) ≤ 1048576) (ar : Int) (w : World) (hA : Arr w A (flat Stuff.cells xs)) (hB : Arr w B (flat icell ps)) :
    Calls Try.prog 18 #[.slice A n c, .agg #[.slice B m d], .int .i64 ar] w (RetT (gramR xs ps ar) w) := by
  go_enter Try.func18, Try.ntmps18
  go_wp2_with fail
  obtain ⟨W1, hW1⟩ : ∃ W1, W1 = (w.alloc (Obj.cells #[Value.slice B m d] 27)).alloc (Obj.cells #[Value.int IntKind.i64 0, Value.int IntKind.i64 0] 37) := ⟨_, rfl⟩
  obtain ⟨g0, hg0⟩ : ∃ g0, g0 = w.heap.size := ⟨_, rfl⟩
  obtain ⟨g1, hg1⟩ : ∃ g1, g1 = w.heap.size + 1 := ⟨_, rfl⟩
  have hv0 : Below w.heap.size w W1 := by rw [hW1]; exact bl_alloc (bl_alloc (Below.refl _ _) _) _
  have hS0 : Blk W1 g0 27 #[Value.slice B m d] := by rw [hW1, hg0]; exact (Blk.new _ _ _).alloc _
  have hZ0 : Blk W1 g1 37 #[Value.int IntKind.i64 0, Value.int IntKind.i64 0] := by
    rw [hW1, hg1]; have h := Blk.new (w.alloc (Obj.cells #[Value.slice B m d] 27)) 37 #[Value.int IntKind.i64 0, Value.int IntKind.i64 0]; simpa using h
  rw [← hW1, ← hg1, ← hg0]
  clear hW1
  have hge1 : w.heap.size ≤ g1 := by omega
  clear hg0 hg1
  have k0 : W1.cell? ⟨g0, 0, none⟩ = some (.slice B m d) := hS0.cell 0
  refine (soleTotal_gram_c A xs n c hn hm hs hnc B ps m d hp hm' _ (hA.below hv0) (hB.below hv0)).mono ?_
  rintro e W ⟨rfl, hb⟩
  have hv := bl_trans hv0 hb
  have hZ := hZ0.below hb
  have q0 : W.cell? ⟨g1, 0, none⟩ = some (.int .i64 0) := hZ.cell 0
  have q1 : W.cell? ⟨g1, 1, none⟩ = some (.int .i64 0) := hZ.cell 1
  have z0 : W.frozen? ⟨g1, 0, none⟩ = false := hZ.frozen 0
  have z1 : W.frozen? ⟨g1, 1, none⟩ = false := hZ.frozen 1
  cases hso : soleB xs ps
  · have HS := Lib.hid hso
    rw [show rSole Stuff.gram xs ps = #[.int .i64 0, .int .i64 1] from by rw [rSole, hso]; rfl]
    clear hso
    go_wp2_with fail
    refine bodyPost_ret (results_cell_row_tmp (P := Try.prog) rfl _ _ g1 37 #[.int .i64 0, .int .i64 0] (0, 0) _ rfl ?_ Try.underlying37 rfl (by kernel_rfl)) rfl ?_
    · exact (hZ.set_ 0 _).set_ 1 _
    · exact RetT.mk (by rw [gramR_inv HS.out]; rfl) (bl_set (bl_set hv hge1 _) hge1 _)
  · have HS := Lib.hid hso
    rw [show rSole Stuff.gram xs ps = #[.int .i64 (sumR Stuff.gram xs ps), .int .i64 0] from by rw [rSole, hso]; rfl]
    clear hso
    cases hi : inB ar 1 1000
    · have HI := Lib.hid hi
      have hin := fun w => within_c ar 1 1000 w
      rw [hi] at hin
      replace hin := Lib.hid hin
      clear hi
      go_wp2_with fail
      refine (hin.out _).mono ?_
      rintro e w' ⟨rfl, rfl⟩
      go_wp2_with fail
      refine bodyPost_ret (results_cell_row_tmp (P := Try.prog) rfl _ _ g1 37 #[.int .i64 0, .int .i64 0] (0, 0) _ rfl ?_ Try.underlying37 rfl (by kernel_rfl)) rfl ?_
      · exact (hZ.set_ 0 _).set_ 1 _
      · exact RetT.mk (by rw [gramR_rng HS.out HI.out]; rfl) (bl_set (bl_set hv hge1 _) hge1 _)
    · have HI := Lib.hid hi
      obtain ⟨hmul, hbd⟩ := gram_bd HS.out hp.out hi
      obtain ⟨ga, hga⟩ : ∃ ga, ga = gramS xs ps ar := ⟨_, rfl⟩
      have HR := Lib.hid (gramR_ok HS.out HI.out)
      rw [← hga] at hmul hbd HR
      have hin := fun w => within_c ar 1 1000 w
      rw [hi] at hin
      replace hin := Lib.hid hin
      obtain ⟨S, hS⟩ : ∃ S, S = sumR Stuff.gram xs ps := ⟨_, rfl⟩
      rw [← hS] at hmul ⊢
      clear hi hga hS
      obtain ⟨u, v, huv⟩ : ∃ u v : Int, lowV ga 100 = .agg #[.int .i64 u, .int .i64 v] := ⟨_, _, rfl⟩
      have hlow := fun w => lowest_c ga 100 (by omega) (by omega) (by omega) w
      rw [huv] at hlow HR
      replace hlow := Lib.hid hlow
      clear huv
      go_wp2_with fail
      refine (hin.out _).mono ?_
      rintro e w' ⟨rfl, rfl⟩
      go_wp2_with fail
      refine (hlow.out _).mono ?_
      rintro e W2 ⟨rfl, hb2⟩
      have hv2 := bl_trans hv hb2
      have hZ2 := hZ.below hb2
      clear q0 q1 z0 z1
      have q0 : W2.cell? ⟨g1, 0, none⟩ = some (.int .i64 0) := hZ2.cell 0
      have q1 : W2.cell? ⟨g1, 1, none⟩ = some (.int .i64 0) := hZ2.cell 1
      have z0 : W2.frozen? ⟨g1, 0, none⟩ = false := hZ2.frozen 0
      have z1 : W2.frozen? ⟨g1, 1, none⟩ = false := hZ2.frozen 1
      go_wp2_with fail
      refine bodyPost_ret (results_cell_row_tmp (P := Try.prog) rfl _ _ g1 37 #[.int .i64 u, .int .i64 v] (0, 0) _ rfl ?_ Try.underlying37 rfl (by kernel_rfl)) rfl ?_
      · exact (hZ2.set_ 0 _).set_ 1 _
      · exact RetT.mk (by rw [HR.out]; rfl) (bl_set (bl_set hv2 hge1 _) hge1 _)
set_option maxRecDepth 100000 in
set_option maxHeartbeats 2000000 in
theorem SGramsOf_c (A : Option Addr) (xs : List Stuff) (n c : Nat) (hn : Hid (xs.length = n)) (hm : (n : Int) ≤ 1048576) (hs : Hid (∀ x ∈ xs, x.name.size ≤ 9223372036854775807)) (B : Option Addr) (ps : List Int) (m d : Nat) (hp : Hid (ps.length = m)) (hm' : (m : Int) ≤ 1048576) (ar : Int) (w : World) (hA : Arr w A (flat Stuff.cells xs)) (hB : Arr w B (flat icell ps)) :
    Calls Try.prog 19 #[.slice A n c, .agg #[.slice B m d], .int .i64 ar] w (RetT (gramR xs ps ar) w) := by
  have hfd : ∀ (a b e f : Int) (w : World), (Instr.field 46 (.agg #[.string ⟨#[]⟩, .int .i64 a, .int .i64 b, .int .i64 e, .int .i64 f]) 2).run Try.prog w = .ok (.int .i64 b) w := fun _ _ _ _ _ => by kernel_rfl
  go_enter Try.func19, Try.ntmps19
  go_wp2_with fail
  obtain ⟨W1, hW1⟩ : ∃ W1, W1 = (w.alloc (Obj.cells #[Value.slice B m d] 27)).alloc (Obj.cells #[Value.int IntKind.i64 0, Value.int IntKind.i64 0] 37) := ⟨_, rfl⟩
  obtain ⟨g0, hg0⟩ : ∃ g0, g0 = w.heap.size := ⟨_, rfl⟩
  obtain ⟨g1, hg1⟩ : ∃ g1, g1 = w.heap.size + 1 := ⟨_, rfl⟩
  have hv0 : Below w.heap.size w W1 := by rw [hW1]; exact bl_alloc (bl_alloc (Below.refl _ _) _) _
  have hS0 : Blk W1 g0 27 #[Value.slice B m d] := by rw [hW1, hg0]; exact (Blk.new _ _ _).alloc _
  have hZ0 : Blk W1 g1 37 #[Value.int IntKind.i64 0, Value.int IntKind.i64 0] := by
    rw [hW1, hg1]; have h := Blk.new (w.alloc (Obj.cells #[Value.slice B m d] 27)) 37 #[Value.int IntKind.i64 0, Value.int IntKind.i64 0]; simpa using h
  rw [← hW1, ← hg1, ← hg0]
  clear hW1
  have hge1 : w.heap.size ≤ g1 := by omega
  clear hg0 hg1
  refine (l17Sole_c A xs n c hn hm hs g0 B ps m d hp hm' _ hS0 (hA.below hv0) (hB.below hv0)).mono ?_
  rintro e W ⟨rfl, hb⟩
  have hv := bl_trans hv0 hb
  have hZ := hZ0.below hb
  have k0 : W.cell? ⟨g0, 0, none⟩ = some (.slice B m d) := (hS0.below hb).cell 0
  have q0 : W.cell? ⟨g1, 0, none⟩ = some (.int .i64 0) := hZ.cell 0
  have q1 : W.cell? ⟨g1, 1, none⟩ = some (.int .i64 0) := hZ.cell 1
  have z0 : W.frozen? ⟨g1, 0, none⟩ = false := hZ.frozen 0
  have z1 : W.frozen? ⟨g1, 1, none⟩ = false := hZ.frozen 1
  cases hso : soleB xs ps
  · have HS := Lib.hid hso
    clear hso
    go_wp2_with fail
    refine bodyPost_ret (results_cell_row_tmp (P := Try.prog) rfl _ _ g1 37 #[.int .i64 0, .int .i64 0] (0, 0) _ rfl ?_ Try.underlying37 rfl (by kernel_rfl)) rfl ?_
    · exact (hZ.set_ 0 _).set_ 1 _
    · exact RetT.mk (by rw [gramR_inv HS.out]; rfl) (bl_set (bl_set hv hge1 _) hge1 _)
  · have HS := Lib.hid hso
    clear hso
    cases hi : inB ar 1 1000
    · have HI := Lib.hid hi
      have hin := fun w => l00In_c ar 1 1000 w
      rw [hi] at hin
      replace hin := Lib.hid hin
      clear hi
      go_wp2_with fail
      refine (hin.out _).mono ?_
      rintro e w' ⟨rfl, rfl⟩
      go_wp2_with fail
      refine bodyPost_ret (results_cell_row_tmp (P := Try.prog) rfl _ _ g1 37 #[.int .i64 0, .int .i64 0] (0, 0) _ rfl ?_ Try.underlying37 rfl (by kernel_rfl)) rfl ?_
      · exact (hZ.set_ 0 _).set_ 1 _
      · exact RetT.mk (by rw [gramR_rng HS.out HI.out]; rfl) (bl_set (bl_set hv hge1 _) hge1 _)
    · have HI := Lib.hid hi
      obtain ⟨hmul, hbd⟩ := gram_bd HS.out hp.out hi
      obtain ⟨ga, hga⟩ : ∃ ga, ga = gramS xs ps ar := ⟨_, rfl⟩
      have HR := Lib.hid (gramR_ok HS.out HI.out)
      rw [← hga] at hmul hbd HR
      have hin := fun w => l00In_c ar 1 1000 w
      rw [hi] at hin
      replace hin := Lib.hid hin
      clear hi hga
      obtain ⟨u, v, huv⟩ : ∃ u v : Int, lowV ga 100 = .agg #[.int .i64 u, .int .i64 v] := ⟨_, _, rfl⟩
      have hlow := fun w => l02Make_c ga 100 (by omega) (by omega) (by omega) w
      rw [huv] at hlow HR
      replace hlow := Lib.hid hlow
      clear huv
      go_wp2_with fail
      refine (hin.out _).mono ?_
      rintro e w' ⟨rfl, rfl⟩
      go_wp2_with fail
      refine (l17Sum_c A xs n c hn hm hs B ps m d hp hm' HS _ (hA.below hv) (hB.below hv)).mono ?_
      rintro e W2 ⟨rfl, hb2⟩
      go_wp2_with fail
      refine (hlow.out _).mono ?_
      rintro e W3 ⟨rfl, hb3⟩
      have hv2 := bl_trans (bl_trans hv hb2) hb3
      have hZ2 := (hZ.below hb2).below hb3
      clear q0 q1 z0 z1
      have q0 : W3.cell? ⟨g1, 0, none⟩ = some (.int .i64 0) := hZ2.cell 0
      have q1 : W3.cell? ⟨g1, 1, none⟩ = some (.int .i64 0) := hZ2.cell 1
      have z0 : W3.frozen? ⟨g1, 0, none⟩ = false := hZ2.frozen 0
      have z1 : W3.frozen? ⟨g1, 1, none⟩ = false := hZ2.frozen 1
      go_wp2_with fail
      refine bodyPost_ret (results_cell_row_tmp (P := Try.prog) rfl _ _ g1 37 #[.int .i64 u, .int .i64 v] (0, 0) _ rfl ?_ Try.underlying37 rfl (by kernel_rfl)) rfl ?_
      · exact (hZ2.set_ 0 _).set_ 1 _
      · exact RetT.mk (by rw [HR.out]; rfl) (bl_set (bl_set hv2 hge1 _) hge1 _)

def NewB (w W : World) (g ga : Nat) : Prop := Blk W ga 37 #[Value.int IntKind.i64 0, Value.int IntKind.i64 0] ∧ w.heap.size ≤ ga ∧ ¬ g = ga
theorem newB_ex {w Wa W : World} {g : Nat} {t : TypeId} {cs : Array Value} (hb : Below (Wa.alloc (Obj.cells #[Value.int IntKind.i64 0, Value.int IntKind.i64 0] 37)).heap.size (Wa.alloc (Obj.cells #[Value.int IntKind.i64 0, Value.int IntKind.i64 0] 37)) W) (h1 : Below w.heap.size w Wa) (h2 : Blk Wa g t cs) :
    ∃ ga, Wa.heap.size = ga ∧ NewB w W g ga := ⟨_, rfl, (Blk.new _ _ _).below hb, h1.size, by have := h2.lt; omega⟩
theorem newB_at {w Wa W : World} {g : Nat} {t : TypeId} {cs : Array Value} (hb : Below (Wa.alloc (Obj.cells #[Value.int IntKind.i64 0, Value.int IntKind.i64 0] 37)).heap.size (Wa.alloc (Obj.cells #[Value.int IntKind.i64 0, Value.int IntKind.i64 0] 37)) W) (h1 : Below w.heap.size w Wa) (h2 : Blk Wa g t cs) :
    NewB w W g Wa.heap.size := ⟨(Blk.new _ _ _).below hb, h1.size, by have := h2.lt; omega⟩
theorem newB_atd {w Wa W : World} {g : Nat} {t : TypeId} {cs : Array Value} (hb : Below (Wa.alloc (Obj.cells #[Value.int IntKind.i64 0, Value.int IntKind.i64 0] 37)).drew.heap.size (Wa.alloc (Obj.cells #[Value.int IntKind.i64 0, Value.int IntKind.i64 0] 37)).drew W) (h1 : Below w.heap.size w Wa.drew) (h2 : Blk Wa.drew g t cs) :
    NewB w W g Wa.heap.size := ⟨((Blk.new _ _ _).below (Below.refl _ _).drew).below hb, h1.size, by have h := h2.lt; have e : Wa.drew.heap.size = Wa.heap.size := rfl; omega⟩
theorem newB_at2 {w Wa W : World} {g : Nat} (hb : Below (Wa.alloc (Obj.cells #[Value.int IntKind.i64 0, Value.int IntKind.i64 0] 37)).heap.size (Wa.alloc (Obj.cells #[Value.int IntKind.i64 0, Value.int IntKind.i64 0] 37)) W) (h' : Hid (w.heap.size ≤ Wa.heap.size ∧ g < Wa.heap.size)) :
    NewB w W g Wa.heap.size := ⟨(Blk.new _ _ _).below hb, h'.out.1, by have := h'.out.2; omega⟩
theorem newB_atd2 {w Wa W : World} {g : Nat} (hb : Below (Wa.alloc (Obj.cells #[Value.int IntKind.i64 0, Value.int IntKind.i64 0] 37)).drew.heap.size (Wa.alloc (Obj.cells #[Value.int IntKind.i64 0, Value.int IntKind.i64 0] 37)).drew W) (h' : Hid (w.heap.size ≤ Wa.heap.size ∧ g < Wa.heap.size)) :
    NewB w W g Wa.heap.size := ⟨((Blk.new _ _ _).below (Below.refl _ _).drew).below hb, h'.out.1, by have := h'.out.2; omega⟩
theorem newB_ex2 {w Wa W : World} {g : Nat} (hb : Below (Wa.alloc (Obj.cells #[Value.int IntKind.i64 0, Value.int IntKind.i64 0] 37)).heap.size (Wa.alloc (Obj.cells #[Value.int IntKind.i64 0, Value.int IntKind.i64 0] 37)) W) (h' : Hid (w.heap.size ≤ Wa.heap.size ∧ g < Wa.heap.size)) :
    ∃ ga, Wa.heap.size = ga ∧ NewB w W g ga := ⟨_, rfl, newB_at2 hb h'⟩
theorem newB_exd2 {w Wa W : World} {g : Nat} (hb : Below (Wa.alloc (Obj.cells #[Value.int IntKind.i64 0, Value.int IntKind.i64 0] 37)).drew.heap.size (Wa.alloc (Obj.cells #[Value.int IntKind.i64 0, Value.int IntKind.i64 0] 37)).drew W) (h' : Hid (w.heap.size ≤ Wa.heap.size ∧ g < Wa.heap.size)) :
    ∃ ga, Wa.heap.size = ga ∧ NewB w W g ga := ⟨_, rfl, newB_atd2 hb h'⟩
theorem NewB.below {w W W' : World} {g ga : Nat} (h : NewB w W g ga) (hb : Below W.heap.size W W') : NewB w W' g ga := ⟨h.1.below hb, h.2⟩
end Go.Proofs.Ytopbiihiogbhiaa
