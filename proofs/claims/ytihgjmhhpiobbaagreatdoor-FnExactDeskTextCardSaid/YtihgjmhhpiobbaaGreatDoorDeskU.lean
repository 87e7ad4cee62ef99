/- The copy of the console's state that the laws make. -/
import Derived.Test.YtihgjmhhpiobbaaGreatDoorDeskT
namespace Go.Proofs.YtihgjmhhpiobbaaGreatDoor
open Go.RowKit

theorem own_row {w : World} {base e size n g : Nat} {v : Value} {cs : List Value} (h : w.ownsRow base e size v n cs) (hp : ∀ g', v.ownBlock = some g' → g' ≠ g) (u : Array Value) : (w.setRow g u).ownsRow base e size v n cs :=
  h.kept (w' := w.setRow g u) (row := some g) ⟨rfl, rfl, rfl, by simp, fun k _ hk => setRow_other w g k u (fun e => hk (by rw [e]))⟩ (by
    cases hv : v.ownBlock with
    | none => exact .inl rfl
    | some g' => exact .inr (fun e => hp g' hv (Option.some.inj e)))
def OutD (f : Foot) (s : Style) (lg : ByteArray) (n : Nat) (cs : List Value) (w : World) (e : Ending) (w' : World) : Prop :=
  ∃ g, e = .returned (Value.agg #[Value.int IntKind.i64 f.length, Value.int IntKind.i64 f.ball, Value.int IntKind.i64 f.instep, Value.int IntKind.i64 f.heel, Value.slice (some ⟨g, 0, none⟩) n n, Value.string s.upper, Value.string s.color, Value.string s.lining, Value.string s.sole, Value.int IntKind.i64 s.thick, Value.int IntKind.i64 s.heel, Value.int IntKind.i64 s.eyelets, Value.int IntKind.i64 s.density, Value.bool s.double, Value.string lg]) ∧ w'.ownsRow w.heap.size 93 6 (Value.slice (some ⟨g, 0, none⟩) n n) n cs ∧ Below w.heap.size w w'
set_option maxRecDepth 100000 in
set_option maxHeartbeats 4000000 in
theorem toDesk_c (f : Foot) (s : Style) (lg : ByteArray) (A : Option Addr) (xs : List Last) (n c : Nat) (hn : Hid (xs.length = n)) (hm : (n : Int) ≤ 1048576) (w : World) (hA : Arr w A (flat Last.cells xs)) :
    Calls Tryz.prog 8 #[Value.agg #[Value.int IntKind.i64 f.length, Value.int IntKind.i64 f.ball, Value.int IntKind.i64 f.instep, Value.int IntKind.i64 f.heel, Value.slice A n c, Value.string s.upper, Value.string s.color, Value.string s.lining, Value.string s.sole, Value.int IntKind.i64 s.thick, Value.int IntKind.i64 s.heel, Value.int IntKind.i64 s.eyelets, Value.int IntKind.i64 s.density, Value.bool s.double, Value.string lg]] w (OutD f s lg n (flat Last.cells xs) w) := by
  go_enter Tryz.func8, Tryz.ntmps8
  go_wp2_with fail
  obtain ⟨W, hW⟩ : ∃ W, W = ((w.alloc (Obj.cells #[Value.int IntKind.i64 f.length, Value.int IntKind.i64 f.ball, Value.int IntKind.i64 f.instep, Value.int IntKind.i64 f.heel, Value.slice A n c, Value.string s.upper, Value.string s.color, Value.string s.lining, Value.string s.sole, Value.int IntKind.i64 s.thick, Value.int IntKind.i64 s.heel, Value.int IntKind.i64 s.eyelets, Value.int IntKind.i64 s.density, Value.bool s.double, Value.string lg] 28)).alloc (Obj.cells #[Value.int IntKind.i64 0, Value.int IntKind.i64 0, Value.int IntKind.i64 0, Value.int IntKind.i64 0, Value.slice none 0 0, Value.string ⟨#[]⟩, Value.string ⟨#[]⟩, Value.string ⟨#[]⟩, Value.string ⟨#[]⟩, Value.int IntKind.i64 0, Value.int IntKind.i64 0, Value.int IntKind.i64 0, Value.int IntKind.i64 0, Value.bool false, Value.string ⟨#[]⟩] 35)).alloc (Obj.cells #[Value.int IntKind.i64 0, Value.int IntKind.i64 0, Value.int IntKind.i64 0, Value.int IntKind.i64 0, Value.slice none 0 0, Value.string ⟨#[]⟩, Value.string ⟨#[]⟩, Value.string ⟨#[]⟩, Value.string ⟨#[]⟩, Value.int IntKind.i64 0, Value.int IntKind.i64 0, Value.int IntKind.i64 0, Value.int IntKind.i64 0, Value.bool false, Value.string ⟨#[]⟩] 35) := ⟨_, rfl⟩
  obtain ⟨g0, hg0⟩ : ∃ g0, g0 = w.heap.size := ⟨_, rfl⟩
  obtain ⟨g1, hg1⟩ : ∃ g1, g1 = w.heap.size + 1 := ⟨_, rfl⟩
  obtain ⟨g2, hg2⟩ : ∃ g2, g2 = w.heap.size + 1 + 1 := ⟨_, rfl⟩
  have hv : Below w.heap.size w W := by rw [hW]; exact bl_alloc (bl_alloc (bl_alloc (Below.refl _ _) _) _) _
  have b0 : Blk W g0 28 #[Value.int IntKind.i64 f.length, Value.int IntKind.i64 f.ball, Value.int IntKind.i64 f.instep, Value.int IntKind.i64 f.heel, Value.slice A n c, Value.string s.upper, Value.string s.color, Value.string s.lining, Value.string s.sole, Value.int IntKind.i64 s.thick, Value.int IntKind.i64 s.heel, Value.int IntKind.i64 s.eyelets, Value.int IntKind.i64 s.density, Value.bool s.double, Value.string lg] := by rw [hW, hg0]; exact ((Blk.new _ _ _).alloc _).alloc _
  have b1 : Blk W g1 35 #[Value.int IntKind.i64 0, Value.int IntKind.i64 0, Value.int IntKind.i64 0, Value.int IntKind.i64 0, Value.slice none 0 0, Value.string ⟨#[]⟩, Value.string ⟨#[]⟩, Value.string ⟨#[]⟩, Value.string ⟨#[]⟩, Value.int IntKind.i64 0, Value.int IntKind.i64 0, Value.int IntKind.i64 0, Value.int IntKind.i64 0, Value.bool false, Value.string ⟨#[]⟩] := by rw [hW, hg1]; refine Blk.alloc ?_ _; have h := Blk.new (w.alloc (Obj.cells #[Value.int IntKind.i64 f.length, Value.int IntKind.i64 f.ball, Value.int IntKind.i64 f.instep, Value.int IntKind.i64 f.heel, Value.slice A n c, Value.string s.upper, Value.string s.color, Value.string s.lining, Value.string s.sole, Value.int IntKind.i64 s.thick, Value.int IntKind.i64 s.heel, Value.int IntKind.i64 s.eyelets, Value.int IntKind.i64 s.density, Value.bool s.double, Value.string lg] 28)) 35 #[Value.int IntKind.i64 0, Value.int IntKind.i64 0, Value.int IntKind.i64 0, Value.int IntKind.i64 0, Value.slice none 0 0, Value.string ⟨#[]⟩, Value.string ⟨#[]⟩, Value.string ⟨#[]⟩, Value.string ⟨#[]⟩, Value.int IntKind.i64 0, Value.int IntKind.i64 0, Value.int IntKind.i64 0, Value.int IntKind.i64 0, Value.bool false, Value.string ⟨#[]⟩]; simpa using h
  have b2 : Blk W g2 35 #[Value.int IntKind.i64 0, Value.int IntKind.i64 0, Value.int IntKind.i64 0, Value.int IntKind.i64 0, Value.slice none 0 0, Value.string ⟨#[]⟩, Value.string ⟨#[]⟩, Value.string ⟨#[]⟩, Value.string ⟨#[]⟩, Value.int IntKind.i64 0, Value.int IntKind.i64 0, Value.int IntKind.i64 0, Value.int IntKind.i64 0, Value.bool false, Value.string ⟨#[]⟩] := by rw [hW, hg2]; have h := Blk.new ((w.alloc (Obj.cells #[Value.int IntKind.i64 f.length, Value.int IntKind.i64 f.ball, Value.int IntKind.i64 f.instep, Value.int IntKind.i64 f.heel, Value.slice A n c, Value.string s.upper, Value.string s.color, Value.string s.lining, Value.string s.sole, Value.int IntKind.i64 s.thick, Value.int IntKind.i64 s.heel, Value.int IntKind.i64 s.eyelets, Value.int IntKind.i64 s.density, Value.bool s.double, Value.string lg] 28)).alloc (Obj.cells #[Value.int IntKind.i64 0, Value.int IntKind.i64 0, Value.int IntKind.i64 0, Value.int IntKind.i64 0, Value.slice none 0 0, Value.string ⟨#[]⟩, Value.string ⟨#[]⟩, Value.string ⟨#[]⟩, Value.string ⟨#[]⟩, Value.int IntKind.i64 0, Value.int IntKind.i64 0, Value.int IntKind.i64 0, Value.int IntKind.i64 0, Value.bool false, Value.string ⟨#[]⟩] 35)) 35 #[Value.int IntKind.i64 0, Value.int IntKind.i64 0, Value.int IntKind.i64 0, Value.int IntKind.i64 0, Value.slice none 0 0, Value.string ⟨#[]⟩, Value.string ⟨#[]⟩, Value.string ⟨#[]⟩, Value.string ⟨#[]⟩, Value.int IntKind.i64 0, Value.int IntKind.i64 0, Value.int IntKind.i64 0, Value.int IntKind.i64 0, Value.bool false, Value.string ⟨#[]⟩]; simpa using h
  rw [← hW, ← hg2, ← hg1, ← hg0]
  have hsz : W.heap.size = g2 + 1 := by rw [hW, hg2]; simp
  have hge1 : w.heap.size ≤ g1 := by omega
  have hge2 : w.heap.size ≤ g2 := by omega
  have h02 : g0 ≠ g2 := by omega
  have h12 : g1 ≠ g2 := by omega
  have h12' : g1 < g2 := by omega
  clear hW hg2 hg1 hg0
  refine (toFoot_c f _).mono ?_
  rintro e W1 ⟨rfl, hb⟩
  have hs1 := hb.size
  replace hv := bl_trans hv hb
  replace b0 := b0.below hb
  replace b1 := b1.below hb
  replace b2 := b2.below hb
  clear hb
  have k0 : W1.cell? ⟨g0, 0, none⟩ = some (Value.int IntKind.i64 f.length) := b0.cell 0
  have k1 : W1.cell? ⟨g0, 1, none⟩ = some (Value.int IntKind.i64 f.ball) := b0.cell 1
  have k2 : W1.cell? ⟨g0, 2, none⟩ = some (Value.int IntKind.i64 f.instep) := b0.cell 2
  have k3 : W1.cell? ⟨g0, 3, none⟩ = some (Value.int IntKind.i64 f.heel) := b0.cell 3
  have k4 : W1.cell? ⟨g0, 4, none⟩ = some (Value.slice A n c) := b0.cell 4
  have k5 : W1.cell? ⟨g0, 5, none⟩ = some (Value.string s.upper) := b0.cell 5
  have k6 : W1.cell? ⟨g0, 6, none⟩ = some (Value.string s.color) := b0.cell 6
  have k7 : W1.cell? ⟨g0, 7, none⟩ = some (Value.string s.lining) := b0.cell 7
  have k8 : W1.cell? ⟨g0, 8, none⟩ = some (Value.string s.sole) := b0.cell 8
  have k9 : W1.cell? ⟨g0, 9, none⟩ = some (Value.int IntKind.i64 s.thick) := b0.cell 9
  have k10 : W1.cell? ⟨g0, 10, none⟩ = some (Value.int IntKind.i64 s.heel) := b0.cell 10
  have k11 : W1.cell? ⟨g0, 11, none⟩ = some (Value.int IntKind.i64 s.eyelets) := b0.cell 11
  have k12 : W1.cell? ⟨g0, 12, none⟩ = some (Value.int IntKind.i64 s.density) := b0.cell 12
  have k13 : W1.cell? ⟨g0, 13, none⟩ = some (Value.bool s.double) := b0.cell 13
  have k14 : W1.cell? ⟨g0, 14, none⟩ = some (Value.string lg) := b0.cell 14
  have r0 : W1.frozen? ⟨g2, 0, none⟩ = false := b2.frozen 0
  have r1 : W1.frozen? ⟨g2, 1, none⟩ = false := b2.frozen 1
  have r2 : W1.frozen? ⟨g2, 2, none⟩ = false := b2.frozen 2
  have r3 : W1.frozen? ⟨g2, 3, none⟩ = false := b2.frozen 3
  have q0 : W1.cell? ⟨g2, 0, none⟩ = some (Value.int IntKind.i64 0) := b2.cell 0
  have q1 : W1.cell? ⟨g2, 1, none⟩ = some (Value.int IntKind.i64 0) := b2.cell 1
  have q2 : W1.cell? ⟨g2, 2, none⟩ = some (Value.int IntKind.i64 0) := b2.cell 2
  have q3 : W1.cell? ⟨g2, 3, none⟩ = some (Value.int IntKind.i64 0) := b2.cell 3
  have q4 : W1.cell? ⟨g2, 4, none⟩ = some (Value.slice none 0 0) := b2.cell 4
  have q5 : W1.cell? ⟨g2, 5, none⟩ = some (Value.string ⟨#[]⟩) := b2.cell 5
  have q6 : W1.cell? ⟨g2, 6, none⟩ = some (Value.string ⟨#[]⟩) := b2.cell 6
  have q7 : W1.cell? ⟨g2, 7, none⟩ = some (Value.string ⟨#[]⟩) := b2.cell 7
  have q8 : W1.cell? ⟨g2, 8, none⟩ = some (Value.string ⟨#[]⟩) := b2.cell 8
  have q9 : W1.cell? ⟨g2, 9, none⟩ = some (Value.int IntKind.i64 0) := b2.cell 9
  have q10 : W1.cell? ⟨g2, 10, none⟩ = some (Value.int IntKind.i64 0) := b2.cell 10
  have q11 : W1.cell? ⟨g2, 11, none⟩ = some (Value.int IntKind.i64 0) := b2.cell 11
  have q12 : W1.cell? ⟨g2, 12, none⟩ = some (Value.int IntKind.i64 0) := b2.cell 12
  have q13 : W1.cell? ⟨g2, 13, none⟩ = some (Value.bool false) := b2.cell 13
  have q14 : W1.cell? ⟨g2, 14, none⟩ = some (Value.string ⟨#[]⟩) := b2.cell 14
  have H1 := Lib.hid hsz
  have H2 := Lib.hid hs1
  clear hsz hs1
  go_wp2_with fail
  clear k0 k1 k2 k3 k4 k5 k6 k7 k8 k9 k10 k11 k12 k13 k14 r0 r1 r2 r3 q0 q1 q2 q3 q4 q5 q6 q7 q8 q9 q10 q11 q12 q13 q14
  refine (toLastS_c A xs n c hn hm _ (hA.below (bl_set (bl_set (bl_set (bl_set hv hge2 _) hge2 _) hge2 _) hge2 _))).mono ?_
  rintro e W2 ⟨g, rfl, hown, hb⟩
  have hgt : g2 < g := by
    have h1 := (hown.lt g rfl).1
    have h2 := H1.out; have h3 := H2.out
    simp at h1
    omega
  replace hown := own_base hown ((bl_set (bl_set (bl_set (bl_set hv hge2 _) hge2 _) hge2 _) hge2 _)).size
  replace hv := bl_trans (bl_set (bl_set (bl_set (bl_set hv hge2 _) hge2 _) hge2 _) hge2 _) hb
  replace b0 := ((((b0.far (p := ⟨g2, 0, none⟩) h02 _).far (p := ⟨g2, 1, none⟩) h02 _).far (p := ⟨g2, 2, none⟩) h02 _).far (p := ⟨g2, 3, none⟩) h02 _).below hb
  replace b1 := ((((b1.far (p := ⟨g2, 0, none⟩) h12 _).far (p := ⟨g2, 1, none⟩) h12 _).far (p := ⟨g2, 2, none⟩) h12 _).far (p := ⟨g2, 3, none⟩) h12 _).below hb
  have b2' : Blk W2 g2 35 #[Value.int IntKind.i64 f.length, Value.int IntKind.i64 f.ball, Value.int IntKind.i64 f.instep, Value.int IntKind.i64 f.heel, Value.slice none 0 0, Value.string ⟨#[]⟩, Value.string ⟨#[]⟩, Value.string ⟨#[]⟩, Value.string ⟨#[]⟩, Value.int IntKind.i64 0, Value.int IntKind.i64 0, Value.int IntKind.i64 0, Value.int IntKind.i64 0, Value.bool false, Value.string ⟨#[]⟩] := ((((b2.set_ 0 _).set_ 1 _).set_ 2 _).set_ 3 _).below hb
  clear hb b2
  have k0 : W2.cell? ⟨g0, 0, none⟩ = some (Value.int IntKind.i64 f.length) := b0.cell 0
  have k1 : W2.cell? ⟨g0, 1, none⟩ = some (Value.int IntKind.i64 f.ball) := b0.cell 1
  have k2 : W2.cell? ⟨g0, 2, none⟩ = some (Value.int IntKind.i64 f.instep) := b0.cell 2
  have k3 : W2.cell? ⟨g0, 3, none⟩ = some (Value.int IntKind.i64 f.heel) := b0.cell 3
  have k4 : W2.cell? ⟨g0, 4, none⟩ = some (Value.slice A n c) := b0.cell 4
  have k5 : W2.cell? ⟨g0, 5, none⟩ = some (Value.string s.upper) := b0.cell 5
  have k6 : W2.cell? ⟨g0, 6, none⟩ = some (Value.string s.color) := b0.cell 6
  have k7 : W2.cell? ⟨g0, 7, none⟩ = some (Value.string s.lining) := b0.cell 7
  have k8 : W2.cell? ⟨g0, 8, none⟩ = some (Value.string s.sole) := b0.cell 8
  have k9 : W2.cell? ⟨g0, 9, none⟩ = some (Value.int IntKind.i64 s.thick) := b0.cell 9
  have k10 : W2.cell? ⟨g0, 10, none⟩ = some (Value.int IntKind.i64 s.heel) := b0.cell 10
  have k11 : W2.cell? ⟨g0, 11, none⟩ = some (Value.int IntKind.i64 s.eyelets) := b0.cell 11
  have k12 : W2.cell? ⟨g0, 12, none⟩ = some (Value.int IntKind.i64 s.density) := b0.cell 12
  have k13 : W2.cell? ⟨g0, 13, none⟩ = some (Value.bool s.double) := b0.cell 13
  have k14 : W2.cell? ⟨g0, 14, none⟩ = some (Value.string lg) := b0.cell 14
  have r4 := b2'.frozen 4
  have q0 : W2.cell? ⟨g2, 0, none⟩ = some (Value.int IntKind.i64 f.length) := b2'.cell 0
  have q1 : W2.cell? ⟨g2, 1, none⟩ = some (Value.int IntKind.i64 f.ball) := b2'.cell 1
  have q2 : W2.cell? ⟨g2, 2, none⟩ = some (Value.int IntKind.i64 f.instep) := b2'.cell 2
  have q3 : W2.cell? ⟨g2, 3, none⟩ = some (Value.int IntKind.i64 f.heel) := b2'.cell 3
  have q4 : W2.cell? ⟨g2, 4, none⟩ = some (Value.slice none 0 0) := b2'.cell 4
  have q5 : W2.cell? ⟨g2, 5, none⟩ = some (Value.string ⟨#[]⟩) := b2'.cell 5
  have q6 : W2.cell? ⟨g2, 6, none⟩ = some (Value.string ⟨#[]⟩) := b2'.cell 6
  have q7 : W2.cell? ⟨g2, 7, none⟩ = some (Value.string ⟨#[]⟩) := b2'.cell 7
  have q8 : W2.cell? ⟨g2, 8, none⟩ = some (Value.string ⟨#[]⟩) := b2'.cell 8
  have q9 : W2.cell? ⟨g2, 9, none⟩ = some (Value.int IntKind.i64 0) := b2'.cell 9
  have q10 : W2.cell? ⟨g2, 10, none⟩ = some (Value.int IntKind.i64 0) := b2'.cell 10
  have q11 : W2.cell? ⟨g2, 11, none⟩ = some (Value.int IntKind.i64 0) := b2'.cell 11
  have q12 : W2.cell? ⟨g2, 12, none⟩ = some (Value.int IntKind.i64 0) := b2'.cell 12
  have q13 : W2.cell? ⟨g2, 13, none⟩ = some (Value.bool false) := b2'.cell 13
  have q14 : W2.cell? ⟨g2, 14, none⟩ = some (Value.string ⟨#[]⟩) := b2'.cell 14
  have hgo2 : ∀ g', Value.ownBlock (Value.slice (some ⟨g, 0, none⟩) n n) = some g' → g' ≠ g2 := by intro g' h; simp [Value.ownBlock] at h; omega
  have hgo1 : ∀ g', Value.ownBlock (Value.slice (some ⟨g, 0, none⟩) n n) = some g' → g' ≠ g1 := by intro g' h; simp [Value.ownBlock] at h; omega
  go_wp2_with fail
  clear k0 k1 k2 k3 k4 k5 k6 k7 k8 k9 k10 k11 k12 k13 k14 r4 q0 q1 q2 q3 q4 q5 q6 q7 q8 q9 q10 q11 q12 q13 q14
  refine (toStyle_c s _).mono ?_
  rintro e W3 ⟨rfl, hb⟩
  replace hown := own_below (own_far (p := ⟨g2, 4, none⟩) hown hgo2 _) hb
  replace hv := bl_trans (bl_set hv hge2 _) hb
  replace b0 := (b0.far (p := ⟨g2, 4, none⟩) h02 _).below hb
  replace b1 := (b1.far (p := ⟨g2, 4, none⟩) h12 _).below hb
  have b2 : Blk W3 g2 35 #[Value.int IntKind.i64 f.length, Value.int IntKind.i64 f.ball, Value.int IntKind.i64 f.instep, Value.int IntKind.i64 f.heel, Value.slice (some ⟨g, 0, none⟩) n n, Value.string ⟨#[]⟩, Value.string ⟨#[]⟩, Value.string ⟨#[]⟩, Value.string ⟨#[]⟩, Value.int IntKind.i64 0, Value.int IntKind.i64 0, Value.int IntKind.i64 0, Value.int IntKind.i64 0, Value.bool false, Value.string ⟨#[]⟩] := (b2'.set_ 4 _).below hb
  clear hb b2'
  have k14 : W3.cell? ⟨g0, 14, none⟩ = some (Value.string lg) := b0.cell 14
  have q5 : W3.cell? ⟨g2, 5, none⟩ = some (Value.string ⟨#[]⟩) := b2.cell 5
  have q6 : W3.cell? ⟨g2, 6, none⟩ = some (Value.string ⟨#[]⟩) := b2.cell 6
  have q7 : W3.cell? ⟨g2, 7, none⟩ = some (Value.string ⟨#[]⟩) := b2.cell 7
  have q8 : W3.cell? ⟨g2, 8, none⟩ = some (Value.string ⟨#[]⟩) := b2.cell 8
  have q9 : W3.cell? ⟨g2, 9, none⟩ = some (Value.int IntKind.i64 0) := b2.cell 9
  have q10 : W3.cell? ⟨g2, 10, none⟩ = some (Value.int IntKind.i64 0) := b2.cell 10
  have q11 : W3.cell? ⟨g2, 11, none⟩ = some (Value.int IntKind.i64 0) := b2.cell 11
  have q12 : W3.cell? ⟨g2, 12, none⟩ = some (Value.int IntKind.i64 0) := b2.cell 12
  have q13 : W3.cell? ⟨g2, 13, none⟩ = some (Value.bool false) := b2.cell 13
  have q14 : W3.cell? ⟨g2, 14, none⟩ = some (Value.string ⟨#[]⟩) := b2.cell 14
  have r5 : W3.frozen? ⟨g2, 5, none⟩ = false := b2.frozen 5
  have r6 : W3.frozen? ⟨g2, 6, none⟩ = false := b2.frozen 6
  have r7 : W3.frozen? ⟨g2, 7, none⟩ = false := b2.frozen 7
  have r8 : W3.frozen? ⟨g2, 8, none⟩ = false := b2.frozen 8
  have r9 : W3.frozen? ⟨g2, 9, none⟩ = false := b2.frozen 9
  have r10 : W3.frozen? ⟨g2, 10, none⟩ = false := b2.frozen 10
  have r11 : W3.frozen? ⟨g2, 11, none⟩ = false := b2.frozen 11
  have r12 : W3.frozen? ⟨g2, 12, none⟩ = false := b2.frozen 12
  have r13 : W3.frozen? ⟨g2, 13, none⟩ = false := b2.frozen 13
  have r14 : W3.frozen? ⟨g2, 14, none⟩ = false := b2.frozen 14
  replace bX : Blk (W3.setCell ⟨g2, 5, none⟩ (Value.string s.upper)) g2 35 #[Value.int IntKind.i64 f.length, Value.int IntKind.i64 f.ball, Value.int IntKind.i64 f.instep, Value.int IntKind.i64 f.heel, Value.slice (some ⟨g, 0, none⟩) n n, Value.string s.upper, Value.string ⟨#[]⟩, Value.string ⟨#[]⟩, Value.string ⟨#[]⟩, Value.int IntKind.i64 0, Value.int IntKind.i64 0, Value.int IntKind.i64 0, Value.int IntKind.i64 0, Value.bool false, Value.string ⟨#[]⟩] := b2.set_ 5 (Value.string s.upper)
  replace bX : Blk ((W3.setCell ⟨g2, 5, none⟩ (Value.string s.upper)).setCell ⟨g2, 6, none⟩ (Value.string s.color)) g2 35 #[Value.int IntKind.i64 f.length, Value.int IntKind.i64 f.ball, Value.int IntKind.i64 f.instep, Value.int IntKind.i64 f.heel, Value.slice (some ⟨g, 0, none⟩) n n, Value.string s.upper, Value.string s.color, Value.string ⟨#[]⟩, Value.string ⟨#[]⟩, Value.int IntKind.i64 0, Value.int IntKind.i64 0, Value.int IntKind.i64 0, Value.int IntKind.i64 0, Value.bool false, Value.string ⟨#[]⟩] := bX.set_ 6 (Value.string s.color)
  replace bX : Blk (((W3.setCell ⟨g2, 5, none⟩ (Value.string s.upper)).setCell ⟨g2, 6, none⟩ (Value.string s.color)).setCell ⟨g2, 7, none⟩ (Value.string s.lining)) g2 35 #[Value.int IntKind.i64 f.length, Value.int IntKind.i64 f.ball, Value.int IntKind.i64 f.instep, Value.int IntKind.i64 f.heel, Value.slice (some ⟨g, 0, none⟩) n n, Value.string s.upper, Value.string s.color, Value.string s.lining, Value.string ⟨#[]⟩, Value.int IntKind.i64 0, Value.int IntKind.i64 0, Value.int IntKind.i64 0, Value.int IntKind.i64 0, Value.bool false, Value.string ⟨#[]⟩] := bX.set_ 7 (Value.string s.lining)
  replace bX : Blk ((((W3.setCell ⟨g2, 5, none⟩ (Value.string s.upper)).setCell ⟨g2, 6, none⟩ (Value.string s.color)).setCell ⟨g2, 7, none⟩ (Value.string s.lining)).setCell ⟨g2, 8, none⟩ (Value.string s.sole)) g2 35 #[Value.int IntKind.i64 f.length, Value.int IntKind.i64 f.ball, Value.int IntKind.i64 f.instep, Value.int IntKind.i64 f.heel, Value.slice (some ⟨g, 0, none⟩) n n, Value.string s.upper, Value.string s.color, Value.string s.lining, Value.string s.sole, Value.int IntKind.i64 0, Value.int IntKind.i64 0, Value.int IntKind.i64 0, Value.int IntKind.i64 0, Value.bool false, Value.string ⟨#[]⟩] := bX.set_ 8 (Value.string s.sole)
  replace bX : Blk (((((W3.setCell ⟨g2, 5, none⟩ (Value.string s.upper)).setCell ⟨g2, 6, none⟩ (Value.string s.color)).setCell ⟨g2, 7, none⟩ (Value.string s.lining)).setCell ⟨g2, 8, none⟩ (Value.string s.sole)).setCell ⟨g2, 9, none⟩ (Value.int IntKind.i64 s.thick)) g2 35 #[Value.int IntKind.i64 f.length, Value.int IntKind.i64 f.ball, Value.int IntKind.i64 f.instep, Value.int IntKind.i64 f.heel, Value.slice (some ⟨g, 0, none⟩) n n, Value.string s.upper, Value.string s.color, Value.string s.lining, Value.string s.sole, Value.int IntKind.i64 s.thick, Value.int IntKind.i64 0, Value.int IntKind.i64 0, Value.int IntKind.i64 0, Value.bool false, Value.string ⟨#[]⟩] := bX.set_ 9 (Value.int IntKind.i64 s.thick)
  replace bX : Blk ((((((W3.setCell ⟨g2, 5, none⟩ (Value.string s.upper)).setCell ⟨g2, 6, none⟩ (Value.string s.color)).setCell ⟨g2, 7, none⟩ (Value.string s.lining)).setCell ⟨g2, 8, none⟩ (Value.string s.sole)).setCell ⟨g2, 9, none⟩ (Value.int IntKind.i64 s.thick)).setCell ⟨g2, 10, none⟩ (Value.int IntKind.i64 s.heel)) g2 35 #[Value.int IntKind.i64 f.length, Value.int IntKind.i64 f.ball, Value.int IntKind.i64 f.instep, Value.int IntKind.i64 f.heel, Value.slice (some ⟨g, 0, none⟩) n n, Value.string s.upper, Value.string s.color, Value.string s.lining, Value.string s.sole, Value.int IntKind.i64 s.thick, Value.int IntKind.i64 s.heel, Value.int IntKind.i64 0, Value.int IntKind.i64 0, Value.bool false, Value.string ⟨#[]⟩] := bX.set_ 10 (Value.int IntKind.i64 s.heel)
  replace bX : Blk (((((((W3.setCell ⟨g2, 5, none⟩ (Value.string s.upper)).setCell ⟨g2, 6, none⟩ (Value.string s.color)).setCell ⟨g2, 7, none⟩ (Value.string s.lining)).setCell ⟨g2, 8, none⟩ (Value.string s.sole)).setCell ⟨g2, 9, none⟩ (Value.int IntKind.i64 s.thick)).setCell ⟨g2, 10, none⟩ (Value.int IntKind.i64 s.heel)).setCell ⟨g2, 11, none⟩ (Value.int IntKind.i64 s.eyelets)) g2 35 #[Value.int IntKind.i64 f.length, Value.int IntKind.i64 f.ball, Value.int IntKind.i64 f.instep, Value.int IntKind.i64 f.heel, Value.slice (some ⟨g, 0, none⟩) n n, Value.string s.upper, Value.string s.color, Value.string s.lining, Value.string s.sole, Value.int IntKind.i64 s.thick, Value.int IntKind.i64 s.heel, Value.int IntKind.i64 s.eyelets, Value.int IntKind.i64 0, Value.bool false, Value.string ⟨#[]⟩] := bX.set_ 11 (Value.int IntKind.i64 s.eyelets)
  replace bX : Blk ((((((((W3.setCell ⟨g2, 5, none⟩ (Value.string s.upper)).setCell ⟨g2, 6, none⟩ (Value.string s.color)).setCell ⟨g2, 7, none⟩ (Value.string s.lining)).setCell ⟨g2, 8, none⟩ (Value.string s.sole)).setCell ⟨g2, 9, none⟩ (Value.int IntKind.i64 s.thick)).setCell ⟨g2, 10, none⟩ (Value.int IntKind.i64 s.heel)).setCell ⟨g2, 11, none⟩ (Value.int IntKind.i64 s.eyelets)).setCell ⟨g2, 12, none⟩ (Value.int IntKind.i64 s.density)) g2 35 #[Value.int IntKind.i64 f.length, Value.int IntKind.i64 f.ball, Value.int IntKind.i64 f.instep, Value.int IntKind.i64 f.heel, Value.slice (some ⟨g, 0, none⟩) n n, Value.string s.upper, Value.string s.color, Value.string s.lining, Value.string s.sole, Value.int IntKind.i64 s.thick, Value.int IntKind.i64 s.heel, Value.int IntKind.i64 s.eyelets, Value.int IntKind.i64 s.density, Value.bool false, Value.string ⟨#[]⟩] := bX.set_ 12 (Value.int IntKind.i64 s.density)
  replace bX : Blk (((((((((W3.setCell ⟨g2, 5, none⟩ (Value.string s.upper)).setCell ⟨g2, 6, none⟩ (Value.string s.color)).setCell ⟨g2, 7, none⟩ (Value.string s.lining)).setCell ⟨g2, 8, none⟩ (Value.string s.sole)).setCell ⟨g2, 9, none⟩ (Value.int IntKind.i64 s.thick)).setCell ⟨g2, 10, none⟩ (Value.int IntKind.i64 s.heel)).setCell ⟨g2, 11, none⟩ (Value.int IntKind.i64 s.eyelets)).setCell ⟨g2, 12, none⟩ (Value.int IntKind.i64 s.density)).setCell ⟨g2, 13, none⟩ (Value.bool s.double)) g2 35 #[Value.int IntKind.i64 f.length, Value.int IntKind.i64 f.ball, Value.int IntKind.i64 f.instep, Value.int IntKind.i64 f.heel, Value.slice (some ⟨g, 0, none⟩) n n, Value.string s.upper, Value.string s.color, Value.string s.lining, Value.string s.sole, Value.int IntKind.i64 s.thick, Value.int IntKind.i64 s.heel, Value.int IntKind.i64 s.eyelets, Value.int IntKind.i64 s.density, Value.bool s.double, Value.string ⟨#[]⟩] := bX.set_ 13 (Value.bool s.double)
  replace bX : Blk ((((((((((W3.setCell ⟨g2, 5, none⟩ (Value.string s.upper)).setCell ⟨g2, 6, none⟩ (Value.string s.color)).setCell ⟨g2, 7, none⟩ (Value.string s.lining)).setCell ⟨g2, 8, none⟩ (Value.string s.sole)).setCell ⟨g2, 9, none⟩ (Value.int IntKind.i64 s.thick)).setCell ⟨g2, 10, none⟩ (Value.int IntKind.i64 s.heel)).setCell ⟨g2, 11, none⟩ (Value.int IntKind.i64 s.eyelets)).setCell ⟨g2, 12, none⟩ (Value.int IntKind.i64 s.density)).setCell ⟨g2, 13, none⟩ (Value.bool s.double)).setCell ⟨g2, 14, none⟩ (Value.string lg)) g2 35 #[Value.int IntKind.i64 f.length, Value.int IntKind.i64 f.ball, Value.int IntKind.i64 f.instep, Value.int IntKind.i64 f.heel, Value.slice (some ⟨g, 0, none⟩) n n, Value.string s.upper, Value.string s.color, Value.string s.lining, Value.string s.sole, Value.int IntKind.i64 s.thick, Value.int IntKind.i64 s.heel, Value.int IntKind.i64 s.eyelets, Value.int IntKind.i64 s.density, Value.bool s.double, Value.string lg] := bX.set_ 14 (Value.string lg)
  have cX : Blk ((((((((((W3.setCell ⟨g2, 5, none⟩ (Value.string s.upper)).setCell ⟨g2, 6, none⟩ (Value.string s.color)).setCell ⟨g2, 7, none⟩ (Value.string s.lining)).setCell ⟨g2, 8, none⟩ (Value.string s.sole)).setCell ⟨g2, 9, none⟩ (Value.int IntKind.i64 s.thick)).setCell ⟨g2, 10, none⟩ (Value.int IntKind.i64 s.heel)).setCell ⟨g2, 11, none⟩ (Value.int IntKind.i64 s.eyelets)).setCell ⟨g2, 12, none⟩ (Value.int IntKind.i64 s.density)).setCell ⟨g2, 13, none⟩ (Value.bool s.double)).setCell ⟨g2, 14, none⟩ (Value.string lg)) g1 35 #[Value.int IntKind.i64 0, Value.int IntKind.i64 0, Value.int IntKind.i64 0, Value.int IntKind.i64 0, Value.slice none 0 0, Value.string ⟨#[]⟩, Value.string ⟨#[]⟩, Value.string ⟨#[]⟩, Value.string ⟨#[]⟩, Value.int IntKind.i64 0, Value.int IntKind.i64 0, Value.int IntKind.i64 0, Value.int IntKind.i64 0, Value.bool false, Value.string ⟨#[]⟩] := ((((((((((b1.far (p := ⟨g2, 5, none⟩) h12 (Value.string s.upper)).far (p := ⟨g2, 6, none⟩) h12 (Value.string s.color)).far (p := ⟨g2, 7, none⟩) h12 (Value.string s.lining)).far (p := ⟨g2, 8, none⟩) h12 (Value.string s.sole)).far (p := ⟨g2, 9, none⟩) h12 (Value.int IntKind.i64 s.thick)).far (p := ⟨g2, 10, none⟩) h12 (Value.int IntKind.i64 s.heel)).far (p := ⟨g2, 11, none⟩) h12 (Value.int IntKind.i64 s.eyelets)).far (p := ⟨g2, 12, none⟩) h12 (Value.int IntKind.i64 s.density)).far (p := ⟨g2, 13, none⟩) h12 (Value.bool s.double)).far (p := ⟨g2, 14, none⟩) h12 (Value.string lg))
  have hvX : Below w.heap.size w ((((((((((W3.setCell ⟨g2, 5, none⟩ (Value.string s.upper)).setCell ⟨g2, 6, none⟩ (Value.string s.color)).setCell ⟨g2, 7, none⟩ (Value.string s.lining)).setCell ⟨g2, 8, none⟩ (Value.string s.sole)).setCell ⟨g2, 9, none⟩ (Value.int IntKind.i64 s.thick)).setCell ⟨g2, 10, none⟩ (Value.int IntKind.i64 s.heel)).setCell ⟨g2, 11, none⟩ (Value.int IntKind.i64 s.eyelets)).setCell ⟨g2, 12, none⟩ (Value.int IntKind.i64 s.density)).setCell ⟨g2, 13, none⟩ (Value.bool s.double)).setCell ⟨g2, 14, none⟩ (Value.string lg)) := (bl_set (p := ⟨g2, 14, none⟩) (bl_set (p := ⟨g2, 13, none⟩) (bl_set (p := ⟨g2, 12, none⟩) (bl_set (p := ⟨g2, 11, none⟩) (bl_set (p := ⟨g2, 10, none⟩) (bl_set (p := ⟨g2, 9, none⟩) (bl_set (p := ⟨g2, 8, none⟩) (bl_set (p := ⟨g2, 7, none⟩) (bl_set (p := ⟨g2, 6, none⟩) (bl_set (p := ⟨g2, 5, none⟩) hv hge2 (Value.string s.upper)) hge2 (Value.string s.color)) hge2 (Value.string s.lining)) hge2 (Value.string s.sole)) hge2 (Value.int IntKind.i64 s.thick)) hge2 (Value.int IntKind.i64 s.heel)) hge2 (Value.int IntKind.i64 s.eyelets)) hge2 (Value.int IntKind.i64 s.density)) hge2 (Value.bool s.double)) hge2 (Value.string lg))
  have hoX : World.ownsRow ((((((((((W3.setCell ⟨g2, 5, none⟩ (Value.string s.upper)).setCell ⟨g2, 6, none⟩ (Value.string s.color)).setCell ⟨g2, 7, none⟩ (Value.string s.lining)).setCell ⟨g2, 8, none⟩ (Value.string s.sole)).setCell ⟨g2, 9, none⟩ (Value.int IntKind.i64 s.thick)).setCell ⟨g2, 10, none⟩ (Value.int IntKind.i64 s.heel)).setCell ⟨g2, 11, none⟩ (Value.int IntKind.i64 s.eyelets)).setCell ⟨g2, 12, none⟩ (Value.int IntKind.i64 s.density)).setCell ⟨g2, 13, none⟩ (Value.bool s.double)).setCell ⟨g2, 14, none⟩ (Value.string lg)) w.heap.size 93 6 (Value.slice (some ⟨g, 0, none⟩) n n) n (flat Last.cells xs) := (own_far (p := ⟨g2, 14, none⟩) (own_far (p := ⟨g2, 13, none⟩) (own_far (p := ⟨g2, 12, none⟩) (own_far (p := ⟨g2, 11, none⟩) (own_far (p := ⟨g2, 10, none⟩) (own_far (p := ⟨g2, 9, none⟩) (own_far (p := ⟨g2, 8, none⟩) (own_far (p := ⟨g2, 7, none⟩) (own_far (p := ⟨g2, 6, none⟩) (own_far (p := ⟨g2, 5, none⟩) hown hgo2 (Value.string s.upper)) hgo2 (Value.string s.color)) hgo2 (Value.string s.lining)) hgo2 (Value.string s.sole)) hgo2 (Value.int IntKind.i64 s.thick)) hgo2 (Value.int IntKind.i64 s.heel)) hgo2 (Value.int IntKind.i64 s.eyelets)) hgo2 (Value.int IntKind.i64 s.density)) hgo2 (Value.bool s.double)) hgo2 (Value.string lg))
  clear b0 b1 b2 hv hown
  obtain ⟨X, hX⟩ : ∃ X, X = ((((((((((W3.setCell ⟨g2, 5, none⟩ (Value.string s.upper)).setCell ⟨g2, 6, none⟩ (Value.string s.color)).setCell ⟨g2, 7, none⟩ (Value.string s.lining)).setCell ⟨g2, 8, none⟩ (Value.string s.sole)).setCell ⟨g2, 9, none⟩ (Value.int IntKind.i64 s.thick)).setCell ⟨g2, 10, none⟩ (Value.int IntKind.i64 s.heel)).setCell ⟨g2, 11, none⟩ (Value.int IntKind.i64 s.eyelets)).setCell ⟨g2, 12, none⟩ (Value.int IntKind.i64 s.density)).setCell ⟨g2, 13, none⟩ (Value.bool s.double)).setCell ⟨g2, 14, none⟩ (Value.string lg)) := ⟨_, rfl⟩
  rw [← hX] at bX cX hvX hoX
  have HB := Lib.hid bX
  have HC := Lib.hid cX
  have HV := Lib.hid hvX
  have HO := Lib.hid hoX
  have HX := Lib.hid hX
  clear bX cX hvX hoX hX
  go_wp2_with (refine wpList_load_row rfl 35 _ rfl g2 rfl 35 #[Value.int IntKind.i64 f.length, Value.int IntKind.i64 f.ball, Value.int IntKind.i64 f.instep, Value.int IntKind.i64 f.heel, Value.slice (some ⟨g, 0, none⟩) n n, Value.string s.upper, Value.string s.color, Value.string s.lining, Value.string s.sole, Value.int IntKind.i64 s.thick, Value.int IntKind.i64 s.heel, Value.int IntKind.i64 s.eyelets, Value.int IntKind.i64 s.density, Value.bool s.double, Value.string lg] (0, 0) _ ?_ Tryz.underlying35 rfl (by kernel_rfl) ?_; (rw [← HX.out]; exact HB.out); rw [← HX.out]; refine wpList_store_row rfl 35 _ _ rfl g1 #[Value.int IntKind.i64 f.length, Value.int IntKind.i64 f.ball, Value.int IntKind.i64 f.instep, Value.int IntKind.i64 f.heel, Value.slice (some ⟨g, 0, none⟩) n n, Value.string s.upper, Value.string s.color, Value.string s.lining, Value.string s.sole, Value.int IntKind.i64 s.thick, Value.int IntKind.i64 s.heel, Value.int IntKind.i64 s.eyelets, Value.int IntKind.i64 s.density, Value.bool s.double, Value.string lg] rfl rfl 35 #[Value.int IntKind.i64 0, Value.int IntKind.i64 0, Value.int IntKind.i64 0, Value.int IntKind.i64 0, Value.slice none 0 0, Value.string ⟨#[]⟩, Value.string ⟨#[]⟩, Value.string ⟨#[]⟩, Value.string ⟨#[]⟩, Value.int IntKind.i64 0, Value.int IntKind.i64 0, Value.int IntKind.i64 0, Value.int IntKind.i64 0, Value.bool false, Value.string ⟨#[]⟩] HC.out (by kernel_rfl) rfl (by simp [Value.oneCell']) ?_)
  refine bodyPost_ret (results_cell_row (P := Tryz.prog) rfl _ _ g1 35 #[Value.int IntKind.i64 f.length, Value.int IntKind.i64 f.ball, Value.int IntKind.i64 f.instep, Value.int IntKind.i64 f.heel, Value.slice (some ⟨g, 0, none⟩) n n, Value.string s.upper, Value.string s.color, Value.string s.lining, Value.string s.sole, Value.int IntKind.i64 s.thick, Value.int IntKind.i64 s.heel, Value.int IntKind.i64 s.eyelets, Value.int IntKind.i64 s.density, Value.bool s.double, Value.string lg] (0, 0) _ rfl ?_ Tryz.underlying35 rfl (by kernel_rfl)) rfl ?_
  · exact setRow_heap _ _ _ _ _ _ HC.out
  · exact ⟨g, rfl, own_row HO.out hgo1 _, below_setRow HV.out hge1 _⟩

end Go.Proofs.YtihgjmhhpiobbaaGreatDoor
