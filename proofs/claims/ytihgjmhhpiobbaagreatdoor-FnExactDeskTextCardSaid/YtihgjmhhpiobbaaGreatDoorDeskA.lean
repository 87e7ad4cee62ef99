
/- The console's state: equality, marks, the state at the beginning. -/
import Derived.Test.YtihgjmhhpiobbaaGreatDoorOwn
import Derived.Laws.ResultCell
import Derived.BigRegion
namespace Go.Proofs.YtihgjmhhpiobbaaGreatDoor
open Go.RowKit

theorem block_eq {w : World} {g : Nat} {t : TypeId} {cs : Array Value} (h : Blk w g t cs) : w.heap[g]? = some (.cells cs t (0, 0)) := h
set_option maxRecDepth 100000 in
set_option maxHeartbeats 2000000 in
theorem eqDesk_c (f f2 : Foot) (s s2 : Style) (lg lg2 : ByteArray) (A B : Option Addr) (xs ys : List Last) (n m c d : Nat) (hn : Hid (xs.length = n)) (hm : Hid (ys.length = m)) (hz : (n : Int) ≤ 1048576) (w : World) (hA : Arr w A (flat Last.cells xs)) (hB : Arr w B (flat Last.cells ys)) :
    Calls Tryz.prog 10 #[Value.agg #[Value.int IntKind.i64 f.length, Value.int IntKind.i64 f.ball, Value.int IntKind.i64 f.instep, Value.int IntKind.i64 f.heel, Value.slice A n c, Value.string s.upper, Value.string s.color, Value.string s.lining, Value.string s.sole, Value.int IntKind.i64 s.thick, Value.int IntKind.i64 s.heel, Value.int IntKind.i64 s.eyelets, Value.int IntKind.i64 s.density, Value.bool s.double, Value.string lg], Value.agg #[Value.int IntKind.i64 f2.length, Value.int IntKind.i64 f2.ball, Value.int IntKind.i64 f2.instep, Value.int IntKind.i64 f2.heel, Value.slice B m d, Value.string s2.upper, Value.string s2.color, Value.string s2.lining, Value.string s2.sole, Value.int IntKind.i64 s2.thick, Value.int IntKind.i64 s2.heel, Value.int IntKind.i64 s2.eyelets, Value.int IntKind.i64 s2.density, Value.bool s2.double, Value.string lg2]] w (Ret (.bool (f.beq f2 && listBeq Last.beq xs ys && s.beq s2 && decide (lg = lg2))) w) := by
  go_enter Tryz.func10, Tryz.ntmps10
  go_wp2_with fail
  obtain ⟨W, hW⟩ : ∃ W, W = (w.alloc (Obj.cells #[Value.int IntKind.i64 f.length, Value.int IntKind.i64 f.ball, Value.int IntKind.i64 f.instep, Value.int IntKind.i64 f.heel, Value.slice A n c, Value.string s.upper, Value.string s.color, Value.string s.lining, Value.string s.sole, Value.int IntKind.i64 s.thick, Value.int IntKind.i64 s.heel, Value.int IntKind.i64 s.eyelets, Value.int IntKind.i64 s.density, Value.bool s.double, Value.string lg] 35)).alloc (Obj.cells #[Value.int IntKind.i64 f2.length, Value.int IntKind.i64 f2.ball, Value.int IntKind.i64 f2.instep, Value.int IntKind.i64 f2.heel, Value.slice B m d, Value.string s2.upper, Value.string s2.color, Value.string s2.lining, Value.string s2.sole, Value.int IntKind.i64 s2.thick, Value.int IntKind.i64 s2.heel, Value.int IntKind.i64 s2.eyelets, Value.int IntKind.i64 s2.density, Value.bool s2.double, Value.string lg2] 35) := ⟨_, rfl⟩
  obtain ⟨g0, hg0⟩ : ∃ g0, g0 = w.heap.size := ⟨_, rfl⟩
  obtain ⟨g1, hg1⟩ : ∃ g1, g1 = w.heap.size + 1 := ⟨_, rfl⟩
  have hv : Below w.heap.size w W := by rw [hW]; exact bl_alloc (bl_alloc (Below.refl _ _) _) _
  have h0 : Blk W g0 35 #[Value.int IntKind.i64 f.length, Value.int IntKind.i64 f.ball, Value.int IntKind.i64 f.instep, Value.int IntKind.i64 f.heel, Value.slice A n c, Value.string s.upper, Value.string s.color, Value.string s.lining, Value.string s.sole, Value.int IntKind.i64 s.thick, Value.int IntKind.i64 s.heel, Value.int IntKind.i64 s.eyelets, Value.int IntKind.i64 s.density, Value.bool s.double, Value.string lg] := by rw [hW, hg0]; exact (Blk.new _ _ _).alloc _
  have h1 : Blk W g1 35 #[Value.int IntKind.i64 f2.length, Value.int IntKind.i64 f2.ball, Value.int IntKind.i64 f2.instep, Value.int IntKind.i64 f2.heel, Value.slice B m d, Value.string s2.upper, Value.string s2.color, Value.string s2.lining, Value.string s2.sole, Value.int IntKind.i64 s2.thick, Value.int IntKind.i64 s2.heel, Value.int IntKind.i64 s2.eyelets, Value.int IntKind.i64 s2.density, Value.bool s2.double, Value.string lg2] := by rw [hW, hg1]; have h := Blk.new (w.alloc (Obj.cells #[Value.int IntKind.i64 f.length, Value.int IntKind.i64 f.ball, Value.int IntKind.i64 f.instep, Value.int IntKind.i64 f.heel, Value.slice A n c, Value.string s.upper, Value.string s.color, Value.string s.lining, Value.string s.sole, Value.int IntKind.i64 s.thick, Value.int IntKind.i64 s.heel, Value.int IntKind.i64 s.eyelets, Value.int IntKind.i64 s.density, Value.bool s.double, Value.string lg] 35)) 35 #[Value.int IntKind.i64 f2.length, Value.int IntKind.i64 f2.ball, Value.int IntKind.i64 f2.instep, Value.int IntKind.i64 f2.heel, Value.slice B m d, Value.string s2.upper, Value.string s2.color, Value.string s2.lining, Value.string s2.sole, Value.int IntKind.i64 s2.thick, Value.int IntKind.i64 s2.heel, Value.int IntKind.i64 s2.eyelets, Value.int IntKind.i64 s2.density, Value.bool s2.double, Value.string lg2]; simpa using h
  rw [← hW, ← hg1, ← hg0]
  clear hW hg0 hg1
  refine (eqFoot_c f f2 _).mono ?_
  rintro e W ⟨rfl, hb⟩
  replace hv := bl_trans hv hb
  replace h0 := h0.below hb
  replace h1 := h1.below hb
  clear hb
  have k0 : W.cell? ⟨g0, 0, none⟩ = some (Value.int IntKind.i64 f.length) := h0.cell 0
  have k1 : W.cell? ⟨g0, 1, none⟩ = some (Value.int IntKind.i64 f.ball) := h0.cell 1
  have k2 : W.cell? ⟨g0, 2, none⟩ = some (Value.int IntKind.i64 f.instep) := h0.cell 2
  have k3 : W.cell? ⟨g0, 3, none⟩ = some (Value.int IntKind.i64 f.heel) := h0.cell 3
  have k4 : W.cell? ⟨g0, 4, none⟩ = some (Value.slice A n c) := h0.cell 4
  have k5 : W.cell? ⟨g0, 5, none⟩ = some (Value.string s.upper) := h0.cell 5
  have k6 : W.cell? ⟨g0, 6, none⟩ = some (Value.string s.color) := h0.cell 6
  have k7 : W.cell? ⟨g0, 7, none⟩ = some (Value.string s.lining) := h0.cell 7
  have k8 : W.cell? ⟨g0, 8, none⟩ = some (Value.string s.sole) := h0.cell 8
  have k9 : W.cell? ⟨g0, 9, none⟩ = some (Value.int IntKind.i64 s.thick) := h0.cell 9
  have k10 : W.cell? ⟨g0, 10, none⟩ = some (Value.int IntKind.i64 s.heel) := h0.cell 10
  have k11 : W.cell? ⟨g0, 11, none⟩ = some (Value.int IntKind.i64 s.eyelets) := h0.cell 11
  have k12 : W.cell? ⟨g0, 12, none⟩ = some (Value.int IntKind.i64 s.density) := h0.cell 12
  have k13 : W.cell? ⟨g0, 13, none⟩ = some (Value.bool s.double) := h0.cell 13
  have k14 : W.cell? ⟨g0, 14, none⟩ = some (Value.string lg) := h0.cell 14
  have q0 : W.cell? ⟨g1, 0, none⟩ = some (Value.int IntKind.i64 f2.length) := h1.cell 0
  have q1 : W.cell? ⟨g1, 1, none⟩ = some (Value.int IntKind.i64 f2.ball) := h1.cell 1
  have q2 : W.cell? ⟨g1, 2, none⟩ = some (Value.int IntKind.i64 f2.instep) := h1.cell 2
  have q3 : W.cell? ⟨g1, 3, none⟩ = some (Value.int IntKind.i64 f2.heel) := h1.cell 3
  have q4 : W.cell? ⟨g1, 4, none⟩ = some (Value.slice B m d) := h1.cell 4
  have q5 : W.cell? ⟨g1, 5, none⟩ = some (Value.string s2.upper) := h1.cell 5
  have q6 : W.cell? ⟨g1, 6, none⟩ = some (Value.string s2.color) := h1.cell 6
  have q7 : W.cell? ⟨g1, 7, none⟩ = some (Value.string s2.lining) := h1.cell 7
  have q8 : W.cell? ⟨g1, 8, none⟩ = some (Value.string s2.sole) := h1.cell 8
  have q9 : W.cell? ⟨g1, 9, none⟩ = some (Value.int IntKind.i64 s2.thick) := h1.cell 9
  have q10 : W.cell? ⟨g1, 10, none⟩ = some (Value.int IntKind.i64 s2.heel) := h1.cell 10
  have q11 : W.cell? ⟨g1, 11, none⟩ = some (Value.int IntKind.i64 s2.eyelets) := h1.cell 11
  have q12 : W.cell? ⟨g1, 12, none⟩ = some (Value.int IntKind.i64 s2.density) := h1.cell 12
  have q13 : W.cell? ⟨g1, 13, none⟩ = some (Value.bool s2.double) := h1.cell 13
  have q14 : W.cell? ⟨g1, 14, none⟩ = some (Value.string lg2) := h1.cell 14
  cases hf : f.beq f2
  · have HF := Lib.hid hf
    clear hf
    go_wp2_with fail
    go_returns
    exact Ret.mk (vb (by rw [HF.out]; rfl)) hv
  have HF := Lib.hid hf
  clear hf
  go_wp2_with fail
  refine (eqLastS_c A B xs ys n m c d hn hm hz _ (hA.below hv) (hB.below hv)).mono ?_
  rintro e W ⟨rfl, hb⟩
  replace hv := bl_trans hv hb
  replace h0 := h0.below hb
  replace h1 := h1.below hb
  clear hb
  have k0 : W.cell? ⟨g0, 0, none⟩ = some (Value.int IntKind.i64 f.length) := h0.cell 0
  have k1 : W.cell? ⟨g0, 1, none⟩ = some (Value.int IntKind.i64 f.ball) := h0.cell 1
  have k2 : W.cell? ⟨g0, 2, none⟩ = some (Value.int IntKind.i64 f.instep) := h0.cell 2
  have k3 : W.cell? ⟨g0, 3, none⟩ = some (Value.int IntKind.i64 f.heel) := h0.cell 3
  have k4 : W.cell? ⟨g0, 4, none⟩ = some (Value.slice A n c) := h0.cell 4
  have k5 : W.cell? ⟨g0, 5, none⟩ = some (Value.string s.upper) := h0.cell 5
  have k6 : W.cell? ⟨g0, 6, none⟩ = some (Value.string s.color) := h0.cell 6
  have k7 : W.cell? ⟨g0, 7, none⟩ = some (Value.string s.lining) := h0.cell 7
  have k8 : W.cell? ⟨g0, 8, none⟩ = some (Value.string s.sole) := h0.cell 8
  have k9 : W.cell? ⟨g0, 9, none⟩ = some (Value.int IntKind.i64 s.thick) := h0.cell 9
  have k10 : W.cell? ⟨g0, 10, none⟩ = some (Value.int IntKind.i64 s.heel) := h0.cell 10
  have k11 : W.cell? ⟨g0, 11, none⟩ = some (Value.int IntKind.i64 s.eyelets) := h0.cell 11
  have k12 : W.cell? ⟨g0, 12, none⟩ = some (Value.int IntKind.i64 s.density) := h0.cell 12
  have k13 : W.cell? ⟨g0, 13, none⟩ = some (Value.bool s.double) := h0.cell 13
  have k14 : W.cell? ⟨g0, 14, none⟩ = some (Value.string lg) := h0.cell 14
  have q0 : W.cell? ⟨g1, 0, none⟩ = some (Value.int IntKind.i64 f2.length) := h1.cell 0
  have q1 : W.cell? ⟨g1, 1, none⟩ = some (Value.int IntKind.i64 f2.ball) := h1.cell 1
  have q2 : W.cell? ⟨g1, 2, none⟩ = some (Value.int IntKind.i64 f2.instep) := h1.cell 2
  have q3 : W.cell? ⟨g1, 3, none⟩ = some (Value.int IntKind.i64 f2.heel) := h1.cell 3
  have q4 : W.cell? ⟨g1, 4, none⟩ = some (Value.slice B m d) := h1.cell 4
  have q5 : W.cell? ⟨g1, 5, none⟩ = some (Value.string s2.upper) := h1.cell 5
  have q6 : W.cell? ⟨g1, 6, none⟩ = some (Value.string s2.color) := h1.cell 6
  have q7 : W.cell? ⟨g1, 7, none⟩ = some (Value.string s2.lining) := h1.cell 7
  have q8 : W.cell? ⟨g1, 8, none⟩ = some (Value.string s2.sole) := h1.cell 8
  have q9 : W.cell? ⟨g1, 9, none⟩ = some (Value.int IntKind.i64 s2.thick) := h1.cell 9
  have q10 : W.cell? ⟨g1, 10, none⟩ = some (Value.int IntKind.i64 s2.heel) := h1.cell 10
  have q11 : W.cell? ⟨g1, 11, none⟩ = some (Value.int IntKind.i64 s2.eyelets) := h1.cell 11
  have q12 : W.cell? ⟨g1, 12, none⟩ = some (Value.int IntKind.i64 s2.density) := h1.cell 12
  have q13 : W.cell? ⟨g1, 13, none⟩ = some (Value.bool s2.double) := h1.cell 13
  have q14 : W.cell? ⟨g1, 14, none⟩ = some (Value.string lg2) := h1.cell 14
  cases hl : listBeq Last.beq xs ys
  · have HL := Lib.hid hl
    clear hl
    go_wp2_with fail
    go_returns
    exact Ret.mk (vb (by rw [HF.out, HL.out]; rfl)) hv
  have HL := Lib.hid hl
  clear hl
  go_wp2_with fail
  refine (eqStyle_c s s2 _).mono ?_
  rintro e W ⟨rfl, hb⟩
  replace hv := bl_trans hv hb
  replace h0 := h0.below hb
  replace h1 := h1.below hb
  clear hb
  have k0 : W.cell? ⟨g0, 0, none⟩ = some (Value.int IntKind.i64 f.length) := h0.cell 0
  have k1 : W.cell? ⟨g0, 1, none⟩ = some (Value.int IntKind.i64 f.ball) := h0.cell 1
  have k2 : W.cell? ⟨g0, 2, none⟩ = some (Value.int IntKind.i64 f.instep) := h0.cell 2
  have k3 : W.cell? ⟨g0, 3, none⟩ = some (Value.int IntKind.i64 f.heel) := h0.cell 3
  have k4 : W.cell? ⟨g0, 4, none⟩ = some (Value.slice A n c) := h0.cell 4
  have k5 : W.cell? ⟨g0, 5, none⟩ = some (Value.string s.upper) := h0.cell 5
  have k6 : W.cell? ⟨g0, 6, none⟩ = some (Value.string s.color) := h0.cell 6
  have k7 : W.cell? ⟨g0, 7, none⟩ = some (Value.string s.lining) := h0.cell 7
  have k8 : W.cell? ⟨g0, 8, none⟩ = some (Value.string s.sole) := h0.cell 8
  have k9 : W.cell? ⟨g0, 9, none⟩ = some (Value.int IntKind.i64 s.thick) := h0.cell 9
  have k10 : W.cell? ⟨g0, 10, none⟩ = some (Value.int IntKind.i64 s.heel) := h0.cell 10
  have k11 : W.cell? ⟨g0, 11, none⟩ = some (Value.int IntKind.i64 s.eyelets) := h0.cell 11
  have k12 : W.cell? ⟨g0, 12, none⟩ = some (Value.int IntKind.i64 s.density) := h0.cell 12
  have k13 : W.cell? ⟨g0, 13, none⟩ = some (Value.bool s.double) := h0.cell 13
  have k14 : W.cell? ⟨g0, 14, none⟩ = some (Value.string lg) := h0.cell 14
  have q0 : W.cell? ⟨g1, 0, none⟩ = some (Value.int IntKind.i64 f2.length) := h1.cell 0
  have q1 : W.cell? ⟨g1, 1, none⟩ = some (Value.int IntKind.i64 f2.ball) := h1.cell 1
  have q2 : W.cell? ⟨g1, 2, none⟩ = some (Value.int IntKind.i64 f2.instep) := h1.cell 2
  have q3 : W.cell? ⟨g1, 3, none⟩ = some (Value.int IntKind.i64 f2.heel) := h1.cell 3
  have q4 : W.cell? ⟨g1, 4, none⟩ = some (Value.slice B m d) := h1.cell 4
  have q5 : W.cell? ⟨g1, 5, none⟩ = some (Value.string s2.upper) := h1.cell 5
  have q6 : W.cell? ⟨g1, 6, none⟩ = some (Value.string s2.color) := h1.cell 6
  have q7 : W.cell? ⟨g1, 7, none⟩ = some (Value.string s2.lining) := h1.cell 7
  have q8 : W.cell? ⟨g1, 8, none⟩ = some (Value.string s2.sole) := h1.cell 8
  have q9 : W.cell? ⟨g1, 9, none⟩ = some (Value.int IntKind.i64 s2.thick) := h1.cell 9
  have q10 : W.cell? ⟨g1, 10, none⟩ = some (Value.int IntKind.i64 s2.heel) := h1.cell 10
  have q11 : W.cell? ⟨g1, 11, none⟩ = some (Value.int IntKind.i64 s2.eyelets) := h1.cell 11
  have q12 : W.cell? ⟨g1, 12, none⟩ = some (Value.int IntKind.i64 s2.density) := h1.cell 12
  have q13 : W.cell? ⟨g1, 13, none⟩ = some (Value.bool s2.double) := h1.cell 13
  have q14 : W.cell? ⟨g1, 14, none⟩ = some (Value.string lg2) := h1.cell 14
  cases hs : s.beq s2
  · have HS := Lib.hid hs
    clear hs
    go_wp2_with fail
    go_returns
    exact Ret.mk (vb (by rw [HF.out, HL.out, HS.out]; rfl)) hv
  have HS := Lib.hid hs
  clear hs
  by_cases hlg : lg = lg2
  · subst hlg
    have he : (!lg.toList == lg.toList) = false := by simp
    go_wp2_with fail
    go_returns
    exact Ret.mk (vb (by rw [HF.out, HL.out, HS.out]; simp)) hv
  · have he : (!lg.toList == lg2.toList) = true := by rw [bytes_beq]; simp [hlg]
    go_wp2_with fail
    go_returns
    exact Ret.mk (vb (by rw [HF.out, HL.out, HS.out, decide_eq_false hlg]; rfl)) hv

def bCalf : ByteArray := ⟨#[99, 97, 108, 102]⟩
def bBlack : ByteArray := ⟨#[98, 108, 97, 99, 107]⟩
def bLeather : ByteArray := ⟨#[108, 101, 97, 116, 104, 101, 114]⟩
def foot0 : Foot := ⟨2500, 2400, 2500, 3200⟩
def style0 : Style := ⟨bCalf, bBlack, ⟨#[]⟩, bLeather, 40, 0, 0, 0, false⟩
theorem eqDesk0_c (w : World) : Calls Tryz.prog 10 #[(.agg #[Value.int IntKind.i64 2500, Value.int IntKind.i64 2400, Value.int IntKind.i64 2500, Value.int IntKind.i64 3200, Value.slice none 0 0, Value.string bCalf, Value.string bBlack, Value.string ⟨#[]⟩, Value.string bLeather, Value.int IntKind.i64 40, Value.int IntKind.i64 0, Value.int IntKind.i64 0, Value.int IntKind.i64 0, Value.bool false, Value.string ⟨#[]⟩]), (.agg #[Value.int IntKind.i64 2500, Value.int IntKind.i64 2400, Value.int IntKind.i64 2500, Value.int IntKind.i64 3200, Value.slice none 0 0, Value.string bCalf, Value.string bBlack, Value.string ⟨#[]⟩, Value.string bLeather, Value.int IntKind.i64 40, Value.int IntKind.i64 0, Value.int IntKind.i64 0, Value.int IntKind.i64 0, Value.bool false, Value.string ⟨#[]⟩])] w (Ret (.bool true) w) := by
  have h := eqDesk_c foot0 foot0 style0 style0 ⟨#[]⟩ ⟨#[]⟩ none none [] [] 0 0 0 0 (Lib.hid rfl) (Lib.hid rfl) (by omega) w (Arr.nil _ _) (Arr.nil _ _)
  rw [Foot.beq_self, Style.beq_self] at h
  exact h

end Go.Proofs.YtihgjmhhpiobbaaGreatDoor
