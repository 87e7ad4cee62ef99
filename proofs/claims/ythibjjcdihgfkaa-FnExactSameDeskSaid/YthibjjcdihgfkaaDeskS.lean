/- SameDesk, the program's and the reference's. -/
import Derived.Test.YthibjjcdihgfkaaSameL
namespace Go.Proofs.Ythibjjcdihgfkaa
open Go.RowKit

def sameD (f f2 : Foot) (xs ys : List Last) (s s2 : Style) (lg lg2 : ByteArray) : Bool := f.beq f2 && listBeq Last.beq xs ys && s.beq s2 && decide (lg = lg2)
set_option maxRecDepth 100000 in
set_option maxHeartbeats 4000000 in
theorem SameDesk_c (f f2 : Foot) (s s2 : Style) (lg lg2 : ByteArray) (A B : Option Addr) (xs ys : List Last) (n m c d : Nat) (hn : Hid (xs.length = n)) (hm : Hid (ys.length = m)) (hz : (n : Int) ≤ 1048576) (w : World) (hA : Arr w A (flat Last.cells xs)) (hB : Arr w B (flat Last.cells ys)) :
    Calls Try.prog 11 #[Value.agg #[Value.int IntKind.i64 f.length, Value.int IntKind.i64 f.ball, Value.int IntKind.i64 f.instep, Value.int IntKind.i64 f.heel, Value.slice A n c, Value.string s.upper, Value.string s.color, Value.string s.lining, Value.string s.sole, Value.int IntKind.i64 s.thick, Value.int IntKind.i64 s.heel, Value.int IntKind.i64 s.eyelets, Value.int IntKind.i64 s.density, Value.bool s.double, Value.string lg], Value.agg #[Value.int IntKind.i64 f2.length, Value.int IntKind.i64 f2.ball, Value.int IntKind.i64 f2.instep, Value.int IntKind.i64 f2.heel, Value.slice B m d, Value.string s2.upper, Value.string s2.color, Value.string s2.lining, Value.string s2.sole, Value.int IntKind.i64 s2.thick, Value.int IntKind.i64 s2.heel, Value.int IntKind.i64 s2.eyelets, Value.int IntKind.i64 s2.density, Value.bool s2.double, Value.string lg2]] w (Ret (.bool (sameD f f2 xs ys s s2 lg lg2)) w) := by
  have h1 := Foot.run_eql f f2
  have h2 := Style.run_eql s s2
  cases hf : f.beq f2
  · have HF := Lib.hid hf
    rw [hf] at h1
    clear hf
    go_enter Try.func11, Try.ntmps11
    go_wp2_with fail
    go_returns
    exact Ret.mk (vb (by unfold sameD; rw [HF.out]; rfl)) (by go_grown)
  have HF := Lib.hid hf
  rw [hf] at h1
  clear hf
  cases hs : s.beq s2
  · have HS := Lib.hid hs
    rw [hs] at h2
    clear hs
    go_enter Try.func11, Try.ntmps11
    go_wp2_with fail
    go_returns
    exact Ret.mk (vb (by unfold sameD; rw [HS.out, Bool.and_false]; rfl)) (by go_grown)
  have HS := Lib.hid hs
  rw [hs] at h2
  clear hs
  by_cases hlg : lg = lg2
  · have HG := Lib.hid hlg
    have he : (lg.toList == lg2.toList) = true := by rw [hlg]; simp
    clear hlg
    go_enter Try.func11, Try.ntmps11
    go_wp2_with fail
    obtain ⟨W, hW⟩ : ∃ W, W = (w.alloc (Obj.cells #[Value.int IntKind.i64 f.length, Value.int IntKind.i64 f.ball, Value.int IntKind.i64 f.instep, Value.int IntKind.i64 f.heel, Value.slice A n c, Value.string s.upper, Value.string s.color, Value.string s.lining, Value.string s.sole, Value.int IntKind.i64 s.thick, Value.int IntKind.i64 s.heel, Value.int IntKind.i64 s.eyelets, Value.int IntKind.i64 s.density, Value.bool s.double, Value.string lg] 35)).alloc (Obj.cells #[Value.int IntKind.i64 f2.length, Value.int IntKind.i64 f2.ball, Value.int IntKind.i64 f2.instep, Value.int IntKind.i64 f2.heel, Value.slice B m d, Value.string s2.upper, Value.string s2.color, Value.string s2.lining, Value.string s2.sole, Value.int IntKind.i64 s2.thick, Value.int IntKind.i64 s2.heel, Value.int IntKind.i64 s2.eyelets, Value.int IntKind.i64 s2.density, Value.bool s2.double, Value.string lg2] 35) := ⟨_, rfl⟩
    obtain ⟨g0, hg0⟩ : ∃ g0, g0 = w.heap.size := ⟨_, rfl⟩
    obtain ⟨g1, hg1⟩ : ∃ g1, g1 = w.heap.size + 1 := ⟨_, rfl⟩
    have hv : Below w.heap.size w W := by rw [hW]; exact bl_alloc (bl_alloc (Below.refl _ _) _) _
    have h0 : Blk W g0 35 #[Value.int IntKind.i64 f.length, Value.int IntKind.i64 f.ball, Value.int IntKind.i64 f.instep, Value.int IntKind.i64 f.heel, Value.slice A n c, Value.string s.upper, Value.string s.color, Value.string s.lining, Value.string s.sole, Value.int IntKind.i64 s.thick, Value.int IntKind.i64 s.heel, Value.int IntKind.i64 s.eyelets, Value.int IntKind.i64 s.density, Value.bool s.double, Value.string lg] := by rw [hW, hg0]; exact (Blk.new _ _ _).alloc _
    have h1 : Blk W g1 35 #[Value.int IntKind.i64 f2.length, Value.int IntKind.i64 f2.ball, Value.int IntKind.i64 f2.instep, Value.int IntKind.i64 f2.heel, Value.slice B m d, Value.string s2.upper, Value.string s2.color, Value.string s2.lining, Value.string s2.sole, Value.int IntKind.i64 s2.thick, Value.int IntKind.i64 s2.heel, Value.int IntKind.i64 s2.eyelets, Value.int IntKind.i64 s2.density, Value.bool s2.double, Value.string lg2] := by rw [hW, hg1]; have h := Blk.new (w.alloc (Obj.cells #[Value.int IntKind.i64 f.length, Value.int IntKind.i64 f.ball, Value.int IntKind.i64 f.instep, Value.int IntKind.i64 f.heel, Value.slice A n c, Value.string s.upper, Value.string s.color, Value.string s.lining, Value.string s.sole, Value.int IntKind.i64 s.thick, Value.int IntKind.i64 s.heel, Value.int IntKind.i64 s.eyelets, Value.int IntKind.i64 s.density, Value.bool s.double, Value.string lg] 35)) 35 #[Value.int IntKind.i64 f2.length, Value.int IntKind.i64 f2.ball, Value.int IntKind.i64 f2.instep, Value.int IntKind.i64 f2.heel, Value.slice B m d, Value.string s2.upper, Value.string s2.color, Value.string s2.lining, Value.string s2.sole, Value.int IntKind.i64 s2.thick, Value.int IntKind.i64 s2.heel, Value.int IntKind.i64 s2.eyelets, Value.int IntKind.i64 s2.density, Value.bool s2.double, Value.string lg2]; simpa using h
    rw [← hW, ← hg1, ← hg0]
    clear hW hg0 hg1
    refine (equalSlLast_c A B xs ys n m c d hn hm hz _ (hA.below hv) (hB.below hv)).mono ?_
    rintro e W ⟨rfl, hb⟩
    replace hv := bl_trans hv hb
    replace h0 := h0.below hb
    replace h1 := h1.below hb
    clear hb
    cases hl : listBeq Last.beq xs ys
    · have HL := Lib.hid hl
      clear hl
      go_wp2_with fail
      go_returns
      exact Ret.mk (vb (by unfold sameD; rw [HL.out, Bool.and_false]; rfl)) hv
    have HL := Lib.hid hl
    clear hl
    go_wp2_with fail
    go_returns
    exact Ret.mk (vb (by unfold sameD; rw [HF.out, HS.out, HL.out, decide_eq_true HG.out]; rfl)) hv
  · have he : (lg.toList == lg2.toList) = false := by rw [bytes_beq]; simp [hlg]
    go_enter Try.func11, Try.ntmps11
    go_wp2_with fail
    go_returns
    exact Ret.mk (vb (by unfold sameD; rw [decide_eq_false hlg, Bool.and_false])) (by go_grown)

set_option maxRecDepth 100000 in
set_option maxHeartbeats 4000000 in
theorem SSameDesk_c (f f2 : Foot) (s s2 : Style) (lg lg2 : ByteArray) (A B : Option Addr) (xs ys : List Last) (n m c d : Nat) (hn : Hid (xs.length = n)) (hm : Hid (ys.length = m)) (hz : (n : Int) ≤ 1048576) (w : World) (hA : Arr w A (flat Last.cells xs)) (hB : Arr w B (flat Last.cells ys)) :
    Calls Try.prog 9 #[Value.agg #[Value.int IntKind.i64 f.length, Value.int IntKind.i64 f.ball, Value.int IntKind.i64 f.instep, Value.int IntKind.i64 f.heel, Value.slice A n c, Value.string s.upper, Value.string s.color, Value.string s.lining, Value.string s.sole, Value.int IntKind.i64 s.thick, Value.int IntKind.i64 s.heel, Value.int IntKind.i64 s.eyelets, Value.int IntKind.i64 s.density, Value.bool s.double, Value.string lg], Value.agg #[Value.int IntKind.i64 f2.length, Value.int IntKind.i64 f2.ball, Value.int IntKind.i64 f2.instep, Value.int IntKind.i64 f2.heel, Value.slice B m d, Value.string s2.upper, Value.string s2.color, Value.string s2.lining, Value.string s2.sole, Value.int IntKind.i64 s2.thick, Value.int IntKind.i64 s2.heel, Value.int IntKind.i64 s2.eyelets, Value.int IntKind.i64 s2.density, Value.bool s2.double, Value.string lg2]] w (Ret (.bool (sameD f f2 xs ys s s2 lg lg2)) w) := by
  have h1 := Foot.run_eql f f2
  have h2 := Style.run_eql s s2
  cases hf : f.beq f2
  · have HF := Lib.hid hf
    rw [hf] at h1
    clear hf
    go_enter Try.func9, Try.ntmps9
    go_wp2_with fail
    go_returns
    exact Ret.mk (vb (by unfold sameD; rw [HF.out]; rfl)) (by go_grown)
  have HF := Lib.hid hf
  rw [hf] at h1
  clear hf
  go_enter Try.func9, Try.ntmps9
  go_wp2_with fail
  obtain ⟨W, hW⟩ : ∃ W, W = (w.alloc (Obj.cells #[Value.int IntKind.i64 f.length, Value.int IntKind.i64 f.ball, Value.int IntKind.i64 f.instep, Value.int IntKind.i64 f.heel, Value.slice A n c, Value.string s.upper, Value.string s.color, Value.string s.lining, Value.string s.sole, Value.int IntKind.i64 s.thick, Value.int IntKind.i64 s.heel, Value.int IntKind.i64 s.eyelets, Value.int IntKind.i64 s.density, Value.bool s.double, Value.string lg] 35)).alloc (Obj.cells #[Value.int IntKind.i64 f2.length, Value.int IntKind.i64 f2.ball, Value.int IntKind.i64 f2.instep, Value.int IntKind.i64 f2.heel, Value.slice B m d, Value.string s2.upper, Value.string s2.color, Value.string s2.lining, Value.string s2.sole, Value.int IntKind.i64 s2.thick, Value.int IntKind.i64 s2.heel, Value.int IntKind.i64 s2.eyelets, Value.int IntKind.i64 s2.density, Value.bool s2.double, Value.string lg2] 35) := ⟨_, rfl⟩
  obtain ⟨g0, hg0⟩ : ∃ g0, g0 = w.heap.size := ⟨_, rfl⟩
  obtain ⟨g1, hg1⟩ : ∃ g1, g1 = w.heap.size + 1 := ⟨_, rfl⟩
  have hv : Below w.heap.size w W := by rw [hW]; exact bl_alloc (bl_alloc (Below.refl _ _) _) _
  have h0 : Blk W g0 35 #[Value.int IntKind.i64 f.length, Value.int IntKind.i64 f.ball, Value.int IntKind.i64 f.instep, Value.int IntKind.i64 f.heel, Value.slice A n c, Value.string s.upper, Value.string s.color, Value.string s.lining, Value.string s.sole, Value.int IntKind.i64 s.thick, Value.int IntKind.i64 s.heel, Value.int IntKind.i64 s.eyelets, Value.int IntKind.i64 s.density, Value.bool s.double, Value.string lg] := by rw [hW, hg0]; exact (Blk.new _ _ _).alloc _
  have b1 : Blk W g1 35 #[Value.int IntKind.i64 f2.length, Value.int IntKind.i64 f2.ball, Value.int IntKind.i64 f2.instep, Value.int IntKind.i64 f2.heel, Value.slice B m d, Value.string s2.upper, Value.string s2.color, Value.string s2.lining, Value.string s2.sole, Value.int IntKind.i64 s2.thick, Value.int IntKind.i64 s2.heel, Value.int IntKind.i64 s2.eyelets, Value.int IntKind.i64 s2.density, Value.bool s2.double, Value.string lg2] := by rw [hW, hg1]; have h := Blk.new (w.alloc (Obj.cells #[Value.int IntKind.i64 f.length, Value.int IntKind.i64 f.ball, Value.int IntKind.i64 f.instep, Value.int IntKind.i64 f.heel, Value.slice A n c, Value.string s.upper, Value.string s.color, Value.string s.lining, Value.string s.sole, Value.int IntKind.i64 s.thick, Value.int IntKind.i64 s.heel, Value.int IntKind.i64 s.eyelets, Value.int IntKind.i64 s.density, Value.bool s.double, Value.string lg] 35)) 35 #[Value.int IntKind.i64 f2.length, Value.int IntKind.i64 f2.ball, Value.int IntKind.i64 f2.instep, Value.int IntKind.i64 f2.heel, Value.slice B m d, Value.string s2.upper, Value.string s2.color, Value.string s2.lining, Value.string s2.sole, Value.int IntKind.i64 s2.thick, Value.int IntKind.i64 s2.heel, Value.int IntKind.i64 s2.eyelets, Value.int IntKind.i64 s2.density, Value.bool s2.double, Value.string lg2]; simpa using h
  rw [← hW, ← hg1, ← hg0]
  clear hW hg0 hg1
  refine (SSameLasts_c A B xs ys n m c d hn hm hz _ (hA.below hv) (hB.below hv)).mono ?_
  rintro e W ⟨rfl, hb⟩
  replace hv := bl_trans hv hb
  replace h0 := h0.below hb
  replace b1 := b1.below hb
  clear hb
  cases hl : listBeq Last.beq xs ys
  · have HL := Lib.hid hl
    clear hl
    go_wp2_with fail
    go_returns
    exact Ret.mk (vb (by unfold sameD; rw [HL.out, Bool.and_false]; rfl)) hv
  have HL := Lib.hid hl
  clear hl
  have k0 : W.cell? ⟨g0, 0, none⟩ = some (Value.int IntKind.i64 f.length) := h0.cell 0
  have k1 : W.cell? ⟨g0, 1, none⟩ = some (Value.int IntKind.i64 f.ball) := h0.cell 1
  have k2 : W.cell? ⟨g0, 2, none⟩ = some (Value.int IntKind.i64 f.instep) := h0.cell 2
  have k3 : W.cell? ⟨g0, 3, none⟩ = some (Value.int IntKind.i64 f.heel) := h0.cell 3
  have k4 : W.cell? ⟨g0, 4, none⟩ = some (Value.slice A n c) := h0.cell 4
  have k5 : W.cell? ⟨g0, 5, none⟩ = some (Value.string s.upper) := h0.cell 5
  have k6 : W.cell? ⟨g0, 6, none⟩ = some (Value.string s.color) := h0.cell 6
  have k7 : W.cell? ⟨g0, 7, none⟩ = some (Value.string s.lining) := h0.cell 7
  have k8 : W.cell? ⟨g0, 8, none⟩ = some (Value.string s.sole) := h0.cell 8
  have k9 : W.cell? ⟨g0, 9, none⟩ = some (Value.int IntKind.i64 s.thick) := h0.cell 9
  have k10 : W.cell? ⟨g0, 10, none⟩ = some (Value.int IntKind.i64 s.heel) := h0.cell 10
  have k11 : W.cell? ⟨g0, 11, none⟩ = some (Value.int IntKind.i64 s.eyelets) := h0.cell 11
  have k12 : W.cell? ⟨g0, 12, none⟩ = some (Value.int IntKind.i64 s.density) := h0.cell 12
  have k13 : W.cell? ⟨g0, 13, none⟩ = some (Value.bool s.double) := h0.cell 13
  have k14 : W.cell? ⟨g0, 14, none⟩ = some (Value.string lg) := h0.cell 14
  have q0 : W.cell? ⟨g1, 0, none⟩ = some (Value.int IntKind.i64 f2.length) := b1.cell 0
  have q1 : W.cell? ⟨g1, 1, none⟩ = some (Value.int IntKind.i64 f2.ball) := b1.cell 1
  have q2 : W.cell? ⟨g1, 2, none⟩ = some (Value.int IntKind.i64 f2.instep) := b1.cell 2
  have q3 : W.cell? ⟨g1, 3, none⟩ = some (Value.int IntKind.i64 f2.heel) := b1.cell 3
  have q4 : W.cell? ⟨g1, 4, none⟩ = some (Value.slice B m d) := b1.cell 4
  have q5 : W.cell? ⟨g1, 5, none⟩ = some (Value.string s2.upper) := b1.cell 5
  have q6 : W.cell? ⟨g1, 6, none⟩ = some (Value.string s2.color) := b1.cell 6
  have q7 : W.cell? ⟨g1, 7, none⟩ = some (Value.string s2.lining) := b1.cell 7
  have q8 : W.cell? ⟨g1, 8, none⟩ = some (Value.string s2.sole) := b1.cell 8
  have q9 : W.cell? ⟨g1, 9, none⟩ = some (Value.int IntKind.i64 s2.thick) := b1.cell 9
  have q10 : W.cell? ⟨g1, 10, none⟩ = some (Value.int IntKind.i64 s2.heel) := b1.cell 10
  have q11 : W.cell? ⟨g1, 11, none⟩ = some (Value.int IntKind.i64 s2.eyelets) := b1.cell 11
  have q12 : W.cell? ⟨g1, 12, none⟩ = some (Value.int IntKind.i64 s2.density) := b1.cell 12
  have q13 : W.cell? ⟨g1, 13, none⟩ = some (Value.bool s2.double) := b1.cell 13
  have q14 : W.cell? ⟨g1, 14, none⟩ = some (Value.string lg2) := b1.cell 14
  cases hs : s.beq s2
  · have HS := Lib.hid hs
    rw [hs] at h2
    clear hs
    go_wp2_with fail
    go_returns
    exact Ret.mk (vb (by unfold sameD; rw [HS.out, Bool.and_false]; rfl)) hv
  have HS := Lib.hid hs
  rw [hs] at h2
  clear hs
  by_cases hlg : lg = lg2
  · have HG := Lib.hid hlg
    have he : (lg.toList == lg2.toList) = true := by rw [hlg]; simp
    clear hlg
    go_wp2_with fail
    go_returns
    exact Ret.mk (vb (by unfold sameD; rw [HF.out, HL.out, HS.out, decide_eq_true HG.out]; rfl)) hv
  · have he : (lg.toList == lg2.toList) = false := by rw [bytes_beq]; simp [hlg]
    go_wp2_with fail
    go_returns
    exact Ret.mk (vb (by unfold sameD; rw [decide_eq_false hlg, Bool.and_false])) hv

end Go.Proofs.Ythibjjcdihgfkaa
