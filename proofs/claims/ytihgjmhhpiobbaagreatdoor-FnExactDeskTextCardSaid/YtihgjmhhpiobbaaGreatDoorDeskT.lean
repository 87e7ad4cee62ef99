/- The console's state: its size, and the copy that the laws make of it. -/
import Derived.Test.YtihgjmhhpiobbaaGreatDoorDeskS
import Derived.Laws.ResultCell
namespace Go.Proofs.YtihgjmhhpiobbaaGreatDoor
open Go.RowKit

/-- what a state's size leaves -/
def OutZ (n : Nat) (left : Int) (w : World) (e : Ending) (w' : World) : Prop := ∃ q : Int, e = .returned (.int .i64 q) ∧ q ≤ left ∧ (0 ≤ q → (n : Int) ≤ 1048576) ∧ Below w.heap.size w w'
set_option maxRecDepth 100000 in
set_option maxHeartbeats 2000000 in
theorem szDesk_c (f : Foot) (s : Style) (lg : ByteArray) (A : Option Addr) (xs : List Last) (n c : Nat) (left : Int) (hn : Hid (xs.length = n)) (hm : n ≤ 9223372036854775807) (hs : Hid (∀ x ∈ xs, x.name.size ≤ 9223372036854775807)) (hs0 : s.upper.size ≤ 9223372036854775807) (hs1 : s.color.size ≤ 9223372036854775807) (hs2 : s.lining.size ≤ 9223372036854775807) (hs3 : s.sole.size ≤ 9223372036854775807) (hlg : lg.size ≤ 9223372036854775807) (h0 : 0 ≤ left) (hl : left ≤ 1048576) (w : World) (hA : Arr w A (flat Last.cells xs)) :
    Calls Tryz.prog 6 #[Value.agg #[Value.int IntKind.i64 f.length, Value.int IntKind.i64 f.ball, Value.int IntKind.i64 f.instep, Value.int IntKind.i64 f.heel, Value.slice A n c, Value.string s.upper, Value.string s.color, Value.string s.lining, Value.string s.sole, Value.int IntKind.i64 s.thick, Value.int IntKind.i64 s.heel, Value.int IntKind.i64 s.eyelets, Value.int IntKind.i64 s.density, Value.bool s.double, Value.string lg], .int .i64 left] w (OutZ n left w) := by
  have hle := szS_le Last.sizes xs left h0
  go_enter Tryz.func6, Tryz.ntmps6
  go_wp2_with fail
  obtain ⟨W, hW⟩ : ∃ W, W = w.alloc (Obj.cells #[Value.int IntKind.i64 f.length, Value.int IntKind.i64 f.ball, Value.int IntKind.i64 f.instep, Value.int IntKind.i64 f.heel, Value.slice A n c, Value.string s.upper, Value.string s.color, Value.string s.lining, Value.string s.sole, Value.int IntKind.i64 s.thick, Value.int IntKind.i64 s.heel, Value.int IntKind.i64 s.eyelets, Value.int IntKind.i64 s.density, Value.bool s.double, Value.string lg] 28) := ⟨_, rfl⟩
  obtain ⟨g0, hg0⟩ : ∃ g0, g0 = w.heap.size := ⟨_, rfl⟩
  have hv : Below w.heap.size w W := by rw [hW]; exact bl_alloc (Below.refl _ _) _
  have b0 : Blk W g0 28 #[Value.int IntKind.i64 f.length, Value.int IntKind.i64 f.ball, Value.int IntKind.i64 f.instep, Value.int IntKind.i64 f.heel, Value.slice A n c, Value.string s.upper, Value.string s.color, Value.string s.lining, Value.string s.sole, Value.int IntKind.i64 s.thick, Value.int IntKind.i64 s.heel, Value.int IntKind.i64 s.eyelets, Value.int IntKind.i64 s.density, Value.bool s.double, Value.string lg] := by rw [hW, hg0]; exact Blk.new _ _ _
  rw [← hW, ← hg0]
  clear hW hg0
  refine (szLastS_c A xs n c left hn hm hs h0 hl _ (hA.below hv)).mono ?_
  rintro e W ⟨rfl, hb⟩
  replace hv := bl_trans hv hb
  replace b0 := b0.below hb
  clear hb
  have k0 : W.cell? ⟨g0, 0, none⟩ = some (Value.int IntKind.i64 f.length) := b0.cell 0
  have k1 : W.cell? ⟨g0, 1, none⟩ = some (Value.int IntKind.i64 f.ball) := b0.cell 1
  have k2 : W.cell? ⟨g0, 2, none⟩ = some (Value.int IntKind.i64 f.instep) := b0.cell 2
  have k3 : W.cell? ⟨g0, 3, none⟩ = some (Value.int IntKind.i64 f.heel) := b0.cell 3
  have k4 : W.cell? ⟨g0, 4, none⟩ = some (Value.slice A n c) := b0.cell 4
  have k5 : W.cell? ⟨g0, 5, none⟩ = some (Value.string s.upper) := b0.cell 5
  have k6 : W.cell? ⟨g0, 6, none⟩ = some (Value.string s.color) := b0.cell 6
  have k7 : W.cell? ⟨g0, 7, none⟩ = some (Value.string s.lining) := b0.cell 7
  have k8 : W.cell? ⟨g0, 8, none⟩ = some (Value.string s.sole) := b0.cell 8
  have k9 : W.cell? ⟨g0, 9, none⟩ = some (Value.int IntKind.i64 s.thick) := b0.cell 9
  have k10 : W.cell? ⟨g0, 10, none⟩ = some (Value.int IntKind.i64 s.heel) := b0.cell 10
  have k11 : W.cell? ⟨g0, 11, none⟩ = some (Value.int IntKind.i64 s.eyelets) := b0.cell 11
  have k12 : W.cell? ⟨g0, 12, none⟩ = some (Value.int IntKind.i64 s.density) := b0.cell 12
  have k13 : W.cell? ⟨g0, 13, none⟩ = some (Value.bool s.double) := b0.cell 13
  have k14 : W.cell? ⟨g0, 14, none⟩ = some (Value.string lg) := b0.cell 14
  have hlen := Lib.hid (fun h => szS_len (f := Last.sizes) (xs := xs) (l := left) h hl)
  obtain ⟨q, hq'⟩ : ∃ q, q = szS Last.sizes xs left := ⟨_, rfl⟩
  rw [← hq'] at hle hlen ⊢
  clear hq'
  by_cases hq : q < 0
  · go_wp2_with fail
    go_returns
    exact ⟨-1, rfl, by omega, by omega, hv⟩
  have hz : (n : Int) ≤ 1048576 := by rw [← hn.out]; exact hlen.out (by omega)
  have hle2 := szGo_le s.sizes q (by omega)
  go_wp2_with fail
  clear k0 k1 k2 k3 k4 k5 k6 k7 k8 k9 k10 k11 k12 k13 k14
  refine (szStyle_c s q hs0 hs1 hs2 hs3 (by omega) (by omega) _).mono ?_
  rintro e W ⟨rfl, hb⟩
  replace hv := bl_trans hv hb
  replace b0 := b0.below hb
  clear hb
  have k0 : W.cell? ⟨g0, 0, none⟩ = some (Value.int IntKind.i64 f.length) := b0.cell 0
  have k1 : W.cell? ⟨g0, 1, none⟩ = some (Value.int IntKind.i64 f.ball) := b0.cell 1
  have k2 : W.cell? ⟨g0, 2, none⟩ = some (Value.int IntKind.i64 f.instep) := b0.cell 2
  have k3 : W.cell? ⟨g0, 3, none⟩ = some (Value.int IntKind.i64 f.heel) := b0.cell 3
  have k4 : W.cell? ⟨g0, 4, none⟩ = some (Value.slice A n c) := b0.cell 4
  have k5 : W.cell? ⟨g0, 5, none⟩ = some (Value.string s.upper) := b0.cell 5
  have k6 : W.cell? ⟨g0, 6, none⟩ = some (Value.string s.color) := b0.cell 6
  have k7 : W.cell? ⟨g0, 7, none⟩ = some (Value.string s.lining) := b0.cell 7
  have k8 : W.cell? ⟨g0, 8, none⟩ = some (Value.string s.sole) := b0.cell 8
  have k9 : W.cell? ⟨g0, 9, none⟩ = some (Value.int IntKind.i64 s.thick) := b0.cell 9
  have k10 : W.cell? ⟨g0, 10, none⟩ = some (Value.int IntKind.i64 s.heel) := b0.cell 10
  have k11 : W.cell? ⟨g0, 11, none⟩ = some (Value.int IntKind.i64 s.eyelets) := b0.cell 11
  have k12 : W.cell? ⟨g0, 12, none⟩ = some (Value.int IntKind.i64 s.density) := b0.cell 12
  have k13 : W.cell? ⟨g0, 13, none⟩ = some (Value.bool s.double) := b0.cell 13
  have k14 : W.cell? ⟨g0, 14, none⟩ = some (Value.string lg) := b0.cell 14
  obtain ⟨r, hr'⟩ : ∃ r, r = szGo s.sizes q := ⟨_, rfl⟩
  rw [← hr'] at hle2 ⊢
  clear hr'
  by_cases hr : r < 0
  · go_wp2_with fail
    go_returns
    exact ⟨-1, rfl, by omega, by omega, hv⟩
  by_cases ht : r - (lg.size : Int) < 0
  · go_wp2_with fail
    go_returns
    exact ⟨-1, rfl, by omega, by omega, hv⟩
  · go_wp2_with fail
    go_returns
    exact ⟨_, rfl, by omega, fun _ => hz, hv⟩

end Go.Proofs.YtihgjmhhpiobbaaGreatDoor
