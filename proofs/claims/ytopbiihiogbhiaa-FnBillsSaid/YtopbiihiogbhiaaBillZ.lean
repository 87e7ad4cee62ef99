
/- Bills: refunds, deposits, percentages: the program's and the reference's functions. -/
import Derived.Test.YtopbiihiogbhiaaBillY
namespace Go.Proofs.Ytopbiihiogbhiaa
open Go.RowKit

def bCode (xs : List Item) (o t p k lo hi : Int) : Int := if billB xs o t p = true then (if inB k lo hi = true then 0 else 2) else 1
set_option maxRecDepth 100000 in
set_option maxHeartbeats 1600000 in
theorem billCode_c (A : Option Addr) (xs : List Item) (n c : Nat) (o t p : Int) (hn : Hid (xs.length = n)) (k lo hi : Int) (hm : (n : Int) ≤ 1048576) (hs : Hid (∀ x ∈ xs, x.name.size ≤ 9223372036854775807)) (w : World) (hA : Arr w A (flat Item.cells xs)) : Calls Try.prog 78 #[.agg #[.slice A n c, .int .i64 o, .int .i64 t, .int .i64 p], .int .i64 k, .int .i64 lo, .int .i64 hi] w (Ret (.int .i64 (bCode xs o t p k lo hi)) w) := by
  go_enter Try.func78, Try.ntmps78
  go_wp2_with fail
  obtain ⟨w0, hw0⟩ : ∃ w0, w0 = w.alloc (Obj.cells #[Value.slice A n c, Value.int IntKind.i64 o, Value.int IntKind.i64 t, Value.int IntKind.i64 p] 49) := ⟨_, rfl⟩
  obtain ⟨g, hg⟩ : ∃ g, g = w.heap.size := ⟨_, rfl⟩
  have hv : Below w.heap.size w w0 := by rw [hw0]; exact bl_alloc (Below.refl _ _) _
  have hB : Blk w0 g 49 #[Value.slice A n c, Value.int IntKind.i64 o, Value.int IntKind.i64 t, Value.int IntKind.i64 p] := by rw [hw0, hg]; exact Blk.new _ _ _
  rw [← hw0, ← hg]
  clear hw0
  have HG := Lib.hid hg
  clear hg
  have k0 : w0.cell? ⟨g, 0, none⟩ = some (.slice A n c) := hB.cell 0
  have k1 : w0.cell? ⟨g, 1, none⟩ = some (.int .i64 o) := hB.cell 1
  have k2 : w0.cell? ⟨g, 2, none⟩ = some (.int .i64 t) := hB.cell 2
  have k3 : w0.cell? ⟨g, 3, none⟩ = some (.int .i64 p) := hB.cell 3
  refine (validBill_c A xs n c o t p hn hm hs _ (hA.below hv)).mono ?_
  rintro e W ⟨rfl, hb⟩
  replace hv := bl_trans hv hb
  replace hB := hB.below hb
  have k0 : W.cell? ⟨g, 0, none⟩ = some (.slice A n c) := hB.cell 0
  have k1 : W.cell? ⟨g, 1, none⟩ = some (.int .i64 o) := hB.cell 1
  have k2 : W.cell? ⟨g, 2, none⟩ = some (.int .i64 t) := hB.cell 2
  have k3 : W.cell? ⟨g, 3, none⟩ = some (.int .i64 p) := hB.cell 3
  rcases bill_cases xs o t p with HB | ⟨HB, _⟩
  · rw [HB.out]
    go_wp2_with fail
    go_returns
    exact Ret.mk (vi (by rw [bCode, HB.out]; rfl)) hv
  · rw [HB.out]
    cases hk : inB k lo hi
    · go_wp2_with (go_at_call 55; refine (within_c _ _ _ _).mono ?_; rintro e w' ⟨rfl, rfl⟩)
      go_returns
      exact Ret.mk (vi (by rw [bCode, HB.out, hk]; rfl)) hv
    · go_wp2_with (go_at_call 55; refine (within_c _ _ _ _).mono ?_; rintro e w' ⟨rfl, rfl⟩)
      go_returns
      exact Ret.mk (vi (by rw [bCode, HB.out, hk]; rfl)) hv

def rRefund (xs : List Item) (o t p m g : Int) : Array Value :=
  if billB xs o t p = true then (if inB m 0 1000 = true then (if inB g 1 120 = true then #[.int .i64 (p * max (g - m) 0 / g), .int .i64 0] else #[.int .i64 0, .int .i64 2]) else #[.int .i64 0, .int .i64 2]) else #[.int .i64 0, .int .i64 1]
theorem refund_bd {p a : Int} (h0 : 0 ≤ p) (h1 : p ≤ 40000000000) (h2 : 0 ≤ a) (h3 : a ≤ 120) : 0 ≤ p * a ∧ p * a ≤ 4800000000000 := by
  have := mul_bd h0 h1 h2 h3; omega
def depo (T per st : Int) : Int := min ((T * per + 100 * st - 1) / (100 * st) * st) T
def rDepo (xs : List Item) (o t p per st : Int) : Array Value :=
  if billB xs o t p = true then (if inB per 0 100 = true then (if inB st 1 100000 = true then #[.int .i64 (depo (totOf (sumGo xs 0) o t) per st), .int .i64 0] else #[.int .i64 0, .int .i64 2]) else #[.int .i64 0, .int .i64 2]) else #[.int .i64 0, .int .i64 1]
theorem depo_bd {T per st : Int} (h0 : 0 ≤ T) (h1 : T ≤ 40000000000) (h2 : 0 ≤ per) (h3 : per ≤ 100) (h4 : 1 ≤ st) (h5 : st ≤ 100000) :
    0 ≤ T * per ∧ T * per ≤ 4000000000000 ∧ 0 ≤ (T * per + 100 * st - 1) / (100 * st) ∧ (T * per + 100 * st - 1) / (100 * st) ≤ 4000010000000 ∧ 0 ≤ (T * per + 100 * st - 1) / (100 * st) * st ∧ (T * per + 100 * st - 1) / (100 * st) * st ≤ 4000010000000 := by
  obtain ⟨a0, a1⟩ := mul_bd h0 h1 h2 h3
  have b0 : 0 ≤ (T * per + 100 * st - 1) / (100 * st) := Int.ediv_nonneg (by omega) (by omega)
  have b1 : (T * per + 100 * st - 1) / (100 * st) * (100 * st) ≤ T * per + 100 * st - 1 := Int.ediv_mul_le _ (by omega)
  have b2 : 0 ≤ (T * per + 100 * st - 1) / (100 * st) * st := Int.mul_nonneg b0 (by omega)
  have b3 : (T * per + 100 * st - 1) / (100 * st) * (100 * st) = 100 * ((T * per + 100 * st - 1) / (100 * st) * st) := by rw [Int.mul_left_comm]
  have b4 : (T * per + 100 * st - 1) / (100 * st) * 1 ≤ (T * per + 100 * st - 1) / (100 * st) * st := Int.mul_le_mul_of_nonneg_left h4 b0
  generalize (T * per + 100 * st - 1) / (100 * st) = q at *
  generalize q * st = r at *
  refine ⟨a0, by omega, b0, by omega, b2, by omega⟩
end Go.Proofs.Ytopbiihiogbhiaa
