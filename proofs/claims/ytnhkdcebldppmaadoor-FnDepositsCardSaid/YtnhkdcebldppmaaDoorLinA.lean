/- The lines of a bill: what they are, and the program's BillLines. -/
import Derived.Test.YtnhkdcebldppmaaDoorStampA
import Derived.Test.YtnhkdcebldppmaaDoorBillY
import Derived.Test.YtnhkdcebldppmaaDoorApp
namespace Go.Proofs.YtnhkdcebldppmaaDoor
open Go.RowKit

def lineB (x : Item) : ByteArray := x.name ++ ⟨#[32]⟩ ++ decI x.many ++ ⟨#[32, 120, 32]⟩ ++ moneyB x.cents ++ ⟨#[32, 61, 32]⟩ ++ moneyB (x.many * x.cents)
def lastB (a b c : Int) : ByteArray := ⟨#[116, 111, 116, 97, 108, 32]⟩ ++ moneyB a ++ ⟨#[32, 116, 97, 120, 32]⟩ ++ moneyB b ++ ⟨#[32, 108, 101, 102, 116, 32]⟩ ++ moneyB c
def linesB (xs : List Item) (o t p : Int) : List ByteArray := if billB xs o t p = true then xs.map lineB ++ [lastB (totOf (sumGo xs 0) o t) (taxOf (sumGo xs 0) o t) (totOf (sumGo xs 0) o t - p)] else []
def cLines (xs : List Item) (o t p : Int) : Int := if billB xs o t p = true then 0 else 1
theorem moneyB_size (n : Int) : (moneyB n).size ≤ 1000000100 := by
  unfold moneyB
  split
  case isTrue h =>
    have h1 := inB_iff.1 h
    have a := decB_size (n.toNat / 100)
    have b := decB_size (n.toNat / 10 % 10)
    have d := decB_size (n.toNat % 10)
    unfold mB
    simp only [ByteArray.size_append', show (ByteArray.mk #[46]).size = 1 from rfl]
    omega
  case isFalse => exact (by decide : (ByteArray.mk #[]).size ≤ 1000000100)
theorem few_item {xs : List Item} (h : fewOk xs) {k : Nat} {x : Item} (hx : xs[k]? = some x) : 0 ≤ x.many ∧ x.many ≤ 1000 ∧ 0 ≤ x.cents ∧ x.cents ≤ 1000000 := h.2 x (List.mem_of_getElem? hx)
theorem bill_names {xs : List Item} {o t p : Int} (h : billB xs o t p = true) {k : Nat} {x : Item} (hx : xs[k]? = some x) : x.name.size ≤ 12 := by
  simp only [billB, Bool.and_eq_true, List.all_eq_true] at h
  have h1 := h.1.2 x (List.mem_of_getElem? hx)
  simp only [itemOk, Bool.and_eq_true] at h1
  have h2 := h1.1.1
  simp only [nameB, nameL, Bool.and_eq_true, decide_eq_true_eq, bytes_len] at h2
  omega
theorem lines_step {xs : List Item} {k : Nat} {x : Item} (hx : xs[k]? = some x) : flat scell ((xs.map lineB).take (k + 1)) = flat scell ((xs.map lineB).take k) ++ [Value.string (lineB x)] := by
  rw [take_at (by rw [List.getElem?_map, hx]; rfl : (xs.map lineB)[k]? = some (lineB x)), flat_append]
  simp [flat, scell]
theorem info_str' : (Tryd.prog.info? 9).map (fun i => (i.zero, i.size, i.bytes)) = some (some (.string ByteArray.empty), 1, 16) := by kernel_rfl
theorem app_op {P : Program} {o : Oper} {a : Act} {K : Act → World → Prop} {Q : Exit → Act → World → Prop} (w : World) (s x : Operand) (t e : TypeId)
    (ho : o.op = .call { callee := .builtin .append, args := #[s, x], argTypes := #[t, t] })
    (i : TypeInfo) (z : Value) (bytes : Nat) (ht : P.underlying t = some (.slice e)) (hi : P.info? e = some i) (hz : i.zero = some z)
    (hsize : i.size = 1) (hby : i.bytes = bytes) (hzs : z.cells.size = 1)
    (base : Nat) (v : Value) (n : Nat) (cs : List Value) (hs : a.eval s = v) (gx : Nat) (u : Value) (hx : a.eval x = .slice (some ⟨gx, 0, none⟩) 1 1) (hB : Blk w gx e #[u]) (hown : w.ownsRow base e 1 v n cs)
    (h1 : u.oneCell' = true) (h63 : n + 1 ≤ maxLen) (hbytes : (n + 1) * bytes ≤ 140737488355328) (hbase : base ≤ w.heap.size)
    (h : ∀ A c w', w'.ownsRow base e 1 (.slice A (n + 1) c) (n + 1) (cs ++ [u]) → w.grownBy w' v.ownBlock → K (a.put o.dst (.slice A (n + 1) c)) w') : o.wp P a w K Q := by
  refine wp_append_own w s x t ho base e i z 1 bytes ht hi hz hsize hby hzs (by omega) v n cs hs hown ⟨gx, 0, none⟩ 1 1 [u] hx (by simp) ?_ (by simpa using h1) h63 hbytes hbase ?_
  · intro j y hy
    match j, hy with
    | 0, hy =>
      obtain rfl := Option.some.inj hy
      exact hB.cell 0
    | j + 1, hy => simp at hy
  · intro v' w' hown' hg _
    obtain ⟨A, c, rfl, _, _⟩ := own_form hown'
    exact h A c w' hown' hg
end Go.Proofs.YtnhkdcebldppmaaDoor
