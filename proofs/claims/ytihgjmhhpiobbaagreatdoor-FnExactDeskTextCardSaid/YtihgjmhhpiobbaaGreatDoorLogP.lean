/- A log as text: what it is, in plain Lean. -/
import Derived.Test.YtihgjmhhpiobbaaGreatDoorStampA
import Derived.Test.YtihgjmhhpiobbaaGreatDoorEntA
import Derived.Lib.AppendStr
import Derived.Test.YtihgjmhhpiobbaaGreatDoorApp
namespace Go.Proofs.YtihgjmhhpiobbaaGreatDoor
open Go.RowKit

def stp (s : Int) (x : Entry) : Int := stampV s (wordsB x)
def lineE (s : Int) (x : Entry) : ByteArray := wordsB x ++ ⟨#[32]⟩ ++ decI s ++ ⟨#[10]⟩
def logGo : List Entry → Int → ByteArray → ByteArray
  | [], _, a => a
  | x :: r, s, a => logGo r (stp s x) (a ++ lineE (stp s x) x)
def upGo : Int → List Entry → Bool
  | _, [] => true
  | d, x :: r => decide (d ≤ x.day) && upGo x.day r
def upB : List Entry → Bool
  | [] => true
  | x :: r => upGo x.day r
def logV (xs : List Entry) : ByteArray := if xs.all entB = true then (if upB xs = true then (if (logGo xs 0 ⟨#[]⟩).size ≤ 4000 then logGo xs 0 ⟨#[]⟩ else ⟨#[]⟩) else ⟨#[]⟩) else ⟨#[]⟩
def logC (xs : List Entry) : Int := if xs.all entB = true then (if upB xs = true then (if (logGo xs 0 ⟨#[]⟩).size ≤ 4000 then 0 else 5) else 6) else 7
theorem stampGo_bd : ∀ (l : List UInt8) (s : Int), 0 ≤ s → s ≤ 65518 → 0 ≤ stampGo l s ∧ stampGo l s ≤ 65518 := by
  intro l
  induction l with
  | nil => intro s h0 h1; exact ⟨h0, h1⟩
  | cons b r ih => intro s h0 h1; exact ih _ (by omega) (by omega)
theorem stp_bd (s : Int) (x : Entry) : 0 ≤ stp s x ∧ stp s x ≤ 65518 := stampGo_bd _ _ (by omega) (by omega)
theorem wordsB_size {x : Entry} (h : entB x = true) : (wordsB x).size ≤ 1100100 := by
  obtain ⟨d0, d1, v0, v1, ws⟩ := entB_bd h
  have sa := decI_size x.day
  have sb := decI_size x.value
  unfold wordsB
  rw [ByteArray.size_append', ByteArray.size_append', ByteArray.size_append', ByteArray.size_append', show (ByteArray.mk #[32]).size = 1 from rfl]
  omega
theorem lineE_size {x : Entry} (h : entB x = true) (s : Int) (h0 : 0 ≤ s) (h1 : s ≤ 65518) : (lineE s x).size ≤ 1200000 := by
  have a := wordsB_size h
  have b := decI_size s
  unfold lineE
  rw [ByteArray.size_append', ByteArray.size_append', ByteArray.size_append', show (ByteArray.mk #[32]).size = 1 from rfl, show (ByteArray.mk #[10]).size = 1 from rfl]
  omega
theorem logGo_ge : ∀ (xs : List Entry) (s : Int) (a : ByteArray), a.size ≤ (logGo xs s a).size := by
  intro xs
  induction xs with
  | nil => intro s a; exact Nat.le_refl _
  | cons x r ih =>
    intro s a
    have h := ih (stp s x) (a ++ lineE (stp s x) x)
    rw [ByteArray.size_append'] at h
    simp only [logGo]
    omega
theorem logGo_le : ∀ (xs : List Entry) (s : Int) (a : ByteArray), (∀ x ∈ xs, entB x = true) → (logGo xs s a).size ≤ a.size + xs.length * 1200000 := by
  intro xs
  induction xs with
  | nil => intro s a _; simp [logGo]
  | cons x r ih =>
    intro s a h
    have h1 := ih (stp s x) (a ++ lineE (stp s x) x) (fun y hy => h y (List.mem_cons_of_mem _ hy))
    have hb := stp_bd s x
    have h2 := lineE_size (h x (List.mem_cons_self ..)) (stp s x) hb.1 hb.2
    rw [ByteArray.size_append'] at h1
    simp only [logGo, List.length_cons]
    omega
theorem logGo_at {xs : List Entry} {k : Nat} {x : Entry} (h : xs[k]? = some x) (s : Int) (a : ByteArray) : logGo (xs.drop k) s a = logGo (xs.drop (k + 1)) (stp s x) (a ++ lineE (stp s x) x) := by
  rw [drop_at h]; rfl
theorem up_at {xs : List Entry} {k : Nat} {y x : Entry} (hy : xs[k]? = some y) (hx : xs[k + 1]? = some x) : upB (xs.drop k) = (decide (y.day ≤ x.day) && upB (xs.drop (k + 1))) := by
  rw [drop_at hy, drop_at hx]; rfl
theorem up_end {xs : List Entry} {k : Nat} (h : xs.length ≤ k + 1) : upB (xs.drop k) = true := by
  have h1 : (xs.drop k).length ≤ 1 := by simp; omega
  match hq : xs.drop k, h1 with
  | [], _ => rfl
  | [x], _ => rfl
theorem all_ent {xs : List Entry} (h : xs.all entB = true) {k : Nat} {x : Entry} (hx : xs[k]? = some x) : entB x = true := List.all_eq_true.1 h x (List.mem_of_getElem? hx)
theorem strCells_append (a b : ByteArray) : Lib.strCells a ++ Lib.strCells b = Lib.strCells (a ++ b) := by
  unfold Lib.strCells
  rw [← List.map_append]
  congr 1
theorem run_bytes_own {P : Program} (src dst e : TypeId) (hs : P.underlying src = some (.slice e)) (he : P.underlying e = some (.int .u8)) (hd : P.underlying dst = some .string) (W : World) {base : Nat} {A : Option Addr} {m c : Nat} {B : ByteArray}
    (hown : W.ownsRow base e 1 (.slice A m c) m (Lib.strCells B)) (hm : m = B.size) : (convert src dst (.slice A m c)).run P W = .ok (.string B) W := by
  by_cases h0 : 0 < m
  · obtain ⟨g, rfl⟩ := own_addr hown h0
    have h := run_bytes (P := P) src dst e hs he hd W ⟨g, 0, none⟩ c B.data.toList (Arr.own hown) (by rw [bytes_len]; omega)
    rw [bytes_len, ← hm] at h
    exact h
  · have hB : B = ⟨#[]⟩ := by
      have : B.data.toList = [] := List.eq_nil_of_length_eq_zero (by rw [bytes_len]; omega)
      cases B with
      | mk d => cases d with
        | mk q => simp at this; subst this; rfl
    have hm0 : m = 0 := by omega
    subst hm0
    rw [run_convert_bytes_string _ _ _ _ _ _ _ hs he hd, hB]
    cases A with
    | none => rfl
    | some ad =>
      rw [run_bytesToString W ad 0 c [] (by simpa using run_loadCells_list (P := P) (w := W) ad [] (by intro j v hv; simp at hv))]
      rfl
end Go.Proofs.YtihgjmhhpiobbaaGreatDoor
