/- The prices of a bill's items: what they are. -/
import Derived.Test.YtopbiihiogbhiaaBillY
import Derived.Test.YtopbiihiogbhiaaAppO
import Derived.Test.YtopbiihiogbhiaaShareS
namespace Go.Proofs.Ytopbiihiogbhiaa
open Go.RowKit

def shV (T P S : Int) : Int := ((T.toNat * P.toNat / S.toNat : Nat) : Int)
def psum (xs : List Item) (k : Nat) : Int := sumGo (xs.take k) 0
def prF (xs : List Item) (T S : Int) (k : Nat) : Int := shV T (psum xs (k + 1)) S - shV T (psum xs k) S
def prL (xs : List Item) (T S : Int) : List Int := (List.range xs.length).map (prF xs T S)
def iPrice (xs : List Item) (o t p : Int) : List Int := if billB xs o t p = true then (if sumGo xs 0 = 0 then [] else prL xs (totOf (sumGo xs 0) o t) (sumGo xs 0)) else []
def cPrice (xs : List Item) (o t p : Int) : Int := if billB xs o t p = true then (if sumGo xs 0 = 0 then 6 else 0) else 1
theorem info_int64' : (Try.prog.info? 2).map (fun i => (i.zero, i.size, i.bytes)) = some (some (.int .i64 0), 1, 8) := by kernel_rfl
theorem prL_length (xs : List Item) (T S : Int) : (prL xs T S).length = xs.length := by simp [prL]
theorem pr_step (xs : List Item) (T S : Int) (k : Nat) (h : k < xs.length) : flat icell ((prL xs T S).take (k + 1)) = flat icell ((prL xs T S).take k) ++ [Value.int .i64 (prF xs T S k)] := by
  unfold prL
  rw [← List.map_take, ← List.map_take, range_take_succ _ _ h, List.map_append]
  simp [flat, icell]
theorem sumGo_add : ∀ (xs : List Item) (a : Int), sumGo xs a = a + sumGo xs 0 := by
  intro xs
  induction xs with
  | nil => intro a; simp [sumGo]
  | cons x r ih =>
    intro a
    simp only [sumGo]
    rw [ih (a + x.many * x.cents), ih (0 + x.many * x.cents)]
    omega
theorem sumGo_append : ∀ (xs ys : List Item) (a : Int), sumGo (xs ++ ys) a = sumGo ys (sumGo xs a)
  | [], _, _ => rfl
  | x :: xs, ys, a => by simp only [List.cons_append, sumGo]; exact sumGo_append xs ys _
theorem psum_step {xs : List Item} {k : Nat} {x : Item} (h : xs[k]? = some x) : psum xs (k + 1) = psum xs k + x.many * x.cents := by
  unfold psum
  rw [take_at h, sumGo_append]
  rfl
theorem psum_bd {xs : List Item} (h : fewOk xs) (k : Nat) : 0 ≤ psum xs k ∧ psum xs k ≤ sumGo xs 0 := by
  have h1 := sumGo_bd (xs.take k) 0 (by omega) (fun x hx => h.2 x (List.mem_of_mem_take hx))
  have h2 := sumGo_bd (xs.drop k) (sumGo (xs.take k) 0) h1.1 (fun x hx => h.2 x (List.mem_of_mem_drop hx))
  rw [← sumGo_append, List.take_append_drop] at h2
  exact ⟨h1.1, h2.1⟩
theorem few_item {xs : List Item} (h : fewOk xs) {k : Nat} {x : Item} (hx : xs[k]? = some x) : 0 ≤ x.many ∧ x.many ≤ 1000 ∧ 0 ≤ x.cents ∧ x.cents ≤ 1000000 := h.2 x (List.mem_of_getElem? hx)
theorem shV_bd {T P S : Int} (hT : 0 ≤ T) (hS : 0 < S) (hP : P ≤ S) : 0 ≤ shV T P S ∧ shV T P S ≤ T := by
  have h := share_le (T := T.toNat) (P := P.toNat) (S := S.toNat) (by omega) (by omega)
  unfold shV
  generalize T.toNat * P.toNat / S.toNat = q at h ⊢
  omega
theorem shV_zero (T S : Int) : shV T 0 S = 0 := by simp [shV]
theorem shareI_c (T P S : Int) (hT : 0 ≤ T) (hT1 : T ≤ 40000000000) (hS : 0 < S) (hS1 : S ≤ 20000000000) (h0 : 0 ≤ P) (hP : P ≤ S) (w : World) : Calls Try.prog 85 #[.int .i64 T, .int .i64 P, .int .i64 S] w (Ret (.int .i64 (shV T P S)) w) := by
  have h := share_c T.toNat P.toNat S.toNat (by omega) (by omega) (by omega) (by omega) w
  rwa [Int.toNat_of_nonneg hT, Int.toNat_of_nonneg h0, Int.toNat_of_nonneg (Int.le_of_lt hS)] at h
theorem SShareI_c (T P S : Int) (hT : 0 ≤ T) (hT1 : T ≤ 40000000000) (hS : 0 < S) (hS1 : S ≤ 20000000000) (h0 : 0 ≤ P) (hP : P ≤ S) (w : World) : Calls Try.prog 88 #[.int .i64 T, .int .i64 P, .int .i64 S] w (Ret (.int .i64 (shV T P S)) w) := by
  have h := SShare_c T.toNat P.toNat S.toNat (by omega) (by omega) (by omega) (by omega) w
  rwa [Int.toNat_of_nonneg hT, Int.toNat_of_nonneg h0, Int.toNat_of_nonneg (Int.le_of_lt hS)] at h
theorem OutL.nil' {E size : Nat} {l : List Int} {code code' : Int} {w w' : World} (hl : l = []) (hc : code' = code) (hb : Below w.heap.size w w') : OutL E size l.length (flat icell l) code' w (.returned (.tuple #[.slice none 0 0, .int .i64 code])) w' := by
  subst hl; subst hc; exact OutL.nil hb
end Go.Proofs.Ytopbiihiogbhiaa
