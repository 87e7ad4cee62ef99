/- What the law on bills asks of the numbers: plain Lean. -/
import Derived.Test.YtopbiihiogbhiaaPriP
import Derived.Test.YtopbiihiogbhiaaBillI
import Derived.Test.YtopbiihiogbhiaaBillP
namespace Go.Proofs.Ytopbiihiogbhiaa
open Go.RowKit

theorem psum_zero (xs : List Item) : psum xs 0 = 0 := rfl
theorem psum_all (xs : List Item) : psum xs xs.length = sumGo xs 0 := by unfold psum; rw [List.take_length]
theorem pr_tele (xs : List Item) (T S : Int) : ∀ n, ((List.range n).map (prF xs T S)).sum = shV T (psum xs n) S - shV T (psum xs 0) S := by
  intro n
  induction n with
  | zero => simp
  | succ n ih =>
    rw [List.range_succ, List.map_append, List.sum_append, ih]
    simp only [List.map_cons, List.map_nil, List.sum_cons, List.sum_nil, prF]
    omega
theorem shV_all {T S : Int} (hT : 0 ≤ T) (hS : 0 < S) : shV T S S = T := by
  unfold shV
  rw [Nat.mul_div_cancel _ (by omega)]
  omega
theorem shV_mono {T P Q S : Int} (h : P ≤ Q) : shV T P S ≤ shV T Q S := by
  unfold shV
  have h1 : P.toNat ≤ Q.toNat := by omega
  have h2 : T.toNat * P.toNat / S.toNat ≤ T.toNat * Q.toNat / S.toNat := Nat.div_le_div_right (Nat.mul_le_mul_left _ h1)
  omega
theorem pr_bd {xs : List Item} (h : fewOk xs) {T S : Int} (hT : 0 ≤ T) (hS : 0 < S) (e : sumGo xs 0 = S) {v : Int} (hv : v ∈ prL xs T S) : 0 ≤ v ∧ v ≤ T := by
  simp only [prL, List.mem_map, List.mem_range] at hv
  obtain ⟨k, hk, rfl⟩ := hv
  obtain ⟨x, hx⟩ := get_of_lt (xs := xs) (k := k) hk
  have h1 := psum_step hx
  obtain ⟨m0, m1, c0, c1⟩ := few_item h hx
  have h2 := prod_bd ⟨m0, m1, c0, c1⟩
  have h3 : shV T (psum xs k) S ≤ shV T (psum xs (k + 1)) S := shV_mono (by omega)
  have b1 := shV_bd (T := T) (P := psum xs (k + 1)) (S := S) hT hS (by rw [← e]; exact (psum_bd h (k + 1)).2)
  have b2 := shV_bd (T := T) (P := psum xs k) (S := S) hT hS (by rw [← e]; exact (psum_bd h k).2)
  unfold prF
  omega
theorem tot_facts {xs : List Item} {o t p : Int} (h : billB xs o t p = true) : 0 ≤ sumGo xs 0 ∧ sumGo xs 0 ≤ 20000000000 ∧ 0 ≤ taxOf (sumGo xs 0) o t ∧ taxOf (sumGo xs 0) o t ≤ totOf (sumGo xs 0) o t ∧ totOf (sumGo xs 0) o t ≤ 2 * sumGo xs 0 ∧ 0 ≤ p ∧ p ≤ totOf (sumGo xs 0) o t := by
  obtain ⟨hf, ⟨o0, o1⟩, ⟨t0, t1⟩, p0, p1⟩ := billB_few h
  obtain ⟨s0, s1⟩ := sum_bd hf
  obtain ⟨n0, n1⟩ := net_bd s0 o0 o1
  obtain ⟨x0, x1⟩ := tax_bd s0 o0 o1 t0 t1
  have e : totOf (sumGo xs 0) o t = netOf (sumGo xs 0) o + taxOf (sumGo xs 0) o t := rfl
  refine ⟨s0, s1, x0, ?_, ?_, p0, p1⟩ <;> omega
theorem price_sum {xs : List Item} {o t p : Int} (h : cPrice xs o t p = 0) : billB xs o t p = true ∧ (iPrice xs o t p).sum = totOf (sumGo xs 0) o t := by
  unfold cPrice at h
  by_cases hb : billB xs o t p = true
  · rw [if_pos hb] at h
    by_cases hs : sumGo xs 0 = 0
    · rw [if_pos hs] at h; omega
    · refine ⟨hb, ?_⟩
      obtain ⟨s0, s1, x0, x1, x2, _, _⟩ := tot_facts hb
      unfold iPrice
      rw [if_pos hb, if_neg hs]
      unfold prL
      rw [pr_tele, psum_all, psum_zero, shV_zero, shV_all (by omega) (by omega)]
      omega
  · rw [if_neg hb] at h; omega
theorem price_mem {xs : List Item} {o t p v : Int} (hv : v ∈ iPrice xs o t p) : 0 ≤ v ∧ v ≤ 100000000000 := by
  unfold iPrice at hv
  split at hv
  · rename_i hb
    split at hv
    · cases hv
    · rename_i hs
      obtain ⟨s0, s1, x0, x1, x2, _, _⟩ := tot_facts hb
      have := pr_bd (billB_few hb).1 (T := totOf (sumGo xs 0) o t) (S := sumGo xs 0) (by omega) (by omega) rfl hv
      omega
  · cases hv
theorem price_len (xs : List Item) (o t p : Int) : (iPrice xs o t p).length ≤ 20 := by
  unfold iPrice
  split
  · rename_i hb
    split
    · simp
    · rw [prL_length]; exact (billB_few hb).1.1
  · simp
theorem inst_tele (l m : Int) (hm : 0 < m) : ∀ n : Nat, ((List.range n).map (instF l m)).sum = n * (l / m) + min (n : Int) (l % m) := by
  have h0 := Int.emod_nonneg l (by omega : m ≠ 0)
  intro n
  induction n with
  | zero => simp; omega
  | succ n ih =>
    rw [List.range_succ, List.map_append, List.sum_append, ih]
    simp only [List.map_cons, List.map_nil, List.sum_cons, List.sum_nil, instF]
    have e : ((n + 1 : Nat) : Int) * (l / m) = (n : Int) * (l / m) + l / m := by rw [Int.natCast_add, Int.add_mul]; simp
    rw [e]
    generalize (n : Int) * (l / m) = z
    split <;> omega
theorem inst_sum {l m : Int} (hm : 0 < m) : (instL l m).sum = l := by
  have h0 := Int.emod_nonneg l (by omega : m ≠ 0)
  have h1 := Int.emod_lt_of_pos l hm
  have e := Int.emod_add_mul_ediv l m
  unfold instL
  rw [inst_tele l m hm]
  have e2 : ((m.toNat : Nat) : Int) = m := by omega
  rw [e2, Int.min_eq_right (by omega)]
  omega
theorem inst_mem {l m v : Int} (hl : 0 ≤ l) (hb : l ≤ 50000000000) (h1 : 1 ≤ m) (hv : v ∈ instL l m) : 0 ≤ v ∧ v ≤ 100000000000 ∧ v ≤ instF l m 0 ∧ instF l m 0 - 1 ≤ v := by
  simp only [instL, List.mem_map, List.mem_range] at hv
  obtain ⟨k, _, rfl⟩ := hv
  have hk := inst_bd k hl h1
  have h0 := inst_bd 0 hl h1
  unfold instF at hk h0 ⊢
  split at hk <;> split at h0 <;> omega
theorem inst_first {l m : Int} (h1 : 1 ≤ m) : (instL l m)[0]? = some (instF l m 0) := by
  unfold instL
  rw [List.getElem?_map, List.getElem?_range (by omega)]
  rfl
theorem inst_facts {xs : List Item} {o t p k : Int} (h : cInst xs o t p k = 0) : ∃ L f : Int, rLeft xs o t p = #[.int .i64 L, .int .i64 0] ∧ (iInst xs o t p k).sum = L ∧ ((iInst xs o t p k).length : Int) = k ∧ (iInst xs o t p k)[0]? = some f ∧ 0 ≤ f ∧ f ≤ 100000000000 ∧ ∀ v ∈ iInst xs o t p k, v ≤ f ∧ f - 1 ≤ v := by
  unfold cInst at h
  by_cases hb : billB xs o t p = true
  · rw [if_pos hb] at h
    by_cases hs : inB k 1 60 = true
    · obtain ⟨s0, s1, x0, x1, x2, p0, p1⟩ := tot_facts hb
      obtain ⟨k0, k1⟩ := inB_iff.1 hs
      refine ⟨totOf (sumGo xs 0) o t - p, instF (totOf (sumGo xs 0) o t - p) k 0, ?_, ?_, ?_, ?_, ?_, ?_, ?_⟩
      · unfold rLeft; rw [if_pos hb]
      · unfold iInst; rw [if_pos hb, if_pos hs]; exact inst_sum (by omega)
      · unfold iInst; rw [if_pos hb, if_pos hs, instL_length]; omega
      · unfold iInst; rw [if_pos hb, if_pos hs]; exact inst_first k0
      · exact (inst_bd 0 (by omega) k0).2.2.2.2.1
      · have := (inst_bd (l := totOf (sumGo xs 0) o t - p) (m := k) 0 (by omega) k0).2.2.2.2.2; omega
      · intro v hv
        unfold iInst at hv
        rw [if_pos hb, if_pos hs] at hv
        have := inst_mem (l := totOf (sumGo xs 0) o t - p) (by omega) (by omega) k0 hv
        omega
    · rw [if_neg hs] at h; omega
  · rw [if_neg hb] at h; omega
theorem inst_memI {xs : List Item} {o t p k v : Int} (hv : v ∈ iInst xs o t p k) : 0 ≤ v ∧ v ≤ 100000000000 := by
  unfold iInst at hv
  split at hv
  · rename_i hb
    split at hv
    · rename_i hs
      obtain ⟨s0, s1, x0, x1, x2, p0, p1⟩ := tot_facts hb
      have := inst_mem (l := totOf (sumGo xs 0) o t - p) (by omega) (by omega) (inB_iff.1 hs).1 hv
      omega
    · cases hv
  · cases hv
theorem inst_lenI (xs : List Item) (o t p k : Int) : (iInst xs o t p k).length ≤ 60 := by
  unfold iInst
  split
  · split
    · rename_i hs
      have := inB_iff.1 hs
      rw [instL_length]; omega
    · simp
  · simp
theorem pay_facts {xs : List Item} {o t p k : Int} (h : cPay xs o t p k = 0) : ∃ L : Int, 0 ≤ k ∧ k ≤ 100000000000 ∧ 0 ≤ L ∧ L ≤ 100000000000 ∧ rLeft xs o t p = #[.int .i64 (L + k), .int .i64 0] ∧ rLeft (lPay xs o t p k) (vPay xs o t p k o) (vPay xs o t p k t) (vPay xs o t p k (p + k)) = #[.int .i64 L, .int .i64 0] := by
  unfold cPay at h
  by_cases hb : billB xs o t p = true
  · rw [if_pos hb] at h
    by_cases hs : inB k 0 100000000000 = true
    · rw [if_pos hs] at h
      by_cases hk : k ≤ totOf (sumGo xs 0) o t - p
      · have hok : okPay xs o t p k = true := by unfold okPay; rw [hb, hs]; simpa using hk
        obtain ⟨s0, s1, x0, x1, x2, p0, p1⟩ := tot_facts hb
        obtain ⟨k0, k1⟩ := inB_iff.1 hs
        have e1 : lPay xs o t p k = xs := by unfold lPay; rw [hok]; rfl
        have e2 : ∀ v, vPay xs o t p k v = v := by intro v; unfold vPay; rw [hok]; rfl
        rw [e1, e2, e2, e2]
        have hb2 : billB xs o t (p + k) = true := by
          unfold billB at hb ⊢
          simp only [Bool.and_eq_true, inB_iff] at hb ⊢
          exact ⟨hb.1, by omega, by omega⟩
        refine ⟨totOf (sumGo xs 0) o t - p - k, k0, k1, by omega, by omega, ?_, ?_⟩
        · unfold rLeft; rw [if_pos hb]; congr 3; omega
        · unfold rLeft; rw [if_pos hb2]; congr 3; omega
      · rw [if_neg hk] at h; omega
    · rw [if_neg hs] at h; omega
  · rw [if_neg hb] at h; omega
end Go.Proofs.Ytopbiihiogbhiaa
