/- Delays of orders: the program's; the greatest delay: both sides. -/
import Derived.Test.YtggficacnmddiaaWrkC
namespace Go.Proofs.Ytggficacnmddiaa
open Go.RowKit

def leftK (xs : List Order) (x : Int) : Int := (xs[x.toNat]?.map (·.left)).getD 0
def delGo (xs : List Order) : List Int → Int → List Int → List Int
  | [], _, out => out
  | i :: r, day, out => delGo xs r (day + leftK xs i) (out.set i.toNat (max (day + leftK xs i - dueK xs i) 0))
def delays (xs : List Order) (day : Int) : List Int := delGo xs (workL xs) day (List.replicate xs.length 0)
def mostGo (xs : List Order) : List Int → Int → Int → Int
  | [], _, m => m
  | i :: r, day, m => mostGo xs r (day + leftK xs i) (max m (day + leftK xs i - dueK xs i))
def maxL (m : Int) (l : List Int) : Int := l.foldl max m
theorem maxL_max (a b : Int) : ∀ l : List Int, maxL (max a b) l = max (maxL a l) b
  | [] => rfl
  | x :: r => by
    have h1 := maxL_max (max a x) b r
    simp only [maxL, List.foldl_cons] at h1 ⊢
    rw [← h1]; congr 1; omega
theorem maxL_ge : ∀ (l : List Int) (a : Int), a ≤ maxL a l
  | [], a => Int.le_refl _
  | x :: r, a => by
    have h1 := maxL_ge r (max a x)
    simp only [maxL, List.foldl_cons] at h1 ⊢
    omega
theorem maxL_set : ∀ (l : List Int) (k : Nat) (a v : Int), 0 ≤ a → l[k]? = some 0 → maxL a (l.set k (max v 0)) = max (maxL a l) v
  | [], k, a, v, _, h => by simp at h
  | x :: r, 0, a, v, ha, h => by
    simp only [List.getElem?_cons_zero, Option.some.injEq] at h
    subst h
    simp only [List.set_cons_zero, maxL, List.foldl_cons]
    have h1 := maxL_max (max a 0) v r
    simp only [maxL] at h1
    rw [← h1]; congr 1; omega
  | x :: r, k + 1, a, v, ha, h => by
    simp only [List.set_cons_succ, maxL, List.foldl_cons]
    exact maxL_set r k (max a x) v (by omega) (by simpa using h)
theorem most_eq (xs : List Order) : ∀ (o : List Int) (day : Int) (out : List Int), (o.Pairwise (fun a b => a ≠ b)) → (∀ i ∈ o, 0 ≤ i ∧ out[i.toNat]? = some 0) → maxL 0 (delGo xs o day out) = mostGo xs o day (maxL 0 out)
  | [], _, _, _, _ => rfl
  | i :: r, day, out, hp, h => by
    obtain ⟨h1, h2⟩ := List.pairwise_cons.1 hp
    simp only [delGo, mostGo]
    rw [most_eq xs r _ _ h2 (fun j hj => ?_), maxL_set _ _ _ _ (Int.le_refl _) (h i (by simp)).2]
    have h3 := h j (List.mem_cons_of_mem _ hj)
    have h4 := (h i (by simp)).1
    have h5 := h1 j hj
    refine ⟨h3.1, ?_⟩
    rw [List.getElem?_set_ne (by omega)]
    exact h3.2
theorem delGo_len (xs : List Order) : ∀ (o : List Int) (day : Int) (out : List Int), (delGo xs o day out).length = out.length
  | [], _, _ => rfl
  | i :: r, day, out => by simp only [delGo]; rw [delGo_len]; simp
theorem delays_len (xs : List Order) (day : Int) : (delays xs day).length = xs.length := by rw [delays, delGo_len]; simp
theorem workL_inR (xs : List Order) : ∀ z ∈ workL xs, ∃ k x, z = ((k : Nat) : Int) ∧ xs[k]? = some x := by
  intro z hz
  obtain ⟨k, x, h1, h2, _⟩ := idxGo_mem xs 0 z ((srtI_perm _ _).mem_iff.1 hz)
  exact ⟨k, x, by rw [h1]; congr 1; omega, h2⟩
theorem maxL_zero : ∀ n : Nat, maxL 0 (List.replicate n 0) = 0
  | 0 => rfl
  | n + 1 => by
    have := maxL_zero n
    simp only [maxL, List.replicate_succ, List.foldl_cons] at this ⊢
    exact this
theorem most_delays (xs : List Order) (day : Int) : maxL 0 (delays xs day) = mostGo xs (workL xs) day 0 := by
  have h := most_eq xs (workL xs) day (List.replicate xs.length 0) (by
    have h1 := srtI_lx (key := dueK xs) (idxL_nodup xs)
    exact h1.imp (fun {a b} h e => by subst e; exact lexL_asymm h h)) (fun i hi => by
    obtain ⟨k, x, h1, h2⟩ := workL_inR xs i hi
    have := (List.getElem?_eq_some_iff.1 h2).1
    refine ⟨by omega, ?_⟩
    rw [List.getElem?_replicate, if_pos (by omega)])
  rw [maxL_zero] at h
  exact h
theorem order_facts {xs : List Order} (h : ordsB xs = true) {k : Nat} {x : Order} (hx : xs[k]? = some x) : leftK xs k = x.left ∧ dueK xs k = x.due ∧ 0 ≤ x.left ∧ x.left ≤ 100 ∧ 0 ≤ x.due ∧ x.due ≤ 10000 := by
  have hb := (ords_small h).2.2 x (List.mem_of_getElem? hx)
  have h1 : leftK xs k = x.left := by unfold leftK; simp [hx]
  have h2 : dueK xs k = x.due := by unfold dueK; simp [hx]
  simp only [ordB, Bool.and_eq_true, inB_iff] at hb
  refine ⟨h1, h2, ?_⟩
  omega
theorem workL_le {xs : List Order} (h : ordsB xs = true) : (workL xs).length ≤ 30 := by
  have := (ords_small h).1
  rw [workL_len]; have := idxGo_len xs 0; unfold idxL; omega
set_option maxRecDepth 100000 in
set_option maxHeartbeats 3200000 in
theorem delays_c (A : Option Addr) (xs : List Order) (n c : Nat) (day : Int) (hn : Hid (xs.length = n)) (ho : Hid (ordsB xs = true)) (hd0 : 0 ≤ day) (hd1 : day ≤ 10000) (w : World) (hA : Arr w A (flat Order.cells xs)) :
    Calls Try.prog 28 #[.slice A n c, .int .i64 day] w (OutC 2 1 n (flat icell (delays xs day)) w) := by
  obtain ⟨i0, hi0, hz0, hz1, hz2⟩ := info_parts (P := Try.prog) (e := 2) (z := .int .i64 0) (size := 1) (bytes := 8) info_i64W
  have hm : n ≤ 30 := by have := (ords_small ho.out).1; have := hn.out; omega
  go_enter Try.func28, Try.ntmps28
  go_wp2_with (at_make; refine wpList_make_full _ rfl _ _ 31 rfl w.heap.size 2 i0 _ 1 Try.underlying31 hi0 hz0 hz1 _ _ _ _ n rfl rfl rfl rfl (by rw [hz2]; omega) (by unfold maxLen; omega) (Nat.le_refl _) ?_; intro w1 hown hg1)
  have hbel0 : Below w.heap.size w w1 := bl_grown (Below.refl _ _) hg1 (by simp)
  have hD : Dat w.heap.size w.heap.size n n w1 (List.replicate n 0) := by
    have e : (madeCells (Value.int IntKind.i64 0).cells (n * 1)).toList = flat icell (List.replicate n 0) := by
      rw [Nat.mul_one]
      refine (toList_madeCells_one (.int .i64 0) n).trans ?_
      refine List.ext_getElem? fun i => ?_
      rw [flat_icell_get, List.getElem?_replicate, List.getElem?_replicate]
      split <;> rfl
    unfold Dat
    rw [← e]; exact hown
  obtain ⟨g, hg⟩ : ∃ g, g = w.heap.size := ⟨_, rfl⟩
  rw [← hg]
  have hgl := own_lt hown w.heap.size rfl
  rw [← hg] at hgl
  have hD' : Dat w.heap.size g n n w1 (List.replicate n 0) := by rw [hg]; exact hD
  have HG := Lib.hid hg
  clear hg hown hg1 hD
  refine (workOrder_c A xs n c hn hm _ (hA.below hbel0)).mono ?_
  rintro e W ⟨A2, c2, rfl, hO, hb2⟩
  have hfar := own_at hO
  have hDW := hD'.below hb2
  have hvW := bl_trans hbel0 hb2
  obtain ⟨m, hm0⟩ : ∃ m, m = (workL xs).length := ⟨_, rfl⟩
  rw [← hm0] at hO ⊢
  have HM := Lib.hid hm0.symm
  have hm30 : m ≤ 30 := by rw [hm0]; exact workL_le ho.out
  have hOA := Arr.own hO
  have HF : Hid (∀ ad, A2 = some ad → ad.block ≠ g) := Lib.hid (fun ad e => by
    subst e
    have := hfar ad.block rfl
    omega)
  have HDL := Lib.hid (show delays xs day = delGo xs ((workL xs).drop 0) day (List.replicate n 0) by rw [delays, hn.out]; rfl)
  clear hbel0 hb2 hD' hO hfar hm0 hgl
  go_wp2_with fail
  obtain ⟨wo, rfl⟩ : ∃ wo : World, wo = W := ⟨_, rfl⟩
  go_loopw [1, 14] (fun dv iv wr => ∃ (j : Nat) (d : Int) (out : List Int), j ≤ m ∧ iv = .int .i64 j ∧ dv = .int .i64 d ∧ 0 ≤ d ∧ d ≤ 10000 + 100 * j ∧ Hid (delays xs day = delGo xs ((workL xs).drop j) d out) ∧ Dat w.heap.size g n n wr out ∧ Arr wr A2 (flat icell (workL xs)) ∧ Below w.heap.size w wr) (fun _ iv _ => m - (intOf iv).toNat)
  case atStart => exact ⟨0, day, _, by omega, rfl, rfl, hd0, by omega, HDL, hDW, hOA, hvW⟩
  case round =>
    clear hDW hOA hvW HDL
    obtain ⟨j, d, out, hj, rfl, rfl, hd0', hd1', HDL, hD, hO, hv⟩ := hrel
    by_cases hlt : j < m
    · obtain ⟨z, hz⟩ := get_of_lt (xs := workL xs) (k := j) (by rw [HM.out]; exact hlt)
      obtain ⟨k, x, hzk, hx⟩ := workL_inR xs z (List.mem_of_getElem? hz)
      subst hzk
      obtain ⟨ad, hA2, hab, o0⟩ := icell_at hO hz
      have hkn : k < n := by have := (List.getElem?_eq_some_iff.1 hx).1; have := hn.out; omega
      obtain ⟨ad', hA', hab', c0, c1, c2', c3, c4, c5⟩ := Order.at_ (hA.below hv) hx
      obtain ⟨e1, e2, f1, f2, f3, f4⟩ := order_facts ho.out hx
      have HDL2 := Lib.hid (HDL.out.trans (by rw [drop_at hz]; simp only [delGo, e1, e2, Int.toNat_natCast] : _ = delGo xs ((workL xs).drop (j + 1)) (d + x.left) (out.set k (max (d + x.left - x.due) 0))))
      obtain ⟨u, hu⟩ := get_of_lt (xs := out) (k := k) (by rw [hD.len]; exact hkn)
      obtain ⟨s1, s2⟩ := hD.at_ hu
      have HFA := HF.out ad hA2
      subst hA2
      subst hA'
      have k0 : (0 : Int) ≤ (k : Int) := by omega
      have k1 : (k : Int) < (n : Int) := by omega
      have HD := Lib.hid hD
      clear hz hx e1 e2 hu HDL hD
      go_wp2_with fail
      refine ⟨⟨j + 1, d + x.left, out.set k (max (d + x.left - x.due) 0), by omega, by go_num, rfl, by omega, by omega, HDL2, ?_, ?_, bl_set hv (by have := HG.out; simp; omega) _⟩, by simp [intOf]; omega⟩
      · have h3 := HD.out.set_ k (if d + x.left - x.due < 0 then 0 else d + x.left - x.due)
        rw [show max (d + x.left - x.due) 0 = (if d + x.left - x.due < 0 then 0 else d + x.left - x.due) by split <;> omega]
        exact h3
      · exact hO.keep (by simp [World.setCell]) (fun ad' e p hp hlt => by
          injection e with e
          subst e
          exact World.cell?_setCell_other _ _ _ _ (fun e => HFA (by rw [← hp]; first | rw [e] | rw [← e])))
    · have hjm : j = m := by omega
      subst hjm
      have HDL2 := Lib.hid (HDL.out.trans (by rw [List.drop_eq_nil_of_le (by rw [HM.out]; exact Nat.le_refl _)]; rfl : _ = out))
      have HD := Lib.hid hD
      clear HDL hD
      go_wp2_with fail
      go_returns
      rw [HDL2.out]
      exact ⟨_, _, rfl, HD.out, hv⟩
end Go.Proofs.Ytggficacnmddiaa
