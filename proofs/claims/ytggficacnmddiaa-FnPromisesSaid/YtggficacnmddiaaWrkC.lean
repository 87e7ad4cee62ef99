/- WorkOrder: the program's and the reference's. -/
import Derived.Test.YtggficacnmddiaaWrkB
namespace Go.Proofs.Ytggficacnmddiaa
open Go.RowKit

theorem ords_small {xs : List Order} (h : ordsB xs = true) : xs.length ≤ 30 ∧ (∀ x ∈ xs, 0 ≤ x.left) ∧ ∀ x ∈ xs, ordB x = true := by
  have hm : ∀ x ∈ xs, ordB x = true := by
    simp only [ordsB, Bool.and_eq_true] at h
    have key : ∀ (l : List Order) (p : Int), ordsGo p l = true → ∀ x ∈ l, ordB x = true := by
      intro l
      induction l with
      | nil => intro p _ x hx; cases hx
      | cons y ys ih =>
        intro p h x hx
        simp only [ordsGo, Bool.and_eq_true] at h
        rcases List.mem_cons.1 hx with rfl | hx
        · exact h.1.1
        · exact ih _ h.2 x hx
    exact key xs 0 h.1
  refine ⟨?_, fun x hx => ?_, hm⟩
  · simp only [ordsB, Bool.and_eq_true, decide_eq_true_eq] at h; exact h.2
  · have := hm x hx
    simp only [ordB, Bool.and_eq_true, inB_iff] at this
    omega
theorem codeD_ok {xs : List Order} {day : Int} (h : codeD xs day = 0) : ordsB xs = true ∧ 0 ≤ day ∧ day ≤ 10000 := by
  unfold codeD at h
  by_cases h1 : ordsB xs = true
  · rw [if_pos h1] at h
    by_cases h2 : inB day 0 10000 = true
    · exact ⟨h1, inB_iff.1 h2⟩
    · rw [if_neg h2] at h; omega
  · rw [if_neg h1] at h; omega
def woL (xs : List Order) (day : Int) : List Int := if codeD xs day = 0 then workL xs else []
set_option maxRecDepth 100000 in
set_option maxHeartbeats 800000 in
theorem WorkOrder_c (A : Option Addr) (xs : List Order) (n c : Nat) (day : Int) (hn : Hid (xs.length = n)) (hm : (n : Int) ≤ 1048576) (hs : Hid (∀ x ∈ xs, x.customer.size ≤ 9223372036854775807)) (w : World) (hA : Arr w A (flat Order.cells xs)) : Calls Try.prog 13 #[.slice A n c, .int .i64 day] w (OutL 2 1 (woL xs day).length (flat icell (woL xs day)) (codeD xs day) w) := by
  go_enter Try.func13, Try.ntmps13
  go_wp2_with fail
  refine (ordersCode_c A xs n c day hn hm hs _ hA).mono ?_
  rintro e W ⟨rfl, hv⟩
  obtain ⟨cd, hcd⟩ : ∃ cd, cd = codeD xs day := ⟨_, rfl⟩
  rw [← hcd]
  by_cases h0 : cd = 0
  · have HL := Lib.hid (show woL xs day = workL xs by unfold woL; rw [if_pos (by rw [← hcd]; exact h0)])
    obtain ⟨k1, k2, k3⟩ := ords_small (codeD_ok (by rw [← hcd]; exact h0)).1
    have HC := Lib.hid hcd
    subst h0
    clear hcd
    go_wp2_with fail
    refine (workOrder_c A xs n c hn (by have := hn.out; omega) _ (hA.below hv)).mono ?_
    rintro e W2 ⟨A2, c2, rfl, hown, hb2⟩
    go_wp2_with fail
    go_returns
    rw [HL.out]
    exact OutL.mk (own_base hown hv.size) rfl rfl HC.out (bl_trans hv hb2)
  · have HL := Lib.hid (show woL xs day = [] by unfold woL; rw [if_neg (by rw [← hcd]; exact h0)])
    have HC := Lib.hid hcd
    have hne : (cd != 0) = true := by rw [bne_iff_ne]; exact h0
    clear hcd
    go_wp2_with fail
    go_returns
    rw [HL.out, ← HC.out]
    exact OutL.nil hv
set_option maxRecDepth 100000 in
set_option maxHeartbeats 800000 in
theorem SWorkOrder_c (A : Option Addr) (xs : List Order) (n c : Nat) (day : Int) (hn : Hid (xs.length = n)) (hm : (n : Int) ≤ 1048576) (hs : Hid (∀ x ∈ xs, x.customer.size ≤ 9223372036854775807)) (w : World) (hA : Arr w A (flat Order.cells xs)) : Calls Try.prog 14 #[.slice A n c, .int .i64 day] w (OutL 2 1 (woL xs day).length (flat icell (woL xs day)) (codeD xs day) w) := by
  go_enter Try.func14, Try.ntmps14
  go_wp2_with fail
  refine (l25Code_c A xs n c day hn hm hs _ hA).mono ?_
  rintro e W ⟨rfl, hv⟩
  obtain ⟨cd, hcd⟩ : ∃ cd, cd = codeD xs day := ⟨_, rfl⟩
  rw [← hcd]
  by_cases h0 : cd = 0
  · have HL := Lib.hid (show woL xs day = workL xs by unfold woL; rw [if_pos (by rw [← hcd]; exact h0)])
    obtain ⟨k1, k2, k3⟩ := ords_small (codeD_ok (by rw [← hcd]; exact h0)).1
    have HC := Lib.hid hcd
    subst h0
    clear hcd
    go_wp2_with fail
    refine (l25Work_c A xs n c hn (by have := hn.out; omega) (Lib.hid k2) _ (hA.below hv)).mono ?_
    rintro e W2 ⟨A2, c2, rfl, hown, hb2⟩
    go_wp2_with fail
    go_returns
    rw [HL.out]
    exact OutL.mk (own_base hown hv.size) rfl rfl HC.out (bl_trans hv hb2)
  · have HL := Lib.hid (show woL xs day = [] by unfold woL; rw [if_neg (by rw [← hcd]; exact h0)])
    have HC := Lib.hid hcd
    have hne : (cd != 0) = true := by rw [bne_iff_ne]; exact h0
    clear hcd
    go_wp2_with fail
    go_returns
    rw [HL.out, ← HC.out]
    exact OutL.nil hv
end Go.Proofs.Ytggficacnmddiaa
