/- math/bits.Div64: a number of two words divided by one word. -/
import Derived.Test.YtopbiihiogbhiaaDivP
import Derived.Test.YtopbiihiogbhiaaShelf
namespace Go.Proofs.Ytopbiihiogbhiaa
open Go.RowKit

theorem bitLen_pos : ∀ (k x : Nat), x < 2 ^ 64 → x ≠ 0 → Lib.bitLen x = k → 2 ^ (k - 1) ≤ x ∧ x < 2 ^ k ∧ 0 < k := by
  intro k
  induction k with
  | zero =>
    intro x hx h0 hb
    have := Lib.bitLen_half x h0 hx
    omega
  | succ k ih =>
    intro x hx h0 hb
    have h := Lib.bitLen_half x h0 hx
    by_cases h1 : x / 2 = 0
    · have hx1 : x = 1 := by omega
      subst hx1
      have hk : k = 0 := by
        have e : Lib.bitLen (1 / 2) = 0 := by decide +kernel
        omega
      subst hk
      simp
    · obtain ⟨a, b, c⟩ := ih (x / 2) (by omega) h1 (by omega)
      obtain ⟨j, rfl⟩ : ∃ j, k = j + 1 := ⟨k - 1, by omega⟩
      simp only [Nat.add_sub_cancel] at a ⊢
      have e1 : 2 ^ (j + 1) = 2 * 2 ^ j := by rw [Nat.pow_succ]; omega
      have e2 : 2 ^ (j + 1 + 1) = 2 * 2 ^ (j + 1) := by rw [Nat.pow_succ 2 (j + 1)]; omega
      omega
/-- y moved to the left as far as it goes -/
theorem moved_y {y s : Nat} (h0 : 0 < y) (hy : y < 18446744073709551616) (hs : Lib.bitLen y + s = 64) : 9223372036854775808 ≤ y * 2 ^ s ∧ y * 2 ^ s < 18446744073709551616 := by
  obtain ⟨a, b, c⟩ := bitLen_pos _ y hy (by omega) rfl
  have e : 2 ^ (Lib.bitLen y) * 2 ^ s = 18446744073709551616 := by rw [← Nat.pow_add, hs]
  have e1 : 2 ^ (Lib.bitLen y - 1) * 2 ^ s = 9223372036854775808 := by
    rw [← Nat.pow_add, show Lib.bitLen y - 1 + s = 63 by omega]
  have p := Nat.two_pow_pos s
  constructor
  · rw [← e1]; exact Nat.mul_le_mul_right _ a
  · rw [← e]; exact Nat.mul_lt_mul_of_pos_right b p
theorem wrap_u64 (a : Nat) (h : a < 18446744073709551616) : IntKind.u64.wrap (a : Int) = (a : Int) := Mul64.wrapN a h
/-- what the first steps lay -/
theorem moved_x {hi lo y s : Nat} (h : hi < y) (hlo : lo < 18446744073709551616) (hs : s ≤ 64) (hY : y * 2 ^ s < 18446744073709551616) :
    hi * 2 ^ s + lo / 2 ^ (64 - s) < y * 2 ^ s ∧ bits .or .u64 ((hi * 2 ^ s : Nat) : Int) ((lo / 2 ^ (64 - s) : Nat) : Int) = ((hi * 2 ^ s + lo / 2 ^ (64 - s) : Nat) : Int) ∧
    (hi * 18446744073709551616 + lo) * 2 ^ s = (hi * 2 ^ s + lo / 2 ^ (64 - s)) * 18446744073709551616 + lo * 2 ^ s % 18446744073709551616 := by
  have p := Nat.two_pow_pos s
  have p' := Nat.two_pow_pos (64 - s)
  have e : 2 ^ (64 - s) * 2 ^ s = 18446744073709551616 := by rw [← Nat.pow_add, show 64 - s + s = 64 by omega]
  have hl : lo / 2 ^ (64 - s) < 2 ^ s := by
    rw [Nat.div_lt_iff_lt_mul p', Nat.mul_comm, e]; exact hlo
  have h1 : hi * 2 ^ s + lo / 2 ^ (64 - s) < y * 2 ^ s := by
    have : (hi + 1) * 2 ^ s ≤ y * 2 ^ s := Nat.mul_le_mul_right _ h
    rw [Nat.add_mul] at this
    omega
  refine ⟨h1, ?_, ?_⟩
  · have h2 : hi * 2 ^ s < 18446744073709551616 := by
      generalize hi * 2 ^ s = C at h1 ⊢
      generalize lo / 2 ^ (64 - s) = Q at h1
      omega
    have h3 : lo / 2 ^ (64 - s) < 18446744073709551616 := by
      generalize hi * 2 ^ s = C at h1
      generalize lo / 2 ^ (64 - s) = Q at h1 ⊢
      omega
    rw [bits_or_u64_nat _ _ h2 h3]
    congr 1
    rw [Nat.mul_comm hi]
    exact (Nat.two_pow_add_eq_or_of_lt hl hi).symm
  · have hd := Nat.div_add_mod (lo * 2 ^ s) 18446744073709551616
    have hq : lo * 2 ^ s / 18446744073709551616 = lo / 2 ^ (64 - s) := by
      rw [← e, Nat.mul_div_mul_right _ _ p]
    rw [hq] at hd
    rw [Nat.add_mul, Nat.add_mul, Nat.mul_right_comm hi, Nat.add_assoc, Nat.mul_comm (lo / 2 ^ (64 - s)), hd]
theorem split32 (L : Nat) : L / 4294967296 * 4294967296 + L % 4294967296 = L := by omega

def OutV (q : Nat) (w : World) (e : Ending) (w' : World) : Prop := ∃ r : Value, e = .returned (.tuple #[.int .u64 (q : Int), r]) ∧ Below w.heap.size w w'
set_option maxRecDepth 100000 in
set_option maxHeartbeats 4000000 in
theorem Div64_c (hi lo y : Nat) (h : hi < y) (hy : y < 18446744073709551616) (hlo : lo < 18446744073709551616) (w : World) :
    Calls Try.prog 111 #[.int .u64 hi, .int .u64 lo, .int .u64 y] w (OutV ((hi * 18446744073709551616 + lo) / y) w) := by
  have hv := Below.refl w.heap.size w
  have e0 : ¬ (y : Int) = 0 := by omega
  have e1 : ¬ (y : Int) ≤ (hi : Int) := by omega
  go_enter Try.func111, Try.ntmps111
  by_cases hz : hi = 0
  · have e2 : (hi : Int) = 0 := by omega
    go_wp2_with fail
    have k1 : IntKind.u64.wrap ((lo : Int) / (y : Int)) = ((lo / y : Nat) : Int) := by
      rw [← wrap_u64 (lo / y) (Nat.lt_of_le_of_lt (Nat.div_le_self _ _) hlo)]; simp
    go_region
    go_wp2_with fail
    go_returns
    rw [show (hi * 18446744073709551616 + lo) / y = lo / y by rw [hz]; simp]
    exact ⟨_, rfl, hv.drew⟩
  · have e2 : ¬ (hi : Int) = 0 := by omega
    go_wp2_with fail
    refine (Try.bits_LeadingZeros64 (y : Int) _ (by omega) (by omega)).mono ?_
    rintro e W ⟨rfl, rfl⟩
    have hl : Lib.bitLen y ≤ 64 := by have := Any.bitLen_le64 (y : Int) (by omega) (by omega); simpa using this
    obtain ⟨s, hs⟩ : ∃ s : Nat, (64 - (Lib.bitLen (y : Int).toNat : Int)) = (s : Int) := ⟨64 - Lib.bitLen y, by simp; omega⟩
    rw [hs]
    have hs64 : Lib.bitLen y + s = 64 := by simp at hs; omega
    clear hs hl
    obtain ⟨my0, my1⟩ := moved_y (by omega) hy hs64
    obtain ⟨mx0, mx1, mx2⟩ := moved_x h hlo (by omega) my1
    have mx3 : hi * 2 ^ s < 18446744073709551616 := by
      generalize hi * 2 ^ s = C at mx0 ⊢
      generalize lo / 2 ^ (64 - s) = Q at mx0
      omega
    have hs63 : s ≤ 64 := by omega
    have f1 : IntKind.u64.wrap ((y : Int) * 2 ^ s) = ((y * 2 ^ s : Nat) : Int) := by rw [← wrap_u64 _ my1]; simp
    have f4 : IntKind.u64.wrap ((hi : Int) * 2 ^ s) = ((hi * 2 ^ s : Nat) : Int) := by rw [← wrap_u64 (hi * 2 ^ s) mx3]; simp
    have f5 : (lo : Int) / 2 ^ (64 - s) = ((lo / 2 ^ (64 - s) : Nat) : Int) := by simp
    have f7 : IntKind.u64.wrap ((lo : Int) * 2 ^ s) = ((lo * 2 ^ s % 18446744073709551616 : Nat) : Int) := by rw [IntKind.wrap_u64]; simp
    have hQ := Lib.hid (div_moved hi lo y s (hi * 2 ^ s + lo / 2 ^ (64 - s)) (lo * 2 ^ s % 18446744073709551616 / 4294967296) (lo * 2 ^ s % 18446744073709551616 % 4294967296) (y * 2 ^ s) (by omega) rfl (by rw [mx2, Nat.add_assoc, split32]))
    obtain ⟨Y, hY⟩ : ∃ Y, Y = y * 2 ^ s := ⟨_, rfl⟩
    obtain ⟨U, hU⟩ : ∃ U, U = hi * 2 ^ s + lo / 2 ^ (64 - s) := ⟨_, rfl⟩
    obtain ⟨L, hL⟩ : ∃ L, L = lo * 2 ^ s % 18446744073709551616 := ⟨_, rfl⟩
    have hLb : L < 18446744073709551616 := by rw [hL]; exact Nat.mod_lt _ (by omega)
    rw [← hU] at mx0 mx1 hQ
    rw [← hY] at my0 my1 mx0 f1 hQ
    rw [← hL] at f7 hQ
    obtain ⟨H, hH⟩ : ∃ H, H = hi * 2 ^ s := ⟨_, rfl⟩
    obtain ⟨M, hM⟩ : ∃ M, M = lo / 2 ^ (64 - s) := ⟨_, rfl⟩
    rw [← hH] at f4 mx1
    rw [← hM] at f5 mx1
    obtain ⟨X, hX⟩ : ∃ X, X = (hi * 18446744073709551616 + lo) / y := ⟨_, rfl⟩
    rw [← hX] at hQ
    have HX := Lib.hid hX
    clear hY hU hL hH hM mx2 hs64 hX
    have f2 : (Y : Int) / 4294967296 = ((Y / 4294967296 : Nat) : Int) := by omega
    have f3 : bits .and .u64 (Y : Int) 4294967295 = ((Y % 4294967296 : Nat) : Int) := Mul64.maskN Y my1
    have f8 : (L : Int) / 4294967296 = ((L / 4294967296 : Nat) : Int) := by omega
    have f9 : bits .and .u64 (L : Int) 4294967295 = ((L % 4294967296 : Nat) : Int) := Mul64.maskN L hLb
    have hYs : Y = Y / 4294967296 * 4294967296 + Y % 4294967296 := by omega
    obtain ⟨Y1, hY1⟩ : ∃ Y1, Y1 = Y / 4294967296 := ⟨_, rfl⟩
    obtain ⟨Y0, hY0⟩ : ∃ Y0, Y0 = Y % 4294967296 := ⟨_, rfl⟩
    obtain ⟨D1, hD1⟩ : ∃ D1, D1 = L / 4294967296 := ⟨_, rfl⟩
    obtain ⟨D0, hD0⟩ : ∃ D0, D0 = L % 4294967296 := ⟨_, rfl⟩
    rw [← hY1] at f2 hYs
    rw [← hY0] at f3 hYs
    rw [← hD1] at f8 hQ
    rw [← hD0] at f9 hQ
    have b1 : 2147483648 ≤ Y1 ∧ Y1 < 4294967296 ∧ Y0 < 4294967296 ∧ D1 < 4294967296 ∧ D0 < 4294967296 := by omega
    obtain ⟨b1, b2, b3, b4, b5⟩ := b1
    have f10 : ¬ (Y1 : Int) = 0 := by omega
    replace hYs := Lib.hid hYs
    clear hY1 hY0 hD1 hD0
    obtain ⟨qa, hqa⟩ : ∃ q, q = U / Y1 := ⟨_, rfl⟩
    obtain ⟨ra, hra⟩ : ∃ r, r = U % Y1 := ⟨_, rfl⟩
    obtain ⟨pa, hpa⟩ : ∃ p, p = qa * Y1 := ⟨_, rfl⟩
    obtain ⟨Qa, hQa⟩ : ∃ Q, Q = (U * 4294967296 + D1) / (Y1 * 4294967296 + Y0) := ⟨_, rfl⟩
    have heqa : qa * Y1 + ra = U := by rw [hqa, hra]; exact dig_first_eq _ _
    have hlea : qa ≤ 4294967297 := by rw [hqa]; exact dig_first_le (Y0 := Y0) (by rw [← hYs.out]; assumption) b3 b1
    have hgea : Qa ≤ qa := by rw [hQa, hqa]; exact dig_first (by assumption) (by omega)
    have hrba : ra < 4294967296 := by rw [hra]; have := Nat.mod_lt U (show 0 < Y1 by omega); omega
    have hqsa : Qa < 4294967296 := by rw [hQa]; exact dig_big (by rw [← hYs.out]; assumption) (by assumption) (Nat.le_refl _)
    have g1a : IntKind.u64.wrap ((U : Int) / (Y1 : Int)) = (qa : Int) := by rw [hqa, ← wrap_u64 (U / Y1) (by rw [← hqa]; omega)]; simp
    have g2a : IntKind.u64.wrap ((qa : Int) * (Y1 : Int)) = (pa : Int) := by rw [← wrap_u64 pa (by rw [hpa]; omega), hpa]; simp
    have g3a : IntKind.u64.wrap ((U : Int) - (pa : Int)) = (ra : Int) := by rw [IntKind.wrap_u64, hpa]; omega
    have HQa := Lib.hid hQa
    replace heqa := Lib.hid heqa
    clear hqa hra hpa hQa
    go_wp2_with fail
    clear g1a g2a g3a
    go_loopw [15, 16] (fun qv rv wr => ∃ qn rn : Nat, qv = .int .u64 qn ∧ rv = .int .u64 rn ∧ Hid (qn * Y1 + rn = U) ∧ qn ≤ 4294967297 ∧ Qa ≤ qn ∧ rn < 4294967296 ∧ Below W.heap.size W wr) (fun qv _ _ => (intOf qv).toNat)
    case atStart => exact ⟨qa, ra, rfl, rfl, heqa, hlea, hgea, hrba, by first | exact Below.refl _ _ | assumption⟩
    case round =>
      clear heqa hlea hgea hrba
      obtain ⟨qn, rn, rfl, rfl, heq, hle, hge, hrb, hv2⟩ := hrel
      by_cases hbig : (4294967296 : Int) ≤ (qn : Int)
      · have hlt : Qa < qn := by omega
        obtain ⟨p, hp⟩ : ∃ p, p + 1 = qn := ⟨qn - 1, by omega⟩
        have heq2 : p * Y1 + (rn + Y1) = U := by have h1 := heq.out; rw [← hp, Nat.add_mul] at h1; omega
        have HE2 := Lib.hid heq2
        clear heq2
        have g5 : IntKind.u64.wrap ((qn : Int) - 1) = (p : Int) := by rw [← wrap_u64 p (by omega)]; congr 1; omega
        obtain ⟨rs, hrs⟩ : ∃ rs, rs = rn + Y1 := ⟨_, rfl⟩
        rw [← hrs] at HE2
        have g6 : IntKind.u64.wrap ((rn : Int) + (Y1 : Int)) = (rs : Int) := by rw [← wrap_u64 rs (by omega)]; congr 1; omega
        have hp1 : p ≤ 4294967296 := by omega
        have hp2 : Qa ≤ p := by omega
        have hp3 : p < qn := by omega
        have hq1 : (1 : Int) ≤ (qn : Int) := by omega
        clear hrs hp hlt hle hge heq
        by_cases hbr : (4294967296 : Int) ≤ (rs : Int)
        · have he : Qa = p := Nat.le_antisymm hp2 (by rw [HQa.out]; exact dig_break HE2.out hp1 (by omega) b3 (by omega))
          subst he
          clear hp1 hp2
          obtain ⟨R, hR⟩ : ∃ R, R = (U * 4294967296 + D1) % Y := ⟨_, rfl⟩
          have hRY : R < Y := by rw [hR]; exact Nat.mod_lt _ (by omega)
          have hdm : Qa * Y + R = U * 4294967296 + D1 := by rw [HQa.out, ← hYs.out, hR, Nat.mul_comm]; exact Nat.div_add_mod _ _
          obtain ⟨A1, hA1⟩ : ∃ A1, A1 = U * 4294967296 % 18446744073709551616 := ⟨_, rfl⟩
          obtain ⟨A2, hA2⟩ : ∃ A2, A2 = (A1 + D1) % 18446744073709551616 := ⟨_, rfl⟩
          obtain ⟨P3, hP3⟩ : ∃ P3, P3 = Qa * Y % 18446744073709551616 := ⟨_, rfl⟩
          have a1 : IntKind.u64.wrap ((U : Int) * 4294967296) = (A1 : Int) := by rw [IntKind.wrap_u64, hA1]; omega
          have a2 : IntKind.u64.wrap ((A1 : Int) + (D1 : Int)) = (A2 : Int) := by rw [IntKind.wrap_u64, hA2]; omega
          have a3 : IntKind.u64.wrap ((Qa : Int) * (Y : Int)) = (P3 : Int) := by rw [IntKind.wrap_u64, hP3]; simp
          have a4 : IntKind.u64.wrap ((A2 : Int) - (P3 : Int)) = (R : Int) := by rw [IntKind.wrap_u64]; omega
          have HR := Lib.hid hR
          clear hR hA1 hA2 hP3 hdm
          obtain ⟨qb, hqb⟩ : ∃ q, q = R / Y1 := ⟨_, rfl⟩
          obtain ⟨rb, hrb⟩ : ∃ r, r = R % Y1 := ⟨_, rfl⟩
          obtain ⟨pb, hpb⟩ : ∃ p, p = qb * Y1 := ⟨_, rfl⟩
          obtain ⟨Qb, hQb⟩ : ∃ Q, Q = (R * 4294967296 + D0) / (Y1 * 4294967296 + Y0) := ⟨_, rfl⟩
          have heqb : qb * Y1 + rb = R := by rw [hqb, hrb]; exact dig_first_eq _ _
          have hleb : qb ≤ 4294967297 := by rw [hqb]; exact dig_first_le (Y0 := Y0) (by rw [← hYs.out]; assumption) b3 b1
          have hgeb : Qb ≤ qb := by rw [hQb, hqb]; exact dig_first (by assumption) (by omega)
          have hrbb : rb < 4294967296 := by rw [hrb]; have := Nat.mod_lt R (show 0 < Y1 by omega); omega
          have hqsb : Qb < 4294967296 := by rw [hQb]; exact dig_big (by rw [← hYs.out]; assumption) (by assumption) (Nat.le_refl _)
          have g1b : IntKind.u64.wrap ((R : Int) / (Y1 : Int)) = (qb : Int) := by rw [hqb, ← wrap_u64 (R / Y1) (by rw [← hqb]; omega)]; simp
          have g2b : IntKind.u64.wrap ((qb : Int) * (Y1 : Int)) = (pb : Int) := by rw [← wrap_u64 pb (by rw [hpb]; omega), hpb]; simp
          have g3b : IntKind.u64.wrap ((R : Int) - (pb : Int)) = (rb : Int) := by rw [IntKind.wrap_u64, hpb]; omega
          have HQb := Lib.hid hQb
          replace heqb := Lib.hid heqb
          clear hqb hrb hpb hQb
          go_wp2_with fail
          clear g1b g2b g3b
          clear a1 a2 a3 a4
          go_loopw [16, 18] (fun rv qv wr => ∃ qn rn : Nat, qv = .int .u64 qn ∧ rv = .int .u64 rn ∧ Hid (qn * Y1 + rn = R) ∧ qn ≤ 4294967297 ∧ Qb ≤ qn ∧ rn < 4294967296 ∧ Below W.heap.size W wr) (fun _ qv _ => (intOf qv).toNat)
          case atStart => exact ⟨qb, rb, rfl, rfl, heqb, hleb, hgeb, hrbb, by first | exact Below.refl _ _ | assumption⟩
          case round =>
            clear heqb hleb hgeb hrbb
            obtain ⟨qn, rn, rfl, rfl, heq, hle, hge, hrb, hv2⟩ := hrel
            by_cases hbig : (4294967296 : Int) ≤ (qn : Int)
            · have hlt : Qb < qn := by omega
              obtain ⟨p, hp⟩ : ∃ p, p + 1 = qn := ⟨qn - 1, by omega⟩
              have heq2 : p * Y1 + (rn + Y1) = R := by have h1 := heq.out; rw [← hp, Nat.add_mul] at h1; omega
              have HE2 := Lib.hid heq2
              clear heq2
              have g5 : IntKind.u64.wrap ((qn : Int) - 1) = (p : Int) := by rw [← wrap_u64 p (by omega)]; congr 1; omega
              obtain ⟨rs, hrs⟩ : ∃ rs, rs = rn + Y1 := ⟨_, rfl⟩
              rw [← hrs] at HE2
              have g6 : IntKind.u64.wrap ((rn : Int) + (Y1 : Int)) = (rs : Int) := by rw [← wrap_u64 rs (by omega)]; congr 1; omega
              have hp1 : p ≤ 4294967296 := by omega
              have hp2 : Qb ≤ p := by omega
              have hp3 : p < qn := by omega
              have hq1 : (1 : Int) ≤ (qn : Int) := by omega
              clear hrs hp hlt hle hge heq
              by_cases hbr : (4294967296 : Int) ≤ (rs : Int)
              · have he : Qb = p := Nat.le_antisymm hp2 (by rw [HQb.out]; exact dig_break HE2.out hp1 (by omega) b3 (by omega))
                subst he
                clear hp1 hp2
                obtain ⟨C1, hC1⟩ : ∃ C1, C1 = Qa * 4294967296 := ⟨_, rfl⟩
                have c1 : IntKind.u64.wrap ((Qa : Int) * 4294967296) = (C1 : Int) := by rw [← wrap_u64 C1 (by omega), hC1]; simp
                have c2 : IntKind.u64.wrap ((C1 : Int) + (Qb : Int)) = (X : Int) := by
                  have h1 := hQ.out
                  rw [hYs.out, ← HQa.out, ← hYs.out, ← HR.out, hYs.out, ← HQb.out] at h1
                  rw [← wrap_u64 X (by omega)]; congr 1; omega
                clear hC1
                go_wp2_with fail
                go_returns
                exact ⟨_, by rw [← HX.out]; rfl, by assumption⟩
              · have HP1 := Lib.hid hp1
                have HP2 := Lib.hid hp2
                have HP3 := Lib.hid hp3
                clear hp1 hp2 hp3
                go_wp2_with fail
                have hp3 := HP3.out
                refine ⟨⟨p, rs, rfl, rfl, HE2, by have := HP1.out; omega, HP2.out, by omega, by assumption⟩, by simp [intOf]; omega⟩
            · obtain ⟨pm, hpm⟩ : ∃ pm, pm = qn * Y0 := ⟨_, rfl⟩
              have hpb : pm < 18446744073709551616 := by
                rw [hpm]
                have h1 : qn * Y0 ≤ 4294967295 * 4294967295 := Nat.mul_le_mul (by omega) (by omega)
                omega
              have g4 : IntKind.u64.wrap ((qn : Int) * (Y0 : Int)) = (pm : Int) := by rw [← wrap_u64 pm hpb, hpm]; simp
              by_cases hc : (4294967296 : Int) * (rn : Int) + (D0 : Int) < (pm : Int)
              · have hlt : Qb < qn := by rw [HQb.out]; exact dig_hi heq.out (by rw [← hpm]; omega) (by omega)
                clear hpm
                obtain ⟨p, hp⟩ : ∃ p, p + 1 = qn := ⟨qn - 1, by omega⟩
                have heq2 : p * Y1 + (rn + Y1) = R := by have h1 := heq.out; rw [← hp, Nat.add_mul] at h1; omega
                have HE2 := Lib.hid heq2
                clear heq2
                have g5 : IntKind.u64.wrap ((qn : Int) - 1) = (p : Int) := by rw [← wrap_u64 p (by omega)]; congr 1; omega
                obtain ⟨rs, hrs⟩ : ∃ rs, rs = rn + Y1 := ⟨_, rfl⟩
                rw [← hrs] at HE2
                have g6 : IntKind.u64.wrap ((rn : Int) + (Y1 : Int)) = (rs : Int) := by rw [← wrap_u64 rs (by omega)]; congr 1; omega
                have hp1 : p ≤ 4294967296 := by omega
                have hp2 : Qb ≤ p := by omega
                have hp3 : p < qn := by omega
                have hq1 : (1 : Int) ≤ (qn : Int) := by omega
                clear hrs hp hlt hle hge heq
                by_cases hbr : (4294967296 : Int) ≤ (rs : Int)
                · have he : Qb = p := Nat.le_antisymm hp2 (by rw [HQb.out]; exact dig_break HE2.out hp1 (by omega) b3 (by omega))
                  subst he
                  clear hp1 hp2
                  obtain ⟨C1, hC1⟩ : ∃ C1, C1 = Qa * 4294967296 := ⟨_, rfl⟩
                  have c1 : IntKind.u64.wrap ((Qa : Int) * 4294967296) = (C1 : Int) := by rw [← wrap_u64 C1 (by omega), hC1]; simp
                  have c2 : IntKind.u64.wrap ((C1 : Int) + (Qb : Int)) = (X : Int) := by
                    have h1 := hQ.out
                    rw [hYs.out, ← HQa.out, ← hYs.out, ← HR.out, hYs.out, ← HQb.out] at h1
                    rw [← wrap_u64 X (by omega)]; congr 1; omega
                  clear hC1
                  go_wp2_with fail
                  go_returns
                  exact ⟨_, by rw [← HX.out]; rfl, by assumption⟩
                · have HP1 := Lib.hid hp1
                  have HP2 := Lib.hid hp2
                  have HP3 := Lib.hid hp3
                  clear hp1 hp2 hp3
                  go_wp2_with fail
                  have hp3 := HP3.out
                  refine ⟨⟨p, rs, rfl, rfl, HE2, by have := HP1.out; omega, HP2.out, by omega, by assumption⟩, by simp [intOf]; omega⟩
              · have he : Qb = qn := Nat.le_antisymm hge (by rw [HQb.out]; exact dig_le heq.out (by rw [← hpm]; omega) (by omega))
                subst he
                clear hpm hle hge
                obtain ⟨C1, hC1⟩ : ∃ C1, C1 = Qa * 4294967296 := ⟨_, rfl⟩
                have c1 : IntKind.u64.wrap ((Qa : Int) * 4294967296) = (C1 : Int) := by rw [← wrap_u64 C1 (by omega), hC1]; simp
                have c2 : IntKind.u64.wrap ((C1 : Int) + (Qb : Int)) = (X : Int) := by
                  have h1 := hQ.out
                  rw [hYs.out, ← HQa.out, ← hYs.out, ← HR.out, hYs.out, ← HQb.out] at h1
                  rw [← wrap_u64 X (by omega)]; congr 1; omega
                clear hC1
                go_wp2_with fail
                go_returns
                exact ⟨_, by rw [← HX.out]; rfl, by assumption⟩
        · have HP1 := Lib.hid hp1
          have HP2 := Lib.hid hp2
          have HP3 := Lib.hid hp3
          clear hp1 hp2 hp3
          go_wp2_with fail
          have hp3 := HP3.out
          refine ⟨⟨p, rs, rfl, rfl, HE2, by have := HP1.out; omega, HP2.out, by omega, by assumption⟩, by simp [intOf]; omega⟩
      · obtain ⟨pm, hpm⟩ : ∃ pm, pm = qn * Y0 := ⟨_, rfl⟩
        have hpb : pm < 18446744073709551616 := by
          rw [hpm]
          have h1 : qn * Y0 ≤ 4294967295 * 4294967295 := Nat.mul_le_mul (by omega) (by omega)
          omega
        have g4 : IntKind.u64.wrap ((qn : Int) * (Y0 : Int)) = (pm : Int) := by rw [← wrap_u64 pm hpb, hpm]; simp
        by_cases hc : (4294967296 : Int) * (rn : Int) + (D1 : Int) < (pm : Int)
        · have hlt : Qa < qn := by rw [HQa.out]; exact dig_hi heq.out (by rw [← hpm]; omega) (by omega)
          clear hpm
          obtain ⟨p, hp⟩ : ∃ p, p + 1 = qn := ⟨qn - 1, by omega⟩
          have heq2 : p * Y1 + (rn + Y1) = U := by have h1 := heq.out; rw [← hp, Nat.add_mul] at h1; omega
          have HE2 := Lib.hid heq2
          clear heq2
          have g5 : IntKind.u64.wrap ((qn : Int) - 1) = (p : Int) := by rw [← wrap_u64 p (by omega)]; congr 1; omega
          obtain ⟨rs, hrs⟩ : ∃ rs, rs = rn + Y1 := ⟨_, rfl⟩
          rw [← hrs] at HE2
          have g6 : IntKind.u64.wrap ((rn : Int) + (Y1 : Int)) = (rs : Int) := by rw [← wrap_u64 rs (by omega)]; congr 1; omega
          have hp1 : p ≤ 4294967296 := by omega
          have hp2 : Qa ≤ p := by omega
          have hp3 : p < qn := by omega
          have hq1 : (1 : Int) ≤ (qn : Int) := by omega
          clear hrs hp hlt hle hge heq
          by_cases hbr : (4294967296 : Int) ≤ (rs : Int)
          · have he : Qa = p := Nat.le_antisymm hp2 (by rw [HQa.out]; exact dig_break HE2.out hp1 (by omega) b3 (by omega))
            subst he
            clear hp1 hp2
            obtain ⟨R, hR⟩ : ∃ R, R = (U * 4294967296 + D1) % Y := ⟨_, rfl⟩
            have hRY : R < Y := by rw [hR]; exact Nat.mod_lt _ (by omega)
            have hdm : Qa * Y + R = U * 4294967296 + D1 := by rw [HQa.out, ← hYs.out, hR, Nat.mul_comm]; exact Nat.div_add_mod _ _
            obtain ⟨A1, hA1⟩ : ∃ A1, A1 = U * 4294967296 % 18446744073709551616 := ⟨_, rfl⟩
            obtain ⟨A2, hA2⟩ : ∃ A2, A2 = (A1 + D1) % 18446744073709551616 := ⟨_, rfl⟩
            obtain ⟨P3, hP3⟩ : ∃ P3, P3 = Qa * Y % 18446744073709551616 := ⟨_, rfl⟩
            have a1 : IntKind.u64.wrap ((U : Int) * 4294967296) = (A1 : Int) := by rw [IntKind.wrap_u64, hA1]; omega
            have a2 : IntKind.u64.wrap ((A1 : Int) + (D1 : Int)) = (A2 : Int) := by rw [IntKind.wrap_u64, hA2]; omega
            have a3 : IntKind.u64.wrap ((Qa : Int) * (Y : Int)) = (P3 : Int) := by rw [IntKind.wrap_u64, hP3]; simp
            have a4 : IntKind.u64.wrap ((A2 : Int) - (P3 : Int)) = (R : Int) := by rw [IntKind.wrap_u64]; omega
            have HR := Lib.hid hR
            clear hR hA1 hA2 hP3 hdm
            obtain ⟨qb, hqb⟩ : ∃ q, q = R / Y1 := ⟨_, rfl⟩
            obtain ⟨rb, hrb⟩ : ∃ r, r = R % Y1 := ⟨_, rfl⟩
            obtain ⟨pb, hpb⟩ : ∃ p, p = qb * Y1 := ⟨_, rfl⟩
            obtain ⟨Qb, hQb⟩ : ∃ Q, Q = (R * 4294967296 + D0) / (Y1 * 4294967296 + Y0) := ⟨_, rfl⟩
            have heqb : qb * Y1 + rb = R := by rw [hqb, hrb]; exact dig_first_eq _ _
            have hleb : qb ≤ 4294967297 := by rw [hqb]; exact dig_first_le (Y0 := Y0) (by rw [← hYs.out]; assumption) b3 b1
            have hgeb : Qb ≤ qb := by rw [hQb, hqb]; exact dig_first (by assumption) (by omega)
            have hrbb : rb < 4294967296 := by rw [hrb]; have := Nat.mod_lt R (show 0 < Y1 by omega); omega
            have hqsb : Qb < 4294967296 := by rw [hQb]; exact dig_big (by rw [← hYs.out]; assumption) (by assumption) (Nat.le_refl _)
            have g1b : IntKind.u64.wrap ((R : Int) / (Y1 : Int)) = (qb : Int) := by rw [hqb, ← wrap_u64 (R / Y1) (by rw [← hqb]; omega)]; simp
            have g2b : IntKind.u64.wrap ((qb : Int) * (Y1 : Int)) = (pb : Int) := by rw [← wrap_u64 pb (by rw [hpb]; omega), hpb]; simp
            have g3b : IntKind.u64.wrap ((R : Int) - (pb : Int)) = (rb : Int) := by rw [IntKind.wrap_u64, hpb]; omega
            have HQb := Lib.hid hQb
            replace heqb := Lib.hid heqb
            clear hqb hrb hpb hQb
            go_wp2_with fail
            clear g1b g2b g3b
            clear a1 a2 a3 a4
            go_loopw [16, 18] (fun rv qv wr => ∃ qn rn : Nat, qv = .int .u64 qn ∧ rv = .int .u64 rn ∧ Hid (qn * Y1 + rn = R) ∧ qn ≤ 4294967297 ∧ Qb ≤ qn ∧ rn < 4294967296 ∧ Below W.heap.size W wr) (fun _ qv _ => (intOf qv).toNat)
            case atStart => exact ⟨qb, rb, rfl, rfl, heqb, hleb, hgeb, hrbb, by first | exact Below.refl _ _ | assumption⟩
            case round =>
              clear heqb hleb hgeb hrbb
              obtain ⟨qn, rn, rfl, rfl, heq, hle, hge, hrb, hv2⟩ := hrel
              by_cases hbig : (4294967296 : Int) ≤ (qn : Int)
              · have hlt : Qb < qn := by omega
                obtain ⟨p, hp⟩ : ∃ p, p + 1 = qn := ⟨qn - 1, by omega⟩
                have heq2 : p * Y1 + (rn + Y1) = R := by have h1 := heq.out; rw [← hp, Nat.add_mul] at h1; omega
                have HE2 := Lib.hid heq2
                clear heq2
                have g5 : IntKind.u64.wrap ((qn : Int) - 1) = (p : Int) := by rw [← wrap_u64 p (by omega)]; congr 1; omega
                obtain ⟨rs, hrs⟩ : ∃ rs, rs = rn + Y1 := ⟨_, rfl⟩
                rw [← hrs] at HE2
                have g6 : IntKind.u64.wrap ((rn : Int) + (Y1 : Int)) = (rs : Int) := by rw [← wrap_u64 rs (by omega)]; congr 1; omega
                have hp1 : p ≤ 4294967296 := by omega
                have hp2 : Qb ≤ p := by omega
                have hp3 : p < qn := by omega
                have hq1 : (1 : Int) ≤ (qn : Int) := by omega
                clear hrs hp hlt hle hge heq
                by_cases hbr : (4294967296 : Int) ≤ (rs : Int)
                · have he : Qb = p := Nat.le_antisymm hp2 (by rw [HQb.out]; exact dig_break HE2.out hp1 (by omega) b3 (by omega))
                  subst he
                  clear hp1 hp2
                  obtain ⟨C1, hC1⟩ : ∃ C1, C1 = Qa * 4294967296 := ⟨_, rfl⟩
                  have c1 : IntKind.u64.wrap ((Qa : Int) * 4294967296) = (C1 : Int) := by rw [← wrap_u64 C1 (by omega), hC1]; simp
                  have c2 : IntKind.u64.wrap ((C1 : Int) + (Qb : Int)) = (X : Int) := by
                    have h1 := hQ.out
                    rw [hYs.out, ← HQa.out, ← hYs.out, ← HR.out, hYs.out, ← HQb.out] at h1
                    rw [← wrap_u64 X (by omega)]; congr 1; omega
                  clear hC1
                  go_wp2_with fail
                  go_returns
                  exact ⟨_, by rw [← HX.out]; rfl, by assumption⟩
                · have HP1 := Lib.hid hp1
                  have HP2 := Lib.hid hp2
                  have HP3 := Lib.hid hp3
                  clear hp1 hp2 hp3
                  go_wp2_with fail
                  have hp3 := HP3.out
                  refine ⟨⟨p, rs, rfl, rfl, HE2, by have := HP1.out; omega, HP2.out, by omega, by assumption⟩, by simp [intOf]; omega⟩
              · obtain ⟨pm, hpm⟩ : ∃ pm, pm = qn * Y0 := ⟨_, rfl⟩
                have hpb : pm < 18446744073709551616 := by
                  rw [hpm]
                  have h1 : qn * Y0 ≤ 4294967295 * 4294967295 := Nat.mul_le_mul (by omega) (by omega)
                  omega
                have g4 : IntKind.u64.wrap ((qn : Int) * (Y0 : Int)) = (pm : Int) := by rw [← wrap_u64 pm hpb, hpm]; simp
                by_cases hc : (4294967296 : Int) * (rn : Int) + (D0 : Int) < (pm : Int)
                · have hlt : Qb < qn := by rw [HQb.out]; exact dig_hi heq.out (by rw [← hpm]; omega) (by omega)
                  clear hpm
                  obtain ⟨p, hp⟩ : ∃ p, p + 1 = qn := ⟨qn - 1, by omega⟩
                  have heq2 : p * Y1 + (rn + Y1) = R := by have h1 := heq.out; rw [← hp, Nat.add_mul] at h1; omega
                  have HE2 := Lib.hid heq2
                  clear heq2
                  have g5 : IntKind.u64.wrap ((qn : Int) - 1) = (p : Int) := by rw [← wrap_u64 p (by omega)]; congr 1; omega
                  obtain ⟨rs, hrs⟩ : ∃ rs, rs = rn + Y1 := ⟨_, rfl⟩
                  rw [← hrs] at HE2
                  have g6 : IntKind.u64.wrap ((rn : Int) + (Y1 : Int)) = (rs : Int) := by rw [← wrap_u64 rs (by omega)]; congr 1; omega
                  have hp1 : p ≤ 4294967296 := by omega
                  have hp2 : Qb ≤ p := by omega
                  have hp3 : p < qn := by omega
                  have hq1 : (1 : Int) ≤ (qn : Int) := by omega
                  clear hrs hp hlt hle hge heq
                  by_cases hbr : (4294967296 : Int) ≤ (rs : Int)
                  · have he : Qb = p := Nat.le_antisymm hp2 (by rw [HQb.out]; exact dig_break HE2.out hp1 (by omega) b3 (by omega))
                    subst he
                    clear hp1 hp2
                    obtain ⟨C1, hC1⟩ : ∃ C1, C1 = Qa * 4294967296 := ⟨_, rfl⟩
                    have c1 : IntKind.u64.wrap ((Qa : Int) * 4294967296) = (C1 : Int) := by rw [← wrap_u64 C1 (by omega), hC1]; simp
                    have c2 : IntKind.u64.wrap ((C1 : Int) + (Qb : Int)) = (X : Int) := by
                      have h1 := hQ.out
                      rw [hYs.out, ← HQa.out, ← hYs.out, ← HR.out, hYs.out, ← HQb.out] at h1
                      rw [← wrap_u64 X (by omega)]; congr 1; omega
                    clear hC1
                    go_wp2_with fail
                    go_returns
                    exact ⟨_, by rw [← HX.out]; rfl, by assumption⟩
                  · have HP1 := Lib.hid hp1
                    have HP2 := Lib.hid hp2
                    have HP3 := Lib.hid hp3
                    clear hp1 hp2 hp3
                    go_wp2_with fail
                    have hp3 := HP3.out
                    refine ⟨⟨p, rs, rfl, rfl, HE2, by have := HP1.out; omega, HP2.out, by omega, by assumption⟩, by simp [intOf]; omega⟩
                · have he : Qb = qn := Nat.le_antisymm hge (by rw [HQb.out]; exact dig_le heq.out (by rw [← hpm]; omega) (by omega))
                  subst he
                  clear hpm hle hge
                  obtain ⟨C1, hC1⟩ : ∃ C1, C1 = Qa * 4294967296 := ⟨_, rfl⟩
                  have c1 : IntKind.u64.wrap ((Qa : Int) * 4294967296) = (C1 : Int) := by rw [← wrap_u64 C1 (by omega), hC1]; simp
                  have c2 : IntKind.u64.wrap ((C1 : Int) + (Qb : Int)) = (X : Int) := by
                    have h1 := hQ.out
                    rw [hYs.out, ← HQa.out, ← hYs.out, ← HR.out, hYs.out, ← HQb.out] at h1
                    rw [← wrap_u64 X (by omega)]; congr 1; omega
                  clear hC1
                  go_wp2_with fail
                  go_returns
                  exact ⟨_, by rw [← HX.out]; rfl, by assumption⟩
          · have HP1 := Lib.hid hp1
            have HP2 := Lib.hid hp2
            have HP3 := Lib.hid hp3
            clear hp1 hp2 hp3
            go_wp2_with fail
            have hp3 := HP3.out
            refine ⟨⟨p, rs, rfl, rfl, HE2, by have := HP1.out; omega, HP2.out, by omega, by assumption⟩, by simp [intOf]; omega⟩
        · have he : Qa = qn := Nat.le_antisymm hge (by rw [HQa.out]; exact dig_le heq.out (by rw [← hpm]; omega) (by omega))
          subst he
          clear hpm hle hge
          obtain ⟨R, hR⟩ : ∃ R, R = (U * 4294967296 + D1) % Y := ⟨_, rfl⟩
          have hRY : R < Y := by rw [hR]; exact Nat.mod_lt _ (by omega)
          have hdm : Qa * Y + R = U * 4294967296 + D1 := by rw [HQa.out, ← hYs.out, hR, Nat.mul_comm]; exact Nat.div_add_mod _ _
          obtain ⟨A1, hA1⟩ : ∃ A1, A1 = U * 4294967296 % 18446744073709551616 := ⟨_, rfl⟩
          obtain ⟨A2, hA2⟩ : ∃ A2, A2 = (A1 + D1) % 18446744073709551616 := ⟨_, rfl⟩
          obtain ⟨P3, hP3⟩ : ∃ P3, P3 = Qa * Y % 18446744073709551616 := ⟨_, rfl⟩
          have a1 : IntKind.u64.wrap ((U : Int) * 4294967296) = (A1 : Int) := by rw [IntKind.wrap_u64, hA1]; omega
          have a2 : IntKind.u64.wrap ((A1 : Int) + (D1 : Int)) = (A2 : Int) := by rw [IntKind.wrap_u64, hA2]; omega
          have a3 : IntKind.u64.wrap ((Qa : Int) * (Y : Int)) = (P3 : Int) := by rw [IntKind.wrap_u64, hP3]; simp
          have a4 : IntKind.u64.wrap ((A2 : Int) - (P3 : Int)) = (R : Int) := by rw [IntKind.wrap_u64]; omega
          have HR := Lib.hid hR
          clear hR hA1 hA2 hP3 hdm
          obtain ⟨qb, hqb⟩ : ∃ q, q = R / Y1 := ⟨_, rfl⟩
          obtain ⟨rb, hrb⟩ : ∃ r, r = R % Y1 := ⟨_, rfl⟩
          obtain ⟨pb, hpb⟩ : ∃ p, p = qb * Y1 := ⟨_, rfl⟩
          obtain ⟨Qb, hQb⟩ : ∃ Q, Q = (R * 4294967296 + D0) / (Y1 * 4294967296 + Y0) := ⟨_, rfl⟩
          have heqb : qb * Y1 + rb = R := by rw [hqb, hrb]; exact dig_first_eq _ _
          have hleb : qb ≤ 4294967297 := by rw [hqb]; exact dig_first_le (Y0 := Y0) (by rw [← hYs.out]; assumption) b3 b1
          have hgeb : Qb ≤ qb := by rw [hQb, hqb]; exact dig_first (by assumption) (by omega)
          have hrbb : rb < 4294967296 := by rw [hrb]; have := Nat.mod_lt R (show 0 < Y1 by omega); omega
          have hqsb : Qb < 4294967296 := by rw [hQb]; exact dig_big (by rw [← hYs.out]; assumption) (by assumption) (Nat.le_refl _)
          have g1b : IntKind.u64.wrap ((R : Int) / (Y1 : Int)) = (qb : Int) := by rw [hqb, ← wrap_u64 (R / Y1) (by rw [← hqb]; omega)]; simp
          have g2b : IntKind.u64.wrap ((qb : Int) * (Y1 : Int)) = (pb : Int) := by rw [← wrap_u64 pb (by rw [hpb]; omega), hpb]; simp
          have g3b : IntKind.u64.wrap ((R : Int) - (pb : Int)) = (rb : Int) := by rw [IntKind.wrap_u64, hpb]; omega
          have HQb := Lib.hid hQb
          replace heqb := Lib.hid heqb
          clear hqb hrb hpb hQb
          go_wp2_with fail
          clear g1b g2b g3b
          clear a1 a2 a3 a4
          go_loopw [16, 18] (fun rv qv wr => ∃ qn rn : Nat, qv = .int .u64 qn ∧ rv = .int .u64 rn ∧ Hid (qn * Y1 + rn = R) ∧ qn ≤ 4294967297 ∧ Qb ≤ qn ∧ rn < 4294967296 ∧ Below W.heap.size W wr) (fun _ qv _ => (intOf qv).toNat)
          case atStart => exact ⟨qb, rb, rfl, rfl, heqb, hleb, hgeb, hrbb, by first | exact Below.refl _ _ | assumption⟩
          case round =>
            clear heqb hleb hgeb hrbb
            obtain ⟨qn, rn, rfl, rfl, heq, hle, hge, hrb, hv2⟩ := hrel
            by_cases hbig : (4294967296 : Int) ≤ (qn : Int)
            · have hlt : Qb < qn := by omega
              obtain ⟨p, hp⟩ : ∃ p, p + 1 = qn := ⟨qn - 1, by omega⟩
              have heq2 : p * Y1 + (rn + Y1) = R := by have h1 := heq.out; rw [← hp, Nat.add_mul] at h1; omega
              have HE2 := Lib.hid heq2
              clear heq2
              have g5 : IntKind.u64.wrap ((qn : Int) - 1) = (p : Int) := by rw [← wrap_u64 p (by omega)]; congr 1; omega
              obtain ⟨rs, hrs⟩ : ∃ rs, rs = rn + Y1 := ⟨_, rfl⟩
              rw [← hrs] at HE2
              have g6 : IntKind.u64.wrap ((rn : Int) + (Y1 : Int)) = (rs : Int) := by rw [← wrap_u64 rs (by omega)]; congr 1; omega
              have hp1 : p ≤ 4294967296 := by omega
              have hp2 : Qb ≤ p := by omega
              have hp3 : p < qn := by omega
              have hq1 : (1 : Int) ≤ (qn : Int) := by omega
              clear hrs hp hlt hle hge heq
              by_cases hbr : (4294967296 : Int) ≤ (rs : Int)
              · have he : Qb = p := Nat.le_antisymm hp2 (by rw [HQb.out]; exact dig_break HE2.out hp1 (by omega) b3 (by omega))
                subst he
                clear hp1 hp2
                obtain ⟨C1, hC1⟩ : ∃ C1, C1 = Qa * 4294967296 := ⟨_, rfl⟩
                have c1 : IntKind.u64.wrap ((Qa : Int) * 4294967296) = (C1 : Int) := by rw [← wrap_u64 C1 (by omega), hC1]; simp
                have c2 : IntKind.u64.wrap ((C1 : Int) + (Qb : Int)) = (X : Int) := by
                  have h1 := hQ.out
                  rw [hYs.out, ← HQa.out, ← hYs.out, ← HR.out, hYs.out, ← HQb.out] at h1
                  rw [← wrap_u64 X (by omega)]; congr 1; omega
                clear hC1
                go_wp2_with fail
                go_returns
                exact ⟨_, by rw [← HX.out]; rfl, by assumption⟩
              · have HP1 := Lib.hid hp1
                have HP2 := Lib.hid hp2
                have HP3 := Lib.hid hp3
                clear hp1 hp2 hp3
                go_wp2_with fail
                have hp3 := HP3.out
                refine ⟨⟨p, rs, rfl, rfl, HE2, by have := HP1.out; omega, HP2.out, by omega, by assumption⟩, by simp [intOf]; omega⟩
            · obtain ⟨pm, hpm⟩ : ∃ pm, pm = qn * Y0 := ⟨_, rfl⟩
              have hpb : pm < 18446744073709551616 := by
                rw [hpm]
                have h1 : qn * Y0 ≤ 4294967295 * 4294967295 := Nat.mul_le_mul (by omega) (by omega)
                omega
              have g4 : IntKind.u64.wrap ((qn : Int) * (Y0 : Int)) = (pm : Int) := by rw [← wrap_u64 pm hpb, hpm]; simp
              by_cases hc : (4294967296 : Int) * (rn : Int) + (D0 : Int) < (pm : Int)
              · have hlt : Qb < qn := by rw [HQb.out]; exact dig_hi heq.out (by rw [← hpm]; omega) (by omega)
                clear hpm
                obtain ⟨p, hp⟩ : ∃ p, p + 1 = qn := ⟨qn - 1, by omega⟩
                have heq2 : p * Y1 + (rn + Y1) = R := by have h1 := heq.out; rw [← hp, Nat.add_mul] at h1; omega
                have HE2 := Lib.hid heq2
                clear heq2
                have g5 : IntKind.u64.wrap ((qn : Int) - 1) = (p : Int) := by rw [← wrap_u64 p (by omega)]; congr 1; omega
                obtain ⟨rs, hrs⟩ : ∃ rs, rs = rn + Y1 := ⟨_, rfl⟩
                rw [← hrs] at HE2
                have g6 : IntKind.u64.wrap ((rn : Int) + (Y1 : Int)) = (rs : Int) := by rw [← wrap_u64 rs (by omega)]; congr 1; omega
                have hp1 : p ≤ 4294967296 := by omega
                have hp2 : Qb ≤ p := by omega
                have hp3 : p < qn := by omega
                have hq1 : (1 : Int) ≤ (qn : Int) := by omega
                clear hrs hp hlt hle hge heq
                by_cases hbr : (4294967296 : Int) ≤ (rs : Int)
                · have he : Qb = p := Nat.le_antisymm hp2 (by rw [HQb.out]; exact dig_break HE2.out hp1 (by omega) b3 (by omega))
                  subst he
                  clear hp1 hp2
                  obtain ⟨C1, hC1⟩ : ∃ C1, C1 = Qa * 4294967296 := ⟨_, rfl⟩
                  have c1 : IntKind.u64.wrap ((Qa : Int) * 4294967296) = (C1 : Int) := by rw [← wrap_u64 C1 (by omega), hC1]; simp
                  have c2 : IntKind.u64.wrap ((C1 : Int) + (Qb : Int)) = (X : Int) := by
                    have h1 := hQ.out
                    rw [hYs.out, ← HQa.out, ← hYs.out, ← HR.out, hYs.out, ← HQb.out] at h1
                    rw [← wrap_u64 X (by omega)]; congr 1; omega
                  clear hC1
                  go_wp2_with fail
                  go_returns
                  exact ⟨_, by rw [← HX.out]; rfl, by assumption⟩
                · have HP1 := Lib.hid hp1
                  have HP2 := Lib.hid hp2
                  have HP3 := Lib.hid hp3
                  clear hp1 hp2 hp3
                  go_wp2_with fail
                  have hp3 := HP3.out
                  refine ⟨⟨p, rs, rfl, rfl, HE2, by have := HP1.out; omega, HP2.out, by omega, by assumption⟩, by simp [intOf]; omega⟩
              · have he : Qb = qn := Nat.le_antisymm hge (by rw [HQb.out]; exact dig_le heq.out (by rw [← hpm]; omega) (by omega))
                subst he
                clear hpm hle hge
                obtain ⟨C1, hC1⟩ : ∃ C1, C1 = Qa * 4294967296 := ⟨_, rfl⟩
                have c1 : IntKind.u64.wrap ((Qa : Int) * 4294967296) = (C1 : Int) := by rw [← wrap_u64 C1 (by omega), hC1]; simp
                have c2 : IntKind.u64.wrap ((C1 : Int) + (Qb : Int)) = (X : Int) := by
                  have h1 := hQ.out
                  rw [hYs.out, ← HQa.out, ← hYs.out, ← HR.out, hYs.out, ← HQb.out] at h1
                  rw [← wrap_u64 X (by omega)]; congr 1; omega
                clear hC1
                go_wp2_with fail
                go_returns
                exact ⟨_, by rw [← HX.out]; rfl, by assumption⟩

end Go.Proofs.Ytopbiihiogbhiaa
