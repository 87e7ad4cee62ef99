/- The library's stable sort on at most 30 places. -/
import Derived.Test.YtggficacnmddiaaSrtE
namespace Go.Proofs.Ytggficacnmddiaa
open Go.RowKit

theorem crs_of_up {key : Int → Int} {a b c d : List Int} (h : (a ++ b).Pairwise (fun x y => x < y)) (ha : c.Perm a) (hb : d.Perm b) : Crs key c d :=
  fun x hx y hy _ => (List.pairwise_append.1 h).2.2 x (ha.mem_iff.1 hx) y (hb.mem_iff.1 hy)
set_option maxRecDepth 100000 in
set_option maxHeartbeats 6400000 in
theorem stable_c {gb nn cc g : Nat} {A0 : Option Addr} {xs : List Order} (base n c : Nat) (L : List Int) (hL : Hid (L.length = n)) (hn : n ≤ 30) (hs : Hid (L.Pairwise (fun x y => x < y))) (hi : Hid (InR xs L)) (w : World) (hC : Cx gb A0 xs nn cc g w) (hD : Dat base g n c w L) :
    Calls Try.prog 45 #[.slice (some ⟨g, 0, none⟩) n c, .int .i64 n, (.func (.func 38) #[] #[.pointer (some ⟨gb, 0, none⟩)])] w (TurnedS base g n c (fun l => l.Perm L ∧ Lx (dueK xs) l) w) := by
  have hz : (n : Int) ≤ 1048576 := by omega
  go_enter Try.func45, Try.ntmps45
  go_wp2_with fail
  go_loopw [7, 8] (fun av bv wr => ∃ a b : Nat, ∃ M S : List Int, av = .int .i64 a ∧ bv = .int .i64 b ∧ Hid (∃ S0, L = S0 ++ S ∧ M.Perm S0 ∧ Lx (dueK xs) M ∧ S0.length = a) ∧ (a = 0 ∧ b = 20 ∨ a = 20 ∧ b = 40 ∧ 20 ≤ n) ∧ Dat base g n c wr (M ++ S) ∧ w.grownBy wr (some g)) (fun _ bv _ => 60 - (intOf bv).toNat)
  case atStart => exact ⟨0, 20, [], L, rfl, rfl, Lib.hid ⟨[], rfl, List.Perm.refl _, lx_nil, rfl⟩, .inl ⟨rfl, rfl⟩, by simpa using hD, World.grownBy.refl _ _⟩
  case round =>
    clear hD
    obtain ⟨a, b, M, S, rfl, rfl, hM, hab, hD, hg⟩ := hrel
    by_cases hlt : b ≤ n
    · obtain ⟨rfl, rfl⟩ : a = 0 ∧ b = 20 := by omega
      obtain ⟨S1, S2, hS12, hS1⟩ : ∃ S1 S2, S = S1 ++ S2 ∧ S1.length = 20 := by
        obtain ⟨S0, h1, _, _, h4⟩ := hM.out
        have h2 := hL.out
        rw [h1] at h2; simp at h2
        exact ⟨S.take 20, S.drop 20, (List.take_append_drop _ _).symm, by simp; omega⟩
      subst hS12
      have HL : Hid (M = [] ∧ L = S1 ++ S2) := Lib.hid (by
        obtain ⟨S0, h1, h2, _, h4⟩ := hM.out
        have : S0 = [] := List.eq_nil_of_length_eq_zero h4
        subst this
        exact ⟨List.Perm.eq_nil h2, by simpa using h1⟩)
      have hM0 := HL.out.1
      subst hM0
      clear hM hab
      go_wp2_with fail
      refine (insertion_c base n c [] S1 S2 0 20 (Lib.hid rfl) (Lib.hid (by omega)) hlt hz (Lib.hid (by have h := hs.out; rw [HL.out.2] at h; exact (List.pairwise_append.1 h).1)) (Lib.hid (hi.out.sub (by rw [HL.out.2]; intro x hx; exact List.mem_append_left _ hx))) _ (hC.grown hg) (by simpa using hD)).mono ?_
      rintro e W ⟨l, ⟨M1, rfl, hp1, hs1⟩, rfl, hD1, hg1⟩
      have HP := Lib.hid hp1
      have HS := Lib.hid hs1
      clear hp1 hs1
      go_wp2_with fail
      go_roundw
      case rel => exact ⟨20, 40, M1, S2, by go_num, by go_num, Lib.hid ⟨S1, HL.out.2, HP.out, HS.out, hS1⟩, .inr ⟨rfl, rfl, by omega⟩, by simpa using hD1, grown_trans hg hg1⟩
      case measure => simp [intOf]
    · obtain ⟨S0, hS0, hp0, hs0, hl0⟩ := hM.out
      have hlS : a + S.length = n := by have h2 := hL.out; rw [hS0] at h2; simp at h2; omega
      have HS0 := Lib.hid hS0
      have HP0 := Lib.hid hp0
      have HX0 := Lib.hid hs0
      have HL0 := Lib.hid hl0
      have HLS := Lib.hid hlS
      clear hM hS0 hp0 hs0 hl0 hlS
      go_wp2_with fail
      refine (insertion_c base n c M S [] a n (Lib.hid (by rw [HP0.out.length_eq]; exact HL0.out)) HLS (Nat.le_refl _) hz (Lib.hid (by have h := hs.out; rw [HS0.out] at h; exact (List.pairwise_append.1 h).2.1)) (Lib.hid (hi.out.sub (by rw [HS0.out]; intro x hx; exact List.mem_append_right _ hx))) _ (hC.grown hg) (by simpa using hD)).mono ?_
      rintro e W ⟨l, ⟨M2, rfl, hp2, hs2⟩, rfl, hD2, hg2⟩
      replace hg := grown_trans hg hg2
      have HP2 := Lib.hid hp2
      have HX2 := Lib.hid hs2
      have HC : Hid (Crs (dueK xs) M M2) := Lib.hid (by have h := hs.out; rw [HS0.out] at h; exact crs_of_up h HP0.out HP2.out)
      clear hp2 hs2 hD hg2
      have HD := Lib.hid hD2
      clear hD2
      go_wp2_with fail
      obtain ⟨wo, rfl⟩ : ∃ wo : World, wo = W := ⟨_, rfl⟩
      go_loopw [6] (fun sv wr => ∃ s : Nat, ∃ l : List Int, sv = .int .i64 s ∧ Hid (l.Perm L) ∧ (s = 20 ∨ s = 40) ∧ Hid (s = 40 ∨ n ≤ 20 → Lx (dueK xs) l) ∧ Hid (s = 20 → 20 < n → l = M ++ M2 ∧ a = 20) ∧ Dat base g n c wr l ∧ w.grownBy wr (some g)) (fun sv _ => 60 - (intOf sv).toNat)
      case atStart =>
        refine ⟨20, M ++ M2, by go_num, Lib.hid ?_, .inl rfl, Lib.hid (fun h => ?_), Lib.hid (fun _ h => ⟨rfl, by omega⟩), by simpa using HD.out, hg⟩
        · rw [HS0.out]; exact HP0.out.append HP2.out
        · have h1 := HL0.out; have h2 := HLS.out
          rcases hab with ⟨h3, _⟩ | ⟨h3, _⟩
          · have : M = [] := List.eq_nil_of_length_eq_zero (by rw [HP0.out.length_eq]; omega)
            rw [this]; simpa using HX2.out
          · have : M2 = [] := List.eq_nil_of_length_eq_zero (by rw [HP2.out.length_eq]; omega)
            rw [this]; simpa using HX0.out
      case round =>
        clear hg HD
        obtain ⟨s, l, rfl, hp, hs2, hx, hm, hD, hg⟩ := hrel
        by_cases hlt2 : s < n
        · obtain rfl : s = 20 := by omega
          obtain ⟨hl, ha⟩ := hm.out rfl hlt2
          subst hl
          have HA := Lib.hid ha
          have h20 : (20 : Int) < (n : Int) := by omega
          have h40 : ¬ (40 : Int) ≤ (n : Int) := by omega
          clear hm hx hp hs2 ha
          go_wp2_with fail
          go_loopw [7, 8] (fun av bv wq => av = .int .i64 0 ∧ bv = .int .i64 40 ∧ Dat base g n c wq (M ++ M2) ∧ w.grownBy wq (some g)) (fun _ _ _ => 0)
          case atStart => exact ⟨by go_num, by go_num, hD, hg⟩
          case round =>
            clear hD hg
            obtain ⟨rfl, rfl, hD, hg⟩ := hrel
            go_wp2_with fail
            refine (sym_c base n c hz (M.length + M2.length) [] M M2 [] 0 20 n (Nat.le_refl _) (by rw [HP0.out.length_eq, HL0.out, HA.out]; omega) (by rw [HP2.out.length_eq]; have := HLS.out; have := HA.out; omega) (Lib.hid rfl) (Lib.hid (by rw [HP0.out.length_eq, HL0.out, HA.out])) (Lib.hid (by rw [HP2.out.length_eq]; have := HLS.out; have := HA.out; omega)) HX0 HX2 HC (Lib.hid (hi.out.sub (by rw [HS0.out]; intro x hx; exact (HP0.out.append HP2.out).mem_iff.1 hx))) (Nat.le_refl _) _ (hC.grown hg) (by simpa using hD)).mono ?_
            rintro e W3 ⟨l, ⟨M3, rfl, hp3, hs3⟩, rfl, hD3, hg3⟩
            have HP3 := Lib.hid hp3
            have HX3 := Lib.hid hs3
            clear hp3 hs3
            go_wp2_with fail
            go_roundw
            case rel => exact ⟨40, M3, by go_num, Lib.hid (HP3.out.trans (by rw [HS0.out]; exact HP0.out.append HP2.out)), .inr rfl, Lib.hid (fun _ => HX3.out), Lib.hid (fun h => by omega), by simpa using hD3, grown_trans hg hg3⟩
            case measure => simp [intOf]
        · go_wp2_with fail
          go_end0
          exact ⟨l, ⟨hp.out, hx.out (by omega)⟩, rfl, hD, hg⟩
theorem sortStable_c {gb nn cc g : Nat} {A0 : Option Addr} {xs : List Order} (base n c : Nat) (L : List Int) (hL : Hid (L.length = n)) (hn : n ≤ 30) (hs : Hid (L.Pairwise (fun x y => x < y))) (hi : Hid (InR xs L)) (w : World) (hC : Cx gb A0 xs nn cc g w) (hD : Dat base g n c w L) :
    Calls Try.prog 37 #[.slice (some ⟨g, 0, none⟩) n c, (.func (.func 38) #[] #[.pointer (some ⟨gb, 0, none⟩)])] w (TurnedS base g n c (fun l => l.Perm L ∧ Lx (dueK xs) l) w) := by
  go_enter Try.func37, Try.ntmps37
  go_wp2_with fail
  refine (stable_c base n c L hL hn hs hi _ hC hD).mono ?_
  rintro e W ⟨l, h, rfl, hD3, hg3⟩
  go_wp2_with fail
  go_end0
  exact ⟨l, h, rfl, hD3, hg3⟩
end Go.Proofs.Ytggficacnmddiaa
