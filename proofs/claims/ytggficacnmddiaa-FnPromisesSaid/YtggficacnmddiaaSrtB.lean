/- The library's stable sort on places: the comparison, insertion. -/
import Derived.Test.YtggficacnmddiaaSrtA
import Derived.Test.YtggficacnmddiaaOrdE
namespace Go.Proofs.Ytggficacnmddiaa
open Go.RowKit

def dueK (xs : List Order) (x : Int) : Int := (xs[x.toNat]?.map (·.due)).getD 0
def InR (xs : List Order) (l : List Int) : Prop := ∀ x ∈ l, ∃ k : Nat, x = (k : Int) ∧ k < xs.length
/-- What the comparison reads. -/
def Cx (gb : Nat) (A : Option Addr) (xs : List Order) (nn cc g : Nat) (w : World) : Prop := Blk w gb 24 #[.slice A nn cc] ∧ Arr w A (flat Order.cells xs) ∧ gb ≠ g ∧ (∀ ad, A = some ad → xs ≠ [] → ad.block ≠ g) ∧ xs.length = nn ∧ (nn : Int) ≤ 1048576
theorem Cx.grown {gb nn cc g : Nat} {A : Option Addr} {xs : List Order} {w w' : World} (h : Cx gb A xs nn cc g w) (hg : w.grownBy w' (some g)) : Cx gb A xs nn cc g w' :=
  ⟨h.1.grown hg (fun e => h.2.2.1 (by injection e)), (by
    by_cases hx : xs = []
    · subst hx; exact Arr.nil _ _
    · exact h.2.1.grown hg (fun ad e e' => h.2.2.2.1 ad e hx (by injection e'))), h.2.2⟩
theorem Cx.drewN {gb nn cc g : Nat} {A : Option Addr} {xs : List Order} {w : World} (h : Cx gb A xs nn cc g w) (m : Nat) : Cx gb A xs nn cc g (w.drewN m) := h.grown (grown_drewN (World.grownBy.refl _ _) m)
theorem cmp_at {gb nn cc g : Nat} {A : Option Addr} {xs : List Order} {w : World} (k j : Nat) (hk : k < xs.length) (hj : j < xs.length) (h : Cx gb A xs nn cc g w) :
    Calls Try.prog 38 #[.int .i64 k, .int .i64 j, .pointer (some ⟨gb, 0, none⟩)] w (fun e w' => e = .returned (.int .i64 (cmpI (dueK xs k) (dueK xs j))) ∧ ∃ q, w' = w.drewN q) := by
  obtain ⟨hB, hA, _, _, hn, hm⟩ := h
  obtain ⟨x, hx⟩ := get_of_lt hk
  obtain ⟨y, hy⟩ := get_of_lt hj
  obtain ⟨ad, rfl, hab, c0, c1, c2, c3, c4, c5⟩ := Order.at_ hA hx
  obtain ⟨ad', e', hab', d0, d1, d2, d3, d4, d5⟩ := Order.at_ hA hy
  injection e' with e'
  subst e'
  have k0 : w.cell? ⟨gb, 0, none⟩ = some (.slice (some ad) nn cc) := hB.cell 0
  have ex : dueK xs k = x.due := by unfold dueK; simp [hx]
  have ey : dueK xs j = y.due := by unfold dueK; simp [hy]
  rw [ex, ey]
  have hk0 : (0 : Int) ≤ (k : Int) := by omega
  have hk1 : (k : Int) < (nn : Int) := by omega
  have hj0 : (0 : Int) ≤ (j : Int) := by omega
  have hj1 : (j : Int) < (nn : Int) := by omega
  clear ex ey hx hy hk hj hn
  go_enter Try.func38, Try.ntmps38
  go_wp2_with fail
  go_quiet (first | (go_at_call 39; exact Calls.quiet_of_same (compare_c _ _ _)))
  go_wp2_with fail
  go_returns
  exact ⟨rfl, _, rfl⟩
theorem cmp_c {gb nn cc g : Nat} {A : Option Addr} {xs : List Order} {w : World} (x y : Int) (l : List Int) (hl : InR xs l) (hx : x ∈ l) (hy : y ∈ l) (h : Cx gb A xs nn cc g w) (m : Nat) :
    Calls Try.prog 38 #[.int .i64 x, .int .i64 y, .pointer (some ⟨gb, 0, none⟩)] (w.drewN m) (fun e w' => e = .returned (.int .i64 (cmpI (dueK xs x) (dueK xs y))) ∧ ∃ q, w' = (w.drewN m).drewN q) := by
  obtain ⟨k, rfl, hk⟩ := hl x hx
  obtain ⟨j, rfl, hj⟩ := hl y hy
  exact cmp_at k j hk hj (h.drewN m)

def TurnedS (base g n c : Nat) (R : List Int → Prop) (w : World) (e : Ending) (w' : World) : Prop := ∃ l, R l ∧ Turned base g n c l w e w'
set_option maxRecDepth 100000 in
set_option maxHeartbeats 3200000 in
theorem insertion_c {gb nn cc g : Nat} {A : Option Addr} {xs : List Order} (base n c : Nat) (P S R : List Int) (a b : Nat) (hP : Hid (P.length = a)) (hS : Hid (a + S.length = b)) (hb : b ≤ n) (hz : (n : Int) ≤ 1048576) (hs : Hid (S.Pairwise (fun x y => x < y))) (hi : Hid (InR xs S)) (w : World) (hC : Cx gb A xs nn cc g w) (hD : Dat base g n c w (P ++ S ++ R)) :
    Calls Try.prog 50 #[.slice (some ⟨g, 0, none⟩) n c, .int .i64 a, .int .i64 b, (.func (.func 38) #[] #[.pointer (some ⟨gb, 0, none⟩)])] w (TurnedS base g n c (fun l => ∃ M, l = P ++ M ++ R ∧ M.Perm S ∧ Lx (dueK xs) M) w) := by
  go_enter Try.func50, Try.ntmps50
  have hab : a ≤ b := by have := hS.out; omega
  go_wp2_with fail
  go_loopw [8] (fun iv wr => ∃ i : Nat, ∃ M S1 S2 : List Int, iv = .int .i64 i ∧ a < i ∧ i ≤ b + 1 ∧ Hid (S = S1 ++ S2) ∧ Hid (M.Perm S1) ∧ Hid (Lx (dueK xs) M) ∧ Hid (i < b → a + S1.length = i) ∧ (b ≤ i → S2 = []) ∧ Dat base g n c wr (P ++ M ++ S2 ++ R) ∧ w.grownBy wr (some g)) (fun iv _ => b + 1 - (intOf iv).toNat)
  case atStart =>
    have h0 := hS.out
    cases S with
    | nil => exact ⟨a + 1, [], [], [], by go_num, by omega, by omega, Lib.hid rfl, Lib.hid (List.Perm.refl _), Lib.hid lx_nil, Lib.hid (fun h => by simp at h0; omega), fun _ => rfl, by simpa using hD, World.grownBy.refl _ _⟩
    | cons s S' =>
      refine ⟨a + 1, [s], [s], S', by go_num, by omega, by simp at h0; omega, Lib.hid rfl, Lib.hid (List.Perm.refl _), Lib.hid (lx_one s), Lib.hid (fun h => by simp), fun h => ?_, by simpa using hD, World.grownBy.refl _ _⟩
      simp only [List.length_cons] at h0
      exact List.eq_nil_of_length_eq_zero (by omega)
  case round =>
    clear hD
    obtain ⟨i, M, S1, S2, rfl, hai, hib, hS12, hM, hL, hlen, hnil, hD, hg⟩ := hrel
    by_cases hlt : i < b
    · obtain ⟨y, V2, hS2⟩ : ∃ y V, S2 = y :: V := by
        cases S2 with
        | cons y V => exact ⟨y, V, rfl⟩
        | nil =>
          exfalso
          have h1 := hS12.out; have h2 := hlen.out hlt; have h3 := hS.out
          rw [h1] at h3; simp at h3; omega
      subst hS2
      have hlen1 := Lib.hid (hlen.out hlt)
      have hMl : Hid (M.length = S1.length) := Lib.hid hM.out.length_eq
      have hyS : Hid (∀ z ∈ M, z < y) := Lib.hid (by
        have h1 := hs.out
        rw [hS12.out] at h1
        intro z hz
        exact (List.pairwise_append.1 h1).2.2 z (hM.out.mem_iff.1 hz) y (by simp))
      have hyI : Hid (InR xs (y :: M)) := Lib.hid (by
        intro z hz
        refine hi.out z ?_
        rw [hS12.out]
        rcases List.mem_cons.1 hz with rfl | hz
        · simp
        · exact List.mem_append_left _ (hM.out.mem_iff.1 hz))
      clear hnil hlen
      go_wp2_with fail
      obtain ⟨wo, rfl⟩ : ∃ wo : World, wo = wr := ⟨_, rfl⟩
      go_loopw [9] (fun jv wq => ∃ j : Nat, ∃ U V : List Int, jv = .int .i64 j ∧ a ≤ j ∧ j ≤ i ∧ Hid (P.length + U.length = j) ∧ Hid (M = U ++ V) ∧ Hid (∀ z ∈ V, dueK xs y < dueK xs z) ∧ Dat base g n c wq (P ++ U ++ y :: (V ++ V2 ++ R)) ∧ w.grownBy wq (some g)) (fun jv _ => (intOf jv).toNat)
      case atStart => exact ⟨i, M, [], rfl, by omega, by omega, Lib.hid (by rw [hP.out, hMl.out]; exact hlen1.out), Lib.hid (by simp), Lib.hid (by simp), by simpa using hD, hg⟩
      case round =>
        clear hD hg
        obtain ⟨j, U, V, rfl, haj, hji, hU, hUV, hV, hD, hg⟩ := hrel
        have OUT : Hid ((∀ z ∈ U, dueK xs z ≤ dueK xs y) → Lx (dueK xs) (U ++ y :: V) ∧ (U ++ y :: V).Perm (S1 ++ [y])) := Lib.hid (fun h => by
          have h1 := hL.out; rw [hUV.out] at h1
          have h2 := hyS.out; rw [hUV.out] at h2
          refine ⟨lx_insert h1 h2 h hV.out, ?_⟩
          have h3 := hM.out; rw [hUV.out] at h3
          exact (List.perm_middle.trans (h3.cons y)).trans (List.perm_append_singleton y S1).symm)
        have hCq := hC.grown hg
        by_cases hja : a < j
        · obtain ⟨U', z, hUz⟩ : ∃ U' z, U = U' ++ [z] := by
            cases hU' : U.getLast? with
            | none => exfalso; have h1 := hU.out; have h2 := hP.out; rw [List.getLast?_eq_none_iff.1 hU'] at h1; simp at h1; omega
            | some z => obtain ⟨U', h⟩ := List.getLast?_eq_some_iff.1 hU'; exact ⟨U', z, h⟩
          subst hUz
          obtain ⟨jp, rfl⟩ : ∃ jp, j = jp + 1 := ⟨j - 1, by omega⟩
          have l1 : (P ++ U').length = jp := by have := hU.out; simp at this ⊢; omega
          have e1 : P ++ (U' ++ [z]) ++ y :: (V ++ V2 ++ R) = (P ++ U') ++ z :: ([] ++ y :: (V ++ V2 ++ R)) := by simp
          rw [e1] at hD
          have hSW := Lib.hid (swapped (x := z) (y := y) (Q := []) (R := V ++ V2 ++ R) l1 (j := jp + 1) (by simp; have := l1; simp at this; omega))
          obtain ⟨c1, f1⟩ := hD.at_ (at_mid _ _ _ l1)
          obtain ⟨c2, f2⟩ := hD.at_ (k := jp + 1) (x := y) (by rw [show (P ++ U') ++ z :: ([] ++ y :: (V ++ V2 ++ R)) = (P ++ U' ++ [z]) ++ y :: (V ++ V2 ++ R) by simp]; exact at_mid _ _ _ (by have := l1; simp at this ⊢; omega))
          obtain ⟨j1, hj1⟩ : ∃ j1, j1 = jp + 1 := ⟨_, rfl⟩
          rw [← hj1] at c2 f2 hSW
          have J1 := Lib.hid hj1
          have ejm : (j1 : Int) - 1 = (jp : Int) := by omega
          have b1 : j1 < n := by omega
          have b2 : jp < n := by omega
          have b3 : a < j1 := by omega
          have b4 : a ≤ jp := by omega
          have b5 : jp ≤ i := by omega
          have hmy : y ∈ y :: M := by simp
          have hmz : z ∈ y :: M := by rw [hUV.out]; simp
          have hc := fun m => cmp_c y z (y :: M) hyI.out hmy hmz hCq m
          have HD := Lib.hid hD
          have E1 := Lib.hid e1
          obtain ⟨r, hr⟩ : ∃ r, r = cmpI (dueK xs y) (dueK xs z) := ⟨_, rfl⟩
          rw [← hr] at hc
          have hcl := Lib.hid (show r < 0 ↔ dueK xs y < dueK xs z by rw [hr]; exact cmpI_lt)
          rw [← hj1]
          clear l1 e1 hD hj1 hr hmy hmz hja haj hji
          by_cases hr0 : r < 0
          · go_wp2_with fail
            go_quiet (first | (go_at_call 38; exact Calls.quiet_of (hc _)))
            go_wp2_with fail
            go_region
            go_wp2_with fail
            refine ⟨⟨jp, U', z :: V, by go_num, by omega, by omega, Lib.hid (by have := hU.out; simp at this; omega), Lib.hid (by rw [hUV.out]; simp), Lib.hid ?_, ?_, ?_⟩, by simp [intOf]; omega⟩
            · intro t ht
              rcases List.mem_cons.1 ht with rfl | ht
              · exact hcl.out.1 hr0
              · exact hV.out t ht
            · have h3 := ((HD.out.drewN (nq + 1)).set_ j1 z).set_ jp y
              rw [List.set_comm _ _ (by have := J1.out; omega), hSW.out] at h3
              simpa using h3
            · exact grown_setCell (grown_setCell (grown_drewN hg (nq + 1)) (.inl rfl) _) (.inl rfl) _
          · go_wp2_with fail
            go_quiet (first | (go_at_call 38; exact Calls.quiet_of (hc _)))
            go_wp2_with fail
            have hz : ∀ t ∈ U' ++ [z], dueK xs t ≤ dueK xs y := by
              have h1 := hL.out
              rw [hUV.out] at h1
              have h2 := lx_last (lx_append.1 h1).1
              have h3 : ¬ dueK xs y < dueK xs z := fun h => by have := hcl.out.2 h; omega
              intro t ht
              have := h2 t ht
              omega
            obtain ⟨hl2, hp2⟩ := OUT.out hz
            go_roundw
            case rel =>
              refine ⟨i + 1, U' ++ [z] ++ y :: V, S1 ++ [y], V2, by go_num, by omega, by omega, Lib.hid (by rw [hS12.out]; simp), Lib.hid hp2, Lib.hid hl2, Lib.hid (fun h => by have := hlen1.out; simp; omega), fun h => ?_, ?_, grown_drewN hg _⟩
              · have h1 := hS12.out; have h2 := hlen1.out; have h3 := hS.out
                rw [h1] at h3; simp at h3
                exact List.eq_nil_of_length_eq_zero (by omega)
              · have h3 := HD.out.drewN nq
                rw [← E1.out] at h3
                simpa using h3
            case measure => simp [intOf]; omega
        · have hUn : U = [] := by
            have h1 := hU.out; have h2 := hP.out
            exact List.eq_nil_of_length_eq_zero (by omega)
          subst hUn
          obtain ⟨hl2, hp2⟩ := OUT.out (by simp)
          have hjaz : decide ((j : Int) > (a : Int)) = false := decide_eq_false (by omega)
          go_wp2_with fail
          go_quiet (fail)
          go_wp2_with fail
          go_roundw
          case rel =>
            refine ⟨i + 1, [] ++ y :: V, S1 ++ [y], V2, by go_num, by omega, by omega, Lib.hid (by rw [hS12.out]; simp), Lib.hid hp2, Lib.hid hl2, Lib.hid (fun h => by have := hlen1.out; simp; omega), fun h => ?_, ?_, grown_drewN hg _⟩
            · have h1 := hS12.out; have h2 := hlen1.out; have h3 := hS.out
              rw [h1] at h3; simp at h3
              exact List.eq_nil_of_length_eq_zero (by omega)
            · have h3 := hD.drewN nq
              simpa using h3
          case measure => simp [intOf]; omega
    · have hS2 := hnil (by omega)
      subst hS2
      go_wp2_with fail
      go_end0
      have h1 := hS12.out
      simp only [List.append_nil] at h1
      exact ⟨P ++ M ++ R, ⟨M, by simp, by rw [h1]; exact hM.out, hL.out⟩, rfl, by simpa using hD, hg⟩
end Go.Proofs.Ytggficacnmddiaa
