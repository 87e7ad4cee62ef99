/- Numbers below nought in decimal: the reference's function. -/
import Derived.Test.YtihgjmhhpiobbaaGreatDoorDec
namespace Go.Proofs.YtihgjmhhpiobbaaGreatDoor
open Go.RowKit

def decI (n : Int) : ByteArray := ⟨(Lib.itoa n).toArray⟩
theorem itoa_neg (n : Nat) (h : 0 < n) : Lib.itoa (-(n : Int)) = 45 :: decN n [] := by
  unfold Lib.itoa
  rw [if_pos (by omega), decN_digits n h, show (-(n : Int)).natAbs = n from by omega]; simp
theorem tmod_neg (m : Nat) : Int.tmod (-(m : Int)) 10 = -((m % 10 : Nat) : Int) := by
  rw [Int.neg_tmod, Int.tmod_eq_emod_of_nonneg (by omega)]; rfl
theorem tdiv_neg (m : Nat) : Int.tdiv (-(m : Int)) 10 = -((m / 10 : Nat) : Int) := by
  rw [Int.neg_tdiv, Int.tdiv_eq_ediv_of_nonneg (by omega)]; rfl
set_option maxRecDepth 100000 in
set_option maxHeartbeats 2000000 in
theorem l01Dec_neg (n : Nat) (hn0 : 0 < n) (hn : (n : Int) ≤ 9223372036854775808) (w : World) : Calls Tryz.prog 61 #[.int .i64 (-(n : Int))] w (Ret (.string (decI (-(n : Int)))) w) := by
  obtain ⟨i0, hi0, hz0, hz1, hz2⟩ := info_parts (P := Tryz.prog) (e := 5) (z := .int .u8 0) (size := 1) (bytes := 1) info_u8
  go_enter Tryz.func61, Tryz.ntmps61
  go_wp2_with fail
  go_loopw [3, 4] (fun o k wr => ∃ (m : Nat) (acc : List UInt8) (ad : Addr) (c : Nat), k = .int .i64 (-(m : Int)) ∧ o = .slice (some ad) acc.length c ∧ wr.ownsRow w.heap.size 5 1 (.slice (some ad) acc.length c) acc.length (acc.map u8v) ∧ acc.length + m ≤ n ∧ (0 < m ∨ 0 < acc.length) ∧ Hid (decN n [] = decN m acc) ∧ Below w.heap.size w wr) (fun _ k _ => (-(intOf k)).toNat)
  case atStart => exact ⟨n, [], ⟨w.heap.size, 0, none⟩, 0, rfl, rfl, own_empty w _ _ _ (Nat.le_refl _), by simp, by omega, Lib.hid rfl, bl_alloc (Below.refl _ _) _⟩
  case round =>
    obtain ⟨m, acc, ad, c, rfl, rfl, hown, hle, hor, hR, hv⟩ := hrel
    by_cases h0 : m = 0
    · subst h0
      have hR2 := Lib.hid (hR.out.trans (decN_zero acc))
      have hl : acc.length ≠ 0 := by omega
      have hle0 : ((acc.length : Int) == 0) = false := by simp; intro e; exact hl (by rw [e]; rfl)
      have hrun := run_bytes (P := Tryz.prog) 40 9 5 Tryz.underlying40 Tryz.underlying5 Tryz.underlying9 wr ad c acc (Arr.own hown) (by omega)
      have hl19 := decN_len hn hR2.out
      have hadd := fun (w : World) => run_string_add_sum (P := Tryz.prog) w ⟨#[45]⟩ ⟨acc.toArray⟩ (by rw [ByteArray.size_mk', ByteArray.size_mk']; simp; omega)
      have hnn : -(n : Int) < 0 := by omega
      clear hl
      go_wp2_with fail
      go_returns
      refine Ret.mk ?_ hv
      rw [decI, itoa_neg n hn0, hR2.out]
      exact congrArg Value.string (ByteArray.mk_append_mk [45] acc)
    · have hne : (-(m : Int) != 0) = true := by rw [bne_iff_ne]; omega
      have hR2 := Lib.hid (hR.out.trans (decN_step (by omega) acc))
      have hroom := decN_room (by omega) (by omega) hR.out
      obtain ⟨r, hr⟩ : ∃ r : Nat, r = m % 10 := ⟨_, rfl⟩
      obtain ⟨q, hq⟩ : ∃ q : Nat, q = m / 10 := ⟨_, rfl⟩
      have ht : Int.tmod (-(m : Int)) 10 = -(r : Int) := by rw [hr]; exact tmod_neg m
      have hd : Int.tdiv (-(m : Int)) 10 = -(q : Int) := by rw [hq]; exact tdiv_neg m
      have hr9 : (r : Int) ≤ 9 := by omega
      have hqm : q < m := by omega
      have hqm2 : (q : Int) ≤ 1000000000000000000 := by omega
      have HQ := Lib.hid hq
      have HR' := Lib.hid hr
      clear hr hq
      rcases Nat.eq_zero_or_pos r with hr0 | hrp
      · have ht0 : Int.tmod (-(m : Int)) 10 = 0 := by rw [ht, hr0]; rfl
        have HR0 := Lib.hid hr0
        clear ht hr0
        have hX := World.ownsRow_lit (base := w.heap.size) (e := 5) (size := 1) wr #[Value.int IntKind.u8 48] 1 hv.size (by simp [maxLen]) (by simp)
        have HX := Lib.hid hX
        have hAr := Arr.own hown
        have hsz : w.heap.size ≤ (wr.alloc (Obj.cells #[Value.int IntKind.u8 48] 5)).heap.size := by have := hv.size; simp; omega
        have HSZ := Lib.hid hsz
        have HAr := Lib.hid hAr
        clear hX hAr hsz
        go_wp2_with (at_builtin; go_loud (refine app_many _ rfl _ _ 40 5 rfl i0 _ 1 1 Tryz.underlying40 hi0 hz0 hz1 hz2 rfl (by omega) w.heap.size (.slice (some ⟨wr.heap.size, 0, none⟩) 1 1) 1 [.int .u8 48] rfl HX.out ad acc.length c (acc.map u8v) rfl (HAr.out.alloc _) (by simp) (by intro u hu; simp only [List.mem_map] at hu; obtain ⟨b, _, rfl⟩ := hu; rfl) (by unfold maxLen; omega) (by omega) HSZ.out ?_); intro A2 c2 w2 hown2 hg2; obtain ⟨g2, hA2⟩ := own_addr hown2 (by omega); subst hA2)
        have e1 : 1 + acc.length = (UInt8.ofNat (48 + m % 10) :: acc).length := by simp; omega
        have e2 : [Value.int IntKind.u8 48] ++ acc.map u8v = (UInt8.ofNat (48 + m % 10) :: acc).map u8v := by
          have h := u8_num m
          rw [← HR'.out] at h ⊢
          simp only [List.map_cons, u8v]
          rw [h]
          rw [HR0.out]; rfl
        rw [e1, e2] at hown2
        have hqe : decN (m / 10) (UInt8.ofNat (48 + m % 10) :: acc) = decN q (UInt8.ofNat (48 + m % 10) :: acc) := by rw [HQ.out]
        refine ⟨⟨q, UInt8.ofNat (48 + m % 10) :: acc, ⟨g2, 0, none⟩, c2, by go_num, by rw [e1], hown2, by simp; omega, by simp, Lib.hid (hR2.out.trans hqe), ?_⟩, by simp [intOf]; omega⟩
        exact bl_grown (bl_alloc hv _) hg2 (fun k e => by
          have h1 := hv.size
          have h2 : wr.heap.size = k := by simpa [Value.ownBlock] using e
          omega)
      · have hrn : -(r : Int) < 0 := by omega
        have hrn2 : (r : Int) ≠ 0 := by omega
        have hX := World.ownsRow_lit (base := w.heap.size) (e := 5) (size := 1) wr #[Value.int IntKind.u8 (48 + (r : Int))] 1 hv.size (by simp [maxLen]) (by simp)
        have HX := Lib.hid hX
        have hAr := Arr.own hown
        have hsz : w.heap.size ≤ (wr.alloc (Obj.cells #[Value.int IntKind.u8 (48 + (r : Int))] 5)).heap.size := by have := hv.size; simp; omega
        have HSZ := Lib.hid hsz
        have HAr := Lib.hid hAr
        clear hX hAr hsz
        go_wp2_with (at_builtin; go_loud (refine app_many _ rfl _ _ 40 5 rfl i0 _ 1 1 Tryz.underlying40 hi0 hz0 hz1 hz2 rfl (by omega) w.heap.size (.slice (some ⟨wr.heap.size, 0, none⟩) 1 1) 1 [.int .u8 (48 + (r : Int))] rfl HX.out ad acc.length c (acc.map u8v) rfl (HAr.out.alloc _) (by simp) (by intro u hu; simp only [List.mem_map] at hu; obtain ⟨b, _, rfl⟩ := hu; rfl) (by unfold maxLen; omega) (by omega) HSZ.out ?_); intro A2 c2 w2 hown2 hg2; obtain ⟨g2, hA2⟩ := own_addr hown2 (by omega); subst hA2)
        have e1 : 1 + acc.length = (UInt8.ofNat (48 + m % 10) :: acc).length := by simp; omega
        have e2 : [Value.int IntKind.u8 (48 + (r : Int))] ++ acc.map u8v = (UInt8.ofNat (48 + m % 10) :: acc).map u8v := by
          have h := u8_num m
          rw [← HR'.out] at h ⊢
          simp only [List.map_cons, u8v]
          rw [h]
          rfl
        rw [e1, e2] at hown2
        have hqe : decN (m / 10) (UInt8.ofNat (48 + m % 10) :: acc) = decN q (UInt8.ofNat (48 + m % 10) :: acc) := by rw [HQ.out]
        refine ⟨⟨q, UInt8.ofNat (48 + m % 10) :: acc, ⟨g2, 0, none⟩, c2, by go_num, by rw [e1], hown2, by simp; omega, by simp, Lib.hid (hR2.out.trans hqe), ?_⟩, by simp [intOf]; omega⟩
        exact bl_grown (bl_alloc hv _) hg2 (fun k e => by
          have h1 := hv.size
          have h2 : wr.heap.size = k := by simpa [Value.ownBlock] using e
          omega)
theorem l01DecI_c (n : Int) (h0 : -9223372036854775808 ≤ n) (h1 : n ≤ 9223372036854775807) (w : World) : Calls Tryz.prog 61 #[.int .i64 n] w (Ret (.string (decI n)) w) := by
  by_cases h : 0 ≤ n
  · obtain ⟨c, rfl⟩ := Int.eq_ofNat_of_zero_le h
    exact l01Dec_c c h1 w
  · obtain ⟨c, hc⟩ : ∃ c : Nat, n = -(c : Int) := ⟨n.natAbs, by omega⟩
    subst hc
    exact l01Dec_neg c (by omega) (by omega) w
end Go.Proofs.YtihgjmhhpiobbaaGreatDoor
