/- Numbers in decimal: the reference's function. Numbers below nought in decimal: the reference's function. Money as text: the program's and the reference's functions; the law walked. Numbers in decimal: the program's function. A valid entry: the program's and the reference's; the law walked. The words and the stamp of an entry: the program's and the reference's functions. -/
import Derived.Test.YtapnllbbdfoaaaaGreatDoorBase
import Derived.Test.YtapnllbbdfoaaaaGreatDoorMCore
import Derived.Lib.ItoaNum
import Derived.Test.YtapnllbbdfoaaaaGreatDoorShelf
import Derived.Lib.AppendIntMem
import Derived.WalkSmall

namespace Go.Proofs.YtapnllbbdfoaaaaGreatDoor
open Go.RowKit

def u8v (b : UInt8) : Value := .int .u8 b.toNat
def decN : Nat → List UInt8 → List UInt8
  | m, acc => if h : m = 0 then acc else decN (m / 10) (UInt8.ofNat (48 + m % 10) :: acc)
termination_by m => m
decreasing_by omega
theorem decN_zero (acc : List UInt8) : decN 0 acc = acc := by rw [decN, dif_pos rfl]
theorem decN_step {m : Nat} (h : 0 < m) (acc : List UInt8) : decN m acc = decN (m / 10) (UInt8.ofNat (48 + m % 10) :: acc) := by rw [decN, dif_neg (by omega)]
theorem decN_digits : ∀ (m : Nat), 0 < m → ∀ acc, decN m acc = Lib.decDigits m ++ acc := by
  intro m
  induction m using Nat.strongRecOn with
  | ind m ih =>
    intro h acc
    rw [decN_step h]
    by_cases h10 : m < 10
    · rw [show m / 10 = 0 from by omega, decN_zero, Lib.decDigits, dif_pos h10, show m % 10 = m from by omega]; rfl
    · have e : Lib.decDigits m = Lib.decDigits (m / 10) ++ [UInt8.ofNat (48 + m % 10)] := by rw [Lib.decDigits, dif_neg h10]
      rw [ih (m / 10) (by omega) (by omega), e]; simp
theorem itoa_nat (n : Nat) : Lib.itoa (n : Int) = if n = 0 then [48] else decN n [] := by
  unfold Lib.itoa
  rw [if_neg (by omega), Int.toNat_natCast]
  by_cases h : n = 0
  · subst h; rw [if_pos rfl, Lib.decDigits, dif_pos (by omega)]; rfl
  · rw [if_neg h, decN_digits n (by omega)]; simp
theorem u8_num (m : Nat) : ((UInt8.ofNat (48 + m % 10)).toNat : Int) = 48 + ((m % 10 : Nat) : Int) := by
  rw [UInt8.toNat_ofNat']
  omega
theorem push_all : ∀ (acc : List UInt8) (r : ByteArray), (acc.map fun b : UInt8 => (b.toNat : Int)).foldl (fun r n => r.push (UInt8.ofNat n.toNat)) r = ⟨r.data ++ acc.toArray⟩
  | [], r => by simp
  | b :: bs, r => by
    simp only [List.map_cons, List.foldl_cons]
    rw [push_all bs]
    cases r with
    | mk d =>
      simp only [ByteArray.push, Int.toNat_natCast, UInt8.ofNat_toNat, ByteArray.mk.injEq]
      simp
theorem run_bytes {P : Program} (src dst e : TypeId) (hs : P.underlying src = some (.slice e)) (he : P.underlying e = some (.int .u8)) (hd : P.underlying dst = some .string) (W : World) (ad : Addr) (c : Nat) (acc : List UInt8) (hA : Arr W (some ad) (acc.map u8v)) (h0 : 0 < acc.length) :
    (convert src dst (.slice (some ad) acc.length c)).run P W = .ok (.string ⟨acc.toArray⟩) W := by
  rw [run_convert_bytes_string _ _ _ _ _ _ _ hs he hd]
  have hc : (loadCells ad acc.length).run P W = .ok ((acc.map fun b : UInt8 => (b.toNat : Int)).map (Value.int .u8)).toArray W := by
    obtain ⟨ad', e', _, hcell⟩ := hA (by simpa using h0)
    injection e' with e'
    subst e'
    have := run_loadCells_list (P := P) (w := W) ad (acc.map u8v) hcell
    have e : (acc.map (fun b : UInt8 => (b.toNat : Int))).map (Value.int .u8) = acc.map u8v := by rw [List.map_map]; rfl
    rw [e]
    simpa using this
  rw [run_bytesToString _ _ _ _ (acc.map fun b : UInt8 => (b.toNat : Int)) hc, push_all]
  simp
theorem nDig_le : ∀ (k u : Nat), u < 10 ^ (k + 1) → Lib.nDigits u ≤ k + 1 := by
  intro k
  induction k with
  | zero => intro u hu; rw [Lib.nDigits_small (by simpa using hu)]; exact Nat.le_refl _
  | succ k ih =>
    intro u hu
    by_cases hs : u < 10
    · rw [Lib.nDigits_small hs]; omega
    · rw [Lib.nDigits_big hs]
      have := ih (u / 10) (by rw [Nat.pow_succ] at hu; exact Nat.div_lt_of_lt_mul (by omega))
      omega
theorem decN_len {n : Nat} {acc : List UInt8} (hn : (n : Int) ≤ 9223372036854775808) (h : decN n [] = acc) : acc.length ≤ 19 := by
  rw [← h]
  rcases Nat.eq_zero_or_pos n with h0 | h0
  · subst h0; rw [decN_zero]; simp
  · rw [decN_digits n h0, List.append_nil, Lib.decDigits_length]
    exact nDig_le 18 n (by omega)
theorem decN_room {n m : Nat} {acc : List UInt8} (hn : (n : Int) ≤ 9223372036854775808) (hm : 0 < m) (h : decN n [] = decN m acc) : acc.length + 1 ≤ 20 := by
  have h1 : (decN n []).length ≤ 19 := by
    rcases Nat.eq_zero_or_pos n with h0 | h0
    · subst h0; rw [decN_zero]; simp
    · rw [decN_digits n h0, List.append_nil, Lib.decDigits_length]
      exact nDig_le 18 n (by omega)
  rw [h, decN_digits m hm, List.length_append] at h1
  omega
def decB (n : Nat) : ByteArray := ⟨(Lib.itoa (n : Int)).toArray⟩
theorem info_u8 : (Tryz.prog.info? 5).map (fun i => (i.zero, i.size, i.bytes)) = some (some (.int .u8 0), 1, 1) := by kernel_rfl
set_option maxRecDepth 100000 in
set_option maxHeartbeats 2000000 in
theorem l01Dec_c (n : Nat) (hn : (n : Int) ≤ 9223372036854775807) (w : World) : Calls Tryz.prog 77 #[.int .i64 n] w (Ret (.string (decB n)) w) := by
  obtain ⟨i0, hi0, hz0, hz1, hz2⟩ := info_parts (P := Tryz.prog) (e := 5) (z := .int .u8 0) (size := 1) (bytes := 1) info_u8
  go_enter Tryz.func77, Tryz.ntmps77
  go_wp2_with fail
  have hR := Lib.hid (show decN n [] = decN n [] from rfl)
  go_loopw [3, 4] (fun o k wr => ∃ (m : Nat) (acc : List UInt8) (ad : Addr) (c : Nat), k = .int .i64 m ∧ o = .slice (some ad) acc.length c ∧ wr.ownsRow w.heap.size 5 1 (.slice (some ad) acc.length c) acc.length (acc.map u8v) ∧ acc.length + m ≤ n ∧ (n = 0 ∨ 0 < m ∨ 0 < acc.length) ∧ Hid (decN n [] = decN m acc) ∧ Below w.heap.size w wr) (fun _ k _ => (intOf k).toNat)
  case atStart => exact ⟨n, [], ⟨w.heap.size, 0, none⟩, 0, rfl, rfl, own_empty w _ _ _ (Nat.le_refl _), by simp, by omega, Lib.hid rfl, bl_alloc (Below.refl _ _) _⟩
  case round =>
    obtain ⟨m, acc, ad, c, rfl, rfl, hown, hle, hor, hR, hv⟩ := hrel
    by_cases h0 : m = 0
    · subst h0
      have hne : (((0 : Nat) : Int) != 0) = false := by rfl
      have hR2 := Lib.hid (hR.out.trans (decN_zero acc))
      by_cases hl : acc.length = 0
      · have hn0 : n = 0 := by omega
        have hle0 : ((acc.length : Int) == 0) = true := by simp; exact List.length_eq_zero_iff.1 hl
        have HN := Lib.hid hn0
        clear hn0 hl
        go_wp2_with fail
        go_returns
        exact Ret.mk (by rw [decB, HN.out, itoa_nat]; rfl) hv
      · have hle0 : ((acc.length : Int) == 0) = false := by simp; intro e; exact hl (by rw [e]; rfl)
        have hrun := run_bytes (P := Tryz.prog) 22 9 5 Tryz.underlying22 Tryz.underlying5 Tryz.underlying9 wr ad c acc (Arr.own hown) (by omega)
        have hnn : ¬ (n : Int) < 0 := by omega
        have hn0 : n ≠ 0 := by omega
        have HN := Lib.hid hn0
        clear hl hn0
        go_wp2_with fail
        go_returns
        exact Ret.mk (by rw [decB, itoa_nat, if_neg HN.out, hR2.out]; rfl) hv
    · have hne : ((m : Int) != 0) = true := by rw [bne_iff_ne]; omega
      have hR2 := Lib.hid (hR.out.trans (decN_step (by omega) acc))
      have hroom := decN_room (by omega) (by omega) hR.out
      have hX := World.ownsRow_lit (base := w.heap.size) (e := 5) (size := 1) wr #[Value.int IntKind.u8 (48 + ((m % 10 : Nat) : Int))] 1 hv.size (by simp [maxLen]) (by simp)
      have HX := Lib.hid hX
      have hAr := Arr.own hown
      have hsz : w.heap.size ≤ (wr.alloc (Obj.cells #[Value.int IntKind.u8 (48 + ((m % 10 : Nat) : Int))] 5)).heap.size := by have := hv.size; simp; omega
      have HSZ := Lib.hid hsz
      have HAr := Lib.hid hAr
      clear hX hAr hsz
      go_wp2_with (at_builtin; go_loud (refine app_many _ rfl _ _ 22 5 rfl i0 _ 1 1 Tryz.underlying22 hi0 hz0 hz1 hz2 rfl (by omega) w.heap.size (.slice (some ⟨wr.heap.size, 0, none⟩) 1 1) 1 [.int .u8 (48 + ((m % 10 : Nat) : Int))] rfl HX.out ad acc.length c (acc.map u8v) rfl (HAr.out.alloc _) (by simp) (by intro u hu; simp only [List.mem_map] at hu; obtain ⟨b, _, rfl⟩ := hu; rfl) (by unfold maxLen; omega) (by omega) HSZ.out ?_); intro A2 c2 w2 hown2 hg2; obtain ⟨g2, hA2⟩ := own_addr hown2 (by omega); subst hA2)
      have e1 : 1 + acc.length = (UInt8.ofNat (48 + m % 10) :: acc).length := by simp; omega
      have e2 : [Value.int IntKind.u8 (48 + ((m % 10 : Nat) : Int))] ++ acc.map u8v = (UInt8.ofNat (48 + m % 10) :: acc).map u8v := by simp only [List.map_cons, u8v]; rw [u8_num]; rfl
      rw [e1, e2] at hown2
      refine ⟨⟨m / 10, UInt8.ofNat (48 + m % 10) :: acc, ⟨g2, 0, none⟩, c2, by go_num, by rw [e1], hown2, by simp; omega, by simp, hR2, ?_⟩, by simp [intOf]; omega⟩
      exact bl_grown (bl_alloc hv _) hg2 (fun k e => by
        have h1 := hv.size
        have h2 : wr.heap.size = k := by simpa [Value.ownBlock] using e
        omega)
end Go.Proofs.YtapnllbbdfoaaaaGreatDoor

namespace Go.Proofs.YtapnllbbdfoaaaaGreatDoor
open Go.RowKit

def decI (n : Int) : ByteArray := ⟨(Lib.itoa n).toArray⟩
theorem itoa_neg (n : Nat) (h : 0 < n) : Lib.itoa (-(n : Int)) = 45 :: decN n [] := by
  unfold Lib.itoa
  rw [if_pos (by omega), decN_digits n h, show (-(n : Int)).natAbs = n from by omega]; simp
theorem tmod_neg (m : Nat) : Int.tmod (-(m : Int)) 10 = -((m % 10 : Nat) : Int) := by
  rw [Int.neg_tmod, Int.tmod_eq_emod_of_nonneg (by omega)]; rfl
theorem tdiv_neg (m : Nat) : Int.tdiv (-(m : Int)) 10 = -((m / 10 : Nat) : Int) := by
  rw [Int.neg_tdiv, Int.tdiv_eq_ediv_of_nonneg (by omega)]; rfl
set_option maxRecDepth 100000 in
set_option maxHeartbeats 2000000 in
theorem l01Dec_neg (n : Nat) (hn0 : 0 < n) (hn : (n : Int) ≤ 9223372036854775808) (w : World) : Calls Tryz.prog 77 #[.int .i64 (-(n : Int))] w (Ret (.string (decI (-(n : Int)))) w) := by
  obtain ⟨i0, hi0, hz0, hz1, hz2⟩ := info_parts (P := Tryz.prog) (e := 5) (z := .int .u8 0) (size := 1) (bytes := 1) info_u8
  go_enter Tryz.func77, Tryz.ntmps77
  go_wp2_with fail
  go_loopw [3, 4] (fun o k wr => ∃ (m : Nat) (acc : List UInt8) (ad : Addr) (c : Nat), k = .int .i64 (-(m : Int)) ∧ o = .slice (some ad) acc.length c ∧ wr.ownsRow w.heap.size 5 1 (.slice (some ad) acc.length c) acc.length (acc.map u8v) ∧ acc.length + m ≤ n ∧ (0 < m ∨ 0 < acc.length) ∧ Hid (decN n [] = decN m acc) ∧ Below w.heap.size w wr) (fun _ k _ => (-(intOf k)).toNat)
  case atStart => exact ⟨n, [], ⟨w.heap.size, 0, none⟩, 0, rfl, rfl, own_empty w _ _ _ (Nat.le_refl _), by simp, by omega, Lib.hid rfl, bl_alloc (Below.refl _ _) _⟩
  case round =>
    obtain ⟨m, acc, ad, c, rfl, rfl, hown, hle, hor, hR, hv⟩ := hrel
    by_cases h0 : m = 0
    · subst h0
      have hR2 := Lib.hid (hR.out.trans (decN_zero acc))
      have hl : acc.length ≠ 0 := by omega
      have hle0 : ((acc.length : Int) == 0) = false := by simp; intro e; exact hl (by rw [e]; rfl)
      have hrun := run_bytes (P := Tryz.prog) 22 9 5 Tryz.underlying22 Tryz.underlying5 Tryz.underlying9 wr ad c acc (Arr.own hown) (by omega)
      have hl19 := decN_len hn hR2.out
      have hadd := fun (w : World) => run_string_add_sum (P := Tryz.prog) w ⟨#[45]⟩ ⟨acc.toArray⟩ (by rw [ByteArray.size_mk', ByteArray.size_mk']; simp; omega)
      have hnn : -(n : Int) < 0 := by omega
      clear hl
      go_wp2_with fail
      go_returns
      refine Ret.mk ?_ hv
      rw [decI, itoa_neg n hn0, hR2.out]
      exact congrArg Value.string (ByteArray.mk_append_mk [45] acc)
    · have hne : (-(m : Int) != 0) = true := by rw [bne_iff_ne]; omega
      have hR2 := Lib.hid (hR.out.trans (decN_step (by omega) acc))
      have hroom := decN_room (by omega) (by omega) hR.out
      obtain ⟨r, hr⟩ : ∃ r : Nat, r = m % 10 := ⟨_, rfl⟩
      obtain ⟨q, hq⟩ : ∃ q : Nat, q = m / 10 := ⟨_, rfl⟩
      have ht : Int.tmod (-(m : Int)) 10 = -(r : Int) := by rw [hr]; exact tmod_neg m
      have hd : Int.tdiv (-(m : Int)) 10 = -(q : Int) := by rw [hq]; exact tdiv_neg m
      have hr9 : (r : Int) ≤ 9 := by omega
      have hqm : q < m := by omega
      have hqm2 : (q : Int) ≤ 1000000000000000000 := by omega
      have HQ := Lib.hid hq
      have HR' := Lib.hid hr
      clear hr hq
      rcases Nat.eq_zero_or_pos r with hr0 | hrp
      · have ht0 : Int.tmod (-(m : Int)) 10 = 0 := by rw [ht, hr0]; rfl
        have HR0 := Lib.hid hr0
        clear ht hr0
        have hX := World.ownsRow_lit (base := w.heap.size) (e := 5) (size := 1) wr #[Value.int IntKind.u8 48] 1 hv.size (by simp [maxLen]) (by simp)
        have HX := Lib.hid hX
        have hAr := Arr.own hown
        have hsz : w.heap.size ≤ (wr.alloc (Obj.cells #[Value.int IntKind.u8 48] 5)).heap.size := by have := hv.size; simp; omega
        have HSZ := Lib.hid hsz
        have HAr := Lib.hid hAr
        clear hX hAr hsz
        go_wp2_with (at_builtin; go_loud (refine app_many _ rfl _ _ 22 5 rfl i0 _ 1 1 Tryz.underlying22 hi0 hz0 hz1 hz2 rfl (by omega) w.heap.size (.slice (some ⟨wr.heap.size, 0, none⟩) 1 1) 1 [.int .u8 48] rfl HX.out ad acc.length c (acc.map u8v) rfl (HAr.out.alloc _) (by simp) (by intro u hu; simp only [List.mem_map] at hu; obtain ⟨b, _, rfl⟩ := hu; rfl) (by unfold maxLen; omega) (by omega) HSZ.out ?_); intro A2 c2 w2 hown2 hg2; obtain ⟨g2, hA2⟩ := own_addr hown2 (by omega); subst hA2)
        have e1 : 1 + acc.length = (UInt8.ofNat (48 + m % 10) :: acc).length := by simp; omega
        have e2 : [Value.int IntKind.u8 48] ++ acc.map u8v = (UInt8.ofNat (48 + m % 10) :: acc).map u8v := by
          have h := u8_num m
          rw [← HR'.out] at h ⊢
          simp only [List.map_cons, u8v]
          rw [h]
          rw [HR0.out]; rfl
        rw [e1, e2] at hown2
        have hqe : decN (m / 10) (UInt8.ofNat (48 + m % 10) :: acc) = decN q (UInt8.ofNat (48 + m % 10) :: acc) := by rw [HQ.out]
        refine ⟨⟨q, UInt8.ofNat (48 + m % 10) :: acc, ⟨g2, 0, none⟩, c2, by go_num, by rw [e1], hown2, by simp; omega, by simp, Lib.hid (hR2.out.trans hqe), ?_⟩, by simp [intOf]; omega⟩
        exact bl_grown (bl_alloc hv _) hg2 (fun k e => by
          have h1 := hv.size
          have h2 : wr.heap.size = k := by simpa [Value.ownBlock] using e
          omega)
      · have hrn : -(r : Int) < 0 := by omega
        have hrn2 : (r : Int) ≠ 0 := by omega
        have hX := World.ownsRow_lit (base := w.heap.size) (e := 5) (size := 1) wr #[Value.int IntKind.u8 (48 + (r : Int))] 1 hv.size (by simp [maxLen]) (by simp)
        have HX := Lib.hid hX
        have hAr := Arr.own hown
        have hsz : w.heap.size ≤ (wr.alloc (Obj.cells #[Value.int IntKind.u8 (48 + (r : Int))] 5)).heap.size := by have := hv.size; simp; omega
        have HSZ := Lib.hid hsz
        have HAr := Lib.hid hAr
        clear hX hAr hsz
        go_wp2_with (at_builtin; go_loud (refine app_many _ rfl _ _ 22 5 rfl i0 _ 1 1 Tryz.underlying22 hi0 hz0 hz1 hz2 rfl (by omega) w.heap.size (.slice (some ⟨wr.heap.size, 0, none⟩) 1 1) 1 [.int .u8 (48 + (r : Int))] rfl HX.out ad acc.length c (acc.map u8v) rfl (HAr.out.alloc _) (by simp) (by intro u hu; simp only [List.mem_map] at hu; obtain ⟨b, _, rfl⟩ := hu; rfl) (by unfold maxLen; omega) (by omega) HSZ.out ?_); intro A2 c2 w2 hown2 hg2; obtain ⟨g2, hA2⟩ := own_addr hown2 (by omega); subst hA2)
        have e1 : 1 + acc.length = (UInt8.ofNat (48 + m % 10) :: acc).length := by simp; omega
        have e2 : [Value.int IntKind.u8 (48 + (r : Int))] ++ acc.map u8v = (UInt8.ofNat (48 + m % 10) :: acc).map u8v := by
          have h := u8_num m
          rw [← HR'.out] at h ⊢
          simp only [List.map_cons, u8v]
          rw [h]
          rfl
        rw [e1, e2] at hown2
        have hqe : decN (m / 10) (UInt8.ofNat (48 + m % 10) :: acc) = decN q (UInt8.ofNat (48 + m % 10) :: acc) := by rw [HQ.out]
        refine ⟨⟨q, UInt8.ofNat (48 + m % 10) :: acc, ⟨g2, 0, none⟩, c2, by go_num, by rw [e1], hown2, by simp; omega, by simp, Lib.hid (hR2.out.trans hqe), ?_⟩, by simp [intOf]; omega⟩
        exact bl_grown (bl_alloc hv _) hg2 (fun k e => by
          have h1 := hv.size
          have h2 : wr.heap.size = k := by simpa [Value.ownBlock] using e
          omega)
theorem l01DecI_c (n : Int) (h0 : -9223372036854775808 ≤ n) (h1 : n ≤ 9223372036854775807) (w : World) : Calls Tryz.prog 77 #[.int .i64 n] w (Ret (.string (decI n)) w) := by
  by_cases h : 0 ≤ n
  · obtain ⟨c, rfl⟩ := Int.eq_ofNat_of_zero_le h
    exact l01Dec_c c h1 w
  · obtain ⟨c, hc⟩ : ∃ c : Nat, n = -(c : Int) := ⟨n.natAbs, by omega⟩
    subst hc
    exact l01Dec_neg c (by omega) (by omega) w
end Go.Proofs.YtapnllbbdfoaaaaGreatDoor

namespace Go.Proofs.YtapnllbbdfoaaaaGreatDoor
open Go.RowKit

def Pow10 (w : World) : Prop := Lib.TabIs Tryz.prog w "internal/strconv.uint64pow10" .u64 Lib.pow10Tab
theorem g_pow10 : Tryz.prog.globalNamed "internal/strconv.uint64pow10" = some 1 := by kernel_rfl
theorem Pow10.lt {w : World} (h : Pow10 w) : 1 < w.heap.size := by
  have h1 := Lib.TabIs.cell h g_pow10 0 (by rw [Lib.pow10Tab_length]; omega)
  exact block_lt_of_cell h1
theorem Pow10.below {w w' : World} (h : Pow10 w) (hb : Below w.heap.size w w') : Pow10 w' := var?_below hb g_pow10 h.lt h
theorem Decimal_c (n : Nat) (hn : (n : Int) ≤ 1000000000000000000) (w : World) (hT : Pow10 w) : Calls Tryz.prog 52 #[.int .i64 n] w (Ret (.string (decB n)) w) := by
  have HT := Lib.hid hT
  clear hT
  go_enter Tryz.func52, Tryz.ntmps52
  go_wp2_with fail
  refine (Tryz.strconv_FormatInt_10 n (by omega) (by omega) _ HT.out).mono ?_
  rintro e W ⟨rfl, k, os, rfl⟩
  go_wp2_with fail
  go_returns
  exact Ret.mk rfl (Lib.below_grow _ w (Nat.le_refl _) k os)
theorem nDigits_le : ∀ u : Nat, Lib.nDigits u ≤ u + 1 := by
  intro u
  induction u using Nat.strongRecOn with
  | ind u ih =>
    by_cases h : u < 10
    · rw [Lib.nDigits_small h]; omega
    · rw [Lib.nDigits_big h]; have := ih (u / 10) (by omega); omega
theorem decB_size (n : Nat) : (decB n).size ≤ n + 1 := by
  have h : (Lib.itoa (n : Int)).length = Lib.nDigits n := by
    unfold Lib.itoa
    rw [if_neg (by omega), Int.toNat_natCast, Lib.decDigits_length]
  have h2 := nDigits_le n
  unfold decB
  rw [ByteArray.size_mk', List.size_toArray, h]
  exact h2
def mB (c : Nat) : ByteArray := decB (c / 100) ++ ⟨#[46]⟩ ++ decB (c / 10 % 10) ++ decB (c % 10)
def moneyB (n : Int) : ByteArray := if inB n 0 100000000000 = true then mB n.toNat else ⟨#[]⟩
end Go.Proofs.YtapnllbbdfoaaaaGreatDoor

namespace Go.Proofs.YtapnllbbdfoaaaaGreatDoor
open Go.RowKit

theorem DecimalI_c (n : Int) (h0 : -1000000000000000000 ≤ n) (h1 : n ≤ 1000000000000000000) (w : World) (hT : Pow10 w) : Calls Tryz.prog 52 #[.int .i64 n] w (Ret (.string (decI n)) w) := by
  have HT := Lib.hid hT
  clear hT
  go_enter Tryz.func52, Tryz.ntmps52
  go_wp2_with fail
  refine (Tryz.strconv_FormatInt_10 n (by omega) (by omega) _ HT.out).mono ?_
  rintro e W ⟨rfl, k, os, rfl⟩
  go_wp2_with fail
  go_returns
  exact Ret.mk rfl (Lib.below_grow _ w (Nat.le_refl _) k os)
end Go.Proofs.YtapnllbbdfoaaaaGreatDoor

namespace Go.Proofs.YtapnllbbdfoaaaaGreatDoor
open Go.RowKit

structure Entry where
  day : Int
  what : ByteArray
  value : Int
def Entry.cells (x : Entry) : List Value := [.int .i64 x.day, .string x.what, .int .i64 x.value]
def Entry.val (x : Entry) : Value := .agg #[.int .i64 x.day, .string x.what, .int .i64 x.value]
def Entry.sizes (x : Entry) : List Nat := [x.what.size]
theorem Entry.cells_length (x : Entry) : x.cells.length = 3 := rfl
theorem Entry.at_ {w : World} {A : Option Addr} {xs : List Entry} {k : Nat} {x : Entry} (h : Arr w A (flat Entry.cells xs)) (hk : xs[k]? = some x) :
    ∃ ad, A = some ad ∧ ad.block < w.heap.size ∧ w.cell? (ad.add (k * 3)) = some (.int .i64 x.day) ∧
      w.cell? ⟨(ad.add (k * 3)).block, (ad.add (k * 3)).off + 1, none⟩ = some (.string x.what) ∧
      w.cell? ⟨(ad.add (k * 3)).block, (ad.add (k * 3)).off + 2, none⟩ = some (.int .i64 x.value) := by
  obtain ⟨ad, e, hb, h0, hj⟩ := h.elem Entry.cells_length hk (by omega)
  exact ⟨ad, e, hb, h0, hj 1 (by omega) (by omega), hj 2 (by omega) (by omega)⟩
def Entry.beq (x y : Entry) : Bool := decide (x.day = y.day) && decide (x.what = y.what) && decide (x.value = y.value)
theorem Entry.beq_iff (x y : Entry) : x.beq y = true ↔ x = y := by
  cases x; cases y; simp [Entry.beq, and_assoc]
theorem Entry.beq_self (x : Entry) : x.beq x = true := (Entry.beq_iff x x).2 rfl

def entB (x : Entry) : Bool := inB x.day 0 100000 && nameB x.what && inB x.value (-1000000) 1000000
end Go.Proofs.YtapnllbbdfoaaaaGreatDoor

namespace Go.Proofs.YtapnllbbdfoaaaaGreatDoor
open Go.RowKit

theorem decI_size (n : Int) : (decI n).size ≤ n.natAbs + 2 := by
  have h := nDigits_le n.natAbs
  unfold decI Lib.itoa
  rw [ByteArray.size_mk', List.size_toArray]
  split
  · simp [Lib.decDigits_length]; omega
  · rw [Lib.decDigits_length, show n.toNat = n.natAbs from by omega]; omega
def wordsB (x : Entry) : ByteArray := decI x.day ++ ⟨#[32]⟩ ++ x.what ++ ⟨#[32]⟩ ++ decI x.value
theorem entB_bd {x : Entry} (h : entB x = true) : 0 ≤ x.day ∧ x.day ≤ 100000 ∧ -1000000 ≤ x.value ∧ x.value ≤ 1000000 ∧ x.what.size ≤ 12 := by
  simp only [entB, Bool.and_eq_true, inB_iff] at h
  have h2 := h.1.2
  simp only [nameB, nameL, Bool.and_eq_true, decide_eq_true_eq, bytes_len] at h2
  omega
/-! ### Stamps -/
def stampGo : List UInt8 → Int → Int
  | [], s => s
  | b :: r, s => stampGo r ((37 * s + (b.toNat : Int)) % 65519)
def stampV (before : Int) (s : ByteArray) : Int := stampGo s.data.toList ((before + 29) % 65519)
theorem stamp_step {s : ByteArray} {k : Nat} (h : k < s.size) (a : Int) : stampGo (s.data.toList.drop k) a = stampGo (s.data.toList.drop (k + 1)) ((37 * a + (s[k].toNat : Int)) % 65519) := by
  rw [drop_at (byte_at h)]; rfl
end Go.Proofs.YtapnllbbdfoaaaaGreatDoor
