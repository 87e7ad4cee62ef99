/- Numbers in decimal: the reference's function. -/
import Derived.Test.YtihgjmhhpiobbaaGreatDoorBase
import Derived.Test.YtihgjmhhpiobbaaGreatDoorApp
import Derived.Lib.ItoaNum
namespace Go.Proofs.YtihgjmhhpiobbaaGreatDoor
open Go.RowKit

def u8v (b : UInt8) : Value := .int .u8 b.toNat
def decN : Nat → List UInt8 → List UInt8
  | m, acc => if h : m = 0 then acc else decN (m / 10) (UInt8.ofNat (48 + m % 10) :: acc)
termination_by m => m
decreasing_by omega
theorem decN_zero (acc : List UInt8) : decN 0 acc = acc := by rw [decN, dif_pos rfl]
theorem decN_step {m : Nat} (h : 0 < m) (acc : List UInt8) : decN m acc = decN (m / 10) (UInt8.ofNat (48 + m % 10) :: acc) := by rw [decN, dif_neg (by omega)]
theorem decN_digits : ∀ (m : Nat), 0 < m → ∀ acc, decN m acc = Lib.decDigits m ++ acc := by
  intro m
  induction m using Nat.strongRecOn with
  | ind m ih =>
    intro h acc
    rw [decN_step h]
    by_cases h10 : m < 10
    · rw [show m / 10 = 0 from by omega, decN_zero, Lib.decDigits, dif_pos h10, show m % 10 = m from by omega]; rfl
    · have e : Lib.decDigits m = Lib.decDigits (m / 10) ++ [UInt8.ofNat (48 + m % 10)] := by rw [Lib.decDigits, dif_neg h10]
      rw [ih (m / 10) (by omega) (by omega), e]; simp
theorem itoa_nat (n : Nat) : Lib.itoa (n : Int) = if n = 0 then [48] else decN n [] := by
  unfold Lib.itoa
  rw [if_neg (by omega), Int.toNat_natCast]
  by_cases h : n = 0
  · subst h; rw [if_pos rfl, Lib.decDigits, dif_pos (by omega)]; rfl
  · rw [if_neg h, decN_digits n (by omega)]; simp
theorem u8_num (m : Nat) : ((UInt8.ofNat (48 + m % 10)).toNat : Int) = 48 + ((m % 10 : Nat) : Int) := by
  rw [UInt8.toNat_ofNat']
  omega
theorem push_all : ∀ (acc : List UInt8) (r : ByteArray), (acc.map fun b : UInt8 => (b.toNat : Int)).foldl (fun r n => r.push (UInt8.ofNat n.toNat)) r = ⟨r.data ++ acc.toArray⟩
  | [], r => by simp
  | b :: bs, r => by
    simp only [List.map_cons, List.foldl_cons]
    rw [push_all bs]
    cases r with
    | mk d =>
      simp only [ByteArray.push, Int.toNat_natCast, UInt8.ofNat_toNat, ByteArray.mk.injEq]
      simp
theorem run_bytes {P : Program} (src dst e : TypeId) (hs : P.underlying src = some (.slice e)) (he : P.underlying e = some (.int .u8)) (hd : P.underlying dst = some .string) (W : World) (ad : Addr) (c : Nat) (acc : List UInt8) (hA : Arr W (some ad) (acc.map u8v)) (h0 : 0 < acc.length) :
    (convert src dst (.slice (some ad) acc.length c)).run P W = .ok (.string ⟨acc.toArray⟩) W := by
  rw [run_convert_bytes_string _ _ _ _ _ _ _ hs he hd]
  have hc : (loadCells ad acc.length).run P W = .ok ((acc.map fun b : UInt8 => (b.toNat : Int)).map (Value.int .u8)).toArray W := by
    obtain ⟨ad', e', _, hcell⟩ := hA (by simpa using h0)
    injection e' with e'
    subst e'
    have := run_loadCells_list (P := P) (w := W) ad (acc.map u8v) hcell
    have e : (acc.map (fun b : UInt8 => (b.toNat : Int))).map (Value.int .u8) = acc.map u8v := by rw [List.map_map]; rfl
    rw [e]
    simpa using this
  rw [run_bytesToString _ _ _ _ (acc.map fun b : UInt8 => (b.toNat : Int)) hc, push_all]
  simp
theorem nDig_le : ∀ (k u : Nat), u < 10 ^ (k + 1) → Lib.nDigits u ≤ k + 1 := by
  intro k
  induction k with
  | zero => intro u hu; rw [Lib.nDigits_small (by simpa using hu)]; exact Nat.le_refl _
  | succ k ih =>
    intro u hu
    by_cases hs : u < 10
    · rw [Lib.nDigits_small hs]; omega
    · rw [Lib.nDigits_big hs]
      have := ih (u / 10) (by rw [Nat.pow_succ] at hu; exact Nat.div_lt_of_lt_mul (by omega))
      omega
theorem decN_len {n : Nat} {acc : List UInt8} (hn : (n : Int) ≤ 9223372036854775808) (h : decN n [] = acc) : acc.length ≤ 19 := by
  rw [← h]
  rcases Nat.eq_zero_or_pos n with h0 | h0
  · subst h0; rw [decN_zero]; simp
  · rw [decN_digits n h0, List.append_nil, Lib.decDigits_length]
    exact nDig_le 18 n (by omega)
theorem decN_room {n m : Nat} {acc : List UInt8} (hn : (n : Int) ≤ 9223372036854775808) (hm : 0 < m) (h : decN n [] = decN m acc) : acc.length + 1 ≤ 20 := by
  have h1 : (decN n []).length ≤ 19 := by
    rcases Nat.eq_zero_or_pos n with h0 | h0
    · subst h0; rw [decN_zero]; simp
    · rw [decN_digits n h0, List.append_nil, Lib.decDigits_length]
      exact nDig_le 18 n (by omega)
  rw [h, decN_digits m hm, List.length_append] at h1
  omega
def decB (n : Nat) : ByteArray := ⟨(Lib.itoa (n : Int)).toArray⟩
theorem info_u8 : (Tryz.prog.info? 5).map (fun i => (i.zero, i.size, i.bytes)) = some (some (.int .u8 0), 1, 1) := by kernel_rfl
set_option maxRecDepth 100000 in
set_option maxHeartbeats 2000000 in
theorem l01Dec_c (n : Nat) (hn : (n : Int) ≤ 9223372036854775807) (w : World) : Calls Tryz.prog 61 #[.int .i64 n] w (Ret (.string (decB n)) w) := by
  obtain ⟨i0, hi0, hz0, hz1, hz2⟩ := info_parts (P := Tryz.prog) (e := 5) (z := .int .u8 0) (size := 1) (bytes := 1) info_u8
  go_enter Tryz.func61, Tryz.ntmps61
  go_wp2_with fail
  have hR := Lib.hid (show decN n [] = decN n [] from rfl)
  go_loopw [3, 4] (fun o k wr => ∃ (m : Nat) (acc : List UInt8) (ad : Addr) (c : Nat), k = .int .i64 m ∧ o = .slice (some ad) acc.length c ∧ wr.ownsRow w.heap.size 5 1 (.slice (some ad) acc.length c) acc.length (acc.map u8v) ∧ acc.length + m ≤ n ∧ (n = 0 ∨ 0 < m ∨ 0 < acc.length) ∧ Hid (decN n [] = decN m acc) ∧ Below w.heap.size w wr) (fun _ k _ => (intOf k).toNat)
  case atStart => exact ⟨n, [], ⟨w.heap.size, 0, none⟩, 0, rfl, rfl, own_empty w _ _ _ (Nat.le_refl _), by simp, by omega, Lib.hid rfl, bl_alloc (Below.refl _ _) _⟩
  case round =>
    obtain ⟨m, acc, ad, c, rfl, rfl, hown, hle, hor, hR, hv⟩ := hrel
    by_cases h0 : m = 0
    · subst h0
      have hne : (((0 : Nat) : Int) != 0) = false := by rfl
      have hR2 := Lib.hid (hR.out.trans (decN_zero acc))
      by_cases hl : acc.length = 0
      · have hn0 : n = 0 := by omega
        have hle0 : ((acc.length : Int) == 0) = true := by simp; exact List.length_eq_zero_iff.1 hl
        have HN := Lib.hid hn0
        clear hn0 hl
        go_wp2_with fail
        go_returns
        exact Ret.mk (by rw [decB, HN.out, itoa_nat]; rfl) hv
      · have hle0 : ((acc.length : Int) == 0) = false := by simp; intro e; exact hl (by rw [e]; rfl)
        have hrun := run_bytes (P := Tryz.prog) 40 9 5 Tryz.underlying40 Tryz.underlying5 Tryz.underlying9 wr ad c acc (Arr.own hown) (by omega)
        have hnn : ¬ (n : Int) < 0 := by omega
        have hn0 : n ≠ 0 := by omega
        have HN := Lib.hid hn0
        clear hl hn0
        go_wp2_with fail
        go_returns
        exact Ret.mk (by rw [decB, itoa_nat, if_neg HN.out, hR2.out]; rfl) hv
    · have hne : ((m : Int) != 0) = true := by rw [bne_iff_ne]; omega
      have hR2 := Lib.hid (hR.out.trans (decN_step (by omega) acc))
      have hroom := decN_room (by omega) (by omega) hR.out
      have hX := World.ownsRow_lit (base := w.heap.size) (e := 5) (size := 1) wr #[Value.int IntKind.u8 (48 + ((m % 10 : Nat) : Int))] 1 hv.size (by simp [maxLen]) (by simp)
      have HX := Lib.hid hX
      have hAr := Arr.own hown
      have hsz : w.heap.size ≤ (wr.alloc (Obj.cells #[Value.int IntKind.u8 (48 + ((m % 10 : Nat) : Int))] 5)).heap.size := by have := hv.size; simp; omega
      have HSZ := Lib.hid hsz
      have HAr := Lib.hid hAr
      clear hX hAr hsz
      go_wp2_with (at_builtin; go_loud (refine app_many _ rfl _ _ 40 5 rfl i0 _ 1 1 Tryz.underlying40 hi0 hz0 hz1 hz2 rfl (by omega) w.heap.size (.slice (some ⟨wr.heap.size, 0, none⟩) 1 1) 1 [.int .u8 (48 + ((m % 10 : Nat) : Int))] rfl HX.out ad acc.length c (acc.map u8v) rfl (HAr.out.alloc _) (by simp) (by intro u hu; simp only [List.mem_map] at hu; obtain ⟨b, _, rfl⟩ := hu; rfl) (by unfold maxLen; omega) (by omega) HSZ.out ?_); intro A2 c2 w2 hown2 hg2; obtain ⟨g2, hA2⟩ := own_addr hown2 (by omega); subst hA2)
      have e1 : 1 + acc.length = (UInt8.ofNat (48 + m % 10) :: acc).length := by simp; omega
      have e2 : [Value.int IntKind.u8 (48 + ((m % 10 : Nat) : Int))] ++ acc.map u8v = (UInt8.ofNat (48 + m % 10) :: acc).map u8v := by simp only [List.map_cons, u8v]; rw [u8_num]; rfl
      rw [e1, e2] at hown2
      refine ⟨⟨m / 10, UInt8.ofNat (48 + m % 10) :: acc, ⟨g2, 0, none⟩, c2, by go_num, by rw [e1], hown2, by simp; omega, by simp, hR2, ?_⟩, by simp [intOf]; omega⟩
      exact bl_grown (bl_alloc hv _) hg2 (fun k e => by
        have h1 := hv.size
        have h2 : wr.heap.size = k := by simpa [Value.ownBlock] using e
        omega)
end Go.Proofs.YtihgjmhhpiobbaaGreatDoor
