/- Lemmas for the law on the console: the parts SplS, LogS. -/
import Derived.Test.YtpiehlfffjhoaaaGreatDoorQ0
import Derived.Test.YtpiehlfffjhoaaaGreatDoorQ5
import Derived.Test.YtpiehlfffjhoaaaGreatDoorQ2
import Derived.Test.YtpiehlfffjhoaaaGreatDoorQ6
namespace Go.Proofs.YtpiehlfffjhoaaaGreatDoor
open Go.RowKit
def splC (c : UInt8) (s : ByteArray) : List ByteArray := (spl c s.data.toList).map (fun l => ⟨l.toArray⟩)
theorem glue_nil {L : List (List UInt8)} (h : L ≠ []) : glue [] L = L := by
 cases L with
 | nil => exact absurd rfl h
 | cons a t => rfl
theorem extract_data (s : ByteArray) (q k : Nat) : (s.extract q k).data.toList = (s.data.toList.drop q).take (k - q) := by
 rw [ByteArray.data_extract, Array.toList_extract]
 try simp
theorem take_grow {s : ByteArray} {q k : Nat} (hq : q ≤ k) (hk : k < s.size) : (s.data.toList.drop q).take (k + 1 - q) = (s.data.toList.drop q).take (k - q) ++ [s[k]] := by
 have h := byte_at hk
 rw [show k + 1 - q = (k - q) + 1 from by omega, List.take_add_one, List.getElem?_drop, show q + (k - q) = k from by omega, h]
 rfl
theorem spl_hit {c : UInt8} {s : ByteArray} {q k : Nat} {P : List (List UInt8)} (hk : k < s.size) (hc : s[k] = c) (h : spl c s.data.toList = P ++ glue ((s.data.toList.drop q).take (k - q)) (spl c (s.data.toList.drop k))) :
   spl c s.data.toList = (P ++ [(s.data.toList.drop q).take (k - q)]) ++ glue ((s.data.toList.drop (k + 1)).take (k + 1 - (k + 1))) (spl c (s.data.toList.drop (k + 1))) := by
 rw [h, drop_at (byte_at hk)]
 simp only [spl]
 rw [if_pos hc, Nat.sub_self, List.take_zero, glue_nil (spl_ne _ _)]
 simp [glue]
theorem spl_miss {c : UInt8} {s : ByteArray} {q k : Nat} {P : List (List UInt8)} (hq : q ≤ k) (hk : k < s.size) (hc : ¬ s[k] = c) (h : spl c s.data.toList = P ++ glue ((s.data.toList.drop q).take (k - q)) (spl c (s.data.toList.drop k))) :
   spl c s.data.toList = P ++ glue ((s.data.toList.drop q).take (k + 1 - q)) (spl c (s.data.toList.drop (k + 1))) := by
 rw [h, drop_at (byte_at hk)]
 simp only [spl]
 rw [if_neg hc, glue_glue _ _ _ (spl_ne _ _), take_grow hq hk]
theorem spl_last {c : UInt8} {s : ByteArray} {q k : Nat} {P : List (List UInt8)} (hk : s.size ≤ k) (h : spl c s.data.toList = P ++ glue ((s.data.toList.drop q).take (k - q)) (spl c (s.data.toList.drop k))) :
   spl c s.data.toList = P ++ [(s.data.toList.drop q).take (s.size - q)] := by
 rw [h, show s.data.toList.drop k = [] from List.drop_eq_nil_of_le (by rw [bytes_len]; exact hk)]
 have h1 : ∀ j, s.size - q ≤ j → (s.data.toList.drop q).take j = s.data.toList.drop q := fun j hj => List.take_of_length_le (by rw [List.length_drop, bytes_len]; exact hj)
 rw [h1 (k - q) (by omega), h1 (s.size - q) (Nat.le_refl _)]
 simp [spl, glue]
theorem infoStr : (Tryz.prog.info? 9).map (fun i => (i.zero, i.size, i.bytes)) = some (some (.string ByteArray.empty), 1, 16) := by kernel_rfl
set_option maxRecDepth 100000 in
set_option maxHeartbeats 2000000 in
theorem l01SplitW_c (c : UInt8) (s : ByteArray) (hs : s.size ≤ 4194304) (w : World) : Calls Tryz.prog 40 #[.string s, .int .u8 c.toNat] w (OutC 9 1 (splC c s).length ((splC c s).map Value.string) w) := by
 obtain ⟨i0, hi0, hz0, hz1, hz2⟩ := info_parts (P := Tryz.prog) (e := 9) (z := .string ByteArray.empty) (size := 1) (bytes := 16) infoStr
 have hR := qH (show spl c s.data.toList = ([] : List ByteArray).map (·.data.toList) ++ glue ((s.data.toList.drop 0).take (0 - 0)) (spl c (s.data.toList.drop 0)) by
   rw [Nat.sub_self, List.take_zero, List.drop_zero, glue_nil (spl_ne _ _)]; rfl)
 have hfin : ∀ P : List ByteArray, spl c s.data.toList = P.map (·.data.toList) → splC c s = P := by
   intro P h
   unfold splC
   rw [h, List.map_map]
   conv => rhs; rw [← List.map_id P]
   exact List.map_congr_left fun x _ => by cases x; simp
 replace hfin := qH hfin
 go_enter Tryz.func40, Tryz.ntmps40
 go_wp2_with fail
 have hown := own_empty w w.heap.size 9 1 (Nat.le_refl _)
 have hv := bl_alloc (Below.refl w.heap.size w) (Obj.cells #[] 9)
 go_loopw [5, 6, 7] (fun o fr i wr => ∃ (P : List ByteArray) (q k m : Nat) (A : Option Addr) (c' : Nat), q ≤ k ∧ k ≤ s.size ∧ i = .int .i64 k ∧ fr = .int .i64 q ∧ o = .slice A m c' ∧ m ≤ k ∧ Hid (P.length = m) ∧
   Hid (spl c s.data.toList = P.map (·.data.toList) ++ glue ((s.data.toList.drop q).take (k - q)) (spl c (s.data.toList.drop k))) ∧ wr.ownsRow w.heap.size 9 1 (.slice A m c') m (P.map Value.string) ∧ Below w.heap.size w wr) (fun _ _ i _ => s.size - (intOf i).toNat)
 case atStart => exact ⟨[], 0, 0, 0, _, _, by omega, by omega, rfl, rfl, rfl, by omega, qH rfl, hR, hown, hv⟩
 case round =>
   clear hR hown hv
   obtain ⟨P, q, k, m, A, c', hq, hk, rfl, rfl, rfl, hmk, hm, hR, hown, hv⟩ := hrel
   by_cases hlt : k < s.size
   · by_cases hc : s[k] = c
     · have hR2 := qH (spl_hit hlt hc hR.out)
       have hcb : ((s[k].toNat : Int) == (c.toNat : Int)) = true := by rw [hc]; simp
       have hqi : (q : Int) ≤ (k : Int) := by omega
       clear hR hc
       go_wp2_with (at_builtin; refine app_own _ _ rfl _ _ 24 9 rfl i0 _ 1 16 Tryz.underlying24 hi0 hz0 hz1 hz2 rfl (by omega) _ (.slice A m c') m _ rfl rfl hown rfl (by simp [Value.oneCell']) (by unfold maxLen; omega) (by omega) hv.size ?_; intro A2 c2 w2 hown2 hg2)
       refine ⟨⟨P ++ [s.extract q k], k + 1, k + 1, m + 1, A2, c2, by omega, by omega, by go_num, by go_num, rfl, by omega, qH (by rw [List.length_append, hm.out]; rfl), qH ?_, ?_, bl_grown hv hg2 (own_at hown)⟩, by simp [intOf]; omega⟩
       · rw [hR2.out, List.map_append]
         simp only [List.map_cons, List.map_nil, extract_data]
       · rw [List.map_append]; exact hown2
     · have hR2 := qH (spl_miss hq hlt hc hR.out)
       have hcb : ((s[k].toNat : Int) == (c.toNat : Int)) = false := by
         rw [beq_eq_false_iff_ne]
         intro h
         exact hc (UInt8.toNat_inj.1 (by omega))
       clear hR hc
       go_wp2_with fail
       exact ⟨⟨P, q, k + 1, m, A, c', by omega, by omega, by go_num, rfl, rfl, by omega, hm, hR2, hown, hv⟩, by simp [intOf]; omega⟩
   · have hR2 := qH (spl_last (by omega) hR.out)
     have hF := qH (hfin.out (P ++ [s.extract q s.size]) (by rw [hR2.out, List.map_append]; simp only [List.map_cons, List.map_nil, extract_data]))
     have hqi : (q : Int) ≤ (s.size : Int) := by omega
     clear hR hR2
     go_wp2_with (at_builtin; refine app_own _ _ rfl _ _ 24 9 rfl i0 _ 1 16 Tryz.underlying24 hi0 hz0 hz1 hz2 rfl (by omega) _ (.slice A m c') m _ rfl rfl hown rfl (by simp [Value.oneCell']) (by unfold maxLen; omega) (by omega) hv.size ?_; intro A2 c2 w2 hown2 hg2)
     go_returns
     rw [hF.out]
     refine ⟨A2, c2, by rw [List.length_append, hm.out]; rfl, ?_, bl_grown hv hg2 (own_at hown)⟩
     rw [List.length_append, hm.out, List.map_append]
     exact hown2
theorem l01Split_c (c : UInt8) (s : ByteArray) (hs : s.size ≤ 1048576) (w : World) : Calls Tryz.prog 40 #[.string s, .int .u8 c.toNat] w (OutC 9 1 (splC c s).length ((splC c s).map Value.string) w) :=
 l01SplitW_c c s (by omega) w
set_option maxRecDepth 100000 in
set_option maxHeartbeats 2000000 in
theorem l27Line_c (s : Int) (g : Addr) (x : Entry) (hx : entB x = true) (h0 : 0 ≤ s) (h1 : s ≤ 65518) (w : World) (c0 : w.cell? g = some (.int .i64 x.day)) (c1 : w.cell? ⟨g.block, g.off + 1, none⟩ = some (.string x.what)) (c2 : w.cell? ⟨g.block, g.off + 2, none⟩ = some (.int .i64 x.value)) :
   Calls Tryz.prog 231 #[.int .i64 s, .pointer (some g)] w (Ret (.string (lineE s x)) w) := by
 have z1 := wordsB_size hx
 have z2 := decI_size s
 have hwd := qH (l27Words_c g x hx w c0 c1 c2)
 obtain ⟨wd, hwd2⟩ : ∃ wd, wd = wordsB x := ⟨_, rfl⟩
 have HL := qH (show lineE s x = wd ++ ⟨#[32]⟩ ++ decI s ++ ⟨#[10]⟩ by rw [hwd2]; rfl)
 rw [← hwd2] at hwd z1
 have z3 : (ByteArray.mk #[32]).size = 1 := rfl
 have z4 : (ByteArray.mk #[10]).size = 1 := rfl
 have hadd1 := fun (w : World) => run_string_add_sum (P := Tryz.prog) w wd ⟨#[32]⟩ (by omega)
 have hadd2 := fun (w : World) => run_string_add_sum (P := Tryz.prog) w (wd ++ ⟨#[32]⟩) (decI s) (by rw [ByteArray.size_append']; omega)
 have hadd3 := fun (w : World) => run_string_add_sum (P := Tryz.prog) w (wd ++ ⟨#[32]⟩ ++ decI s) ⟨#[10]⟩ (by rw [ByteArray.size_append', ByteArray.size_append']; omega)
 clear z1 z2 z3 z4 hwd2 c0 c1 c2 hx
 go_enter Tryz.func231, Tryz.ntmps231
 go_wp2_with fail
 refine (hwd.out).mono ?_
 rintro e W ⟨rfl, hb⟩
 go_wp2_with fail
 refine (l01DecI_c s (by omega) (by omega) _).mono ?_
 rintro e W2 ⟨rfl, hb2⟩
 go_wp2_with fail
 go_returns
 exact Ret.mk (vs HL.out.symm) (bl_trans hb hb2)
end Go.Proofs.YtpiehlfffjhoaaaGreatDoor
