/- A log read: the program's function. -/
import Derived.Test.YtpiehlfffjhoaaaGreatDoorQ0
import Derived.Test.YtpiehlfffjhoaaaGreatDoorQ7
import Derived.Deep.RegionHeld3
namespace Go.Proofs.YtpiehlfffjhoaaaGreatDoor
open Go.RowKit
theorem info_EntryX : (Tryz.prog.info? 141).map (fun i => (i.zero, i.size, i.bytes)) = some (some (.agg #[.int .i64 0, .string ByteArray.empty, .int .i64 0]), 3, 32) := by kernel_rfl
def cellN (w : World) (p : Addr) : Nat := match w.cell? p with
 | some v => (intOf v).toNat
 | none => 0
theorem cellN_of {w : World} {p : Addr} {n : Nat} (h : w.cell? p = some (.int .i64 n)) : cellN w p = n := by unfold cellN; rw [h]; simp [intOf]
def OutRd (s : ByteArray) (w : World) (e : Ending) (w' : World) : Prop :=
 ∃ A c, e = .returned (.agg #[.slice A (rdL s).1.length c, .int .i64 (rdL s).2.1, .int .i64 (rdL s).2.2]) ∧ w'.ownsRow w.heap.size 141 3 (.slice A (rdL s).1.length c) (rdL s).1.length (flat Entry.cells (rdL s).1) ∧ Below w.heap.size w w'
theorem OutRd.mk {s : ByteArray} {w w' : World} {es : List Entry} {st : Int} {n m : Nat} {A : Option Addr} {c : Nat} (hr : rdL s = (es, st, n)) (hm : es.length = m) (ho : w'.ownsRow w.heap.size 141 3 (.slice A m c) m (flat Entry.cells es)) (hb : Below w.heap.size w w') :
   OutRd s w (.returned (.agg #[.slice A m c, .int .i64 st, .int .i64 n])) w' := by
 subst hm
 unfold OutRd
 rw [hr]
 exact ⟨A, c, rfl, ho, hb⟩
theorem cut_nl (l : List UInt8) : Lib.cut l [10] = if nl10 l < l.length then (l.take (nl10 l), l.drop (nl10 l + 1), true) else (l, [], false) := by
 have h := nl10_index l
 unfold Lib.cut
 by_cases hk : nl10 l < l.length
 · rw [if_pos hk] at h ⊢
   rw [h, if_pos (by omega)]
   simp
 · rw [if_neg hk] at h ⊢
   rw [h, if_neg (by omega)]
theorem stepL_short {l : List UInt8} {es : List Entry} {st : Int} (h : ¬ nl10 l < l.length) : stepL l es st = none := by unfold stepL; rw [if_neg h]
theorem stepL_bad {l : List UInt8} {es : List Entry} {st : Int} (h : linE (l.take (nl10 l)) = none) : stepL l es st = none := by
 unfold stepL
 split
 · rw [h]
 · rfl
theorem stepL_not {l : List UInt8} {es : List Entry} {st s' : Int} {x : Entry} (h : linE (l.take (nl10 l)) = some (x, s')) (hn : ¬ (lastD es ≤ x.day ∧ stp st x = s')) : stepL l es st = none := by
 unfold stepL
 split
 · rw [h]
   simp only []
   rw [if_neg hn]
 · rfl
theorem stepL_yes {l : List UInt8} {es : List Entry} {st s' : Int} {x : Entry} (hk : nl10 l < l.length) (h : linE (l.take (nl10 l)) = some (x, s')) (hn : lastD es ≤ x.day ∧ stp st x = s') : stepL l es st = some (x, nl10 l + 1) := by
 unfold stepL
 rw [if_pos hk, h]
 simp only []
 rw [if_pos hn]
theorem drop_data (s : ByteArray) (n : Nat) : (s.extract n s.size).data.toList = s.data.toList.drop n := by
 rw [ByteArray.data_extract, Array.toList_extract]
 simp [List.take_of_length_le]
theorem linE_ent {l : List UInt8} {x : Entry} {s : Int} (h : linE l = some (x, s)) : entB x = true := by
 unfold linE at h
 split at h
 · split at h
   · rename_i hq
     simp only [Option.some.injEq, Prod.mk.injEq] at h
     simp only [Bool.and_eq_true] at hq
     rw [← h.1]
     exact hq.2
   · cases h
 · cases h
def Z74 : Array Value := #[Value.slice none 0 0, Value.int .i64 0, Value.int .i64 0]
theorem CutNl_c (s : ByteArray) (hs : s.size ≤ 4000000000) (w : World) (hT : Tabs w) : Calls Tryz.prog 133 #[.string s, .string ⟨#[10]⟩] w fun e w' => ∃ a b : ByteArray, ∃ n, a.data.toList = (if nl10 s.data.toList < s.size then s.data.toList.take (nl10 s.data.toList) else s.data.toList) ∧ e = .returned (.tuple #[.string a, .string b, .bool (decide (nl10 s.data.toList < s.size))]) ∧ w' = w.drewN n := by
 obtain ⟨m, hm⟩ := hT.len
 refine (Tryz.strings_Cut s ⟨#[10]⟩ m w (by omega) hm).mono ?_
 rintro e w' ⟨rfl, n, rfl⟩
 rw [show (ByteArray.mk #[10]).data.toList = [10] from rfl, cut_nl, bytes_len]
 by_cases hk : nl10 s.data.toList < s.size
 · simp only [if_pos hk, decide_eq_true hk]
   exact ⟨_, _, n, by simp, rfl, rfl⟩
 · simp only [if_neg hk, decide_eq_false hk]
   exact ⟨_, _, n, by simp, rfl, rfl⟩
theorem own_row_far {w : World} {base e size n : Nat} {v : Value} {cs : List Value} (h : w.ownsRow base e size v n cs) {p : Addr} (hp : p.block < base) (u : Value) : (w.setCell p u).ownsRow base e size v n cs :=
 own_far h (fun g hg => by have := own_at h g hg; omega) u
set_option maxRecDepth 100000 in
set_option maxHeartbeats 8000000 in
theorem readLog_c (s : ByteArray) (hs : s.size ≤ 1048576) (w : World) (hT : Tabs w) : Calls Tryz.prog 88 #[.string s] w (OutRd s w) := by
 have HT := qH hT
 clear hT
 obtain ⟨i0, hi0, hz0, hz1, hz2⟩ := info_parts (P := Tryz.prog) (e := 141) (z := .agg #[.int .i64 0, .string ByteArray.empty, .int .i64 0]) (size := 3) (bytes := 32) info_EntryX
 go_enter Tryz.func88, Tryz.ntmps88
 go_wp2_with fail
 obtain ⟨W, hW⟩ : ∃ W, W = (w.alloc (Obj.cells #[.slice none 0 0, .int .i64 0, .int .i64 0] 146)).alloc (Obj.cells #[.slice none 0 0, .int .i64 0, .int .i64 0] 146) := ⟨_, rfl⟩
 obtain ⟨gR, hgR⟩ : ∃ gR, gR = w.heap.size := ⟨_, rfl⟩
 obtain ⟨gO, hgO⟩ : ∃ gO, gO = w.heap.size + 1 := ⟨_, rfl⟩
 have hv : Below w.heap.size w W := by rw [hW]; exact bl_alloc (bl_alloc (Below.refl _ _) _) _
 have hR : Blk W gR 146 Z74 := by rw [hW, hgR]; exact (Blk.new _ _ _).alloc _
 have hO : Blk W gO 146 Z74 := by
   rw [hW, hgO, show w.heap.size + 1 = (w.alloc (Obj.cells #[.slice none 0 0, .int .i64 0, .int .i64 0] 146)).heap.size from by simp]
   exact Blk.new _ _ _
 have hne : gR ≠ gO := by omega
 have hg1 : w.heap.size ≤ gR := by omega
 have hgO2 : w.heap.size ≤ gO := by omega
 rw [← hW, ← hgO, ← hgR]
 have HGR := qH hgR
 have HGO := qH hgO
 clear hW hgR hgO
 have hR0 := qH (show rdL s = rdF s.data.toList (s.size + 1) [] 0 0 from rfl)
 go_loopw [4] (fun _ wr => ∃ (es : List Entry) (st : Int) (n f m : Nat) (A : Option Addr) (c : Nat), Good s es st n ∧ s.size + 1 ≤ n + f ∧ Hid (es.length = m) ∧ Hid (rdL s = rdF s.data.toList f es st n) ∧ Blk wr gR 146 Z74 ∧ Blk wr gO 146 #[.slice A m c, .int .i64 st, .int .i64 n] ∧
   wr.ownsRow (gO + 1) 141 3 (.slice A m c) m (flat Entry.cells es) ∧ Below w.heap.size w wr) (fun _ wr => s.size - cellN wr ⟨gO, 2, none⟩)
 case atStart => exact ⟨[], 0, 0, s.size + 1, 0, none, 0, Good.nil s, by omega, qH rfl, hR0, hR, hO, World.ownsRow_nil _ _ _ _, hv⟩
 case round =>
   clear hR0 hR hO hv
   obtain ⟨es, st, n, f, m, A, c, hG, hf, hm, hRd, hR, hO, hown, hv⟩ := hrel
   have hn := hG.le
   have k2 : wr.cell? ⟨gO, 2, none⟩ = some (.int .i64 n) := hO.cell 2
   obtain ⟨t, ht⟩ : ∃ t, s.extract n s.size = t := ⟨_, rfl⟩
   have htd : t.data.toList = s.data.toList.drop n := by rw [← ht]; exact drop_data s n
   have htz : t.size = s.size - n := by rw [← ht]; simp
   go_wp2_with fail
   refine (CutNl_c t (by omega) _ (HT.out.below hv)).mono ?_
   rintro e W2 ⟨ln, rst, q, hln, rfl, hW2⟩
   have hb : Below wr.heap.size wr W2 := by rw [hW2]; exact below_drewN (Below.refl _ _) q
   replace hv := bl_trans hv hb
   replace hR := hR.below hb
   replace hO := hO.below hb
   replace hown := own_below hown hb
   have hmeas := qH (cellN_of k2)
   clear hb hW2 k2 ht
   rw [htd, htz] at hln ⊢
   have hRlo : gR < gO + 1 := by have := HGR.out; have := HGO.out; omega
   have hdl := qH (show (s.data.toList.drop n).length = s.size - n by rw [List.length_drop, bytes_len])
   by_cases hk : nl10 (s.data.toList.drop n) < s.size - n
   case neg =>
     have HS := qH (stepL_short (l := s.data.toList.drop n) (es := es) (st := st) (by rw [hdl.out]; exact hk))
     rw [decide_eq_false hk]
     clear hk hln htd htz
     have k0 : W2.cell? ⟨gO, 0, none⟩ = some (.slice A m c) := hO.cell 0
     have k1 : W2.cell? ⟨gO, 1, none⟩ = some (.int .i64 st) := hO.cell 1
     have k2 : W2.cell? ⟨gO, 2, none⟩ = some (.int .i64 n) := hO.cell 2
     have r0 : W2.cell? ⟨gR, 0, none⟩ = some (.slice none 0 0) := hR.cell 0
     have r1 : W2.cell? ⟨gR, 1, none⟩ = some (.int .i64 0) := hR.cell 1
     have r2 : W2.cell? ⟨gR, 2, none⟩ = some (.int .i64 0) := hR.cell 2
     have f0 : W2.frozen? ⟨gR, 0, none⟩ = false := hR.frozen 0
     have f1 : W2.frozen? ⟨gR, 1, none⟩ = false := hR.frozen 1
     have f2 : W2.frozen? ⟨gR, 2, none⟩ = false := hR.frozen 2
     go_wp2_with fail
     refine bodyPost_ret (results_cell_row (P := Tryz.prog) rfl _ _ gR 146 #[(.slice A m c), .int .i64 st, .int .i64 n] (0, 0) _ rfl ?_ Tryz.underlying146 rfl (by kernel_rfl)) rfl ?_
     · exact ((hR.set_ 0 _).set_ 1 _).set_ 2 _
     · have hbs := bl_set (bl_set (bl_set hv (p := ⟨gR, 0, none⟩) hg1 (.slice A m c)) (p := ⟨gR, 1, none⟩) hg1 (.int .i64 st)) (p := ⟨gR, 2, none⟩) hg1 (.int .i64 n)
       have hok := own_base (own_row_far (own_row_far (own_row_far hown (p := ⟨gR, 0, none⟩) hRlo (.slice A m c)) (p := ⟨gR, 1, none⟩) hRlo (.int .i64 st)) (p := ⟨gR, 2, none⟩) hRlo (.int .i64 n)) (base' := w.heap.size) (by omega)
       exact OutRd.mk (hRd.out.trans (rdF_stop (HS.out))) hm.out hok hbs
   have HK := qH hk
   rw [decide_eq_true hk]
   rw [if_pos hk] at hln
   have hlz : ln.size = nl10 (s.data.toList.drop n) := by
     rw [← bytes_len, hln, List.length_take, hdl.out]; omega
   obtain ⟨k, hkk⟩ : ∃ k, k = nl10 (s.data.toList.drop n) := ⟨_, rfl⟩
   rw [← hkk] at hlz hk hln
   have HKK := qH hkk
   have hlnz : ln.size ≤ 1048576 := by omega
   clear hkk htd htz
   go_wp2_with fail
   refine (readLine_c ln hlnz _ (HT.out.below hv)).mono ?_
   rintro e W3 ⟨x, st', ok, rfl, hxz, ⟨d0, d1⟩, ⟨q0, q1⟩, hlin, hb⟩
   replace hv := bl_trans hv hb
   replace hR := hR.below hb
   replace hO := hO.below hb
   replace hown := own_below hown hb
   rw [hln] at hlin
   have HLIN := qH hlin
   clear hb hlin hln
   obtain ⟨W4, hW4⟩ : ∃ W4, W4 = W3.alloc (Obj.cells #[.int .i64 x.day, .string x.what, .int .i64 x.value] 141) := ⟨_, rfl⟩
   obtain ⟨gX, hgX⟩ : ∃ gX, gX = W3.heap.size := ⟨_, rfl⟩
   have hX : Blk W4 gX 141 #[.int .i64 x.day, .string x.what, .int .i64 x.value] := by rw [hW4, hgX]; exact Blk.new _ _ _
   have hb : Below W3.heap.size W3 W4 := by rw [hW4]; exact bl_alloc (Below.refl _ _) _
   have k0 : ∀ o, (W3.alloc o).cell? ⟨gO, 0, none⟩ = some (.slice A m c) := fun o => (hO.alloc o).cell 0
   have hgOX : gO < gX := by rw [hgX]; exact hO.lt
   go_wp2_with fail
   rw [← hW4, ← hgX]
   clear hW4 hgX k0
   replace hv := bl_trans hv hb
   replace hR := hR.below hb
   replace hO := hO.below hb
   replace hown := own_below hown hb
   clear hb
   replace hv : Below w.heap.size w W4.drew := hv.drew
   replace hR := hR.below (Below.refl W4.heap.size W4).drew
   replace hO := hO.below (Below.refl W4.heap.size W4).drew
   replace hX := hX.below (Below.refl W4.heap.size W4).drew
   replace hown := own_below hown (Below.refl W4.heap.size W4).drew
   cases ok
   · have HS := qH (stepL_bad (l := s.data.toList.drop n) (es := es) (st := st) (by rw [← HKK.out]; exact HLIN.out))
     refine wp_region_held_drew (S := fun w' => Blk w' gO 146 #[.slice A m c, .int .i64 st, .int .i64 n] ∧ Blk w' gX 141 #[Value.int .i64 x.day, Value.string x.what, Value.int .i64 x.value]) (by kernel_rfl) ?_ (fun hHeld => ?_)
     · exact ⟨hO, hX⟩
     refine zU 0 33 rfl (by assumption) ?_
     try simp only [Act.put, zA, zB, zC]
     refine zU 1 34 rfl (by assumption) ?_
     try simp only [Act.put, zA, zB, zC]
     refine zU 2 35 rfl (by assumption) ?_
     try simp only [Act.put, zA, zB, zC]
     refine zS 3 36 rfl (by assumption) ?_
     try simp only [Act.put, zA, zB, zC]
     refine zS 4 37 rfl (by assumption) ?_
     try simp only [Act.put, zA, zB, zC]
     refine zS 5 38 rfl (by assumption) ?_
     try simp only [Act.put, zA, zB, zC]
     refine zS 6 39 rfl (by assumption) ?_
     try simp only [Act.put, zA, zB, zC]
     refine zS 7 40 rfl (by assumption) ?_
     try simp only [Act.put, zA, zB, zC]
     refine zS 8 41 rfl (by assumption) ?_
     try simp only [Act.put, zA, zB, zC]
     refine zS 9 42 rfl (by assumption) ?_
     try simp only [Act.put, zA, zB, zC]
     refine zS 10 43 rfl (by assumption) ?_
     try simp only [Act.put, zA, zB, zC]
     refine zS 11 44 rfl (by assumption) ?_
     try simp only [Act.put, zA, zB, zC]
     refine zS 12 45 rfl (by assumption) ?_
     try simp only [Act.put, zA, zB, zC]
     refine zS 13 46 rfl (by assumption) ?_
     try simp only [Act.put, zA, zB, zC]
     refine zS 14 47 rfl (by assumption) ?_
     try simp only [Act.put, zA, zB, zC]
     refine zS 15 48 rfl (by assumption) ?_
     try simp only [Act.put, zA, zB, zC]
     refine zS 16 49 rfl (by assumption) ?_
     try simp only [Act.put, zA, zB, zC]
     refine zU 17 50 rfl (by assumption) ?_
     try simp only [Act.put, zA, zB, zC]
     refine zU 18 51 rfl (by assumption) ?_
     try simp only [Act.put, zA, zB, zC]
     refine zS 19 52 rfl (by assumption) ?_
     try simp only [Act.put, zA, zB, zC]
     refine zS 20 53 rfl (by assumption) ?_
     try simp only [Act.put, zA, zB, zC]
     refine zS 21 54 rfl (by assumption) ?_
     try simp only [Act.put, zA, zB, zC]
     refine zS 22 55 rfl (by assumption) ?_
     try simp only [Act.put, zA, zB, zC]
     refine zS 23 56 rfl (by assumption) ?_
     try simp only [Act.put, zA, zB, zC]
     refine zS 24 57 rfl (by assumption) ?_
     try simp only [Act.put, zA, zB, zC]
     refine zU 25 58 rfl (by assumption) ?_
     try simp only [Act.put, zA, zB, zC]
     refine wpAnyH_done (by kernel_rfl) ?_ _
     have k0 : W4.cell? ⟨gO, 0, none⟩ = some (.slice A m c) := hO.cell 0
     have k1 : W4.cell? ⟨gO, 1, none⟩ = some (.int .i64 st) := hO.cell 1
     have k2 : W4.cell? ⟨gO, 2, none⟩ = some (.int .i64 n) := hO.cell 2
     have r0 : W4.cell? ⟨gR, 0, none⟩ = some (.slice none 0 0) := hR.cell 0
     have r1 : W4.cell? ⟨gR, 1, none⟩ = some (.int .i64 0) := hR.cell 1
     have r2 : W4.cell? ⟨gR, 2, none⟩ = some (.int .i64 0) := hR.cell 2
     have f0 : W4.frozen? ⟨gR, 0, none⟩ = false := hR.frozen 0
     have f1 : W4.frozen? ⟨gR, 1, none⟩ = false := hR.frozen 1
     have f2 : W4.frozen? ⟨gR, 2, none⟩ = false := hR.frozen 2
     go_wp2_with fail
     refine bodyPost_ret (results_cell_row (P := Tryz.prog) rfl _ _ gR 146 #[(.slice A m c), .int .i64 st, .int .i64 n] (0, 0) _ rfl ?_ Tryz.underlying146 rfl (by kernel_rfl)) rfl ?_
     · exact ((hR.set_ 0 _).set_ 1 _).set_ 2 _
     · have hbs := bl_set (bl_set (bl_set hv (p := ⟨gR, 0, none⟩) hg1 (.slice A m c)) (p := ⟨gR, 1, none⟩) hg1 (.int .i64 st)) (p := ⟨gR, 2, none⟩) hg1 (.int .i64 n)
       have hok := own_base (own_row_far (own_row_far (own_row_far hown (p := ⟨gR, 0, none⟩) hRlo (.slice A m c)) (p := ⟨gR, 1, none⟩) hRlo (.int .i64 st)) (p := ⟨gR, 2, none⟩) hRlo (.int .i64 n)) (base' := w.heap.size) (by omega)
       exact OutRd.mk (hRd.out.trans (rdF_stop (HS.out))) hm.out hok hbs
   have HLIN2 := qH (show linE ((s.data.toList.drop n).take (nl10 (s.data.toList.drop n))) = some (x, st') by rw [← HKK.out]; exact HLIN.out)
   have hex := linE_ent HLIN2.out
   have s0 := hG.s0
   have s1 := hG.s1
   by_cases hm0 : m = 0
   · have hd0 : decide (0 < (m : Int)) = false := decide_eq_false (by omega)
     have HLA := qH (show lastD es ≤ x.day by rw [show es = [] from List.eq_nil_of_length_eq_zero (by rw [hm.out]; exact hm0)]; exact (entB_bd hex).1)
     have hm1 : ¬ 0 < m := by omega
     clear hm0
     refine wp_region_held_drew (S := fun w' => Blk w' gO 146 #[.slice A m c, .int .i64 st, .int .i64 n] ∧ Blk w' gX 141 #[Value.int .i64 x.day, Value.string x.what, Value.int .i64 x.value]) (by kernel_rfl) ?_ (fun hHeld => ?_)
     · exact ⟨hO, hX⟩
     refine zU 0 33 rfl (by assumption) ?_
     try simp only [Act.put, zA, zB, zC]
     refine zU 1 34 rfl (by assumption) ?_
     try simp only [Act.put, zA, zB, zC]
     refine zU 2 35 rfl (by assumption) ?_
     try simp only [Act.put, zA, zB, zC]
     refine zU 3 36 rfl (by assumption) ?_
     try simp only [Act.put, zA, zB, zC]
     refine zU 4 37 rfl (by assumption) ?_
     try simp only [Act.put, zA, zB, zC]
     refine zU 5 38 rfl (by assumption) ?_
     try simp only [Act.put, zA, zB, zC]
     refine zS 6 39 rfl (by assumption) ?_
     try simp only [Act.put, zA, zB, zC]
     refine zS 7 40 rfl (by assumption) ?_
     try simp only [Act.put, zA, zB, zC]
     refine zS 8 41 rfl (by assumption) ?_
     try simp only [Act.put, zA, zB, zC]
     refine zS 9 42 rfl (by assumption) ?_
     try simp only [Act.put, zA, zB, zC]
     refine zS 10 43 rfl (by assumption) ?_
     try simp only [Act.put, zA, zB, zC]
     refine zS 11 44 rfl (by assumption) ?_
     try simp only [Act.put, zA, zB, zC]
     refine zS 12 45 rfl (by assumption) ?_
     try simp only [Act.put, zA, zB, zC]
     refine zS 13 46 rfl (by assumption) ?_
     try simp only [Act.put, zA, zB, zC]
     refine zS 14 47 rfl (by assumption) ?_
     try simp only [Act.put, zA, zB, zC]
     refine zS 15 48 rfl (by assumption) ?_
     try simp only [Act.put, zA, zB, zC]
     refine zU 16 49 rfl (by assumption) ?_
     try simp only [Act.put, zA, zB, zC]
     refine zU 17 50 rfl (by assumption) ?_
     try simp only [Act.put, zA, zB, zC]
     refine zU 18 51 rfl (by assumption) ?_
     try simp only [Act.put, zA, zB, zC]
     refine zU 19 52 rfl (by assumption) ?_
     try simp only [Act.put, zA, zB, zC]
     refine zT 20 53 ?_ rfl ?_ (by assumption) ?_
     rotate_left
     · intro w hSw
       try dsimp only at hSw
       have k0 : w.cell? ⟨gO, 0, none⟩ = some (.slice A m c) := hSw.1.cell 0
       have k1 : w.cell? ⟨gO, 1, none⟩ = some (.int .i64 st) := hSw.1.cell 1
       have x0 : w.cell? ⟨gX, 0, none⟩ = some (.int .i64 x.day) := hSw.2.cell 0
       have x1 : w.cell? ⟨gX, 1, none⟩ = some (.string x.what) := hSw.2.cell 1
       have x2 : w.cell? ⟨gX, 2, none⟩ = some (.int .i64 x.value) := hSw.2.cell 2
       go_simp
       try with_reducible rfl
     try simp only [Act.put, zA, zB, zC]
     refine zT 21 54 ?_ rfl ?_ (by assumption) ?_
     rotate_left
     · intro w hSw
       try dsimp only at hSw
       have k0 : w.cell? ⟨gO, 0, none⟩ = some (.slice A m c) := hSw.1.cell 0
       have k1 : w.cell? ⟨gO, 1, none⟩ = some (.int .i64 st) := hSw.1.cell 1
       have x0 : w.cell? ⟨gX, 0, none⟩ = some (.int .i64 x.day) := hSw.2.cell 0
       have x1 : w.cell? ⟨gX, 1, none⟩ = some (.string x.what) := hSw.2.cell 1
       have x2 : w.cell? ⟨gX, 2, none⟩ = some (.int .i64 x.value) := hSw.2.cell 2
       go_simp
       try with_reducible rfl
     try simp only [Act.put, zA, zB, zC]
     refine zU 23 56 rfl (by assumption) ?_
     try simp only [Act.put, zA, zB, zC]
     refine zR 22 (some 55) rfl (fun K hK => ?_)
     go_simp
     (try dsimp only at hHeld); go_split_ands
     refine (stampOf_c st x s0 s1 hex _ (HT.out.below hv).pow).mono ?_
     rintro e W5 ⟨rfl, hb⟩
     replace hv := bl_trans hv hb
     replace hR := hR.below hb
     replace hO := hO.below hb
     replace hX := hX.below hb
     replace hown := own_below hown hb
     clear hb
     go_wp2_with fail
     refine hK.out _ _ ?_ (fun hHeld => ?_)
     · (try dsimp only); go_split_ands; exact ⟨hO, hX⟩
     clear hK K
     try simp only [Act.put, zA, zB, zC]
     refine zU 24 57 rfl (by assumption) ?_
     try simp only [Act.put, zA, zB, zC]
     refine zU 25 58 rfl (by assumption) ?_
     try simp only [Act.put, zA, zB, zC]
     refine wpAnyH_done (by kernel_rfl) ?_ _
     by_cases hst : stp st x = st'
     case neg =>
       have HS := qH (stepL_not (es := es) HLIN2.out (fun h => hst h.2))
       have hq : (stampV st (wordsB x) != st') = true := by rw [bne_iff_ne]; exact hst
       clear hst
       have k0 : W5.cell? ⟨gO, 0, none⟩ = some (.slice A m c) := hO.cell 0
       have k1 : W5.cell? ⟨gO, 1, none⟩ = some (.int .i64 st) := hO.cell 1
       have k2 : W5.cell? ⟨gO, 2, none⟩ = some (.int .i64 n) := hO.cell 2
       have r0 : W5.cell? ⟨gR, 0, none⟩ = some (.slice none 0 0) := hR.cell 0
       have r1 : W5.cell? ⟨gR, 1, none⟩ = some (.int .i64 0) := hR.cell 1
       have r2 : W5.cell? ⟨gR, 2, none⟩ = some (.int .i64 0) := hR.cell 2
       have f0 : W5.frozen? ⟨gR, 0, none⟩ = false := hR.frozen 0
       have f1 : W5.frozen? ⟨gR, 1, none⟩ = false := hR.frozen 1
       have f2 : W5.frozen? ⟨gR, 2, none⟩ = false := hR.frozen 2
       go_wp2_with fail
       refine bodyPost_ret (results_cell_row (P := Tryz.prog) rfl _ _ gR 146 #[(.slice A m c), .int .i64 st, .int .i64 n] (0, 0) _ rfl ?_ Tryz.underlying146 rfl (by kernel_rfl)) rfl ?_
       · exact ((hR.set_ 0 _).set_ 1 _).set_ 2 _
       · have hbs := bl_set (bl_set (bl_set hv (p := ⟨gR, 0, none⟩) hg1 (.slice A m c)) (p := ⟨gR, 1, none⟩) hg1 (.int .i64 st)) (p := ⟨gR, 2, none⟩) hg1 (.int .i64 n)
         have hok := own_base (own_row_far (own_row_far (own_row_far hown (p := ⟨gR, 0, none⟩) hRlo (.slice A m c)) (p := ⟨gR, 1, none⟩) hRlo (.int .i64 st)) (p := ⟨gR, 2, none⟩) hRlo (.int .i64 n)) (base' := w.heap.size) (by omega)
         exact OutRd.mk (hRd.out.trans (rdF_stop (HS.out))) hm.out hok hbs
     have HS := qH (stepL_yes (es := es) (st := st) (by rw [hdl.out]; exact HK.out) HLIN2.out ⟨HLA.out, hst⟩)
     have hq : (stampV st (wordsB x) != st') = false := by rw [bne_eq_false_iff_eq]; exact hst
     have HG := stepL_some hG HS.out
     have HST := qH hst
     obtain ⟨f', rfl⟩ : ∃ f', f = f' + 1 := ⟨f - 1, by omega⟩
     have hR2 := qH (hRd.out.trans (rdF_step HS.out))
     have HLZ := qH hlz
     clear hst hlz hRd
     have hmf : m ≤ 1048576 := by have := hG.few; have := hm.out; omega
     have k0 : W5.cell? ⟨gO, 0, none⟩ = some (.slice A m c) := hO.cell 0
     have x0 : W5.cell? ⟨gX, 0, none⟩ = some (.int .i64 x.day) := hX.cell 0
     have x1 : W5.cell? ⟨gX, 1, none⟩ = some (.string x.what) := hX.cell 1
     have x2 : W5.cell? ⟨gX, 2, none⟩ = some (.int .i64 x.value) := hX.cell 2
     have hbase : gO + 1 ≤ W5.heap.size := hO.lt
     go_wp2_with (at_builtin; refine app_ownX W5 #[Value.int .i64 x.day, Value.string x.what, Value.int .i64 x.value] rfl _ _ 144 141 rfl i0 _ 3 32 Tryz.underlying144 hi0 hz0 hz1 hz2 rfl (by omega) (gO + 1) (.slice A m c) m (flat Entry.cells es) rfl _ rfl rfl hown rfl (by simp [Value.oneCell']) (by unfold maxLen; omega) (by omega) hbase ?_; intro A2 c2 w2 hown2 hg2; have hO2 := Blk.grown hO hg2 (fun e => by have h1 := own_at hown gO e.symm; omega); have k0' : w2.cell? ⟨gO, 0, none⟩ = some (.slice A m c) := hO2.cell 0; have k1' : w2.cell? ⟨gO, 1, none⟩ = some (.int .i64 st) := hO2.cell 1; have k2' : w2.cell? ⟨gO, 2, none⟩ = some (.int .i64 n) := hO2.cell 2; have f0' := hO2.frozen 0; have f1' := hO2.frozen 1; have f2' := hO2.frozen 2)
     have hnn : n + (ln.size + 1) = n + (nl10 (s.data.toList.drop n) + 1) := by rw [HLZ.out, HKK.out]
     have hfl : flat Entry.cells es ++ #[Value.int .i64 x.day, Value.string x.what, Value.int .i64 x.value].toList = flat Entry.cells (es ++ [x]) := by rw [flat_append, flat_one]; rfl
     have hcast : ((n + (ln.size + 1) : Nat) : Int) = (n : Int) + ((ln.size : Int) + 1) := by omega
     have hOlo : gO < gO + 1 := by omega
     have hRg := Blk.grown hR hg2 (fun e => by have h1 := own_at hown gR e.symm; omega)
     have hvg := bl_grown hv hg2 (fun k e => by have h1 := own_at hown k e; omega)
     have hO3 := ((hO2.set_ 0 (.slice A2 (m + 1) c2)).set_ 1 (.int .i64 st')).set_ 2 (.int .i64 ((n : Int) + ((ln.size : Int) + 1)))
     have hR3 := ((hRg.far (p := ⟨gO, 0, none⟩) hne (.slice A2 (m + 1) c2)).far (p := ⟨gO, 1, none⟩) hne (.int .i64 st')).far (p := ⟨gO, 2, none⟩) hne (.int .i64 ((n : Int) + ((ln.size : Int) + 1)))
     have hv3 := bl_set (bl_set (bl_set hvg (p := ⟨gO, 0, none⟩) hgO2 (.slice A2 (m + 1) c2)) (p := ⟨gO, 1, none⟩) hgO2 (.int .i64 st')) (p := ⟨gO, 2, none⟩) hgO2 (.int .i64 ((n : Int) + ((ln.size : Int) + 1)))
     have ho3 := own_row_far (own_row_far (own_row_far hown2 (p := ⟨gO, 0, none⟩) hOlo (.slice A2 (m + 1) c2)) (p := ⟨gO, 1, none⟩) hOlo (.int .i64 st')) (p := ⟨gO, 2, none⟩) hOlo (.int .i64 ((n : Int) + ((ln.size : Int) + 1)))
     have hm3 := cellN_of (w := (((w2.setCell ⟨gO, 0, none⟩ (.slice A2 (m + 1) c2)).setCell ⟨gO, 1, none⟩ (.int .i64 st')).setCell ⟨gO, 2, none⟩ (.int .i64 ((n : Int) + ((ln.size : Int) + 1))))) (p := ⟨gO, 2, none⟩) (n := n + (ln.size + 1)) (by rw [hcast]; exact hO3.cell 2)
     refine ⟨⟨es ++ [x], st', n + (ln.size + 1), f', m + 1, A2, c2, ?_, by omega, qH (by rw [List.length_append, hm.out]; rfl), qH (by rw [hR2.out, hnn, HST.out]), hR3, by rw [hcast]; exact hO3, by rw [← hfl]; exact ho3, hv3⟩, ?_⟩
     · rw [hnn, ← HST.out]; exact HG.1
     · have h2 := hmeas.out
       rw [hm3, h2]
       have := HK.out
       omega
   obtain ⟨j, rfl⟩ : ∃ j, m = j + 1 := ⟨m - 1, by omega⟩
   obtain ⟨y, hy⟩ := get_of_lt (xs := es) (k := j) (by rw [hm.out]; omega)
   obtain ⟨ad, rfl, hab, hY, _, _⟩ := Entry.at_ (Arr.own hown) hy
   have HLD := qH (lastD_at hm.out hy)
   have hjm : j + 1 ≤ 1048576 := by have := hG.few; have := hm.out; omega
   have hd0 : decide (0 < ((j + 1 : Nat) : Int)) = true := decide_eq_true (by omega)
   have hm1 : 0 < j + 1 := by omega
   have hj0 : (0 : Int) ≤ (j : Int) := by omega
   have hj1 : (j : Int) < ((j + 1 : Nat) : Int) := by omega
   have hj2 : ((j : Int)).toNat = j := by omega
   have hj3 : (j : Int) < (j : Int) + 1 := by omega
   have HW2 := qH (show IntKind.i64.wrap (j : Int) = (j : Int) from IntWalk.i64_in _ (by omega))
   have HW1 := qH (show IntKind.i64.wrap (((j + 1 : Nat) : Int) - 1) = (j : Int) from IntWalk.i64_in _ (by omega) |>.trans (by omega))
   clear hm0 hy
   by_cases hyd : x.day < y.day
   · have hdd : decide (x.day < y.day) = true := decide_eq_true hyd
     have HS := qH (stepL_not (es := es) (st := st) HLIN2.out (fun h => by have := h.1; rw [HLD.out] at this; omega))
     have hw1 := HW1.out
     have hw2 := HW2.out
     refine wp_region_held_drew (S := fun w' => Blk w' gO 146 #[.slice (some ad) (j + 1) c, .int .i64 st, .int .i64 n] ∧ Blk w' gX 141 #[Value.int .i64 x.day, Value.string x.what, Value.int .i64 x.value] ∧ w'.cell? (ad.add (j * 3)) = some (.int .i64 y.day)) (by kernel_rfl) ?_ (fun hHeld => ?_)
     · exact ⟨hO, hX, hY⟩
     refine zU 0 33 rfl (by assumption) ?_
     try simp only [Act.put, zA, zB, zC]
     refine zU 1 34 rfl (by assumption) ?_
     try simp only [Act.put, zA, zB, zC]
     refine zU 2 35 rfl (by assumption) ?_
     try simp only [Act.put, zA, zB, zC]
     refine zU 3 36 rfl (by assumption) ?_
     try simp only [Act.put, zA, zB, zC]
     refine zU 4 37 rfl (by assumption) ?_
     try simp only [Act.put, zA, zB, zC]
     refine zU 5 38 rfl (by assumption) ?_
     try simp only [Act.put, zA, zB, zC]
     refine zU 6 39 rfl (by assumption) ?_
     try simp only [Act.put, zA, zB, zC]
     refine zT 7 40 ?_ rfl ?_ (by assumption) ?_
     rotate_left
     · intro w hSw
       try dsimp only at hSw
       have k0 : w.cell? ⟨gO, 0, none⟩ = some (.slice (some ad) (j + 1) c) := hSw.1.cell 0
       have k1 : w.cell? ⟨gO, 1, none⟩ = some (.int .i64 st) := hSw.1.cell 1
       have x0 : w.cell? ⟨gX, 0, none⟩ = some (.int .i64 x.day) := hSw.2.1.cell 0
       have x1 : w.cell? ⟨gX, 1, none⟩ = some (.string x.what) := hSw.2.1.cell 1
       have x2 : w.cell? ⟨gX, 2, none⟩ = some (.int .i64 x.value) := hSw.2.1.cell 2
       have y0 := hSw.2.2
       go_simp
       try with_reducible rfl
     try simp only [Act.put, zA, zB, zC]
     refine zU 8 41 rfl (by assumption) ?_
     try simp only [Act.put, zA, zB, zC]
     refine zU 9 42 rfl (by assumption) ?_
     try simp only [Act.put, zA, zB, zC]
     refine zU 10 43 rfl (by assumption) ?_
     try simp only [Act.put, zA, zB, zC]
     refine zU 11 44 rfl (by assumption) ?_
     try simp only [Act.put, zA, zB, zC]
     refine zT 12 45 ?_ rfl ?_ (by assumption) ?_
     rotate_left
     · intro w hSw
       try dsimp only at hSw
       have k0 : w.cell? ⟨gO, 0, none⟩ = some (.slice (some ad) (j + 1) c) := hSw.1.cell 0
       have k1 : w.cell? ⟨gO, 1, none⟩ = some (.int .i64 st) := hSw.1.cell 1
       have x0 : w.cell? ⟨gX, 0, none⟩ = some (.int .i64 x.day) := hSw.2.1.cell 0
       have x1 : w.cell? ⟨gX, 1, none⟩ = some (.string x.what) := hSw.2.1.cell 1
       have x2 : w.cell? ⟨gX, 2, none⟩ = some (.int .i64 x.value) := hSw.2.1.cell 2
       have y0 := hSw.2.2
       go_simp
       try with_reducible rfl
     try simp only [Act.put, zA, zB, zC]
     refine zU 13 46 rfl (by assumption) ?_
     try simp only [Act.put, zA, zB, zC]
     refine zT 14 47 ?_ rfl ?_ (by assumption) ?_
     rotate_left
     · intro w hSw
       try dsimp only at hSw
       have k0 : w.cell? ⟨gO, 0, none⟩ = some (.slice (some ad) (j + 1) c) := hSw.1.cell 0
       have k1 : w.cell? ⟨gO, 1, none⟩ = some (.int .i64 st) := hSw.1.cell 1
       have x0 : w.cell? ⟨gX, 0, none⟩ = some (.int .i64 x.day) := hSw.2.1.cell 0
       have x1 : w.cell? ⟨gX, 1, none⟩ = some (.string x.what) := hSw.2.1.cell 1
       have x2 : w.cell? ⟨gX, 2, none⟩ = some (.int .i64 x.value) := hSw.2.1.cell 2
       have y0 := hSw.2.2
       go_simp
       try with_reducible rfl
     try simp only [Act.put, zA, zB, zC]
     refine zU 15 48 rfl (by assumption) ?_
     try simp only [Act.put, zA, zB, zC]
     refine zU 16 49 rfl (by assumption) ?_
     try simp only [Act.put, zA, zB, zC]
     refine zU 17 50 rfl (by assumption) ?_
     try simp only [Act.put, zA, zB, zC]
     refine zU 18 51 rfl (by assumption) ?_
     try simp only [Act.put, zA, zB, zC]
     refine zS 19 52 rfl (by assumption) ?_
     try simp only [Act.put, zA, zB, zC]
     refine zS 20 53 rfl (by assumption) ?_
     try simp only [Act.put, zA, zB, zC]
     refine zS 21 54 rfl (by assumption) ?_
     try simp only [Act.put, zA, zB, zC]
     refine zS 22 55 rfl (by assumption) ?_
     try simp only [Act.put, zA, zB, zC]
     refine zS 23 56 rfl (by assumption) ?_
     try simp only [Act.put, zA, zB, zC]
     refine zS 24 57 rfl (by assumption) ?_
     try simp only [Act.put, zA, zB, zC]
     refine zU 25 58 rfl (by assumption) ?_
     try simp only [Act.put, zA, zB, zC]
     refine wpAnyH_done (by kernel_rfl) ?_ _
     clear hw1 hw2
     have k0 : W4.cell? ⟨gO, 0, none⟩ = some (.slice (some ad) (j + 1) c) := hO.cell 0
     have k1 : W4.cell? ⟨gO, 1, none⟩ = some (.int .i64 st) := hO.cell 1
     have k2 : W4.cell? ⟨gO, 2, none⟩ = some (.int .i64 n) := hO.cell 2
     have r0 : W4.cell? ⟨gR, 0, none⟩ = some (.slice none 0 0) := hR.cell 0
     have r1 : W4.cell? ⟨gR, 1, none⟩ = some (.int .i64 0) := hR.cell 1
     have r2 : W4.cell? ⟨gR, 2, none⟩ = some (.int .i64 0) := hR.cell 2
     have f0 : W4.frozen? ⟨gR, 0, none⟩ = false := hR.frozen 0
     have f1 : W4.frozen? ⟨gR, 1, none⟩ = false := hR.frozen 1
     have f2 : W4.frozen? ⟨gR, 2, none⟩ = false := hR.frozen 2
     go_wp2_with fail
     refine bodyPost_ret (results_cell_row (P := Tryz.prog) rfl _ _ gR 146 #[(.slice (some ad) (j + 1) c), .int .i64 st, .int .i64 n] (0, 0) _ rfl ?_ Tryz.underlying146 rfl (by kernel_rfl)) rfl ?_
     · exact ((hR.set_ 0 _).set_ 1 _).set_ 2 _
     · have hbs := bl_set (bl_set (bl_set hv (p := ⟨gR, 0, none⟩) hg1 (.slice (some ad) (j + 1) c)) (p := ⟨gR, 1, none⟩) hg1 (.int .i64 st)) (p := ⟨gR, 2, none⟩) hg1 (.int .i64 n)
       have hok := own_base (own_row_far (own_row_far (own_row_far hown (p := ⟨gR, 0, none⟩) hRlo (.slice (some ad) (j + 1) c)) (p := ⟨gR, 1, none⟩) hRlo (.int .i64 st)) (p := ⟨gR, 2, none⟩) hRlo (.int .i64 n)) (base' := w.heap.size) (by omega)
       exact OutRd.mk (hRd.out.trans (rdF_stop (HS.out))) hm.out hok hbs
   have hdd : decide (x.day < y.day) = false := decide_eq_false hyd
   have HLA := qH (show lastD es ≤ x.day by rw [HLD.out]; omega)
   have hw1 := HW1.out
   have hw2 := HW2.out
   refine wp_region_held_drew (S := fun w' => Blk w' gO 146 #[.slice (some ad) (j + 1) c, .int .i64 st, .int .i64 n] ∧ Blk w' gX 141 #[Value.int .i64 x.day, Value.string x.what, Value.int .i64 x.value] ∧ w'.cell? (ad.add (j * 3)) = some (.int .i64 y.day)) (by kernel_rfl) ?_ (fun hHeld => ?_)
   · exact ⟨hO, hX, hY⟩
   refine zU 0 33 rfl (by assumption) ?_
   try simp only [Act.put, zA, zB, zC]
   refine zU 1 34 rfl (by assumption) ?_
   try simp only [Act.put, zA, zB, zC]
   refine zU 2 35 rfl (by assumption) ?_
   try simp only [Act.put, zA, zB, zC]
   refine zU 3 36 rfl (by assumption) ?_
   try simp only [Act.put, zA, zB, zC]
   refine zU 4 37 rfl (by assumption) ?_
   try simp only [Act.put, zA, zB, zC]
   refine zU 5 38 rfl (by assumption) ?_
   try simp only [Act.put, zA, zB, zC]
   refine zU 6 39 rfl (by assumption) ?_
   try simp only [Act.put, zA, zB, zC]
   refine zT 7 40 ?_ rfl ?_ (by assumption) ?_
   rotate_left
   · intro w hSw
     try dsimp only at hSw
     have k0 : w.cell? ⟨gO, 0, none⟩ = some (.slice (some ad) (j + 1) c) := hSw.1.cell 0
     have k1 : w.cell? ⟨gO, 1, none⟩ = some (.int .i64 st) := hSw.1.cell 1
     have x0 : w.cell? ⟨gX, 0, none⟩ = some (.int .i64 x.day) := hSw.2.1.cell 0
     have x1 : w.cell? ⟨gX, 1, none⟩ = some (.string x.what) := hSw.2.1.cell 1
     have x2 : w.cell? ⟨gX, 2, none⟩ = some (.int .i64 x.value) := hSw.2.1.cell 2
     have y0 := hSw.2.2
     go_simp
     try with_reducible rfl
   try simp only [Act.put, zA, zB, zC]
   refine zU 8 41 rfl (by assumption) ?_
   try simp only [Act.put, zA, zB, zC]
   refine zU 9 42 rfl (by assumption) ?_
   try simp only [Act.put, zA, zB, zC]
   refine zU 10 43 rfl (by assumption) ?_
   try simp only [Act.put, zA, zB, zC]
   refine zU 11 44 rfl (by assumption) ?_
   try simp only [Act.put, zA, zB, zC]
   refine zT 12 45 ?_ rfl ?_ (by assumption) ?_
   rotate_left
   · intro w hSw
     try dsimp only at hSw
     have k0 : w.cell? ⟨gO, 0, none⟩ = some (.slice (some ad) (j + 1) c) := hSw.1.cell 0
     have k1 : w.cell? ⟨gO, 1, none⟩ = some (.int .i64 st) := hSw.1.cell 1
     have x0 : w.cell? ⟨gX, 0, none⟩ = some (.int .i64 x.day) := hSw.2.1.cell 0
     have x1 : w.cell? ⟨gX, 1, none⟩ = some (.string x.what) := hSw.2.1.cell 1
     have x2 : w.cell? ⟨gX, 2, none⟩ = some (.int .i64 x.value) := hSw.2.1.cell 2
     have y0 := hSw.2.2
     go_simp
     try with_reducible rfl
   try simp only [Act.put, zA, zB, zC]
   refine zU 13 46 rfl (by assumption) ?_
   try simp only [Act.put, zA, zB, zC]
   refine zT 14 47 ?_ rfl ?_ (by assumption) ?_
   rotate_left
   · intro w hSw
     try dsimp only at hSw
     have k0 : w.cell? ⟨gO, 0, none⟩ = some (.slice (some ad) (j + 1) c) := hSw.1.cell 0
     have k1 : w.cell? ⟨gO, 1, none⟩ = some (.int .i64 st) := hSw.1.cell 1
     have x0 : w.cell? ⟨gX, 0, none⟩ = some (.int .i64 x.day) := hSw.2.1.cell 0
     have x1 : w.cell? ⟨gX, 1, none⟩ = some (.string x.what) := hSw.2.1.cell 1
     have x2 : w.cell? ⟨gX, 2, none⟩ = some (.int .i64 x.value) := hSw.2.1.cell 2
     have y0 := hSw.2.2
     go_simp
     try with_reducible rfl
   try simp only [Act.put, zA, zB, zC]
   refine zU 15 48 rfl (by assumption) ?_
   try simp only [Act.put, zA, zB, zC]
   refine zU 16 49 rfl (by assumption) ?_
   try simp only [Act.put, zA, zB, zC]
   refine zU 17 50 rfl (by assumption) ?_
   try simp only [Act.put, zA, zB, zC]
   refine zU 18 51 rfl (by assumption) ?_
   try simp only [Act.put, zA, zB, zC]
   refine zU 19 52 rfl (by assumption) ?_
   try simp only [Act.put, zA, zB, zC]
   refine zT 20 53 ?_ rfl ?_ (by assumption) ?_
   rotate_left
   · intro w hSw
     try dsimp only at hSw
     have k0 : w.cell? ⟨gO, 0, none⟩ = some (.slice (some ad) (j + 1) c) := hSw.1.cell 0
     have k1 : w.cell? ⟨gO, 1, none⟩ = some (.int .i64 st) := hSw.1.cell 1
     have x0 : w.cell? ⟨gX, 0, none⟩ = some (.int .i64 x.day) := hSw.2.1.cell 0
     have x1 : w.cell? ⟨gX, 1, none⟩ = some (.string x.what) := hSw.2.1.cell 1
     have x2 : w.cell? ⟨gX, 2, none⟩ = some (.int .i64 x.value) := hSw.2.1.cell 2
     have y0 := hSw.2.2
     go_simp
     try with_reducible rfl
   try simp only [Act.put, zA, zB, zC]
   refine zT 21 54 ?_ rfl ?_ (by assumption) ?_
   rotate_left
   · intro w hSw
     try dsimp only at hSw
     have k0 : w.cell? ⟨gO, 0, none⟩ = some (.slice (some ad) (j + 1) c) := hSw.1.cell 0
     have k1 : w.cell? ⟨gO, 1, none⟩ = some (.int .i64 st) := hSw.1.cell 1
     have x0 : w.cell? ⟨gX, 0, none⟩ = some (.int .i64 x.day) := hSw.2.1.cell 0
     have x1 : w.cell? ⟨gX, 1, none⟩ = some (.string x.what) := hSw.2.1.cell 1
     have x2 : w.cell? ⟨gX, 2, none⟩ = some (.int .i64 x.value) := hSw.2.1.cell 2
     have y0 := hSw.2.2
     go_simp
     try with_reducible rfl
   try simp only [Act.put, zA, zB, zC]
   refine zU 23 56 rfl (by assumption) ?_
   try simp only [Act.put, zA, zB, zC]
   refine zR 22 (some 55) rfl (fun K hK => ?_)
   go_simp
   (try dsimp only at hHeld); go_split_ands
   refine (stampOf_c st x s0 s1 hex _ (HT.out.below hv).pow).mono ?_
   rintro e W5 ⟨rfl, hb⟩
   replace hv := bl_trans hv hb
   replace hR := hR.below hb
   replace hO := hO.below hb
   replace hX := hX.below hb
   replace hown := own_below hown hb
   replace hY := bl_cell hb hY
   clear hb
   go_wp2_with fail
   refine hK.out _ _ ?_ (fun hHeld => ?_)
   · (try dsimp only); go_split_ands; exact ⟨hO, hX, hY⟩
   clear hK K
   try simp only [Act.put, zA, zB, zC]
   refine zU 24 57 rfl (by assumption) ?_
   try simp only [Act.put, zA, zB, zC]
   refine zU 25 58 rfl (by assumption) ?_
   try simp only [Act.put, zA, zB, zC]
   refine wpAnyH_done (by kernel_rfl) ?_ _
   clear hw1 hw2
   by_cases hst : stp st x = st'
   case neg =>
     have HS := qH (stepL_not (es := es) HLIN2.out (fun h => hst h.2))
     have hq : (stampV st (wordsB x) != st') = true := by rw [bne_iff_ne]; exact hst
     clear hst
     have k0 : W5.cell? ⟨gO, 0, none⟩ = some (.slice (some ad) (j + 1) c) := hO.cell 0
     have k1 : W5.cell? ⟨gO, 1, none⟩ = some (.int .i64 st) := hO.cell 1
     have k2 : W5.cell? ⟨gO, 2, none⟩ = some (.int .i64 n) := hO.cell 2
     have r0 : W5.cell? ⟨gR, 0, none⟩ = some (.slice none 0 0) := hR.cell 0
     have r1 : W5.cell? ⟨gR, 1, none⟩ = some (.int .i64 0) := hR.cell 1
     have r2 : W5.cell? ⟨gR, 2, none⟩ = some (.int .i64 0) := hR.cell 2
     have f0 : W5.frozen? ⟨gR, 0, none⟩ = false := hR.frozen 0
     have f1 : W5.frozen? ⟨gR, 1, none⟩ = false := hR.frozen 1
     have f2 : W5.frozen? ⟨gR, 2, none⟩ = false := hR.frozen 2
     go_wp2_with fail
     refine bodyPost_ret (results_cell_row (P := Tryz.prog) rfl _ _ gR 146 #[(.slice (some ad) (j + 1) c), .int .i64 st, .int .i64 n] (0, 0) _ rfl ?_ Tryz.underlying146 rfl (by kernel_rfl)) rfl ?_
     · exact ((hR.set_ 0 _).set_ 1 _).set_ 2 _
     · have hbs := bl_set (bl_set (bl_set hv (p := ⟨gR, 0, none⟩) hg1 (.slice (some ad) (j + 1) c)) (p := ⟨gR, 1, none⟩) hg1 (.int .i64 st)) (p := ⟨gR, 2, none⟩) hg1 (.int .i64 n)
       have hok := own_base (own_row_far (own_row_far (own_row_far hown (p := ⟨gR, 0, none⟩) hRlo (.slice (some ad) (j + 1) c)) (p := ⟨gR, 1, none⟩) hRlo (.int .i64 st)) (p := ⟨gR, 2, none⟩) hRlo (.int .i64 n)) (base' := w.heap.size) (by omega)
       exact OutRd.mk (hRd.out.trans (rdF_stop (HS.out))) hm.out hok hbs
   have HS := qH (stepL_yes (es := es) (st := st) (by rw [hdl.out]; exact HK.out) HLIN2.out ⟨HLA.out, hst⟩)
   have hq : (stampV st (wordsB x) != st') = false := by rw [bne_eq_false_iff_eq]; exact hst
   have HG := stepL_some hG HS.out
   have HST := qH hst
   obtain ⟨f', rfl⟩ : ∃ f', f = f' + 1 := ⟨f - 1, by omega⟩
   have hR2 := qH (hRd.out.trans (rdF_step HS.out))
   have HLZ := qH hlz
   clear hst hlz hRd
   have hmf : (j + 1) ≤ 1048576 := by have := hG.few; have := hm.out; omega
   have k0 : W5.cell? ⟨gO, 0, none⟩ = some (.slice (some ad) (j + 1) c) := hO.cell 0
   have x0 : W5.cell? ⟨gX, 0, none⟩ = some (.int .i64 x.day) := hX.cell 0
   have x1 : W5.cell? ⟨gX, 1, none⟩ = some (.string x.what) := hX.cell 1
   have x2 : W5.cell? ⟨gX, 2, none⟩ = some (.int .i64 x.value) := hX.cell 2
   have hbase : gO + 1 ≤ W5.heap.size := hO.lt
   go_wp2_with (at_builtin; refine app_ownX W5 #[Value.int .i64 x.day, Value.string x.what, Value.int .i64 x.value] rfl _ _ 144 141 rfl i0 _ 3 32 Tryz.underlying144 hi0 hz0 hz1 hz2 rfl (by omega) (gO + 1) (.slice (some ad) (j + 1) c) (j + 1) (flat Entry.cells es) rfl _ rfl rfl hown rfl (by simp [Value.oneCell']) (by unfold maxLen; omega) (by omega) hbase ?_; intro A2 c2 w2 hown2 hg2; have hO2 := Blk.grown hO hg2 (fun e => by have h1 := own_at hown gO e.symm; omega); have k0' : w2.cell? ⟨gO, 0, none⟩ = some (.slice (some ad) (j + 1) c) := hO2.cell 0; have k1' : w2.cell? ⟨gO, 1, none⟩ = some (.int .i64 st) := hO2.cell 1; have k2' : w2.cell? ⟨gO, 2, none⟩ = some (.int .i64 n) := hO2.cell 2; have f0' := hO2.frozen 0; have f1' := hO2.frozen 1; have f2' := hO2.frozen 2)
   have hnn : n + (ln.size + 1) = n + (nl10 (s.data.toList.drop n) + 1) := by rw [HLZ.out, HKK.out]
   have hfl : flat Entry.cells es ++ #[Value.int .i64 x.day, Value.string x.what, Value.int .i64 x.value].toList = flat Entry.cells (es ++ [x]) := by rw [flat_append, flat_one]; rfl
   have hcast : ((n + (ln.size + 1) : Nat) : Int) = (n : Int) + ((ln.size : Int) + 1) := by omega
   have hOlo : gO < gO + 1 := by omega
   have hRg := Blk.grown hR hg2 (fun e => by have h1 := own_at hown gR e.symm; omega)
   have hvg := bl_grown hv hg2 (fun k e => by have h1 := own_at hown k e; omega)
   have hO3 := ((hO2.set_ 0 (.slice A2 ((j + 1) + 1) c2)).set_ 1 (.int .i64 st')).set_ 2 (.int .i64 ((n : Int) + ((ln.size : Int) + 1)))
   have hR3 := ((hRg.far (p := ⟨gO, 0, none⟩) hne (.slice A2 ((j + 1) + 1) c2)).far (p := ⟨gO, 1, none⟩) hne (.int .i64 st')).far (p := ⟨gO, 2, none⟩) hne (.int .i64 ((n : Int) + ((ln.size : Int) + 1)))
   have hv3 := bl_set (bl_set (bl_set hvg (p := ⟨gO, 0, none⟩) hgO2 (.slice A2 ((j + 1) + 1) c2)) (p := ⟨gO, 1, none⟩) hgO2 (.int .i64 st')) (p := ⟨gO, 2, none⟩) hgO2 (.int .i64 ((n : Int) + ((ln.size : Int) + 1)))
   have ho3 := own_row_far (own_row_far (own_row_far hown2 (p := ⟨gO, 0, none⟩) hOlo (.slice A2 ((j + 1) + 1) c2)) (p := ⟨gO, 1, none⟩) hOlo (.int .i64 st')) (p := ⟨gO, 2, none⟩) hOlo (.int .i64 ((n : Int) + ((ln.size : Int) + 1)))
   have hm3 := cellN_of (w := (((w2.setCell ⟨gO, 0, none⟩ (.slice A2 ((j + 1) + 1) c2)).setCell ⟨gO, 1, none⟩ (.int .i64 st')).setCell ⟨gO, 2, none⟩ (.int .i64 ((n : Int) + ((ln.size : Int) + 1))))) (p := ⟨gO, 2, none⟩) (n := n + (ln.size + 1)) (by rw [hcast]; exact hO3.cell 2)
   refine ⟨⟨es ++ [x], st', n + (ln.size + 1), f', (j + 1) + 1, A2, c2, ?_, by omega, qH (by rw [List.length_append, hm.out]; rfl), qH (by rw [hR2.out, hnn, HST.out]), hR3, by rw [hcast]; exact hO3, by rw [← hfl]; exact ho3, hv3⟩, ?_⟩
   · rw [hnn, ← HST.out]; exact HG.1
   · have h2 := hmeas.out
     rw [hm3, h2]
     have := HK.out
     omega
end Go.Proofs.YtpiehlfffjhoaaaGreatDoor
