/- Lemmas for the law on the console: the parts CnA, CnH, CnB. -/
import Derived.Test.YtpiehlfffjhoaaaGreatDoorQ0
import Derived.Test.YtpiehlfffjhoaaaGreatDoorQ18
import Derived.Test.YtpiehlfffjhoaaaGreatDoorQ13
import Derived.Test.YtpiehlfffjhoaaaGreatDoorQ6
import Derived.Test.YtpiehlfffjhoaaaGreatDoorQ3
import Derived.Laws.Rows
import Derived.Laws.Tables
import Derived.BigRegion
import Derived.Deep.CutBlock
import Derived.Test.YtpiehlfffjhoaaaGreatDoorQ19
namespace Go.Proofs.YtpiehlfffjhoaaaGreatDoor
open Go.RowKit
theorem split_sat (sep : ByteArray) (h1 : 1 ≤ sep.size) (sv : Nat) : ∀ (k : Nat) (s : ByteArray), Lib.countB s sep ≤ k → Lib.splitB sep sv k s = Lib.splitB sep sv (Lib.countB s sep) s
 | 0, s, h => by rw [Nat.le_zero.1 h]
 | k + 1, s, h => by
   rcases Lib.indexB_cases s sep with hix | ⟨i, hix, _⟩
   · rw [Lib.splitB_miss _ _ _ _ hix, Lib.splitB_miss _ _ _ _ hix]
   · have hc := Lib.countB_hit s sep i h1 hix
     obtain ⟨m, hm⟩ : ∃ m, Lib.countB s sep = m + 1 := ⟨Lib.countB s sep - 1, by omega⟩
     rw [hm, Lib.splitB_hit _ _ _ _ i hix, Lib.splitB_hit _ _ _ _ i hix, split_sat sep h1 sv k _ (by omega)]
     rw [show Lib.countB (s.extract (i + sep.size) s.size) sep = m by omega]
theorem split_more (sep : ByteArray) (h1 : 1 ≤ sep.size) (sv : Nat) : ∀ (k : Nat) (s : ByteArray), k ≤ Lib.countB s sep → (Lib.splitB sep sv k s).length = k + 1
 | 0, _, _ => rfl
 | k + 1, s, h => by
   rcases Lib.indexB_cases s sep with hix | ⟨i, hix, _⟩
   · rw [Lib.countB_miss s sep hix] at h; omega
   · have hc := Lib.countB_hit s sep i h1 hix
     rw [Lib.splitB_hit _ _ _ _ i hix, List.length_cons, split_more sep h1 sv k _ (by omega)]
def par5 (s : ByteArray) : List ByteArray := Lib.splitB ⟨#[47]⟩ 0 (min 5 (s.size + 1) - 1) s
theorem par5_four (s : ByteArray) : ((par5 s).length = 4 ↔ (splC 47 s).length = 4) ∧ ((splC 47 s).length = 4 → par5 s = splC 47 s) ∧ (par5 s).length ≤ 5 := by
 have hl := splC_len 47 s
 have hle := Lib.countB_le (⟨#[47]⟩ : ByteArray) (Nat.le_refl 1) s.size s (Nat.le_refl _)
 have key : Lib.countB s ⟨#[47]⟩ ≤ min 5 (s.size + 1) - 1 → par5 s = splC 47 s := fun h => by
   unfold par5
   rw [split_sat (⟨#[47]⟩ : ByteArray) (Nat.le_refl 1) 0 _ s h, splitC_of]
 by_cases h : Lib.countB s ⟨#[47]⟩ ≤ min 5 (s.size + 1) - 1
 · rw [key h]
   exact ⟨Iff.rfl, fun _ => rfl, by rw [hl]; omega⟩
 · have h2 : (par5 s).length = min 5 (s.size + 1) - 1 + 1 := split_more (⟨#[47]⟩ : ByteArray) (Nat.le_refl 1) 0 _ s (by omega)
   rw [h2, hl]
   exact ⟨by omega, by omega, by omega⟩
theorem SplitN5_c (s : ByteArray) (hs : s.size ≤ 4000000000) (w : World) (hT : Tabs w) : Calls Tryz.prog 193 #[.string s, .string ⟨#[47]⟩, .int .i64 5] w fun e w' => ∃ c : Nat, e = .returned (.slice (some ⟨w.heap.size, 0, none⟩) (par5 s).length c) ∧ Below w.heap.size w w' ∧ ((par5 s).length = 4 → Arr w' (some ⟨w.heap.size, 0, none⟩) ((par5 s).map Value.string)) := by
 obtain ⟨m, hm⟩ := hT.len
 have h := Tryz.strings_SplitN s ⟨#[47]⟩ 5 m w (by omega) hm (Nat.le_refl 1) (by omega) (by omega)
 refine h.mono ?_
 rintro e w' ⟨rfl, rfl⟩
 refine ⟨_, rfl, bl_alloc (Below.refl _ _) _, fun _ => ?_⟩
 intro _
 refine ⟨_, rfl, by simp, fun j u hu => ?_⟩
 have hadd : (⟨w.heap.size, 0, none⟩ : Addr).add j = ⟨w.heap.size, j, none⟩ := by unfold Addr.add; split <;> simp_all
 rw [hadd, (Blk.new w 9 _).cell j]
 change (List.map Value.string (par5 s) ++ List.replicate _ (Value.string ByteArray.empty)).toArray[j]? = some u
 have h2 := (List.getElem?_eq_some_iff.1 hu).1
 have h3 : (List.map Value.string (par5 s) ++ List.replicate (min 5 (s.size + 1) - (Lib.splitB ⟨#[47]⟩ 0 (min 5 (s.size + 1) - 1) s).length) (Value.string ByteArray.empty))[j]? = some u := by rw [List.getElem?_append_left h2]; exact hu
 simpa using h3
def numsB (L : List ByteArray) : List Int := L.map numV
def allB (L : List ByteArray) : Bool := L.all okB
def OutRn (s : ByteArray) (w : World) (e : Ending) (w' : World) : Prop := ∃ (A : Option Addr) (m c : Nat) (ok : Bool), e = .returned (.tuple #[.slice A m c, .bool ok]) ∧ ok = (decide ((splC 47 s).length = 4) && allB (splC 47 s)) ∧ (ok = true → m = 4 ∧ Arr w' A (flat icell (numsB (splC 47 s)))) ∧ Below w.heap.size w w'
theorem infoI64N : (Tryz.prog.info? 2).map (fun i => (i.zero, i.size, i.bytes)) = some (some (.int .i64 0), 1, 8) := by kernel_rfl
theorem allB_at {L : List ByteArray} {j : Nat} {y : ByteArray} (h : L[j]? = some y) (hn : okB y = false) : allB L = false := by
 unfold allB
 rw [List.all_eq_false]
 exact ⟨y, List.mem_of_getElem? h, by simp [hn]⟩
theorem allB_take {L : List ByteArray} {j : Nat} {y : ByteArray} (h : L[j]? = some y) (ht : allB (L.take j) = true) (hy : okB y = true) : allB (L.take (j + 1)) = true := by
 unfold allB at *
 rw [take_at h, List.all_append, ht]
 simp [hy]
theorem numsB_take {L : List ByteArray} {j : Nat} {y : ByteArray} (h : L[j]? = some y) : flat icell (numsB (L.take (j + 1))) = flat icell (numsB (L.take j)) ++ #[Value.int .i64 (numV y)].toList := by
 unfold numsB
 rw [take_at h]
 simp [flat, icell]
set_option maxRecDepth 100000 in
set_option maxHeartbeats 2000000 in
theorem readNumbers_c (s : ByteArray) (hs : s.size ≤ 4194304) (w : World) (hT : Tabs w) : Calls Tryz.prog 126 #[.string s, .string ⟨#[47]⟩, .int .i64 4] w (OutRn s w) := by
 obtain ⟨i0, hi0, hz0, hz1, hz2⟩ := info_parts (P := Tryz.prog) (e := 2) (z := .int .i64 0) (size := 1) (bytes := 8) infoI64N
 have HT := qH hT
 have hp := par5_four s
 have HSP := qH (SplitN5_c s (by omega) w hT)
 clear hT
 have hyz : Hid (∀ y ∈ splC 47 s, y.size ≤ s.size) := qH (fun y hy => splC_part (c := 47) hy)
 obtain ⟨P5, hP5⟩ : ∃ z, z = par5 s := ⟨_, rfl⟩
 obtain ⟨L, hL⟩ : ∃ z, z = splC 47 s := ⟨_, rfl⟩
 unfold OutRn
 rw [← hP5, ← hL] at hp
 rw [← hP5] at HSP
 rw [← hL] at hyz ⊢
 clear hP5 hL
 obtain ⟨h4, h5, h6⟩ := hp
 have H4 := qH h4
 have H5 := qH h5
 clear h4 h5
 obtain ⟨m, hm⟩ : ∃ z, z = P5.length := ⟨_, rfl⟩
 rw [← hm] at H4 HSP h6
 clear hm
 go_enter Tryz.func126, Tryz.ntmps126
 go_wp2_with fail
 refine HSP.out.mono ?_
 rintro e W1 ⟨c, rfl, hv, hA⟩
 have HA := qH hA
 obtain ⟨g, hg⟩ : ∃ z, z = w.heap.size := ⟨_, rfl⟩
 rw [← hg] at HA ⊢
 clear hA hg
 by_cases hm4 : m = 4
 case neg =>
   have hne : ((m : Int) != 4) = true := by rw [bne_iff_ne]; omega
   have hf := qH (show (decide (L.length = 4) && allB L) = false by rw [decide_eq_false (fun h => hm4 (H4.out.2 h))]; rfl)
   go_wp2_with fail
   go_returns
   exact ⟨_, _, _, false, rfl, hf.out.symm, (fun h => Bool.noConfusion h), hv⟩
 subst hm4
 have hL4 := H4.out.1 rfl
 have HL4 := qH hL4
 have HAL : Hid (Arr W1 (some ⟨g, 0, none⟩) (flat scell L)) := qH (by
   have h := HA.out rfl
   rw [H5.out hL4] at h
   rw [flat_str]; exact h)
 clear HA H5 H4 hL4
 have hO0 := own_empty W1 W1.heap.size 2 1 (Nat.le_refl _)
 go_wp2_with fail
 have hv1 := bl_alloc (Below.refl W1.heap.size W1) (.cells #[] 2)
 go_loopw [9, 26] (fun v i wr => ∃ (j : Nat) (A' : Option Addr) (c' : Nat), i = .int .i64 j ∧ v = .slice A' j c' ∧ j ≤ 4 ∧ Hid (allB (L.take j) = true) ∧ Hid (wr.ownsRow W1.heap.size 2 1 (.slice A' j c') j (flat icell (numsB (L.take j)))) ∧ Below W1.heap.size W1 wr) (fun _ i _ => 4 - (intOf i).toNat)
 case atStart => exact ⟨0, _, _, rfl, rfl, by omega, qH rfl, qH hO0, hv1⟩
 case round =>
   clear hO0 hv1
   obtain ⟨j, A', c', rfl, rfl, hj, HB, HO, hb⟩ := hrel
   have hi0' : (0 : Int) ≤ (j : Int) := by omega
   by_cases hlt : j < 4
   · have hi1 : (j : Int) < 4 := by omega
     obtain ⟨y, hy⟩ := get_of_lt (xs := L) (k := j) (by rw [HL4.out]; exact hlt)
     obtain ⟨bd, hbd, hbb, d0⟩ := scell_at (HAL.out.below hb) hy
     injection hbd with hbd
     subst hbd
     rw [Addr.add_lit, Nat.zero_add] at d0
     have hys := hyz.out y (List.mem_of_getElem? hy)
     have HY := qH hy
     have HRD := fun w h => ReadDecimal_c y (by omega) w h
     change ∀ w, Tabs w → Calls Tryz.prog 33 #[.string y] w (RetT #[.int .i64 (numV y), .bool (okB y)] w) at HRD
     obtain ⟨q, hq⟩ : ∃ z, z = numV y := ⟨_, rfl⟩
     rw [← hq] at HRD
     have HQ := qH hq
     have HZ := qH HRD
     clear hy hq HRD
     go_wp2_with fail
     refine (HZ.out _ (HT.out.below (bl_trans hv hb))).mono ?_
     rintro e W2 ⟨rfl, hb2⟩
     replace HO := qH (own_below HO.out hb2)
     replace hb := bl_trans hb hb2
     clear hb2 HZ d0
     cases ho : okB y
     case false =>
       have hf := qH (show (decide (L.length = 4) && allB L) = false by rw [allB_at HY.out ho, Bool.and_false])
       clear ho
       go_wp2_with fail
       go_returns
       exact ⟨_, _, _, false, rfl, hf.out.symm, (fun h => Bool.noConfusion h), bl_trans hv hb⟩
     have HB2 := qH (allB_take HY.out HB.out ho)
     clear ho
     go_wp2_with (at_builtin; refine app_own W2 #[.int .i64 q] rfl _ _ 58 2 rfl i0 _ 1 8 Tryz.underlying58 hi0 hz0 hz1 hz2 rfl (by omega) W1.heap.size (.slice A' j c') j _ rfl rfl HO.out rfl (by simp [Value.oneCell']) (by unfold maxLen; omega) (by omega) hb.size ?_; intro A2 c2 w2 hown2 hg3)
     have hr := own_at HO.out
     exact ⟨⟨j + 1, A2, c2, by go_num, rfl, by omega, HB2, qH (by rw [numsB_take HY.out, ← HQ.out]; exact hown2), bl_grown hb hg3 hr⟩, by simp [intOf]; omega⟩
   · obtain rfl : j = 4 := by omega
     have htk : L.take 4 = L := List.take_of_length_le (by rw [HL4.out]; exact Nat.le_refl _)
     rw [htk] at HB HO
     have hf := qH (show (decide (L.length = 4) && allB L) = true by rw [HL4.out, HB.out]; rfl)
     go_wp2_with fail
     go_returns
     exact ⟨_, _, _, true, rfl, hf.out.symm, fun _ => ⟨rfl, Arr.own HO.out⟩, bl_trans hv hb⟩
theorem cell_farR {w : World} {g : Nat} {cs : Array Value} {a : Addr} {v : Value} (h : w.cell? a = some v) (hne : a.block ≠ g) : (World.setRow w.drew g cs).cell? a = some v := by
 rw [cell_setRow_other _ _ _ _ hne]
 exact h
def zFo : Foot := ⟨0, 0, 0, 0⟩
def outFo (o : Option Foot) : Array Value := #[.agg #[.int .i64 (o.getD zFo).length, .int .i64 (o.getD zFo).ball, .int .i64 (o.getD zFo).instep, .int .i64 (o.getD zFo).heel], .bool o.isSome]
set_option maxRecDepth 100000 in
set_option maxHeartbeats 2000000 in
theorem footOf_c (A : Option Addr) (a b c d : Int) (k : Nat) (w : World) (hA : Arr w A (flat icell [a, b, c, d])) : Calls Tryz.prog 26 #[.slice A 4 k] w (Ret (.agg #[.int .i64 a, .int .i64 b, .int .i64 c, .int .i64 d]) w) := by
 obtain ⟨W, hW⟩ : ∃ z, z = w.alloc (Obj.cells #[.int .i64 0, .int .i64 0, .int .i64 0, .int .i64 0] 27) := ⟨_, rfl⟩
 obtain ⟨g, hg⟩ : ∃ z, z = w.heap.size := ⟨_, rfl⟩
 have hv : Below w.heap.size w W := by rw [hW]; exact bl_alloc (Below.refl _ _) _
 have HB : Hid (Blk W g 27 #[.int .i64 0, .int .i64 0, .int .i64 0, .int .i64 0]) := qH (by rw [hW, hg]; exact Blk.new _ _ _)
 have hgw : w.heap.size ≤ g := by omega
 have HW := qH hW
 have HG := qH hg
 have hA1 := hA.below hv
 obtain ⟨ad, rfl, hab, _⟩ := icell_at hA (k := 0) (x := a) rfl
 obtain ⟨_, e0, _, c0⟩ := icell_at hA1 (k := 0) (x := a) rfl
 obtain ⟨_, e1, _, c1⟩ := icell_at hA1 (k := 1) (x := b) rfl
 obtain ⟨_, e2, _, c2⟩ := icell_at hA1 (k := 2) (x := c) rfl
 obtain ⟨_, e3, _, c3⟩ := icell_at hA1 (k := 3) (x := d) rfl
 injection e0 with e0
 injection e1 with e1
 injection e2 with e2
 injection e3 with e3
 subst e0 e1 e2 e3
 replace c0 : W.cell? ad = some (.int .i64 a) := c0
 replace c1 : W.cell? ⟨ad.block, ad.off + 1, none⟩ = some (.int .i64 b) := c1
 replace c2 : W.cell? ⟨ad.block, ad.off + 2, none⟩ = some (.int .i64 c) := c2
 replace c3 : W.cell? ⟨ad.block, ad.off + 3, none⟩ = some (.int .i64 d) := c3
 have hne : ad.block ≠ g := by omega
 have HBD := qH (HB.out.below (Below.refl W.heap.size W).drew)
 clear hA hA1 hW hg hab
 go_enter Tryz.func26, Tryz.ntmps26
 go_upto_region 1 with fail
 rw [← HW.out, ← HG.out]
 clear HW HG
 refine wp_region_held_drew (S := fun w' => World.cell? w' ad = some (.int .i64 a) ∧ World.cell? w' ⟨ad.block, ad.off + 1, none⟩ = some (.int .i64 b) ∧ World.cell? w' ⟨ad.block, ad.off + 2, none⟩ = some (.int .i64 c) ∧ World.cell? w' ⟨ad.block, ad.off + 3, none⟩ = some (.int .i64 d)) (by as_aux_lemma => kernel_rfl) ?_ (fun hHeld => ?_)
 · exact ⟨c0, c1, c2, c3⟩
 refine zT 0 3 ?_ rfl ?_ (by assumption) ?_
 rotate_left
 · intro w hSw
   try dsimp only at hSw
   obtain ⟨x0, x1, x2, x3⟩ := hSw
   go_simp
   try with_reducible rfl
 try simp only [Act.put, zA, zB, zC]
 refine zT 1 4 ?_ rfl ?_ (by assumption) ?_
 rotate_left
 · intro w hSw
   try dsimp only at hSw
   obtain ⟨x0, x1, x2, x3⟩ := hSw
   go_simp
   try with_reducible rfl
 try simp only [Act.put, zA, zB, zC]
 refine zT 2 5 ?_ rfl ?_ (by assumption) ?_
 rotate_left
 · intro w hSw
   try dsimp only at hSw
   obtain ⟨x0, x1, x2, x3⟩ := hSw
   go_simp
   try with_reducible rfl
 try simp only [Act.put, zA, zB, zC]
 refine zT 3 6 ?_ rfl ?_ (by assumption) ?_
 rotate_left
 · intro w hSw
   try dsimp only at hSw
   obtain ⟨x0, x1, x2, x3⟩ := hSw
   go_simp
   try with_reducible rfl
 try simp only [Act.put, zA, zB, zC]
 refine zT 4 7 ?_ rfl ?_ (by assumption) ?_
 rotate_left
 · intro w hSw
   try dsimp only at hSw
   obtain ⟨x0, x1, x2, x3⟩ := hSw
   go_simp
   try with_reducible rfl
 try simp only [Act.put, zA, zB, zC]
 refine zT 5 8 ?_ rfl ?_ (by assumption) ?_
 rotate_left
 · intro w hSw
   try dsimp only at hSw
   obtain ⟨x0, x1, x2, x3⟩ := hSw
   go_simp
   try with_reducible rfl
 try simp only [Act.put, zA, zB, zC]
 refine zT 6 9 ?_ rfl ?_ (by assumption) ?_
 rotate_left
 · intro w hSw
   try dsimp only at hSw
   obtain ⟨x0, x1, x2, x3⟩ := hSw
   go_simp
   try with_reducible rfl
 try simp only [Act.put, zA, zB, zC]
 refine zT 7 10 ?_ rfl ?_ (by assumption) ?_
 rotate_left
 · intro w hSw
   try dsimp only at hSw
   obtain ⟨x0, x1, x2, x3⟩ := hSw
   go_simp
   try with_reducible rfl
 try simp only [Act.put, zA, zB, zC]
 refine zT 8 11 ?_ rfl ?_ (by assumption) ?_
 rotate_left
 · intro w hSw
   try dsimp only at hSw
   obtain ⟨x0, x1, x2, x3⟩ := hSw
   go_simp
   try with_reducible rfl
 try simp only [Act.put, zA, zB, zC]
 refine zT 9 12 ?_ rfl ?_ (by assumption) ?_
 rotate_left
 · intro w hSw
   try dsimp only at hSw
   obtain ⟨x0, x1, x2, x3⟩ := hSw
   go_simp
   try with_reducible rfl
 try simp only [Act.put, zA, zB, zC]
 refine zT 10 13 ?_ rfl ?_ (by assumption) ?_
 rotate_left
 · intro w hSw
   try dsimp only at hSw
   obtain ⟨x0, x1, x2, x3⟩ := hSw
   go_simp
   try with_reducible rfl
 try simp only [Act.put, zA, zB, zC]
 refine zT 11 14 ?_ rfl ?_ (by assumption) ?_
 rotate_left
 · intro w hSw
   try dsimp only at hSw
   obtain ⟨x0, x1, x2, x3⟩ := hSw
   go_simp
   try with_reducible rfl
 try simp only [Act.put, zA, zB, zC]
 refine zT 12 15 ?_ rfl ?_ (by assumption) ?_
 rotate_left
 · intro w hSw
   try dsimp only at hSw
   obtain ⟨x0, x1, x2, x3⟩ := hSw
   go_simp
   try with_reducible rfl
 try simp only [Act.put, zA, zB, zC]
 refine zR 13 none rfl (fun K hK => ?_)
 skip
 (try dsimp only at hHeld); go_split_ands
 refine wp_store_row 27 _ _ rfl g #[.int .i64 a, .int .i64 b, .int .i64 c, .int .i64 d] rfl rfl 27 #[Value.int .i64 0, Value.int .i64 0, Value.int .i64 0, Value.int .i64 0] HBD.out (by kernel_rfl) rfl (by simp [Value.oneCell']) ?_
 refine hK.out _ _ ?_ (fun hHeld => ?_)
 · (try dsimp only); go_split_ands; exact ⟨cell_farR c0 hne, cell_farR c1 hne, cell_farR c2 hne, cell_farR c3 hne⟩
 clear hK K
 try simp only [Act.put]
 refine wpAnyH_done (by as_aux_lemma => kernel_rfl) ?_ _
 clear hHeld
 go_wp2_with fail
 try simp only [Exit.inBlock, Exit.then]
 refine bodyPost_ret (results_cell_row (P := Tryz.prog) rfl _ _ g 27 #[Value.int .i64 a, Value.int .i64 b, Value.int .i64 c, Value.int .i64 d] (0, 0) _ rfl ?_ Tryz.underlying27 rfl (by kernel_rfl)) rfl ?_
 · exact setRow_heap _ _ _ _ _ _ HBD.out
 · exact Ret.mk rfl (below_rowL hv.drew hgw _)
theorem mostK_bd (k : Int) : 0 ≤ mostK k ∧ mostK k ≤ 300 := by
 unfold mostK
 repeat' split
 all_goals omega
theorem chgB_most (k a : Int) : chgB k a = (decide (0 < mostK k) && (decide (a ≠ 0) && inB a (-mostK k) (mostK k))) := rfl
set_option maxHeartbeats 1000000 in
theorem mostChange_c (k : Int) (w : World) : Calls Tryz.prog 258 #[.int .i64 k] w (RetQ (.int .i64 (mostK k)) w) := by
 by_cases h1 : k = 1
 · subst h1
   go_enter Tryz.func258, Tryz.ntmps258
   go_wp2_with fail
   go_returns
   exact RetQ.mk rfl
 by_cases h2 : k = 2
 · subst h2
   go_enter Tryz.func258, Tryz.ntmps258
   go_wp2_with fail
   go_returns
   exact RetQ.mk rfl
 by_cases h3 : k = 3
 · subst h3
   go_enter Tryz.func258, Tryz.ntmps258
   go_wp2_with fail
   go_returns
   exact RetQ.mk rfl
 by_cases h4 : k = 4
 · subst h4
   go_enter Tryz.func258, Tryz.ntmps258
   go_wp2_with fail
   go_returns
   exact RetQ.mk rfl
 by_cases h5 : k = 5
 · subst h5
   go_enter Tryz.func258, Tryz.ntmps258
   go_wp2_with fail
   go_returns
   exact RetQ.mk rfl
 have HM := qH (show mostK k = 0 by unfold mostK; simp [h1, h2, h3, h4, h5])
 have g1 : (k == 1) = false := by rw [beq_eq_false_iff_ne]; exact h1
 have g2 : (k == 2) = false := by rw [beq_eq_false_iff_ne]; exact h2
 have g3 : (k == 3) = false := by rw [beq_eq_false_iff_ne]; exact h3
 have g4 : (k == 4) = false := by rw [beq_eq_false_iff_ne]; exact h4
 have g5 : (k == 5) = false := by rw [beq_eq_false_iff_ne]; exact h5
 clear h1 h2 h3 h4 h5
 go_enter Tryz.func258, Tryz.ntmps258
 go_wp2_with fail
 go_returns
 exact RetQ.mk (vi HM.out.symm)
set_option maxHeartbeats 2000000 in
theorem validChange_c (k a : Int) (w : World) : Calls Tryz.prog 203 #[.agg #[.int .i64 k, .int .i64 a]] w (Ret (.bool (chgB k a)) w) := by
 have HP := chgB_most k a
 have HM := fun w => mostChange_c k w
 have hbd := mostK_bd k
 have hms : -1 ≤ mostK k ∧ mostK k ≤ 300 := by omega
 obtain ⟨m, hm⟩ : ∃ z, z = mostK k := ⟨_, rfl⟩
 rw [← hm] at HP HM hms
 have HI := fun w => within_c a (-m) m w
 obtain ⟨b, hb⟩ : ∃ z, z = inB a (-m) m := ⟨_, rfl⟩
 rw [← hb] at HP HI
 have HPP := qH HP
 have HMM := qH HM
 have HII := qH HI
 have hneg : IntKind.i64.wrap (-m) = -m := IntWalk.i64_in _ (by omega)
 clear hm hb HP HM HI hbd
 obtain ⟨W, hW⟩ : ∃ W, W = w.alloc (Obj.cells #[.int .i64 k, .int .i64 a] 126) := ⟨_, rfl⟩
 obtain ⟨g, hg⟩ : ∃ g, g = w.heap.size := ⟨_, rfl⟩
 have hv : Below w.heap.size w W := by rw [hW]; exact bl_alloc (Below.refl _ _) _
 have hB : Blk W g 126 #[.int .i64 k, .int .i64 a] := by rw [hW, hg]; exact Blk.new _ _ _
 have k0 : W.cell? ⟨g, 0, none⟩ = some (.int .i64 k) := hB.cell 0
 have k1 : W.cell? ⟨g, 1, none⟩ = some (.int .i64 a) := hB.cell 1
 have HW := qH hW
 have HG := qH hg
 clear hW hg hB
 go_enter Tryz.func203, Tryz.ntmps203
 go_upto_region 1 with fail
 rw [← HW.out, ← HG.out]
 clear HW HG
 go_wp2_with fail
 refine (HMM.out _).mono ?_
 rintro e w' ⟨rfl, hq⟩
 rw [hq]
 clear hq w'
 by_cases h0 : 0 < m
 case neg =>
   have g0 : decide (0 < m) = false := decide_eq_false h0
   rw [g0] at HPP
   clear h0
   go_wp2_with fail
   go_returns
   exact Ret.mk (vb (by rw [HPP.out]; rfl)) hv
 have g0 : decide (0 < m) = true := decide_eq_true h0
 by_cases h1 : a = 0
 case pos =>
   have hz : (a != 0) = false := by rw [h1]; rfl
   have HZ := qH (show chgB k a = false by rw [HPP.out]; simp [h1])
   clear h1
   go_wp2_with fail
   go_returns
   exact Ret.mk (vb HZ.out.symm) hv
 have hz : (a != 0) = true := by rw [bne_iff_ne]; exact h1
 have HZ := qH (show chgB k a = b by rw [HPP.out, decide_eq_true h1]; rw [g0]; simp)
 clear h1
 go_wp2_with fail
 refine (HII.out _).mono ?_
 rintro e w' ⟨rfl, hq⟩
 rw [hq]
 clear hq w'
 go_wp2_with fail
 go_returns
 exact Ret.mk (vb HZ.out.symm) hv
theorem validChange1_c (k a : Int) (w : World) : Calls Tryz.prog 205 #[.agg #[.int .i64 k, .int .i64 a]] w (Ret (.bool (!chgB k a)) w) := by
 have hB : Blk (w.alloc (Obj.cells #[.int .i64 k, .int .i64 a] 126)) w.heap.size 126 #[Value.int .i64 k, Value.int .i64 a] := Blk.new _ _ _
 have k0 := hB.cell 0
 have k1 := hB.cell 1
 dsimp at k0 k1
 clear hB
 go_enter Tryz.func205, Tryz.ntmps205
 go_wp2_with fail
 refine (validChange_c k a _).mono ?_
 rintro e W ⟨rfl, hb⟩
 go_wp2_with fail
 go_returns
 exact Ret.mk rfl (bl_trans (bl_alloc (Below.refl _ _) _) hb)
set_option maxHeartbeats 2000000 in
theorem indexChg_c (k a : Int) (g : Nat) (w : World) (hB : Blk w g 126 #[.int .i64 k, .int .i64 a]) :
   Calls Tryz.prog 259 #[.slice (some ⟨g, 0, none⟩) 1 1, .func (.func 205) #[] #[]] w (Ret (.int .i64 (if chgB k a = true then -1 else 0)) w) := by
 have HB := qH hB
 have HC := fun w => validChange1_c k a w
 obtain ⟨b, hb⟩ : ∃ z, z = chgB k a := ⟨_, rfl⟩
 rw [← hb] at HC ⊢
 have HCC := qH HC
 clear hb HC hB
 obtain ⟨r, hr⟩ : ∃ z, z = (if b = true then (-1 : Int) else 0) := ⟨_, rfl⟩
 rw [← hr]
 have HR := qH hr
 clear hr
 go_enter Tryz.func259, Tryz.ntmps259
 go_wp2_with fail
 go_loopw [8] (fun i wr => ∃ j : Nat, j ≤ 1 ∧ i = .int .i64 j ∧ Hid (j = 1 → b = true) ∧ Below w.heap.size w wr) (fun i _ => 1 - (intOf i).toNat)
 case atStart => exact ⟨0, by omega, rfl, qH (by omega), Below.refl _ _⟩
 case round =>
   obtain ⟨j, hj, rfl, HJ, hv⟩ := hrel
   by_cases h0 : j = 0
   · subst h0
     have HBB := HB.out.below hv
     have k0 : wr.cell? ⟨g, 0, none⟩ = some (.int .i64 k) := HBB.cell 0
     have k1 : wr.cell? ⟨g, 1, none⟩ = some (.int .i64 a) := HBB.cell 1
     go_wp2_with fail
     refine (HCC.out _).mono ?_
     rintro e W ⟨rfl, hb⟩
     cases b
     · go_wp2_with fail
       go_returns
       exact Ret.mk (vi (by rw [HR.out]; rfl)) (bl_trans hv hb)
     · go_wp2_with fail
       exact ⟨⟨1, by omega, by go_num, qH (by simp), bl_trans hv hb⟩, by simp [intOf]⟩
   · obtain rfl : j = 1 := by omega
     obtain rfl := HJ.out rfl
     go_wp2_with fail
     go_returns
     exact Ret.mk (vi (by rw [HR.out]; rfl)) hv
theorem ValidChanges1_c (k a : Int) (g : Nat) (w : World) (hB : Blk w g 126 #[.int .i64 k, .int .i64 a]) :
   Calls Tryz.prog 135 #[.slice (some ⟨g, 0, none⟩) 1 1] w (Ret (.bool (chgB k a)) w) := by
 have HI := qH (fun w h => indexChg_c k a g w h)
 have HB := qH hB
 have HCF : Hid (∀ w, Blk w g 126 #[.int .i64 k, .int .i64 a] → Calls Tryz.prog 204 #[.slice (some ⟨g, 0, none⟩) 1 1, .func (.func 205) #[] #[]] w (Ret (.bool (!chgB k a)) w)) := qH (by
   intro w h
   go_enter Tryz.func204, Tryz.ntmps204
   go_wp2_with fail
   refine (HI.out _ h).mono ?_
   rintro e W ⟨rfl, hb⟩
   cases hc : chgB k a
   · go_wp2_with fail
     go_returns
     exact Ret.mk (vb (by simp [hc])) hb
   · go_wp2_with fail
     go_returns
     exact Ret.mk (vb (by simp [hc])) hb)
 go_enter Tryz.func135, Tryz.ntmps135
 go_wp2_with fail
 refine (HCF.out _ HB.out).mono ?_
 rintro e W ⟨rfl, hb⟩
 go_wp2_with fail
 go_returns
 exact Ret.mk (vb (by simp)) hb
theorem lastB_name {x : Last} (h : lastB x = true) : x.name.size ≤ 12 := by
 have h2 := (lastB_parts h).1
 simp only [nameB, nameL, Bool.and_eq_true, decide_eq_true_eq, bytes_len] at h2
 omega
theorem lasT_size {x : Last} (h : lastB x = true) : (lasT x).size ≤ 140 := by
 obtain ⟨_, hf, p0, p1⟩ := lastB_parts h
 have s1 := lastB_name h
 have s2 := footT_size hf
 have s3 := dec21 (v := x.pitch) (by omega) (by omega)
 have z1 : (⟨#[32]⟩ : ByteArray).size = 1 := rfl
 have z2 : (⟨#[32, 112, 105, 116, 99, 104, 32]⟩ : ByteArray).size = 7 := rfl
 unfold lasT
 simp only [app_size, z1, z2]
 omega
theorem FootTextB_c (f : Foot) (w : World) (hT : Tabs w) : Calls Tryz.prog 37 #[.agg #[.int .i64 f.length, .int .i64 f.ball, .int .i64 f.instep, .int .i64 f.heel]] w (Ret (.string (ftB f)) w) := by
 cases hf : footB f
 case true =>
   rw [ftB_yes hf]
   exact FootText_c f (qH hf) w hT
 rw [ftB_no hf]
 have HV := fun w => ValidFoot_c f w
 rw [hf] at HV
 replace HV := qH HV
 obtain ⟨W, hW⟩ : ∃ W, W = w.alloc (Obj.cells #[.int .i64 f.length, .int .i64 f.ball, .int .i64 f.instep, .int .i64 f.heel] 27) := ⟨_, rfl⟩
 obtain ⟨g, hg⟩ : ∃ g, g = w.heap.size := ⟨_, rfl⟩
 have hv : Below w.heap.size w W := by rw [hW]; exact bl_alloc (Below.refl _ _) _
 have hB : Hid (Blk W g 27 #[.int .i64 f.length, .int .i64 f.ball, .int .i64 f.instep, .int .i64 f.heel]) := qH (by rw [hW, hg]; exact Blk.new _ _ _)
 have HW := qH hW
 have HG := qH hg
 clear hW hg hf
 obtain ⟨k0, k1, k2, k3⟩ := qC4 hB.out
 go_enter Tryz.func37, Tryz.ntmps37
 go_upto_region 1 with fail
 rw [← HW.out, ← HG.out]
 clear HW HG
 go_wp2_with fail
 refine (HV.out _).mono ?_
 rintro e W1 ⟨rfl, hb⟩
 replace hv := bl_trans hv hb
 go_wp2_with fail
 go_returns
 exact Ret.mk rfl hv
set_option maxRecDepth 100000 in
set_option maxHeartbeats 4000000 in
theorem LastText_c (x : Last) (hs : x.name.size ≤ 9223372036854775807) (w : World) (hT : Tabs w) : Calls Tryz.prog 73 #[.agg #[.string x.name, .int .i64 x.length, .int .i64 x.ball, .int .i64 x.instep, .int .i64 x.heel, .int .i64 x.pitch]] w (Ret (.string (ltB x)) w) := by
 have HT := qH hT
 clear hT
 have HVL := fun w => validLast_c x hs w
 obtain ⟨b, hb⟩ : ∃ z, z = lastB x := ⟨_, rfl⟩
 rw [← hb] at HVL
 replace HVL := qH HVL
 have HBE := qH hb.symm
 clear hb
 obtain ⟨W, hW⟩ : ∃ W, W = w.alloc (Obj.cells #[.string x.name, .int .i64 x.length, .int .i64 x.ball, .int .i64 x.instep, .int .i64 x.heel, .int .i64 x.pitch] 100) := ⟨_, rfl⟩
 obtain ⟨g, hg⟩ : ∃ g, g = w.heap.size := ⟨_, rfl⟩
 have hv : Below w.heap.size w W := by rw [hW]; exact bl_alloc (Below.refl _ _) _
 have hB : Hid (Blk W g 100 #[.string x.name, .int .i64 x.length, .int .i64 x.ball, .int .i64 x.instep, .int .i64 x.heel, .int .i64 x.pitch]) := qH (by rw [hW, hg]; exact Blk.new _ _ _)
 have HW := qH hW
 have HG := qH hg
 clear hW hg
 obtain ⟨k0, k1, k2, k3, k4, k5⟩ := qC6 hB.out
 go_enter Tryz.func73, Tryz.ntmps73
 go_upto_region 1 with fail
 rw [← HW.out, ← HG.out]
 clear HW HG
 go_wp2_with fail
 refine (HVL.out _).mono ?_
 rintro e W1 ⟨rfl, hb⟩
 replace hv := bl_trans hv hb
 replace hB := qH (hB.out.below hb)
 clear hb HVL
 clear k0 k1 k2 k3 k4 k5
 obtain ⟨k0, k1, k2, k3, k4, k5⟩ := qC6 hB.out
 cases b
 · have HE := qH (ltB_no HBE.out)
   go_wp2_with fail
   go_returns
   exact Ret.mk (vs HE.out.symm) hv
 have HX : Hid (lastB x = true) := HBE
 have HE := qH (ltB_yes HX.out)
 have HT1 := qH (HT.out.below hv)
 have D1 := fun w => foot_c x w
 have D2 := fun w h => FootText_c x.foot (qH (lastB_parts HX.out).2.1) w h
 have D3 := fun w h => DecimalI_c x.pitch (by have := lastB_parts HX.out; omega) (by have := lastB_parts HX.out; omega) w h
 change ∀ w, Tabs w → Calls Tryz.prog 37 #[.agg #[.int .i64 x.length, .int .i64 x.ball, .int .i64 x.instep, .int .i64 x.heel]] w (Ret (.string (footT x.foot)) w) at D2
 obtain ⟨hnm, hf, p0, p1⟩ := lastB_parts HX.out
 have y0 := lastB_name HX.out
 have y1 := footT_size hf
 have y2 := dec21 (v := x.pitch) (by omega) (by omega)
 have hP : lasT x = ((((x.name ++ (⟨#[32]⟩ : ByteArray)) ++ footT x.foot) ++ (⟨#[32, 112, 105, 116, 99, 104, 32]⟩ : ByteArray)) ++ decI x.pitch) := rfl
 have l1 : (⟨#[32]⟩ : ByteArray).size = 1 := rfl
 have l2 : (⟨#[32, 112, 105, 116, 99, 104, 32]⟩ : ByteArray).size = 7 := rfl
 obtain ⟨d1, e1⟩ : ∃ z, z = footT x.foot := ⟨_, rfl⟩
 obtain ⟨d2, e2⟩ : ∃ z, z = decI x.pitch := ⟨_, rfl⟩
 rw [← e1] at D2 y1 hP
 rw [← e2] at D3 y2 hP
 replace D1 := qH D1
 replace D2 := qH D2
 replace D3 := qH D3
 have a0 := fun (w : World) => run_string_add_sum (P := Tryz.prog) w x.name (⟨#[32]⟩ : ByteArray) (by omega)
 have a1 := fun (w : World) => run_string_add_sum (P := Tryz.prog) w (x.name ++ (⟨#[32]⟩ : ByteArray)) d1 (by simp only [app_size]; omega)
 have a2 := fun (w : World) => run_string_add_sum (P := Tryz.prog) w ((x.name ++ (⟨#[32]⟩ : ByteArray)) ++ d1) (⟨#[32, 112, 105, 116, 99, 104, 32]⟩ : ByteArray) (by simp only [app_size]; omega)
 have a3 := fun (w : World) => run_string_add_sum (P := Tryz.prog) w (((x.name ++ (⟨#[32]⟩ : ByteArray)) ++ d1) ++ (⟨#[32, 112, 105, 116, 99, 104, 32]⟩ : ByteArray)) d2 (by simp only [app_size]; omega)
 have HP := qH hP
 clear hP e1 e2 y0 y1 y2 l1 l2 hf hnm p0 p1
 go_upto_region 3 with fail
 clear hB
 refine wp_region_held_drew (S := fun w' => Below W1.heap.size W1 w' ∧ True) (by as_aux_lemma => kernel_rfl) ?_ (fun hHeld => ?_)
 · exact ⟨(Below.refl _ _).drew, trivial⟩
 have hd9 := hHeld.1
 refine zU 0 6 rfl (by assumption) ?_
 try simp only [Act.put, zA, zB, zC]
 refine zT 1 7 ?_ rfl ?_ (by assumption) ?_
 rotate_left
 · intro w hSw
   try dsimp only at hSw
   have x_k0 := bl_cell hSw.1 k0
   go_simp
   try with_reducible rfl
 try simp only [Act.put, zA, zB, zC]
 refine zU 2 8 rfl (by assumption) ?_
 try simp only [Act.put, zA, zB, zC]
 refine zT 3 9 ?_ rfl ?_ (by assumption) ?_
 rotate_left
 · intro w hSw
   try dsimp only at hSw
   have x_k0 := bl_cell hSw.1 k0
   have x_k1 := bl_cell hSw.1 k1
   have x_k2 := bl_cell hSw.1 k2
   have x_k3 := bl_cell hSw.1 k3
   have x_k4 := bl_cell hSw.1 k4
   have x_k5 := bl_cell hSw.1 k5
   go_simp
   try with_reducible rfl
 try simp only [Act.put, zA, zB, zC]
 refine zU 8 14 rfl (by assumption) ?_
 try simp only [Act.put, zA, zB, zC]
 refine zT 9 15 ?_ rfl ?_ (by assumption) ?_
 rotate_left
 · intro w hSw
   try dsimp only at hSw
   have x_k5 := bl_cell hSw.1 k5
   go_simp
   try with_reducible rfl
 try simp only [Act.put, zA, zB, zC]
 refine zR 4 (some 10) rfl (fun K hK => ?_)
 go_simp
 (try dsimp only at hHeld); go_split_ands
 refine (D1.out _).mono ?_
 rintro e V1 ⟨rfl, hb9⟩
 replace hd9 := bl_trans hd9 hb9
 clear hb9
 go_wp2_with fail
 refine hK.out _ _ ?_ (fun hHeld => ?_)
 · (try dsimp only); go_split_ands; exact ⟨hd9, trivial⟩
 clear hK K
 try simp only [Act.put, zA, zB, zC]
 refine zR 5 (some 11) rfl (fun K hK => ?_)
 go_simp
 (try dsimp only at hHeld); go_split_ands
 refine (D2.out _ (HT1.out.below hd9)).mono ?_
 rintro e V2 ⟨rfl, hb9⟩
 replace hd9 := bl_trans hd9 hb9
 clear hb9
 go_wp2_with fail
 refine hK.out _ _ ?_ (fun hHeld => ?_)
 · (try dsimp only); go_split_ands; exact ⟨hd9, trivial⟩
 clear hK K
 try simp only [Act.put, zA, zB, zC]
 refine zU 6 12 rfl (by assumption) ?_
 try simp only [Act.put, zA, zB, zC]
 refine zU 7 13 rfl (by assumption) ?_
 try simp only [Act.put, zA, zB, zC]
 refine zR 10 (some 16) rfl (fun K hK => ?_)
 go_simp
 (try dsimp only at hHeld); go_split_ands
 refine (D3.out _ (HT1.out.below hd9).pow).mono ?_
 rintro e V3 ⟨rfl, hb9⟩
 replace hd9 := bl_trans hd9 hb9
 clear hb9
 go_wp2_with fail
 refine hK.out _ _ ?_ (fun hHeld => ?_)
 · (try dsimp only); go_split_ands; exact ⟨hd9, trivial⟩
 clear hK K
 try simp only [Act.put, zA, zB, zC]
 refine zU 11 17 rfl (by assumption) ?_
 try simp only [Act.put, zA, zB, zC]
 refine zU 12 2 rfl (by assumption) ?_
 try simp only [Act.put, zA, zB, zC]
 refine wpAnyH_done (by as_aux_lemma => kernel_rfl) ?_ _
 clear hHeld
 replace hv := bl_trans hv hd9
 go_wp2_with fail
 go_returns
 exact Ret.mk (vs (HE.out.trans HP.out).symm) hv
end Go.Proofs.YtpiehlfffjhoaaaGreatDoor
