/- Lemmas for the law on the console: the parts DkT, CnP. -/
import Derived.Test.YtpiehlfffjhoaaaGreatDoorQ0
import Derived.Test.YtpiehlfffjhoaaaGreatDoorQ17
import Derived.Test.YtpiehlfffjhoaaaGreatDoorQ2
import Derived.Laws.Concat
import Derived.Test.YtpiehlfffjhoaaaGreatDoorQ3
import Derived.Test.YtpiehlfffjhoaaaGreatDoorQ11
import Derived.Test.YtpiehlfffjhoaaaGreatDoorQ9
import Derived.Test.YtpiehlfffjhoaaaGreatDoorQ7
namespace Go.Proofs.YtpiehlfffjhoaaaGreatDoor
open Go.RowKit
def joinW (sep : ByteArray) (L : List ByteArray) : ByteArray := ⟨(Lib.join (L.map (·.data.toList)) sep.data.toList).toArray⟩
theorem joinW_size (sep : ByteArray) (hs : sep.size ≤ 4) (L : List ByteArray) (h : ∀ y ∈ L, y.size ≤ 21) : (Lib.join (L.map (·.data.toList)) sep.data.toList).length ≤ 25 * L.length := by
 cases L with
 | nil => simp [Lib.join_nil]
 | cons x r =>
   have es : sep.data.toList.length = sep.size := bytes_len sep
   rw [List.map_cons, Lib.join_cons, List.length_append]
   have key : ∀ r : List ByteArray, (∀ y ∈ r, y.size ≤ 21) → (Lib.joinTail sep.data.toList (r.map (·.data.toList))).length ≤ 25 * r.length := by
     intro r
     induction r with
     | nil => intro _; simp [Lib.joinTail]
     | cons y t ih =>
       intro hr
       have h1 := ih (fun z hz => hr z (by simp [hz]))
       have h2 := hr y (by simp)
       have e : y.data.toList.length = y.size := bytes_len y
       simp only [Lib.joinTail, List.map_cons, List.flatten_cons, List.length_append, List.length_cons] at h1 ⊢
       omega
   have h1 := key r (fun y hy => h y (by simp [hy]))
   have h2 := h x (by simp)
   have e : x.data.toList.length = x.size := bytes_len x
   rw [List.length_cons]
   omega
theorem infoStrT : (Tryz.prog.info? 9).map (fun i => (i.zero, i.size, i.bytes)) = some (some (.string ByteArray.empty), 1, 16) := by kernel_rfl
def decL (ps : List Int) : List ByteArray := ps.map decI
theorem decL_at {ps : List Int} {j : Nat} {k : Int} (h : ps[j]? = some k) : (decL ps)[j]? = some (decI k) := by unfold decL; rw [List.getElem?_map, h]; rfl
set_option maxRecDepth 100000 in
set_option maxHeartbeats 2000000 in
theorem numbersText_c (sp : ByteArray) (hsp : sp.size ≤ 4) (B : Option Addr) (ps : List Int) (m d : Nat) (hp : Hid (ps.length = m)) (hm0 : 0 < m) (hm' : m ≤ 1000) (hb : Hid (∀ k ∈ ps, -1000000000 ≤ k ∧ k ≤ 1000000000)) (w : World) (hB : Arr w B (flat icell ps)) (hT : Tabs w) :
   Calls Tryz.prog 77 #[.string sp, .slice B m d] w (Ret (.string (joinW sp (decL ps))) w) := by
 obtain ⟨i0, hi0', hz0, hz1, hz2⟩ := info_parts (P := Tryz.prog) (e := 9) (z := .string ByteArray.empty) (size := 1) (bytes := 16) infoStrT
 have HT := qH hT
 have HBB := qH hB
 have HNL := qH (show (decL ps).length = m by unfold decL; rw [List.length_map]; exact hp.out)
 have HSZ := qH (show ∀ y ∈ decL ps, y.size ≤ 21 by
   intro y hy
   unfold decL at hy
   obtain ⟨k, hk, rfl⟩ := List.mem_map.1 hy
   have := hb.out k hk
   exact dec21 (by omega) (by omega))
 clear hT hB
 go_enter Tryz.func77, Tryz.ntmps77
 go_wp2_with fail
 have hO0 := own_empty w w.heap.size 9 1 (Nat.le_refl _)
 have hv1 := bl_alloc (Below.refl w.heap.size w) (.cells #[] 9)
 go_loopw [5, 11] (fun v i wr => ∃ (j : Nat) (A' : Option Addr) (c' : Nat), i = .int .i64 j ∧ v = .slice A' j c' ∧ j ≤ m ∧ Hid (wr.ownsRow w.heap.size 9 1 (.slice A' j c') j (flat scell ((decL ps).take j))) ∧ Below w.heap.size w wr) (fun _ i _ => m - (intOf i).toNat)
 case atStart => exact ⟨0, _, _, rfl, rfl, by omega, qH hO0, hv1⟩
 case round =>
   clear hO0 hv1
   obtain ⟨j, A', c', rfl, rfl, hj, HO, hv⟩ := hrel
   have hi0 : (0 : Int) ≤ (j : Int) := by omega
   by_cases hlt : j < m
   · obtain ⟨k, hkj⟩ := get_of_lt (xs := ps) (k := j) (by rw [hp.out]; exact hlt)
     obtain ⟨bd, hbd, hbb, d0⟩ := icell_at (HBB.out.below hv) hkj
     subst hbd
     obtain ⟨hk0, hk1⟩ := hb.out k (List.mem_of_getElem? hkj)
     have HNM := qH (decL_at hkj)
     have HDC := fun w h => DecimalI_c k (by omega) (by omega) w h
     obtain ⟨t, ht⟩ : ∃ z, z = decI k := ⟨_, rfl⟩
     rw [← ht] at HDC HNM
     replace HDC := qH HDC
     have hi1 : (j : Int) < (m : Int) := by omega
     clear hkj ht
     go_wp2_with fail
     refine (HDC.out _ (HT.out.pow.below hv)).mono ?_
     rintro e W2 ⟨rfl, hb9⟩
     replace hv := bl_trans hv hb9
     replace HO := qH (own_below HO.out hb9)
     clear hb9 HDC d0
     go_wp2_with (at_builtin; refine app_own W2 #[.string t] rfl _ _ 24 9 rfl i0 _ 1 16 Tryz.underlying24 hi0' hz0 hz1 hz2 rfl (by omega) w.heap.size (.slice A' j c') j _ rfl rfl HO.out rfl (by simp [Value.oneCell']) (by unfold maxLen; omega) (by omega) hv.size ?_; intro A2 c2 w2 hown2 hg3)
     have hr := own_at HO.out
     have e9 : flat scell ((decL ps).take (j + 1)) = flat scell ((decL ps).take j) ++ #[Value.string t].toList := by rw [take_at HNM.out]; simp [flat, scell]
     exact ⟨⟨j + 1, A2, c2, by go_num, rfl, by omega, qH (by rw [e9]; exact hown2), bl_grown hv hg3 hr⟩, by simp [intOf]; omega⟩
   · have hjm : j = m := by omega
     subst hjm
     have hi1 : ¬ (j : Int) < (j : Int) := by omega
     obtain ⟨gO, rfl⟩ := own_addr HO.out hm0
     have hgl := own_lt HO.out gO rfl
     have htk : (decL ps).take j = decL ps := List.take_of_length_le (by rw [HNL.out]; exact Nat.le_refl _)
     rw [htk] at HO
     have hcap : j ≤ c' := by obtain ⟨_, _, e, h, _⟩ := own_form HO.out; injection e with _ _ e3; omega
     have hjn := Tryz.strings_Join gO 0 c' (decL ps) sp wr (fun i y hy => by
       have hi : i < (decL ps).length := (List.getElem?_eq_some_iff.1 hy).1
       have h0 := HO.out.cellAt i (by rw [Nat.mul_one, ← HNL.out]; exact hi)
       rw [Nat.zero_add, h0]
       have := flat_get (f := scell) (s := 1) (fun _ => rfl) (decL ps) i 0 y hy (by omega)
       rw [Nat.mul_one, Nat.add_zero] at this
       exact this) hgl (by rw [HNL.out]; omega) (by rw [HNL.out]; exact hcap) (by have := joinW_size sp hsp _ HSZ.out; rw [HNL.out] at this; exact Nat.le_trans this (by omega))
     rw [HNL.out] at hjn
     have HJ := qH hjn
     clear hjn htk
     go_wp2_with fail
     refine HJ.out.mono ?_
     rintro e W3 ⟨rfl, hb3⟩
     go_wp2_with fail
     go_returns
     exact Ret.mk rfl (bl_trans hv hb3)
def footT (f : Foot) : ByteArray := (((((decI f.length ++ ⟨#[47]⟩) ++ decI f.ball) ++ ⟨#[47]⟩) ++ decI f.instep) ++ ⟨#[47]⟩) ++ decI f.heel
theorem foot_join (f : Foot) : joinW ⟨#[47]⟩ (decL [f.length, f.ball, f.instep, f.heel]) = footT f := by
 apply ByteArray.ext
 apply Array.ext'
 unfold joinW footT decL
 simp only [List.map_cons, List.map_nil, Lib.join_cons, Lib.joinTail, bappS, List.flatten_cons, List.flatten_nil]
 simp
theorem foot_bd {f : Foot} (h : footB f = true) : (500 ≤ f.length ∧ f.length ≤ 5000) ∧ (500 ≤ f.ball ∧ f.ball ≤ 5000) ∧ (500 ≤ f.instep ∧ f.instep ≤ 5000) ∧ (500 ≤ f.heel ∧ f.heel ≤ 5000) := by
 unfold footB at h
 simp only [Bool.and_eq_true, inB_iff] at h
 exact ⟨h.1.1.1, h.1.1.2, h.1.2, h.2⟩
theorem footT_size {f : Foot} (h : footB f = true) : (footT f).size ≤ 87 := by
 obtain ⟨h1, h2, h3, h4⟩ := foot_bd h
 have e1 := dec21 (v := f.length) (by omega) (by omega)
 have e2 := dec21 (v := f.ball) (by omega) (by omega)
 have e3 := dec21 (v := f.instep) (by omega) (by omega)
 have e4 := dec21 (v := f.heel) (by omega) (by omega)
 have l : (⟨#[47]⟩ : ByteArray).size = 1 := rfl
 unfold footT
 simp only [app_size]
 omega
set_option maxHeartbeats 1000000 in
theorem FootText_c (f : Foot) (hf : Hid (footB f = true)) (w : World) (hT : Tabs w) : Calls Tryz.prog 37 #[.agg #[.int .i64 f.length, .int .i64 f.ball, .int .i64 f.instep, .int .i64 f.heel]] w (Ret (.string (footT f)) w) := by
 have HT := qH hT
 clear hT
 have HV := fun w => ValidFoot_c f w
 rw [hf.out] at HV
 replace HV := qH HV
 have HNT := qH (fun g w h t => numbersText_c ⟨#[47]⟩ (by decide) (some ⟨g, 0, none⟩) [f.length, f.ball, f.instep, f.heel] 4 4 (qH rfl) (by omega) (by omega) (qH (by
   obtain ⟨h1, h2, h3, h4⟩ := foot_bd hf.out
   intro k hk
   simp only [List.mem_cons, List.not_mem_nil, or_false] at hk
   rcases hk with rfl | rfl | rfl | rfl <;> omega)) w h t)
 have HJ := qH (foot_join f)
 obtain ⟨W, hW⟩ : ∃ W, W = w.alloc (Obj.cells #[.int .i64 f.length, .int .i64 f.ball, .int .i64 f.instep, .int .i64 f.heel] 27) := ⟨_, rfl⟩
 obtain ⟨g, hg⟩ : ∃ g, g = w.heap.size := ⟨_, rfl⟩
 have hv : Below w.heap.size w W := by rw [hW]; exact bl_alloc (Below.refl _ _) _
 have hB : Hid (Blk W g 27 #[.int .i64 f.length, .int .i64 f.ball, .int .i64 f.instep, .int .i64 f.heel]) := qH (by rw [hW, hg]; exact Blk.new _ _ _)
 have HW := qH hW
 have HG := qH hg
 clear hW hg
 obtain ⟨k0, k1, k2, k3⟩ := qC4 hB.out
 go_enter Tryz.func37, Tryz.ntmps37
 go_upto_region 1 with fail
 rw [← HW.out, ← HG.out]
 clear HW HG
 go_wp2_with fail
 refine (HV.out _).mono ?_
 rintro e W1 ⟨rfl, hb⟩
 replace hv := bl_trans hv hb
 replace hB := qH (hB.out.below hb)
 clear hb HV
 clear k0 k1 k2 k3
 obtain ⟨k0, k1, k2, k3⟩ := qC4 hB.out
 go_wp2_with fail
 refine (measures_c f _).mono ?_
 rintro e W2 ⟨gm, rfl, hM, hb⟩
 replace hv := bl_trans hv hb
 clear hb
 go_wp2_with fail
 refine (HNT.out gm _ (arr_blkO hM) (HT.out.below hv)).mono ?_
 rintro e W3 ⟨rfl, hb⟩
 replace hv := bl_trans hv hb
 go_wp2_with fail
 go_returns
 exact Ret.mk (vs HJ.out) hv
def deskT (f : Foot) (n : Nat) : ByteArray := ((footT f ++ ⟨#[32]⟩) ++ decI n) ++ ⟨#[32, 108, 97, 115, 116, 115]⟩
def deskX (f : Foot) (xs : List Last) (s : Style) (lg : ByteArray) (n : Nat) : ByteArray := if deskB f xs s lg = true then deskT f n else ⟨#[]⟩
theorem desk_foot {f : Foot} {xs : List Last} {s : Style} {lg : ByteArray} (h : deskB f xs s lg = true) : footB f = true := by
 unfold deskB at h
 simp only [Bool.and_eq_true] at h
 exact h.1.1.1
set_option maxRecDepth 100000 in
set_option maxHeartbeats 8000000 in
theorem DeskText_c (f : Foot) (s : Style) (lg : ByteArray) (A : Option Addr) (xs : List Last) (n c : Nat) (hn : Hid (xs.length = n)) (hm : (n : Int) ≤ 1048576) (hs : Hid (∀ x ∈ xs, x.name.size ≤ 9223372036854775807)) (hx : Hid s.fits) (hl : lg.size ≤ 1048576) (w : World) (hA : Arr w A (flat Last.cells xs)) (hT : Tabs w) : Calls Tryz.prog 11 #[Value.agg #[.int .i64 f.length, .int .i64 f.ball, .int .i64 f.instep, .int .i64 f.heel, .slice A n c, .string s.upper, .string s.color, .string s.lining, .string s.sole, .int .i64 s.thick, .int .i64 s.heel, .int .i64 s.eyelets, .int .i64 s.density, .bool s.double, .string lg]] w (Ret (.string (deskX f xs s lg n)) w) := by
 have HT := qH hT
 have HA := qH hA
 clear hT hA
 obtain ⟨W, hW⟩ : ∃ W, W = w.alloc (Obj.cells #[.int .i64 f.length, .int .i64 f.ball, .int .i64 f.instep, .int .i64 f.heel, .slice A n c, .string s.upper, .string s.color, .string s.lining, .string s.sole, .int .i64 s.thick, .int .i64 s.heel, .int .i64 s.eyelets, .int .i64 s.density, .bool s.double, .string lg] 32) := ⟨_, rfl⟩
 obtain ⟨g, hg⟩ : ∃ g, g = w.heap.size := ⟨_, rfl⟩
 have hv : Below w.heap.size w W := by rw [hW]; exact bl_alloc (Below.refl _ _) _
 have hB : Hid (Blk W g 32 #[.int .i64 f.length, .int .i64 f.ball, .int .i64 f.instep, .int .i64 f.heel, .slice A n c, .string s.upper, .string s.color, .string s.lining, .string s.sole, .int .i64 s.thick, .int .i64 s.heel, .int .i64 s.eyelets, .int .i64 s.density, .bool s.double, .string lg]) := qH (by rw [hW, hg]; exact Blk.new _ _ _)
 have HW := qH hW
 have HG := qH hg
 clear hW hg
 have HOK := fun w h t => ValidDesk_c f s lg A xs n c hn hm hs hx hl w h t
 obtain ⟨b, hb⟩ : ∃ z, z = deskB f xs s lg := ⟨_, rfl⟩
 rw [← hb] at HOK
 replace HOK := qH HOK
 have HBE := qH hb.symm
 clear hb hn hs hx hl
 go_enter Tryz.func11, Tryz.ntmps11
 go_upto_region 1 with fail
 rw [← HW.out, ← HG.out]
 clear HW HG
 go_wp2_with (refine wpList_load_row rfl 32 _ rfl g rfl 32 _ (0, 0) _ hB.out Tryz.underlying32 rfl (by kernel_rfl) ?_)
 refine (HOK.out _ (HA.out.below hv) (HT.out.below hv)).mono ?_
 rintro e W1 ⟨rfl, hb⟩
 replace hv := bl_trans hv hb
 replace hB := qH (hB.out.below hb)
 clear hb HOK
 cases b
 · have HE := qH (show deskX f xs s lg n = ⟨#[]⟩ by unfold deskX; rw [HBE.out]; rfl)
   go_wp2_with fail
   go_returns
   exact Ret.mk (vs HE.out.symm) hv
 have HE := qH (show deskX f xs s lg n = deskT f n by unfold deskX; rw [HBE.out]; rfl)
 have hf := qH (desk_foot HBE.out)
 clear HBE
 have HT1 := qH (HT.out.below hv)
 have D1 := fun w h => FootText_c f hf w h
 have D2 := fun w h => DecimalI_c (n : Int) (by omega) (by omega) w h
 have hP : deskT f n = ((footT f ++ ⟨#[32]⟩) ++ decI n) ++ ⟨#[32, 108, 97, 115, 116, 115]⟩ := rfl
 have l1 : (⟨#[32]⟩ : ByteArray).size = 1 := rfl
 have l2 : (⟨#[32, 108, 97, 115, 116, 115]⟩ : ByteArray).size = 6 := rfl
 have y1 := footT_size hf.out
 have y2 := dec21 (v := (n : Int)) (by omega) (by omega)
 obtain ⟨d1, e1⟩ : ∃ z, z = footT f := ⟨_, rfl⟩
 obtain ⟨d2, e2⟩ : ∃ z, z = decI (n : Int) := ⟨_, rfl⟩
 rw [← e1] at D1 y1 hP
 rw [← e2] at D2 y2 hP
 replace D1 := qH D1
 replace D2 := qH D2
 have a0 := fun (w : World) => run_string_add_sum (P := Tryz.prog) w d1 (⟨#[32]⟩ : ByteArray) (by omega)
 have a1 := fun (w : World) => run_string_add_sum (P := Tryz.prog) w (d1 ++ (⟨#[32]⟩ : ByteArray)) d2 (by simp only [app_size]; omega)
 have a2 := fun (w : World) => run_string_add_sum (P := Tryz.prog) w ((d1 ++ (⟨#[32]⟩ : ByteArray)) ++ d2) (⟨#[32, 108, 97, 115, 116, 115]⟩ : ByteArray) (by simp only [app_size]; omega)
 have HP := qH hP
 clear hP e1 e2 y1 y2 l1 l2 hf
 obtain ⟨k0, k1, k2, k3, k4, k5, k6, k7, k8, k9, k10, k11, k12, k13, k14⟩ := qC15 hB.out
 go_upto_region 3 with fail
 refine wp_region_held_drew (S := fun w' => Below W1.heap.size W1 w' ∧ True) (by as_aux_lemma => kernel_rfl) ?_ (fun hHeld => ?_)
 · exact ⟨(Below.refl _ _).drew, trivial⟩
 have hd9 := hHeld.1
 refine zU 0 6 rfl (by assumption) ?_
 try simp only [Act.put, zA, zB, zC]
 refine zT 1 7 ?_ rfl ?_ (by assumption) ?_
 rotate_left
 · intro w hSw
   try dsimp only at hSw
   have x_k0 := bl_cell hSw.1 k0
   have x_k1 := bl_cell hSw.1 k1
   have x_k2 := bl_cell hSw.1 k2
   have x_k3 := bl_cell hSw.1 k3
   go_simp
   try with_reducible rfl
 try simp only [Act.put, zA, zB, zC]
 refine zU 4 10 rfl (by assumption) ?_
 try simp only [Act.put, zA, zB, zC]
 refine zT 5 11 ?_ rfl ?_ (by assumption) ?_
 rotate_left
 · intro w hSw
   try dsimp only at hSw
   have x_k4 := bl_cell hSw.1 k4
   go_simp
   try with_reducible rfl
 try simp only [Act.put, zA, zB, zC]
 refine zU 6 12 rfl (by assumption) ?_
 try simp only [Act.put, zA, zB, zC]
 refine zR 2 (some 8) rfl (fun K hK => ?_)
 go_simp
 (try dsimp only at hHeld); go_split_ands
 refine (D1.out _ (HT1.out.below hd9)).mono ?_
 rintro e V1 ⟨rfl, hb9⟩
 replace hd9 := bl_trans hd9 hb9
 clear hb9
 go_wp2_with fail
 refine hK.out _ _ ?_ (fun hHeld => ?_)
 · (try dsimp only); go_split_ands; exact ⟨hd9, trivial⟩
 clear hK K
 try simp only [Act.put, zA, zB, zC]
 refine zU 3 9 rfl (by assumption) ?_
 try simp only [Act.put, zA, zB, zC]
 refine zR 7 (some 13) rfl (fun K hK => ?_)
 go_simp
 (try dsimp only at hHeld); go_split_ands
 refine (D2.out _ (HT1.out.below hd9).pow).mono ?_
 rintro e V2 ⟨rfl, hb9⟩
 replace hd9 := bl_trans hd9 hb9
 clear hb9
 go_wp2_with fail
 refine hK.out _ _ ?_ (fun hHeld => ?_)
 · (try dsimp only); go_split_ands; exact ⟨hd9, trivial⟩
 clear hK K
 try simp only [Act.put, zA, zB, zC]
 refine zU 8 14 rfl (by assumption) ?_
 try simp only [Act.put, zA, zB, zC]
 refine zU 9 15 rfl (by assumption) ?_
 try simp only [Act.put, zA, zB, zC]
 refine zU 10 2 rfl (by assumption) ?_
 try simp only [Act.put, zA, zB, zC]
 refine wpAnyH_done (by as_aux_lemma => kernel_rfl) ?_ _
 clear hHeld
 replace hv := bl_trans hv hd9
 go_wp2_with fail
 go_returns
 exact Ret.mk (vs (HE.out.trans HP.out).symm) hv
def okB (p : ByteArray) : Bool := okN p.data.toList
theorem itoa_mem (v : Int) : ∀ b ∈ Lib.itoa v, b = 45 ∨ isDig b = true := by
 have h := itoa_bare v
 have hd := (dig_all v.natAbs).1
 intro b hm
 rw [← h.1] at hd
 cases hv : Lib.itoa v with
 | nil => rw [hv] at hm; cases hm
 | cons c r =>
   rw [hv] at hm hd
   simp only [bare] at hd
   split at hd
   · rename_i hc
     rcases List.mem_cons.1 hm with h1 | h1
     · exact .inl (h1.trans hc)
     · exact .inr (List.all_eq_true.1 hd _ h1)
   · exact .inr (List.all_eq_true.1 hd _ hm)
theorem itoa_no {c : UInt8} (hc : isDig c = false) (h45 : c ≠ 45) (v : Int) : c ∉ Lib.itoa v := by
 intro hm
 rcases itoa_mem v c hm with h | h
 · exact h45 h
 · rw [hc] at h; cases h
theorem dec_data (v : Int) : (decI v).data.toList = Lib.itoa v := by unfold decI; simp
theorem splC_map {c : UInt8} {s : ByteArray} {L : List ByteArray} (h : splC c s = L) : spl c s.data.toList = L.map (·.data.toList) := by
 rw [← h]
 unfold splC
 rw [List.map_map]
 conv => lhs; rw [← List.map_id (spl c s.data.toList)]
 exact List.map_congr_left fun x _ => by simp
theorem splC_inter {c : UInt8} {s : ByteArray} {L : List ByteArray} (h : splC c s = L) : s.data.toList = [c].intercalate (L.map (·.data.toList)) := by
 rw [← splC_map h]
 exact spl_join c _
theorem splC_of_inter {c : UInt8} {s : ByteArray} {L : List ByteArray} (hne : L ≠ []) (hf : ∀ p ∈ L, c ∉ p.data.toList) (h : s.data.toList = [c].intercalate (L.map (·.data.toList))) : splC c s = L := by
 unfold splC
 rw [h, spl_inter _ (by simpa using hne) (by
   intro p hp
   obtain ⟨q, hq, rfl⟩ := List.mem_map.1 hp
   exact hf q hq), List.map_map]
 conv => rhs; rw [← List.map_id L]
 exact List.map_congr_left fun x _ => by simp
theorem ba_ext {s t : ByteArray} (h : s.data.toList = t.data.toList) : s = t := by rw [← bytes_list s, h, bytes_list]
def mkF (a b c d : ByteArray) : Foot := ⟨numV a, numV b, numV c, numV d⟩
def ftB (f : Foot) : ByteArray := if footB f = true then footT f else ⟨#[]⟩
theorem ftB_yes {f : Foot} (h : footB f = true) : ftB f = footT f := by unfold ftB; rw [if_pos h]
theorem ftB_no {f : Foot} (h : footB f = false) : ftB f = ⟨#[]⟩ := by unfold ftB; rw [if_neg (by simp [h])]
theorem footT_data (f : Foot) : (footT f).data.toList = [47].intercalate [Lib.itoa f.length, Lib.itoa f.ball, Lib.itoa f.instep, Lib.itoa f.heel] := by
 unfold footT
 simp only [bytes_app, dec_data]
 simp [List.intercalate]
theorem footT_no {c : UInt8} (hc : isDig c = false) (h45 : c ≠ 45) (h47 : c ≠ 47) (f : Foot) : c ∉ (footT f).data.toList := by
 rw [footT_data]
 simp only [List.intercalate, List.intersperse, List.flatten_cons, List.flatten_nil, List.append_nil, List.mem_append, List.mem_singleton, not_or]
 have h := fun v => itoa_no hc h45 v
 simp [h, h47]
def rdFo (s : ByteArray) : Option Foot := match splC 47 s with
 | [a, b, c, d] => if (okB a && okB b && okB c && okB d && footB (mkF a b c d)) = true then some (mkF a b c d) else none
 | _ => none
theorem rdFo_short {s : ByteArray} (h : (splC 47 s).length ≠ 4) : rdFo s = none := by
 unfold rdFo
 split
 · rename_i hs; rw [hs] at h; exact absurd rfl h
 · rfl
theorem rdFo_four {s a b c d : ByteArray} (h : splC 47 s = [a, b, c, d]) : rdFo s = if (okB a && okB b && okB c && okB d && footB (mkF a b c d)) = true then some (mkF a b c d) else none := by
 unfold rdFo
 rw [h]
theorem splC_nil (c : UInt8) : splC c ⟨#[]⟩ = [⟨#[]⟩] := rfl
theorem footT_mk {s a b c d : ByteArray} (h : splC 47 s = [a, b, c, d]) (ha : okB a = true) (hb : okB b = true) (hc : okB c = true) (hd : okB d = true) : footT (mkF a b c d) = s := by
 apply ba_ext
 have h1 := (okN_iff.1 ha).2.2.2
 have h2 := (okN_iff.1 hb).2.2.2
 have h3 := (okN_iff.1 hc).2.2.2
 have h4 := (okN_iff.1 hd).2.2.2
 rw [splC_inter h, footT_data]
 simp only [mkF, numV_yes ha, numV_yes hb, numV_yes hc, numV_yes hd, h1, h2, h3, h4, List.map_cons, List.map_nil]
theorem ftB_mk {s a b c d : ByteArray} (h : splC 47 s = [a, b, c, d]) (ha : okB a = true) (hb : okB b = true) (hc : okB c = true) (hd : okB d = true) : decide (ftB (mkF a b c d) = s) = footB (mkF a b c d) := by
 cases hf : footB (mkF a b c d)
 · rw [ftB_no hf]
   apply decide_eq_false
   intro e
   rw [← e, splC_nil] at h
   cases h
 · rw [ftB_yes hf]
   exact decide_eq_true (footT_mk h ha hb hc hd)
theorem rdFo_some {s : ByteArray} {f : Foot} (h : rdFo s = some f) : footT f = s ∧ footB f = true := by
 unfold rdFo at h
 split at h
 · rename_i a b c d hs
   split at h
   · rename_i hc
     simp only [Bool.and_eq_true] at hc
     obtain ⟨⟨⟨⟨h1, h2⟩, h3⟩, h4⟩, h5⟩ := hc
     injection h with h
     subst h
     exact ⟨footT_mk hs h1 h2 h3 h4, h5⟩
   · cases h
 · cases h
def wPitch : ByteArray := ⟨#[112, 105, 116, 99, 104]⟩
def lasT (x : Last) : ByteArray := ((((x.name ++ ⟨#[32]⟩) ++ footT x.foot) ++ ⟨#[32, 112, 105, 116, 99, 104, 32]⟩) ++ decI x.pitch)
def ltB (x : Last) : ByteArray := if lastB x = true then lasT x else ⟨#[]⟩
theorem ltB_yes {x : Last} (h : lastB x = true) : ltB x = lasT x := by unfold ltB; rw [if_pos h]
theorem ltB_no {x : Last} (h : lastB x = false) : ltB x = ⟨#[]⟩ := by unfold ltB; rw [if_neg (by simp [h])]
theorem lastB_parts {x : Last} (h : lastB x = true) : nameB x.name = true ∧ footB x.foot = true ∧ 0 ≤ x.pitch ∧ x.pitch ≤ 1000 := by
 unfold lastB at h
 simp only [Bool.and_eq_true, inB_iff] at h
 exact ⟨h.1.1, h.1.2, h.2⟩
theorem lasT_data (x : Last) : (lasT x).data.toList = [32].intercalate [x.name.data.toList, (footT x.foot).data.toList, wPitch.data.toList, Lib.itoa x.pitch] := by
 unfold lasT
 simp only [bytes_app, dec_data]
 simp [List.intercalate, wPitch]
theorem splC_last {x : Last} (h : lastB x = true) : splC 32 (lasT x) = [x.name, footT x.foot, wPitch, decI x.pitch] := by
 obtain ⟨hn, _, _, _⟩ := lastB_parts h
 refine splC_of_inter (by simp) ?_ ?_
 · intro p hp
   simp only [List.mem_cons, List.not_mem_nil, or_false] at hp
   rcases hp with rfl | rfl | rfl | rfl
   · exact name_free hn
   · exact footT_no (by decide) (by decide) (by decide) _
   · decide
   · rw [dec_data]; exact itoa_no (by decide) (by decide) _
 · rw [lasT_data]; simp [dec_data]
def mkL (n : ByteArray) (f : Foot) (p : ByteArray) : Last := ⟨n, f.length, f.ball, f.instep, f.heel, numV p⟩
theorem mkL_foot (n : ByteArray) (f : Foot) (p : ByteArray) : (mkL n f p).foot = f := rfl
def rdLa (s : ByteArray) : Option Last := match splC 32 s with
 | [n, ft, q, p] => (match rdFo ft with
   | some f => if (decide (q = wPitch) && okB p && lastB (mkL n f p)) = true then some (mkL n f p) else none
   | none => none)
 | _ => none
theorem rdLa_short {s : ByteArray} (h : (splC 32 s).length ≠ 4) : rdLa s = none := by
 unfold rdLa
 split
 · rename_i hs; rw [hs] at h; exact absurd rfl h
 · rfl
theorem rdLa_nofoot {s n ft q p : ByteArray} (h : splC 32 s = [n, ft, q, p]) (hf : rdFo ft = none) : rdLa s = none := by
 unfold rdLa
 rw [h]
 simp only [hf]
theorem rdLa_four {s n ft q p : ByteArray} {f : Foot} (h : splC 32 s = [n, ft, q, p]) (hf : rdFo ft = some f) : rdLa s = if (decide (q = wPitch) && okB p && lastB (mkL n f p)) = true then some (mkL n f p) else none := by
 unfold rdLa
 rw [h]
 simp only [hf]
theorem lasT_mk {s n ft p : ByteArray} {f : Foot} (h : splC 32 s = [n, ft, wPitch, p]) (hf : rdFo ft = some f) (hp : okB p = true) : lasT (mkL n f p) = s := by
 apply ba_ext
 have h4 := (okN_iff.1 hp).2.2.2
 rw [splC_inter h, lasT_data, mkL_foot, (rdFo_some hf).1]
 simp only [mkL, numV_yes hp, h4, List.map_cons, List.map_nil]
theorem ltB_mk {s n ft q p : ByteArray} {f : Foot} (h : splC 32 s = [n, ft, q, p]) (hf : rdFo ft = some f) (hp : okB p = true) : decide (ltB (mkL n f p) = s) = (decide (q = wPitch) && lastB (mkL n f p)) := by
 cases hl : lastB (mkL n f p)
 · rw [ltB_no hl, Bool.and_false]
   apply decide_eq_false
   intro e
   rw [← e, splC_nil] at h
   cases h
 · rw [ltB_yes hl, Bool.and_true]
   by_cases hq : q = wPitch
   · subst hq
     rw [decide_eq_true rfl]
     exact decide_eq_true (lasT_mk h hf hp)
   · rw [decide_eq_false hq]
     apply decide_eq_false
     intro e
     have h2 := splC_last hl
     rw [e, h] at h2
     injection h2 with _ h2
     injection h2 with _ h2
     injection h2 with h3 _
     exact hq h3
theorem rdLa_some {s : ByteArray} {x : Last} (h : rdLa s = some x) : lasT x = s ∧ lastB x = true := by
 unfold rdLa at h
 split at h
 · rename_i n ft q p hs
   split at h
   · rename_i f hf
     split at h
     · rename_i hc
       simp only [Bool.and_eq_true, decide_eq_true_eq] at hc
       obtain ⟨⟨h1, h2⟩, h3⟩ := hc
       subst h1
       injection h with h
       subst h
       exact ⟨lasT_mk hs hf h2, h3⟩
     · cases h
   · cases h
 · cases h
def chW (k : Int) : ByteArray := if k = 1 then ⟨#[108, 101, 110, 103, 116, 104]⟩ else if k = 2 then ⟨#[98, 97, 108, 108]⟩ else if k = 3 then ⟨#[105, 110, 115, 116, 101, 112]⟩ else if k = 4 then ⟨#[104, 101, 101, 108]⟩ else if k = 5 then ⟨#[112, 105, 116, 99, 104]⟩ else ⟨#[]⟩
def chK (p : ByteArray) : Int := if p = chW 1 then 1 else if p = chW 2 then 2 else if p = chW 3 then 3 else if p = chW 4 then 4 else if p = chW 5 then 5 else 0
def mostK (k : Int) : Int := if k = 1 then 200 else if k = 2 ∨ k = 3 ∨ k = 4 then 300 else if k = 5 then 150 else 0
def chgB (k a : Int) : Bool := decide (0 < mostK k) && (decide (a ≠ 0) && inB a (-mostK k) (mostK k))
theorem chgB_bd {k a : Int} (h : chgB k a = true) : 1 ≤ k ∧ k ≤ 5 ∧ a ≠ 0 ∧ -300 ≤ a ∧ a ≤ 300 := by
 unfold chgB mostK at h
 simp only [Bool.and_eq_true, decide_eq_true_eq, inB_iff] at h
 obtain ⟨h0, h1, h2, h3⟩ := h
 repeat' split at h0
 all_goals (repeat' split at h2)
 all_goals (repeat' split at h3)
 all_goals omega
theorem chK_word {k : Int} (h1 : 1 ≤ k) (h5 : k ≤ 5) : chK (chW k) = k := by
 rcases (show k = 1 ∨ k = 2 ∨ k = 3 ∨ k = 4 ∨ k = 5 by omega) with rfl | rfl | rfl | rfl | rfl <;> decide
theorem chW_kind {p : ByteArray} (h : 1 ≤ chK p) : chW (chK p) = p := by
 unfold chK at h ⊢
 repeat' split
 all_goals first | (rename_i e; exact e.symm) | (simp_all; done) | omega
theorem chW_free (k : Int) : (32 : UInt8) ∉ (chW k).data.toList := by
 unfold chW
 repeat' split
 all_goals decide
def chT (k a : Int) : ByteArray := if chgB k a = true then (if 0 < a then ((chW k ++ ⟨#[32, 43]⟩) ++ decI a) else ((chW k ++ ⟨#[32]⟩) ++ decI a)) else ⟨#[]⟩
def chN (c : UInt8) (r : List UInt8) : Int := if c = 45 then -(numL r) else numL r
def rdCh (s : ByteArray) : Option (Int × Int) := match splC 32 s with
 | [p, q] => (match q.data.toList with
   | c :: r => if (decide (c = 43 ∨ c = 45) && okN r && inB (numL r) 1 300 && chgB (chK p) (chN c r)) = true then some (chK p, chN c r) else none
   | [] => none)
 | _ => none
theorem itoa_negC {n : Int} (h : 0 ≤ n) : Lib.itoa (-n) = if n = 0 then Lib.itoa 0 else 45 :: Lib.itoa n := by
 by_cases h0 : n = 0
 · subst h0; rfl
 · rw [if_neg h0]
   unfold Lib.itoa
   rw [if_pos (by omega), if_neg (by omega)]
   congr 2
   omega
theorem chT_data {k a : Int} (h : chgB k a = true) : (chT k a).data.toList = [32].intercalate [(chW k).data.toList, (if 0 < a then 43 else 45) :: Lib.itoa a.natAbs] := by
 obtain ⟨_, _, h0, _, _⟩ := chgB_bd h
 unfold chT
 rw [if_pos h]
 by_cases hp : 0 < a
 · rw [if_pos hp, if_pos hp]
   have : ((a.natAbs : Nat) : Int) = a := by omega
   simp only [bytes_app, dec_data, this]
   simp [List.intercalate]
 · rw [if_neg hp, if_neg hp]
   have e : a = -((a.natAbs : Nat) : Int) := by omega
   have h2 := itoa_negC (n := ((a.natAbs : Nat) : Int)) (by omega)
   rw [if_neg (by omega), ← e] at h2
   simp only [bytes_app, dec_data, h2]
   simp [List.intercalate]
theorem rdCh_text {k a : Int} (h : chgB k a = true) : rdCh (chT k a) = some (k, a) := by
 obtain ⟨h1, h5, h0, hl, hu⟩ := chgB_bd h
 have hs : splC 32 (chT k a) = [chW k, ⟨((if 0 < a then 43 else 45) :: Lib.itoa a.natAbs).toArray⟩] := by
   refine splC_of_inter (by simp) ?_ ?_
   · intro p hp
     simp only [List.mem_cons, List.not_mem_nil, or_false] at hp
     rcases hp with rfl | rfl
     · exact chW_free k
     · simp only [List.mem_cons, not_or]
       exact ⟨by split <;> decide, itoa_free _⟩
   · rw [chT_data h]; rfl
 unfold rdCh
 rw [hs]
 simp only []
 have e1 : numL (Lib.itoa ((a.natAbs : Nat) : Int)) = (a.natAbs : Nat) := (itoa_bare _).2
 have e2 : okN (Lib.itoa ((a.natAbs : Nat) : Int)) = true := okN_itoa (by omega) (by omega)
 rw [chK_word h1 h5, e1, e2]
 by_cases hp : 0 < a
 · have ea : chN 43 (Lib.itoa ((a.natAbs : Nat) : Int)) = a := by unfold chN; rw [if_neg (by decide), e1]; omega
   rw [if_pos hp, ea, h, inB_true (by omega) (by omega)]
   rfl
 · have ea : chN 45 (Lib.itoa ((a.natAbs : Nat) : Int)) = a := by unfold chN; rw [if_pos rfl, e1]; omega
   rw [if_neg hp, ea, h, inB_true (by omega) (by omega)]
   rfl
theorem rdCh_some {s : ByteArray} {k a : Int} (h : rdCh s = some (k, a)) : chT k a = s ∧ chgB k a = true := by
 unfold rdCh at h
 split at h
 · rename_i p q hs
   split at h
   · rename_i c r hq
     split at h
     · rename_i hc
       simp only [Bool.and_eq_true, decide_eq_true_eq, inB_iff] at hc
       obtain ⟨⟨⟨h1, h2⟩, h3, h4⟩, h5⟩ := hc
       injection h with h
       injection h with hk ha
       subst hk
       rw [ha] at h5
       unfold chN at ha
       refine ⟨?_, h5⟩
       have h6 := (okN_iff.1 h2).2.2.2
       obtain ⟨k1, _, _⟩ := chgB_bd h5
       apply ba_ext
       rw [chT_data h5, splC_inter hs, chW_kind k1]
       simp only [List.map_cons, List.map_nil, hq]
       congr 3
       rcases h1 with rfl | rfl
       · rw [if_neg (by decide)] at ha
         have e : ((a.natAbs : Nat) : Int) = numL r := by omega
         rw [if_pos (by omega), e, h6]
       · rw [if_pos rfl] at ha
         have e : ((a.natAbs : Nat) : Int) = numL r := by omega
         rw [if_neg (by omega), e, h6]
     · cases h
   · cases h
 · cases h
end Go.Proofs.YtpiehlfffjhoaaaGreatDoor
