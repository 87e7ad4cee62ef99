/- Lemmas for the law on the console: the parts CoK, CoL. -/
import Derived.Test.YtpiehlfffjhoaaaGreatDoorQ0
import Derived.Test.YtpiehlfffjhoaaaGreatDoorQ34
import Derived.Test.YtpiehlfffjhoaaaGreatDoorQ38
import Derived.Test.YtpiehlfffjhoaaaGreatDoorQ31
import Derived.Test.YtpiehlfffjhoaaaGreatDoorQ25
import Derived.Test.YtpiehlfffjhoaaaGreatDoorQ35
import Derived.Test.YtpiehlfffjhoaaaGreatDoorQ37
import Derived.Test.YtpiehlfffjhoaaaGreatDoorQ39
import Derived.Test.YtpiehlfffjhoaaaGreatDoorQ40
namespace Go.Proofs.YtpiehlfffjhoaaaGreatDoor
open Go.RowKit
set_option maxHeartbeats 2000000 in
theorem numbersText0_c (sp : ByteArray) (B : Option Addr) (d : Nat) (w : World) : Calls Tryz.prog 77 #[.string sp, .slice B 0 d] w (Ret (.string ⟨#[]⟩) w) := by
 go_enter Tryz.func77, Tryz.ntmps77
 go_wp2_with fail
 have hv1 := bl_alloc (Below.refl w.heap.size w) (.cells #[] 9)
 have HJ := qH (fun a w => Tryz.strings_Join_none a 0 sp w)
 go_loopw [5, 11] (fun v i wr => ∃ g : Nat, i = .int .i64 0 ∧ v = .slice (some ⟨g, 0, none⟩) 0 0 ∧ Below w.heap.size w wr) (fun _ i _ => 0)
 case atStart => exact ⟨_, rfl, rfl, hv1⟩
 case round =>
   obtain ⟨g, rfl, rfl, hv⟩ := hrel
   go_wp2_with fail
   refine (HJ.out _ _).mono ?_
   rintro e W3 ⟨rfl, rfl⟩
   go_wp2_with fail
   go_returns
   exact Ret.mk rfl hv
theorem OutX.bad {w0 w' : World} {gd k d : Nat} {B : Option Addr} {r : ResD} {c : Int} (hc : r.2.2 = c) (h0 : c ≠ 0) (hb : Below w0.heap.size w0 w') : OutX w0 gd r (.returned (.tuple #[.slice B k d, .int .i64 c])) w' := by
 subst hc
 exact ⟨B, k, d, rfl, hb, fun h => absurd h h0⟩
set_option maxRecDepth 100000 in
set_option maxHeartbeats 8000000 in
theorem exe_raise (w0 w : World) (gd ga : Nat) (f : Foot) (xs : List Last) (s : Style) (lg : ByteArray) (n c : Nat) (A An : Option Addr) (ws : List ByteArray) (ns : List Int) (nw kn cn : Nat) (h : XIn w0 w gd ga f xs s lg n c A An ws ns nw kn) (hk : nthD ws 0 = kRaise) (h2 : 2 ≤ nw) (gn : Nat) (hAn : An = some ⟨gn, 0, none⟩) (h4 : kn = 4) :
   Calls Tryz.prog 35 #[.pointer (some ⟨gd, 0, none⟩), .slice (some ⟨ga, 0, none⟩) nw nw, .slice An kn cn] w (OutX w0 gd (raiseD ⟨f, xs, s, lg⟩ (numD ns 0) (numD ns 1) (numD ns 2) (numD ns 3))) := by
 have HBW := qH h.hbw
 have HWS := qH h.hws
 have HD : Hid (Blk w gd 32 #[.int .i64 f.length, .int .i64 f.ball, .int .i64 f.instep, .int .i64 f.heel, .slice A n c, .string s.upper, .string s.color, .string s.lining, .string s.sole, .int .i64 s.thick, .int .i64 s.heel, .int .i64 s.eyelets, .int .i64 s.density, .bool s.double, .string lg]) := qH h.hdk
 have HO := qH h.hown
 have HNE := qH h.hne
 have HT := qH h.htabs
 have HCN := qH h.hchg
 have HOK := qH h.hok
 have HSZ := qH h.hsz
 have hn := h.hn
 have hnw := h.hnw
 have hkn := h.hkn
 have hgd := h.hgd
 have hn30 := h.n30
 have hnw0 := h.nw0
 have hnw1 := h.nw1
 have HJ := qH (h.join)
 have hx0 := h.word0 hk
 have HK := qH hk
 have n0 := h.numO hAn (k := 0) (by omega)
 have n1 := h.numO hAn (k := 1) (by omega)
 have n2 := h.numO hAn (k := 2) (by omega)
 have n3 := h.numO hAn (k := 3) (by omega)
 subst h4
 subst hAn
 clear h hk
 have hl1 : (1 : Int) ≤ (nw : Int) := by omega
 have hl2 : ¬ (nw - 1 = 0) := by omega
 have hl0 : (0 : Int) < (nw : Int) := by omega
 have hx1 : w.cell? ⟨ga, 0, none⟩ = some (.string ⟨#[114, 97, 105, 115, 101]⟩) := hx0
 clear hx0
 go_enter Tryz.func35, Tryz.ntmps35
 go_wp2_with fail
 refine HJ.out.mono ?_
 rintro e W ⟨rfl, hb⟩
 obtain ⟨rt, hrt⟩ : ∃ z, z = restD ws := ⟨_, rfl⟩
 have HRT := qH hrt
 rw [← hrt]
 clear hrt HJ
 replace HBW := qH (bl_trans HBW.out hb)
 replace HD := qH (HD.out.below hb)
 replace HO := qH (own_below HO.out hb)
 replace hx1 := bl_cell hb hx1
 replace n0 := bl_cell hb n0
 replace n1 := bl_cell hb n1
 replace n2 := bl_cell hb n2
 replace n3 := bl_cell hb n3
 clear hb
 clear hl1 hl2
 obtain ⟨v0, hv0⟩ : ∃ z, z = numD ns 0 := ⟨_, rfl⟩
 rw [← hv0] at n0
 have HV0 := qH hv0
 clear hv0
 obtain ⟨v1, hv1⟩ : ∃ z, z = numD ns 1 := ⟨_, rfl⟩
 rw [← hv1] at n1
 have HV1 := qH hv1
 clear hv1
 obtain ⟨v2, hv2⟩ : ∃ z, z = numD ns 2 := ⟨_, rfl⟩
 rw [← hv2] at n2
 have HV2 := qH hv2
 clear hv2
 obtain ⟨v3, hv3⟩ : ∃ z, z = numD ns 3 := ⟨_, rfl⟩
 rw [← hv3] at n3
 have HV3 := qH hv3
 clear hv3
 have HRF := fun w => RaiseFor_c v0 v1 v2 v3 w
 have HFD : raiseD ⟨f, xs, s, lg⟩ v0 v1 v2 v3 = if (raiP v0 v1 v2 v3).2 = 0 then (⟨f, xs, s, lg⟩, [rowD (raiP v0 v1 v2 v3).1], 0) else (⟨f, xs, s, lg⟩, [], (raiP v0 v1 v2 v3).2) := rfl
 have HBD := rai_bd v0 v1 v2 v3
 have HYN : ((raiP v0 v1 v2 v3).2 = 0 ∧ (raiP v0 v1 v2 v3).1.length = 3) ∨ (¬ (raiP v0 v1 v2 v3).2 = 0 ∧ (raiP v0 v1 v2 v3).1 = []) := by
   unfold raiP
   split
   · split
     · exact .inr ⟨by simp, rfl⟩
     · exact .inl ⟨rfl, rfl⟩
   · exact .inr ⟨by simp, rfl⟩
 obtain ⟨r, hr⟩ : ∃ z, z = raiP v0 v1 v2 v3 := ⟨_, rfl⟩
 rw [← hr] at HRF HFD HBD HYN
 clear hr
 obtain ⟨ps, co⟩ := r
 dsimp only at HRF HFD HBD HYN
 have HP := qH HBD
 have HQ := qH HYN
 replace HRF := qH HRF
 replace HFD := qH HFD
 clear HBD HYN
 go_upto_region 61 with fail
 refine wp_region_held_drew (S := fun w' => Below W.heap.size W w' ∧ True) (by as_aux_lemma => kernel_rfl) ?_ (fun hHeld => ?_)
 · exact ⟨(Below.refl _ _).drew, trivial⟩
 have hd9 := hHeld.1
 refine zU 0 260 rfl (by assumption) ?_
 try simp only [Act.put, zA, zB, zC]
 refine zU 1 261 rfl (by assumption) ?_
 try simp only [Act.put, zA, zB, zC]
 refine zT 2 262 ?_ rfl ?_ (by assumption) ?_
 rotate_left
 · intro w hSw
   try dsimp only at hSw
   have x_n0 := bl_cell hSw.1 n0
   go_simp
   try with_reducible rfl
 try simp only [Act.put, zA, zB, zC]
 refine zU 3 263 rfl (by assumption) ?_
 try simp only [Act.put, zA, zB, zC]
 refine zU 4 264 rfl (by assumption) ?_
 try simp only [Act.put, zA, zB, zC]
 refine zT 5 265 ?_ rfl ?_ (by assumption) ?_
 rotate_left
 · intro w hSw
   try dsimp only at hSw
   have x_n1 := bl_cell hSw.1 n1
   go_simp
   try with_reducible rfl
 try simp only [Act.put, zA, zB, zC]
 refine zU 6 266 rfl (by assumption) ?_
 try simp only [Act.put, zA, zB, zC]
 refine zU 7 267 rfl (by assumption) ?_
 try simp only [Act.put, zA, zB, zC]
 refine zT 8 268 ?_ rfl ?_ (by assumption) ?_
 rotate_left
 · intro w hSw
   try dsimp only at hSw
   have x_n2 := bl_cell hSw.1 n2
   go_simp
   try with_reducible rfl
 try simp only [Act.put, zA, zB, zC]
 refine zU 9 269 rfl (by assumption) ?_
 try simp only [Act.put, zA, zB, zC]
 refine zU 10 270 rfl (by assumption) ?_
 try simp only [Act.put, zA, zB, zC]
 refine zT 11 271 ?_ rfl ?_ (by assumption) ?_
 rotate_left
 · intro w hSw
   try dsimp only at hSw
   have x_n3 := bl_cell hSw.1 n3
   go_simp
   try with_reducible rfl
 try simp only [Act.put, zA, zB, zC]
 refine zR 12 (some 272) rfl (fun K hK => ?_)
 go_simp
 (try dsimp only at hHeld); go_split_ands
 refine (HRF.out _).mono ?_
 rintro e V ⟨B, m, d, rfl, hm, hB, hb9⟩
 have HBA := qH hB
 have HM := qH hm
 replace hd9 := bl_trans hd9 hb9
 clear hb9 HRF hB hm
 go_wp2_with fail
 refine hK.out _ _ ?_ (fun hHeld => ?_)
 · (try dsimp only); go_split_ands; exact ⟨hd9, trivial⟩
 clear hK K
 try simp only [Act.put, zA, zB, zC]
 refine zU 13 259 rfl (by assumption) ?_
 try simp only [Act.put, zA, zB, zC]
 refine zU 14 273 rfl (by assumption) ?_
 try simp only [Act.put, zA, zB, zC]
 refine zU 15 274 rfl (by assumption) ?_
 try simp only [Act.put, zA, zB, zC]
 refine zU 16 32 rfl (by assumption) ?_
 try simp only [Act.put, zA, zB, zC]
 refine zU 17 33 rfl (by assumption) ?_
 try simp only [Act.put, zA, zB, zC]
 refine wpAnyH_done (by as_aux_lemma => kernel_rfl) ?_ _
 clear hHeld n0 n1 n2 n3
 have hb := hd9
 clear hd9
 replace HBW := qH (bl_trans HBW.out hb)
 replace HD := qH (HD.out.below hb)
 replace HO := qH (own_below HO.out hb)
 clear hb
 by_cases hc : co = 0
 case neg =>
   have HE := qH (HFD.out.trans (if_neg hc))
   obtain rfl : ps = [] := by
     rcases HQ.out with h | h
     · exact absurd h.1 hc
     · exact h.2
   obtain rfl : m = 0 := HM.out.symm
   have HN0 := qH (numbersText0_c ⟨#[32]⟩ B d V)
   go_wp2_with fail
   refine HN0.out.mono ?_
   rintro e V2 ⟨rfl, hb⟩
   go_wp2_with fail
   go_returns
   exact OutX.bad (by rw [← HV0.out, ← HV1.out, ← HV2.out, ← HV3.out, HE.out]) hc (bl_alloc (bl_trans HBW.out hb) _)
 subst hc
 have HE := qH (HFD.out.trans (if_pos rfl))
 obtain rfl : m = 3 := by
   rcases HQ.out with h | h
   · rw [← HM.out, h.2]
   · exact absurd rfl h.1
 have HRW : Hid (rowD ps = joinW ⟨#[32]⟩ (decL ps)) := qH rfl
 have HN3 := qH (numbersText_c ⟨#[32]⟩ (by decide) B ps 3 d HM (by omega) (by omega) (qH (fun v hv => by have := HP.out.2 v hv; omega)) V HBA.out (HT.out.below HBW.out))
 go_wp2_with fail
 refine HN3.out.mono ?_
 rintro e V2 ⟨rfl, hb⟩
 replace HBW := qH (bl_trans HBW.out hb)
 replace HD := qH (HD.out.below hb)
 replace HO := qH (own_below HO.out hb)
 clear hb
 go_wp2_with fail
 go_returns
 exact OutX.one (by rw [← HV0.out, ← HV1.out, ← HV2.out, ← HV3.out, HE.out, HRW.out]) hn.out HBW.out HO.out HD.out
set_option maxRecDepth 100000 in
set_option maxHeartbeats 8000000 in
theorem exe_enter (w0 w : World) (gd ga : Nat) (f : Foot) (xs : List Last) (s : Style) (lg : ByteArray) (n c : Nat) (A An : Option Addr) (ws : List ByteArray) (ns : List Int) (nw kn cn : Nat) (h : XIn w0 w gd ga f xs s lg n c A An ws ns nw kn) (hk : nthD ws 0 = kEnter) (_h2 : 2 ≤ nw) (gn : Nat) (hAn : An = some ⟨gn, 0, none⟩) (h3 : kn = 2) (h5 : 4 ≤ nw) :
   Calls Tryz.prog 35 #[.pointer (some ⟨gd, 0, none⟩), .slice (some ⟨ga, 0, none⟩) nw nw, .slice An kn cn] w (OutX w0 gd (enterD ⟨f, xs, s, lg⟩ (numD ns 0) (nthD ws 2) (numD ns 1))) := by
 have HBW := qH h.hbw
 have HWS := qH h.hws
 have HD : Hid (Blk w gd 32 #[.int .i64 f.length, .int .i64 f.ball, .int .i64 f.instep, .int .i64 f.heel, .slice A n c, .string s.upper, .string s.color, .string s.lining, .string s.sole, .int .i64 s.thick, .int .i64 s.heel, .int .i64 s.eyelets, .int .i64 s.density, .bool s.double, .string lg]) := qH h.hdk
 have HO := qH h.hown
 have HNE := qH h.hne
 have HT := qH h.htabs
 have HCN := qH h.hchg
 have HOK := qH h.hok
 have HSZ := qH h.hsz
 have hn := h.hn
 have hnw := h.hnw
 have hkn := h.hkn
 have hgd := h.hgd
 have hn30 := h.n30
 have hnw0 := h.nw0
 have hnw1 := h.nw1
 have HJ := qH (h.join)
 have hx0 := h.word0 hk
 have HK := qH hk
 obtain ⟨hfB, hlB, hsB, hcB⟩ := ok_parts h.hok
 have hlg := cdL_small hcB
 have HCB := qH hcB
 have n0 := h.numO hAn (k := 0) (by omega)
 have n1 := h.numO hAn (k := 1) (by omega)
 have w2 := h.word (k := 2) (by omega)
 have hwz := h.hsz (nthD ws 2)
 have hwm : nthD ws 2 ∈ ws := by
   unfold nthD
   have h3 : 2 < ws.length := by rw [h.hnw.out]; omega
   rw [List.getD_eq_getElem?_getD, List.getElem?_eq_getElem h3]
   exact List.getElem_mem h3
 replace hwz := hwz hwm
 clear hwm hfB hlB hsB hcB
 subst h3
 subst hAn
 clear h hk
 have hl1 : (1 : Int) ≤ (nw : Int) := by omega
 have hl2 : ¬ (nw - 1 = 0) := by omega
 have hl0 : (0 : Int) < (nw : Int) := by omega
 have hx1 : w.cell? ⟨ga, 0, none⟩ = some (.string ⟨#[101, 110, 116, 101, 114]⟩) := hx0
 clear hx0
 go_enter Tryz.func35, Tryz.ntmps35
 go_wp2_with fail
 refine HJ.out.mono ?_
 rintro e W ⟨rfl, hb⟩
 obtain ⟨rt, hrt⟩ : ∃ z, z = restD ws := ⟨_, rfl⟩
 have HRT := qH hrt
 rw [← hrt]
 clear hrt HJ
 replace HBW := qH (bl_trans HBW.out hb)
 replace HD := qH (HD.out.below hb)
 replace HO := qH (own_below HO.out hb)
 replace hx1 := bl_cell hb hx1
 replace n0 := bl_cell hb n0
 replace n1 := bl_cell hb n1
 replace w2 := bl_cell hb w2
 clear hb
 clear hl1 hl2
 have hl2 : (2 : Int) < (nw : Int) := by omega
 obtain ⟨v0, hv0⟩ : ∃ z, z = numD ns 0 := ⟨_, rfl⟩
 rw [← hv0] at n0
 obtain ⟨v1, hv1⟩ : ∃ z, z = numD ns 1 := ⟨_, rfl⟩
 rw [← hv1] at n1
 obtain ⟨nm, hv2⟩ : ∃ z, z = nthD ws 2 := ⟨_, rfl⟩
 rw [← hv2] at w2 hwz
 have HV0 := qH hv0
 have HV1 := qH hv1
 have HV2 := qH hv2
 clear hv0 hv1 hv2
 have HAE := fun w h => AddEntry_c lg (by omega) ⟨v0, nm, v1⟩ (by show nm.size ≤ _; omega) w h
 dsimp only at HAE
 have HFD : enterD ⟨f, xs, s, lg⟩ v0 nm v1 = if (addV lg ⟨v0, nm, v1⟩).2 = 0 then (⟨f, xs, s, (addV lg ⟨v0, nm, v1⟩).1⟩, [decI (valV (addV lg ⟨v0, nm, v1⟩).1 nm).sum], 0) else (⟨f, xs, s, lg⟩, [], (addV lg ⟨v0, nm, v1⟩).2) := rfl
 have HLA := qH (fun h => log_add (s := lg) (x := ⟨v0, nm, v1⟩) HCB.out h)
 obtain ⟨r, hr⟩ : ∃ z, z = addV lg ⟨v0, nm, v1⟩ := ⟨_, rfl⟩
 rw [← hr] at HAE HFD HLA
 clear hr
 obtain ⟨l2, co⟩ := r
 dsimp only at HAE HFD HLA
 replace HAE := qH HAE
 replace HFD := qH HFD
 have c14 : W.cell? ⟨gd, 14, none⟩ = some (.string lg) := HD.out.cell 14
 go_upto_region 64 with fail
 refine wp_region_held_drew (S := fun w' => Below W.heap.size W w' ∧ True) (by as_aux_lemma => kernel_rfl) ?_ (fun hHeld => ?_)
 · exact ⟨(Below.refl _ _).drew, trivial⟩
 have hd9 := hHeld.1
 refine zU 0 282 rfl (by assumption) ?_
 try simp only [Act.put, zA, zB, zC]
 refine zU 1 283 rfl (by assumption) ?_
 try simp only [Act.put, zA, zB, zC]
 refine zU 2 284 rfl (by assumption) ?_
 try simp only [Act.put, zA, zB, zC]
 refine zT 3 285 ?_ rfl ?_ (by assumption) ?_
 rotate_left
 · intro w hSw
   try dsimp only at hSw
   have x_c14 := bl_cell hSw.1 c14
   go_simp
   try with_reducible rfl
 try simp only [Act.put, zA, zB, zC]
 refine zU 4 286 rfl (by assumption) ?_
 try simp only [Act.put, zA, zB, zC]
 refine zU 5 287 rfl (by assumption) ?_
 try simp only [Act.put, zA, zB, zC]
 refine zT 6 288 ?_ rfl ?_ (by assumption) ?_
 rotate_left
 · intro w hSw
   try dsimp only at hSw
   have x_n0 := bl_cell hSw.1 n0
   go_simp
   try with_reducible rfl
 try simp only [Act.put, zA, zB, zC]
 refine zU 7 289 rfl (by assumption) ?_
 try simp only [Act.put, zA, zB, zC]
 refine zU 8 290 rfl (by assumption) ?_
 try simp only [Act.put, zA, zB, zC]
 refine zT 9 291 ?_ rfl ?_ (by assumption) ?_
 rotate_left
 · intro w hSw
   try dsimp only at hSw
   have x_w2 := bl_cell hSw.1 w2
   go_simp
   try with_reducible rfl
 try simp only [Act.put, zA, zB, zC]
 refine zU 10 292 rfl (by assumption) ?_
 try simp only [Act.put, zA, zB, zC]
 refine zU 11 293 rfl (by assumption) ?_
 try simp only [Act.put, zA, zB, zC]
 refine zT 12 294 ?_ rfl ?_ (by assumption) ?_
 rotate_left
 · intro w hSw
   try dsimp only at hSw
   have x_n1 := bl_cell hSw.1 n1
   go_simp
   try with_reducible rfl
 try simp only [Act.put, zA, zB, zC]
 refine zU 13 295 rfl (by assumption) ?_
 try simp only [Act.put, zA, zB, zC]
 refine zR 14 (some 296) rfl (fun K hK => ?_)
 go_simp
 (try dsimp only at hHeld); go_split_ands
 refine (HAE.out _ (HT.out.below (bl_trans HBW.out hd9))).mono ?_
 rintro e V ⟨rfl, hb9⟩
 replace hd9 := bl_trans hd9 hb9
 clear hb9 HAE
 go_wp2_with fail
 refine hK.out _ _ ?_ (fun hHeld => ?_)
 · (try dsimp only); go_split_ands; exact ⟨hd9, trivial⟩
 clear hK K
 try simp only [Act.put, zA, zB, zC]
 refine zU 15 281 rfl (by assumption) ?_
 try simp only [Act.put, zA, zB, zC]
 refine zU 16 297 rfl (by assumption) ?_
 try simp only [Act.put, zA, zB, zC]
 refine zU 17 298 rfl (by assumption) ?_
 try simp only [Act.put, zA, zB, zC]
 refine zU 18 34 rfl (by assumption) ?_
 try simp only [Act.put, zA, zB, zC]
 refine zU 19 35 rfl (by assumption) ?_
 try simp only [Act.put, zA, zB, zC]
 refine wpAnyH_done (by as_aux_lemma => kernel_rfl) ?_ _
 clear hHeld c14 n0 n1
 have hb := hd9
 clear hd9
 replace w2 := bl_cell hb w2
 replace HBW := qH (bl_trans HBW.out hb)
 replace HD := qH (HD.out.below hb)
 replace HO := qH (own_below HO.out hb)
 clear hb
 by_cases hc : co = 0
 case neg =>
   have HE := qH (HFD.out.trans (if_neg hc))
   go_wp2_with fail
   go_returns
   exact OutX.no (by rw [← HV0.out, ← HV1.out, ← HV2.out, HE.out]) hc HBW.out
 subst hc
 have HE := qH (HFD.out.trans (if_pos rfl))
 obtain ⟨e1, e2, e3, e4⟩ := HLA.out rfl
 have hnm : nameB nm = true := by
   unfold entB at e3
   simp only [Bool.and_eq_true] at e3
   exact e3.1.2
 have hcw : cdW l2 nm = 0 := cdW_ok e1 hnm
 have HVO := fun w h => ValuesOf_c l2 nm (by omega) (by omega) w h
 rw [hcw] at HVO
 obtain ⟨b1, b2⟩ := valV_bd l2 nm
 obtain ⟨vs, hvs⟩ : ∃ z, z = valV l2 nm := ⟨_, rfl⟩
 rw [← hvs] at HVO b1 b2 HE
 have hsm := sum_bd vs b2
 obtain ⟨vn, hvn⟩ : ∃ z, z = vs.length := ⟨_, rfl⟩
 rw [← hvn] at HVO b1 hsm
 have HVN : Hid (vs.length = vn) := qH hvn.symm
 have HB2 := qH b2
 replace HVO := qH HVO
 obtain ⟨sm, hsme⟩ : ∃ z, z = vs.sum := ⟨_, rfl⟩
 rw [← hsme] at hsm HE
 have HSM := qH hsme
 clear e1 e2 e3 hnm hcw hvs hvn b2 hsme HLA HFD
 have c14 : V.cell? ⟨gd, 14, none⟩ = some (.string lg) := HD.out.cell 14
 have f14 : V.frozen? ⟨gd, 14, none⟩ = false := HD.out.frozen 14
 have HD5 : Hid (Blk (V.setCell ⟨gd, 14, none⟩ (.string l2)) gd 32 #[.int .i64 f.length, .int .i64 f.ball, .int .i64 f.instep, .int .i64 f.heel, .slice A n c, .string s.upper, .string s.color, .string s.lining, .string s.sole, .int .i64 s.thick, .int .i64 s.heel, .int .i64 s.eyelets, .int .i64 s.density, .bool s.double, .string l2]) := qH (HD.out.set_ 14 _)
 have HO5 := qH (own_far HO.out (p := ⟨gd, 14, none⟩) HNE.out (.string l2))
 have HBW5 := qH (bl_set HBW.out (p := ⟨gd, 14, none⟩) hgd (.string l2))
 have hwl := block_lt_of_cell w2
 go_upto_region 68 with fail
 obtain ⟨V2, hV2⟩ : ∃ z, z = V.setCell ⟨gd, 14, none⟩ (.string l2) := ⟨_, rfl⟩
 have w2' : V2.cell? ⟨ga, 2, none⟩ = some (.string nm) := by
   rw [hV2]
   exact (World.cell?_setCell_other V ⟨gd, 14, none⟩ ⟨ga, 2, none⟩ (.string l2) (by simp)).trans w2
 rw [← hV2] at HD5 HO5 HBW5 ⊢
 clear hV2 f14 c14 HO HD HBW w2 hwl
 have c14 : V2.cell? ⟨gd, 14, none⟩ = some (.string l2) := HD5.out.cell 14
 refine wp_region_held_drew (S := fun w' => Below V2.heap.size V2 w' ∧ True) (by as_aux_lemma => kernel_rfl) ?_ (fun hHeld => ?_)
 · exact ⟨(Below.refl _ _).drew, trivial⟩
 have hd9 := hHeld.1
 refine zU 0 307 rfl (by assumption) ?_
 try simp only [Act.put, zA, zB, zC]
 refine zU 1 308 rfl (by assumption) ?_
 try simp only [Act.put, zA, zB, zC]
 refine zU 2 309 rfl (by assumption) ?_
 try simp only [Act.put, zA, zB, zC]
 refine zT 3 310 ?_ rfl ?_ (by assumption) ?_
 rotate_left
 · intro w hSw
   try dsimp only at hSw
   have x_c14 := bl_cell hSw.1 c14
   go_simp
   try with_reducible rfl
 try simp only [Act.put, zA, zB, zC]
 refine zU 4 311 rfl (by assumption) ?_
 try simp only [Act.put, zA, zB, zC]
 refine zU 5 312 rfl (by assumption) ?_
 try simp only [Act.put, zA, zB, zC]
 refine zT 6 313 ?_ rfl ?_ (by assumption) ?_
 rotate_left
 · intro w hSw
   try dsimp only at hSw
   have x_w2 := bl_cell hSw.1 w2'
   go_simp
   try with_reducible rfl
 try simp only [Act.put, zA, zB, zC]
 refine zR 7 (some 314) rfl (fun K hK => ?_)
 go_simp
 (try dsimp only at hHeld); go_split_ands
 refine (HVO.out _ (HT.out.below (bl_trans HBW5.out hd9))).mono ?_
 rintro e V3 ⟨B, d, rfl, hown, hb9⟩
 have HBA := qH (Arr.own hown)
 replace hd9 := bl_trans hd9 hb9
 clear hb9 HVO hown
 go_wp2_with fail
 refine hK.out _ _ ?_ (fun hHeld => ?_)
 · (try dsimp only); go_split_ands; exact ⟨hd9, trivial⟩
 clear hK K
 try simp only [Act.put, zA, zB, zC]
 refine zU 8 306 rfl (by assumption) ?_
 try simp only [Act.put, zA, zB, zC]
 refine zU 9 315 rfl (by assumption) ?_
 try simp only [Act.put, zA, zB, zC]
 refine zU 10 316 rfl (by assumption) ?_
 try simp only [Act.put, zA, zB, zC]
 refine zU 11 36 rfl (by assumption) ?_
 try simp only [Act.put, zA, zB, zC]
 refine zU 12 35 rfl (by assumption) ?_
 try simp only [Act.put, zA, zB, zC]
 refine wpAnyH_done (by as_aux_lemma => kernel_rfl) ?_ _
 clear hHeld c14 w2'
 have HD := qH (HD5.out.below hd9)
 have HO := qH (own_below HO5.out hd9)
 have HBW := qH (bl_trans HBW5.out hd9)
 clear HD5 HO5 HBW5 hd9
 have HS := qH (sumOf_c B vs vn d HVN (by omega) (qH (fun v hv => by have := HB2.out v hv; omega)) V3 HBA.out)
 rw [← HSM.out] at HS
 go_wp2_with fail
 refine HS.out.mono ?_
 rintro e V4 ⟨rfl, hb⟩
 replace HBW := qH (bl_trans HBW.out hb)
 replace HD := qH (HD.out.below hb)
 replace HO := qH (own_below HO.out hb)
 clear hb
 have HDC := qH (fun h => DecimalI_c sm (by omega) (by omega) V4 h)
 go_wp2_with fail
 refine (HDC.out (HT.out.below HBW.out).pow).mono ?_
 rintro e V5 ⟨rfl, hb⟩
 replace HBW := qH (bl_trans HBW.out hb)
 replace HD := qH (HD.out.below hb)
 replace HO := qH (own_below HO.out hb)
 clear hb
 go_wp2_with fail
 go_returns
 exact OutX.one (by rw [← HV0.out, ← HV1.out, ← HV2.out, HE.out]) hn.out HBW.out HO.out HD.out
theorem numsD_len (ws : List ByteArray) : ∀ (l : List UInt8) (k : Nat) (ns : List Int), numsD ws l k = some ns → ns.length = l.count 110
 | [], k, ns, h => by rw [numsD] at h; injection h with h; subst h; rfl
 | c :: r, k, ns, h => by
   rw [numsD] at h
   by_cases hc : c = 110
   · rw [if_pos hc] at h
     split at h
     · cases hr : numsD ws r (k + 1) with
       | none => rw [hr] at h; cases h
       | some m =>
         rw [hr] at h
         injection h with h
         subst h
         rw [List.length_cons, numsD_len ws r _ m hr, hc, List.count_cons_self]
     · cases h
   · rw [if_neg hc] at h
     rw [numsD_len ws r _ ns h, List.count_cons_of_ne hc]
theorem arityD_w {ws : List ByteArray} {fm : ByteArray} (h : arityD ws fm = true) : fm.size + 1 ≤ ws.length ∧ (fm = ⟨#[43]⟩ ∨ ws.length ≤ fm.size + 1) := by
 unfold arityD at h
 simp only [Bool.and_eq_true, Bool.or_eq_true, decide_eq_true_eq] at h
 exact h
theorem exeD_foot {d : Dk} {ws : List ByteArray} {ns : List Int} (h : nthD ws 0 = kFoot) : exeD d ws ns = footD d (restD ws) := by
 unfold exeD
 rw [h, if_pos rfl]
theorem formD_foot : formD kFoot = ⟨#[119]⟩ := by
 unfold formD
 rw [if_pos rfl]
theorem exeD_last {d : Dk} {ws : List ByteArray} {ns : List Int} (h : nthD ws 0 = kLast) : exeD d ws ns = lastD' d (restD ws) := by
 unfold exeD
 rw [h, if_neg (by decide : ¬ kLast = kFoot), if_pos rfl]
theorem formD_last : formD kLast = ⟨#[43]⟩ := by
 unfold formD
 rw [if_neg (by decide : ¬ kLast = kFoot), if_neg (by decide : ¬ kLast = kNeed), if_pos rfl]
theorem exeD_lasts {d : Dk} {ws : List ByteArray} {ns : List Int} (h : nthD ws 0 = kLasts) : exeD d ws ns = lastsD d := by
 unfold exeD
 rw [h, if_neg (by decide : ¬ kLasts = kFoot), if_neg (by decide : ¬ kLasts = kLast), if_pos rfl]
theorem formD_lasts : formD kLasts = ⟨#[]⟩ := by
 unfold formD
 rw [if_neg (by decide : ¬ kLasts = kFoot), if_neg (by decide : ¬ kLasts = kNeed), if_neg (by decide : ¬ kLasts = kLast), if_neg (by decide : ¬ kLasts = kStyle), if_neg (by decide : ¬ kLasts = kClause), if_neg (by decide : ¬ kLasts = kFit), if_neg (by decide : ¬ kLasts = kAlter), if_neg (by decide : ¬ kLasts = kRaise), if_neg (by decide : ¬ kLasts = kEnter)]
theorem exeD_fit {d : Dk} {ws : List ByteArray} {ns : List Int} (h : nthD ws 0 = kFit) : exeD d ws ns = fitD d (numD ns 0) (numD ns 1) (numD ns 2) := by
 unfold exeD
 rw [h, if_neg (by decide : ¬ kFit = kFoot), if_neg (by decide : ¬ kFit = kLast), if_neg (by decide : ¬ kFit = kLasts), if_pos rfl]
theorem formD_fit : formD kFit = ⟨#[110, 110, 110]⟩ := by
 unfold formD
 rw [if_neg (by decide : ¬ kFit = kFoot), if_neg (by decide : ¬ kFit = kNeed), if_neg (by decide : ¬ kFit = kLast), if_neg (by decide : ¬ kFit = kStyle), if_neg (by decide : ¬ kFit = kClause), if_pos rfl]
theorem exeD_need {d : Dk} {ws : List ByteArray} {ns : List Int} (h : nthD ws 0 = kNeed) : exeD d ws ns = needD d (nthD ws 1) := by
 unfold exeD
 rw [h, if_neg (by decide : ¬ kNeed = kFoot), if_neg (by decide : ¬ kNeed = kLast), if_neg (by decide : ¬ kNeed = kLasts), if_neg (by decide : ¬ kNeed = kFit), if_pos rfl]
theorem formD_need : formD kNeed = ⟨#[119]⟩ := by
 unfold formD
 rw [if_neg (by decide : ¬ kNeed = kFoot), if_pos rfl]
theorem exeD_alter {d : Dk} {ws : List ByteArray} {ns : List Int} (h : nthD ws 0 = kAlter) : exeD d ws ns = alterD d (nthD ws 1) (nthD ws 2 ++ ⟨#[32]⟩ ++ nthD ws 3) := by
 unfold exeD
 rw [h, if_neg (by decide : ¬ kAlter = kFoot), if_neg (by decide : ¬ kAlter = kLast), if_neg (by decide : ¬ kAlter = kLasts), if_neg (by decide : ¬ kAlter = kFit), if_neg (by decide : ¬ kAlter = kNeed), if_pos rfl]
theorem formD_alter : formD kAlter = ⟨#[119, 119, 119]⟩ := by
 unfold formD
 rw [if_neg (by decide : ¬ kAlter = kFoot), if_neg (by decide : ¬ kAlter = kNeed), if_neg (by decide : ¬ kAlter = kLast), if_neg (by decide : ¬ kAlter = kStyle), if_neg (by decide : ¬ kAlter = kClause), if_neg (by decide : ¬ kAlter = kFit), if_pos rfl]
theorem exeD_style {d : Dk} {ws : List ByteArray} {ns : List Int} (h : nthD ws 0 = kStyle) : exeD d ws ns = styleD d (restD ws) := by
 unfold exeD
 rw [h, if_neg (by decide : ¬ kStyle = kFoot), if_neg (by decide : ¬ kStyle = kLast), if_neg (by decide : ¬ kStyle = kLasts), if_neg (by decide : ¬ kStyle = kFit), if_neg (by decide : ¬ kStyle = kNeed), if_neg (by decide : ¬ kStyle = kAlter), if_pos rfl]
theorem formD_style : formD kStyle = ⟨#[43]⟩ := by
 unfold formD
 rw [if_neg (by decide : ¬ kStyle = kFoot), if_neg (by decide : ¬ kStyle = kNeed), if_neg (by decide : ¬ kStyle = kLast), if_pos rfl]
theorem exeD_clause {d : Dk} {ws : List ByteArray} {ns : List Int} (h : nthD ws 0 = kClause) : exeD d ws ns = clauseD d (restD ws) := by
 unfold exeD
 rw [h, if_neg (by decide : ¬ kClause = kFoot), if_neg (by decide : ¬ kClause = kLast), if_neg (by decide : ¬ kClause = kLasts), if_neg (by decide : ¬ kClause = kFit), if_neg (by decide : ¬ kClause = kNeed), if_neg (by decide : ¬ kClause = kAlter), if_neg (by decide : ¬ kClause = kStyle), if_pos rfl]
theorem formD_clause : formD kClause = ⟨#[43]⟩ := by
 unfold formD
 rw [if_neg (by decide : ¬ kClause = kFoot), if_neg (by decide : ¬ kClause = kNeed), if_neg (by decide : ¬ kClause = kLast), if_neg (by decide : ¬ kClause = kStyle), if_pos rfl]
theorem exeD_raise {d : Dk} {ws : List ByteArray} {ns : List Int} (h : nthD ws 0 = kRaise) : exeD d ws ns = raiseD d (numD ns 0) (numD ns 1) (numD ns 2) (numD ns 3) := by
 unfold exeD
 rw [h, if_neg (by decide : ¬ kRaise = kFoot), if_neg (by decide : ¬ kRaise = kLast), if_neg (by decide : ¬ kRaise = kLasts), if_neg (by decide : ¬ kRaise = kFit), if_neg (by decide : ¬ kRaise = kNeed), if_neg (by decide : ¬ kRaise = kAlter), if_neg (by decide : ¬ kRaise = kStyle), if_neg (by decide : ¬ kRaise = kClause), if_pos rfl]
theorem formD_raise : formD kRaise = ⟨#[110, 110, 110, 110]⟩ := by
 unfold formD
 rw [if_neg (by decide : ¬ kRaise = kFoot), if_neg (by decide : ¬ kRaise = kNeed), if_neg (by decide : ¬ kRaise = kLast), if_neg (by decide : ¬ kRaise = kStyle), if_neg (by decide : ¬ kRaise = kClause), if_neg (by decide : ¬ kRaise = kFit), if_neg (by decide : ¬ kRaise = kAlter), if_pos rfl]
theorem exeD_enter {d : Dk} {ws : List ByteArray} {ns : List Int} (h : nthD ws 0 = kEnter) : exeD d ws ns = enterD d (numD ns 0) (nthD ws 2) (numD ns 1) := by
 unfold exeD
 rw [h, if_neg (by decide : ¬ kEnter = kFoot), if_neg (by decide : ¬ kEnter = kLast), if_neg (by decide : ¬ kEnter = kLasts), if_neg (by decide : ¬ kEnter = kFit), if_neg (by decide : ¬ kEnter = kNeed), if_neg (by decide : ¬ kEnter = kAlter), if_neg (by decide : ¬ kEnter = kStyle), if_neg (by decide : ¬ kEnter = kClause), if_neg (by decide : ¬ kEnter = kRaise), if_pos rfl]
theorem formD_enter : formD kEnter = ⟨#[110, 119, 110]⟩ := by
 unfold formD
 rw [if_neg (by decide : ¬ kEnter = kFoot), if_neg (by decide : ¬ kEnter = kNeed), if_neg (by decide : ¬ kEnter = kLast), if_neg (by decide : ¬ kEnter = kStyle), if_neg (by decide : ¬ kEnter = kClause), if_neg (by decide : ¬ kEnter = kFit), if_neg (by decide : ¬ kEnter = kAlter), if_neg (by decide : ¬ kEnter = kRaise), if_pos rfl]
theorem exeD_log {d : Dk} {ws : List ByteArray} {ns : List Int} (h : nthD ws 0 = kLog) : exeD d ws ns = logD d := by
 unfold exeD
 rw [h, if_neg (by decide : ¬ kLog = kFoot), if_neg (by decide : ¬ kLog = kLast), if_neg (by decide : ¬ kLog = kLasts), if_neg (by decide : ¬ kLog = kFit), if_neg (by decide : ¬ kLog = kNeed), if_neg (by decide : ¬ kLog = kAlter), if_neg (by decide : ¬ kLog = kStyle), if_neg (by decide : ¬ kLog = kClause), if_neg (by decide : ¬ kLog = kRaise), if_neg (by decide : ¬ kLog = kEnter)]
theorem formD_log : formD kLog = ⟨#[]⟩ := by
 unfold formD
 rw [if_neg (by decide : ¬ kLog = kFoot), if_neg (by decide : ¬ kLog = kNeed), if_neg (by decide : ¬ kLog = kLast), if_neg (by decide : ¬ kLog = kStyle), if_neg (by decide : ¬ kLog = kClause), if_neg (by decide : ¬ kLog = kFit), if_neg (by decide : ¬ kLog = kAlter), if_neg (by decide : ¬ kLog = kRaise), if_neg (by decide : ¬ kLog = kEnter)]
theorem memB_words {t : ByteArray} (h : memB t wordsD = true) : t = kAlter ∨ t = kClause ∨ t = kEnter ∨ t = kFit ∨ t = kFoot ∨ t = kLast ∨ t = kLasts ∨ t = kLog ∨ t = kNeed ∨ t = kRaise ∨ t = kStyle := by
 have hx := memB_iff.1 h
 unfold wordsD at hx
 simp only [List.mem_cons, List.not_mem_nil, or_false] at hx
 exact hx
theorem execute_c (w0 w : World) (gd ga : Nat) (f : Foot) (xs : List Last) (s : Style) (lg : ByteArray) (n c : Nat) (A An : Option Addr) (ws : List ByteArray) (ns : List Int) (nw kn cn : Nat) (h : XIn w0 w gd ga f xs s lg n c A An ws ns nw kn) (hi : isD ws = true) (hns : numsD ws (formD (nthD ws 0)).data.toList 1 = some ns) (hAn : 0 < kn → ∃ gn, An = some ⟨gn, 0, none⟩) :
   Calls Tryz.prog 35 #[.pointer (some ⟨gd, 0, none⟩), .slice (some ⟨ga, 0, none⟩) nw nw, .slice An kn cn] w (OutX w0 gd (exeD ⟨f, xs, s, lg⟩ ws ns)) := by
 have hkn := numsD_len _ _ _ _ hns
 rw [h.hkn.out] at hkn
 unfold isD at hi
 rw [Bool.and_eq_true] at hi
 obtain ⟨hm, har⟩ := hi
 obtain ⟨ha1, ha2⟩ := arityD_w har
 rw [h.hnw.out] at ha1 ha2
 clear har hns
 rcases memB_words hm with hk | hk | hk | hk | hk | hk | hk | hk | hk | hk | hk
 · rw [hk, formD_alter] at ha1 ha2 hkn
   rw [exeD_alter hk]
   have z1 : (⟨#[119, 119, 119]⟩ : ByteArray).size = 3 := rfl
   rw [z1] at ha1 ha2
   exact exe_alter w0 w gd ga f xs s lg n c A An ws ns nw kn cn h hk (by omega) (by omega)
 · rw [hk, formD_clause] at ha1 ha2 hkn
   rw [exeD_clause hk]
   have z1 : (⟨#[43]⟩ : ByteArray).size = 1 := rfl
   rw [z1] at ha1 ha2
   exact exe_clause w0 w gd ga f xs s lg n c A An ws ns nw kn cn h hk (by omega)
 · rw [hk, formD_enter] at ha1 ha2 hkn
   rw [exeD_enter hk]
   have z1 : (⟨#[110, 119, 110]⟩ : ByteArray).size = 3 := rfl
   rw [z1] at ha1 ha2
   have z2 : kn = 2 := hkn.trans (by decide)
   obtain ⟨gn, hA⟩ := hAn (by omega)
   exact exe_enter w0 w gd ga f xs s lg n c A An ws ns nw kn cn h hk (by omega) gn hA z2 (by omega)
 · rw [hk, formD_fit] at ha1 ha2 hkn
   rw [exeD_fit hk]
   have z1 : (⟨#[110, 110, 110]⟩ : ByteArray).size = 3 := rfl
   rw [z1] at ha1 ha2
   have z2 : kn = 3 := hkn.trans (by decide)
   obtain ⟨gn, hA⟩ := hAn (by omega)
   exact exe_fit w0 w gd ga f xs s lg n c A An ws ns nw kn cn h hk (by omega) gn hA z2
 · rw [hk, formD_foot] at ha1 ha2 hkn
   rw [exeD_foot hk]
   have z1 : (⟨#[119]⟩ : ByteArray).size = 1 := rfl
   rw [z1] at ha1 ha2
   exact exe_foot w0 w gd ga f xs s lg n c A An ws ns nw kn cn h hk (by omega)
 · rw [hk, formD_last] at ha1 ha2 hkn
   rw [exeD_last hk]
   have z1 : (⟨#[43]⟩ : ByteArray).size = 1 := rfl
   rw [z1] at ha1 ha2
   exact exe_last w0 w gd ga f xs s lg n c A An ws ns nw kn cn h hk (by omega)
 · rw [hk, formD_lasts] at ha1 ha2 hkn
   rw [exeD_lasts hk]
   have z1 : (⟨#[]⟩ : ByteArray).size = 0 := rfl
   rw [z1] at ha1 ha2
   have z3 : nw = 1 := by
     rcases ha2 with e | e
     · exact absurd e (by decide)
     · omega
   exact exe_lasts w0 w gd ga f xs s lg n c A An ws ns nw kn cn h hk z3
 · rw [hk, formD_log] at ha1 ha2 hkn
   rw [exeD_log hk]
   have z1 : (⟨#[]⟩ : ByteArray).size = 0 := rfl
   rw [z1] at ha1 ha2
   have z3 : nw = 1 := by
     rcases ha2 with e | e
     · exact absurd e (by decide)
     · omega
   exact exe_log w0 w gd ga f xs s lg n c A An ws ns nw kn cn h hk z3
 · rw [hk, formD_need] at ha1 ha2 hkn
   rw [exeD_need hk]
   have z1 : (⟨#[119]⟩ : ByteArray).size = 1 := rfl
   rw [z1] at ha1 ha2
   exact exe_need w0 w gd ga f xs s lg n c A An ws ns nw kn cn h hk (by omega)
 · rw [hk, formD_raise] at ha1 ha2 hkn
   rw [exeD_raise hk]
   have z1 : (⟨#[110, 110, 110, 110]⟩ : ByteArray).size = 4 := rfl
   rw [z1] at ha1 ha2
   have z2 : kn = 4 := hkn.trans (by decide)
   obtain ⟨gn, hA⟩ := hAn (by omega)
   exact exe_raise w0 w gd ga f xs s lg n c A An ws ns nw kn cn h hk (by omega) gn hA z2
 · rw [hk, formD_style] at ha1 ha2 hkn
   rw [exeD_style hk]
   have z1 : (⟨#[43]⟩ : ByteArray).size = 1 := rfl
   rw [z1] at ha1 ha2
   exact exe_style w0 w gd ga f xs s lg n c A An ws ns nw kn cn h hk (by omega)
end Go.Proofs.YtpiehlfffjhoaaaGreatDoor
