/- The console's commands fit and need (the program's). -/
import Derived.Test.YtpiehlfffjhoaaaGreatDoorQ0
import Derived.Test.YtpiehlfffjhoaaaGreatDoorQ34
import Derived.Test.YtpiehlfffjhoaaaGreatDoorQ38
namespace Go.Proofs.YtpiehlfffjhoaaaGreatDoor
open Go.RowKit
set_option maxRecDepth 100000 in
set_option maxHeartbeats 8000000 in
theorem exe_fit (w0 w : World) (gd ga : Nat) (f : Foot) (xs : List Last) (s : Style) (lg : ByteArray) (n c : Nat) (A An : Option Addr) (ws : List ByteArray) (ns : List Int) (nw kn cn : Nat) (h : XIn w0 w gd ga f xs s lg n c A An ws ns nw kn) (hk : nthD ws 0 = kFit) (h2 : 2 ≤ nw) (gn : Nat) (hAn : An = some ⟨gn, 0, none⟩) (h3 : kn = 3) :
   Calls Tryz.prog 35 #[.pointer (some ⟨gd, 0, none⟩), .slice (some ⟨ga, 0, none⟩) nw nw, .slice An kn cn] w (OutX w0 gd (fitD ⟨f, xs, s, lg⟩ (numD ns 0) (numD ns 1) (numD ns 2))) := by
 have HBW := qH h.hbw
 have HWS := qH h.hws
 have HD : Hid (Blk w gd 32 #[.int .i64 f.length, .int .i64 f.ball, .int .i64 f.instep, .int .i64 f.heel, .slice A n c, .string s.upper, .string s.color, .string s.lining, .string s.sole, .int .i64 s.thick, .int .i64 s.heel, .int .i64 s.eyelets, .int .i64 s.density, .bool s.double, .string lg]) := qH h.hdk
 have HO := qH h.hown
 have HNE := qH h.hne
 have HT := qH h.htabs
 have HCN := qH h.hchg
 have HOK := qH h.hok
 have HSZ := qH h.hsz
 have hn := h.hn
 have hnw := h.hnw
 have hkn := h.hkn
 have hgd := h.hgd
 have hn30 := h.n30
 have hnw0 := h.nw0
 have hnw1 := h.nw1
 have HJ := qH (h.join)
 have hx0 := h.word0 hk
 have HK := qH hk
 obtain ⟨hfB, hlB, hsB, hcB⟩ := ok_parts h.hok
 have HNZ : Hid (∀ x ∈ xs, x.name.size ≤ 9223372036854775807) := qH (fun x hx => Nat.le_trans (lastB_name (las_mem hlB x hx)) (by omega))
 have n0 := h.numO hAn (k := 0) (by omega)
 have n1 := h.numO hAn (k := 1) (by omega)
 have n2 := h.numO hAn (k := 2) (by omega)
 subst h3
 subst hAn
 clear h hk
 have hl1 : (1 : Int) ≤ (nw : Int) := by omega
 have hl2 : ¬ (nw - 1 = 0) := by omega
 have hl0 : (0 : Int) < (nw : Int) := by omega
 have hx1 : w.cell? ⟨ga, 0, none⟩ = some (.string ⟨#[102, 105, 116]⟩) := hx0
 clear hx0
 go_enter Tryz.func35, Tryz.ntmps35
 go_wp2_with fail
 refine HJ.out.mono ?_
 rintro e W ⟨rfl, hb⟩
 obtain ⟨rt, hrt⟩ : ∃ z, z = restD ws := ⟨_, rfl⟩
 have HRT := qH hrt
 rw [← hrt]
 clear hrt HJ
 replace HBW := qH (bl_trans HBW.out hb)
 replace HD := qH (HD.out.below hb)
 replace HO := qH (own_below HO.out hb)
 replace hx1 := bl_cell hb hx1
 replace n0 := bl_cell hb n0
 replace n1 := bl_cell hb n1
 replace n2 := bl_cell hb n2
 clear hb
 clear hl1 hl2
 obtain ⟨lo, hlo⟩ : ∃ z, z = numD ns 0 := ⟨_, rfl⟩
 obtain ⟨hi, hhi⟩ : ∃ z, z = numD ns 1 := ⟨_, rfl⟩
 obtain ⟨gi, hgi⟩ : ∃ z, z = numD ns 2 := ⟨_, rfl⟩
 rw [← hlo] at n0
 rw [← hhi] at n1
 rw [← hgi] at n2
 have HLO := qH hlo
 have HHI := qH hhi
 have HGI := qH hgi
 clear hlo hhi hgi
 have HBL := fun gw w h1 h2 => BestLast_c A xs n c f lo hi gi gw hn (by omega) HNZ w h1 h2
 have HFD : fitD ⟨f, xs, s, lg⟩ lo hi gi = if (bstP xs f lo hi gi).2 = 0 then (⟨f, xs, s, lg⟩, [((xs[(bstP xs f lo hi gi).1.toNat]?).getD zLast).name], 0) else (⟨f, xs, s, lg⟩, [], (bstP xs f lo hi gi).2) := rfl
 have HBZ := qH (fun h => bstP_zero (xs := xs) (f := f) (lo := lo) (hi := hi) (gi := gi) h)
 obtain ⟨r, hr⟩ : ∃ z, z = bstP xs f lo hi gi := ⟨_, rfl⟩
 rw [← hr] at HBL HFD HBZ
 clear hr
 obtain ⟨kv, co⟩ := r
 dsimp only at HBL HFD HBZ
 replace HBL := qH HBL
 replace HFD := qH HFD
 go_upto_region 27 with fail
 have c4 : W.cell? ⟨gd, 4, none⟩ = some (.slice A n c) := HD.out.cell 4
 have c0 : W.cell? ⟨gd, 0, none⟩ = some (.int .i64 f.length) := HD.out.cell 0
 have c1 : W.cell? ⟨gd, 1, none⟩ = some (.int .i64 f.ball) := HD.out.cell 1
 have c2 : W.cell? ⟨gd, 2, none⟩ = some (.int .i64 f.instep) := HD.out.cell 2
 have c3 : W.cell? ⟨gd, 3, none⟩ = some (.int .i64 f.heel) := HD.out.cell 3
 refine wp_region_held_drew (S := fun w' => Below W.heap.size W w' ∧ True) (by as_aux_lemma => kernel_rfl) ?_ (fun hHeld => ?_)
 · exact ⟨(Below.refl _ _).drew, trivial⟩
 have hd9 := hHeld.1
 refine zU 0 115 rfl (by assumption) ?_
 try simp only [Act.put, zA, zB, zC]
 refine zU 1 116 rfl (by assumption) ?_
 try simp only [Act.put, zA, zB, zC]
 refine zU 2 117 rfl (by assumption) ?_
 try simp only [Act.put, zA, zB, zC]
 refine zT 3 118 ?_ rfl ?_ (by assumption) ?_
 rotate_left
 · intro w hSw
   try dsimp only at hSw
   have x_c4 := bl_cell hSw.1 c4
   go_simp
   try with_reducible rfl
 try simp only [Act.put, zA, zB, zC]
 refine zU 4 119 rfl (by assumption) ?_
 try simp only [Act.put, zA, zB, zC]
 refine zU 5 120 rfl (by assumption) ?_
 try simp only [Act.put, zA, zB, zC]
 refine zU 6 121 rfl (by assumption) ?_
 try simp only [Act.put, zA, zB, zC]
 refine zT 7 122 ?_ rfl ?_ (by assumption) ?_
 rotate_left
 · intro w hSw
   try dsimp only at hSw
   have x_c0 := bl_cell hSw.1 c0
   have x_c1 := bl_cell hSw.1 c1
   have x_c2 := bl_cell hSw.1 c2
   have x_c3 := bl_cell hSw.1 c3
   go_simp
   try with_reducible rfl
 try simp only [Act.put, zA, zB, zC]
 refine zU 8 123 rfl (by assumption) ?_
 try simp only [Act.put, zA, zB, zC]
 refine zU 9 124 rfl (by assumption) ?_
 try simp only [Act.put, zA, zB, zC]
 refine zT 10 125 ?_ rfl ?_ (by assumption) ?_
 rotate_left
 · intro w hSw
   try dsimp only at hSw
   have x_n0 := bl_cell hSw.1 n0
   go_simp
   try with_reducible rfl
 try simp only [Act.put, zA, zB, zC]
 refine zU 11 126 rfl (by assumption) ?_
 try simp only [Act.put, zA, zB, zC]
 refine zU 12 127 rfl (by assumption) ?_
 try simp only [Act.put, zA, zB, zC]
 refine zT 13 128 ?_ rfl ?_ (by assumption) ?_
 rotate_left
 · intro w hSw
   try dsimp only at hSw
   have x_n1 := bl_cell hSw.1 n1
   go_simp
   try with_reducible rfl
 try simp only [Act.put, zA, zB, zC]
 refine zU 14 129 rfl (by assumption) ?_
 try simp only [Act.put, zA, zB, zC]
 refine zU 15 130 rfl (by assumption) ?_
 try simp only [Act.put, zA, zB, zC]
 refine zT 16 131 ?_ rfl ?_ (by assumption) ?_
 rotate_left
 · intro w hSw
   try dsimp only at hSw
   have x_n2 := bl_cell hSw.1 n2
   go_simp
   try with_reducible rfl
 try simp only [Act.put, zA, zB, zC]
 refine zR 17 (some 132) rfl (fun K hK => ?_)
 go_simp
 (try dsimp only at hHeld); go_split_ands
 obtain ⟨W5, hW5⟩ : ∃ z, z = World.drew (World.alloc W (Obj.cells #[.int .i64 1, .int .i64 1, .int .i64 1, .int .i64 1] 2)) := ⟨_, rfl⟩
 obtain ⟨gw, hgx⟩ : ∃ z, z = W.heap.size := ⟨_, rfl⟩
 have HX0 : Hid (Blk W5 gw 2 #[.int .i64 1, .int .i64 1, .int .i64 1, .int .i64 1]) := qH (by rw [hW5, hgx]; exact Blk.new W _ _)
 have hb9 : Below W.drew.heap.size W.drew W5 := by rw [hW5]; exact bl_alloc (Below.refl _ _) _
 replace hd9 := bl_trans hd9 hb9
 rw [← hW5, ← hgx]
 clear hW5 hgx hb9
 refine hK.out _ _ ?_ (fun hHeld => ?_)
 · (try dsimp only); go_split_ands; exact ⟨hd9, trivial⟩
 clear hK K
 try simp only [Act.put, zA, zB, zC]
 refine zU 18 133 rfl (by assumption) ?_
 try simp only [Act.put, zA, zB, zC]
 refine zR 19 (some 134) rfl (fun K hK => ?_)
 go_simp
 (try dsimp only at hHeld); go_split_ands
 refine (HBL.out gw _ ((Arr.own HO.out).below hd9) HX0.out).mono ?_
 rintro e V ⟨rfl, hb9⟩
 replace hd9 := bl_trans hd9 hb9
 clear hb9 HX0 HBL
 go_wp2_with fail
 refine hK.out _ _ ?_ (fun hHeld => ?_)
 · (try dsimp only); go_split_ands; exact ⟨hd9, trivial⟩
 clear hK K
 try simp only [Act.put, zA, zB, zC]
 refine zU 20 114 rfl (by assumption) ?_
 try simp only [Act.put, zA, zB, zC]
 refine zU 21 135 rfl (by assumption) ?_
 try simp only [Act.put, zA, zB, zC]
 refine zU 22 136 rfl (by assumption) ?_
 try simp only [Act.put, zA, zB, zC]
 refine zU 23 18 rfl (by assumption) ?_
 try simp only [Act.put, zA, zB, zC]
 refine zU 24 19 rfl (by assumption) ?_
 try simp only [Act.put, zA, zB, zC]
 refine wpAnyH_done (by as_aux_lemma => kernel_rfl) ?_ _
 clear hHeld c4 c0 c1 c2 c3 n0 n1 n2
 have hb := hd9
 clear hd9
 replace HBW := qH (bl_trans HBW.out hb)
 replace HD := qH (HD.out.below hb)
 replace HO := qH (own_below HO.out hb)
 clear hb
 by_cases hc : co = 0
 case neg =>
   have HE := qH (HFD.out.trans (if_neg hc))
   go_wp2_with fail
   go_returns
   exact OutX.no (by rw [← HLO.out, ← HHI.out, ← HGI.out, HE.out]) hc HBW.out
 subst hc
 obtain ⟨k, x, rfl, hx, _⟩ := HBZ.out rfl
 have HE := qH (HFD.out.trans (if_pos rfl))
 rw [Int.toNat_natCast, hx] at HE
 obtain ⟨ad, hAd, hab, e0, e1, e2, e3, e4, e5⟩ := Last.at_ (Arr.own HO.out) hx
 have hkn2 : k < n := by rw [← hn.out]; exact (List.getElem?_eq_some_iff.1 hx).1
 subst hAd
 clear hx HBZ HFD
 have hk0 : (0 : Int) ≤ (k : Int) := by omega
 have hk1 : (k : Int) < (n : Int) := by omega
 have c4 : V.cell? ⟨gd, 4, none⟩ = some (.slice (some ad) n c) := HD.out.cell 4
 go_wp2_with fail
 go_returns
 exact OutX.one (by rw [← HLO.out, ← HHI.out, ← HGI.out, HE.out]; rfl) hn.out HBW.out HO.out HD.out
set_option maxRecDepth 100000 in
set_option maxHeartbeats 8000000 in
theorem exe_need (w0 w : World) (gd ga : Nat) (f : Foot) (xs : List Last) (s : Style) (lg : ByteArray) (n c : Nat) (A An : Option Addr) (ws : List ByteArray) (ns : List Int) (nw kn cn : Nat) (h : XIn w0 w gd ga f xs s lg n c A An ws ns nw kn) (hk : nthD ws 0 = kNeed) (h2 : 2 ≤ nw) :
   Calls Tryz.prog 35 #[.pointer (some ⟨gd, 0, none⟩), .slice (some ⟨ga, 0, none⟩) nw nw, .slice An kn cn] w (OutX w0 gd (needD ⟨f, xs, s, lg⟩ (nthD ws 1))) := by
 have HBW := qH h.hbw
 have HWS := qH h.hws
 have HD : Hid (Blk w gd 32 #[.int .i64 f.length, .int .i64 f.ball, .int .i64 f.instep, .int .i64 f.heel, .slice A n c, .string s.upper, .string s.color, .string s.lining, .string s.sole, .int .i64 s.thick, .int .i64 s.heel, .int .i64 s.eyelets, .int .i64 s.density, .bool s.double, .string lg]) := qH h.hdk
 have HO := qH h.hown
 have HNE := qH h.hne
 have HT := qH h.htabs
 have HCN := qH h.hchg
 have HOK := qH h.hok
 have HSZ := qH h.hsz
 have hn := h.hn
 have hnw := h.hnw
 have hkn := h.hkn
 have hgd := h.hgd
 have hn30 := h.n30
 have hnw0 := h.nw0
 have hnw1 := h.nw1
 have HJ := qH (h.join)
 have hx0 := h.word0 hk
 have HK := qH hk
 obtain ⟨hfB, hlB, hsB, hcB⟩ := ok_parts h.hok
 have HNZ : Hid (∀ x ∈ xs, x.name.size ≤ 9223372036854775807) := qH (fun x hx => Nat.le_trans (lastB_name (las_mem hlB x hx)) (by omega))
 have w1 := h.word (k := 1) (by omega)
 have hwz := h.hsz (nthD ws 1)
 have hwm : nthD ws 1 ∈ ws := by
   unfold nthD
   have h3 : 1 < ws.length := by rw [h.hnw.out]; omega
   rw [List.getD_eq_getElem?_getD, List.getElem?_eq_getElem h3]
   exact List.getElem_mem h3
 replace hwz := hwz hwm
 clear hwm
 clear h hk
 have hl1 : (1 : Int) ≤ (nw : Int) := by omega
 have hl2 : ¬ (nw - 1 = 0) := by omega
 have hl0 : (0 : Int) < (nw : Int) := by omega
 have hx1 : w.cell? ⟨ga, 0, none⟩ = some (.string ⟨#[110, 101, 101, 100]⟩) := hx0
 clear hx0
 go_enter Tryz.func35, Tryz.ntmps35
 go_wp2_with fail
 refine HJ.out.mono ?_
 rintro e W ⟨rfl, hb⟩
 obtain ⟨rt, hrt⟩ : ∃ z, z = restD ws := ⟨_, rfl⟩
 have HRT := qH hrt
 rw [← hrt]
 clear hrt HJ
 replace HBW := qH (bl_trans HBW.out hb)
 replace HD := qH (HD.out.below hb)
 replace HO := qH (own_below HO.out hb)
 replace hx1 := bl_cell hb hx1
 replace w1 := bl_cell hb w1
 clear hb
 clear hl1 hl2
 obtain ⟨nm, hnm⟩ : ∃ z, z = nthD ws 1 := ⟨_, rfl⟩
 rw [← hnm] at w1 hwz
 have HNM := qH hnm
 clear hnm
 have hl1 : (1 : Int) < (nw : Int) := by omega
 have c4 : W.cell? ⟨gd, 4, none⟩ = some (.slice A n c) := HD.out.cell 4
 have HLN := qH (lastNamed_c gd A xs n c nm hn (by omega) HNZ (by omega) W (Arr.own HO.out) c4)
 have HND : needD ⟨f, xs, s, lg⟩ nm = if (namP xs nm).2 = 0 then (⟨f, xs, s, lg⟩, [rowD (needP (atD ⟨f, xs, s, lg⟩ nm) f)], 0) else (⟨f, xs, s, lg⟩, [], (namP xs nm).2) := rfl
 clear c4
 go_wp2_with fail
 refine HLN.out.mono ?_
 rintro e W2 ⟨rfl, hb⟩
 clear HLN
 replace HBW := qH (bl_trans HBW.out hb)
 replace HD := qH (HD.out.below hb)
 replace HO := qH (own_below HO.out hb)
 clear hb
 have hsz := HBW.out.size
 obtain ⟨gz, hgz⟩ : ∃ z, z = W2.heap.size := ⟨_, rfl⟩
 obtain ⟨W3, hW3⟩ : ∃ z, z = W2.alloc (Obj.cells #[.string ⟨#[]⟩, .int .i64 0, .int .i64 0, .int .i64 0, .int .i64 0, .int .i64 0] 100) := ⟨_, rfl⟩
 have HB0 : Hid (Blk W3 gz 100 #[.string ⟨#[]⟩, .int .i64 0, .int .i64 0, .int .i64 0, .int .i64 0, .int .i64 0]) := qH (by rw [hW3, hgz]; exact Blk.new _ _ _)
 have hb : Below W2.heap.size W2 W3 := by rw [hW3]; exact bl_alloc (Below.refl _ _) _
 have hgw : w0.heap.size ≤ gz := by omega
 have hgne : gd < gz := by have := HD.out.lt; omega
 have hone : Hid (∀ k, (Value.slice A n c).ownBlock = some k → k ≠ gz) := qH (fun k e => by have := own_lt HO.out k e; omega)
 have HG := qH hgz
 have HW := qH hW3
 clear hgz hW3
 replace HBW := qH (bl_trans HBW.out hb)
 replace HD := qH (HD.out.below hb)
 replace HO := qH (own_below HO.out hb)
 clear hb
 by_cases hc : (namP xs nm).2 = 0
 case neg =>
   rw [nmV_no hc]
   have HE := qH (HND.trans (if_neg hc))
   obtain ⟨co, hco⟩ : ∃ z, z = (namP xs nm).2 := ⟨_, rfl⟩
   rw [← hco] at HE hc ⊢
   rw [show outNm (zLast, 0, co) = #[.agg #[.string ⟨#[]⟩, .int .i64 0, .int .i64 0, .int .i64 0, .int .i64 0, .int .i64 0], .int .i64 0, .int .i64 co] from rfl]
   clear hco HND
   go_wp2_with (rw [← HW.out, ← HG.out]; refine wpList_store_row rfl 100 _ _ rfl gz #[.string ⟨#[]⟩, .int .i64 0, .int .i64 0, .int .i64 0, .int .i64 0, .int .i64 0] rfl rfl 100 _ HB0.out (by kernel_rfl) rfl (by simp [Value.oneCell']) ?_)
   go_returns
   exact OutX.no (by rw [← HNM.out, HE.out]) hc (below_rowX HBW.out hgw _)
 obtain ⟨k, x, hk, hx, hnv⟩ := nmV_yes hc
 have hat : atD ⟨f, xs, s, lg⟩ nm = x := by unfold atD; dsimp only; rw [hk, Int.toNat_natCast, hx]; rfl
 have HE0 := HND.trans (if_pos hc)
 rw [hat] at HE0
 have HXB := qH (las_mem hlB x (List.mem_of_getElem? hx))
 have HNB := need_bd HXB.out hfB
 have HNO := fun w => needOf_c x f HXB (qH hfB) w
 have HRW : rowD (needP x f) = joinW ⟨#[32]⟩ (decL (needP x f)) := rfl
 rw [hnv]
 rw [show outNm (x, (k : Int), 0) = #[.agg #[.string x.name, .int .i64 x.length, .int .i64 x.ball, .int .i64 x.instep, .int .i64 x.heel, .int .i64 x.pitch], .int .i64 (k : Int), .int .i64 0] from rfl]
 obtain ⟨ps, hps⟩ : ∃ z, z = needP x f := ⟨_, rfl⟩
 rw [← hps] at HE0 HNB HNO HRW
 have hp3 : ps.length = 3 := by rw [hps]; rfl
 have HE := qH HE0
 have HNT := qH (fun B d w h t => numbersText_c ⟨#[32]⟩ (by decide) B ps 3 d (qH hp3) (by omega) (by omega) (qH (fun v hv => by have := HNB.2 v hv; omega)) w h t)
 replace HNO := qH HNO
 replace HRW := qH HRW
 replace hp3 := qH hp3
 clear hps HE0 HNB HND hat hnv hx hk hc
 go_upto_region 35 with (rw [← HW.out, ← HG.out]; refine wpList_store_row rfl 100 _ _ rfl gz #[.string x.name, .int .i64 x.length, .int .i64 x.ball, .int .i64 x.instep, .int .i64 x.heel, .int .i64 x.pitch] rfl rfl 100 _ HB0.out (by kernel_rfl) rfl (by simp [Value.oneCell']) ?_; have hf4 : Blk (World.setRow W3 gz #[Value.string x.name, Value.int .i64 x.length, Value.int .i64 x.ball, Value.int .i64 x.instep, Value.int .i64 x.heel, Value.int .i64 x.pitch]) gz 100 #[.string x.name, .int .i64 x.length, .int .i64 x.ball, .int .i64 x.instep, .int .i64 x.heel, .int .i64 x.pitch] := setRow_heap _ _ _ _ _ _ HB0.out; have hg4 := grown_rowX W3 gz #[Value.string x.name, Value.int .i64 x.length, Value.int .i64 x.ball, Value.int .i64 x.instep, Value.int .i64 x.heel, Value.int .i64 x.pitch]; have hd4 := HD.out.grown hg4 (fun e => by injection e with e; omega); have ho4 := own_row HO.out hone.out #[Value.string x.name, Value.int .i64 x.length, Value.int .i64 x.ball, Value.int .i64 x.instep, Value.int .i64 x.heel, Value.int .i64 x.pitch]; have hw4 := below_rowX HBW.out hgw #[Value.string x.name, Value.int .i64 x.length, Value.int .i64 x.ball, Value.int .i64 x.instep, Value.int .i64 x.heel, Value.int .i64 x.pitch]; clear hg4 HD HO HBW HB0; obtain ⟨W4, hW4⟩ : ∃ z, z = World.setRow W3 gz #[Value.string x.name, Value.int .i64 x.length, Value.int .i64 x.ball, Value.int .i64 x.instep, Value.int .i64 x.heel, Value.int .i64 x.pitch] := ⟨_, rfl⟩; rw [← hW4] at hf4 hd4 ho4 hw4 ⊢; have HB0 := qH hf4; have HD := qH hd4; have HO := qH ho4; have HBW := qH hw4; clear hW4 hf4 hd4 ho4 hw4)
 obtain ⟨m0, m1, m2, m3, m4, m5⟩ := qC6 HB0.out
 have c0 : W4.cell? ⟨gd, 0, none⟩ = some (.int .i64 f.length) := HD.out.cell 0
 have c1 : W4.cell? ⟨gd, 1, none⟩ = some (.int .i64 f.ball) := HD.out.cell 1
 have c2 : W4.cell? ⟨gd, 2, none⟩ = some (.int .i64 f.instep) := HD.out.cell 2
 have c3 : W4.cell? ⟨gd, 3, none⟩ = some (.int .i64 f.heel) := HD.out.cell 3
 refine wp_region_held_drew (S := fun w' => Below W4.heap.size W4 w' ∧ True) (by as_aux_lemma => kernel_rfl) ?_ (fun hHeld => ?_)
 · exact ⟨(Below.refl _ _).drew, trivial⟩
 have hd9 := hHeld.1
 refine zT 0 163 ?_ rfl ?_ (by assumption) ?_
 rotate_left
 · intro w hSw
   try dsimp only at hSw
   have x_m0 := bl_cell hSw.1 m0
   have x_m1 := bl_cell hSw.1 m1
   have x_m2 := bl_cell hSw.1 m2
   have x_m3 := bl_cell hSw.1 m3
   have x_m4 := bl_cell hSw.1 m4
   have x_m5 := bl_cell hSw.1 m5
   go_simp
   try with_reducible rfl
 try simp only [Act.put, zA, zB, zC]
 refine zU 1 164 rfl (by assumption) ?_
 try simp only [Act.put, zA, zB, zC]
 refine zU 2 165 rfl (by assumption) ?_
 try simp only [Act.put, zA, zB, zC]
 refine zU 3 166 rfl (by assumption) ?_
 try simp only [Act.put, zA, zB, zC]
 refine zT 4 167 ?_ rfl ?_ (by assumption) ?_
 rotate_left
 · intro w hSw
   try dsimp only at hSw
   have x_c0 := bl_cell hSw.1 c0
   have x_c1 := bl_cell hSw.1 c1
   have x_c2 := bl_cell hSw.1 c2
   have x_c3 := bl_cell hSw.1 c3
   go_simp
   try with_reducible rfl
 try simp only [Act.put, zA, zB, zC]
 clear c0 c1 c2 c3 m0 m1 m2 m3 m4 m5
 refine zR 5 (some 168) rfl (fun K hK => ?_)
 go_simp
 (try dsimp only at hHeld); go_split_ands
 refine (HNO.out _).mono ?_
 rintro e V1 ⟨B, mm, d, rfl, hmm, hB, hb9⟩
 obtain rfl : mm = 3 := by rw [← hmm]; exact hp3.out
 replace hd9 := bl_trans hd9 hb9
 have HBA := qH hB
 clear hb9 hB hmm HNO
 go_wp2_with fail
 refine hK.out _ _ ?_ (fun hHeld => ?_)
 · (try dsimp only); go_split_ands; exact ⟨hd9, trivial⟩
 clear hK K
 try simp only [Act.put, zA, zB, zC]
 refine zR 6 (some 169) rfl (fun K hK => ?_)
 go_simp
 (try dsimp only at hHeld); go_split_ands
 refine (HNT.out B d _ HBA.out (HT.out.below (bl_trans HBW.out hd9))).mono ?_
 rintro e V2 ⟨rfl, hb9⟩
 replace hd9 := bl_trans hd9 hb9
 clear hb9 HBA HNT
 go_wp2_with fail
 refine hK.out _ _ ?_ (fun hHeld => ?_)
 · (try dsimp only); go_split_ands; exact ⟨hd9, trivial⟩
 clear hK K
 try simp only [Act.put, zA, zB, zC]
 refine zR 7 (some 170) rfl (fun K hK => ?_)
 go_simp
 (try dsimp only at hHeld); go_split_ands
 have hb := hd9
 refine hK.out _ _ ?_ (fun hHeld => ?_)
 · (try dsimp only); go_split_ands; exact ⟨bl_alloc hd9 _, trivial⟩
 clear hK K
 try simp only [Act.put, zA, zB, zC]
 refine zU 8 6 rfl (by assumption) ?_
 try simp only [Act.put, zA, zB, zC]
 refine zU 9 7 rfl (by assumption) ?_
 try simp only [Act.put, zA, zB, zC]
 refine wpAnyH_done (by as_aux_lemma => kernel_rfl) ?_ _
 clear hHeld hd9
 replace HBW := qH (bl_trans HBW.out hb)
 replace HD := qH (HD.out.below hb)
 replace HO := qH (own_below HO.out hb)
 clear hb
 go_wp2_with fail
 go_returns
 exact OutX.one (by rw [← HNM.out, HE.out, HRW.out]) hn.out HBW.out HO.out HD.out
end Go.Proofs.YtpiehlfffjhoaaaGreatDoor
