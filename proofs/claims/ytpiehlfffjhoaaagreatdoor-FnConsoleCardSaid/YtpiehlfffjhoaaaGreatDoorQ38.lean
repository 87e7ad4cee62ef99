/- Lemmas for the law on the console: the parts CoH, CpB. -/
import Derived.Test.YtpiehlfffjhoaaaGreatDoorQ0
import Derived.Test.YtpiehlfffjhoaaaGreatDoorQ34
import Derived.Test.YtpiehlfffjhoaaaGreatDoorQ8
import Derived.Test.YtpiehlfffjhoaaaGreatDoorQ6
import Derived.Test.YtpiehlfffjhoaaaGreatDoorQ28
import Derived.Test.YtpiehlfffjhoaaaGreatDoorQ20
namespace Go.Proofs.YtpiehlfffjhoaaaGreatDoor
open Go.RowKit
set_option maxRecDepth 100000 in
set_option maxHeartbeats 8000000 in
theorem exe_lasts (w0 w : World) (gd ga : Nat) (f : Foot) (xs : List Last) (s : Style) (lg : ByteArray) (n c : Nat) (A An : Option Addr) (ws : List ByteArray) (ns : List Int) (nw kn cn : Nat) (h : XIn w0 w gd ga f xs s lg n c A An ws ns nw kn) (hk : nthD ws 0 = kLasts) (h1 : nw = 1) :
   Calls Tryz.prog 35 #[.pointer (some ⟨gd, 0, none⟩), .slice (some ⟨ga, 0, none⟩) nw nw, .slice An kn cn] w (OutX w0 gd (lastsD ⟨f, xs, s, lg⟩)) := by
 subst h1
 have HBW := qH h.hbw
 have HWS := qH h.hws
 have HD : Hid (Blk w gd 32 #[.int .i64 f.length, .int .i64 f.ball, .int .i64 f.instep, .int .i64 f.heel, .slice A n c, .string s.upper, .string s.color, .string s.lining, .string s.sole, .int .i64 s.thick, .int .i64 s.heel, .int .i64 s.eyelets, .int .i64 s.density, .bool s.double, .string lg]) := qH h.hdk
 have HO := qH h.hown
 have HNE := qH h.hne
 have HT := qH h.htabs
 have HCN := qH h.hchg
 have HOK := qH h.hok
 have HSZ := qH h.hsz
 have hn := h.hn
 have hnw := h.hnw
 have hkn := h.hkn
 have hgd := h.hgd
 have hn30 := h.n30
 have HJ := qH (h.join1)
 have hx0 := h.word0 hk
 have HK := qH hk
 obtain ⟨hfB, hlB, hsB, hcB⟩ := ok_parts h.hok
 have HLA := qH (las_mem hlB)
 clear h hk
 have hx1 : w.cell? ⟨ga, 0, none⟩ = some (.string ⟨#[108, 97, 115, 116, 115]⟩) := hx0
 clear hx0
 obtain ⟨i0, hi0', hz0, hz1, hz2⟩ := info_parts (P := Tryz.prog) (e := 9) (z := .string ByteArray.empty) (size := 1) (bytes := 16) infoStrT
 go_enter Tryz.func35, Tryz.ntmps35
 go_wp2_with fail
 refine HJ.out.mono ?_
 rintro e W ⟨rfl, hb⟩
 obtain ⟨rt, hrt⟩ : ∃ z, z = restD ws := ⟨_, rfl⟩
 have HRT := qH hrt
 rw [← hrt]
 clear hrt HJ
 replace HBW := qH (bl_trans HBW.out hb)
 replace HD := qH (HD.out.below hb)
 replace HO := qH (own_below HO.out hb)
 replace hx1 := bl_cell hb hx1
 clear hb
 have HE := qH (show lastsD ⟨f, xs, s, lg⟩ = (⟨f, xs, s, lg⟩, xs.map lasT ++ [okW n], 0) by unfold lastsD; rw [hn.out])
 go_upto_region 20 with fail
 obtain ⟨g0, hg0⟩ : ∃ z, z = W.heap.size := ⟨_, rfl⟩
 obtain ⟨W2, hW2⟩ : ∃ z, z = W.alloc (Obj.cells #[] 9) := ⟨_, rfl⟩
 have HR0 : Hid (W2.ownsRow W.heap.size 9 1 (.slice (some ⟨g0, 0, none⟩) 0 0) 0 []) := qH (by rw [hW2, hg0]; exact own_empty W W.heap.size 9 1 (Nat.le_refl _))
 have hb2 : Below W.heap.size W W2 := by rw [hW2]; exact bl_alloc (Below.refl _ _) _
 rw [← hW2, ← hg0]
 clear hW2 hg0
 have c4 : W2.cell? ⟨gd, 4, none⟩ = some (.slice A n c) := (HD.out.below hb2).cell 4
 go_wp2_with fail
 go_loopw [15, 100] (fun v i wr => ∃ (j : Nat) (A' : Option Addr) (c' : Nat), i = .int .i64 j ∧ v = .slice A' j c' ∧ j ≤ n ∧ Hid (wr.ownsRow W.heap.size 9 1 (.slice A' j c') j (flat scell ((xs.take j).map lasT))) ∧ Below W.heap.size W wr) (fun _ i _ => n - (intOf i).toNat)
 case atStart => exact ⟨0, _, _, rfl, rfl, by omega, HR0, hb2⟩
 case round =>
 clear HR0 hb2 c4
 obtain ⟨j, A', c', rfl, rfl, hj, HR, hv⟩ := hrel
 have hi0 : (0 : Int) ≤ (j : Int) := by omega
 by_cases hlt : j < n
 case neg =>
   have hi1 : ¬ (j : Int) < (n : Int) := by omega
   obtain rfl : j = n := by omega
   have htk : xs.take j = xs := List.take_of_length_le (by rw [hn.out]; exact Nat.le_refl _)
   rw [htk] at HR
   have HOK2 := qH (okLine_c W.heap.size A' (xs.map lasT) j c' (qH (by rw [List.length_map]; exact hn.out)) (by omega) wr hv.size HR.out (HT.out.below (bl_trans HBW.out hv)).pow)
   have hat := own_at HR.out
   clear htk
   obtain ⟨L, hL⟩ : ∃ L, L = xs.map lasT ++ [okW j] := ⟨_, rfl⟩
   rw [← hL] at HOK2 HE
   clear hL
   go_wp2_with fail
   refine HOK2.out.mono ?_
   rintro e W5 ⟨A5, c5, rfl, hown5, hg5⟩
   go_wp2_with fail
   go_returns
   exact OutX.many HE.out hn.out HBW.out HO.out HD.out (bl_grown hv hg5 hat) hown5
 case pos =>
 have hi1 : (j : Int) < (n : Int) := by omega
 obtain ⟨x, hx⟩ := get_of_lt (xs := xs) (k := j) (by rw [hn.out]; exact hlt)
 obtain ⟨ad, hAd, hab, c0, c1, c2, c3, c4, c5⟩ := Last.at_ ((Arr.own HO.out).below hv) hx
 subst hAd
 have HX := qH (HLA.out x (List.mem_of_getElem? hx))
 have hxz : x.name.size ≤ 9223372036854775807 := Nat.le_trans (lastB_name HX.out) (by omega)
 have HLT := fun w h => LastText_c x hxz w h
 rw [ltB_yes HX.out] at HLT
 obtain ⟨t, ht⟩ : ∃ z, z = lasT x := ⟨_, rfl⟩
 rw [← ht] at HLT
 have e9 : flat scell ((xs.take (j + 1)).map lasT) = flat scell ((xs.take j).map lasT) ++ #[Value.string t].toList := by rw [take_at hx, List.map_append, ht]; simp [flat, scell]
 have E9 := qH e9
 replace HLT := qH HLT
 clear hx ht e9
 go_upto_region 23 with fail
 obtain ⟨W3, hWn⟩ : ∃ q9, q9 = World.alloc wr (Obj.cells #[.string x.name, .int .i64 x.length, .int .i64 x.ball, .int .i64 x.instep, .int .i64 x.heel, .int .i64 x.pitch] 100) := ⟨_, rfl⟩
 obtain ⟨gx, hgn⟩ : ∃ q9, q9 = wr.heap.size := ⟨_, rfl⟩
 have hb : Below wr.heap.size wr W3 := by rw [hWn]; exact bl_alloc (Below.refl _ _) _
 have HXB : Hid (Blk W3 gx 100 #[.string x.name, .int .i64 x.length, .int .i64 x.ball, .int .i64 x.instep, .int .i64 x.heel, .int .i64 x.pitch]) := qH (by rw [hWn, hgn]; exact Blk.new _ _ _)
 rw [← hWn, ← hgn]
 clear hWn hgn c0 c1 c2 c3 c4 c5 hab
 replace HR := qH (own_below HR.out hb)
 replace hv := bl_trans hv hb
 clear hb
 go_wp2_with (refine wpList_load_row rfl 100 _ rfl gx rfl 100 _ (0, 0) _ HXB.out Tryz.underlying100 rfl (by kernel_rfl) ?_)
 refine (HLT.out _ (HT.out.below (bl_trans HBW.out hv))).mono ?_
 rintro e W4 ⟨rfl, hb⟩
 replace HR := qH (own_below HR.out hb)
 replace hv := bl_trans hv hb
 clear hb HXB HLT
 have hat := own_at HR.out
 go_wp2_with (at_builtin; refine app_own W4 #[.string t] rfl _ _ 24 9 rfl i0 _ 1 16 Tryz.underlying24 hi0' hz0 hz1 hz2 rfl (by omega) W.heap.size (.slice A' j c') j _ rfl rfl HR.out rfl (by simp [Value.oneCell']) (by unfold maxLen; omega) (by omega) hv.size ?_; intro A2 c2 w2 hown2 hg3)
 exact ⟨⟨j + 1, A2, c2, by go_num, rfl, by omega, qH (by rw [E9.out]; exact hown2), bl_grown hv hg3 hat⟩, by simp [intOf]; omega⟩
set_option maxRecDepth 100000 in
set_option maxHeartbeats 8000000 in
theorem exe_log (w0 w : World) (gd ga : Nat) (f : Foot) (xs : List Last) (s : Style) (lg : ByteArray) (n c : Nat) (A An : Option Addr) (ws : List ByteArray) (ns : List Int) (nw kn cn : Nat) (h : XIn w0 w gd ga f xs s lg n c A An ws ns nw kn) (hk : nthD ws 0 = kLog) (h1 : nw = 1) :
   Calls Tryz.prog 35 #[.pointer (some ⟨gd, 0, none⟩), .slice (some ⟨ga, 0, none⟩) nw nw, .slice An kn cn] w (OutX w0 gd (logD ⟨f, xs, s, lg⟩)) := by
 subst h1
 have HBW := qH h.hbw
 have HWS := qH h.hws
 have HD : Hid (Blk w gd 32 #[.int .i64 f.length, .int .i64 f.ball, .int .i64 f.instep, .int .i64 f.heel, .slice A n c, .string s.upper, .string s.color, .string s.lining, .string s.sole, .int .i64 s.thick, .int .i64 s.heel, .int .i64 s.eyelets, .int .i64 s.density, .bool s.double, .string lg]) := qH h.hdk
 have HO := qH h.hown
 have HNE := qH h.hne
 have HT := qH h.htabs
 have HCN := qH h.hchg
 have HOK := qH h.hok
 have HSZ := qH h.hsz
 have hn := h.hn
 have hnw := h.hnw
 have hkn := h.hkn
 have hgd := h.hgd
 have hn30 := h.n30
 have HJ := qH (h.join1)
 have hx0 := h.word0 hk
 have HK := qH hk
 obtain ⟨hfB, hlB, hsB, hcB⟩ := ok_parts h.hok
 have hlg := cdL_small hcB
 clear h hk
 have hx1 : w.cell? ⟨ga, 0, none⟩ = some (.string ⟨#[108, 111, 103]⟩) := hx0
 clear hx0
 obtain ⟨i0, hi0', hz0, hz1, hz2⟩ := info_parts (P := Tryz.prog) (e := 9) (z := .string ByteArray.empty) (size := 1) (bytes := 16) infoStrT
 go_enter Tryz.func35, Tryz.ntmps35
 go_wp2_with fail
 refine HJ.out.mono ?_
 rintro e W ⟨rfl, hb⟩
 obtain ⟨rt, hrt⟩ : ∃ z, z = restD ws := ⟨_, rfl⟩
 have HRT := qH hrt
 rw [← hrt]
 clear hrt HJ
 replace HBW := qH (bl_trans HBW.out hb)
 replace HD := qH (HD.out.below hb)
 replace HO := qH (own_below HO.out hb)
 replace hx1 := bl_cell hb hx1
 clear hb
 have HGD := rdL_good lg
 have hfew := Nat.le_trans (rdL_few lg) hlg
 have HRL := fun w h => readLog_c lg (by omega) w h
 have HE0 : logD ⟨f, xs, s, lg⟩ = (⟨f, xs, s, lg⟩, (rdL lg).1.map wordsB ++ [okW (rdL lg).1.length], 0) := rfl
 unfold OutRd at HRL
 have HEN := qH HGD.ent
 obtain ⟨es, hes⟩ : ∃ z, z = (rdL lg).1 := ⟨_, rfl⟩
 obtain ⟨st, hst⟩ : ∃ z, z = (rdL lg).2.1 := ⟨_, rfl⟩
 obtain ⟨sn, hsn⟩ : ∃ z, z = (rdL lg).2.2 := ⟨_, rfl⟩
 rw [← hes] at HRL HE0 HEN hfew
 rw [← hst, ← hsn] at HRL
 obtain ⟨m, hm⟩ : ∃ z, z = es.length := ⟨_, rfl⟩
 rw [← hm] at HRL HE0 hfew
 have hml := qH hm.symm
 replace HRL := qH HRL
 have HE := qH HE0
 clear HGD hes hst hsn hm HE0
 go_upto_region 71 with fail
 obtain ⟨g0, hg0⟩ : ∃ z, z = W.heap.size := ⟨_, rfl⟩
 obtain ⟨W2, hW2⟩ : ∃ z, z = W.alloc (Obj.cells #[] 9) := ⟨_, rfl⟩
 have HR0 : Hid (W2.ownsRow W.heap.size 9 1 (.slice (some ⟨g0, 0, none⟩) 0 0) 0 []) := qH (by rw [hW2, hg0]; exact own_empty W W.heap.size 9 1 (Nat.le_refl _))
 have hb2 : Below W.heap.size W W2 := by rw [hW2]; exact bl_alloc (Below.refl _ _) _
 have hlt0 : g0 < W2.heap.size := by rw [hW2, hg0, World.size_alloc]; omega
 rw [← hW2, ← hg0]
 clear hW2 hg0
 have c14 : W2.cell? ⟨gd, 14, none⟩ = some (.string lg) := (HD.out.below hb2).cell 14
 go_wp2_with fail
 refine (HRL.out _ (HT.out.below (bl_trans HBW.out hb2))).mono ?_
 rintro e W3 ⟨B, cb, rfl, hown3, hb3⟩
 have hfld : ∀ w, (Instr.field 146 (.agg #[.slice B m cb, .int .i64 st, .int .i64 sn]) 0).run Tryz.prog w = .ok (.slice B m cb) w := fun w => by kernel_rfl
 have HR1 := qH (own_below HR0.out hb3)
 have HAE := qH (Arr.own hown3)
 have HEL : Hid (∀ ad, B = some ad → W2.heap.size ≤ ad.block ∧ ad.block < W3.heap.size) := qH (fun ad e => by
   subst e
   exact ⟨own_at hown3 _ rfl, own_lt hown3 _ rfl⟩)
 replace hb2 := bl_trans hb2 hb3
 clear hown3 HR0 c14 HRL
 have hz3 := hb3.size
 clear hb3
 go_wp2_with fail
 go_loopw [37, 330] (fun v i wr => ∃ (j gr : Nat) (c' : Nat), i = .int .i64 j ∧ v = .slice (some ⟨gr, 0, none⟩) j c' ∧ j ≤ m ∧ Hid (∀ ad, B = some ad → ad.block ≠ gr) ∧ Hid (wr.ownsRow W.heap.size 9 1 (.slice (some ⟨gr, 0, none⟩) j c') j (flat scell ((es.take j).map wordsB))) ∧ Hid (Arr wr B (flat Entry.cells es)) ∧ W3.heap.size ≤ wr.heap.size ∧ Below W.heap.size W wr) (fun _ i _ => m - (intOf i).toNat)
 case atStart => exact ⟨0, g0, _, rfl, rfl, by omega, qH (fun ad e => by have := (HEL.out ad e).1; omega), HR1, HAE, Nat.le_refl _, hb2⟩
 case round =>
 clear HR1 HAE hb2 hlt0 hfld
 obtain ⟨j, gr, c', rfl, rfl, hj, HNE2, HR, HA, hz, hv⟩ := hrel
 have hi0 : (0 : Int) ≤ (j : Int) := by omega
 by_cases hlt : j < m
 case neg =>
   have hi1 : ¬ (j : Int) < (m : Int) := by omega
   obtain rfl : j = m := by omega
   have htk : es.take j = es := List.take_of_length_le (by rw [hml.out]; exact Nat.le_refl _)
   rw [htk] at HR
   have HOK2 := qH (okLine_c W.heap.size (some ⟨gr, 0, none⟩) (es.map wordsB) j c' (qH (by rw [List.length_map]; exact hml.out)) (by omega) wr hv.size HR.out (HT.out.below (bl_trans HBW.out hv)).pow)
   have hat := own_at HR.out
   clear htk
   obtain ⟨L, hL⟩ : ∃ L, L = es.map wordsB ++ [okW j] := ⟨_, rfl⟩
   rw [← hL] at HOK2 HE
   clear hL
   go_wp2_with fail
   refine HOK2.out.mono ?_
   rintro e W5 ⟨A5, c5, rfl, hown5, hg5⟩
   go_wp2_with fail
   go_returns
   exact OutX.many HE.out hn.out HBW.out HO.out HD.out (bl_grown hv hg5 hat) hown5
 case pos =>
 have hi1 : (j : Int) < (m : Int) := by omega
 obtain ⟨x, hx⟩ := get_of_lt (xs := es) (k := j) (by rw [hml.out]; exact hlt)
 obtain ⟨ad, hAd, hab, c0, c1, c2⟩ := Entry.at_ HA.out hx
 have hfr := HNE2.out ad hAd
 have hel := (HEL.out ad hAd).2
 subst hAd
 have HX := qH (HEN.out x (List.mem_of_getElem? hx))
 have HLT := fun w h => words_c x HX.out w h
 obtain ⟨t, ht⟩ : ∃ z, z = wordsB x := ⟨_, rfl⟩
 rw [← ht] at HLT
 have e9 : flat scell ((es.take (j + 1)).map wordsB) = flat scell ((es.take j).map wordsB) ++ #[Value.string t].toList := by rw [take_at hx, List.map_append, ht]; simp [flat, scell]
 have E9 := qH e9
 replace HLT := qH HLT
 clear hx ht e9
 go_upto_region 74 with fail
 obtain ⟨W4, hWn⟩ : ∃ q9, q9 = World.alloc wr (Obj.cells #[.int .i64 x.day, .string x.what, .int .i64 x.value] 141) := ⟨_, rfl⟩
 obtain ⟨gx, hgn⟩ : ∃ q9, q9 = wr.heap.size := ⟨_, rfl⟩
 have hb : Below wr.heap.size wr W4 := by rw [hWn]; exact bl_alloc (Below.refl _ _) _
 have HXB : Hid (Blk W4 gx 141 #[.int .i64 x.day, .string x.what, .int .i64 x.value]) := qH (by rw [hWn, hgn]; exact Blk.new _ _ _)
 rw [← hWn, ← hgn]
 clear hWn hgn c0 c1 c2 hab
 have hz4 := hb.size
 replace HR := qH (own_below HR.out hb)
 replace HA := qH (HA.out.below hb)
 replace hv := bl_trans hv hb
 clear hb
 go_wp2_with (refine wpList_load_row rfl 141 _ rfl gx rfl 141 _ (0, 0) _ HXB.out Tryz.underlying141 rfl (by kernel_rfl) ?_)
 refine (HLT.out _ (HT.out.below (bl_trans HBW.out hv)).pow).mono ?_
 rintro e W5 ⟨rfl, hb⟩
 replace HR := qH (own_below HR.out hb)
 replace HA := qH (HA.out.below hb)
 replace hv := bl_trans hv hb
 have hz5 := hb.size
 clear hb HXB HLT
 have hat := own_at HR.out
 go_wp2_with (at_builtin; refine app_fresh1 W5 #[.string t] rfl _ _ 24 9 rfl i0 _ 1 16 Tryz.underlying24 hi0' hz0 hz1 hz2 rfl (by omega) W.heap.size (some ⟨gr, 0, none⟩) j c' _ rfl _ rfl rfl HR.out rfl (by simp [Value.oneCell']) (by unfold maxLen; omega) (by omega) hv.size ?_; intro g7 c7 w7 hown7 hg7 hfr7)
 refine ⟨⟨j + 1, g7, c7, by go_num, rfl, by omega, qH (fun ad' e => ?_), qH (by rw [E9.out]; exact hown7), qH (HA.out.grown hg7 (fun ad' e => ?_)), by have := hg7.size; omega, bl_grown hv hg7 hat⟩, by simp [intOf]; omega⟩
 · injection e with e
   subst e
   rcases hfr7 with e7 | e7
   · injection e7 with e7
     injection e7 with e7
     omega
   · omega
 · injection e with e
   subst e
   intro e8
   injection e8 with e8
   dsimp only at e8
   omega
def askW : ByteArray := ⟨#[63]⟩
def runG : Nat → Dk → List ByteArray → List ByteArray
 | _, _, [] => []
 | 0, _, _ :: _ => [errW 5]
 | k + 1, d, l :: r => if (cmdD d l).2.2 = 0 then (cmdD d l).2.1 ++ runG k (cmdD d l).1 r else [askW] ++ runG k d r
def lnT (L : List ByteArray) : ByteArray := L.foldl (fun a l => a ++ (l ++ ⟨#[10]⟩)) ⟨#[]⟩
def dropE (L : List ByteArray) : List ByteArray := if L.getLast? = some ⟨#[]⟩ then L.dropLast else L
def runT (t : ByteArray) : ByteArray := lnT (runG 60 newDk (dropE (splC 10 t)))
theorem lnT_snoc (L : List ByteArray) (l : ByteArray) : lnT (L ++ [l]) = lnT L ++ (l ++ ⟨#[10]⟩) := by
 unfold lnT
 rw [List.foldl_append]; rfl
theorem lnT_data (L : List ByteArray) : (lnT L).data.toList = L.flatMap (fun l => l.data.toList ++ [10]) := by
 have key : ∀ (L : List ByteArray) (a : ByteArray), (L.foldl (fun a l => a ++ (l ++ ⟨#[10]⟩)) a).data.toList = a.data.toList ++ L.flatMap (fun l => l.data.toList ++ [10]) := by
   intro L
   induction L with
   | nil => intro a; simp
   | cons l r ih =>
     intro a
     rw [List.foldl_cons, ih, bytes_app, bytes_app, List.flatMap_cons, List.append_assoc]
 have h := key L ⟨#[]⟩
 exact h
theorem spl_lines : ∀ L : List (List UInt8), (∀ p ∈ L, (10 : UInt8) ∉ p) → spl 10 (L.flatMap (fun l => l ++ [10])) = L ++ [[]]
 | [], _ => by simp [spl]
 | a :: r, h => by
   rw [List.flatMap_cons, List.append_assoc, List.singleton_append, spl_cons _ a (h a (by simp)), spl_lines r (fun p hp => h p (by simp [hp])), List.cons_append]
theorem dropE_lnT {L : List ByteArray} (h : ∀ y ∈ L, (10 : UInt8) ∉ y.data.toList) : dropE (splC 10 (lnT L)) = L := by
 have h1 : splC 10 (lnT L) = L ++ [⟨#[]⟩] := by
   unfold splC
   rw [lnT_data]
   have e : L.flatMap (fun l => l.data.toList ++ [10]) = (L.map (·.data.toList)).flatMap (fun l => l ++ [10]) := by rw [List.flatMap_map]
   rw [e, spl_lines _ (fun p hp => by
     obtain ⟨y, hy, rfl⟩ := List.mem_map.1 hp
     exact h y hy), List.map_append, List.map_map]
   congr 1
   exact List.map_id' _
 rw [h1]
 unfold dropE
 rw [List.getLast?_append, if_pos (by simp), List.dropLast_concat]
theorem runG_cons_yes {k : Nat} {d : Dk} {l : ByteArray} {r : List ByteArray} (h : (cmdD d l).2.2 = 0) : runG (k + 1) d (l :: r) = (cmdD d l).2.1 ++ runG k (cmdD d l).1 r := by
 rw [runG, if_pos h]
theorem runG_cons_no {k : Nat} {d : Dk} {l : ByteArray} {r : List ByteArray} (h : ¬ (cmdD d l).2.2 = 0) : runG (k + 1) d (l :: r) = [askW] ++ runG k d r := by
 rw [runG, if_neg h]
theorem runG_nil (k : Nat) (d : Dk) : runG k d [] = [] := by cases k <;> rfl
theorem newDk_ok : newDk.ok = true := by
 refine ok_of (by decide) (by decide) (by decide) ?_
 show cdL ⟨#[]⟩ = 0
 decide
def smallL (L : List ByteArray) : Prop := L.length ≤ 5000 ∧ ∀ y ∈ L, y.size ≤ 2000000
theorem smallL_one {t : ByteArray} (h : t.size ≤ 2000000) : smallL [t] := ⟨by simp, fun y hy => by
 obtain rfl : y = t := by simpa using hy
 exact h⟩
theorem smallL_nil : smallL [] := ⟨by simp, fun y hy => by cases hy⟩
theorem decI_21 {v : Int} (h0 : -9223372036854775808 ≤ v) (h1 : v ≤ 9223372036854775807) : (decI v).size ≤ 21 := dec21 h0 h1
theorem okW_size {n : Nat} (h : n ≤ 1000000) : (okW n).size ≤ 24 := by
 have h1 := decI_21 (v := (n : Int)) (by omega) (by omega)
 have h3 : (⟨#[111, 107, 32]⟩ : ByteArray).size = 3 := rfl
 unfold okW
 rw [app_size, h3]
 omega
theorem rowD_size {l : List Int} (hl : l.length ≤ 3) (h : ∀ v ∈ l, -100000 ≤ v ∧ v ≤ 100000) : (rowD l).size ≤ 75 := by
 have h1 := joinW_size ⟨#[32]⟩ (by decide) (decL l) (fun y hy => by
   obtain ⟨v, hv, rfl⟩ := List.mem_map.1 hy
   obtain ⟨a, b⟩ := h v hv
   exact decI_21 (by omega) (by omega))
 have h2 : (decL l).length = l.length := by unfold decL; rw [List.length_map]
 have h3 : (rowD l).size = (Lib.join ((decL l).map (·.data.toList)) (ByteArray.mk #[32]).data.toList).length := by
   unfold rowD joinW
   rw [← bytes_len]
 rw [h3]
 rw [h2] at h1
 omega
theorem need_bd {x : Last} {f : Foot} (hx : lastB x = true) (hf : footB f = true) : (needP x f).length ≤ 3 ∧ ∀ v ∈ needP x f, -100000 ≤ v ∧ v ≤ 100000 := by
 obtain ⟨_, hf2, _, _⟩ := lastB_parts hx
 obtain ⟨⟨a1, a2⟩, ⟨b1, b2⟩, ⟨c1, c2⟩, ⟨d1, d2⟩⟩ := foot_bd hf2
 obtain ⟨⟨e1, e2⟩, ⟨g1, g2⟩, ⟨h1, h2⟩, ⟨i1, i2⟩⟩ := foot_bd hf
 simp only [Last.foot] at a1 a2 b1 b2 c1 c2 d1 d2
 refine ⟨by simp [needP], fun v hv => ?_⟩
 simp only [needP, List.mem_cons, List.not_mem_nil, or_false] at hv
 rcases hv with rfl | rfl | rfl <;> omega
theorem rai_bd (a b c e : Int) : (raiP a b c e).1.length ≤ 3 ∧ ∀ v ∈ (raiP a b c e).1, -100000 ≤ v ∧ v ≤ 100000 := by
 unfold raiP
 by_cases h : (shB a && (shB b && (shB c && shB e))) = true
 · rw [if_pos h]
   simp only [shB, Bool.and_eq_true, inB_iff] at h
   split
   · exact ⟨by simp, fun v hv => by cases hv⟩
   · refine ⟨by simp, fun v hv => ?_⟩
     simp only [List.mem_cons, List.not_mem_nil, or_false] at hv
     rcases hv with rfl | rfl | rfl <;> omega
 · rw [if_neg h]
   exact ⟨by simp, fun v hv => by cases hv⟩
theorem sum_bd : ∀ l : List Int, (∀ v ∈ l, -1000000 ≤ v ∧ v ≤ 1000000) → -1000000 * (l.length : Int) ≤ l.sum ∧ l.sum ≤ 1000000 * (l.length : Int)
 | [], _ => by simp
 | a :: r, h => by
   have h1 := sum_bd r (fun v hv => h v (by simp [hv]))
   have h2 := h a (by simp)
   rw [List.sum_cons, List.length_cons]
   omega
theorem valV_bd (s t : ByteArray) : (valV s t).length ≤ 4000 ∧ ∀ v ∈ valV s t, -1000000 ≤ v ∧ v ≤ 1000000 := by
 by_cases h : cdW s t = 0
 · rw [valV_ok h]
   have h0 := cdW_zero h
   refine ⟨Nat.le_trans (valG_len _ _) (Nat.le_trans (rdL_few s) (cdL_small h0)), fun v hv => ?_⟩
   unfold valG at hv
   obtain ⟨e, he, rfl⟩ := List.mem_map.1 hv
   have h1 := entB_bd ((rdL_good s).ent e (List.mem_filter.1 he).1)
   omega
 · rw [valV_no h]
   exact ⟨by simp, fun v hv => by cases hv⟩
theorem exe_small {d : Dk} (h : d.ok = true) (ws : List ByteArray) (ns : List Int) : smallL (exeD d ws ns).2.1 := by
 obtain ⟨h1, h2, h3, h4⟩ := ok_parts h
 have hno : ∀ c, smallL (noD d c).2.1 := fun c => smallL_nil
 have hlen := las_len h2
 unfold exeD
 split
 · unfold footD
   split
   · rename_i f hf
     exact smallL_one (Nat.le_trans (footT_size (rdFo_some hf).2) (by omega))
   · exact hno _
 split
 · unfold lastD'
   split
   · rename_i x hx
     split
     · rename_i ha
       have hl := las_len (add_ok ha).1
       have hd := decI_21 (v := (((addP d.xs x).1.length : Nat) : Int)) (by omega) (by omega)
       have hf := footT_size h1
       have e1 : (⟨#[32]⟩ : ByteArray).size = 1 := rfl
       have e2 : (⟨#[32, 108, 97, 115, 116, 115]⟩ : ByteArray).size = 6 := rfl
       refine smallL_one ?_
       unfold deskT
       rw [app_size, app_size, app_size, e1, e2]
       omega
     · exact hno _
   · exact hno _
 split
 · refine ⟨?_, fun y hy => ?_⟩
   · show (d.xs.map lasT ++ [okW d.xs.length]).length ≤ 5000
     rw [List.length_append, List.length_map, List.length_singleton]
     omega
   · rcases List.mem_append.1 (show y ∈ d.xs.map lasT ++ [okW d.xs.length] from hy) with hy | hy
     · obtain ⟨x, hx, rfl⟩ := List.mem_map.1 hy
       exact Nat.le_trans (lasT_size (las_mem h2 x hx)) (by omega)
     · obtain rfl : y = okW d.xs.length := by simpa using hy
       exact Nat.le_trans (okW_size (by omega)) (by omega)
 split
 · unfold fitD
   split
   · rename_i hb
     obtain ⟨k, x, e1, e2, _⟩ := bstP_zero hb
     rw [e1, Int.toNat_natCast, e2]
     exact smallL_one (Nat.le_trans (lastB_name (las_mem h2 x (List.mem_of_getElem? e2))) (by omega))
   · exact hno _
 split
 · unfold needD
   split
   · rename_i hb
     have hx := las_mem h2 _ (List.mem_of_getElem? (atD_at hb).1)
     obtain ⟨e1, e2⟩ := need_bd hx h1
     exact smallL_one (Nat.le_trans (rowD_size e1 e2) (by omega))
   · exact hno _
 split
 · unfold alterD
   split
   · exact hno _
   · rename_i k a _
     split
     · split
       · rename_i ha
         obtain ⟨e1, e2⟩ := aplP_zero ha
         refine smallL_one ?_
         rw [e1, ltB_yes e2]
         exact Nat.le_trans (lasT_size e2) (by omega)
       · exact hno _
     · exact hno _
 split
 · have ho := fun hc => (ok_parts (styleD_ok h (t := restD ws) hc).1).2.2.1
   unfold styleD at ho ⊢
   split
   · rename_i hc
     rw [if_pos hc] at ho
     exact smallL_one (Nat.le_trans (text_reads (ho rfl)).1 (by omega))
   · exact hno _
 split
 · have ho := fun hc => (ok_parts (clauseD_ok h (t := restD ws) hc).1).2.2.1
   unfold clauseD at ho ⊢
   split
   · rename_i hc
     rw [if_pos hc] at ho
     exact smallL_one (Nat.le_trans (text_reads (ho rfl)).1 (by omega))
   · exact hno _
 split
 · unfold raiseD
   split
   · obtain ⟨e1, e2⟩ := rai_bd (numD ns 0) (numD ns 1) (numD ns 2) (numD ns 3)
     exact smallL_one (Nat.le_trans (rowD_size e1 e2) (by omega))
   · exact hno _
 split
 · unfold enterD
   split
   · obtain ⟨e1, e2⟩ := valV_bd (addV d.lg ⟨numD ns 0, nthD ws 2, numD ns 1⟩).1 (nthD ws 2)
     have e3 := sum_bd _ e2
     exact smallL_one (Nat.le_trans (decI_21 (by omega) (by omega)) (by omega))
   · exact hno _
 · have hg := rdL_good d.lg
   have hf := Nat.le_trans (rdL_few d.lg) (cdL_small h4)
   refine ⟨?_, fun y hy => ?_⟩
   · show ((rdL d.lg).1.map wordsB ++ [okW (rdL d.lg).1.length]).length ≤ 5000
     rw [List.length_append, List.length_map, List.length_singleton]
     omega
   · rcases List.mem_append.1 (show y ∈ (rdL d.lg).1.map wordsB ++ [okW (rdL d.lg).1.length] from hy) with hy | hy
     · obtain ⟨x, hx, rfl⟩ := List.mem_map.1 hy
       exact Nat.le_trans (wordsB_size (hg.ent x hx)) (by omega)
     · obtain rfl : y = okW (rdL d.lg).1.length := by simpa using hy
       exact Nat.le_trans (okW_size (by omega)) (by omega)
theorem err_size (c : Int) : (errW c).size ≤ 2000000 := by
 have e1 := errT_size c
 have e2 : (⟨#[101, 114, 114, 111, 114, 32]⟩ : ByteArray).size = 6 := rfl
 unfold errW
 rw [app_size, e2]
 omega
theorem cmd_small {d : Dk} (h : d.ok = true) (line : ByteArray) : smallL (cmdD d line).2.1 := by
 unfold cmdD
 rw [if_pos h]
 split
 · unfold runD
   split
   · exact smallL_one (err_size 7)
   · split
     · exact exe_small h _ _
     · exact smallL_one (err_size _)
 · exact smallL_nil
end Go.Proofs.YtpiehlfffjhoaaaGreatDoor
