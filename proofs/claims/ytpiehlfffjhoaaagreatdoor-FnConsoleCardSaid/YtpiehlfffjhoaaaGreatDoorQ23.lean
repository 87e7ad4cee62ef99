/- Lemmas for the law on the console: the parts CnZ, CoA, LogE. -/
import Derived.Test.YtpiehlfffjhoaaaGreatDoorQ0
import Derived.Test.YtpiehlfffjhoaaaGreatDoorQ22
import Derived.Test.YtpiehlfffjhoaaaGreatDoorQ4
import Derived.Test.YtpiehlfffjhoaaaGreatDoorQ11
namespace Go.Proofs.YtpiehlfffjhoaaaGreatDoor
open Go.RowKit
def idxL (P : List (Nat × Int)) : List Int := P.map (fun p => (p.1 : Int))
def cstL (P : List (Nat × Int)) : List Int := P.map (·.2)
def OutAl (P : List (Nat × Int)) (w : World) (e : Ending) (w' : World) : Prop := ∃ (g1 g2 m c1 c2 : Nat), e = .returned (.tuple #[.slice (some ⟨g1, 0, none⟩) m c1, .slice (some ⟨g2, 0, none⟩) m c2]) ∧ P.length = m ∧ Arr w' (some ⟨g1, 0, none⟩) (flat icell (idxL P)) ∧ Arr w' (some ⟨g2, 0, none⟩) (flat icell (cstL P)) ∧ Below w.heap.size w w'
set_option maxRecDepth 100000 in
set_option maxHeartbeats 8000000 in
theorem allowed_c (A : Option Addr) (xs : List Last) (n c : Nat) (f : Foot) (lo hi gi : Int) (gw gf : Nat) (hn : Hid (xs.length = n)) (hm : n ≤ 30) (HLS : Hid (∀ x ∈ xs, lastB x = true)) (HF : Hid (footB f = true)) (HT : Hid (fitB lo hi gi = true)) (w : World)
   (hA : Arr w A (flat Last.cells xs)) (hB : Blk w gw 2 #[.int .i64 1, .int .i64 1, .int .i64 1, .int .i64 1]) (hG : Blk w gf 27 #[.int .i64 f.length, .int .i64 f.ball, .int .i64 f.instep, .int .i64 f.heel]) :
   Calls Tryz.prog 199 #[.slice A n c, .agg #[.int .i64 lo, .int .i64 hi, .int .i64 gi, .slice (some ⟨gw, 0, none⟩) 4 4], .slice (some ⟨gf, 0, none⟩) 1 1] w (OutAl (alwGo f lo hi gi 0 xs) w) := by
 obtain ⟨i0, hi0, hz0, hz1, hz2⟩ := info_parts (P := Tryz.prog) (e := 2) (z := .int .i64 0) (size := 1) (bytes := 8) infoI64N
 obtain ⟨W, hW⟩ : ∃ W, W = w.alloc (Obj.cells #[.int .i64 lo, .int .i64 hi, .int .i64 gi, .slice (some ⟨gw, 0, none⟩) 4 4] 120) := ⟨_, rfl⟩
 obtain ⟨gt, hgt⟩ : ∃ g, g = w.heap.size := ⟨_, rfl⟩
 have hv : Below w.heap.size w W := by rw [hW]; exact bl_alloc (Below.refl _ _) _
 have HTB : Hid (Blk W gt 120 #[.int .i64 lo, .int .i64 hi, .int .i64 gi, .slice (some ⟨gw, 0, none⟩) 4 4]) := qH (by rw [hW, hgt]; exact Blk.new _ _ _)
 have HA := qH (hA.below hv)
 have HB := qH (hB.below hv)
 have HG := qH (hG.below hv)
 have HW := qH hW
 have HGT := qH hgt
 clear hW hgt hA hB hG
 go_enter Tryz.func199, Tryz.ntmps199
 go_upto_region 1 with fail
 rw [← HW.out, ← HGT.out]
 clear HW HGT
 go_upto_region 2 with fail
 obtain ⟨ga, hga⟩ : ∃ z, z = W.heap.size := ⟨_, rfl⟩
 obtain ⟨gb, hgb⟩ : ∃ z, z = W.heap.size + 1 := ⟨_, rfl⟩
 obtain ⟨V, hV⟩ : ∃ z, z = (W.alloc (Obj.cells #[] 2)).alloc (Obj.cells #[] 2) := ⟨_, rfl⟩
 have hbV : Below W.heap.size W V := by rw [hV]; exact bl_alloc (bl_alloc (Below.refl _ _) _) _
 have HO1 : Hid (V.ownsRow W.heap.size 2 1 (.slice (some ⟨ga, 0, none⟩) 0 0) 0 (flat icell (idxL []))) := qH (by rw [hV, hga]; exact (own_empty W W.heap.size 2 1 (Nat.le_refl _)).alloc _)
 have HO2 : Hid (V.ownsRow W.heap.size 2 1 (.slice (some ⟨gb, 0, none⟩) 0 0) 0 (flat icell (cstL []))) := qH (by
   have h := own_empty (W.alloc (Obj.cells #[] 2)) W.heap.size 2 1 (by rw [World.size_alloc]; omega)
   rw [World.size_alloc] at h
   rw [hV, hgb]; exact h)
 have hne : ga ≠ gb := by omega
 have G1 := qH hga
 have G2 := qH hgb
 have GV := qH hV
 clear hga hgb hV
 rw [← GV.out, ← G2.out, ← G1.out]
 clear G1 G2 GV
 go_wp2_with fail
 have hL0 := qH (show (alwGo f lo hi gi 0 (xs.take 0)).length = 0 from rfl)
 go_loopw [8, 9, 22] (fun v8 v9 iv wr => ∃ (i m g1 c1 g2 c2 : Nat), iv = .int .i64 i ∧ i ≤ n ∧ m ≤ i ∧ v8 = .slice (some ⟨g1, 0, none⟩) m c1 ∧ v9 = .slice (some ⟨g2, 0, none⟩) m c2 ∧ g1 ≠ g2 ∧ Hid ((alwGo f lo hi gi 0 (xs.take i)).length = m) ∧ Hid (wr.ownsRow W.heap.size 2 1 (.slice (some ⟨g1, 0, none⟩) m c1) m (flat icell (idxL (alwGo f lo hi gi 0 (xs.take i))))) ∧ Hid (wr.ownsRow W.heap.size 2 1 (.slice (some ⟨g2, 0, none⟩) m c2) m (flat icell (cstL (alwGo f lo hi gi 0 (xs.take i))))) ∧ Below W.heap.size W wr) (fun _ _ i _ => n - (intOf i).toNat)
 case atStart => exact ⟨0, 0, ga, 0, gb, 0, rfl, by omega, by omega, rfl, rfl, hne, hL0, HO1, HO2, hbV⟩
 case round =>
 clear HO1 HO2 hL0 hne hbV
 obtain ⟨i, m, g1, c1, g2, c2, rfl, hin, hmi, rfl, rfl, hne, HL, HO1, HO2, hbo⟩ := hrel
 have hi0' : (0 : Int) ≤ (i : Int) := by omega
 by_cases hlt : i < n
 case neg =>
   have hi1 : ¬ (i : Int) < (n : Int) := by omega
   have htk : xs.take i = xs := List.take_of_length_le (by rw [hn.out]; omega)
   rw [htk] at HL HO1 HO2
   go_wp2_with fail
   go_returns
   exact ⟨g1, g2, m, c1, c2, rfl, HL.out, Arr.own HO1.out, Arr.own HO2.out, bl_trans hv hbo⟩
 case pos =>
 have hi1 : (i : Int) < (n : Int) := by omega
 obtain ⟨x, hx⟩ := get_of_lt (xs := xs) (k := i) (by rw [hn.out]; exact hlt)
 obtain ⟨ad, hAd, hab, c0', c1', c2', c3', c4', c5'⟩ := Last.at_ (HA.out.below hbo) hx
 subst hAd
 have HX := qH (HLS.out x (List.mem_of_getElem? hx))
 have HFC := qH (fun w h => fitCost_c x f lo hi gi gw HX HF HT w h)
 have HST := qH (show alwGo f lo hi gi 0 (xs.take (i + 1)) = alwGo f lo hi gi 0 (xs.take i) ++ (if okC x f lo hi gi = true then [(i, cstP x f lo)] else []) by
   rw [take_at hx, alwGo_snoc, List.length_take, hn.out, Nat.min_eq_left (by omega), Nat.zero_add])
 have hcb : -5500 ≤ cstP x f lo ∧ cstP x f lo ≤ 20000 := by
   obtain ⟨_, hf, p0, p1⟩ := lastB_parts HX.out
   obtain ⟨⟨l1, l2⟩, ⟨m1, m2⟩, ⟨n1, n2⟩, ⟨o1, o2⟩⟩ := foot_bd hf
   obtain ⟨⟨q1, q2⟩, ⟨r1, r2⟩, ⟨s1, s2⟩, ⟨t1, t2⟩⟩ := foot_bd HF.out
   have hft := HT.out
   unfold fitB at hft
   simp only [Bool.and_eq_true, inB_iff] at hft
   obtain ⟨⟨u1, u2⟩, ⟨u3, u4⟩, u5, u6⟩ := hft
   have a1 := apt_bd m1 m2 r1 r2
   have a2 := apt_bd n1 n2 s1 s2
   have a3 := apt_bd o1 o2 t1 t2
   unfold Last.foot at *
   dsimp only at *
   unfold cstP rmP
   omega
 obtain ⟨cb1, cb2⟩ := hcb
 obtain ⟨cs, hcs⟩ : ∃ z, z = cstP x f lo := ⟨_, rfl⟩
 obtain ⟨ok, hok⟩ : ∃ z, z = okC x f lo hi gi := ⟨_, rfl⟩
 rw [← hcs, ← hok] at HFC HST
 rw [← hcs] at cb1 cb2
 clear hx hcs hok
 go_upto_region 5 with fail
 obtain ⟨W1, hWn⟩ : ∃ q9, q9 = World.alloc wr (Obj.cells #[.string x.name, .int .i64 x.length, .int .i64 x.ball, .int .i64 x.instep, .int .i64 x.heel, .int .i64 x.pitch] 100) := ⟨_, rfl⟩
 obtain ⟨gx, hgn⟩ : ∃ q9, q9 = wr.heap.size := ⟨_, rfl⟩
 have hb : Below wr.heap.size wr W1 := by rw [hWn]; exact bl_alloc (Below.refl _ _) _
 have HXB : Hid (Blk W1 gx 100 #[.string x.name, .int .i64 x.length, .int .i64 x.ball, .int .i64 x.instep, .int .i64 x.heel, .int .i64 x.pitch]) := qH (by rw [hWn, hgn]; exact Blk.new _ _ _)
 rw [← hWn, ← hgn]
 clear hWn hgn c0' c1' c2' c3' c4' c5' hab
 replace HO1 := qH (own_below HO1.out hb)
 replace HO2 := qH (own_below HO2.out hb)
 replace hbo := bl_trans hbo hb
 clear hb
 rename World => wo
 go_wp2_with fail
 go_loopw [12, 13, 29] (fun sv av jv wq => ∃ (j : Nat) (s : Int) (b : Bool), jv = .int .i64 j ∧ j ≤ 1 ∧ sv = .int .i64 s ∧ av = .bool b ∧ Hid (j = 0 → s = 0 ∧ b = true) ∧ Hid (j = 1 → s = cs ∧ b = ok) ∧ Below wo.heap.size wo wq) (fun _ _ j _ => 1 - (intOf j).toNat)
 case atStart => exact ⟨0, 0, true, rfl, by omega, rfl, rfl, qH (by simp), qH (by omega), Below.refl _ _⟩
 case round =>
 obtain ⟨j, s, b, rfl, hj, rfl, rfl, HJ0, HJ1, hb⟩ := hrel
 by_cases hj0 : j = 0
 case pos =>
   subst hj0
   obtain ⟨rfl, rfl⟩ := HJ0.out rfl
   rename World => wq
   have q0 : wq.cell? ⟨gf, 0, none⟩ = some (.int .i64 f.length) := (HG.out.below (bl_trans hbo hb)).cell 0
   have q1 : wq.cell? ⟨gf, 1, none⟩ = some (.int .i64 f.ball) := (HG.out.below (bl_trans hbo hb)).cell 1
   have q2 : wq.cell? ⟨gf, 2, none⟩ = some (.int .i64 f.instep) := (HG.out.below (bl_trans hbo hb)).cell 2
   have q3 : wq.cell? ⟨gf, 3, none⟩ = some (.int .i64 f.heel) := (HG.out.below (bl_trans hbo hb)).cell 3
   go_upto_region 9 with fail
   obtain ⟨W2, hWn⟩ : ∃ q9, q9 = World.alloc wq (Obj.cells #[.int .i64 f.length, .int .i64 f.ball, .int .i64 f.instep, .int .i64 f.heel] 27) := ⟨_, rfl⟩
   obtain ⟨gy, hgn⟩ : ∃ q9, q9 = wq.heap.size := ⟨_, rfl⟩
   have hb2 : Below wq.heap.size wq W2 := by rw [hWn]; exact bl_alloc (Below.refl _ _) _
   have HYB : Hid (Blk W2 gy 27 #[.int .i64 f.length, .int .i64 f.ball, .int .i64 f.instep, .int .i64 f.heel]) := qH (by rw [hWn, hgn]; exact Blk.new _ _ _)
   rw [← hWn, ← hgn]
   clear hWn hgn q0 q1 q2 q3
   replace hb := bl_trans hb hb2
   have HXB2 := qH (HXB.out.below hb)
   have HTB2 := qH (HTB.out.below (bl_trans hbo hb))
   clear hb2
   have hwc : IntKind.i64.wrap (0 + cs) = cs := by rw [Int.zero_add]; exact IntWalk.i64_in _ (by omega)
   have hwc2 : IntKind.i64.wrap cs = cs := IntWalk.i64_in _ (by omega)
   go_wp2_with (first | (refine wpList_load_row rfl 100 _ rfl gx rfl 100 _ (0, 0) _ HXB2.out Tryz.underlying100 rfl (by kernel_rfl) ?_) | (refine wpList_load_row rfl 27 _ rfl gy rfl 27 _ (0, 0) _ HYB.out Tryz.underlying27 rfl (by kernel_rfl) ?_) | (refine wpList_load_row rfl 120 _ rfl gt rfl 120 _ (0, 0) _ HTB2.out Tryz.underlying120 rfl (by kernel_rfl) ?_))
   refine (HFC.out _ (HB.out.below (bl_trans hbo hb))).mono ?_
   rintro e W3 ⟨rfl, hb3⟩
   replace hb := bl_trans hb hb3
   clear hb3 HYB HXB2 HTB2
   go_wp2_with fail
   exact ⟨⟨1, cs, ok, by go_num, by omega, rfl, rfl, qH (by omega), qH (by simp), hb⟩, by simp [intOf]⟩
 case neg =>
 obtain rfl : j = 1 := by omega
 obtain ⟨rfl, rfl⟩ := HJ1.out rfl
 rename World => W9
 replace HO1 := qH (own_below HO1.out hb)
 replace HO2 := qH (own_below HO2.out hb)
 replace hbo := bl_trans hbo hb
 clear hb HXB HJ0 HJ1 HFC
 cases b
 · rw [if_neg (by simp), List.append_nil] at HST
   go_wp2_with fail
   exact ⟨⟨i + 1, m, g1, c1, g2, c2, by go_num, by omega, by omega, rfl, rfl, hne, by rw [HST.out]; exact HL, by rw [HST.out]; exact HO1, by rw [HST.out]; exact HO2, hbo⟩, by simp [intOf]; omega⟩
 · rw [if_pos rfl] at HST
   have hl1 := own_lt HO1.out g1 rfl
   have hl2 := own_lt HO2.out g2 rfl
   have hf1 := own_at HO1.out g1 rfl
   have hf2 := own_at HO2.out g2 rfl
   have hbs := hbo.size
   have eI : flat icell (idxL (alwGo f lo hi gi 0 (xs.take i) ++ [(i, s)])) = flat icell (idxL (alwGo f lo hi gi 0 (xs.take i))) ++ #[Value.int .i64 (i : Int)].toList := by simp [idxL, flat, icell]
   have eC : flat icell (cstL (alwGo f lo hi gi 0 (xs.take i) ++ [(i, s)])) = flat icell (cstL (alwGo f lo hi gi 0 (xs.take i))) ++ #[Value.int .i64 s].toList := by simp [cstL, flat, icell]
   have HEI := qH eI
   have HEC := qH eC
   clear eI eC
   go_wp2_with (at_builtin; first
     | (refine app_fresh1 W9 #[.int .i64 (i : Int)] rfl _ _ 58 2 rfl i0 _ 1 8 Tryz.underlying58 hi0 hz0 hz1 hz2 rfl (by omega) W.heap.size (some ⟨g1, 0, none⟩) m c1 _ rfl _ rfl rfl HO1.out rfl (by simp [Value.oneCell']) (by unfold maxLen; omega) (by omega) (by omega) ?_; intro g3 c3 W10 hown3 hg3 hf3; have HO2b := HO2.out.kept hg3 (.inr (fun e => by have e2 : g2 = g1 := (by simpa [Value.ownBlock] using e); omega)); have hz3 := hg3.size; have hl3 := own_lt hown3 g3 rfl)
     | (refine app_fresh1 W10 #[.int .i64 s] rfl _ _ 58 2 rfl i0 _ 1 8 Tryz.underlying58 hi0 hz0 hz1 hz2 rfl (by omega) W.heap.size (some ⟨g2, 0, none⟩) m c2 _ rfl _ rfl rfl HO2b rfl (by simp [Value.oneCell']) (by unfold maxLen; omega) (by omega) (by omega) ?_; intro g4 c4 W11 hown4 hg4 hf4))
   have h32 : g3 ≠ g2 := by
     rcases hf3 with h | h
     · injection h with h; injection h with h; omega
     · omega
   have h34 : g3 ≠ g4 := by
     rcases hf4 with h | h
     · injection h with h; injection h with h; omega
     · omega
   have HO1c := hown3.kept hg4 (.inr (fun e => by have e2 : g3 = g2 := (by simpa [Value.ownBlock] using e); omega))
   have hbo2 := bl_grown (bl_grown hbo hg3 (fun k e => by have e2 : g1 = k := (by simpa using e); omega)) hg4 (fun k e => by have e2 : g2 = k := (by simpa using e); omega)
   exact ⟨⟨i + 1, m + 1, g3, c3, g4, c4, by go_num, by omega, by omega, rfl, rfl, h34, qH (by rw [HST.out, List.length_append, HL.out]; rfl), qH (by rw [HST.out, HEI.out]; exact HO1c), qH (by rw [HST.out, HEC.out]; exact hown4), hbo2⟩, by simp [intOf]; omega⟩
def chpP (xs : List Last) (f : Foot) (lo hi gi : Int) : Int × Int := match bstGo f lo hi gi none 0 xs with
 | some (k, _) => ((k : Int), 0)
 | none => (0, 10)
theorem chp_nil {xs : List Last} {f : Foot} {lo hi gi : Int} (h : alwGo f lo hi gi 0 xs = []) : chpP xs f lo hi gi = (0, 10) := by
 unfold chpP
 rw [bstGo_fold, h]; rfl
theorem chp_cons {xs : List Last} {f : Foot} {lo hi gi : Int} {p : Nat × Int} {l : List (Nat × Int)} (h : alwGo f lo hi gi 0 xs = p :: l) :
   ∃ (k v : Nat), idxE (minL (l.map (·.2)) p.2) (cstL (p :: l)) 0 = (k : Int) ∧ (idxL (p :: l))[k]? = some (v : Int) ∧ chpP xs f lo hi gi = ((v : Int), 0) := by
 obtain ⟨q, h1, _⟩ := fold_some l p
 obtain ⟨k, h2, h3⟩ := first_min l p q h1
 refine ⟨k, q.1, h2, by unfold idxL; rw [List.getElem?_map, h3]; rfl, ?_⟩
 unfold chpP
 rw [bstGo_fold, h, List.foldl_cons]
 have e : minS none p = some p := rfl
 rw [e, h1]
theorem bstP_yes {xs : List Last} {f : Foot} {lo hi gi : Int} (h1 : lasB xs = true) (h2 : footB f = true) (h3 : fitB lo hi gi = true) : bstP xs f lo hi gi = chpP xs f lo hi gi := by
 unfold bstP
 rw [h1, h2, h3]; rfl
theorem bstP_las {xs : List Last} {f : Foot} {lo hi gi : Int} (h1 : lasB xs = false) : bstP xs f lo hi gi = (0, 1) := by
 unfold bstP
 rw [h1]; rfl
theorem bstP_foot {xs : List Last} {f : Foot} {lo hi gi : Int} (h1 : footB f = false) : bstP xs f lo hi gi = (0, 1) := by
 unfold bstP
 rw [h1, Bool.false_and, Bool.and_false]; rfl
theorem bstP_fit {xs : List Last} {f : Foot} {lo hi gi : Int} (h1 : fitB lo hi gi = false) : bstP xs f lo hi gi = (0, 1) := by
 unfold bstP
 rw [h1, Bool.and_false, Bool.and_false]; rfl
set_option maxRecDepth 100000 in
set_option maxHeartbeats 4000000 in
theorem cheapest_c (A : Option Addr) (xs : List Last) (n c : Nat) (f : Foot) (lo hi gi : Int) (gw gf : Nat) (hn : Hid (xs.length = n)) (hm : n ≤ 30) (HLS : Hid (∀ x ∈ xs, lastB x = true)) (HF : Hid (footB f = true)) (HT : Hid (fitB lo hi gi = true)) (w : World)
   (hA : Arr w A (flat Last.cells xs)) (hB : Blk w gw 2 #[.int .i64 1, .int .i64 1, .int .i64 1, .int .i64 1]) (hG : Blk w gf 27 #[.int .i64 f.length, .int .i64 f.ball, .int .i64 f.instep, .int .i64 f.heel]) :
   Calls Tryz.prog 131 #[.slice A n c, .agg #[.int .i64 lo, .int .i64 hi, .int .i64 gi, .slice (some ⟨gw, 0, none⟩) 4 4], .slice (some ⟨gf, 0, none⟩) 1 1] w (RetT #[.int .i64 (chpP xs f lo hi gi).1, .int .i64 (chpP xs f lo hi gi).2] w) := by
 obtain ⟨W, hW⟩ : ∃ W, W = w.alloc (Obj.cells #[.int .i64 lo, .int .i64 hi, .int .i64 gi, .slice (some ⟨gw, 0, none⟩) 4 4] 120) := ⟨_, rfl⟩
 obtain ⟨gt, hgt⟩ : ∃ g, g = w.heap.size := ⟨_, rfl⟩
 have hv : Below w.heap.size w W := by rw [hW]; exact bl_alloc (Below.refl _ _) _
 have HTB : Hid (Blk W gt 120 #[.int .i64 lo, .int .i64 hi, .int .i64 gi, .slice (some ⟨gw, 0, none⟩) 4 4]) := qH (by rw [hW, hgt]; exact Blk.new _ _ _)
 have HAL := qH (allowed_c A xs n c f lo hi gi gw gf hn hm HLS HF HT W (hA.below hv) (hB.below hv) (hG.below hv))
 have HW := qH hW
 have HGT := qH hgt
 clear hW hgt hA hB hG
 go_enter Tryz.func131, Tryz.ntmps131
 go_upto_region 1 with fail
 rw [← HW.out, ← HGT.out]
 clear HW HGT
 go_wp2_with (refine wpList_load_row rfl 120 _ rfl gt rfl 120 _ (0, 0) _ HTB.out Tryz.underlying120 rfl (by kernel_rfl) ?_)
 refine HAL.out.mono ?_
 rintro e V ⟨g1, g2, m, c1, c2, rfl, hmm, hA1, hA2, hb⟩
 have hv2 : Below w.heap.size w V := bl_trans hv hb
 have hm30 : m ≤ 30 := by
   have h1 := alwGo_len f lo hi gi xs 0
   have h2 := hn.out
   omega
 clear HAL hb HTB hv
 cases hq : alwGo f lo hi gi 0 xs with
 | nil =>
   rw [hq] at hmm
   obtain rfl : m = 0 := hmm.symm
   have HR := qH (chp_nil hq)
   clear hq hA1 hA2
   go_wp2_with fail
   go_returns
   exact RetT.mk (by rw [HR.out]; rfl) hv2
 | cons p l =>
   obtain ⟨k, v, e1, e2, e3⟩ := chp_cons hq
   have HR := qH e3
   rw [hq] at hmm hA1 hA2
   have hm1 : 1 ≤ m := by rw [← hmm]; simp
   have hm0 : ¬ (m : Int) = 0 := by omega
   have hkm : k < m := by
     have h := (List.getElem?_eq_some_iff.1 e2).1
     unfold idxL at h
     rw [List.length_map, hmm] at h
     exact h
   have hlc : Hid ((cstL (p :: l)).length = m) := qH (by unfold cstL; rw [List.length_map]; exact hmm)
   have ek : (cstL (p :: l)) = p.2 :: l.map (·.2) := rfl
   obtain ⟨mn, hmn⟩ : ∃ z, z = minL (l.map (·.2)) p.2 := ⟨_, rfl⟩
   have HMIN := qH (fun (w : World) (h : Arr w (some ⟨g2, 0, none⟩) (flat icell (cstL (p :: l)))) => sMin_c (some ⟨g2, 0, none⟩) p.2 (l.map (fun q : Nat × Int => q.2)) m c2 hlc (by omega) w h)
   have HIDX := qH (fun (w : World) (h : Arr w (some ⟨g2, 0, none⟩) (flat icell (cstL (p :: l)))) => sIdx_c (some ⟨g2, 0, none⟩) (cstL (p :: l)) m c2 mn hlc (by omega) w h)
   rw [← hmn] at HMIN e1
   rw [e1] at HIDX
   obtain ⟨ad, had, _, v0⟩ := icell_at hA1 e2
   injection had with had
   subst had
   have HV := qH e2
   have HA1 := qH hA1
   have HA2 := qH hA2
   have hk0 : (0 : Int) ≤ (k : Int) := by omega
   have hk1 : (k : Int) < (m : Int) := by omega
   clear hq hA1 hA2 hmm ek e1 e2 e3 hmn hlc v0
   go_wp2_with fail
   refine (HMIN.out _ HA2.out).mono ?_
   rintro e V2 ⟨rfl, hb⟩
   replace hv2 := bl_trans hv2 hb
   replace HA1 := qH (HA1.out.below hb)
   replace HA2 := qH (HA2.out.below hb)
   clear hb
   go_wp2_with fail
   refine (HIDX.out _ HA2.out).mono ?_
   rintro e V3 ⟨rfl, hb⟩
   replace hv2 := bl_trans hv2 hb
   replace HA1 := qH (HA1.out.below hb)
   clear hb HMIN HIDX HA2
   obtain ⟨ad, had, _, v0⟩ := icell_at HA1.out HV.out
   injection had with had
   subst had
   rw [show (⟨g1, 0, none⟩ : Addr).add k = ⟨g1, k, none⟩ by unfold Addr.add; split <;> simp_all] at v0
   go_wp2_with fail
   go_returns
   exact RetT.mk (by rw [HR.out]; rfl) hv2
set_option maxRecDepth 100000 in
set_option maxHeartbeats 4000000 in
theorem BestLast_c (A : Option Addr) (xs : List Last) (n c : Nat) (f : Foot) (lo hi gi : Int) (gw : Nat) (hn : Hid (xs.length = n)) (hm : (n : Int) ≤ 1048576) (hs : Hid (∀ x ∈ xs, x.name.size ≤ 9223372036854775807)) (w : World)
   (hA : Arr w A (flat Last.cells xs)) (hB : Blk w gw 2 #[.int .i64 1, .int .i64 1, .int .i64 1, .int .i64 1]) :
   Calls Tryz.prog 75 #[.slice A n c, .agg #[.int .i64 f.length, .int .i64 f.ball, .int .i64 f.instep, .int .i64 f.heel], .agg #[.int .i64 lo, .int .i64 hi, .int .i64 gi, .slice (some ⟨gw, 0, none⟩) 4 4]] w (RetT #[.int .i64 (bstP xs f lo hi gi).1, .int .i64 (bstP xs f lo hi gi).2] w) := by
 obtain ⟨gf, hgf⟩ : ∃ z, z = w.heap.size := ⟨_, rfl⟩
 obtain ⟨gt, hgt⟩ : ∃ z, z = w.heap.size + 1 := ⟨_, rfl⟩
 obtain ⟨W, hW⟩ : ∃ z, z = (w.alloc (Obj.cells #[.int .i64 f.length, .int .i64 f.ball, .int .i64 f.instep, .int .i64 f.heel] 27)).alloc (Obj.cells #[.int .i64 lo, .int .i64 hi, .int .i64 gi, .slice (some ⟨gw, 0, none⟩) 4 4] 120) := ⟨_, rfl⟩
 have hv : Below w.heap.size w W := by rw [hW]; exact bl_alloc (bl_alloc (Below.refl _ _) _) _
 have HF1 : Hid (Blk W gf 27 #[.int .i64 f.length, .int .i64 f.ball, .int .i64 f.instep, .int .i64 f.heel]) := qH (by rw [hW, hgf]; exact (Blk.new w _ _).alloc _)
 have HT1 : Hid (Blk W gt 120 #[.int .i64 lo, .int .i64 hi, .int .i64 gi, .slice (some ⟨gw, 0, none⟩) 4 4]) := qH (by
   have h := Blk.new (w.alloc (Obj.cells #[.int .i64 f.length, .int .i64 f.ball, .int .i64 f.instep, .int .i64 f.heel] 27)) 120 #[Value.int .i64 lo, Value.int .i64 hi, Value.int .i64 gi, Value.slice (some ⟨gw, 0, none⟩) 4 4]
   rw [World.size_alloc] at h
   rw [hW, hgt]; exact h)
 have HA := qH (hA.below hv)
 have HB := qH (hB.below hv)
 have HW := qH hW
 have G1 := qH hgf
 have G2 := qH hgt
 clear hW hgf hgt hA hB
 go_enter Tryz.func75, Tryz.ntmps75
 go_upto_region 1 with fail
 rw [← HW.out, ← G2.out, ← G1.out]
 clear HW G1 G2
 have H1 := qH (fun w h => ValidLasts_c A xs n c hn hm hs w h)
 have H2 := qH (fun w => ValidFoot_c f w)
 have H3 := qH (fun w h => ValidFit_c lo hi gi gw w h)
 have HR0 := qH (fun h1 => bstP_las (xs := xs) (f := f) (lo := lo) (hi := hi) (gi := gi) h1)
 have HR1 := qH (fun h1 => bstP_foot (xs := xs) (f := f) (lo := lo) (hi := hi) (gi := gi) h1)
 have HR2 := qH (fun h1 => bstP_fit (xs := xs) (f := f) (lo := lo) (hi := hi) (gi := gi) h1)
 have HR3 := qH (fun h1 h2 h3 => bstP_yes (xs := xs) (f := f) (lo := lo) (hi := hi) (gi := gi) h1 h2 h3)
 have HL3 := qH (fun h1 => las_mem (xs := xs) h1)
 obtain ⟨b1, e1⟩ : ∃ z, z = lasB xs := ⟨_, rfl⟩
 obtain ⟨b2, e2⟩ : ∃ z, z = footB f := ⟨_, rfl⟩
 obtain ⟨b3, e3⟩ : ∃ z, z = fitB lo hi gi := ⟨_, rfl⟩
 rw [← e1] at H1
 rw [← e2] at H2
 rw [← e3] at H3
 have E1 := qH e1
 have E2 := qH e2
 have E3 := qH e3
 clear e1 e2 e3
 go_wp2_with (first | (refine wpList_load_row rfl 27 _ rfl gf rfl 27 _ (0, 0) _ HF1.out Tryz.underlying27 rfl (by kernel_rfl) ?_) | (refine wpList_load_row rfl 120 _ rfl gt rfl 120 _ (0, 0) _ HT1.out Tryz.underlying120 rfl (by kernel_rfl) ?_))
 refine (H1.out _ HA.out).mono ?_
 rintro e Z1 ⟨rfl, hb⟩
 replace hv := bl_trans hv hb
 replace HA := qH (HA.out.below hb)
 replace HB := qH (HB.out.below hb)
 replace HF1 := qH (HF1.out.below hb)
 replace HT1 := qH (HT1.out.below hb)
 clear hb
 cases b1
 · have HR := qH (HR0.out E1.out.symm)
   go_wp2_with (first | (refine wpList_load_row rfl 27 _ rfl gf rfl 27 _ (0, 0) _ HF1.out Tryz.underlying27 rfl (by kernel_rfl) ?_) | (refine wpList_load_row rfl 120 _ rfl gt rfl 120 _ (0, 0) _ HT1.out Tryz.underlying120 rfl (by kernel_rfl) ?_))
   go_returns
   exact RetT.mk (by rw [HR.out]; rfl) hv
 have c0 : Z1.cell? ⟨gf, 0, none⟩ = some (.int .i64 f.length) := HF1.out.cell 0
 have c1 : Z1.cell? ⟨gf, 1, none⟩ = some (.int .i64 f.ball) := HF1.out.cell 1
 have c2 : Z1.cell? ⟨gf, 2, none⟩ = some (.int .i64 f.instep) := HF1.out.cell 2
 have c3 : Z1.cell? ⟨gf, 3, none⟩ = some (.int .i64 f.heel) := HF1.out.cell 3
 go_wp2_with fail
 refine (H2.out _).mono ?_
 rintro e Z2 ⟨rfl, hb⟩
 replace hv := bl_trans hv hb
 replace HA := qH (HA.out.below hb)
 replace HB := qH (HB.out.below hb)
 replace HF1 := qH (HF1.out.below hb)
 replace HT1 := qH (HT1.out.below hb)
 clear hb
 cases b2
 · have HR := qH (HR1.out E2.out.symm)
   go_wp2_with (first | (refine wpList_load_row rfl 27 _ rfl gf rfl 27 _ (0, 0) _ HF1.out Tryz.underlying27 rfl (by kernel_rfl) ?_) | (refine wpList_load_row rfl 120 _ rfl gt rfl 120 _ (0, 0) _ HT1.out Tryz.underlying120 rfl (by kernel_rfl) ?_))
   go_returns
   exact RetT.mk (by rw [HR.out]; rfl) hv
 clear c0 c1 c2 c3
 have c0 : Z2.cell? ⟨gt, 0, none⟩ = some (.int .i64 lo) := HT1.out.cell 0
 have c1 : Z2.cell? ⟨gt, 1, none⟩ = some (.int .i64 hi) := HT1.out.cell 1
 have c2 : Z2.cell? ⟨gt, 2, none⟩ = some (.int .i64 gi) := HT1.out.cell 2
 have c3 : Z2.cell? ⟨gt, 3, none⟩ = some (.slice (some ⟨gw, 0, none⟩) 4 4) := HT1.out.cell 3
 go_wp2_with fail
 refine (H3.out _ HB.out).mono ?_
 rintro e Z3 ⟨rfl, hb⟩
 replace hv := bl_trans hv hb
 replace HA := qH (HA.out.below hb)
 replace HB := qH (HB.out.below hb)
 replace HF1 := qH (HF1.out.below hb)
 replace HT1 := qH (HT1.out.below hb)
 clear hb
 cases b3
 · have HR := qH (HR2.out E3.out.symm)
   go_wp2_with (first | (refine wpList_load_row rfl 27 _ rfl gf rfl 27 _ (0, 0) _ HF1.out Tryz.underlying27 rfl (by kernel_rfl) ?_) | (refine wpList_load_row rfl 120 _ rfl gt rfl 120 _ (0, 0) _ HT1.out Tryz.underlying120 rfl (by kernel_rfl) ?_))
   go_returns
   exact RetT.mk (by rw [HR.out]; rfl) hv
 clear c0 c1 c2 c3
 have HR := qH (HR3.out E1.out.symm E2.out.symm E3.out.symm)
 have hn30 : n ≤ 30 := by
   have h1 := las_len E1.out.symm
   have h2 := hn.out
   omega
 have HCH := qH (fun gy w h1 h2 h3 => cheapest_c A xs n c f lo hi gi gw gy hn hn30 (qH (HL3.out E1.out.symm)) (qH E2.out.symm) (qH E3.out.symm) w h1 h2 h3)
 clear H1 H2 H3 HR0 HR1 HR2 HR3 HL3 E1 E2 E3
 go_wp2_with (first | (refine wpList_load_row rfl 27 _ rfl gf rfl 27 _ (0, 0) _ HF1.out Tryz.underlying27 rfl (by kernel_rfl) ?_) | (refine wpList_load_row rfl 120 _ rfl gt rfl 120 _ (0, 0) _ HT1.out Tryz.underlying120 rfl (by kernel_rfl) ?_) | (refine (HCH.out _ _ (HA.out.alloc _) (HB.out.alloc _) (Blk.new _ _ _)).mono ?_; rintro e Z4 ⟨rfl, hb⟩))
 have hb2 : Below Z3.heap.size Z3 Z4 := bl_trans (bl_alloc (Below.refl _ _) _) hb
 replace hv := bl_trans hv hb2
 go_wp2_with fail
 go_returns
 exact RetT.mk (by rw [HR.out]; rfl) hv
theorem rdL_few (s : ByteArray) : (rdL s).1.length ≤ s.size := Nat.le_trans (rdL_good s).few (rdL_good s).le
theorem cdL_small {s : ByteArray} (h : cdL s = 0) : s.size ≤ 4000 := by
 unfold cdL at h
 split at h
 · cases h
 · omega
end Go.Proofs.YtpiehlfffjhoaaaGreatDoor
