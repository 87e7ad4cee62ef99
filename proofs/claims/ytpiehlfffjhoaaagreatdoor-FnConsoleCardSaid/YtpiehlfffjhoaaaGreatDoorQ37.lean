/- Lemmas for the law on the console: the parts CoF, CoG. -/
import Derived.Test.YtpiehlfffjhoaaaGreatDoorQ0
import Derived.Test.YtpiehlfffjhoaaaGreatDoorQ34
import Derived.Test.YtpiehlfffjhoaaaGreatDoorQ36
import Derived.Test.YtpiehlfffjhoaaaGreatDoorQ18
import Derived.Test.YtpiehlfffjhoaaaGreatDoorQ35
namespace Go.Proofs.YtpiehlfffjhoaaaGreatDoor
open Go.RowKit
theorem nm12 {t : ByteArray} (h : nameB t = true) : t.size ≤ 12 := by
 by_cases h12 : 12 < t.size
 · rw [nameB_long (.inl h12)] at h; cases h
 · omega
theorem sty12 {x : Style} (hx : styB x = true) : x.upper.size ≤ 4194304 ∧ x.color.size ≤ 4194304 ∧ x.lining.size ≤ 4194304 ∧ x.sole.size ≤ 4194304 := by
 rw [styB_parts] at hx
 obtain ⟨h1, h2, h3, h4, _⟩ := hx
 have e1 := nm12 h1
 have e2 := nm12 h2
 have e4 := nm12 h4
 rw [Bool.or_eq_true] at h3
 refine ⟨by omega, by omega, ?_, by omega⟩
 rcases h3 with h | h
 · have := of_decide_eq_true h; omega
 · have := nm12 h; omega
theorem blk_range {w : World} {g : Nat} {t : TypeId} {cs : Array Value} (h : Blk w g t cs) (o : Nat) (vs : List Value) (he : (cs.toList.drop o).take vs.length = vs) : w.rangeAt g o vs := fun j v hj => by
 have hl : j < vs.length := (List.getElem?_eq_some_iff.1 hj).1
 rw [h.cell, ← hj, ← he, List.getElem?_take, if_pos hl, List.getElem?_drop, Array.getElem?_toList]
theorem blk_many {g : Nat} {t : TypeId} : ∀ (vs cs : List Value) (o : Nat) (w : World), Blk w g t cs.toArray → Blk (w.setCells g o vs) g t (setMany cs o vs).toArray
 | [], _, _, _, h => h
 | v :: r, cs, o, w, h => blk_many r (cs.set o v) (o + 1) _ (by have h1 := h.set_ o v; rwa [List.setIfInBounds_toArray] at h1)
set_option maxRecDepth 100000 in
set_option maxHeartbeats 8000000 in
theorem exe_style (w0 w : World) (gd ga : Nat) (f : Foot) (xs : List Last) (s : Style) (lg : ByteArray) (n c : Nat) (A An : Option Addr) (ws : List ByteArray) (ns : List Int) (nw kn cn : Nat) (h : XIn w0 w gd ga f xs s lg n c A An ws ns nw kn) (hk : nthD ws 0 = kStyle) (h2 : 2 ≤ nw) :
   Calls Tryz.prog 35 #[.pointer (some ⟨gd, 0, none⟩), .slice (some ⟨ga, 0, none⟩) nw nw, .slice An kn cn] w (OutX w0 gd (styleD ⟨f, xs, s, lg⟩ (restD ws))) := by
 have HBW := qH h.hbw
 have HWS := qH h.hws
 have HD : Hid (Blk w gd 32 #[.int .i64 f.length, .int .i64 f.ball, .int .i64 f.instep, .int .i64 f.heel, .slice A n c, .string s.upper, .string s.color, .string s.lining, .string s.sole, .int .i64 s.thick, .int .i64 s.heel, .int .i64 s.eyelets, .int .i64 s.density, .bool s.double, .string lg]) := qH h.hdk
 have HO := qH h.hown
 have HNE := qH h.hne
 have HT := qH h.htabs
 have HCN := qH h.hchg
 have HOK := qH h.hok
 have HSZ := qH h.hsz
 have hn := h.hn
 have hnw := h.hnw
 have hkn := h.hkn
 have hgd := h.hgd
 have hn30 := h.n30
 have hnw0 := h.nw0
 have hnw1 := h.nw1
 have HJ := qH (h.join)
 have hx0 := h.word0 hk
 have HK := qH hk
 have hrz := h.hrsz
 clear h hk
 have hl1 : (1 : Int) ≤ (nw : Int) := by omega
 have hl2 : ¬ (nw - 1 = 0) := by omega
 have hl0 : (0 : Int) < (nw : Int) := by omega
 have hx1 : w.cell? ⟨ga, 0, none⟩ = some (.string ⟨#[115, 116, 121, 108, 101]⟩) := hx0
 clear hx0
 go_enter Tryz.func35, Tryz.ntmps35
 go_wp2_with fail
 refine HJ.out.mono ?_
 rintro e W ⟨rfl, hb⟩
 obtain ⟨rt, hrt⟩ : ∃ z, z = restD ws := ⟨_, rfl⟩
 have HRT := qH hrt
 rw [← hrt]
 rw [← hrt] at hrz
 clear hrt HJ
 replace HBW := qH (bl_trans HBW.out hb)
 replace HD := qH (HD.out.below hb)
 replace HO := qH (own_below HO.out hb)
 replace hx1 := bl_cell hb hx1
 clear hb
 clear hl1 hl2
 have HRF := fun w h => ReadStyle_c rt hrz w h
 have HFD : Hid (styleD ⟨f, xs, s, lg⟩ rt = if rdC rt = 0 then (⟨f, xs, rdS rt, lg⟩, [textS (rdS rt)], 0) else (⟨f, xs, s, lg⟩, [], rdC rt)) := qH rfl
 have HSY := qH (fun (hc : (styleD ⟨f, xs, s, lg⟩ rt).2.2 = 0) => (ok_parts (styleD_ok HOK.out hc).1).2.2.1)
 obtain ⟨y, hy⟩ : ∃ z, z = rdS rt := ⟨_, rfl⟩
 obtain ⟨co, hco⟩ : ∃ z, z = rdC rt := ⟨_, rfl⟩
 rw [← hy, ← hco] at HRF HFD
 rw [HFD.out] at HSY
 replace HRF := qH HRF
 clear hy hco
 go_wp2_with fail
 refine (HRF.out _ (HT.out.below HBW.out)).mono ?_
 rintro e W2 ⟨rfl, hb⟩
 replace HBW := qH (bl_trans HBW.out hb)
 replace HD := qH (HD.out.below hb)
 replace HO := qH (own_below HO.out hb)
 clear hb
 have hsz := HBW.out.size
 obtain ⟨gz, hgz⟩ : ∃ z, z = W2.heap.size := ⟨_, rfl⟩
 obtain ⟨W3, hW3⟩ : ∃ z, z = W2.alloc (Obj.cells #[.string ⟨#[]⟩, .string ⟨#[]⟩, .string ⟨#[]⟩, .string ⟨#[]⟩, .int .i64 0, .int .i64 0, .int .i64 0, .int .i64 0, .bool false] 30) := ⟨_, rfl⟩
 have HB0 : Hid (Blk W3 gz 30 #[.string ⟨#[]⟩, .string ⟨#[]⟩, .string ⟨#[]⟩, .string ⟨#[]⟩, .int .i64 0, .int .i64 0, .int .i64 0, .int .i64 0, .bool false]) := qH (by rw [hW3, hgz]; exact Blk.new _ _ _)
 have hb : Below W2.heap.size W2 W3 := by rw [hW3]; exact bl_alloc (Below.refl _ _) _
 have hgw : w0.heap.size ≤ gz := by omega
 have hgne : gd < gz := by have := HD.out.lt; omega
 have hone : Hid (∀ k, (Value.slice A n c).ownBlock = some k → k ≠ gz) := qH (fun k e => by have := own_lt HO.out k e; omega)
 have HG := qH hgz
 have HW := qH hW3
 clear hgz hW3
 replace HBW := qH (bl_trans HBW.out hb)
 replace HD := qH (HD.out.below hb)
 replace HO := qH (own_below HO.out hb)
 clear hb
 by_cases hc : co = 0
 case neg =>
   have HE := qH (HFD.out.trans (if_neg hc))
   go_wp2_with (rw [← HW.out, ← HG.out]; refine wpList_store_row rfl 30 _ _ rfl gz #[.string y.upper, .string y.color, .string y.lining, .string y.sole, .int .i64 y.thick, .int .i64 y.heel, .int .i64 y.eyelets, .int .i64 y.density, .bool y.double] rfl rfl 30 _ HB0.out (by kernel_rfl) rfl (by simp [Value.oneCell']) ?_)
   go_returns
   exact OutX.no (by rw [← HRT.out, HE.out]) hc (below_rowX HBW.out hgw _)
 case pos =>
   subst hc
   have HE := qH (HFD.out.trans (if_pos rfl))
   have HST := qH (HSY.out (by rw [if_pos rfl]))
   rw [if_pos rfl] at HST
   have HFT := qH (fun w h => StyleText_c y HST w h)
   go_wp2_with (first
     | (refine wpList_load_row rfl 30 _ rfl gz rfl 30 _ (0, 0) _ HF5.out Tryz.underlying30 rfl (by kernel_rfl) ?_)
     | (refine wpList_load_row rfl 30 _ rfl gz rfl 30 _ (0, 0) _ HF4.out Tryz.underlying30 rfl (by kernel_rfl) ?_)
     | (refine wpList_store_mid rfl 30 _ _ rfl gd 5 #[Value.string y.upper, Value.string y.color, Value.string y.lining, Value.string y.sole, Value.int .i64 y.thick, Value.int .i64 y.heel, Value.int .i64 y.eyelets, Value.int .i64 y.density, Value.bool y.double] rfl rfl (blk_there HD4.out (by show 5 + 9 ≤ 15; omega)) (by kernel_rfl) (by simp [Value.oneCell']) ?_
        have HD5 : Hid (Blk (World.setCells W4 gd 5 (Array.toList #[Value.string y.upper, Value.string y.color, Value.string y.lining, Value.string y.sole, Value.int .i64 y.thick, Value.int .i64 y.heel, Value.int .i64 y.eyelets, Value.int .i64 y.density, Value.bool y.double])) gd 32 #[.int .i64 f.length, .int .i64 f.ball, .int .i64 f.instep, .int .i64 f.heel, .slice A n c, .string y.upper, .string y.color, .string y.lining, .string y.sole, .int .i64 y.thick, .int .i64 y.heel, .int .i64 y.eyelets, .int .i64 y.density, .bool y.double, .string lg]) := qH (blk_many [Value.string y.upper, Value.string y.color, Value.string y.lining, Value.string y.sole, Value.int .i64 y.thick, Value.int .i64 y.heel, Value.int .i64 y.eyelets, Value.int .i64 y.density, Value.bool y.double] [Value.int .i64 f.length, Value.int .i64 f.ball, Value.int .i64 f.instep, Value.int .i64 f.heel, Value.slice A n c, Value.string s.upper, Value.string s.color, Value.string s.lining, Value.string s.sole, Value.int .i64 s.thick, Value.int .i64 s.heel, Value.int .i64 s.eyelets, Value.int .i64 s.density, Value.bool s.double, Value.string lg] 5 W4 HD4.out)
        have HF5 := qH (blk_farC (g' := gd) HF4.out (by omega) (o := 5) (Array.toList #[Value.string y.upper, Value.string y.color, Value.string y.lining, Value.string y.sole, Value.int .i64 y.thick, Value.int .i64 y.heel, Value.int .i64 y.eyelets, Value.int .i64 y.density, Value.bool y.double]))
        have HO5 := qH (own_cells HO4.out HNE.out 5 (Array.toList #[Value.string y.upper, Value.string y.color, Value.string y.lining, Value.string y.sole, Value.int .i64 y.thick, Value.int .i64 y.heel, Value.int .i64 y.eyelets, Value.int .i64 y.density, Value.bool y.double]))
        have HBW5 := qH (bl_cells HBW4.out hgd 5 (Array.toList #[Value.string y.upper, Value.string y.color, Value.string y.lining, Value.string y.sole, Value.int .i64 y.thick, Value.int .i64 y.heel, Value.int .i64 y.eyelets, Value.int .i64 y.density, Value.bool y.double]))
        obtain ⟨W5, hW5⟩ : ∃ z, z = World.setCells W4 gd 5 (Array.toList #[Value.string y.upper, Value.string y.color, Value.string y.lining, Value.string y.sole, Value.int .i64 y.thick, Value.int .i64 y.heel, Value.int .i64 y.eyelets, Value.int .i64 y.density, Value.bool y.double]) := ⟨_, rfl⟩
        rw [← hW5] at HD5 HF5 HO5 HBW5 ⊢
        clear hW5
        clear HD4 HF4 HO4 HBW4)
     | (rw [← HW.out, ← HG.out]; refine wpList_store_row rfl 30 _ _ rfl gz #[.string y.upper, .string y.color, .string y.lining, .string y.sole, .int .i64 y.thick, .int .i64 y.heel, .int .i64 y.eyelets, .int .i64 y.density, .bool y.double] rfl rfl 30 _ HB0.out (by kernel_rfl) rfl (by simp [Value.oneCell']) ?_
        have HF4 : Hid (Blk (World.setRow W3 gz #[Value.string y.upper, Value.string y.color, Value.string y.lining, Value.string y.sole, Value.int .i64 y.thick, Value.int .i64 y.heel, Value.int .i64 y.eyelets, Value.int .i64 y.density, Value.bool y.double]) gz 30 #[.string y.upper, .string y.color, .string y.lining, .string y.sole, .int .i64 y.thick, .int .i64 y.heel, .int .i64 y.eyelets, .int .i64 y.density, .bool y.double]) := qH (setRow_heap _ _ _ _ _ _ HB0.out)
        have hg4 := grown_rowX W3 gz #[Value.string y.upper, Value.string y.color, Value.string y.lining, Value.string y.sole, Value.int .i64 y.thick, Value.int .i64 y.heel, Value.int .i64 y.eyelets, Value.int .i64 y.density, Value.bool y.double]
        have HD4 := qH (HD.out.grown hg4 (fun e => by injection e with e; omega))
        have HO4 := qH (own_row HO.out hone.out #[Value.string y.upper, Value.string y.color, Value.string y.lining, Value.string y.sole, Value.int .i64 y.thick, Value.int .i64 y.heel, Value.int .i64 y.eyelets, Value.int .i64 y.density, Value.bool y.double])
        have HBW4 := qH (below_rowX HBW.out hgw #[Value.string y.upper, Value.string y.color, Value.string y.lining, Value.string y.sole, Value.int .i64 y.thick, Value.int .i64 y.heel, Value.int .i64 y.eyelets, Value.int .i64 y.density, Value.bool y.double])
        clear hg4
        obtain ⟨W4, hW4⟩ : ∃ z, z = World.setRow W3 gz #[Value.string y.upper, Value.string y.color, Value.string y.lining, Value.string y.sole, Value.int .i64 y.thick, Value.int .i64 y.heel, Value.int .i64 y.eyelets, Value.int .i64 y.density, Value.bool y.double] := ⟨_, rfl⟩
        rw [← hW4] at HF4 HD4 HO4 HBW4 ⊢
        clear hW4))
   refine (HFT.out _ (HT.out.below HBW5.out)).mono ?_
   rintro e W6 ⟨rfl, hb⟩
   have HD6 := qH (HD5.out.below hb)
   have HO6 := qH (own_below HO5.out hb)
   have HBW6 := qH (bl_trans HBW5.out hb)
   clear hb HF5 HD5 HO5 HBW5
   go_wp2_with fail
   go_returns
   exact OutX.one (by rw [← HRT.out, HE.out]) hn.out HBW6.out HO6.out HD6.out
set_option maxRecDepth 100000 in
set_option maxHeartbeats 8000000 in
theorem exe_clause (w0 w : World) (gd ga : Nat) (f : Foot) (xs : List Last) (s : Style) (lg : ByteArray) (n c : Nat) (A An : Option Addr) (ws : List ByteArray) (ns : List Int) (nw kn cn : Nat) (h : XIn w0 w gd ga f xs s lg n c A An ws ns nw kn) (hk : nthD ws 0 = kClause) (h2 : 2 ≤ nw) :
   Calls Tryz.prog 35 #[.pointer (some ⟨gd, 0, none⟩), .slice (some ⟨ga, 0, none⟩) nw nw, .slice An kn cn] w (OutX w0 gd (clauseD ⟨f, xs, s, lg⟩ (restD ws))) := by
 have HBW := qH h.hbw
 have HWS := qH h.hws
 have HD : Hid (Blk w gd 32 #[.int .i64 f.length, .int .i64 f.ball, .int .i64 f.instep, .int .i64 f.heel, .slice A n c, .string s.upper, .string s.color, .string s.lining, .string s.sole, .int .i64 s.thick, .int .i64 s.heel, .int .i64 s.eyelets, .int .i64 s.density, .bool s.double, .string lg]) := qH h.hdk
 have HO := qH h.hown
 have HNE := qH h.hne
 have HT := qH h.htabs
 have HCN := qH h.hchg
 have HOK := qH h.hok
 have HSZ := qH h.hsz
 have hn := h.hn
 have hnw := h.hnw
 have hkn := h.hkn
 have hgd := h.hgd
 have hn30 := h.n30
 have hnw0 := h.nw0
 have hnw1 := h.nw1
 have HJ := qH (h.join)
 have hx0 := h.word0 hk
 have HK := qH hk
 have hrz := h.hrsz
 clear h hk
 have hl1 : (1 : Int) ≤ (nw : Int) := by omega
 have hl2 : ¬ (nw - 1 = 0) := by omega
 have hl0 : (0 : Int) < (nw : Int) := by omega
 have hx1 : w.cell? ⟨ga, 0, none⟩ = some (.string ⟨#[99, 108, 97, 117, 115, 101]⟩) := hx0
 clear hx0
 go_enter Tryz.func35, Tryz.ntmps35
 go_wp2_with fail
 refine HJ.out.mono ?_
 rintro e W ⟨rfl, hb⟩
 obtain ⟨rt, hrt⟩ : ∃ z, z = restD ws := ⟨_, rfl⟩
 have HRT := qH hrt
 rw [← hrt]
 rw [← hrt] at hrz
 clear hrt HJ
 replace HBW := qH (bl_trans HBW.out hb)
 replace HD := qH (HD.out.below hb)
 replace HO := qH (own_below HO.out hb)
 replace hx1 := bl_cell hb hx1
 clear hb
 clear hl1 hl2
 have HRF := fun w h => ChangeStyle_c s (qH (sty12 (ok_parts HOK.out).2.2.1)) rt hrz w h
 have HFD : Hid (clauseD ⟨f, xs, s, lg⟩ rt = if chgC s rt = 0 then (⟨f, xs, chgS s rt, lg⟩, [textS (chgS s rt)], 0) else (⟨f, xs, s, lg⟩, [], chgC s rt)) := qH rfl
 have HSY := qH (fun (hc : (clauseD ⟨f, xs, s, lg⟩ rt).2.2 = 0) => (ok_parts (clauseD_ok HOK.out hc).1).2.2.1)
 obtain ⟨y, hy⟩ : ∃ z, z = chgS s rt := ⟨_, rfl⟩
 obtain ⟨co, hco⟩ : ∃ z, z = chgC s rt := ⟨_, rfl⟩
 rw [← hy, ← hco] at HRF HFD
 rw [HFD.out] at HSY
 replace HRF := qH HRF
 clear hy hco
 go_wp2_with ((refine wpList_load_mid rfl 30 _ rfl gd 5 rfl [Value.string s.upper, Value.string s.color, Value.string s.lining, Value.string s.sole, Value.int .i64 s.thick, Value.int .i64 s.heel, Value.int .i64 s.eyelets, Value.int .i64 s.density, Value.bool s.double] _ (blk_range HD.out 5 [Value.string s.upper, Value.string s.color, Value.string s.lining, Value.string s.sole, Value.int .i64 s.thick, Value.int .i64 s.heel, Value.int .i64 s.eyelets, Value.int .i64 s.density, Value.bool s.double] rfl) Tryz.underlying30 rfl (by kernel_rfl) ?_))
 refine (HRF.out _ (HT.out.below HBW.out)).mono ?_
 rintro e W2 ⟨rfl, hb⟩
 replace HBW := qH (bl_trans HBW.out hb)
 replace HD := qH (HD.out.below hb)
 replace HO := qH (own_below HO.out hb)
 clear hb
 have hsz := HBW.out.size
 obtain ⟨gz, hgz⟩ : ∃ z, z = W2.heap.size := ⟨_, rfl⟩
 obtain ⟨W3, hW3⟩ : ∃ z, z = W2.alloc (Obj.cells #[.string ⟨#[]⟩, .string ⟨#[]⟩, .string ⟨#[]⟩, .string ⟨#[]⟩, .int .i64 0, .int .i64 0, .int .i64 0, .int .i64 0, .bool false] 30) := ⟨_, rfl⟩
 have HB0 : Hid (Blk W3 gz 30 #[.string ⟨#[]⟩, .string ⟨#[]⟩, .string ⟨#[]⟩, .string ⟨#[]⟩, .int .i64 0, .int .i64 0, .int .i64 0, .int .i64 0, .bool false]) := qH (by rw [hW3, hgz]; exact Blk.new _ _ _)
 have hb : Below W2.heap.size W2 W3 := by rw [hW3]; exact bl_alloc (Below.refl _ _) _
 have hgw : w0.heap.size ≤ gz := by omega
 have hgne : gd < gz := by have := HD.out.lt; omega
 have hone : Hid (∀ k, (Value.slice A n c).ownBlock = some k → k ≠ gz) := qH (fun k e => by have := own_lt HO.out k e; omega)
 have HG := qH hgz
 have HW := qH hW3
 clear hgz hW3
 replace HBW := qH (bl_trans HBW.out hb)
 replace HD := qH (HD.out.below hb)
 replace HO := qH (own_below HO.out hb)
 clear hb
 by_cases hc : co = 0
 case neg =>
   have HE := qH (HFD.out.trans (if_neg hc))
   go_wp2_with (rw [← HW.out, ← HG.out]; refine wpList_store_row rfl 30 _ _ rfl gz #[.string y.upper, .string y.color, .string y.lining, .string y.sole, .int .i64 y.thick, .int .i64 y.heel, .int .i64 y.eyelets, .int .i64 y.density, .bool y.double] rfl rfl 30 _ HB0.out (by kernel_rfl) rfl (by simp [Value.oneCell']) ?_)
   go_returns
   exact OutX.no (by rw [← HRT.out, HE.out]) hc (below_rowX HBW.out hgw _)
 case pos =>
   subst hc
   have HE := qH (HFD.out.trans (if_pos rfl))
   have HST := qH (HSY.out (by rw [if_pos rfl]))
   rw [if_pos rfl] at HST
   have HFT := qH (fun w h => StyleText_c y HST w h)
   go_wp2_with (first
     | (refine wpList_load_row rfl 30 _ rfl gz rfl 30 _ (0, 0) _ HF5.out Tryz.underlying30 rfl (by kernel_rfl) ?_)
     | (refine wpList_load_row rfl 30 _ rfl gz rfl 30 _ (0, 0) _ HF4.out Tryz.underlying30 rfl (by kernel_rfl) ?_)
     | (refine wpList_store_mid rfl 30 _ _ rfl gd 5 #[Value.string y.upper, Value.string y.color, Value.string y.lining, Value.string y.sole, Value.int .i64 y.thick, Value.int .i64 y.heel, Value.int .i64 y.eyelets, Value.int .i64 y.density, Value.bool y.double] rfl rfl (blk_there HD4.out (by show 5 + 9 ≤ 15; omega)) (by kernel_rfl) (by simp [Value.oneCell']) ?_
        have HD5 : Hid (Blk (World.setCells W4 gd 5 (Array.toList #[Value.string y.upper, Value.string y.color, Value.string y.lining, Value.string y.sole, Value.int .i64 y.thick, Value.int .i64 y.heel, Value.int .i64 y.eyelets, Value.int .i64 y.density, Value.bool y.double])) gd 32 #[.int .i64 f.length, .int .i64 f.ball, .int .i64 f.instep, .int .i64 f.heel, .slice A n c, .string y.upper, .string y.color, .string y.lining, .string y.sole, .int .i64 y.thick, .int .i64 y.heel, .int .i64 y.eyelets, .int .i64 y.density, .bool y.double, .string lg]) := qH (blk_many [Value.string y.upper, Value.string y.color, Value.string y.lining, Value.string y.sole, Value.int .i64 y.thick, Value.int .i64 y.heel, Value.int .i64 y.eyelets, Value.int .i64 y.density, Value.bool y.double] [Value.int .i64 f.length, Value.int .i64 f.ball, Value.int .i64 f.instep, Value.int .i64 f.heel, Value.slice A n c, Value.string s.upper, Value.string s.color, Value.string s.lining, Value.string s.sole, Value.int .i64 s.thick, Value.int .i64 s.heel, Value.int .i64 s.eyelets, Value.int .i64 s.density, Value.bool s.double, Value.string lg] 5 W4 HD4.out)
        have HF5 := qH (blk_farC (g' := gd) HF4.out (by omega) (o := 5) (Array.toList #[Value.string y.upper, Value.string y.color, Value.string y.lining, Value.string y.sole, Value.int .i64 y.thick, Value.int .i64 y.heel, Value.int .i64 y.eyelets, Value.int .i64 y.density, Value.bool y.double]))
        have HO5 := qH (own_cells HO4.out HNE.out 5 (Array.toList #[Value.string y.upper, Value.string y.color, Value.string y.lining, Value.string y.sole, Value.int .i64 y.thick, Value.int .i64 y.heel, Value.int .i64 y.eyelets, Value.int .i64 y.density, Value.bool y.double]))
        have HBW5 := qH (bl_cells HBW4.out hgd 5 (Array.toList #[Value.string y.upper, Value.string y.color, Value.string y.lining, Value.string y.sole, Value.int .i64 y.thick, Value.int .i64 y.heel, Value.int .i64 y.eyelets, Value.int .i64 y.density, Value.bool y.double]))
        obtain ⟨W5, hW5⟩ : ∃ z, z = World.setCells W4 gd 5 (Array.toList #[Value.string y.upper, Value.string y.color, Value.string y.lining, Value.string y.sole, Value.int .i64 y.thick, Value.int .i64 y.heel, Value.int .i64 y.eyelets, Value.int .i64 y.density, Value.bool y.double]) := ⟨_, rfl⟩
        rw [← hW5] at HD5 HF5 HO5 HBW5 ⊢
        clear hW5
        clear HD4 HF4 HO4 HBW4)
     | (rw [← HW.out, ← HG.out]; refine wpList_store_row rfl 30 _ _ rfl gz #[.string y.upper, .string y.color, .string y.lining, .string y.sole, .int .i64 y.thick, .int .i64 y.heel, .int .i64 y.eyelets, .int .i64 y.density, .bool y.double] rfl rfl 30 _ HB0.out (by kernel_rfl) rfl (by simp [Value.oneCell']) ?_
        have HF4 : Hid (Blk (World.setRow W3 gz #[Value.string y.upper, Value.string y.color, Value.string y.lining, Value.string y.sole, Value.int .i64 y.thick, Value.int .i64 y.heel, Value.int .i64 y.eyelets, Value.int .i64 y.density, Value.bool y.double]) gz 30 #[.string y.upper, .string y.color, .string y.lining, .string y.sole, .int .i64 y.thick, .int .i64 y.heel, .int .i64 y.eyelets, .int .i64 y.density, .bool y.double]) := qH (setRow_heap _ _ _ _ _ _ HB0.out)
        have hg4 := grown_rowX W3 gz #[Value.string y.upper, Value.string y.color, Value.string y.lining, Value.string y.sole, Value.int .i64 y.thick, Value.int .i64 y.heel, Value.int .i64 y.eyelets, Value.int .i64 y.density, Value.bool y.double]
        have HD4 := qH (HD.out.grown hg4 (fun e => by injection e with e; omega))
        have HO4 := qH (own_row HO.out hone.out #[Value.string y.upper, Value.string y.color, Value.string y.lining, Value.string y.sole, Value.int .i64 y.thick, Value.int .i64 y.heel, Value.int .i64 y.eyelets, Value.int .i64 y.density, Value.bool y.double])
        have HBW4 := qH (below_rowX HBW.out hgw #[Value.string y.upper, Value.string y.color, Value.string y.lining, Value.string y.sole, Value.int .i64 y.thick, Value.int .i64 y.heel, Value.int .i64 y.eyelets, Value.int .i64 y.density, Value.bool y.double])
        clear hg4
        obtain ⟨W4, hW4⟩ : ∃ z, z = World.setRow W3 gz #[Value.string y.upper, Value.string y.color, Value.string y.lining, Value.string y.sole, Value.int .i64 y.thick, Value.int .i64 y.heel, Value.int .i64 y.eyelets, Value.int .i64 y.density, Value.bool y.double] := ⟨_, rfl⟩
        rw [← hW4] at HF4 HD4 HO4 HBW4 ⊢
        clear hW4))
   refine (HFT.out _ (HT.out.below HBW5.out)).mono ?_
   rintro e W6 ⟨rfl, hb⟩
   have HD6 := qH (HD5.out.below hb)
   have HO6 := qH (own_below HO5.out hb)
   have HBW6 := qH (bl_trans HBW5.out hb)
   clear hb HF5 HD5 HO5 HBW5
   go_wp2_with fail
   go_returns
   exact OutX.one (by rw [← HRT.out, HE.out]) hn.out HBW6.out HO6.out HD6.out
set_option maxRecDepth 100000 in
set_option maxHeartbeats 8000000 in
theorem exe_last (w0 w : World) (gd ga : Nat) (f : Foot) (xs : List Last) (s : Style) (lg : ByteArray) (n c : Nat) (A An : Option Addr) (ws : List ByteArray) (ns : List Int) (nw kn cn : Nat) (h : XIn w0 w gd ga f xs s lg n c A An ws ns nw kn) (hk : nthD ws 0 = kLast) (h2 : 2 ≤ nw) :
   Calls Tryz.prog 35 #[.pointer (some ⟨gd, 0, none⟩), .slice (some ⟨ga, 0, none⟩) nw nw, .slice An kn cn] w (OutX w0 gd (lastD' ⟨f, xs, s, lg⟩ (restD ws))) := by
 have HBW := qH h.hbw
 have HWS := qH h.hws
 have HD : Hid (Blk w gd 32 #[.int .i64 f.length, .int .i64 f.ball, .int .i64 f.instep, .int .i64 f.heel, .slice A n c, .string s.upper, .string s.color, .string s.lining, .string s.sole, .int .i64 s.thick, .int .i64 s.heel, .int .i64 s.eyelets, .int .i64 s.density, .bool s.double, .string lg]) := qH h.hdk
 have HO := qH h.hown
 have HNE := qH h.hne
 have HT := qH h.htabs
 have HCN := qH h.hchg
 have HOK := qH h.hok
 have HSZ := qH h.hsz
 have hn := h.hn
 have hnw := h.hnw
 have hkn := h.hkn
 have hgd := h.hgd
 have hn30 := h.n30
 have hnw0 := h.nw0
 have hnw1 := h.nw1
 have HJ := qH (h.join)
 have hx0 := h.word0 hk
 have HK := qH hk
 have hrz : (restD ws).size ≤ 4194304 := Nat.le_trans h.hrsz (by omega)
 obtain ⟨hfB, hlB, hsB, hcB⟩ := ok_parts h.hok
 have HFT := qH (sty_fits hsB)
 have hlg := cdL_small hcB
 have HNZ : Hid (∀ x ∈ xs, x.name.size ≤ 9223372036854775807) := qH (fun x hx => Nat.le_trans (lastB_name (las_mem hlB x hx)) (by omega))
 clear h hk
 have hl1 : (1 : Int) ≤ (nw : Int) := by omega
 have hl2 : ¬ (nw - 1 = 0) := by omega
 have hl0 : (0 : Int) < (nw : Int) := by omega
 have hx1 : w.cell? ⟨ga, 0, none⟩ = some (.string ⟨#[108, 97, 115, 116]⟩) := hx0
 clear hx0
 go_enter Tryz.func35, Tryz.ntmps35
 go_wp2_with fail
 refine HJ.out.mono ?_
 rintro e W ⟨rfl, hb⟩
 obtain ⟨rt, hrt⟩ : ∃ z, z = restD ws := ⟨_, rfl⟩
 have HRT := qH hrt
 rw [← hrt]
 rw [← hrt] at hrz
 clear hrt HJ
 replace HBW := qH (bl_trans HBW.out hb)
 replace HD := qH (HD.out.below hb)
 replace HO := qH (own_below HO.out hb)
 replace hx1 := bl_cell hb hx1
 clear hb
 clear hl1 hl2
 have HRF := fun w h => ReadLast_c rt hrz w h
 have HSO := qH (fun x (h : rdLa rt = some x) => (rdLa_some h).2)
 have HNO := qH (fun (h : rdLa rt = none) => (show lastD' ⟨f, xs, s, lg⟩ rt = (⟨f, xs, s, lg⟩, [], 7) by unfold lastD'; rw [h]; rfl))
 have HYE := qH (fun x (h : rdLa rt = some x) => (show lastD' ⟨f, xs, s, lg⟩ rt = if (addP xs x).2 = 0 then (⟨f, (addP xs x).1, s, lg⟩, [deskT f (addP xs x).1.length], 0) else (⟨f, xs, s, lg⟩, [], (addP xs x).2) by unfold lastD'; rw [h]; rfl))
 have HLO := qH (fun (hc : (lastD' ⟨f, xs, s, lg⟩ rt).2.2 = 0) => (lastD_ok HOK.out hc).1)
 obtain ⟨o, ho⟩ : ∃ z, z = rdLa rt := ⟨_, rfl⟩
 rw [← ho] at HRF HSO HNO HYE
 replace HRF := qH HRF
 clear ho
 go_wp2_with fail
 refine (HRF.out _ (HT.out.below HBW.out)).mono ?_
 rintro e W2 ⟨rfl, hb⟩
 replace HBW := qH (bl_trans HBW.out hb)
 replace HD := qH (HD.out.below hb)
 replace HO := qH (own_below HO.out hb)
 clear hb
 have hsz := HBW.out.size
 obtain ⟨gz, hgz⟩ : ∃ z, z = W2.heap.size := ⟨_, rfl⟩
 obtain ⟨W3, hW3⟩ : ∃ z, z = W2.alloc (Obj.cells #[.string ⟨#[]⟩, .int .i64 0, .int .i64 0, .int .i64 0, .int .i64 0, .int .i64 0] 100) := ⟨_, rfl⟩
 have HB0 : Hid (Blk W3 gz 100 #[.string ⟨#[]⟩, .int .i64 0, .int .i64 0, .int .i64 0, .int .i64 0, .int .i64 0]) := qH (by rw [hW3, hgz]; exact Blk.new _ _ _)
 have hb : Below W2.heap.size W2 W3 := by rw [hW3]; exact bl_alloc (Below.refl _ _) _
 have hgw : w0.heap.size ≤ gz := by omega
 have hgne : gd < gz := by have := HD.out.lt; omega
 have hone : Hid (∀ k, (Value.slice A n c).ownBlock = some k → k ≠ gz) := qH (fun k e => by have := own_lt HO.out k e; omega)
 have HG := qH hgz
 have HW := qH hW3
 clear hgz hW3
 replace HBW := qH (bl_trans HBW.out hb)
 replace HD := qH (HD.out.below hb)
 replace HO := qH (own_below HO.out hb)
 clear hb
 cases o with
 | none =>
   rw [show outLa none = #[.agg #[.string ⟨#[]⟩, .int .i64 0, .int .i64 0, .int .i64 0, .int .i64 0, .int .i64 0], .bool false] from rfl]
   have HE := qH (HNO.out rfl)
   go_wp2_with (rw [← HW.out, ← HG.out]; refine wpList_store_row rfl 100 _ _ rfl gz #[.string ⟨#[]⟩, .int .i64 0, .int .i64 0, .int .i64 0, .int .i64 0, .int .i64 0] rfl rfl 100 _ HB0.out (by kernel_rfl) rfl (by simp [Value.oneCell']) ?_)
   go_returns
   exact OutX.no (by rw [← HRT.out, HE.out]) (by decide) (below_rowX HBW.out hgw _)
 | some x =>
   rw [show outLa (some x) = #[.agg #[.string x.name, .int .i64 x.length, .int .i64 x.ball, .int .i64 x.instep, .int .i64 x.heel, .int .i64 x.pitch], .bool true] from rfl]
   have HXB := qH (HSO.out x rfl)
   have hxz : x.name.size ≤ 9223372036854775807 := Nat.le_trans (lastB_name HXB.out) (by omega)
   have HE := qH (HYE.out x rfl)
   clear HSO HNO HYE HRF
   have HAL := fun w h => AddLast_c A xs n c x hn (by omega) HNZ hxz w h
   have hap := addP_len xs x
   have HADK := qH (fun (h : (addP xs x).2 = 0) => (add_ok h).1)
   obtain ⟨ys, hys⟩ : ∃ z, z = (addP xs x).1 := ⟨_, rfl⟩
   obtain ⟨co, hco⟩ : ∃ z, z = (addP xs x).2 := ⟨_, rfl⟩
   rw [← hys] at HAL HE hap HADK
   rw [← hco] at HAL HE HADK
   clear hys hco
   obtain ⟨n2, hn2⟩ : ∃ z, z = ys.length := ⟨_, rfl⟩
   rw [← hn2] at HAL hap HE
   have HN2 : Hid (ys.length = n2) := qH hn2.symm
   clear hn2
   replace HAL := qH HAL
   go_upto_region 13 with (rw [← HW.out, ← HG.out]; refine wpList_store_row rfl 100 _ _ rfl gz #[.string x.name, .int .i64 x.length, .int .i64 x.ball, .int .i64 x.instep, .int .i64 x.heel, .int .i64 x.pitch] rfl rfl 100 _ HB0.out (by kernel_rfl) rfl (by simp [Value.oneCell']) ?_; have hf4 : Blk (World.setRow W3 gz #[Value.string x.name, Value.int .i64 x.length, Value.int .i64 x.ball, Value.int .i64 x.instep, Value.int .i64 x.heel, Value.int .i64 x.pitch]) gz 100 #[.string x.name, .int .i64 x.length, .int .i64 x.ball, .int .i64 x.instep, .int .i64 x.heel, .int .i64 x.pitch] := setRow_heap _ _ _ _ _ _ HB0.out; have hg4 := grown_rowX W3 gz #[Value.string x.name, Value.int .i64 x.length, Value.int .i64 x.ball, Value.int .i64 x.instep, Value.int .i64 x.heel, Value.int .i64 x.pitch]; have hd4 := HD.out.grown hg4 (fun e => by injection e with e; omega); have ho4 := own_row HO.out hone.out #[Value.string x.name, Value.int .i64 x.length, Value.int .i64 x.ball, Value.int .i64 x.instep, Value.int .i64 x.heel, Value.int .i64 x.pitch]; have hw4 := below_rowX HBW.out hgw #[Value.string x.name, Value.int .i64 x.length, Value.int .i64 x.ball, Value.int .i64 x.instep, Value.int .i64 x.heel, Value.int .i64 x.pitch]; clear hg4 HD HO HBW HB0; obtain ⟨W4, hW4⟩ : ∃ z, z = World.setRow W3 gz #[Value.string x.name, Value.int .i64 x.length, Value.int .i64 x.ball, Value.int .i64 x.instep, Value.int .i64 x.heel, Value.int .i64 x.pitch] := ⟨_, rfl⟩; rw [← hW4] at hf4 hd4 ho4 hw4 ⊢; have HB0 := qH hf4; have HD := qH hd4; have HO := qH ho4; have HBW := qH hw4; clear hW4 hf4 hd4 ho4 hw4)
   obtain ⟨m0, m1, m2, m3, m4, m5⟩ := qC6 HB0.out
   have c4 : W4.cell? ⟨gd, 4, none⟩ = some (.slice A n c) := HD.out.cell 4
   refine wp_region_held_drew (S := fun w' => Below W4.heap.size W4 w' ∧ True) (by as_aux_lemma => kernel_rfl) ?_ (fun hHeld => ?_)
   · exact ⟨(Below.refl _ _).drew, trivial⟩
   have hd9 := hHeld.1
   refine zU 0 72 rfl (by assumption) ?_
   try simp only [Act.put, zA, zB, zC]
   refine zU 1 73 rfl (by assumption) ?_
   try simp only [Act.put, zA, zB, zC]
   refine zU 2 74 rfl (by assumption) ?_
   try simp only [Act.put, zA, zB, zC]
   refine zT 3 75 ?_ rfl ?_ (by assumption) ?_
   rotate_left
   · intro w hSw
     try dsimp only at hSw
     have x_c4 := bl_cell hSw.1 c4
     go_simp
     try with_reducible rfl
   try simp only [Act.put, zA, zB, zC]
   refine zT 4 76 ?_ rfl ?_ (by assumption) ?_
   rotate_left
   · intro w hSw
     try dsimp only at hSw
     have x_m0 := bl_cell hSw.1 m0
     have x_m1 := bl_cell hSw.1 m1
     have x_m2 := bl_cell hSw.1 m2
     have x_m3 := bl_cell hSw.1 m3
     have x_m4 := bl_cell hSw.1 m4
     have x_m5 := bl_cell hSw.1 m5
     go_simp
     try with_reducible rfl
   try simp only [Act.put, zA, zB, zC]
   refine zR 5 (some 77) rfl (fun K hK => ?_)
   go_simp
   (try dsimp only at hHeld); go_split_ands
   refine (HAL.out _ (Arr.own (own_below HO.out hd9))).mono ?_
   rintro e V ⟨A2, c2, rfl, hown, hb9⟩
   have hown2 := own_base hown hd9.size
   replace hd9 := bl_trans hd9 hb9
   clear hb9 hown
   go_wp2_with fail
   refine hK.out _ _ ?_ (fun hHeld => ?_)
   · (try dsimp only); go_split_ands; exact ⟨hd9, trivial⟩
   clear hK K
   try simp only [Act.put, zA, zB, zC]
   refine zU 6 71 rfl (by assumption) ?_
   try simp only [Act.put, zA, zB, zC]
   refine zU 7 78 rfl (by assumption) ?_
   try simp only [Act.put, zA, zB, zC]
   refine zU 8 79 rfl (by assumption) ?_
   try simp only [Act.put, zA, zB, zC]
   refine zU 9 13 rfl (by assumption) ?_
   try simp only [Act.put, zA, zB, zC]
   refine zU 10 14 rfl (by assumption) ?_
   try simp only [Act.put, zA, zB, zC]
   refine wpAnyH_done (by as_aux_lemma => kernel_rfl) ?_ _
   clear hHeld c4 m0 m1 m2 m3 m4 m5 HAL
   have HO2 := qH (own_base hown2 HBW.out.size)
   have hfar : Hid (∀ k, (Value.slice A2 n2 c2).ownBlock = some k → k ≠ gd) := qH (fun k e => by have := own_at hown2 k e; have := HD.out.lt; omega)
   have hb := hd9
   clear hown2 hd9
   replace HBW := qH (bl_trans HBW.out hb)
   replace HD := qH (HD.out.below hb)
   replace HO := qH (own_below HO.out hb)
   clear hb
   by_cases hc : co = 0
   case neg =>
     rw [if_neg hc] at HE
     go_wp2_with fail
     go_returns
     exact OutX.no (by rw [← HRT.out, HE.out]) hc HBW.out
   subst hc
   rw [if_pos rfl] at HE
   have HLB := qH (HADK.out rfl)
   have HDT := fun w h ht => DeskText_c f s lg A2 ys n2 c2 HN2 (by omega) (qH (fun x hx => Nat.le_trans (lastB_name (las_mem HLB.out x hx)) (by omega))) HFT (by omega) w h ht
   have hok2 := HLO.out (by rw [HE.out])
   rw [HE.out] at hok2
   rw [show deskX f ys s lg n2 = deskT f n2 by unfold deskX; exact if_pos hok2] at HDT
   replace HDT := qH HDT
   clear hok2
   have c4 : V.cell? ⟨gd, 4, none⟩ = some (.slice A n c) := HD.out.cell 4
   have f4 : V.frozen? ⟨gd, 4, none⟩ = false := HD.out.frozen 4
   have HD5 : Hid (Blk (V.setCell ⟨gd, 4, none⟩ (.slice A2 n2 c2)) gd 32 #[.int .i64 f.length, .int .i64 f.ball, .int .i64 f.instep, .int .i64 f.heel, .slice A2 n2 c2, .string s.upper, .string s.color, .string s.lining, .string s.sole, .int .i64 s.thick, .int .i64 s.heel, .int .i64 s.eyelets, .int .i64 s.density, .bool s.double, .string lg]) := qH (HD.out.set_ 4 _)
   have HO5 := qH (own_far HO2.out (p := ⟨gd, 4, none⟩) hfar.out (.slice A2 n2 c2))
   have HBW5 := qH (bl_set HBW.out (p := ⟨gd, 4, none⟩) hgd (.slice A2 n2 c2))
   go_upto_region 17 with fail
   obtain ⟨V2, hV2⟩ : ∃ z, z = V.setCell ⟨gd, 4, none⟩ (.slice A2 n2 c2) := ⟨_, rfl⟩
   rw [← hV2] at HD5 HO5 HBW5 ⊢
   clear hV2 f4 c4 HO HD HBW HO2
   go_wp2_with (refine wpList_load_row rfl 32 _ rfl gd rfl 32 _ (0, 0) _ HD5.out Tryz.underlying32 rfl (by kernel_rfl) ?_)
   refine (HDT.out _ (Arr.own HO5.out) (HT.out.below HBW5.out)).mono ?_
   rintro e W6 ⟨rfl, hb⟩
   have HD6 := qH (HD5.out.below hb)
   have HO6 := qH (own_below HO5.out hb)
   have HBW6 := qH (bl_trans HBW5.out hb)
   clear hb HD5 HO5 HBW5
   go_wp2_with fail
   go_returns
   exact OutX.one (by rw [← HRT.out, HE.out]) HN2.out HBW6.out HO6.out HD6.out
end Go.Proofs.YtpiehlfffjhoaaaGreatDoor
