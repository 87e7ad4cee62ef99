/- Lemmas for the law on the console: the parts CoE, StyK, StyJ, StyD, StyF. -/
import Derived.Test.YtpiehlfffjhoaaaGreatDoorQ0
import Derived.Test.YtpiehlfffjhoaaaGreatDoorQ34
import Derived.Test.YtpiehlfffjhoaaaGreatDoorQ11
import Derived.Test.YtpiehlfffjhoaaaGreatDoorQ16
import Derived.Test.YtpiehlfffjhoaaaGreatDoorQ2
import Derived.Test.YtpiehlfffjhoaaaGreatDoorQ25
namespace Go.Proofs.YtpiehlfffjhoaaaGreatDoor
open Go.RowKit
set_option maxRecDepth 100000 in
set_option maxHeartbeats 8000000 in
theorem exe_foot (w0 w : World) (gd ga : Nat) (f : Foot) (xs : List Last) (s : Style) (lg : ByteArray) (n c : Nat) (A An : Option Addr) (ws : List ByteArray) (ns : List Int) (nw kn cn : Nat) (h : XIn w0 w gd ga f xs s lg n c A An ws ns nw kn) (hk : nthD ws 0 = kFoot) (h2 : 2 ≤ nw) :
   Calls Tryz.prog 35 #[.pointer (some ⟨gd, 0, none⟩), .slice (some ⟨ga, 0, none⟩) nw nw, .slice An kn cn] w (OutX w0 gd (footD ⟨f, xs, s, lg⟩ (restD ws))) := by
 have HBW := qH h.hbw
 have HWS := qH h.hws
 have HD : Hid (Blk w gd 32 #[.int .i64 f.length, .int .i64 f.ball, .int .i64 f.instep, .int .i64 f.heel, .slice A n c, .string s.upper, .string s.color, .string s.lining, .string s.sole, .int .i64 s.thick, .int .i64 s.heel, .int .i64 s.eyelets, .int .i64 s.density, .bool s.double, .string lg]) := qH h.hdk
 have HO := qH h.hown
 have HNE := qH h.hne
 have HT := qH h.htabs
 have HCN := qH h.hchg
 have HOK := qH h.hok
 have HSZ := qH h.hsz
 have hn := h.hn
 have hnw := h.hnw
 have hkn := h.hkn
 have hgd := h.hgd
 have hn30 := h.n30
 have hnw0 := h.nw0
 have hnw1 := h.nw1
 have HJ := qH (h.join)
 have hx0 := h.word0 hk
 have HK := qH hk
 have hrz : (restD ws).size ≤ 4194304 := Nat.le_trans h.hrsz (by omega)
 clear h hk
 have hl1 : (1 : Int) ≤ (nw : Int) := by omega
 have hl2 : ¬ (nw - 1 = 0) := by omega
 have hl0 : (0 : Int) < (nw : Int) := by omega
 have hx1 : w.cell? ⟨ga, 0, none⟩ = some (.string ⟨#[102, 111, 111, 116]⟩) := hx0
 clear hx0
 go_enter Tryz.func35, Tryz.ntmps35
 go_wp2_with fail
 refine HJ.out.mono ?_
 rintro e W ⟨rfl, hb⟩
 obtain ⟨rt, hrt⟩ : ∃ z, z = restD ws := ⟨_, rfl⟩
 have HRT := qH hrt
 rw [← hrt]
 rw [← hrt] at hrz
 clear hrt HJ
 replace HBW := qH (bl_trans HBW.out hb)
 replace HD := qH (HD.out.below hb)
 replace HO := qH (own_below HO.out hb)
 replace hx1 := bl_cell hb hx1
 clear hb
 clear hl1 hl2
 have HRF := fun w h => ReadFoot_c rt hrz w h
 have HFD : Hid (footD ⟨f, xs, s, lg⟩ rt = match rdFo rt with
   | some g => (⟨g, xs, s, lg⟩, [footT g], 0)
   | none => (⟨f, xs, s, lg⟩, [], 7)) := qH rfl
 have HSO := qH (fun g (h : rdFo rt = some g) => (rdFo_some h).2)
 obtain ⟨o, ho⟩ : ∃ z, z = rdFo rt := ⟨_, rfl⟩
 rw [← ho] at HRF HFD HSO
 replace HRF := qH HRF
 clear ho
 go_wp2_with fail
 refine (HRF.out _ (HT.out.below HBW.out)).mono ?_
 rintro e W2 ⟨rfl, hb⟩
 replace HBW := qH (bl_trans HBW.out hb)
 replace HD := qH (HD.out.below hb)
 replace HO := qH (own_below HO.out hb)
 clear hb
 have hsz := HBW.out.size
 obtain ⟨gz, hgz⟩ : ∃ z, z = W2.heap.size := ⟨_, rfl⟩
 obtain ⟨W3, hW3⟩ : ∃ z, z = W2.alloc (Obj.cells #[.int .i64 0, .int .i64 0, .int .i64 0, .int .i64 0] 27) := ⟨_, rfl⟩
 have HB0 : Hid (Blk W3 gz 27 #[.int .i64 0, .int .i64 0, .int .i64 0, .int .i64 0]) := qH (by rw [hW3, hgz]; exact Blk.new _ _ _)
 have hb : Below W2.heap.size W2 W3 := by rw [hW3]; exact bl_alloc (Below.refl _ _) _
 have hgw : w0.heap.size ≤ gz := by omega
 have hgne : gd < gz := by have := HD.out.lt; omega
 have hone : Hid (∀ k, (Value.slice A n c).ownBlock = some k → k ≠ gz) := qH (fun k e => by have := own_lt HO.out k e; omega)
 have HG := qH hgz
 have HW := qH hW3
 clear hgz hW3
 replace HBW := qH (bl_trans HBW.out hb)
 replace HD := qH (HD.out.below hb)
 replace HO := qH (own_below HO.out hb)
 clear hb
 cases o with
 | none =>
   rw [show outFo none = #[.agg #[.int .i64 0, .int .i64 0, .int .i64 0, .int .i64 0], .bool false] from rfl]
   have HE := qH (HFD.out : footD ⟨f, xs, s, lg⟩ rt = (⟨f, xs, s, lg⟩, [], 7))
   go_wp2_with (rw [← HW.out, ← HG.out]; refine wpList_store_row rfl 27 _ _ rfl gz #[.int .i64 0, .int .i64 0, .int .i64 0, .int .i64 0] rfl rfl 27 _ HB0.out (by kernel_rfl) rfl (by simp [Value.oneCell']) ?_)
   go_returns
   exact OutX.no (by rw [← HRT.out, HE.out]) (by decide) (below_rowX HBW.out hgw _)
 | some g =>
   rw [show outFo (some g) = #[.agg #[.int .i64 g.length, .int .i64 g.ball, .int .i64 g.instep, .int .i64 g.heel], .bool true] from rfl]
   have HE := qH (HFD.out : footD ⟨f, xs, s, lg⟩ rt = (⟨g, xs, s, lg⟩, [footT g], 0))
   have HFG := qH (HSO.out g rfl)
   have HFT := qH (fun w h => FootTextB_c g w h)
   have HTT := qH (show ftB g = footT g by unfold ftB; rw [if_pos HFG.out])
   go_wp2_with (first
     | (refine wpList_load_row rfl 27 _ rfl gz rfl 27 _ (0, 0) _ HF5.out Tryz.underlying27 rfl (by kernel_rfl) ?_)
     | (refine wpList_load_row rfl 27 _ rfl gz rfl 27 _ (0, 0) _ HF4.out Tryz.underlying27 rfl (by kernel_rfl) ?_)
     | (refine wpList_store_mid rfl 27 _ _ rfl gd 0 #[Value.int .i64 g.length, Value.int .i64 g.ball, Value.int .i64 g.instep, Value.int .i64 g.heel] rfl rfl (blk_there HD4.out (by show 0 + 4 ≤ 15; omega)) (by kernel_rfl) (by simp [Value.oneCell']) ?_
        have HD5 : Hid (Blk (World.setCells W4 gd 0 (Array.toList #[Value.int .i64 g.length, Value.int .i64 g.ball, Value.int .i64 g.instep, Value.int .i64 g.heel])) gd 32 #[.int .i64 g.length, .int .i64 g.ball, .int .i64 g.instep, .int .i64 g.heel, .slice A n c, .string s.upper, .string s.color, .string s.lining, .string s.sole, .int .i64 s.thick, .int .i64 s.heel, .int .i64 s.eyelets, .int .i64 s.density, .bool s.double, .string lg]) := qH ((((HD4.out.set_ 0 _).set_ 1 _).set_ 2 _).set_ 3 _)
        have HF5 := qH (blk_farC (g' := gd) HF4.out (by omega) (o := 0) (Array.toList #[Value.int .i64 g.length, Value.int .i64 g.ball, Value.int .i64 g.instep, Value.int .i64 g.heel]))
        have HO5 := qH (own_cells HO4.out HNE.out 0 (Array.toList #[Value.int .i64 g.length, Value.int .i64 g.ball, Value.int .i64 g.instep, Value.int .i64 g.heel]))
        have HBW5 := qH (bl_cells HBW4.out hgd 0 (Array.toList #[Value.int .i64 g.length, Value.int .i64 g.ball, Value.int .i64 g.instep, Value.int .i64 g.heel]))
        obtain ⟨W5, hW5⟩ : ∃ z, z = World.setCells W4 gd 0 (Array.toList #[Value.int .i64 g.length, Value.int .i64 g.ball, Value.int .i64 g.instep, Value.int .i64 g.heel]) := ⟨_, rfl⟩
        rw [← hW5] at HD5 HF5 HO5 HBW5 ⊢
        clear hW5
        clear HD4 HF4 HO4 HBW4)
     | (rw [← HW.out, ← HG.out]; refine wpList_store_row rfl 27 _ _ rfl gz #[.int .i64 g.length, .int .i64 g.ball, .int .i64 g.instep, .int .i64 g.heel] rfl rfl 27 _ HB0.out (by kernel_rfl) rfl (by simp [Value.oneCell']) ?_
        have HF4 : Hid (Blk (World.setRow W3 gz #[Value.int .i64 g.length, Value.int .i64 g.ball, Value.int .i64 g.instep, Value.int .i64 g.heel]) gz 27 #[.int .i64 g.length, .int .i64 g.ball, .int .i64 g.instep, .int .i64 g.heel]) := qH (setRow_heap _ _ _ _ _ _ HB0.out)
        have hg4 := grown_rowX W3 gz #[Value.int .i64 g.length, Value.int .i64 g.ball, Value.int .i64 g.instep, Value.int .i64 g.heel]
        have HD4 := qH (HD.out.grown hg4 (fun e => by injection e with e; omega))
        have HO4 := qH (own_row HO.out hone.out #[Value.int .i64 g.length, Value.int .i64 g.ball, Value.int .i64 g.instep, Value.int .i64 g.heel])
        have HBW4 := qH (below_rowX HBW.out hgw #[Value.int .i64 g.length, Value.int .i64 g.ball, Value.int .i64 g.instep, Value.int .i64 g.heel])
        clear hg4
        obtain ⟨W4, hW4⟩ : ∃ z, z = World.setRow W3 gz #[Value.int .i64 g.length, Value.int .i64 g.ball, Value.int .i64 g.instep, Value.int .i64 g.heel] := ⟨_, rfl⟩
        rw [← hW4] at HF4 HD4 HO4 HBW4 ⊢
        clear hW4))
   refine (HFT.out _ (HT.out.below HBW5.out)).mono ?_
   rintro e W6 ⟨rfl, hb⟩
   have HD6 := qH (HD5.out.below hb)
   have HO6 := qH (own_below HO5.out hb)
   have HBW6 := qH (bl_trans HBW5.out hb)
   clear hb HF5 HD5 HO5 HBW5
   rw [HTT.out]
   go_wp2_with fail
   go_returns
   exact OutX.one (by rw [← HRT.out, HE.out]) hn.out HBW6.out HO6.out HD6.out
def cl3 (x : Style) : ByteArray := if 0 < x.heel then ⟨#[104, 101, 101, 108, 32]⟩ ++ decI x.heel else ⟨#[]⟩
def cl4 (x : Style) : ByteArray := if 0 < x.eyelets then ⟨#[101, 121, 101, 108, 101, 116, 115, 32]⟩ ++ decI x.eyelets else ⟨#[]⟩
def cl5a (x : Style) : ByteArray := if 0 < x.density then ⟨#[115, 116, 105, 116, 99, 104, 32]⟩ ++ decI x.density else ⟨#[]⟩
def cl5 (x : Style) : ByteArray := if x.double = true then cl5a x ++ ⟨#[32, 100, 111, 117, 98, 108, 101]⟩ else cl5a x
theorem cl_txt {x : Style} (hx : styB x = true) : cl3 x = txt3 x ∧ cl4 x = txt4 x ∧ cl5 x = txt5 x := by
 rw [styB_parts] at hx
 obtain ⟨_, _, _, _, _, h6, h7, h8⟩ := hx
 rw [inB_iff] at h6 h7
 refine ⟨?_, ?_, ?_⟩
 · unfold cl3 txt3
   by_cases h : x.heel = 0
   · rw [if_pos h, if_neg (by omega)]
   · rw [if_neg h, if_pos (by omega)]
 · unfold cl4 txt4
   by_cases h : x.eyelets = 0
   · rw [if_pos h, if_neg (by omega)]
   · rw [if_neg h, if_pos (by omega)]
 · have hd : cl5a x = txt5a x := by
     unfold cl5a txt5a
     rw [Bool.or_eq_true, Bool.and_eq_true, decide_eq_true_eq, Bool.not_eq_true', inB_iff] at h8
     rcases h8 with ⟨h1, h2⟩ | h8
     · rw [if_neg (by omega : ¬ 0 < x.density), if_pos (show x.density = 0 ∧ x.double = false from ⟨h1, h2⟩)]
     · rw [if_pos (by omega : 0 < x.density), if_neg (show ¬ (x.density = 0 ∧ x.double = false) from fun h => by have := h.1; omega)]
   unfold cl5 txt5
   rw [hd]
def clK (k : Int) (x : Style) : ByteArray := if k = 0 then txt0 x else if k = 1 then txt1 x else if k = 2 then txt2 x else if k = 3 then cl3 x else if k = 4 then cl4 x else cl5 x
theorem clK_txt {x : Style} (hx : styB x = true) (k : Nat) (hk : k < 6) : (txts x)[k]? = some (clK k x) := by
 obtain ⟨h3, h4, h5⟩ := cl_txt hx
 rcases k with _ | _ | _ | _ | _ | _ | k <;> first | omega | (simp [txts, clK, h3, h4, h5]; done)
theorem clK0 (x : Style) : clK 0 x = txt0 x := by simp [clK]
theorem clK1 (x : Style) : clK 1 x = txt1 x := by simp [clK]
theorem clK2 (x : Style) : clK 2 x = txt2 x := by simp [clK]
theorem clK3 (x : Style) : clK 3 x = cl3 x := by simp [clK]
theorem clK4 (x : Style) : clK 4 x = cl4 x := by simp [clK]
theorem clK5 (x : Style) : clK 5 x = cl5 x := by simp [clK]
theorem name_small {t : ByteArray} (h : nameB t = true) : t.size ≤ 12 := by
 by_cases h12 : 12 < t.size
 · rw [nameB_long (.inl h12)] at h; cases h
 · omega
theorem sty_small {x : Style} (hx : styB x = true) : (x.upper.size ≤ 12 ∧ x.color.size ≤ 12 ∧ x.lining.size ≤ 12 ∧ x.sole.size ≤ 12) ∧ (10 ≤ x.thick ∧ x.thick ≤ 300) ∧ (0 ≤ x.heel ∧ x.heel ≤ 1200) ∧ (0 ≤ x.eyelets ∧ x.eyelets ≤ 12) ∧ (0 ≤ x.density ∧ x.density ≤ 80) := by
 rw [styB_parts] at hx
 obtain ⟨h1, h2, h3, h4, h5, h6, h7, h8⟩ := hx
 rw [inB_iff] at h5 h6 h7
 rw [Bool.or_eq_true] at h3 h8
 refine ⟨⟨name_small h1, name_small h2, ?_, name_small h4⟩, h5, h6, h7, ?_⟩
 · rcases h3 with h | h
   · have := of_decide_eq_true h; omega
   · exact name_small h
 · rcases h8 with h | h
   · rw [Bool.and_eq_true, decide_eq_true_eq] at h; omega
   · rw [inB_iff] at h; omega
set_option maxRecDepth 100000 in
set_option maxHeartbeats 8000000 in
theorem clause_c (x : Style) (hx : Hid (styB x = true)) (t : ByteArray) (ht : t ∈ styW) (w : World) (hT : Tabs w) : Calls Tryz.prog 141 #[.agg #[.string x.upper, .string x.color, .string x.lining, .string x.sole, .int .i64 x.thick, .int .i64 x.heel, .int .i64 x.eyelets, .int .i64 x.density, .bool x.double], .string t] w (Ret (.string (clK (kindW t) x)) w) := by
 have HT := qH hT
 clear hT
 obtain ⟨⟨z0, z1, z2, z3⟩, i4, i5, i6, i7⟩ := sty_small hx.out
 obtain ⟨d4, e4⟩ : ∃ z, z = decI x.thick := ⟨_, rfl⟩
 obtain ⟨d5, e5⟩ : ∃ z, z = decI x.heel := ⟨_, rfl⟩
 obtain ⟨d6, e6⟩ : ∃ z, z = decI x.eyelets := ⟨_, rfl⟩
 obtain ⟨d7, e7⟩ : ∃ z, z = decI x.density := ⟨_, rfl⟩
 have y4 : d4.size ≤ 21 := by rw [e4]; exact dec21 (by omega) (by omega)
 have y5 : d5.size ≤ 21 := by rw [e5]; exact dec21 (by omega) (by omega)
 have y6 : d6.size ≤ 21 := by rw [e6]; exact dec21 (by omega) (by omega)
 have y7 : d7.size ≤ 21 := by rw [e7]; exact dec21 (by omega) (by omega)
 have D4 := fun w h => DecimalI_c x.thick (by omega) (by omega) w h
 have D5 := fun w h => DecimalI_c x.heel (by omega) (by omega) w h
 have D6 := fun w h => DecimalI_c x.eyelets (by omega) (by omega) w h
 have D7 := fun w h => DecimalI_c x.density (by omega) (by omega) w h
 rw [← e4] at D4
 rw [← e5] at D5
 rw [← e6] at D6
 rw [← e7] at D7
 replace D4 := qH D4
 replace D5 := qH D5
 replace D6 := qH D6
 replace D7 := qH D7
 have E4 := qH e4.symm
 have E5 := qH e5.symm
 have E6 := qH e6.symm
 have E7 := qH e7.symm
 clear e4 e5 e6 e7
 obtain ⟨W, hW⟩ : ∃ W, W = w.alloc (Obj.cells #[.string x.upper, .string x.color, .string x.lining, .string x.sole, .int .i64 x.thick, .int .i64 x.heel, .int .i64 x.eyelets, .int .i64 x.density, .bool x.double] 30) := ⟨_, rfl⟩
 obtain ⟨g, hg⟩ : ∃ g, g = w.heap.size := ⟨_, rfl⟩
 have hv : Below w.heap.size w W := by rw [hW]; exact bl_alloc (Below.refl _ _) _
 have hX : Hid (Blk W g 30 #[.string x.upper, .string x.color, .string x.lining, .string x.sole, .int .i64 x.thick, .int .i64 x.heel, .int .i64 x.eyelets, .int .i64 x.density, .bool x.double]) := qH (by rw [hW, hg]; exact Blk.new _ _ _)
 have HW := qH hW
 have HG := qH hg
 clear hW hg
 obtain ⟨k, hk⟩ : ∃ z, z = kindW t := ⟨_, rfl⟩
 obtain ⟨e0, e1, e2, e3, e4, e5⟩ := kind_beq hk.symm
 have hkk : k = 0 ∨ k = 1 ∨ k = 2 ∨ k = 3 ∨ k = 4 ∨ k = 5 := by
   rcases kind_cases t with ⟨_, h⟩ | ⟨_, h⟩ | ⟨_, h⟩ | ⟨_, h⟩ | ⟨_, h⟩ | ⟨_, h⟩ | ⟨h, _⟩
   all_goals first | exact absurd ht h | omega
 obtain ⟨R, hR⟩ : ∃ z, z = clK k x := ⟨_, rfl⟩
 rw [← hk, ← hR]
 have HR := qH hR
 clear hR hk ht
 rw [show wUpper.toList = [117, 112, 112, 101, 114] from by simp [wUpper]] at e0
 rw [show wLining.toList = [108, 105, 110, 105, 110, 103] from by simp [wLining]] at e1
 rw [show wSole.toList = [115, 111, 108, 101] from by simp [wSole]] at e2
 rw [show wHeel.toList = [104, 101, 101, 108] from by simp [wHeel]] at e3
 rw [show wEyelets.toList = [101, 121, 101, 108, 101, 116, 115] from by simp [wEyelets]] at e4
 rw [show wStitch.toList = [115, 116, 105, 116, 99, 104] from by simp [wStitch]] at e5
 go_enter Tryz.func141, Tryz.ntmps141
 go_upto_region 2 with fail
 rw [← HW.out, ← HG.out]
 clear HW HG
 have l0 : (⟨#[117, 112, 112, 101, 114, 32]⟩ : ByteArray).size = 6 := rfl
 have l1 : (⟨#[32]⟩ : ByteArray).size = 1 := rfl
 have l2 : (⟨#[115, 111, 108, 101, 32]⟩ : ByteArray).size = 5 := rfl
 have l3 : (⟨#[108, 105, 110, 105, 110, 103, 32]⟩ : ByteArray).size = 7 := rfl
 have l4 : (⟨#[104, 101, 101, 108, 32]⟩ : ByteArray).size = 5 := rfl
 have l5 : (⟨#[101, 121, 101, 108, 101, 116, 115, 32]⟩ : ByteArray).size = 8 := rfl
 have l6 : (⟨#[115, 116, 105, 116, 99, 104, 32]⟩ : ByteArray).size = 7 := rfl
 have l7 : (⟨#[32, 100, 111, 117, 98, 108, 101]⟩ : ByteArray).size = 7 := rfl
 rcases hkk with rfl | rfl | rfl | rfl | rfl | rfl
 · as_aux_lemma =>
     replace e0 := e0.trans (show decide ((0 : Int) = 0) = true from by decide)
     replace e1 := e1.trans (show decide ((0 : Int) = 1) = false from by decide)
     replace e2 := e2.trans (show decide ((0 : Int) = 2) = false from by decide)
     replace e3 := e3.trans (show decide ((0 : Int) = 3) = false from by decide)
     replace e4 := e4.trans (show decide ((0 : Int) = 4) = false from by decide)
     replace e5 := e5.trans (show decide ((0 : Int) = 5) = false from by decide)
     have a0 := fun (w : World) => run_string_add_sum (P := Tryz.prog) w (⟨#[117, 112, 112, 101, 114, 32]⟩ : ByteArray) x.upper (by omega)
     have a1 := fun (w : World) => run_string_add_sum (P := Tryz.prog) w ((⟨#[117, 112, 112, 101, 114, 32]⟩ : ByteArray) ++ x.upper) (⟨#[32]⟩ : ByteArray) (by simp only [app_size]; omega)
     have a2 := fun (w : World) => run_string_add_sum (P := Tryz.prog) w (((⟨#[117, 112, 112, 101, 114, 32]⟩ : ByteArray) ++ x.upper) ++ (⟨#[32]⟩ : ByteArray)) x.color (by simp only [app_size]; omega)
     have k0 : W.cell? ⟨g, 0, none⟩ = some (.string x.upper) := hX.out.cell 0
     have k1 : W.cell? ⟨g, 1, none⟩ = some (.string x.color) := hX.out.cell 1
     go_wp2_with fail
     go_returns
     exact Ret.mk (vs (by rw [HR.out, clK0]; rfl)) hv
 · as_aux_lemma =>
     replace e0 := e0.trans (show decide ((1 : Int) = 0) = false from by decide)
     replace e1 := e1.trans (show decide ((1 : Int) = 1) = true from by decide)
     replace e2 := e2.trans (show decide ((1 : Int) = 2) = false from by decide)
     replace e3 := e3.trans (show decide ((1 : Int) = 3) = false from by decide)
     replace e4 := e4.trans (show decide ((1 : Int) = 4) = false from by decide)
     replace e5 := e5.trans (show decide ((1 : Int) = 5) = false from by decide)
     have a0 := fun (w : World) => run_string_add_sum (P := Tryz.prog) w (⟨#[108, 105, 110, 105, 110, 103, 32]⟩ : ByteArray) x.lining (by omega)
     have k2 : W.cell? ⟨g, 2, none⟩ = some (.string x.lining) := hX.out.cell 2
     have hE := empty_beq x.lining
     by_cases h0 : x.lining.size = 0
     · rw [decide_eq_true h0] at hE
       have hq : clK 1 x = ⟨#[]⟩ := (clK1 x).trans (if_pos h0)
       have HQ := qH hq
       clear hq h0
       go_wp2_with fail
       go_returns
       exact Ret.mk (vs (by rw [HR.out, HQ.out])) hv
     · rw [decide_eq_false h0] at hE
       have hq : clK 1 x = _ := (clK1 x).trans (if_neg h0)
       have HQ := qH hq
       clear hq h0
       go_wp2_with fail
       go_returns
       exact Ret.mk (vs (by rw [HR.out, HQ.out])) hv
 · as_aux_lemma =>
     replace e0 := e0.trans (show decide ((2 : Int) = 0) = false from by decide)
     replace e1 := e1.trans (show decide ((2 : Int) = 1) = false from by decide)
     replace e2 := e2.trans (show decide ((2 : Int) = 2) = true from by decide)
     replace e3 := e3.trans (show decide ((2 : Int) = 3) = false from by decide)
     replace e4 := e4.trans (show decide ((2 : Int) = 4) = false from by decide)
     replace e5 := e5.trans (show decide ((2 : Int) = 5) = false from by decide)
     have a0 := fun (w : World) => run_string_add_sum (P := Tryz.prog) w (⟨#[115, 111, 108, 101, 32]⟩ : ByteArray) x.sole (by omega)
     have a1 := fun (w : World) => run_string_add_sum (P := Tryz.prog) w ((⟨#[115, 111, 108, 101, 32]⟩ : ByteArray) ++ x.sole) (⟨#[32]⟩ : ByteArray) (by simp only [app_size]; omega)
     have a2 := fun (w : World) => run_string_add_sum (P := Tryz.prog) w (((⟨#[115, 111, 108, 101, 32]⟩ : ByteArray) ++ x.sole) ++ (⟨#[32]⟩ : ByteArray)) d4 (by simp only [app_size]; omega)
     have k3 : W.cell? ⟨g, 3, none⟩ = some (.string x.sole) := hX.out.cell 3
     have k4 : W.cell? ⟨g, 4, none⟩ = some (.int .i64 x.thick) := hX.out.cell 4
     go_upto_region 9 with fail
     refine wp_region_held_drew (S := fun w' => Below W.heap.size W w' ∧ True) (by as_aux_lemma => kernel_rfl) ?_ (fun hHeld => ?_)
     · exact ⟨(Below.refl _ _).drew, trivial⟩
     have hd9 := bl_trans hv hHeld.1
     have hd8 := hHeld.1
     refine zU 0 26 rfl (by assumption) ?_
     try simp only [Act.put, zA, zB, zC]
     refine zT 1 27 ?_ rfl ?_ (by assumption) ?_
     rotate_left
     · intro w hSw
       try dsimp only at hSw
       have x_k3 := bl_cell hSw.1 k3
       go_simp
       try with_reducible rfl
     try simp only [Act.put, zA, zB, zC]
     refine zU 2 28 rfl (by assumption) ?_
     try simp only [Act.put, zA, zB, zC]
     refine zU 3 29 rfl (by assumption) ?_
     try simp only [Act.put, zA, zB, zC]
     refine zU 4 30 rfl (by assumption) ?_
     try simp only [Act.put, zA, zB, zC]
     refine zT 5 31 ?_ rfl ?_ (by assumption) ?_
     rotate_left
     · intro w hSw
       try dsimp only at hSw
       have x_k4 := bl_cell hSw.1 k4
       go_simp
       try with_reducible rfl
     try simp only [Act.put, zA, zB, zC]
     refine zR 6 (some 32) rfl (fun K hK => ?_)
     go_simp
     (try dsimp only at hHeld); go_split_ands
     refine (D4.out _ (HT.out.pow.below hd9)).mono ?_
     rintro e W1 ⟨rfl, hb9⟩
     have hh := bl_trans hd8 hb9
     replace hv := bl_trans hd9 hb9
     clear hd9 hd8
     go_wp2_with fail
     refine hK.out _ _ ?_ (fun hHeld => ?_)
     · (try dsimp only); go_split_ands; exact ⟨hh, trivial⟩
     clear hK K
     try simp only [Act.put, zA, zB, zC]
     refine zU 7 33 rfl (by assumption) ?_
     try simp only [Act.put, zA, zB, zC]
     refine zU 8 5 rfl (by assumption) ?_
     try simp only [Act.put, zA, zB, zC]
     refine wpAnyH_done (by as_aux_lemma => kernel_rfl) ?_ _
     clear hHeld
     go_wp2_with fail
     go_returns
     refine Ret.mk (vs ?_) hv
     rw [HR.out, clK2]
     unfold txt2
     rw [E4.out]
     rfl
 · as_aux_lemma =>
     replace e0 := e0.trans (show decide ((3 : Int) = 0) = false from by decide)
     replace e1 := e1.trans (show decide ((3 : Int) = 1) = false from by decide)
     replace e2 := e2.trans (show decide ((3 : Int) = 2) = false from by decide)
     replace e3 := e3.trans (show decide ((3 : Int) = 3) = true from by decide)
     replace e4 := e4.trans (show decide ((3 : Int) = 4) = false from by decide)
     replace e5 := e5.trans (show decide ((3 : Int) = 5) = false from by decide)
     have a0 := fun (w : World) => run_string_add_sum (P := Tryz.prog) w (⟨#[104, 101, 101, 108, 32]⟩ : ByteArray) d5 (by omega)
     have k5 : W.cell? ⟨g, 5, none⟩ = some (.int .i64 x.heel) := hX.out.cell 5
     by_cases h0 : 0 < x.heel
     · have hq : clK 3 x = _ := (clK3 x).trans (if_pos h0)
       rw [E5.out] at hq
       have HQ := qH hq
       clear hq
       go_wp2_with fail
       refine (D5.out _ (HT.out.pow.below hv)).mono ?_
       rintro e W2 ⟨rfl, hb⟩
       replace hv := bl_trans hv hb
       replace hX := qH (hX.out.below hb)
       clear hb
       go_wp2_with fail
       go_returns
       exact Ret.mk (vs (by rw [HR.out, HQ.out])) hv
     · have hq : clK 3 x = ⟨#[]⟩ := (clK3 x).trans (if_neg h0)
       have HQ := qH hq
       clear hq
       go_wp2_with fail
       go_returns
       exact Ret.mk (vs (by rw [HR.out, HQ.out])) hv
 · as_aux_lemma =>
     replace e0 := e0.trans (show decide ((4 : Int) = 0) = false from by decide)
     replace e1 := e1.trans (show decide ((4 : Int) = 1) = false from by decide)
     replace e2 := e2.trans (show decide ((4 : Int) = 2) = false from by decide)
     replace e3 := e3.trans (show decide ((4 : Int) = 3) = false from by decide)
     replace e4 := e4.trans (show decide ((4 : Int) = 4) = true from by decide)
     replace e5 := e5.trans (show decide ((4 : Int) = 5) = false from by decide)
     have a0 := fun (w : World) => run_string_add_sum (P := Tryz.prog) w (⟨#[101, 121, 101, 108, 101, 116, 115, 32]⟩ : ByteArray) d6 (by omega)
     have k6 : W.cell? ⟨g, 6, none⟩ = some (.int .i64 x.eyelets) := hX.out.cell 6
     by_cases h0 : 0 < x.eyelets
     · have hq : clK 4 x = _ := (clK4 x).trans (if_pos h0)
       rw [E6.out] at hq
       have HQ := qH hq
       clear hq
       go_wp2_with fail
       refine (D6.out _ (HT.out.pow.below hv)).mono ?_
       rintro e W2 ⟨rfl, hb⟩
       replace hv := bl_trans hv hb
       replace hX := qH (hX.out.below hb)
       clear hb
       go_wp2_with fail
       go_returns
       exact Ret.mk (vs (by rw [HR.out, HQ.out])) hv
     · have hq : clK 4 x = ⟨#[]⟩ := (clK4 x).trans (if_neg h0)
       have HQ := qH hq
       clear hq
       go_wp2_with fail
       go_returns
       exact Ret.mk (vs (by rw [HR.out, HQ.out])) hv
 · as_aux_lemma =>
     replace e0 := e0.trans (show decide ((5 : Int) = 0) = false from by decide)
     replace e1 := e1.trans (show decide ((5 : Int) = 1) = false from by decide)
     replace e2 := e2.trans (show decide ((5 : Int) = 2) = false from by decide)
     replace e3 := e3.trans (show decide ((5 : Int) = 3) = false from by decide)
     replace e4 := e4.trans (show decide ((5 : Int) = 4) = false from by decide)
     replace e5 := e5.trans (show decide ((5 : Int) = 5) = true from by decide)
     have hq : clK 5 x = if x.double = true then cl5a x ++ ⟨#[32, 100, 111, 117, 98, 108, 101]⟩ else cl5a x := clK5 x
     have hq2 : cl5a x = if 0 < x.density then (⟨#[115, 116, 105, 116, 99, 104, 32]⟩ : ByteArray) ++ decI x.density else ⟨#[]⟩ := rfl
     rw [E7.out] at hq2
     have a0 := fun (w : World) => run_string_add_sum (P := Tryz.prog) w (⟨#[115, 116, 105, 116, 99, 104, 32]⟩ : ByteArray) d7 (by omega)
     have a1 := fun (w : World) => run_string_add_sum (P := Tryz.prog) w ((⟨#[115, 116, 105, 116, 99, 104, 32]⟩ : ByteArray) ++ d7) (⟨#[32, 100, 111, 117, 98, 108, 101]⟩ : ByteArray) (by simp only [app_size]; omega)
     have a2 := fun (w : World) => run_string_add_sum (P := Tryz.prog) w (⟨#[]⟩ : ByteArray) (⟨#[32, 100, 111, 117, 98, 108, 101]⟩ : ByteArray) (by decide)
     have k7 : W.cell? ⟨g, 7, none⟩ = some (.int .i64 x.density) := hX.out.cell 7
     have k8 : W.cell? ⟨g, 8, none⟩ = some (.bool x.double) := hX.out.cell 8
     by_cases h0 : 0 < x.density
     · rw [if_pos h0] at hq2
       cases hd : x.double
       · rw [hd, if_neg (by simp), hq2] at hq
         have HQ := qH hq
         clear hq hq2
         rw [hd] at k8
         go_wp2_with fail
         refine (D7.out _ (HT.out.pow.below hv)).mono ?_
         rintro e W2 ⟨rfl, hb⟩
         replace hv := bl_trans hv hb
         replace hX := qH (hX.out.below hb)
         clear hb
         replace k8 : W2.cell? ⟨g, 8, none⟩ = some (.bool false) := by rw [← hd]; exact hX.out.cell 8
         go_wp2_with fail
         go_returns
         exact Ret.mk (vs (by rw [HR.out, HQ.out])) hv
       · rw [hd, if_pos rfl, hq2] at hq
         have HQ := qH hq
         clear hq hq2
         rw [hd] at k8
         go_wp2_with fail
         refine (D7.out _ (HT.out.pow.below hv)).mono ?_
         rintro e W2 ⟨rfl, hb⟩
         replace hv := bl_trans hv hb
         replace hX := qH (hX.out.below hb)
         clear hb
         replace k8 : W2.cell? ⟨g, 8, none⟩ = some (.bool true) := by rw [← hd]; exact hX.out.cell 8
         go_wp2_with fail
         go_returns
         exact Ret.mk (vs (by rw [HR.out, HQ.out])) hv
     · rw [if_neg h0] at hq2
       cases hd : x.double
       · rw [hd, if_neg (by simp), hq2] at hq
         have HQ := qH hq
         clear hq hq2
         rw [hd] at k8
         go_wp2_with fail
         go_returns
         exact Ret.mk (vs (by rw [HR.out, HQ.out])) hv
       · rw [hd, if_pos rfl, hq2] at hq
         have HQ := qH hq
         clear hq hq2
         rw [hd] at k8
         go_wp2_with fail
         go_returns
         exact Ret.mk (vs (by rw [HR.out, HQ.out])) hv
structure Kp (p : ByteArray → Bool) (L D : List ByteArray) (i j : Nat) : Prop where
 len : D.length = L.length
 lt : i < j
 low : D.take i = (L.take j).filter fun x => !p x
 high : ∀ k, i ≤ k → D[k]? = L[k]?
theorem Kp.start {p : ByteArray → Bool} {L : List ByteArray} {k : Nat} {x : ByteArray} (hx : L[k]? = some x) (hp : p x = true) (hb : ∀ y ∈ L.take k, p y = false) : Kp p L L k (k + 1) where
 len := rfl
 lt := Nat.lt_succ_self _
 low := by
   rw [take_at hx, List.filter_append, List.filter_eq_self.2 (fun y hy => by rw [hb y hy]; rfl)]
   simp [hp]
 high := fun _ _ => rfl
theorem Kp.skip {p : ByteArray → Bool} {L D : List ByteArray} {i j : Nat} {x : ByteArray} (h : Kp p L D i j) (hx : L[j]? = some x) (hp : p x = true) : Kp p L D i (j + 1) where
 len := h.len
 lt := by have := h.lt; omega
 low := by rw [take_at hx, List.filter_append, h.low]; simp [hp]
 high := h.high
theorem Kp.keep {p : ByteArray → Bool} {L D : List ByteArray} {i j : Nat} {x : ByteArray} (h : Kp p L D i j) (hx : L[j]? = some x) (hp : p x = false) : Kp p L (D.set i x) (i + 1) (j + 1) where
 len := by rw [List.length_set]; exact h.len
 lt := by have := h.lt; omega
 low := by
   have hj : j < L.length := by
     rcases Nat.lt_or_ge j L.length with h | h
     · exact h
     · rw [List.getElem?_eq_none h] at hx; cases hx
   have hi : i < D.length := by have := h.len; have := h.lt; omega
   have hs : (D.set i x)[i]? = some x := by rw [List.getElem?_set_self hi]
   rw [take_at hs, List.take_set_of_le (Nat.le_refl i), h.low, take_at hx, List.filter_append]
   simp [hp]
 high := fun k hk => by rw [List.getElem?_set_ne (by omega)]; exact h.high k (by omega)
theorem Kp.done {p : ByteArray → Bool} {L D : List ByteArray} {i : Nat} (h : Kp p L D i L.length) : D.take i = L.filter fun x => !p x := by
 rw [h.low, List.take_of_length_le (Nat.le_refl _)]
theorem sty_fits {x : Style} (hx : styB x = true) : x.fits := by
 obtain ⟨⟨z0, z1, z2, z3⟩, i4, i5, i6, i7⟩ := sty_small hx
 unfold Style.fits
 omega
theorem styW_nth (k : Nat) (hk : k < 6) : ∃ t, styW[k]? = some t ∧ kindW t = (k : Int) := by
 rcases k with _ | _ | _ | _ | _ | _ | k
 · exact ⟨_, rfl, kind0⟩
 · exact ⟨_, rfl, kind1⟩
 · exact ⟨_, rfl, kind2⟩
 · exact ⟨_, rfl, kind3⟩
 · exact ⟨_, rfl, kind4⟩
 · exact ⟨_, rfl, kind5⟩
 · omega
end Go.Proofs.YtpiehlfffjhoaaaGreatDoor
