/- Styles: the reference's setting of a clause. builds (10 s). -/
import Derived.Test.YtihgjmhhpiobbaaDoorStyV
import Derived.Laws.ResultCell
namespace Go.Proofs.YtihgjmhhpiobbaaDoor
open Go.RowKit

def OutSet (x : Style) (g : Nat) (w : World) (e : Ending) (w' : World) : Prop := e = .returned (.tuple #[]) ∧ Blk w' g 25 #[Value.string x.upper, Value.string x.color, Value.string x.lining, Value.string x.sole, Value.int IntKind.i64 x.thick, Value.int IntKind.i64 x.heel, Value.int IntKind.i64 x.eyelets, Value.int IntKind.i64 x.density, Value.bool x.double] ∧ w.grownBy w' (some g)
set_option maxRecDepth 100000 in
set_option maxHeartbeats 8000000 in
theorem l24Set_c (x : Style) (g : Nat) (A : Option Addr) (ws : List ByteArray) (n c : Nat) (hn : Hid (ws.length = n)) (hp : Hid (prob ws = 0)) (HPT : Hid (∀ y ∈ ws, y.size ≤ 4194304)) (w : World) (hB : Blk w g 25 #[Value.string x.upper, Value.string x.color, Value.string x.lining, Value.string x.sole, Value.int IntKind.i64 x.thick, Value.int IntKind.i64 x.heel, Value.int IntKind.i64 x.eyelets, Value.int IntKind.i64 x.density, Value.bool x.double]) (hA : Arr w A (flat scell ws)) (hne : Hid (∀ ad, A = some ad → ad.block ≠ g)) :
    Calls Tryd.prog 21 #[.pointer (some ⟨g, 0, none⟩), .slice A n c] w (OutSet (setS x ws) g w) := by
  have HB := Lib.hid hB
  have hAA := Lib.hid hA
  clear hB hA
  rcases prob_forms hp.out with ⟨a, b, rfl, _, _⟩ | ⟨a, rfl, _⟩ | ⟨a, b, rfl, _, _⟩ | ⟨a, rfl, _⟩ | ⟨a, rfl, _⟩ | ⟨a, rfl, _⟩ | ⟨a, rfl, _⟩
  · skip
    obtain rfl : n = 3 := hn.out.symm
    obtain ⟨ad, had, _, c0⟩ := scell_at (k := 0) hAA.out rfl
    subst had
    replace c0 : w.cell? ad = some (.string wUpper) := c0
    have hgn : g ≠ ad.block := fun h => hne.out ad rfl h.symm
    have HKW := fun w => l24Word_c wUpper w
    rw [kind0] at HKW
    replace HKW := Lib.hid HKW
    obtain ⟨t, ht⟩ : ∃ z, z = wUpper := ⟨_, rfl⟩
    rw [← ht] at HKW c0
    clear ht
    go_enter Tryd.func21, Tryd.ntmps21
    go_wp2_with fail
    refine (HKW.out _).mono ?_
    rintro e W2 ⟨rfl, hv⟩
    have HG := Lib.hid (grown_of_below hv (some g))
    have HX := Lib.hid (HB.out.below hv)
    have hA2 := hAA.out.below hv
    clear hv HB hAA HKW c0
    obtain ⟨ad1, had1, _, c1⟩ := scell_at (k := 1) hA2 rfl
    injection had1 with had1
    subst had1
    replace c1 : W2.cell? ⟨ad.block, ad.off + 1, none⟩ = some (.string a) := c1
    obtain ⟨ad2, had2, _, c2⟩ := scell_at (k := 2) hA2 rfl
    injection had2 with had2
    subst had2
    replace c2 : W2.cell? ⟨ad.block, ad.off + 2, none⟩ = some (.string b) := c2
    clear hA2
    have k0 : World.cell? (W2) ⟨g, 0, none⟩ = some (.string x.upper) := HX.out.cell 0
    have f0 := HX.out.frozen 0
    have q2 : World.cell? (World.setCell W2 ⟨g, 0, none⟩ (Value.string a)) ⟨ad.block, ad.off + 2, none⟩ = some (.string b) := (World.cell?_setCell_far _ ⟨g, 0, none⟩ _ _ (by exact hgn)).trans c2
    replace HX := Lib.hid (HX.out.set_ 0 (Value.string a))
    replace HG := Lib.hid (grown_setCell (p := ⟨g, 0, none⟩) HG.out (.inl rfl) (Value.string a))
    replace HX : Hid (Blk (World.setCell W2 ⟨g, 0, none⟩ (Value.string a)) g 25 #[Value.string a, Value.string x.color, Value.string x.lining, Value.string x.sole, Value.int IntKind.i64 x.thick, Value.int IntKind.i64 x.heel, Value.int IntKind.i64 x.eyelets, Value.int IntKind.i64 x.density, Value.bool x.double]) := HX
    have k1 : World.cell? ((World.setCell W2 ⟨g, 0, none⟩ (Value.string a))) ⟨g, 1, none⟩ = some (.string x.color) := HX.out.cell 1
    have f1 := HX.out.frozen 1
    go_wp2_with fail
    replace HX := Lib.hid (HX.out.set_ 1 (Value.string b))
    replace HG := Lib.hid (grown_setCell (p := ⟨g, 1, none⟩) HG.out (.inl rfl) (Value.string b))
    replace HX : Hid (Blk (World.setCell (World.setCell W2 ⟨g, 0, none⟩ (Value.string a)) ⟨g, 1, none⟩ (Value.string b)) g 25 #[Value.string a, Value.string b, Value.string x.lining, Value.string x.sole, Value.int IntKind.i64 x.thick, Value.int IntKind.i64 x.heel, Value.int IntKind.i64 x.eyelets, Value.int IntKind.i64 x.density, Value.bool x.double]) := HX
    go_returns
    rw [set_upper]
    exact ⟨rfl, HX.out, HG.out⟩
  · skip
    obtain rfl : n = 2 := hn.out.symm
    obtain ⟨ad, had, _, c0⟩ := scell_at (k := 0) hAA.out rfl
    subst had
    replace c0 : w.cell? ad = some (.string wLining) := c0
    have hgn : g ≠ ad.block := fun h => hne.out ad rfl h.symm
    have HKW := fun w => l24Word_c wLining w
    rw [kind1] at HKW
    replace HKW := Lib.hid HKW
    obtain ⟨t, ht⟩ : ∃ z, z = wLining := ⟨_, rfl⟩
    rw [← ht] at HKW c0
    clear ht
    go_enter Tryd.func21, Tryd.ntmps21
    go_wp2_with fail
    refine (HKW.out _).mono ?_
    rintro e W2 ⟨rfl, hv⟩
    have HG := Lib.hid (grown_of_below hv (some g))
    have HX := Lib.hid (HB.out.below hv)
    have hA2 := hAA.out.below hv
    clear hv HB hAA HKW c0
    obtain ⟨ad1, had1, _, c1⟩ := scell_at (k := 1) hA2 rfl
    injection had1 with had1
    subst had1
    replace c1 : W2.cell? ⟨ad.block, ad.off + 1, none⟩ = some (.string a) := c1
    clear hA2
    have k2 : World.cell? (W2) ⟨g, 2, none⟩ = some (.string x.lining) := HX.out.cell 2
    have f2 := HX.out.frozen 2
    replace HX := Lib.hid (HX.out.set_ 2 (Value.string a))
    replace HG := Lib.hid (grown_setCell (p := ⟨g, 2, none⟩) HG.out (.inl rfl) (Value.string a))
    replace HX : Hid (Blk (World.setCell W2 ⟨g, 2, none⟩ (Value.string a)) g 25 #[Value.string x.upper, Value.string x.color, Value.string a, Value.string x.sole, Value.int IntKind.i64 x.thick, Value.int IntKind.i64 x.heel, Value.int IntKind.i64 x.eyelets, Value.int IntKind.i64 x.density, Value.bool x.double]) := HX
    go_wp2_with fail
    go_returns
    rw [set_lining]
    exact ⟨rfl, HX.out, HG.out⟩
  · skip
    obtain rfl : n = 3 := hn.out.symm
    obtain ⟨ad, had, _, c0⟩ := scell_at (k := 0) hAA.out rfl
    subst had
    replace c0 : w.cell? ad = some (.string wSole) := c0
    have hgn : g ≠ ad.block := fun h => hne.out ad rfl h.symm
    have HKW := fun w => l24Word_c wSole w
    rw [kind2] at HKW
    replace HKW := Lib.hid HKW
    obtain ⟨t, ht⟩ : ∃ z, z = wSole := ⟨_, rfl⟩
    rw [← ht] at HKW c0
    clear ht
    go_enter Tryd.func21, Tryd.ntmps21
    go_wp2_with fail
    refine (HKW.out _).mono ?_
    rintro e W2 ⟨rfl, hv⟩
    have HG := Lib.hid (grown_of_below hv (some g))
    have HX := Lib.hid (HB.out.below hv)
    have hA2 := hAA.out.below hv
    clear hv HB hAA HKW c0
    obtain ⟨ad1, had1, _, c1⟩ := scell_at (k := 1) hA2 rfl
    injection had1 with had1
    subst had1
    replace c1 : W2.cell? ⟨ad.block, ad.off + 1, none⟩ = some (.string a) := c1
    obtain ⟨ad2, had2, _, c2⟩ := scell_at (k := 2) hA2 rfl
    injection had2 with had2
    subst had2
    replace c2 : W2.cell? ⟨ad.block, ad.off + 2, none⟩ = some (.string b) := c2
    clear hA2
    have HN := fun w => l01Number_c b (Nat.le_trans (HPT.out b (by simp)) (by omega)) w
    obtain ⟨v, hv⟩ : ∃ z, z = numV b := ⟨_, rfl⟩
    obtain ⟨bo, hbo⟩ : ∃ z, z = okN b.data.toList := ⟨_, rfl⟩
    rw [← hv, ← hbo] at HN
    replace HN := Lib.hid HN
    have HV := Lib.hid hv.symm
    clear hv hbo
    have k3 : World.cell? (W2) ⟨g, 3, none⟩ = some (.string x.sole) := HX.out.cell 3
    have f3 := HX.out.frozen 3
    have q2 : World.cell? (World.setCell W2 ⟨g, 3, none⟩ (Value.string a)) ⟨ad.block, ad.off + 2, none⟩ = some (.string b) := (World.cell?_setCell_far _ ⟨g, 3, none⟩ _ _ (by exact hgn)).trans c2
    replace HX := Lib.hid (HX.out.set_ 3 (Value.string a))
    replace HG := Lib.hid (grown_setCell (p := ⟨g, 3, none⟩) HG.out (.inl rfl) (Value.string a))
    replace HX : Hid (Blk (World.setCell W2 ⟨g, 3, none⟩ (Value.string a)) g 25 #[Value.string x.upper, Value.string x.color, Value.string x.lining, Value.string a, Value.int IntKind.i64 x.thick, Value.int IntKind.i64 x.heel, Value.int IntKind.i64 x.eyelets, Value.int IntKind.i64 x.density, Value.bool x.double]) := HX
    go_wp2_with fail
    refine (HN.out _).mono ?_
    rintro e W3 ⟨rfl, hb3⟩
    replace HX := Lib.hid (HX.out.below hb3)
    replace HG := Lib.hid (grown_below HG.out hb3)
    clear hb3
    have k4 : World.cell? (W3) ⟨g, 4, none⟩ = some (.int .i64 x.thick) := HX.out.cell 4
    have f4 := HX.out.frozen 4
    replace HX := Lib.hid (HX.out.set_ 4 (Value.int IntKind.i64 v))
    replace HG := Lib.hid (grown_setCell (p := ⟨g, 4, none⟩) HG.out (.inl rfl) (Value.int IntKind.i64 v))
    replace HX : Hid (Blk (World.setCell W3 ⟨g, 4, none⟩ (Value.int IntKind.i64 v)) g 25 #[Value.string x.upper, Value.string x.color, Value.string x.lining, Value.string a, Value.int IntKind.i64 v, Value.int IntKind.i64 x.heel, Value.int IntKind.i64 x.eyelets, Value.int IntKind.i64 x.density, Value.bool x.double]) := HX
    go_wp2_with fail
    go_returns
    rw [set_sole, HV.out]
    exact ⟨rfl, HX.out, HG.out⟩
  · skip
    obtain rfl : n = 2 := hn.out.symm
    obtain ⟨ad, had, _, c0⟩ := scell_at (k := 0) hAA.out rfl
    subst had
    replace c0 : w.cell? ad = some (.string wHeel) := c0
    have hgn : g ≠ ad.block := fun h => hne.out ad rfl h.symm
    have HKW := fun w => l24Word_c wHeel w
    rw [kind3] at HKW
    replace HKW := Lib.hid HKW
    obtain ⟨t, ht⟩ : ∃ z, z = wHeel := ⟨_, rfl⟩
    rw [← ht] at HKW c0
    clear ht
    go_enter Tryd.func21, Tryd.ntmps21
    go_wp2_with fail
    refine (HKW.out _).mono ?_
    rintro e W2 ⟨rfl, hv⟩
    have HG := Lib.hid (grown_of_below hv (some g))
    have HX := Lib.hid (HB.out.below hv)
    have hA2 := hAA.out.below hv
    clear hv HB hAA HKW c0
    obtain ⟨ad1, had1, _, c1⟩ := scell_at (k := 1) hA2 rfl
    injection had1 with had1
    subst had1
    replace c1 : W2.cell? ⟨ad.block, ad.off + 1, none⟩ = some (.string a) := c1
    clear hA2
    have HN := fun w => l01Number_c a (Nat.le_trans (HPT.out a (by simp)) (by omega)) w
    obtain ⟨v, hv⟩ : ∃ z, z = numV a := ⟨_, rfl⟩
    obtain ⟨bo, hbo⟩ : ∃ z, z = okN a.data.toList := ⟨_, rfl⟩
    rw [← hv, ← hbo] at HN
    replace HN := Lib.hid HN
    have HV := Lib.hid hv.symm
    clear hv hbo
    go_wp2_with fail
    refine (HN.out _).mono ?_
    rintro e W3 ⟨rfl, hb3⟩
    replace HX := Lib.hid (HX.out.below hb3)
    replace HG := Lib.hid (grown_below HG.out hb3)
    clear hb3
    have k5 : World.cell? (W3) ⟨g, 5, none⟩ = some (.int .i64 x.heel) := HX.out.cell 5
    have f5 := HX.out.frozen 5
    replace HX := Lib.hid (HX.out.set_ 5 (Value.int IntKind.i64 v))
    replace HG := Lib.hid (grown_setCell (p := ⟨g, 5, none⟩) HG.out (.inl rfl) (Value.int IntKind.i64 v))
    replace HX : Hid (Blk (World.setCell W3 ⟨g, 5, none⟩ (Value.int IntKind.i64 v)) g 25 #[Value.string x.upper, Value.string x.color, Value.string x.lining, Value.string x.sole, Value.int IntKind.i64 x.thick, Value.int IntKind.i64 v, Value.int IntKind.i64 x.eyelets, Value.int IntKind.i64 x.density, Value.bool x.double]) := HX
    go_wp2_with fail
    go_returns
    rw [set_heel, HV.out]
    exact ⟨rfl, HX.out, HG.out⟩
  · skip
    obtain rfl : n = 2 := hn.out.symm
    obtain ⟨ad, had, _, c0⟩ := scell_at (k := 0) hAA.out rfl
    subst had
    replace c0 : w.cell? ad = some (.string wEyelets) := c0
    have hgn : g ≠ ad.block := fun h => hne.out ad rfl h.symm
    have HKW := fun w => l24Word_c wEyelets w
    rw [kind4] at HKW
    replace HKW := Lib.hid HKW
    obtain ⟨t, ht⟩ : ∃ z, z = wEyelets := ⟨_, rfl⟩
    rw [← ht] at HKW c0
    clear ht
    go_enter Tryd.func21, Tryd.ntmps21
    go_wp2_with fail
    refine (HKW.out _).mono ?_
    rintro e W2 ⟨rfl, hv⟩
    have HG := Lib.hid (grown_of_below hv (some g))
    have HX := Lib.hid (HB.out.below hv)
    have hA2 := hAA.out.below hv
    clear hv HB hAA HKW c0
    obtain ⟨ad1, had1, _, c1⟩ := scell_at (k := 1) hA2 rfl
    injection had1 with had1
    subst had1
    replace c1 : W2.cell? ⟨ad.block, ad.off + 1, none⟩ = some (.string a) := c1
    clear hA2
    have HN := fun w => l01Number_c a (Nat.le_trans (HPT.out a (by simp)) (by omega)) w
    obtain ⟨v, hv⟩ : ∃ z, z = numV a := ⟨_, rfl⟩
    obtain ⟨bo, hbo⟩ : ∃ z, z = okN a.data.toList := ⟨_, rfl⟩
    rw [← hv, ← hbo] at HN
    replace HN := Lib.hid HN
    have HV := Lib.hid hv.symm
    clear hv hbo
    go_wp2_with fail
    refine (HN.out _).mono ?_
    rintro e W3 ⟨rfl, hb3⟩
    replace HX := Lib.hid (HX.out.below hb3)
    replace HG := Lib.hid (grown_below HG.out hb3)
    clear hb3
    have k6 : World.cell? (W3) ⟨g, 6, none⟩ = some (.int .i64 x.eyelets) := HX.out.cell 6
    have f6 := HX.out.frozen 6
    replace HX := Lib.hid (HX.out.set_ 6 (Value.int IntKind.i64 v))
    replace HG := Lib.hid (grown_setCell (p := ⟨g, 6, none⟩) HG.out (.inl rfl) (Value.int IntKind.i64 v))
    replace HX : Hid (Blk (World.setCell W3 ⟨g, 6, none⟩ (Value.int IntKind.i64 v)) g 25 #[Value.string x.upper, Value.string x.color, Value.string x.lining, Value.string x.sole, Value.int IntKind.i64 x.thick, Value.int IntKind.i64 x.heel, Value.int IntKind.i64 v, Value.int IntKind.i64 x.density, Value.bool x.double]) := HX
    go_wp2_with fail
    go_returns
    rw [set_eyelets, HV.out]
    exact ⟨rfl, HX.out, HG.out⟩
  · skip
    obtain rfl : n = 2 := hn.out.symm
    obtain ⟨ad, had, _, c0⟩ := scell_at (k := 0) hAA.out rfl
    subst had
    replace c0 : w.cell? ad = some (.string wStitch) := c0
    have hgn : g ≠ ad.block := fun h => hne.out ad rfl h.symm
    have HKW := fun w => l24Word_c wStitch w
    rw [kind5] at HKW
    replace HKW := Lib.hid HKW
    obtain ⟨t, ht⟩ : ∃ z, z = wStitch := ⟨_, rfl⟩
    rw [← ht] at HKW c0
    clear ht
    go_enter Tryd.func21, Tryd.ntmps21
    go_wp2_with fail
    refine (HKW.out _).mono ?_
    rintro e W2 ⟨rfl, hv⟩
    have HG := Lib.hid (grown_of_below hv (some g))
    have HX := Lib.hid (HB.out.below hv)
    have hA2 := hAA.out.below hv
    clear hv HB hAA HKW c0
    obtain ⟨ad1, had1, _, c1⟩ := scell_at (k := 1) hA2 rfl
    injection had1 with had1
    subst had1
    replace c1 : W2.cell? ⟨ad.block, ad.off + 1, none⟩ = some (.string a) := c1
    clear hA2
    have HN := fun w => l01Number_c a (Nat.le_trans (HPT.out a (by simp)) (by omega)) w
    obtain ⟨v, hv⟩ : ∃ z, z = numV a := ⟨_, rfl⟩
    obtain ⟨bo, hbo⟩ : ∃ z, z = okN a.data.toList := ⟨_, rfl⟩
    rw [← hv, ← hbo] at HN
    replace HN := Lib.hid HN
    have HV := Lib.hid hv.symm
    clear hv hbo
    go_wp2_with fail
    refine (HN.out _).mono ?_
    rintro e W3 ⟨rfl, hb3⟩
    replace HX := Lib.hid (HX.out.below hb3)
    replace HG := Lib.hid (grown_below HG.out hb3)
    clear hb3
    have k7 : World.cell? (W3) ⟨g, 7, none⟩ = some (.int .i64 x.density) := HX.out.cell 7
    have f7 := HX.out.frozen 7
    replace HX := Lib.hid (HX.out.set_ 7 (Value.int IntKind.i64 v))
    replace HG := Lib.hid (grown_setCell (p := ⟨g, 7, none⟩) HG.out (.inl rfl) (Value.int IntKind.i64 v))
    replace HX : Hid (Blk (World.setCell W3 ⟨g, 7, none⟩ (Value.int IntKind.i64 v)) g 25 #[Value.string x.upper, Value.string x.color, Value.string x.lining, Value.string x.sole, Value.int IntKind.i64 x.thick, Value.int IntKind.i64 x.heel, Value.int IntKind.i64 x.eyelets, Value.int IntKind.i64 v, Value.bool x.double]) := HX
    have k8 : World.cell? ((World.setCell W3 ⟨g, 7, none⟩ (Value.int IntKind.i64 v))) ⟨g, 8, none⟩ = some (.bool x.double) := HX.out.cell 8
    have f8 := HX.out.frozen 8
    replace HX := Lib.hid (HX.out.set_ 8 (Value.bool false))
    replace HG := Lib.hid (grown_setCell (p := ⟨g, 8, none⟩) HG.out (.inl rfl) (Value.bool false))
    replace HX : Hid (Blk (World.setCell (World.setCell W3 ⟨g, 7, none⟩ (Value.int IntKind.i64 v)) ⟨g, 8, none⟩ (Value.bool false)) g 25 #[Value.string x.upper, Value.string x.color, Value.string x.lining, Value.string x.sole, Value.int IntKind.i64 x.thick, Value.int IntKind.i64 x.heel, Value.int IntKind.i64 x.eyelets, Value.int IntKind.i64 v, Value.bool false]) := HX
    go_wp2_with fail
    go_returns
    rw [set_stitch, HV.out]
    exact ⟨rfl, HX.out, HG.out⟩
  · skip
    obtain rfl : n = 3 := hn.out.symm
    obtain ⟨ad, had, _, c0⟩ := scell_at (k := 0) hAA.out rfl
    subst had
    replace c0 : w.cell? ad = some (.string wStitch) := c0
    have hgn : g ≠ ad.block := fun h => hne.out ad rfl h.symm
    have HKW := fun w => l24Word_c wStitch w
    rw [kind5] at HKW
    replace HKW := Lib.hid HKW
    obtain ⟨t, ht⟩ : ∃ z, z = wStitch := ⟨_, rfl⟩
    rw [← ht] at HKW c0
    clear ht
    go_enter Tryd.func21, Tryd.ntmps21
    go_wp2_with fail
    refine (HKW.out _).mono ?_
    rintro e W2 ⟨rfl, hv⟩
    have HG := Lib.hid (grown_of_below hv (some g))
    have HX := Lib.hid (HB.out.below hv)
    have hA2 := hAA.out.below hv
    clear hv HB hAA HKW c0
    obtain ⟨ad1, had1, _, c1⟩ := scell_at (k := 1) hA2 rfl
    injection had1 with had1
    subst had1
    replace c1 : W2.cell? ⟨ad.block, ad.off + 1, none⟩ = some (.string a) := c1
    obtain ⟨ad2, had2, _, c2⟩ := scell_at (k := 2) hA2 rfl
    injection had2 with had2
    subst had2
    replace c2 : W2.cell? ⟨ad.block, ad.off + 2, none⟩ = some (.string wDouble) := c2
    clear hA2
    have HN := fun w => l01Number_c a (Nat.le_trans (HPT.out a (by simp)) (by omega)) w
    obtain ⟨v, hv⟩ : ∃ z, z = numV a := ⟨_, rfl⟩
    obtain ⟨bo, hbo⟩ : ∃ z, z = okN a.data.toList := ⟨_, rfl⟩
    rw [← hv, ← hbo] at HN
    replace HN := Lib.hid HN
    have HV := Lib.hid hv.symm
    clear hv hbo
    go_wp2_with fail
    refine (HN.out _).mono ?_
    rintro e W3 ⟨rfl, hb3⟩
    replace HX := Lib.hid (HX.out.below hb3)
    replace HG := Lib.hid (grown_below HG.out hb3)
    clear hb3
    have k7 : World.cell? (W3) ⟨g, 7, none⟩ = some (.int .i64 x.density) := HX.out.cell 7
    have f7 := HX.out.frozen 7
    replace HX := Lib.hid (HX.out.set_ 7 (Value.int IntKind.i64 v))
    replace HG := Lib.hid (grown_setCell (p := ⟨g, 7, none⟩) HG.out (.inl rfl) (Value.int IntKind.i64 v))
    replace HX : Hid (Blk (World.setCell W3 ⟨g, 7, none⟩ (Value.int IntKind.i64 v)) g 25 #[Value.string x.upper, Value.string x.color, Value.string x.lining, Value.string x.sole, Value.int IntKind.i64 x.thick, Value.int IntKind.i64 x.heel, Value.int IntKind.i64 x.eyelets, Value.int IntKind.i64 v, Value.bool x.double]) := HX
    have k8 : World.cell? ((World.setCell W3 ⟨g, 7, none⟩ (Value.int IntKind.i64 v))) ⟨g, 8, none⟩ = some (.bool x.double) := HX.out.cell 8
    have f8 := HX.out.frozen 8
    replace HX := Lib.hid (HX.out.set_ 8 (Value.bool true))
    replace HG := Lib.hid (grown_setCell (p := ⟨g, 8, none⟩) HG.out (.inl rfl) (Value.bool true))
    replace HX : Hid (Blk (World.setCell (World.setCell W3 ⟨g, 7, none⟩ (Value.int IntKind.i64 v)) ⟨g, 8, none⟩ (Value.bool true)) g 25 #[Value.string x.upper, Value.string x.color, Value.string x.lining, Value.string x.sole, Value.int IntKind.i64 x.thick, Value.int IntKind.i64 x.heel, Value.int IntKind.i64 x.eyelets, Value.int IntKind.i64 v, Value.bool true]) := HX
    go_wp2_with fail
    go_returns
    rw [set_double, HV.out]
    exact ⟨rfl, HX.out, HG.out⟩
end Go.Proofs.YtihgjmhhpiobbaaDoor
