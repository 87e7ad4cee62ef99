/- Two drawn bills, compared. -/
import Derived.Test.YtopbiihiogbhiaaDrwN
namespace Go.Proofs.Ytopbiihiogbhiaa
open Go.RowKit

def OutB3 (w : World) (e : Ending) (w' : World) : Prop := ∃ (A B : Option Addr) (xs ys : List Item) (n c m d : Nat) (o t p o' t' p' : Int), e = .returned (.tuple #[.agg #[.slice A n c, .int .i64 o, .int .i64 t, .int .i64 p], .agg #[.slice B m d, .int .i64 o', .int .i64 t', .int .i64 p']]) ∧ xs.length = n ∧ ys.length = m ∧ n ≤ 21 ∧
  w'.ownsRow w.heap.size 94 3 (.slice A n c) n (flat Item.cells xs) ∧ w'.ownsRow w.heap.size 94 3 (.slice B m d) m (flat Item.cells ys) ∧ Below w.heap.size w w'
set_option maxRecDepth 100000 in
set_option maxHeartbeats 4000000 in
theorem DrawSameBill_c (C : Option Addr) (nn cc : Nat) (cs : List UInt8) (hnn : Hid (cs.length = nn)) (hnb : nn ≤ 1048576) (w : World) (hA : Arr w C (cs.map bvS)) (hlt : ∀ ad, C = some ad → ad.block < w.heap.size) : Calls Try.prog 43 #[.slice C nn cc] w (OutB3 w) := by
  have HL0 := Lib.hid hlt
  have HA0 := Lib.hid hA
  obtain ⟨i0, hi0, hz0', hz1, hz2⟩ := info_parts (P := Try.prog) (e := 94) (z := .agg #[.string ByteArray.empty, .int .i64 0, .int .i64 0]) (size := 3) (bytes := 32) info_ItemL
  clear hlt hA
  go_enter Try.func43, Try.ntmps43
  go_wp2_with fail
  obtain ⟨W0, hW0⟩ : ∃ z, z = (w.alloc (Obj.cells #[Value.slice none 0 0, Value.int IntKind.i64 0, Value.int IntKind.i64 0, Value.int IntKind.i64 0] 49)).alloc (Obj.cells #[Value.slice none 0 0, Value.int IntKind.i64 0, Value.int IntKind.i64 0, Value.int IntKind.i64 0] 49) := ⟨_, rfl⟩
  obtain ⟨gz, hgz⟩ : ∃ z, z = w.heap.size := ⟨_, rfl⟩
  obtain ⟨gy, hgy⟩ : ∃ z, z = w.heap.size + 1 := ⟨_, rfl⟩
  have HZ : Hid (Blk W0 gz 49 #[Value.slice none 0 0, Value.int IntKind.i64 0, Value.int IntKind.i64 0, Value.int IntKind.i64 0]) := Lib.hid (by rw [hW0, hgz]; exact (Blk.new _ _ _).alloc _)
  have HY : Hid (Blk W0 gy 49 #[Value.slice none 0 0, Value.int IntKind.i64 0, Value.int IntKind.i64 0, Value.int IntKind.i64 0]) := Lib.hid (by
    have h := Blk.new (w.alloc (Obj.cells #[Value.slice none 0 0, Value.int IntKind.i64 0, Value.int IntKind.i64 0, Value.int IntKind.i64 0] 49)) 49 #[Value.slice none 0 0, Value.int IntKind.i64 0, Value.int IntKind.i64 0, Value.int IntKind.i64 0]
    rw [World.size_alloc] at h
    rw [hW0, hgy]; exact h)
  have hb0 : Below w.heap.size w W0 := by rw [hW0]; exact bl_alloc (bl_alloc (Below.refl _ _) _) _
  have hgyW := HY.out.lt
  have hz0 : w.heap.size ≤ gz := by omega
  have hzy : gz < gy := by omega
  have HB0 := Lib.hid hb0
  rw [← hW0, ← hgy, ← hgz]
  clear hW0 hgz hgy
  refine (l00From_c C nn cc cs hnn hnb W0 (HA0.out.below hb0) (fun ad e => Nat.lt_of_lt_of_le (HL0.out ad e) hb0.size)).mono ?_
  rintro e W1 ⟨rfl, hS, hb1⟩
  obtain ⟨g, hg⟩ : ∃ z, z = W0.heap.size := ⟨_, rfl⟩
  rw [← hg] at hS ⊢
  have HS := Lib.hid hS
  have HG := Lib.hid (grown_below (grown_of_below hb0 (some g)) hb1)
  have HW : Hid (gz ≤ W1.heap.size) := Lib.hid (by have := hb1.size; omega)
  replace HZ := Lib.hid (HZ.out.below hb1)
  replace HY := Lib.hid (HY.out.below hb1)
  have hgg : gy < g := by omega
  have hgw : w.heap.size ≤ g := by omega
  clear hS hb1 HA0 HL0 hb0 hg hgyW
  go_wp2_with fail

  have HS0 := HS
  refine (l26Draw_c g _ (by omega) _ HS.out).mono ?_
  rintro e W2 ⟨ga, xs, n, c, o, t, p, rfl, hxl, hn5, hxs, ho0, ho1, ht0, ht1, hown, hS, hg⟩
  replace HS := Lib.hid hS
  replace HG := Lib.hid (grown_trans HG.out hg)
  replace HZ := Lib.hid (HZ.out.grown hg (by intro e; injection e; omega))
  replace HY := Lib.hid (HY.out.grown hg (by intro e; injection e; omega))
  replace HW := Lib.hid (Nat.le_trans HW.out hg.size)
  clear hS hg
  have HXL := Lib.hid hxl
  have HXD := Lib.hid hxs
  have hw1 : g < W1.heap.size := HS0.out.lt
  have hga := own_at hown ga rfl
  have hgag : g < ga := by omega
  have hgaW := own_lt hown ga rfl
  have HO := Lib.hid (own_base hown (base' := g + 1) (by omega))
  clear hxl hxs hown HS0 hga
  go_wp2_with fail
  obtain ⟨W3, hWW3⟩ : ∃ z, z = World.alloc W2 (Obj.cells #[Value.slice (some ⟨ga, 0, none⟩) n c, Value.int IntKind.i64 o, Value.int IntKind.i64 t, Value.int IntKind.i64 p] 49) := ⟨_, rfl⟩
  obtain ⟨gx, hggx⟩ : ∃ z, z = (W2).heap.size := ⟨_, rfl⟩
  have hgx_ga : ga < gx := by rw [hggx]; exact hgaW
  clear hgaW
  have HX : Hid (Blk W3 gx 49 #[Value.slice (some ⟨ga, 0, none⟩) n c, Value.int IntKind.i64 o, Value.int IntKind.i64 t, Value.int IntKind.i64 p]) := Lib.hid (by rw [hWW3, hggx]; exact Blk.new _ _ _)
  have hb : Below (W2).heap.size W2 W3 := by rw [hWW3]; exact bl_alloc (Below.refl (W2).heap.size (W2)) _
  have hgx0 : gz ≤ gx := by rw [hggx]; exact HW.out
  have hgx1 : g < gx := by have h : g < (W2).heap.size := HS.out.lt; omega
  have hgx_HZ := Nat.ne_of_lt (hggx ▸ HZ.out.lt)
  have hgx_HY := Nat.ne_of_lt (hggx ▸ HY.out.lt)
  replace HS := Lib.hid (HS.out.below hb)
  replace HG := Lib.hid (grown_below HG.out hb)
  replace HO := Lib.hid (own_below HO.out hb)
  replace HZ := Lib.hid (HZ.out.below hb)
  replace HY := Lib.hid (HY.out.below hb)
  replace HW := Lib.hid (Nat.le_trans HW.out (hb).size)
  have hn_W3 : gx + 1 = W3.heap.size := by rw [hWW3, hggx]; exact (World.size_alloc _ _).symm
  rw [← hWW3, ← hggx]
  clear hWW3 hggx hb
  have hm : (n : Int) ≤ 1048576 := by omega
  have hgxW := HX.out.lt
  refine (l26Own_c gx ⟨ga, 0, none⟩ xs n c o t p HXL hm W3 HX.out (Arr.own HO.out)).mono ?_
  rintro e2 W4 ⟨B, e, rfl, hp, hb⟩
  replace HS := Lib.hid (HS.out.below hb)
  replace HG := Lib.hid (grown_below HG.out hb)
  replace HO := Lib.hid (own_below HO.out hb)
  replace HZ := Lib.hid (HZ.out.below hb)
  replace HY := Lib.hid (HY.out.below hb)
  replace HX := Lib.hid (HX.out.below hb)
  replace HW := Lib.hid (Nat.le_trans HW.out (hb).size)
  have HP := Lib.hid (own_base hp (base' := gx + 1) (by omega))
  have hpl := own_lt hp
  clear hp hb hgxW
  go_wp2_with fail
  obtain ⟨W5, hWW5⟩ : ∃ z, z = World.alloc W4 (Obj.cells #[Value.slice B n e, Value.int IntKind.i64 o, Value.int IntKind.i64 t, Value.int IntKind.i64 p] 49) := ⟨_, rfl⟩
  obtain ⟨gb, hggb⟩ : ∃ z, z = (W4).heap.size := ⟨_, rfl⟩
  have HPB : Hid (∀ k, (Value.slice B n e).ownBlock = some k → k ≠ gb) := Lib.hid (fun k h => by have h1 := hpl k h; rw [← hggb] at h1; omega)
  clear hpl
  have hxb : gx < gb := by rw [hggb]; exact HX.out.lt
  have HB : Hid (Blk W5 gb 49 #[Value.slice B n e, Value.int IntKind.i64 o, Value.int IntKind.i64 t, Value.int IntKind.i64 p]) := Lib.hid (by rw [hWW5, hggb]; exact Blk.new _ _ _)
  have hb : Below (W4).heap.size W4 W5 := by rw [hWW5]; exact bl_alloc (Below.refl (W4).heap.size (W4)) _
  have hgb0 : gz ≤ gb := by rw [hggb]; exact HW.out
  have hgb1 : g < gb := by have h : g < (W4).heap.size := HS.out.lt; omega
  have hgb_HZ := Nat.ne_of_lt (hggb ▸ HZ.out.lt)
  have hgb_HY := Nat.ne_of_lt (hggb ▸ HY.out.lt)
  have hgb_HX := Nat.ne_of_lt (hggb ▸ HX.out.lt)
  replace HS := Lib.hid (HS.out.below hb)
  replace HG := Lib.hid (grown_below HG.out hb)
  replace HO := Lib.hid (own_below HO.out hb)
  replace HP := Lib.hid (own_below HP.out hb)
  replace HZ := Lib.hid (HZ.out.below hb)
  replace HY := Lib.hid (HY.out.below hb)
  replace HX := Lib.hid (HX.out.below hb)
  replace HW := Lib.hid (Nat.le_trans HW.out (hb).size)
  have hn_W5 : gb + 1 = W5.heap.size := by rw [hWW5, hggb]; exact (World.size_alloc _ _).symm
  rw [← hWW5, ← hggb]
  clear hWW5 hggb hb
  clear hn_W3 hn_W5
  refine (pick_c g _ 4 (by omega) (by omega) _ HS.out).mono ?_
  rintro e W6 ⟨r, rfl, r0, r1, hS, hg⟩
  replace HS := Lib.hid hS
  replace HG := Lib.hid (grown_trans HG.out hg)
  replace HO := Lib.hid (HO.out.kept hg (.inr (fun e => by have := own_at HO.out g e; omega)))
  replace HP := Lib.hid (HP.out.kept hg (.inr (fun e => by have := own_at HP.out g e; omega)))
  replace HZ := Lib.hid (HZ.out.grown hg (by intro e; injection e; omega))
  replace HY := Lib.hid (HY.out.grown hg (by intro e; injection e; omega))
  replace HX := Lib.hid (HX.out.grown hg (by intro e; injection e; omega))
  replace HB := Lib.hid (HB.out.grown hg (by intro e; injection e; omega))
  replace HW := Lib.hid (Nat.le_trans HW.out hg.size)
  clear hS hg
  go_upto_block 0 with fail
  go_cut [] (fun wx => ∃ (B : Option Addr) (ys : List Item) (m e : Nat) (o' t' p' : Int), Hid (ys.length = m) ∧ Hid (wx.ownsRow (gx + 1) 94 3 (.slice B m e) m (flat Item.cells ys)) ∧ Hid (wx.ownsRow (g + 1) 94 3 (.slice (some ⟨ga, 0, none⟩) n c) n (flat Item.cells xs)) ∧ Hid (Blk wx gb 49 #[Value.slice B m e, Value.int IntKind.i64 o', Value.int IntKind.i64 t', Value.int IntKind.i64 p']) ∧ Hid (Blk wx gx 49 #[Value.slice (some ⟨ga, 0, none⟩) n c, Value.int IntKind.i64 o, Value.int IntKind.i64 t, Value.int IntKind.i64 p]) ∧ Hid (w.grownBy wx (some g)) ∧ Hid (Blk wx gz 49 #[Value.slice none 0 0, Value.int IntKind.i64 0, Value.int IntKind.i64 0, Value.int IntKind.i64 0]) ∧ Hid (Blk wx gy 49 #[Value.slice none 0 0, Value.int IntKind.i64 0, Value.int IntKind.i64 0, Value.int IntKind.i64 0]) ∧ Hid (gz ≤ wx.heap.size))
  case first =>
    by_cases h0 : r = 0
    case pos =>
      subst h0
      have k2 : W6.cell? ⟨gb, 2, none⟩ = some (.int .i64 t) := HB.out.cell 2
      have f2 := HB.out.frozen 2
      go_wp2_with fail
      clear k2 f2
      obtain ⟨W7, hW⟩ : ∃ z, z = World.setCell W6 ⟨gb, 2, none⟩ (Value.int IntKind.i64 (t + 1)) := ⟨_, rfl⟩
      replace HB := Lib.hid (HB.out.set_ 2 (Value.int IntKind.i64 (t + 1)))
      replace HS := Lib.hid (HS.out.far (p := ⟨gb, 2, none⟩) (by simp only; omega) (Value.int IntKind.i64 (t + 1)))
      replace HG := Lib.hid (grown_setCell (p := ⟨gb, 2, none⟩) HG.out (.inr (by simp only; omega)) (Value.int IntKind.i64 (t + 1)))
      replace HO := Lib.hid (own_far HO.out (p := ⟨gb, 2, none⟩) (fun k e => by have : ga = k := (by simpa [Value.ownBlock] using e); simp only; omega) (Value.int IntKind.i64 (t + 1)))
      replace HP := Lib.hid (own_far HP.out (p := ⟨gb, 2, none⟩) (fun k e => by have := HPB.out k e; simp only; omega) (Value.int IntKind.i64 (t + 1)))
      replace HZ := Lib.hid (HZ.out.far (p := ⟨gb, 2, none⟩) (by simp only; omega) (Value.int IntKind.i64 (t + 1)))
      replace HY := Lib.hid (HY.out.far (p := ⟨gb, 2, none⟩) (by simp only; omega) (Value.int IntKind.i64 (t + 1)))
      replace HX := Lib.hid (HX.out.far (p := ⟨gb, 2, none⟩) (by simp only; omega) (Value.int IntKind.i64 (t + 1)))
      replace HW := Lib.hid (show gz ≤ (World.setCell W6 ⟨gb, 2, none⟩ (Value.int IntKind.i64 (t + 1))).heap.size by rw [World.size_setCell]; exact HW.out)
      rw [← hW] at HS HG HW HO HP HZ HY HX HB ⊢
      clear hW
      replace HB : Hid (Blk W7 gb 49 #[Value.slice B n e, Value.int IntKind.i64 o, Value.int IntKind.i64 (t + 1), Value.int IntKind.i64 p]) := HB
      go_meet
      exact ⟨B, xs, n, e, o, (t + 1), p, HXL, HP, HO, HB, HX, HG, HZ, HY, HW⟩
    by_cases h1 : r = 1
    case pos =>
      subst h1
      have x0 := HB.out.cell 0
      have HPA := Lib.hid (HP.out.alloc (Obj.cells #[Value.string ⟨#[]⟩, Value.int IntKind.i64 0, Value.int IntKind.i64 0] 94))
      have HNB := Lib.hid (World.news_of_block (Blk.new W6 94 #[Value.string ⟨#[]⟩, Value.int IntKind.i64 0, Value.int IntKind.i64 0]))
      have HBS : Hid (gx + 1 ≤ (World.alloc W6 (Obj.cells #[Value.string ⟨#[]⟩, Value.int IntKind.i64 0, Value.int IntKind.i64 0] 94)).heap.size) := Lib.hid (by have := HB.out.lt; rw [World.size_alloc]; omega)
      have HXA := Lib.hid (HB.out.alloc (Obj.cells #[Value.string ⟨#[]⟩, Value.int IntKind.i64 0, Value.int IntKind.i64 0] 94))
      go_wp2_with (at_builtin; refine wpList_append_lies (w := World.alloc W6 (Obj.cells #[Value.string ⟨#[]⟩, Value.int IntKind.i64 0, Value.int IntKind.i64 0] 94)) rfl _ _ 47 rfl (gx + 1) 94 i0 _ 3 32 Try.underlying47 hi0 hz0' hz1 hz2 rfl (by omega) (.slice B n e) n (flat Item.cells xs) rfl HPA.out ⟨W6.heap.size, 0, none⟩ 1 1 #[Value.string ⟨#[]⟩, Value.int IntKind.i64 0, Value.int IntKind.i64 0].toList rfl rfl HNB.out (by simp [Value.oneCell']) (by omega) (by unfold maxLen; omega) (by omega) HBS.out _ rfl ?_; intro g9 cap W10 hown9 hg9 hat hlt9; have hX10 := HXA.out.grown hg9 (fun e => HPB.out gb e.symm rfl); have y0 := hX10.cell 0; have fy := hX10.frozen 0)
      clear x0 y0 fy hX10 HNB HXA HBS HPA
      have hxl := HB.out.lt
      have H9B : g9 ≠ gb := by
        rcases hat with h | h
        · exact HPB.out g9 h
        · rw [World.size_alloc] at h; omega
      clear hat
      have HPO := HP
      replace HS := Lib.hid (HS.out.below (bl_alloc (Below.refl _ _) (.cells #[Value.string ⟨#[]⟩, Value.int IntKind.i64 0, Value.int IntKind.i64 0] 94)))
      replace HG := Lib.hid (grown_alloc HG.out (.cells #[Value.string ⟨#[]⟩, Value.int IntKind.i64 0, Value.int IntKind.i64 0] 94))
      replace HO := Lib.hid (HO.out.alloc (.cells #[Value.string ⟨#[]⟩, Value.int IntKind.i64 0, Value.int IntKind.i64 0] 94))
      replace HP := Lib.hid (HP.out.alloc (.cells #[Value.string ⟨#[]⟩, Value.int IntKind.i64 0, Value.int IntKind.i64 0] 94))
      replace HZ := Lib.hid (HZ.out.alloc (.cells #[Value.string ⟨#[]⟩, Value.int IntKind.i64 0, Value.int IntKind.i64 0] 94))
      replace HY := Lib.hid (HY.out.alloc (.cells #[Value.string ⟨#[]⟩, Value.int IntKind.i64 0, Value.int IntKind.i64 0] 94))
      replace HX := Lib.hid (HX.out.alloc (.cells #[Value.string ⟨#[]⟩, Value.int IntKind.i64 0, Value.int IntKind.i64 0] 94))
      replace HB := Lib.hid (HB.out.alloc (.cells #[Value.string ⟨#[]⟩, Value.int IntKind.i64 0, Value.int IntKind.i64 0] 94))
      replace HW := Lib.hid (show gz ≤ (World.alloc W6 (.cells #[Value.string ⟨#[]⟩, Value.int IntKind.i64 0, Value.int IntKind.i64 0] 94)).heap.size by have := HW.out; rw [World.size_alloc]; omega)
      replace HS := Lib.hid (HS.out.over hg9 (fun i e => by have := own_at HP.out i e; omega))
      replace HG := Lib.hid (grown_over HG.out hg9 (fun i e => by have := own_at HP.out i e; omega))
      replace HO := Lib.hid (HO.out.kept hg9 (.inr (fun e => by have h1 : some ga = (Value.slice B n _).ownBlock := (by simpa [Value.ownBlock] using e); have h2 := own_at HPO.out ga h1.symm; omega)))
      replace HZ := Lib.hid (HZ.out.grown hg9 (fun e => by have := own_at HP.out _ e.symm; omega))
      replace HY := Lib.hid (HY.out.grown hg9 (fun e => by have := own_at HP.out _ e.symm; omega))
      replace HX := Lib.hid (HX.out.grown hg9 (fun e => by have := own_at HP.out _ e.symm; omega))
      replace HB := Lib.hid (HB.out.grown hg9 (fun e => HPB.out gb e.symm rfl))
      replace HW := Lib.hid (Nat.le_trans HW.out hg9.size)
      replace HP := Lib.hid hown9
      clear hown9 hg9
      clear HPO
      obtain ⟨W11, hW⟩ : ∃ z, z = World.setCell W10 ⟨gb, 0, none⟩ (Value.slice (some ⟨g9, 0, none⟩) (n + 1) cap) := ⟨_, rfl⟩
      replace HB := Lib.hid (HB.out.set_ 0 (Value.slice (some ⟨g9, 0, none⟩) (n + 1) cap))
      replace HS := Lib.hid (HS.out.far (p := ⟨gb, 0, none⟩) (by simp only; omega) (Value.slice (some ⟨g9, 0, none⟩) (n + 1) cap))
      replace HG := Lib.hid (grown_setCell (p := ⟨gb, 0, none⟩) HG.out (.inr (by simp only; omega)) (Value.slice (some ⟨g9, 0, none⟩) (n + 1) cap))
      replace HO := Lib.hid (own_far HO.out (p := ⟨gb, 0, none⟩) (fun k e => by have : ga = k := (by simpa [Value.ownBlock] using e); simp only; omega) (Value.slice (some ⟨g9, 0, none⟩) (n + 1) cap))
      replace HP := Lib.hid (own_far HP.out (p := ⟨gb, 0, none⟩) (fun k e => by have : g9 = k := (by simpa [Value.ownBlock] using e); simp only; omega) (Value.slice (some ⟨g9, 0, none⟩) (n + 1) cap))
      replace HZ := Lib.hid (HZ.out.far (p := ⟨gb, 0, none⟩) (by simp only; omega) (Value.slice (some ⟨g9, 0, none⟩) (n + 1) cap))
      replace HY := Lib.hid (HY.out.far (p := ⟨gb, 0, none⟩) (by simp only; omega) (Value.slice (some ⟨g9, 0, none⟩) (n + 1) cap))
      replace HX := Lib.hid (HX.out.far (p := ⟨gb, 0, none⟩) (by simp only; omega) (Value.slice (some ⟨g9, 0, none⟩) (n + 1) cap))
      replace HW := Lib.hid (show gz ≤ (World.setCell W10 ⟨gb, 0, none⟩ (Value.slice (some ⟨g9, 0, none⟩) (n + 1) cap)).heap.size by rw [World.size_setCell]; exact HW.out)
      rw [← hW] at HS HG HW HO HP HZ HY HX HB ⊢
      clear hW
      replace HB : Hid (Blk W11 gb 49 #[Value.slice (some ⟨g9, 0, none⟩) (n + 1) cap, Value.int IntKind.i64 o, Value.int IntKind.i64 t, Value.int IntKind.i64 p]) := HB
      have e9 : flat Item.cells (xs ++ [(⟨⟨#[]⟩, 0, 0⟩ : Item)]) = flat Item.cells xs ++ #[Value.string ⟨#[]⟩, Value.int IntKind.i64 0, Value.int IntKind.i64 0].toList := by simp [flat, Item.cells]
      rw [← e9] at HP
      have HXL2 : Hid ((xs ++ [(⟨⟨#[]⟩, 0, 0⟩ : Item)]).length = n + 1) := Lib.hid (by rw [List.length_append, HXL.out]; rfl)
      go_meet
      exact ⟨(some ⟨g9, 0, none⟩), (xs ++ [(⟨⟨#[]⟩, 0, 0⟩ : Item)]), (n + 1), cap, o, t, p, HXL2, HP, HO, HB, HX, HG, HZ, HY, HW⟩
    by_cases h2 : r = 2
    case pos =>
      subst h2
      have x0 := HB.out.cell 0
      by_cases hn0 : n = 0
      · have HN0 := Lib.hid hn0
        have hn1 : ¬ (0 : Int) < (n : Int) := by omega
        clear hn0
        go_wp2_with fail
        go_meet
        exact ⟨B, xs, n, e, o, t, p, HXL, HP, HO, HB, HX, HG, HZ, HY, HW⟩
      have hn1 : (0 : Int) < (n : Int) := by omega
      obtain ⟨gq, hgq⟩ := own_addr HP.out (by omega)
      subst hgq
      obtain ⟨x, hx⟩ := get_of_lt (xs := xs) (k := 0) (by rw [HXL.out]; omega)
      have HXX := Lib.hid hx
      obtain ⟨hd0, hd1, hd2, hd3, hd4⟩ := HXD.out x (List.mem_of_getElem? hx)
      obtain ⟨ad, had, _, c0, c1, c2⟩ := Item.at_ (Arr.own HP.out) hx
      injection had with had
      subst had
      have c2' : W6.cell? ⟨gq, 2, none⟩ = some (.int .i64 x.cents) := c2
      have fz := HP.out.frozenAt 2
      have hq2 := own_at HP.out gq rfl
      have hqb := HPB.out gq rfl
      clear hx hn0 c0 c1 c2
      go_wp2_with fail
      clear x0 c2' fz
      obtain ⟨W7, hW⟩ : ∃ z, z = World.setCell W6 ⟨gq, 2, none⟩ (Value.int IntKind.i64 (x.cents + 1)) := ⟨_, rfl⟩
      replace HP := Lib.hid (HP.out.stored 2 (Value.int IntKind.i64 (x.cents + 1))).1
      replace HG := Lib.hid (grown_setCell (p := ⟨gq, 2, none⟩) HG.out (.inr (by simp only; omega)) (Value.int IntKind.i64 (x.cents + 1)))
      replace HO := Lib.hid (own_far HO.out (p := ⟨gq, 2, none⟩) (fun k e => by have : ga = k := (by simpa [Value.ownBlock] using e); simp only; omega) (Value.int IntKind.i64 (x.cents + 1)))
      replace HB := Lib.hid (HB.out.far (p := ⟨gq, 2, none⟩) (by simp only; omega) (Value.int IntKind.i64 (x.cents + 1)))
      replace HX := Lib.hid (HX.out.far (p := ⟨gq, 2, none⟩) (by simp only; omega) (Value.int IntKind.i64 (x.cents + 1)))
      replace HZ := Lib.hid (HZ.out.far (p := ⟨gq, 2, none⟩) (by simp only; omega) (Value.int IntKind.i64 (x.cents + 1)))
      replace HY := Lib.hid (HY.out.far (p := ⟨gq, 2, none⟩) (by simp only; omega) (Value.int IntKind.i64 (x.cents + 1)))
      replace HW := Lib.hid (show gz ≤ (World.setCell W6 ⟨gq, 2, none⟩ (Value.int IntKind.i64 (x.cents + 1))).heap.size by rw [World.size_setCell]; exact HW.out)
      rw [← hW] at HG HW HO HP HB HX HZ HY ⊢
      clear hW
      have e9 := flat_set_at Item.cells 3 Item.cells_length 2 (by omega) (Value.int IntKind.i64 (x.cents + 1)) x { x with cents := x.cents + 1 } rfl xs 0 HXX.out
      rw [Nat.zero_mul, Nat.zero_add] at e9
      rw [e9] at HP
      have HXL2 : Hid ((xs.set 0 { x with cents := x.cents + 1 }).length = n) := Lib.hid (by rw [List.length_set]; exact HXL.out)
      go_meet
      exact ⟨(some ⟨gq, 0, none⟩), (xs.set 0 { x with cents := x.cents + 1 }), n, e, o, t, p, HXL2, HP, HO, HB, HX, HG, HZ, HY, HW⟩
    go_wp2_with fail
    go_meet
    exact ⟨B, xs, n, e, o, t, p, HXL, HP, HO, HB, HX, HG, HZ, HY, HW⟩
  case rest =>
  clear HX HS HG HZ HY HW HO HP HB HPB HXD ho0 ho1 ht0 ht1
  obtain ⟨B, ys, m, e, o', t', p', HYL, HP, HO, HB, HX, HG, HZ, HY, HW⟩ := hcut
  go_wp2_with fail
  refine wp_region_held_drew (S := fun w' => Blk w' gx 49 #[Value.slice (some ⟨ga, 0, none⟩) n c, Value.int IntKind.i64 o, Value.int IntKind.i64 t, Value.int IntKind.i64 p] ∧ Blk w' gb 49 #[Value.slice B m e, Value.int IntKind.i64 o', Value.int IntKind.i64 t', Value.int IntKind.i64 p']) (by kernel_rfl) ?_ (fun _ => ?_)
  · exact ⟨HX.out.below (Below.refl (wc).heap.size (wc)).drew, HB.out.below (Below.refl (wc).heap.size (wc)).drew⟩
  replace HG := Lib.hid (grown_below HG.out (Below.refl (wc).heap.size (wc)).drew)
  replace HO := Lib.hid (own_below HO.out (Below.refl (wc).heap.size (wc)).drew)
  replace HP := Lib.hid (own_below HP.out (Below.refl (wc).heap.size (wc)).drew)
  replace HZ := Lib.hid (HZ.out.below (Below.refl (wc).heap.size (wc)).drew)
  replace HY := Lib.hid (HY.out.below (Below.refl (wc).heap.size (wc)).drew)
  replace HX := Lib.hid (HX.out.below (Below.refl (wc).heap.size (wc)).drew)
  replace HB := Lib.hid (HB.out.below (Below.refl (wc).heap.size (wc)).drew)
  replace HW := Lib.hid (Nat.le_trans HW.out ((Below.refl (wc).heap.size (wc)).drew).size)
  refine wpAnyH_take (i := 0) (oi := { dst := some 42, op := _, type := _, pos := _, after := _, guard := _ }) (v := ?_) rfl (by kernel_rfl) (by kernel_rfl) (by kernel_rfl) (fun _ _ _ h => h) (Or.inl ⟨by kernel_rfl, ?_⟩) (⟨HX.out, HB.out⟩) ?_
  rotate_left
  · intro w hSw
    try dsimp only at hSw
    have k0 : w.cell? ⟨gx, 0, none⟩ = some (Value.slice (some ⟨ga, 0, none⟩) n c) := hSw.1.cell 0
    have k1 : w.cell? ⟨gx, 1, none⟩ = some (Value.int IntKind.i64 o) := hSw.1.cell 1
    have k2 : w.cell? ⟨gx, 2, none⟩ = some (Value.int IntKind.i64 t) := hSw.1.cell 2
    have k3 : w.cell? ⟨gx, 3, none⟩ = some (Value.int IntKind.i64 p) := hSw.1.cell 3
    go_simp
    try with_reducible rfl
  try simp only [Act.put, List.setIfInBounds_toArray, List.set_cons_zero, List.set_cons_succ]
  refine wpAnyH_take (i := 1) (oi := { dst := some 43, op := _, type := _, pos := _, after := _, guard := _ }) (v := ?_) rfl (by kernel_rfl) (by kernel_rfl) (by kernel_rfl) (fun _ _ _ h => h) (Or.inl ⟨by kernel_rfl, ?_⟩) (⟨HX.out, HB.out⟩) ?_
  rotate_left
  · intro w hSw
    try dsimp only at hSw
    have k0 : w.cell? ⟨gb, 0, none⟩ = some (Value.slice B m e) := hSw.2.cell 0
    have k1 : w.cell? ⟨gb, 1, none⟩ = some (Value.int IntKind.i64 o') := hSw.2.cell 1
    have k2 : w.cell? ⟨gb, 2, none⟩ = some (Value.int IntKind.i64 t') := hSw.2.cell 2
    have k3 : w.cell? ⟨gb, 3, none⟩ = some (Value.int IntKind.i64 p') := hSw.2.cell 3
    go_simp
    try with_reducible rfl
  try simp only [Act.put, List.setIfInBounds_toArray, List.set_cons_zero, List.set_cons_succ]
  have HPL : Hid (∀ k, (Value.slice B m e).ownBlock = some k → k ≠ gz) := Lib.hid (fun k h => by have := own_at HP.out k h; omega)
  have HPM : Hid (∀ k, (Value.slice B m e).ownBlock = some k → k ≠ gy) := Lib.hid (fun k h => by have := own_at HP.out k h; omega)
  refine wpAnyH_ready (rs := [2]) (by kernel_rfl) (by simp) ?_
  refine (AllReadyH.cons (o := { dst := none, op := _, type := _, pos := _, after := _, guard := _ }) rfl (fun K hK => ?_) AllReadyH.nil)
  have z0 : World.cell? (wc) ⟨gz, 0, none⟩ = some (Value.slice none 0 0) := HZ.out.cell 0
  have f0 : World.frozen? (wc) ⟨gz, 0, none⟩ = false := HZ.out.frozen 0
  have z1 : World.cell? (wc) ⟨gz, 1, none⟩ = some (Value.int IntKind.i64 0) := HZ.out.cell 1
  have f1 : World.frozen? (wc) ⟨gz, 1, none⟩ = false := HZ.out.frozen 1
  have z2 : World.cell? (wc) ⟨gz, 2, none⟩ = some (Value.int IntKind.i64 0) := HZ.out.cell 2
  have f2 : World.frozen? (wc) ⟨gz, 2, none⟩ = false := HZ.out.frozen 2
  have z3 : World.cell? (wc) ⟨gz, 3, none⟩ = some (Value.int IntKind.i64 0) := HZ.out.cell 3
  have f3 : World.frozen? (wc) ⟨gz, 3, none⟩ = false := HZ.out.frozen 3
  go_simp
  clear z0 z1 z2 z3 f0 f1 f2 f3
  obtain ⟨W10, hW⟩ : ∃ z, z = (World.setCell (World.setCell (World.setCell (World.setCell wc ⟨gz, 0, none⟩ (Value.slice (some ⟨ga, 0, none⟩) n c)) ⟨gz, 1, none⟩ (Value.int IntKind.i64 o)) ⟨gz, 2, none⟩ (Value.int IntKind.i64 t)) ⟨gz, 3, none⟩ (Value.int IntKind.i64 p)).drew := ⟨_, rfl⟩
  have eW : (World.setCell (World.setCell (World.setCell (World.setCell (wc).drew ⟨gz, 0, none⟩ (Value.slice (some ⟨ga, 0, none⟩) n c)) ⟨gz, 1, none⟩ (Value.int IntKind.i64 o)) ⟨gz, 2, none⟩ (Value.int IntKind.i64 t)) ⟨gz, 3, none⟩ (Value.int IntKind.i64 p)) = (World.setCell (World.setCell (World.setCell (World.setCell wc ⟨gz, 0, none⟩ (Value.slice (some ⟨ga, 0, none⟩) n c)) ⟨gz, 1, none⟩ (Value.int IntKind.i64 o)) ⟨gz, 2, none⟩ (Value.int IntKind.i64 t)) ⟨gz, 3, none⟩ (Value.int IntKind.i64 p)).drew := rfl
  replace HZ := Lib.hid (((((HZ.out).set_ 0 (Value.slice (some ⟨ga, 0, none⟩) n c)).set_ 1 (Value.int IntKind.i64 o)).set_ 2 (Value.int IntKind.i64 t)).set_ 3 (Value.int IntKind.i64 p))
  replace HG := Lib.hid (grown_setCell (p := ⟨gz, 3, none⟩) (grown_setCell (p := ⟨gz, 2, none⟩) (grown_setCell (p := ⟨gz, 1, none⟩) (grown_setCell (p := ⟨gz, 0, none⟩) (HG.out) (.inr (by simp only; omega)) (Value.slice (some ⟨ga, 0, none⟩) n c)) (.inr (by simp only; omega)) (Value.int IntKind.i64 o)) (.inr (by simp only; omega)) (Value.int IntKind.i64 t)) (.inr (by simp only; omega)) (Value.int IntKind.i64 p))
  replace HO := Lib.hid (own_far (own_far (own_far (own_far (HO.out) (p := ⟨gz, 0, none⟩) (fun k e => by have : ga = k := (by simpa [Value.ownBlock] using e); simp only; omega) (Value.slice (some ⟨ga, 0, none⟩) n c)) (p := ⟨gz, 1, none⟩) (fun k e => by have : ga = k := (by simpa [Value.ownBlock] using e); simp only; omega) (Value.int IntKind.i64 o)) (p := ⟨gz, 2, none⟩) (fun k e => by have : ga = k := (by simpa [Value.ownBlock] using e); simp only; omega) (Value.int IntKind.i64 t)) (p := ⟨gz, 3, none⟩) (fun k e => by have : ga = k := (by simpa [Value.ownBlock] using e); simp only; omega) (Value.int IntKind.i64 p))
  replace HP := Lib.hid (own_far (own_far (own_far (own_far (HP.out) (p := ⟨gz, 0, none⟩) (fun k e => HPL.out k e) (Value.slice (some ⟨ga, 0, none⟩) n c)) (p := ⟨gz, 1, none⟩) (fun k e => HPL.out k e) (Value.int IntKind.i64 o)) (p := ⟨gz, 2, none⟩) (fun k e => HPL.out k e) (Value.int IntKind.i64 t)) (p := ⟨gz, 3, none⟩) (fun k e => HPL.out k e) (Value.int IntKind.i64 p))
  replace HY := Lib.hid (((((HY.out).far (p := ⟨gz, 0, none⟩) (by simp only; omega) (Value.slice (some ⟨ga, 0, none⟩) n c)).far (p := ⟨gz, 1, none⟩) (by simp only; omega) (Value.int IntKind.i64 o)).far (p := ⟨gz, 2, none⟩) (by simp only; omega) (Value.int IntKind.i64 t)).far (p := ⟨gz, 3, none⟩) (by simp only; omega) (Value.int IntKind.i64 p))
  replace HX := Lib.hid (((((HX.out).far (p := ⟨gz, 0, none⟩) (by simp only; omega) (Value.slice (some ⟨ga, 0, none⟩) n c)).far (p := ⟨gz, 1, none⟩) (by simp only; omega) (Value.int IntKind.i64 o)).far (p := ⟨gz, 2, none⟩) (by simp only; omega) (Value.int IntKind.i64 t)).far (p := ⟨gz, 3, none⟩) (by simp only; omega) (Value.int IntKind.i64 p))
  replace HB := Lib.hid (((((HB.out).far (p := ⟨gz, 0, none⟩) (by simp only; omega) (Value.slice (some ⟨ga, 0, none⟩) n c)).far (p := ⟨gz, 1, none⟩) (by simp only; omega) (Value.int IntKind.i64 o)).far (p := ⟨gz, 2, none⟩) (by simp only; omega) (Value.int IntKind.i64 t)).far (p := ⟨gz, 3, none⟩) (by simp only; omega) (Value.int IntKind.i64 p))
  replace HW := Lib.hid (show gz ≤ ((World.setCell (World.setCell (World.setCell (World.setCell (wc).drew ⟨gz, 0, none⟩ (Value.slice (some ⟨ga, 0, none⟩) n c)) ⟨gz, 1, none⟩ (Value.int IntKind.i64 o)) ⟨gz, 2, none⟩ (Value.int IntKind.i64 t)) ⟨gz, 3, none⟩ (Value.int IntKind.i64 p))).heap.size by simp only [World.size_setCell]; exact HW.out)
  rw [eW, ← hW] at HG HW HO HP HZ HY HX HB
  rw [← hW]
  clear hW eW
  replace HZ : Hid (Blk W10 gz 49 #[Value.slice (some ⟨ga, 0, none⟩) n c, Value.int IntKind.i64 o, Value.int IntKind.i64 t, Value.int IntKind.i64 p]) := HZ

  refine hK.out _ _ (⟨HX.out, HB.out⟩) (fun _ => ?_)
  clear hK K
  try simp only [Act.put]
  refine wpAnyH_ready (rs := [3]) (by kernel_rfl) (by simp) ?_
  refine (AllReadyH.cons (o := { dst := none, op := _, type := _, pos := _, after := _, guard := _ }) rfl (fun K hK => ?_) AllReadyH.nil)
  have z0 : World.cell? (W10) ⟨gy, 0, none⟩ = some (Value.slice none 0 0) := HY.out.cell 0
  have f0 : World.frozen? (W10) ⟨gy, 0, none⟩ = false := HY.out.frozen 0
  have z1 : World.cell? (W10) ⟨gy, 1, none⟩ = some (Value.int IntKind.i64 0) := HY.out.cell 1
  have f1 : World.frozen? (W10) ⟨gy, 1, none⟩ = false := HY.out.frozen 1
  have z2 : World.cell? (W10) ⟨gy, 2, none⟩ = some (Value.int IntKind.i64 0) := HY.out.cell 2
  have f2 : World.frozen? (W10) ⟨gy, 2, none⟩ = false := HY.out.frozen 2
  have z3 : World.cell? (W10) ⟨gy, 3, none⟩ = some (Value.int IntKind.i64 0) := HY.out.cell 3
  have f3 : World.frozen? (W10) ⟨gy, 3, none⟩ = false := HY.out.frozen 3
  go_simp
  clear z0 z1 z2 z3 f0 f1 f2 f3
  obtain ⟨W11, hW⟩ : ∃ z, z = (World.setCell (World.setCell (World.setCell (World.setCell W10 ⟨gy, 0, none⟩ (Value.slice B m e)) ⟨gy, 1, none⟩ (Value.int IntKind.i64 o')) ⟨gy, 2, none⟩ (Value.int IntKind.i64 t')) ⟨gy, 3, none⟩ (Value.int IntKind.i64 p')) := ⟨_, rfl⟩
  replace HY := Lib.hid (((((HY.out).set_ 0 (Value.slice B m e)).set_ 1 (Value.int IntKind.i64 o')).set_ 2 (Value.int IntKind.i64 t')).set_ 3 (Value.int IntKind.i64 p'))
  replace HG := Lib.hid (grown_setCell (p := ⟨gy, 3, none⟩) (grown_setCell (p := ⟨gy, 2, none⟩) (grown_setCell (p := ⟨gy, 1, none⟩) (grown_setCell (p := ⟨gy, 0, none⟩) (HG.out) (.inr (by simp only; omega)) (Value.slice B m e)) (.inr (by simp only; omega)) (Value.int IntKind.i64 o')) (.inr (by simp only; omega)) (Value.int IntKind.i64 t')) (.inr (by simp only; omega)) (Value.int IntKind.i64 p'))
  replace HO := Lib.hid (own_far (own_far (own_far (own_far (HO.out) (p := ⟨gy, 0, none⟩) (fun k e => by have : ga = k := (by simpa [Value.ownBlock] using e); simp only; omega) (Value.slice B m e)) (p := ⟨gy, 1, none⟩) (fun k e => by have : ga = k := (by simpa [Value.ownBlock] using e); simp only; omega) (Value.int IntKind.i64 o')) (p := ⟨gy, 2, none⟩) (fun k e => by have : ga = k := (by simpa [Value.ownBlock] using e); simp only; omega) (Value.int IntKind.i64 t')) (p := ⟨gy, 3, none⟩) (fun k e => by have : ga = k := (by simpa [Value.ownBlock] using e); simp only; omega) (Value.int IntKind.i64 p'))
  replace HP := Lib.hid (own_far (own_far (own_far (own_far (HP.out) (p := ⟨gy, 0, none⟩) (fun k e => HPM.out k e) (Value.slice B m e)) (p := ⟨gy, 1, none⟩) (fun k e => HPM.out k e) (Value.int IntKind.i64 o')) (p := ⟨gy, 2, none⟩) (fun k e => HPM.out k e) (Value.int IntKind.i64 t')) (p := ⟨gy, 3, none⟩) (fun k e => HPM.out k e) (Value.int IntKind.i64 p'))
  replace HZ := Lib.hid (((((HZ.out).far (p := ⟨gy, 0, none⟩) (by simp only; omega) (Value.slice B m e)).far (p := ⟨gy, 1, none⟩) (by simp only; omega) (Value.int IntKind.i64 o')).far (p := ⟨gy, 2, none⟩) (by simp only; omega) (Value.int IntKind.i64 t')).far (p := ⟨gy, 3, none⟩) (by simp only; omega) (Value.int IntKind.i64 p'))
  replace HX := Lib.hid (((((HX.out).far (p := ⟨gy, 0, none⟩) (by simp only; omega) (Value.slice B m e)).far (p := ⟨gy, 1, none⟩) (by simp only; omega) (Value.int IntKind.i64 o')).far (p := ⟨gy, 2, none⟩) (by simp only; omega) (Value.int IntKind.i64 t')).far (p := ⟨gy, 3, none⟩) (by simp only; omega) (Value.int IntKind.i64 p'))
  replace HB := Lib.hid (((((HB.out).far (p := ⟨gy, 0, none⟩) (by simp only; omega) (Value.slice B m e)).far (p := ⟨gy, 1, none⟩) (by simp only; omega) (Value.int IntKind.i64 o')).far (p := ⟨gy, 2, none⟩) (by simp only; omega) (Value.int IntKind.i64 t')).far (p := ⟨gy, 3, none⟩) (by simp only; omega) (Value.int IntKind.i64 p'))
  replace HW := Lib.hid (show gz ≤ ((World.setCell (World.setCell (World.setCell (World.setCell W10 ⟨gy, 0, none⟩ (Value.slice B m e)) ⟨gy, 1, none⟩ (Value.int IntKind.i64 o')) ⟨gy, 2, none⟩ (Value.int IntKind.i64 t')) ⟨gy, 3, none⟩ (Value.int IntKind.i64 p'))).heap.size by simp only [World.size_setCell]; exact HW.out)
  rw [← hW] at HG HW HO HP HZ HY HX HB ⊢
  clear hW
  replace HY : Hid (Blk W11 gy 49 #[Value.slice B m e, Value.int IntKind.i64 o', Value.int IntKind.i64 t', Value.int IntKind.i64 p']) := HY

  refine hK.out _ _ (⟨HX.out, HB.out⟩) (fun _ => ?_)
  clear hK K
  try simp only [Act.put]
  refine wpAnyH_done (by kernel_rfl) ?_ _
  have m0 : W11.cell? ⟨gz, 0, none⟩ = some (Value.slice (some ⟨ga, 0, none⟩) n c) := HZ.out.cell 0
  have m1 : W11.cell? ⟨gz, 1, none⟩ = some (Value.int IntKind.i64 o) := HZ.out.cell 1
  have m2 : W11.cell? ⟨gz, 2, none⟩ = some (Value.int IntKind.i64 t) := HZ.out.cell 2
  have m3 : W11.cell? ⟨gz, 3, none⟩ = some (Value.int IntKind.i64 p) := HZ.out.cell 3
  have q0 : W11.cell? ⟨gy, 0, none⟩ = some (Value.slice B m e) := HY.out.cell 0
  have q1 : W11.cell? ⟨gy, 1, none⟩ = some (Value.int IntKind.i64 o') := HY.out.cell 1
  have q2 : W11.cell? ⟨gy, 2, none⟩ = some (Value.int IntKind.i64 t') := HY.out.cell 2
  have q3 : W11.cell? ⟨gy, 3, none⟩ = some (Value.int IntKind.i64 p') := HY.out.cell 3
  go_wp2_with fail
  try simp only [Exit.inBlock, Exit.then]
  refine bodyPost_ret (v := .tuple #[.agg #[Value.slice (some ⟨ga, 0, none⟩) n c, Value.int IntKind.i64 o, Value.int IntKind.i64 t, Value.int IntKind.i64 p], .agg #[Value.slice B m e, Value.int IntKind.i64 o', Value.int IntKind.i64 t', Value.int IntKind.i64 p']]) (by simp [results, Try.results43, go_sem, m0, m1, m2, m3, q0, q1, q2, q3]) rfl ?_
  exact ⟨_, B, xs, ys, n, c, m, e, o, t, p, o', t', p', rfl, HXL.out, HYL.out, by omega, own_base HO.out (by omega), own_base HP.out (by omega), bl_grown (Below.refl _ _) HG.out (fun k e => by injection e with e; omega)⟩
end Go.Proofs.Ytopbiihiogbhiaa
