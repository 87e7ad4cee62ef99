/- Drawn bills, bent; what the laws draw. -/
import Derived.Test.YtnhkdcebldppmaaDoorDrwL
namespace Go.Proofs.YtnhkdcebldppmaaDoor
open Go.RowKit

def OutBn (g q : Nat) (w : World) (e : Ending) (w' : World) : Prop := ∃ (ga : Nat) (xs : List Item) (n c : Nat) (o t p : Int), e = .returned (.agg #[.slice (some ⟨ga, 0, none⟩) n c, .int .i64 o, .int .i64 t, .int .i64 p]) ∧ xs.length = n ∧ n ≤ 21 ∧ (∀ x ∈ xs, x.name.size ≤ 100) ∧
  w'.ownsRow w.heap.size 77 3 (.slice (some ⟨ga, 0, none⟩) n c) n (flat Item.cells xs) ∧ Src w' g (q + 200) ∧ w.grownBy w' (some g)
theorem arr_of_blkM {w : World} {g : Nat} {t : TypeId} {C : Array Value} (h : Blk w g t C) : Arr w (some ⟨g, 0, none⟩) C.toList := fun _ => by
  refine ⟨_, rfl, h.lt, fun j u hu => ?_⟩
  have hadd : (⟨g, 0, none⟩ : Addr).add j = ⟨g, j, none⟩ := by unfold Addr.add; split <;> simp_all
  rw [hadd, h.cell j]
  simpa using hu
set_option maxRecDepth 100000 in
set_option maxHeartbeats 4000000 in
theorem l26Bent_c (g q : Nat) (hq : q ≤ 500000000000) (w : World) (hS : Src w g q) : Calls Tryd.prog 38 #[.pointer (some ⟨g, 0, none⟩)] w (OutBn g q w) := by
  obtain ⟨i0, hi0, hz0, hz1, hz2⟩ := info_parts (P := Tryd.prog) (e := 77) (z := .agg #[.string ByteArray.empty, .int .i64 0, .int .i64 0]) (size := 3) (bytes := 32) info_ItemL
  have HS := Lib.hid hS
  have hgw := hS.lt
  have HG := Lib.hid (World.grownBy.refl w (some g))
  have HW := Lib.hid (Nat.le_refl w.heap.size)
  clear hS
  go_enter Tryd.func38, Tryd.ntmps38
  go_wp2_with fail

  obtain ⟨W0, hWW0⟩ : ∃ z, z = World.alloc w (Obj.cells #[Value.slice none 0 0, Value.int IntKind.i64 0, Value.int IntKind.i64 0, Value.int IntKind.i64 0] 26) := ⟨_, rfl⟩
  obtain ⟨gz, hggz⟩ : ∃ z, z = (w).heap.size := ⟨_, rfl⟩
  have HZ : Hid (Blk W0 gz 26 #[Value.slice none 0 0, Value.int IntKind.i64 0, Value.int IntKind.i64 0, Value.int IntKind.i64 0]) := Lib.hid (by rw [hWW0, hggz]; exact Blk.new _ _ _)
  have hb : Below (w).heap.size w W0 := by rw [hWW0]; exact bl_alloc (Below.refl (w).heap.size (w)) _
  have hgz0 : w.heap.size ≤ gz := by rw [hggz]; exact HW.out
  have hgz1 : g < gz := by have h : g < (w).heap.size := HS.out.lt; omega
  replace HS := Lib.hid (HS.out.below hb)
  replace HG := Lib.hid (grown_below HG.out hb)
  replace HW := Lib.hid (Nat.le_trans HW.out (hb).size)
  have hn_W0 : gz + 1 = W0.heap.size := by rw [hWW0, hggz]; exact (World.size_alloc _ _).symm
  rw [← hWW0, ← hggz]
  clear hWW0 hggz hb
  have hbase := HW.out
  have hzW0 := HZ.out.lt
  refine (l26Draw_c g _ (by omega) _ HS.out).mono ?_
  rintro e W1 ⟨ga, xs, n, c, o, t, p, rfl, hxl, hn5, hxs, ho0, ho1, ht0, ht1, hown, hS, hg⟩
  replace HS := Lib.hid hS
  replace HG := Lib.hid (grown_trans HG.out hg)
  replace HZ := Lib.hid (HZ.out.grown hg (by intro e; injection e; omega))
  replace HW := Lib.hid (Nat.le_trans HW.out hg.size)
  clear hS hg
  have HXL := Lib.hid hxl
  have HXD := Lib.hid hxs
  have HXS : Hid (∀ x ∈ xs, x.name.size ≤ 100) := Lib.hid (fun x hx => (hxs x hx).1)
  have hga := own_at hown ga rfl
  have hgaW := own_lt hown ga rfl
  have hgz : ga ≠ gz := by omega
  have HO := Lib.hid (own_base hown (base' := w.heap.size) (by omega))
  clear hxl hxs hown hbase hga hzW0 hn_W0
  go_wp2_with fail
  obtain ⟨W2, hWW2⟩ : ∃ z, z = World.alloc W1 (Obj.cells #[Value.slice (some ⟨ga, 0, none⟩) n c, Value.int IntKind.i64 o, Value.int IntKind.i64 t, Value.int IntKind.i64 p] 26) := ⟨_, rfl⟩
  obtain ⟨gx, hggx⟩ : ∃ z, z = (W1).heap.size := ⟨_, rfl⟩
  have hgx_ga : ga < gx := by rw [hggx]; exact hgaW
  clear hgaW
  have HX : Hid (Blk W2 gx 26 #[Value.slice (some ⟨ga, 0, none⟩) n c, Value.int IntKind.i64 o, Value.int IntKind.i64 t, Value.int IntKind.i64 p]) := Lib.hid (by rw [hWW2, hggx]; exact Blk.new _ _ _)
  have hb : Below (W1).heap.size W1 W2 := by rw [hWW2]; exact bl_alloc (Below.refl (W1).heap.size (W1)) _
  have hgx0 : w.heap.size ≤ gx := by rw [hggx]; exact HW.out
  have hgx1 : g < gx := by have h : g < (W1).heap.size := HS.out.lt; omega
  have hgx_HZ := Nat.ne_of_lt (hggx ▸ HZ.out.lt)
  replace HS := Lib.hid (HS.out.below hb)
  replace HG := Lib.hid (grown_below HG.out hb)
  replace HO := Lib.hid (own_below HO.out hb)
  replace HZ := Lib.hid (HZ.out.below hb)
  replace HW := Lib.hid (Nat.le_trans HW.out (hb).size)
  have hn_W2 : gx + 1 = W2.heap.size := by rw [hWW2, hggx]; exact (World.size_alloc _ _).symm
  rw [← hWW2, ← hggx]
  clear hWW2 hggx hb
  clear hn_W2
  refine (pick_c g _ 24 (by omega) (by omega) _ HS.out).mono ?_
  rintro e W3 ⟨r, rfl, r0, r1, hS, hg⟩
  replace HS := Lib.hid hS
  replace HG := Lib.hid (grown_trans HG.out hg)
  replace HO := Lib.hid (HO.out.kept hg (.inr (fun e => by have := own_at HO.out g e; omega)))
  replace HZ := Lib.hid (HZ.out.grown hg (by intro e; injection e; omega))
  replace HX := Lib.hid (HX.out.grown hg (by intro e; injection e; omega))
  replace HW := Lib.hid (Nat.le_trans HW.out hg.size)
  clear hS hg
  go_upto_block 0 with fail
  go_cut [] (fun wx => ∃ (ga : Nat) (xs : List Item) (n c : Nat) (o t p : Int), n ≤ 21 ∧ Hid (xs.length = n) ∧ Hid (∀ x ∈ xs, x.name.size ≤ 100) ∧ Hid (wx.ownsRow w.heap.size 77 3 (.slice (some ⟨ga, 0, none⟩) n c) n (flat Item.cells xs)) ∧ ga ≠ gz ∧ Hid (Blk wx gx 26 #[Value.slice (some ⟨ga, 0, none⟩) n c, Value.int IntKind.i64 o, Value.int IntKind.i64 t, Value.int IntKind.i64 p]) ∧ Hid (Src wx g (q + 200)) ∧ Hid (w.grownBy wx (some g)) ∧ Hid (Blk wx gz 26 #[Value.slice none 0 0, Value.int IntKind.i64 0, Value.int IntKind.i64 0, Value.int IntKind.i64 0]) ∧ Hid (w.heap.size ≤ wx.heap.size))
  case first =>
    by_cases h0 : r = 0
    case pos =>
      subst h0
      go_wp2_with fail
      have hA := arr_new W3 2 #[.int .i64 (-1), .int .i64 0, .int .i64 100, .int .i64 101, .int .i64 (-9223372036854775808)]
      have hgA := HS.out.lt
      replace HS := Lib.hid (HS.out.below (bl_alloc (Below.refl _ _) (.cells #[.int .i64 (-1), .int .i64 0, .int .i64 100, .int .i64 101, .int .i64 (-9223372036854775808)] 2)))
      replace HG := Lib.hid (grown_alloc HG.out (.cells #[.int .i64 (-1), .int .i64 0, .int .i64 100, .int .i64 101, .int .i64 (-9223372036854775808)] 2))
      replace HO := Lib.hid (HO.out.alloc (.cells #[.int .i64 (-1), .int .i64 0, .int .i64 100, .int .i64 101, .int .i64 (-9223372036854775808)] 2))
      replace HZ := Lib.hid (HZ.out.alloc (.cells #[.int .i64 (-1), .int .i64 0, .int .i64 100, .int .i64 101, .int .i64 (-9223372036854775808)] 2))
      replace HX := Lib.hid (HX.out.alloc (.cells #[.int .i64 (-1), .int .i64 0, .int .i64 100, .int .i64 101, .int .i64 (-9223372036854775808)] 2))
      replace HW := Lib.hid (show w.heap.size ≤ (World.alloc W3 (.cells #[.int .i64 (-1), .int .i64 0, .int .i64 100, .int .i64 101, .int .i64 (-9223372036854775808)] 2)).heap.size by have := HW.out; rw [World.size_alloc]; omega)
      refine (among_c g _ _ [-1, 0, 100, 101, -9223372036854775808] 5 5 (Lib.hid rfl) (by omega) (by omega) (by omega) _ HS.out hA (fun ad e => by injection e with e; subst e; simp only; omega)).mono ?_
      rintro e W4 ⟨v, hv, rfl, hS, hg⟩
      replace HS := Lib.hid hS
      replace HG := Lib.hid (grown_trans HG.out hg)
      replace HO := Lib.hid (HO.out.kept hg (.inr (fun e => by have := own_at HO.out g e; omega)))
      replace HZ := Lib.hid (HZ.out.grown hg (by intro e; injection e; omega))
      replace HX := Lib.hid (HX.out.grown hg (by intro e; injection e; omega))
      replace HW := Lib.hid (Nat.le_trans HW.out hg.size)
      clear hS hg
      clear hA hv hgA
      have k1 : W4.cell? ⟨gx, 1, none⟩ = some (.int .i64 o) := HX.out.cell 1
      have f1 := HX.out.frozen 1
      go_wp2_with fail
      clear k1 f1
      obtain ⟨W5, hW⟩ : ∃ z, z = World.setCell W4 ⟨gx, 1, none⟩ (Value.int IntKind.i64 v) := ⟨_, rfl⟩
      replace HX := Lib.hid (HX.out.set_ 1 (Value.int IntKind.i64 v))
      replace HS := Lib.hid (HS.out.far (p := ⟨gx, 1, none⟩) (by simp only; omega) (Value.int IntKind.i64 v))
      replace HG := Lib.hid (grown_setCell (p := ⟨gx, 1, none⟩) HG.out (.inr (by simp only; omega)) (Value.int IntKind.i64 v))
      replace HO := Lib.hid (own_far HO.out (p := ⟨gx, 1, none⟩) (fun k e => by have : ga = k := (by simpa [Value.ownBlock] using e); simp only; omega) (Value.int IntKind.i64 v))
      replace HZ := Lib.hid (HZ.out.far (p := ⟨gx, 1, none⟩) (by simp only; omega) (Value.int IntKind.i64 v))
      replace HW := Lib.hid (show w.heap.size ≤ (World.setCell W4 ⟨gx, 1, none⟩ (Value.int IntKind.i64 v)).heap.size by rw [World.size_setCell]; exact HW.out)
      rw [← hW] at HS HG HW HO HZ HX ⊢
      clear hW
      replace HX : Hid (Blk W5 gx 26 #[Value.slice (some ⟨ga, 0, none⟩) n c, Value.int IntKind.i64 v, Value.int IntKind.i64 t, Value.int IntKind.i64 p]) := HX
      go_meet
      exact ⟨ga, xs, n, c, v, t, p, by omega, HXL, HXS, HO, hgz, HX, Lib.hid (HS.out.more (by omega)), HG, HZ, HW⟩
    by_cases h1 : r = 1
    case pos =>
      subst h1
      go_wp2_with fail
      have hA := arr_new W3 2 #[.int .i64 (-1), .int .i64 0, .int .i64 100, .int .i64 101]
      have hgA := HS.out.lt
      replace HS := Lib.hid (HS.out.below (bl_alloc (Below.refl _ _) (.cells #[.int .i64 (-1), .int .i64 0, .int .i64 100, .int .i64 101] 2)))
      replace HG := Lib.hid (grown_alloc HG.out (.cells #[.int .i64 (-1), .int .i64 0, .int .i64 100, .int .i64 101] 2))
      replace HO := Lib.hid (HO.out.alloc (.cells #[.int .i64 (-1), .int .i64 0, .int .i64 100, .int .i64 101] 2))
      replace HZ := Lib.hid (HZ.out.alloc (.cells #[.int .i64 (-1), .int .i64 0, .int .i64 100, .int .i64 101] 2))
      replace HX := Lib.hid (HX.out.alloc (.cells #[.int .i64 (-1), .int .i64 0, .int .i64 100, .int .i64 101] 2))
      replace HW := Lib.hid (show w.heap.size ≤ (World.alloc W3 (.cells #[.int .i64 (-1), .int .i64 0, .int .i64 100, .int .i64 101] 2)).heap.size by have := HW.out; rw [World.size_alloc]; omega)
      refine (among_c g _ _ [-1, 0, 100, 101] 4 4 (Lib.hid rfl) (by omega) (by omega) (by omega) _ HS.out hA (fun ad e => by injection e with e; subst e; simp only; omega)).mono ?_
      rintro e W4 ⟨v, hv, rfl, hS, hg⟩
      replace HS := Lib.hid hS
      replace HG := Lib.hid (grown_trans HG.out hg)
      replace HO := Lib.hid (HO.out.kept hg (.inr (fun e => by have := own_at HO.out g e; omega)))
      replace HZ := Lib.hid (HZ.out.grown hg (by intro e; injection e; omega))
      replace HX := Lib.hid (HX.out.grown hg (by intro e; injection e; omega))
      replace HW := Lib.hid (Nat.le_trans HW.out hg.size)
      clear hS hg
      clear hA hv hgA
      have k2 : W4.cell? ⟨gx, 2, none⟩ = some (.int .i64 t) := HX.out.cell 2
      have f2 := HX.out.frozen 2
      go_wp2_with fail
      clear k2 f2
      obtain ⟨W5, hW⟩ : ∃ z, z = World.setCell W4 ⟨gx, 2, none⟩ (Value.int IntKind.i64 v) := ⟨_, rfl⟩
      replace HX := Lib.hid (HX.out.set_ 2 (Value.int IntKind.i64 v))
      replace HS := Lib.hid (HS.out.far (p := ⟨gx, 2, none⟩) (by simp only; omega) (Value.int IntKind.i64 v))
      replace HG := Lib.hid (grown_setCell (p := ⟨gx, 2, none⟩) HG.out (.inr (by simp only; omega)) (Value.int IntKind.i64 v))
      replace HO := Lib.hid (own_far HO.out (p := ⟨gx, 2, none⟩) (fun k e => by have : ga = k := (by simpa [Value.ownBlock] using e); simp only; omega) (Value.int IntKind.i64 v))
      replace HZ := Lib.hid (HZ.out.far (p := ⟨gx, 2, none⟩) (by simp only; omega) (Value.int IntKind.i64 v))
      replace HW := Lib.hid (show w.heap.size ≤ (World.setCell W4 ⟨gx, 2, none⟩ (Value.int IntKind.i64 v)).heap.size by rw [World.size_setCell]; exact HW.out)
      rw [← hW] at HS HG HW HO HZ HX ⊢
      clear hW
      replace HX : Hid (Blk W5 gx 26 #[Value.slice (some ⟨ga, 0, none⟩) n c, Value.int IntKind.i64 o, Value.int IntKind.i64 v, Value.int IntKind.i64 p]) := HX
      go_meet
      exact ⟨ga, xs, n, c, o, v, p, by omega, HXL, HXS, HO, hgz, HX, Lib.hid (HS.out.more (by omega)), HG, HZ, HW⟩
    by_cases h2 : r = 2
    case pos =>
      subst h2
      have hfew : fewOk xs := ⟨by rw [HXL.out]; omega, fun x hx => (HXD.out x hx).2⟩
      have HFW := Lib.hid hfew
      obtain ⟨S, hS⟩ : ∃ z, z = sumGo xs 0 := ⟨_, rfl⟩
      have HSS := Lib.hid hS
      have hsb := sum_bd hfew
      have htb : 0 ≤ totOf S o t ∧ totOf S o t ≤ 40000000000 := by
        have n1 := net_bd (s := S) (off := o) (by omega) ho0 ho1
        have n2 := tax_bd (s := S) (off := o) (tax := t) (by omega) ho0 ho1 ht0 ht1
        unfold totOf
        omega
      clear hfew hS hsb
      go_wp2_with fail
      refine (l26Total_c gx (some ⟨ga, 0, none⟩) xs n c o t p HXL S HFW HSS ho0 ho1 ht0 ht1 _ HX.out (Arr.own HO.out)).mono ?_
      rintro e2 W4 ⟨rfl, hb⟩
      replace HS := Lib.hid (HS.out.below hb)
      replace HG := Lib.hid (grown_below HG.out hb)
      replace HO := Lib.hid (own_below HO.out hb)
      replace HZ := Lib.hid (HZ.out.below hb)
      replace HX := Lib.hid (HX.out.below hb)
      replace HW := Lib.hid (Nat.le_trans HW.out (hb).size)
      clear hb
      obtain ⟨T, hT⟩ : ∃ z, z = totOf S o t := ⟨_, rfl⟩
      rw [← hT] at htb ⊢
      clear hT
      go_wp2_with fail
      obtain ⟨W5, hWW5⟩ : ∃ z, z = World.alloc W4 (Obj.cells #[Value.int IntKind.i64 (-1), Value.int IntKind.i64 T, Value.int IntKind.i64 (T + 1), Value.int IntKind.i64 9223372036854775807] 2) := ⟨_, rfl⟩
      obtain ⟨gl, hggl⟩ : ∃ z, z = (W4).heap.size := ⟨_, rfl⟩
      have HL : Hid (Blk W5 gl 2 #[Value.int IntKind.i64 (-1), Value.int IntKind.i64 T, Value.int IntKind.i64 (T + 1), Value.int IntKind.i64 9223372036854775807]) := Lib.hid (by rw [hWW5, hggl]; exact Blk.new _ _ _)
      have hb : Below (W4).heap.size W4 W5 := by rw [hWW5]; exact bl_alloc (Below.refl (W4).heap.size (W4)) _
      have hgl0 : w.heap.size ≤ gl := by rw [hggl]; exact HW.out
      have hgl1 : g < gl := by have h : g < (W4).heap.size := HS.out.lt; omega
      have hgl_HZ := Nat.ne_of_lt (hggl ▸ HZ.out.lt)
      have hgl_HX := Nat.ne_of_lt (hggl ▸ HX.out.lt)
      replace HS := Lib.hid (HS.out.below hb)
      replace HG := Lib.hid (grown_below HG.out hb)
      replace HO := Lib.hid (own_below HO.out hb)
      replace HZ := Lib.hid (HZ.out.below hb)
      replace HX := Lib.hid (HX.out.below hb)
      replace HW := Lib.hid (Nat.le_trans HW.out (hb).size)
      have hn_W5 : gl + 1 = W5.heap.size := by rw [hWW5, hggl]; exact (World.size_alloc _ _).symm
      rw [← hWW5, ← hggl]
      clear hWW5 hggl hb
      have hA : Arr W5 (some ⟨gl, 0, none⟩) (flat icell [-1, T, T + 1, 9223372036854775807]) := arr_of_blkM HL.out
      refine (among_c g _ _ [-1, T, T + 1, 9223372036854775807] 4 4 (Lib.hid rfl) (by omega) (by omega) (by omega) _ HS.out hA (fun ad e => by injection e with e; subst e; simp only; omega)).mono ?_
      rintro e W6 ⟨v, hv, rfl, hS, hg⟩
      replace HS := Lib.hid hS
      replace HG := Lib.hid (grown_trans HG.out hg)
      replace HO := Lib.hid (HO.out.kept hg (.inr (fun e => by have := own_at HO.out g e; omega)))
      replace HZ := Lib.hid (HZ.out.grown hg (by intro e; injection e; omega))
      replace HX := Lib.hid (HX.out.grown hg (by intro e; injection e; omega))
      replace HL := Lib.hid (HL.out.grown hg (by intro e; injection e; omega))
      replace HW := Lib.hid (Nat.le_trans HW.out hg.size)
      clear hS hg
      clear hv hA hn_W5
      clear HL
      have k3 : W6.cell? ⟨gx, 3, none⟩ = some (.int .i64 p) := HX.out.cell 3
      have f3 := HX.out.frozen 3
      go_wp2_with fail
      clear k3 f3
      obtain ⟨W7, hW⟩ : ∃ z, z = World.setCell W6 ⟨gx, 3, none⟩ (Value.int IntKind.i64 v) := ⟨_, rfl⟩
      replace HX := Lib.hid (HX.out.set_ 3 (Value.int IntKind.i64 v))
      replace HS := Lib.hid (HS.out.far (p := ⟨gx, 3, none⟩) (by simp only; omega) (Value.int IntKind.i64 v))
      replace HG := Lib.hid (grown_setCell (p := ⟨gx, 3, none⟩) HG.out (.inr (by simp only; omega)) (Value.int IntKind.i64 v))
      replace HO := Lib.hid (own_far HO.out (p := ⟨gx, 3, none⟩) (fun k e => by have : ga = k := (by simpa [Value.ownBlock] using e); simp only; omega) (Value.int IntKind.i64 v))
      replace HZ := Lib.hid (HZ.out.far (p := ⟨gx, 3, none⟩) (by simp only; omega) (Value.int IntKind.i64 v))
      replace HW := Lib.hid (show w.heap.size ≤ (World.setCell W6 ⟨gx, 3, none⟩ (Value.int IntKind.i64 v)).heap.size by rw [World.size_setCell]; exact HW.out)
      rw [← hW] at HS HG HW HO HZ HX ⊢
      clear hW
      replace HX : Hid (Blk W7 gx 26 #[Value.slice (some ⟨ga, 0, none⟩) n c, Value.int IntKind.i64 o, Value.int IntKind.i64 t, Value.int IntKind.i64 v]) := HX
      go_meet
      exact ⟨ga, xs, n, c, o, t, v, by omega, HXL, HXS, HO, hgz, HX, Lib.hid (HS.out.more (by omega)), HG, HZ, HW⟩
    by_cases h3 : r = 3
    case pos =>
      subst h3
      go_wp2_with fail
      refine wp_region_held_drew (S := fun _ => True) (by kernel_rfl) ?_ (fun _ => ?_)
      · trivial
      replace HS := Lib.hid (HS.out.below (Below.refl (W3).heap.size (W3)).drew)
      replace HG := Lib.hid (grown_below HG.out (Below.refl (W3).heap.size (W3)).drew)
      replace HO := Lib.hid (own_below HO.out (Below.refl (W3).heap.size (W3)).drew)
      replace HZ := Lib.hid (HZ.out.below (Below.refl (W3).heap.size (W3)).drew)
      replace HX := Lib.hid (HX.out.below (Below.refl (W3).heap.size (W3)).drew)
      replace HW := Lib.hid (Nat.le_trans HW.out ((Below.refl (W3).heap.size (W3)).drew).size)
      refine wpAnyH_take (i := 0) (oi := { dst := some 38, op := _, type := _, pos := _, after := _, guard := _ }) (v := ?_) rfl (by kernel_rfl) (by kernel_rfl) (by kernel_rfl) (fun _ _ _ h => h) (Or.inl ⟨by kernel_rfl, ?_⟩) (trivial) ?_
      rotate_left
      · intro w hSw
        try dsimp only at hSw
        go_simp
        try with_reducible rfl
      try simp only [Act.put, List.setIfInBounds_toArray, List.set_cons_zero, List.set_cons_succ]
      refine wpAnyH_take (i := 2) (oi := { dst := some 40, op := _, type := _, pos := _, after := _, guard := _ }) (v := ?_) rfl (by kernel_rfl) (by kernel_rfl) (by kernel_rfl) (fun _ _ _ h => h) (Or.inl ⟨by kernel_rfl, ?_⟩) (trivial) ?_
      rotate_left
      · intro w hSw
        try dsimp only at hSw
        go_simp
        try with_reducible rfl
      try simp only [Act.put, List.setIfInBounds_toArray, List.set_cons_zero, List.set_cons_succ]
      refine wpAnyH_ready (rs := [1, 3]) (by kernel_rfl) (by simp) ?_
      refine (AllReadyH.cons (o := { dst := some 39, op := _, type := _, pos := _, after := _, guard := _ }) rfl (fun K hK => ?_) (AllReadyH.cons (o := { dst := some 41, op := _, type := _, pos := _, after := _, guard := _ }) rfl (fun K hK => ?_) AllReadyH.nil))
      · skip
        have k0 : World.cell? ((W3).drew) ⟨gx, 0, none⟩ = some (.slice (some ⟨ga, 0, none⟩) n c) := HX.out.cell 0
        go_simp
        refine hK.out _ _ (trivial) (fun _ => ?_)
        clear hK K
        try simp only [Act.put, List.setIfInBounds_toArray, List.set_cons_zero, List.set_cons_succ]
        refine wpAnyH_ready (rs := [3]) (by kernel_rfl) (by simp) ?_
        refine (AllReadyH.cons (o := { dst := some 41, op := _, type := _, pos := _, after := _, guard := _ }) rfl (fun K hK => ?_) AllReadyH.nil)
        go_simp
        obtain ⟨W4, hWW4⟩ : ∃ z, z = (World.alloc W3 (Obj.cells #[Value.string ⟨#[]⟩, Value.string ⟨#[87, 97, 120]⟩, Value.string ⟨#[119, 97, 120]⟩] 9)).drew := ⟨_, rfl⟩
        obtain ⟨gl, hggl⟩ : ∃ z, z = (W3).heap.size := ⟨_, rfl⟩
        have HL : Hid (Blk W4 gl 9 #[Value.string ⟨#[]⟩, Value.string ⟨#[87, 97, 120]⟩, Value.string ⟨#[119, 97, 120]⟩]) := Lib.hid (by rw [hWW4, hggl]; exact Blk.new W3 _ _)
        have hb : Below ((W3).drew).heap.size (W3).drew W4 := by rw [hWW4]; exact bl_alloc (Below.refl ((W3).drew).heap.size ((W3).drew)) _
        have hgl0 : w.heap.size ≤ gl := by rw [hggl]; exact HW.out
        have hgl1 : g < gl := by have h : g < (W3).heap.size := HS.out.lt; omega
        have hgl_HZ := Nat.ne_of_lt (hggl ▸ HZ.out.lt)
        have hgl_HX := Nat.ne_of_lt (hggl ▸ HX.out.lt)
        replace HS := Lib.hid (HS.out.below hb)
        replace HG := Lib.hid (grown_below HG.out hb)
        replace HO := Lib.hid (own_below HO.out hb)
        replace HZ := Lib.hid (HZ.out.below hb)
        replace HX := Lib.hid (HX.out.below hb)
        replace HW := Lib.hid (Nat.le_trans HW.out (hb).size)
        have hn_W4 : gl + 1 = W4.heap.size := by rw [hWW4, hggl]; exact (World.size_alloc W3 _).symm
        rw [← hWW4, ← hggl]
        clear hWW4 hggl hb
        clear hn_W4

        refine hK.out _ _ (trivial) (fun _ => ?_)
        clear hK K
        try simp only [Act.put, List.setIfInBounds_toArray, List.set_cons_zero, List.set_cons_succ]
        refine wpAnyH_ready (rs := [4]) (by kernel_rfl) (by simp) ?_
        refine (AllReadyH.cons (o := { dst := some 42, op := _, type := _, pos := _, after := _, guard := _ }) rfl (fun K hK => ?_) AllReadyH.nil)
        go_simp
        have hA : Arr W4 (some ⟨gl, 0, none⟩) (flat scell [⟨#[]⟩, ⟨#[87, 97, 120]⟩, ⟨#[119, 97, 120]⟩]) := arr_of_blkM HL.out
        refine (text_c g _ _ [⟨#[]⟩, ⟨#[87, 97, 120]⟩, ⟨#[119, 97, 120]⟩] 3 3 (Lib.hid rfl) (by omega) (by omega) (by omega) _ HS.out hA (fun ad e => by injection e with e; subst e; simp only; omega)).mono ?_
        rintro e W5 ⟨v, hv, rfl, hS, hg⟩
        replace HS := Lib.hid hS
        replace HG := Lib.hid (grown_trans HG.out hg)
        replace HO := Lib.hid (HO.out.kept hg (.inr (fun e => by have := own_at HO.out g e; omega)))
        replace HZ := Lib.hid (HZ.out.grown hg (by intro e; injection e; omega))
        replace HX := Lib.hid (HX.out.grown hg (by intro e; injection e; omega))
        replace HL := Lib.hid (HL.out.grown hg (by intro e; injection e; omega))
        replace HW := Lib.hid (Nat.le_trans HW.out hg.size)
        clear hS hg
        have HV := Lib.hid hv
        clear hv hA
        clear HL
        go_wp2_with fail

        refine hK.out _ _ (trivial) (fun _ => ?_)
        clear hK K
        try simp only [Act.put, List.setIfInBounds_toArray, List.set_cons_zero, List.set_cons_succ]
        refine wpAnyH_take (i := 5) (oi := { dst := some 43, op := _, type := _, pos := _, after := _, guard := _ }) (v := ?_) rfl (by kernel_rfl) (by kernel_rfl) (by kernel_rfl) (fun _ _ _ h => h) (Or.inl ⟨by kernel_rfl, ?_⟩) (trivial) ?_
        rotate_left
        · intro w hSw
          try dsimp only at hSw
          go_simp
          try with_reducible rfl
        try simp only [Act.put, List.setIfInBounds_toArray, List.set_cons_zero, List.set_cons_succ]
        refine wpAnyH_ready (rs := [6]) (by kernel_rfl) (by simp) ?_
        refine (AllReadyH.cons (o := { dst := some 44, op := _, type := _, pos := _, after := _, guard := _ }) rfl (fun K hK => ?_) AllReadyH.nil)
        go_simp
        obtain ⟨W6, hWW6⟩ : ∃ z, z = World.alloc W5 (Obj.cells #[Value.string v, Value.int IntKind.i64 1, Value.int IntKind.i64 0] 77) := ⟨_, rfl⟩
        obtain ⟨gn, hggn⟩ : ∃ z, z = (W5).heap.size := ⟨_, rfl⟩
        have HN : Hid (Blk W6 gn 77 #[Value.string v, Value.int IntKind.i64 1, Value.int IntKind.i64 0]) := Lib.hid (by rw [hWW6, hggn]; exact Blk.new _ _ _)
        have hb : Below (W5).heap.size W5 W6 := by rw [hWW6]; exact bl_alloc (Below.refl (W5).heap.size (W5)) _
        have hgn0 : w.heap.size ≤ gn := by rw [hggn]; exact HW.out
        have hgn1 : g < gn := by have h : g < (W5).heap.size := HS.out.lt; omega
        have hgn_HZ := Nat.ne_of_lt (hggn ▸ HZ.out.lt)
        have hgn_HX := Nat.ne_of_lt (hggn ▸ HX.out.lt)
        replace HS := Lib.hid (HS.out.below hb)
        replace HG := Lib.hid (grown_below HG.out hb)
        replace HO := Lib.hid (own_below HO.out hb)
        replace HZ := Lib.hid (HZ.out.below hb)
        replace HX := Lib.hid (HX.out.below hb)
        replace HW := Lib.hid (Nat.le_trans HW.out (hb).size)
        have hn_W6 : gn + 1 = W6.heap.size := by rw [hWW6, hggn]; exact (World.size_alloc _ _).symm
        rw [← hWW6, ← hggn]
        clear hWW6 hggn hb
        clear hn_W6

        refine hK.out _ _ (trivial) (fun _ => ?_)
        clear hK K
        try simp only [Act.put, List.setIfInBounds_toArray, List.set_cons_zero, List.set_cons_succ]
        refine wpAnyH_ready (rs := [7]) (by kernel_rfl) (by simp) ?_
        refine (AllReadyH.cons (o := { dst := some 45, op := _, type := _, pos := _, after := _, guard := _ }) rfl (fun K hK => ?_) AllReadyH.nil)
        have hxl := HX.out.lt
        have hbW : w.heap.size ≤ W6.heap.size := HW.out
        refine step_append_lies W6 rfl _ _ _ rfl w.heap.size 77 i0 _ 3 32 Tryd.underlying24 hi0 hz0 hz1 hz2 rfl (by omega) (.slice (some ⟨ga, 0, none⟩) n c) n (flat Item.cells xs) (by rfl) HO.out ⟨gn, 0, none⟩ 1 1 #[Value.string v, Value.int IntKind.i64 1, Value.int IntKind.i64 0].toList (by rfl) rfl (World.news_of_block HN.out) (by simp [Value.oneCell']) (by omega) (by unfold maxLen; omega) (by omega) hbW W6.heap.size rfl ?_
        intro g9 cap W9 hown9 hg9 hat hlt9
        have h9 : g9 = ga ∨ g9 = W6.heap.size := by
          rcases hat with h | h
          · left
            have : ga = g9 := by simpa [Value.ownBlock] using h
            exact this.symm
          · exact .inr h
        have hzl := HZ.out.lt
        have H9X : g9 ≠ gx := by omega
        have H9Z : g9 ≠ gz := by omega
        clear HN
        clear hbW hat
        replace HS := Lib.hid (HS.out.over hg9 (fun i e => by have := own_at HO.out i e; omega))
        replace HG := Lib.hid (grown_over HG.out hg9 (fun i e => by have := own_at HO.out i e; omega))
        replace HZ := Lib.hid (HZ.out.grown hg9 (fun e => by have : gz = ga := (by simpa [Value.ownBlock] using e); omega))
        replace HX := Lib.hid (HX.out.grown hg9 (fun e => by have : gx = ga := (by simpa [Value.ownBlock] using e); omega))
        replace HW := Lib.hid (Nat.le_trans HW.out hg9.size)
        replace HO := Lib.hid hown9
        clear hown9 hg9

        refine hK.out _ _ (trivial) (fun _ => ?_)
        clear hK K
        try simp only [Act.put, List.setIfInBounds_toArray, List.set_cons_zero, List.set_cons_succ]
        refine wpAnyH_ready (rs := [8]) (by kernel_rfl) (by simp) ?_
        refine (AllReadyH.cons (o := { dst := some 46, op := _, type := _, pos := _, after := _, guard := _ }) rfl (fun K hK => ?_) AllReadyH.nil)
        go_simp
        refine hK.out _ _ (trivial) (fun _ => ?_)
        clear hK K
        try simp only [Act.put, List.setIfInBounds_toArray, List.set_cons_zero, List.set_cons_succ]
        refine wpAnyH_ready (rs := [9]) (by kernel_rfl) (by simp) ?_
        refine (AllReadyH.cons (o := { dst := none, op := _, type := _, pos := _, after := _, guard := _ }) rfl (fun K hK => ?_) AllReadyH.nil)
        have k0 : W9.cell? ⟨gx, 0, none⟩ = some (.slice (some ⟨ga, 0, none⟩) n c) := HX.out.cell 0
        have f0 := HX.out.frozen 0
        go_simp
        clear k0 f0
        obtain ⟨W10, hW⟩ : ∃ z, z = World.setCell W9 ⟨gx, 0, none⟩ (Value.slice (some ⟨g9, 0, none⟩) (n + 1) cap) := ⟨_, rfl⟩
        replace HX := Lib.hid (HX.out.set_ 0 (Value.slice (some ⟨g9, 0, none⟩) (n + 1) cap))
        replace HS := Lib.hid (HS.out.far (p := ⟨gx, 0, none⟩) (by simp only; omega) (Value.slice (some ⟨g9, 0, none⟩) (n + 1) cap))
        replace HG := Lib.hid (grown_setCell (p := ⟨gx, 0, none⟩) HG.out (.inr (by simp only; omega)) (Value.slice (some ⟨g9, 0, none⟩) (n + 1) cap))
        replace HO := Lib.hid (own_far HO.out (p := ⟨gx, 0, none⟩) (fun k e => by have : g9 = k := (by simpa [Value.ownBlock] using e); simp only; omega) (Value.slice (some ⟨g9, 0, none⟩) (n + 1) cap))
        replace HZ := Lib.hid (HZ.out.far (p := ⟨gx, 0, none⟩) (by simp only; omega) (Value.slice (some ⟨g9, 0, none⟩) (n + 1) cap))
        replace HW := Lib.hid (show w.heap.size ≤ (World.setCell W9 ⟨gx, 0, none⟩ (Value.slice (some ⟨g9, 0, none⟩) (n + 1) cap)).heap.size by rw [World.size_setCell]; exact HW.out)
        rw [← hW] at HS HG HW HO HZ HX ⊢
        clear hW
        replace HX : Hid (Blk W10 gx 26 #[Value.slice (some ⟨g9, 0, none⟩) (n + 1) cap, Value.int IntKind.i64 o, Value.int IntKind.i64 t, Value.int IntKind.i64 p]) := HX

        refine hK.out _ _ (trivial) (fun _ => ?_)
        clear hK K
        try simp only [Act.put]
        refine wpAnyH_done (by kernel_rfl) ?_ _
        have e9 : flat Item.cells (xs ++ [(⟨v, 1, 0⟩ : Item)]) = flat Item.cells xs ++ #[Value.string v, Value.int IntKind.i64 1, Value.int IntKind.i64 0].toList := by simp [flat, Item.cells]
        rw [← e9] at HO
        have HXS2 : Hid (∀ x ∈ xs ++ [(⟨v, 1, 0⟩ : Item)], x.name.size ≤ 100) := Lib.hid (fun y hy => by
          rcases List.mem_append.1 hy with hy | hy
          · exact HXS.out y hy
          · have hyx : y = (⟨v, 1, 0⟩ : Item) := by simpa using hy
            subst hyx
            have hv := HV.out
            simp only [List.mem_cons, List.not_mem_nil, or_false] at hv
            rcases hv with rfl | rfl | rfl <;> (dsimp only; decide))
        have HXL2 : Hid ((xs ++ [(⟨v, 1, 0⟩ : Item)]).length = n + 1) := Lib.hid (by rw [List.length_append, HXL.out]; rfl)
        go_wp2_with fail
        go_meet
        exact ⟨g9, (xs ++ [(⟨v, 1, 0⟩ : Item)]), (n + 1), cap, o, t, p, by omega, HXL2, HXS2, HO, H9Z, HX, Lib.hid (HS.out.more (by omega)), HG, HZ, HW⟩
      · skip
        go_simp
        obtain ⟨W4, hWW4⟩ : ∃ z, z = (World.alloc W3 (Obj.cells #[Value.string ⟨#[]⟩, Value.string ⟨#[87, 97, 120]⟩, Value.string ⟨#[119, 97, 120]⟩] 9)).drew := ⟨_, rfl⟩
        obtain ⟨gl, hggl⟩ : ∃ z, z = (W3).heap.size := ⟨_, rfl⟩
        have HL : Hid (Blk W4 gl 9 #[Value.string ⟨#[]⟩, Value.string ⟨#[87, 97, 120]⟩, Value.string ⟨#[119, 97, 120]⟩]) := Lib.hid (by rw [hWW4, hggl]; exact Blk.new W3 _ _)
        have hb : Below ((W3).drew).heap.size (W3).drew W4 := by rw [hWW4]; exact bl_alloc (Below.refl ((W3).drew).heap.size ((W3).drew)) _
        have hgl0 : w.heap.size ≤ gl := by rw [hggl]; exact HW.out
        have hgl1 : g < gl := by have h : g < (W3).heap.size := HS.out.lt; omega
        have hgl_HZ := Nat.ne_of_lt (hggl ▸ HZ.out.lt)
        have hgl_HX := Nat.ne_of_lt (hggl ▸ HX.out.lt)
        replace HS := Lib.hid (HS.out.below hb)
        replace HG := Lib.hid (grown_below HG.out hb)
        replace HO := Lib.hid (own_below HO.out hb)
        replace HZ := Lib.hid (HZ.out.below hb)
        replace HX := Lib.hid (HX.out.below hb)
        replace HW := Lib.hid (Nat.le_trans HW.out (hb).size)
        have hn_W4 : gl + 1 = W4.heap.size := by rw [hWW4, hggl]; exact (World.size_alloc W3 _).symm
        rw [← hWW4, ← hggl]
        clear hWW4 hggl hb
        clear hn_W4

        refine hK.out _ _ (trivial) (fun _ => ?_)
        clear hK K
        try simp only [Act.put, List.setIfInBounds_toArray, List.set_cons_zero, List.set_cons_succ]
        refine wpAnyH_ready (rs := [1, 4]) (by kernel_rfl) (by simp) ?_
        refine (AllReadyH.cons (o := { dst := some 39, op := _, type := _, pos := _, after := _, guard := _ }) rfl (fun K hK => ?_) (AllReadyH.cons (o := { dst := some 42, op := _, type := _, pos := _, after := _, guard := _ }) rfl (fun K hK => ?_) AllReadyH.nil))
        · skip
          have k0 : World.cell? (W4) ⟨gx, 0, none⟩ = some (.slice (some ⟨ga, 0, none⟩) n c) := HX.out.cell 0
          go_simp
          refine hK.out _ _ (trivial) (fun _ => ?_)
          clear hK K
          try simp only [Act.put, List.setIfInBounds_toArray, List.set_cons_zero, List.set_cons_succ]
          refine wpAnyH_ready (rs := [4]) (by kernel_rfl) (by simp) ?_
          refine (AllReadyH.cons (o := { dst := some 42, op := _, type := _, pos := _, after := _, guard := _ }) rfl (fun K hK => ?_) AllReadyH.nil)
          go_simp
          have hA : Arr W4 (some ⟨gl, 0, none⟩) (flat scell [⟨#[]⟩, ⟨#[87, 97, 120]⟩, ⟨#[119, 97, 120]⟩]) := arr_of_blkM HL.out
          refine (text_c g _ _ [⟨#[]⟩, ⟨#[87, 97, 120]⟩, ⟨#[119, 97, 120]⟩] 3 3 (Lib.hid rfl) (by omega) (by omega) (by omega) _ HS.out hA (fun ad e => by injection e with e; subst e; simp only; omega)).mono ?_
          rintro e W5 ⟨v, hv, rfl, hS, hg⟩
          replace HS := Lib.hid hS
          replace HG := Lib.hid (grown_trans HG.out hg)
          replace HO := Lib.hid (HO.out.kept hg (.inr (fun e => by have := own_at HO.out g e; omega)))
          replace HZ := Lib.hid (HZ.out.grown hg (by intro e; injection e; omega))
          replace HX := Lib.hid (HX.out.grown hg (by intro e; injection e; omega))
          replace HL := Lib.hid (HL.out.grown hg (by intro e; injection e; omega))
          replace HW := Lib.hid (Nat.le_trans HW.out hg.size)
          clear hS hg
          have HV := Lib.hid hv
          clear hv hA
          clear HL
          go_wp2_with fail

          refine hK.out _ _ (trivial) (fun _ => ?_)
          clear hK K
          try simp only [Act.put, List.setIfInBounds_toArray, List.set_cons_zero, List.set_cons_succ]
          refine wpAnyH_take (i := 5) (oi := { dst := some 43, op := _, type := _, pos := _, after := _, guard := _ }) (v := ?_) rfl (by kernel_rfl) (by kernel_rfl) (by kernel_rfl) (fun _ _ _ h => h) (Or.inl ⟨by kernel_rfl, ?_⟩) (trivial) ?_
          rotate_left
          · intro w hSw
            try dsimp only at hSw
            go_simp
            try with_reducible rfl
          try simp only [Act.put, List.setIfInBounds_toArray, List.set_cons_zero, List.set_cons_succ]
          refine wpAnyH_ready (rs := [6]) (by kernel_rfl) (by simp) ?_
          refine (AllReadyH.cons (o := { dst := some 44, op := _, type := _, pos := _, after := _, guard := _ }) rfl (fun K hK => ?_) AllReadyH.nil)
          go_simp
          obtain ⟨W6, hWW6⟩ : ∃ z, z = World.alloc W5 (Obj.cells #[Value.string v, Value.int IntKind.i64 1, Value.int IntKind.i64 0] 77) := ⟨_, rfl⟩
          obtain ⟨gn, hggn⟩ : ∃ z, z = (W5).heap.size := ⟨_, rfl⟩
          have HN : Hid (Blk W6 gn 77 #[Value.string v, Value.int IntKind.i64 1, Value.int IntKind.i64 0]) := Lib.hid (by rw [hWW6, hggn]; exact Blk.new _ _ _)
          have hb : Below (W5).heap.size W5 W6 := by rw [hWW6]; exact bl_alloc (Below.refl (W5).heap.size (W5)) _
          have hgn0 : w.heap.size ≤ gn := by rw [hggn]; exact HW.out
          have hgn1 : g < gn := by have h : g < (W5).heap.size := HS.out.lt; omega
          have hgn_HZ := Nat.ne_of_lt (hggn ▸ HZ.out.lt)
          have hgn_HX := Nat.ne_of_lt (hggn ▸ HX.out.lt)
          replace HS := Lib.hid (HS.out.below hb)
          replace HG := Lib.hid (grown_below HG.out hb)
          replace HO := Lib.hid (own_below HO.out hb)
          replace HZ := Lib.hid (HZ.out.below hb)
          replace HX := Lib.hid (HX.out.below hb)
          replace HW := Lib.hid (Nat.le_trans HW.out (hb).size)
          have hn_W6 : gn + 1 = W6.heap.size := by rw [hWW6, hggn]; exact (World.size_alloc _ _).symm
          rw [← hWW6, ← hggn]
          clear hWW6 hggn hb
          clear hn_W6

          refine hK.out _ _ (trivial) (fun _ => ?_)
          clear hK K
          try simp only [Act.put, List.setIfInBounds_toArray, List.set_cons_zero, List.set_cons_succ]
          refine wpAnyH_ready (rs := [7]) (by kernel_rfl) (by simp) ?_
          refine (AllReadyH.cons (o := { dst := some 45, op := _, type := _, pos := _, after := _, guard := _ }) rfl (fun K hK => ?_) AllReadyH.nil)
          have hxl := HX.out.lt
          have hbW : w.heap.size ≤ W6.heap.size := HW.out
          refine step_append_lies W6 rfl _ _ _ rfl w.heap.size 77 i0 _ 3 32 Tryd.underlying24 hi0 hz0 hz1 hz2 rfl (by omega) (.slice (some ⟨ga, 0, none⟩) n c) n (flat Item.cells xs) (by rfl) HO.out ⟨gn, 0, none⟩ 1 1 #[Value.string v, Value.int IntKind.i64 1, Value.int IntKind.i64 0].toList (by rfl) rfl (World.news_of_block HN.out) (by simp [Value.oneCell']) (by omega) (by unfold maxLen; omega) (by omega) hbW W6.heap.size rfl ?_
          intro g9 cap W9 hown9 hg9 hat hlt9
          have h9 : g9 = ga ∨ g9 = W6.heap.size := by
            rcases hat with h | h
            · left
              have : ga = g9 := by simpa [Value.ownBlock] using h
              exact this.symm
            · exact .inr h
          have hzl := HZ.out.lt
          have H9X : g9 ≠ gx := by omega
          have H9Z : g9 ≠ gz := by omega
          clear HN
          clear hbW hat
          replace HS := Lib.hid (HS.out.over hg9 (fun i e => by have := own_at HO.out i e; omega))
          replace HG := Lib.hid (grown_over HG.out hg9 (fun i e => by have := own_at HO.out i e; omega))
          replace HZ := Lib.hid (HZ.out.grown hg9 (fun e => by have : gz = ga := (by simpa [Value.ownBlock] using e); omega))
          replace HX := Lib.hid (HX.out.grown hg9 (fun e => by have : gx = ga := (by simpa [Value.ownBlock] using e); omega))
          replace HW := Lib.hid (Nat.le_trans HW.out hg9.size)
          replace HO := Lib.hid hown9
          clear hown9 hg9

          refine hK.out _ _ (trivial) (fun _ => ?_)
          clear hK K
          try simp only [Act.put, List.setIfInBounds_toArray, List.set_cons_zero, List.set_cons_succ]
          refine wpAnyH_ready (rs := [8]) (by kernel_rfl) (by simp) ?_
          refine (AllReadyH.cons (o := { dst := some 46, op := _, type := _, pos := _, after := _, guard := _ }) rfl (fun K hK => ?_) AllReadyH.nil)
          go_simp
          refine hK.out _ _ (trivial) (fun _ => ?_)
          clear hK K
          try simp only [Act.put, List.setIfInBounds_toArray, List.set_cons_zero, List.set_cons_succ]
          refine wpAnyH_ready (rs := [9]) (by kernel_rfl) (by simp) ?_
          refine (AllReadyH.cons (o := { dst := none, op := _, type := _, pos := _, after := _, guard := _ }) rfl (fun K hK => ?_) AllReadyH.nil)
          have k0 : W9.cell? ⟨gx, 0, none⟩ = some (.slice (some ⟨ga, 0, none⟩) n c) := HX.out.cell 0
          have f0 := HX.out.frozen 0
          go_simp
          clear k0 f0
          obtain ⟨W10, hW⟩ : ∃ z, z = World.setCell W9 ⟨gx, 0, none⟩ (Value.slice (some ⟨g9, 0, none⟩) (n + 1) cap) := ⟨_, rfl⟩
          replace HX := Lib.hid (HX.out.set_ 0 (Value.slice (some ⟨g9, 0, none⟩) (n + 1) cap))
          replace HS := Lib.hid (HS.out.far (p := ⟨gx, 0, none⟩) (by simp only; omega) (Value.slice (some ⟨g9, 0, none⟩) (n + 1) cap))
          replace HG := Lib.hid (grown_setCell (p := ⟨gx, 0, none⟩) HG.out (.inr (by simp only; omega)) (Value.slice (some ⟨g9, 0, none⟩) (n + 1) cap))
          replace HO := Lib.hid (own_far HO.out (p := ⟨gx, 0, none⟩) (fun k e => by have : g9 = k := (by simpa [Value.ownBlock] using e); simp only; omega) (Value.slice (some ⟨g9, 0, none⟩) (n + 1) cap))
          replace HZ := Lib.hid (HZ.out.far (p := ⟨gx, 0, none⟩) (by simp only; omega) (Value.slice (some ⟨g9, 0, none⟩) (n + 1) cap))
          replace HW := Lib.hid (show w.heap.size ≤ (World.setCell W9 ⟨gx, 0, none⟩ (Value.slice (some ⟨g9, 0, none⟩) (n + 1) cap)).heap.size by rw [World.size_setCell]; exact HW.out)
          rw [← hW] at HS HG HW HO HZ HX ⊢
          clear hW
          replace HX : Hid (Blk W10 gx 26 #[Value.slice (some ⟨g9, 0, none⟩) (n + 1) cap, Value.int IntKind.i64 o, Value.int IntKind.i64 t, Value.int IntKind.i64 p]) := HX

          refine hK.out _ _ (trivial) (fun _ => ?_)
          clear hK K
          try simp only [Act.put]
          refine wpAnyH_done (by kernel_rfl) ?_ _
          have e9 : flat Item.cells (xs ++ [(⟨v, 1, 0⟩ : Item)]) = flat Item.cells xs ++ #[Value.string v, Value.int IntKind.i64 1, Value.int IntKind.i64 0].toList := by simp [flat, Item.cells]
          rw [← e9] at HO
          have HXS2 : Hid (∀ x ∈ xs ++ [(⟨v, 1, 0⟩ : Item)], x.name.size ≤ 100) := Lib.hid (fun y hy => by
            rcases List.mem_append.1 hy with hy | hy
            · exact HXS.out y hy
            · have hyx : y = (⟨v, 1, 0⟩ : Item) := by simpa using hy
              subst hyx
              have hv := HV.out
              simp only [List.mem_cons, List.not_mem_nil, or_false] at hv
              rcases hv with rfl | rfl | rfl <;> (dsimp only; decide))
          have HXL2 : Hid ((xs ++ [(⟨v, 1, 0⟩ : Item)]).length = n + 1) := Lib.hid (by rw [List.length_append, HXL.out]; rfl)
          go_wp2_with fail
          go_meet
          exact ⟨g9, (xs ++ [(⟨v, 1, 0⟩ : Item)]), (n + 1), cap, o, t, p, by omega, HXL2, HXS2, HO, H9Z, HX, Lib.hid (HS.out.more (by omega)), HG, HZ, HW⟩
        · skip
          go_simp
          have hA : Arr W4 (some ⟨gl, 0, none⟩) (flat scell [⟨#[]⟩, ⟨#[87, 97, 120]⟩, ⟨#[119, 97, 120]⟩]) := arr_of_blkM HL.out
          refine (text_c g _ _ [⟨#[]⟩, ⟨#[87, 97, 120]⟩, ⟨#[119, 97, 120]⟩] 3 3 (Lib.hid rfl) (by omega) (by omega) (by omega) _ HS.out hA (fun ad e => by injection e with e; subst e; simp only; omega)).mono ?_
          rintro e W5 ⟨v, hv, rfl, hS, hg⟩
          replace HS := Lib.hid hS
          replace HG := Lib.hid (grown_trans HG.out hg)
          replace HO := Lib.hid (HO.out.kept hg (.inr (fun e => by have := own_at HO.out g e; omega)))
          replace HZ := Lib.hid (HZ.out.grown hg (by intro e; injection e; omega))
          replace HX := Lib.hid (HX.out.grown hg (by intro e; injection e; omega))
          replace HL := Lib.hid (HL.out.grown hg (by intro e; injection e; omega))
          replace HW := Lib.hid (Nat.le_trans HW.out hg.size)
          clear hS hg
          have HV := Lib.hid hv
          clear hv hA
          clear HL
          go_wp2_with fail

          refine hK.out _ _ (trivial) (fun _ => ?_)
          clear hK K
          try simp only [Act.put, List.setIfInBounds_toArray, List.set_cons_zero, List.set_cons_succ]
          refine wpAnyH_take (i := 5) (oi := { dst := some 43, op := _, type := _, pos := _, after := _, guard := _ }) (v := ?_) rfl (by kernel_rfl) (by kernel_rfl) (by kernel_rfl) (fun _ _ _ h => h) (Or.inl ⟨by kernel_rfl, ?_⟩) (trivial) ?_
          rotate_left
          · intro w hSw
            try dsimp only at hSw
            go_simp
            try with_reducible rfl
          try simp only [Act.put, List.setIfInBounds_toArray, List.set_cons_zero, List.set_cons_succ]
          refine wpAnyH_ready (rs := [1, 6]) (by kernel_rfl) (by simp) ?_
          refine (AllReadyH.cons (o := { dst := some 39, op := _, type := _, pos := _, after := _, guard := _ }) rfl (fun K hK => ?_) (AllReadyH.cons (o := { dst := some 44, op := _, type := _, pos := _, after := _, guard := _ }) rfl (fun K hK => ?_) AllReadyH.nil))
          · skip
            have k0 : World.cell? (W5) ⟨gx, 0, none⟩ = some (.slice (some ⟨ga, 0, none⟩) n c) := HX.out.cell 0
            go_simp
            refine hK.out _ _ (trivial) (fun _ => ?_)
            clear hK K
            try simp only [Act.put, List.setIfInBounds_toArray, List.set_cons_zero, List.set_cons_succ]
            refine wpAnyH_ready (rs := [6]) (by kernel_rfl) (by simp) ?_
            refine (AllReadyH.cons (o := { dst := some 44, op := _, type := _, pos := _, after := _, guard := _ }) rfl (fun K hK => ?_) AllReadyH.nil)
            go_simp
            obtain ⟨W6, hWW6⟩ : ∃ z, z = World.alloc W5 (Obj.cells #[Value.string v, Value.int IntKind.i64 1, Value.int IntKind.i64 0] 77) := ⟨_, rfl⟩
            obtain ⟨gn, hggn⟩ : ∃ z, z = (W5).heap.size := ⟨_, rfl⟩
            have HN : Hid (Blk W6 gn 77 #[Value.string v, Value.int IntKind.i64 1, Value.int IntKind.i64 0]) := Lib.hid (by rw [hWW6, hggn]; exact Blk.new _ _ _)
            have hb : Below (W5).heap.size W5 W6 := by rw [hWW6]; exact bl_alloc (Below.refl (W5).heap.size (W5)) _
            have hgn0 : w.heap.size ≤ gn := by rw [hggn]; exact HW.out
            have hgn1 : g < gn := by have h : g < (W5).heap.size := HS.out.lt; omega
            have hgn_HZ := Nat.ne_of_lt (hggn ▸ HZ.out.lt)
            have hgn_HX := Nat.ne_of_lt (hggn ▸ HX.out.lt)
            replace HS := Lib.hid (HS.out.below hb)
            replace HG := Lib.hid (grown_below HG.out hb)
            replace HO := Lib.hid (own_below HO.out hb)
            replace HZ := Lib.hid (HZ.out.below hb)
            replace HX := Lib.hid (HX.out.below hb)
            replace HW := Lib.hid (Nat.le_trans HW.out (hb).size)
            have hn_W6 : gn + 1 = W6.heap.size := by rw [hWW6, hggn]; exact (World.size_alloc _ _).symm
            rw [← hWW6, ← hggn]
            clear hWW6 hggn hb
            clear hn_W6

            refine hK.out _ _ (trivial) (fun _ => ?_)
            clear hK K
            try simp only [Act.put, List.setIfInBounds_toArray, List.set_cons_zero, List.set_cons_succ]
            refine wpAnyH_ready (rs := [7]) (by kernel_rfl) (by simp) ?_
            refine (AllReadyH.cons (o := { dst := some 45, op := _, type := _, pos := _, after := _, guard := _ }) rfl (fun K hK => ?_) AllReadyH.nil)
            have hxl := HX.out.lt
            have hbW : w.heap.size ≤ W6.heap.size := HW.out
            refine step_append_lies W6 rfl _ _ _ rfl w.heap.size 77 i0 _ 3 32 Tryd.underlying24 hi0 hz0 hz1 hz2 rfl (by omega) (.slice (some ⟨ga, 0, none⟩) n c) n (flat Item.cells xs) (by rfl) HO.out ⟨gn, 0, none⟩ 1 1 #[Value.string v, Value.int IntKind.i64 1, Value.int IntKind.i64 0].toList (by rfl) rfl (World.news_of_block HN.out) (by simp [Value.oneCell']) (by omega) (by unfold maxLen; omega) (by omega) hbW W6.heap.size rfl ?_
            intro g9 cap W9 hown9 hg9 hat hlt9
            have h9 : g9 = ga ∨ g9 = W6.heap.size := by
              rcases hat with h | h
              · left
                have : ga = g9 := by simpa [Value.ownBlock] using h
                exact this.symm
              · exact .inr h
            have hzl := HZ.out.lt
            have H9X : g9 ≠ gx := by omega
            have H9Z : g9 ≠ gz := by omega
            clear HN
            clear hbW hat
            replace HS := Lib.hid (HS.out.over hg9 (fun i e => by have := own_at HO.out i e; omega))
            replace HG := Lib.hid (grown_over HG.out hg9 (fun i e => by have := own_at HO.out i e; omega))
            replace HZ := Lib.hid (HZ.out.grown hg9 (fun e => by have : gz = ga := (by simpa [Value.ownBlock] using e); omega))
            replace HX := Lib.hid (HX.out.grown hg9 (fun e => by have : gx = ga := (by simpa [Value.ownBlock] using e); omega))
            replace HW := Lib.hid (Nat.le_trans HW.out hg9.size)
            replace HO := Lib.hid hown9
            clear hown9 hg9

            refine hK.out _ _ (trivial) (fun _ => ?_)
            clear hK K
            try simp only [Act.put, List.setIfInBounds_toArray, List.set_cons_zero, List.set_cons_succ]
            refine wpAnyH_ready (rs := [8]) (by kernel_rfl) (by simp) ?_
            refine (AllReadyH.cons (o := { dst := some 46, op := _, type := _, pos := _, after := _, guard := _ }) rfl (fun K hK => ?_) AllReadyH.nil)
            go_simp
            refine hK.out _ _ (trivial) (fun _ => ?_)
            clear hK K
            try simp only [Act.put, List.setIfInBounds_toArray, List.set_cons_zero, List.set_cons_succ]
            refine wpAnyH_ready (rs := [9]) (by kernel_rfl) (by simp) ?_
            refine (AllReadyH.cons (o := { dst := none, op := _, type := _, pos := _, after := _, guard := _ }) rfl (fun K hK => ?_) AllReadyH.nil)
            have k0 : W9.cell? ⟨gx, 0, none⟩ = some (.slice (some ⟨ga, 0, none⟩) n c) := HX.out.cell 0
            have f0 := HX.out.frozen 0
            go_simp
            clear k0 f0
            obtain ⟨W10, hW⟩ : ∃ z, z = World.setCell W9 ⟨gx, 0, none⟩ (Value.slice (some ⟨g9, 0, none⟩) (n + 1) cap) := ⟨_, rfl⟩
            replace HX := Lib.hid (HX.out.set_ 0 (Value.slice (some ⟨g9, 0, none⟩) (n + 1) cap))
            replace HS := Lib.hid (HS.out.far (p := ⟨gx, 0, none⟩) (by simp only; omega) (Value.slice (some ⟨g9, 0, none⟩) (n + 1) cap))
            replace HG := Lib.hid (grown_setCell (p := ⟨gx, 0, none⟩) HG.out (.inr (by simp only; omega)) (Value.slice (some ⟨g9, 0, none⟩) (n + 1) cap))
            replace HO := Lib.hid (own_far HO.out (p := ⟨gx, 0, none⟩) (fun k e => by have : g9 = k := (by simpa [Value.ownBlock] using e); simp only; omega) (Value.slice (some ⟨g9, 0, none⟩) (n + 1) cap))
            replace HZ := Lib.hid (HZ.out.far (p := ⟨gx, 0, none⟩) (by simp only; omega) (Value.slice (some ⟨g9, 0, none⟩) (n + 1) cap))
            replace HW := Lib.hid (show w.heap.size ≤ (World.setCell W9 ⟨gx, 0, none⟩ (Value.slice (some ⟨g9, 0, none⟩) (n + 1) cap)).heap.size by rw [World.size_setCell]; exact HW.out)
            rw [← hW] at HS HG HW HO HZ HX ⊢
            clear hW
            replace HX : Hid (Blk W10 gx 26 #[Value.slice (some ⟨g9, 0, none⟩) (n + 1) cap, Value.int IntKind.i64 o, Value.int IntKind.i64 t, Value.int IntKind.i64 p]) := HX

            refine hK.out _ _ (trivial) (fun _ => ?_)
            clear hK K
            try simp only [Act.put]
            refine wpAnyH_done (by kernel_rfl) ?_ _
            have e9 : flat Item.cells (xs ++ [(⟨v, 1, 0⟩ : Item)]) = flat Item.cells xs ++ #[Value.string v, Value.int IntKind.i64 1, Value.int IntKind.i64 0].toList := by simp [flat, Item.cells]
            rw [← e9] at HO
            have HXS2 : Hid (∀ x ∈ xs ++ [(⟨v, 1, 0⟩ : Item)], x.name.size ≤ 100) := Lib.hid (fun y hy => by
              rcases List.mem_append.1 hy with hy | hy
              · exact HXS.out y hy
              · have hyx : y = (⟨v, 1, 0⟩ : Item) := by simpa using hy
                subst hyx
                have hv := HV.out
                simp only [List.mem_cons, List.not_mem_nil, or_false] at hv
                rcases hv with rfl | rfl | rfl <;> (dsimp only; decide))
            have HXL2 : Hid ((xs ++ [(⟨v, 1, 0⟩ : Item)]).length = n + 1) := Lib.hid (by rw [List.length_append, HXL.out]; rfl)
            go_wp2_with fail
            go_meet
            exact ⟨g9, (xs ++ [(⟨v, 1, 0⟩ : Item)]), (n + 1), cap, o, t, p, by omega, HXL2, HXS2, HO, H9Z, HX, Lib.hid (HS.out.more (by omega)), HG, HZ, HW⟩
          · skip
            go_simp
            obtain ⟨W6, hWW6⟩ : ∃ z, z = World.alloc W5 (Obj.cells #[Value.string v, Value.int IntKind.i64 1, Value.int IntKind.i64 0] 77) := ⟨_, rfl⟩
            obtain ⟨gn, hggn⟩ : ∃ z, z = (W5).heap.size := ⟨_, rfl⟩
            have HN : Hid (Blk W6 gn 77 #[Value.string v, Value.int IntKind.i64 1, Value.int IntKind.i64 0]) := Lib.hid (by rw [hWW6, hggn]; exact Blk.new _ _ _)
            have hb : Below (W5).heap.size W5 W6 := by rw [hWW6]; exact bl_alloc (Below.refl (W5).heap.size (W5)) _
            have hgn0 : w.heap.size ≤ gn := by rw [hggn]; exact HW.out
            have hgn1 : g < gn := by have h : g < (W5).heap.size := HS.out.lt; omega
            have hgn_HZ := Nat.ne_of_lt (hggn ▸ HZ.out.lt)
            have hgn_HX := Nat.ne_of_lt (hggn ▸ HX.out.lt)
            replace HS := Lib.hid (HS.out.below hb)
            replace HG := Lib.hid (grown_below HG.out hb)
            replace HO := Lib.hid (own_below HO.out hb)
            replace HZ := Lib.hid (HZ.out.below hb)
            replace HX := Lib.hid (HX.out.below hb)
            replace HW := Lib.hid (Nat.le_trans HW.out (hb).size)
            have hn_W6 : gn + 1 = W6.heap.size := by rw [hWW6, hggn]; exact (World.size_alloc _ _).symm
            rw [← hWW6, ← hggn]
            clear hWW6 hggn hb
            clear hn_W6

            refine hK.out _ _ (trivial) (fun _ => ?_)
            clear hK K
            try simp only [Act.put, List.setIfInBounds_toArray, List.set_cons_zero, List.set_cons_succ]
            refine wpAnyH_ready (rs := [1]) (by kernel_rfl) (by simp) ?_
            refine (AllReadyH.cons (o := { dst := some 39, op := _, type := _, pos := _, after := _, guard := _ }) rfl (fun K hK => ?_) AllReadyH.nil)
            have k0 : World.cell? (W6) ⟨gx, 0, none⟩ = some (.slice (some ⟨ga, 0, none⟩) n c) := HX.out.cell 0
            go_simp
            refine hK.out _ _ (trivial) (fun _ => ?_)
            clear hK K
            try simp only [Act.put, List.setIfInBounds_toArray, List.set_cons_zero, List.set_cons_succ]
            refine wpAnyH_ready (rs := [7]) (by kernel_rfl) (by simp) ?_
            refine (AllReadyH.cons (o := { dst := some 45, op := _, type := _, pos := _, after := _, guard := _ }) rfl (fun K hK => ?_) AllReadyH.nil)
            have hxl := HX.out.lt
            have hbW : w.heap.size ≤ W6.heap.size := HW.out
            refine step_append_lies W6 rfl _ _ _ rfl w.heap.size 77 i0 _ 3 32 Tryd.underlying24 hi0 hz0 hz1 hz2 rfl (by omega) (.slice (some ⟨ga, 0, none⟩) n c) n (flat Item.cells xs) (by rfl) HO.out ⟨gn, 0, none⟩ 1 1 #[Value.string v, Value.int IntKind.i64 1, Value.int IntKind.i64 0].toList (by rfl) rfl (World.news_of_block HN.out) (by simp [Value.oneCell']) (by omega) (by unfold maxLen; omega) (by omega) hbW W6.heap.size rfl ?_
            intro g9 cap W9 hown9 hg9 hat hlt9
            have h9 : g9 = ga ∨ g9 = W6.heap.size := by
              rcases hat with h | h
              · left
                have : ga = g9 := by simpa [Value.ownBlock] using h
                exact this.symm
              · exact .inr h
            have hzl := HZ.out.lt
            have H9X : g9 ≠ gx := by omega
            have H9Z : g9 ≠ gz := by omega
            clear HN
            clear hbW hat
            replace HS := Lib.hid (HS.out.over hg9 (fun i e => by have := own_at HO.out i e; omega))
            replace HG := Lib.hid (grown_over HG.out hg9 (fun i e => by have := own_at HO.out i e; omega))
            replace HZ := Lib.hid (HZ.out.grown hg9 (fun e => by have : gz = ga := (by simpa [Value.ownBlock] using e); omega))
            replace HX := Lib.hid (HX.out.grown hg9 (fun e => by have : gx = ga := (by simpa [Value.ownBlock] using e); omega))
            replace HW := Lib.hid (Nat.le_trans HW.out hg9.size)
            replace HO := Lib.hid hown9
            clear hown9 hg9

            refine hK.out _ _ (trivial) (fun _ => ?_)
            clear hK K
            try simp only [Act.put, List.setIfInBounds_toArray, List.set_cons_zero, List.set_cons_succ]
            refine wpAnyH_ready (rs := [8]) (by kernel_rfl) (by simp) ?_
            refine (AllReadyH.cons (o := { dst := some 46, op := _, type := _, pos := _, after := _, guard := _ }) rfl (fun K hK => ?_) AllReadyH.nil)
            go_simp
            refine hK.out _ _ (trivial) (fun _ => ?_)
            clear hK K
            try simp only [Act.put, List.setIfInBounds_toArray, List.set_cons_zero, List.set_cons_succ]
            refine wpAnyH_ready (rs := [9]) (by kernel_rfl) (by simp) ?_
            refine (AllReadyH.cons (o := { dst := none, op := _, type := _, pos := _, after := _, guard := _ }) rfl (fun K hK => ?_) AllReadyH.nil)
            have k0 : W9.cell? ⟨gx, 0, none⟩ = some (.slice (some ⟨ga, 0, none⟩) n c) := HX.out.cell 0
            have f0 := HX.out.frozen 0
            go_simp
            clear k0 f0
            obtain ⟨W10, hW⟩ : ∃ z, z = World.setCell W9 ⟨gx, 0, none⟩ (Value.slice (some ⟨g9, 0, none⟩) (n + 1) cap) := ⟨_, rfl⟩
            replace HX := Lib.hid (HX.out.set_ 0 (Value.slice (some ⟨g9, 0, none⟩) (n + 1) cap))
            replace HS := Lib.hid (HS.out.far (p := ⟨gx, 0, none⟩) (by simp only; omega) (Value.slice (some ⟨g9, 0, none⟩) (n + 1) cap))
            replace HG := Lib.hid (grown_setCell (p := ⟨gx, 0, none⟩) HG.out (.inr (by simp only; omega)) (Value.slice (some ⟨g9, 0, none⟩) (n + 1) cap))
            replace HO := Lib.hid (own_far HO.out (p := ⟨gx, 0, none⟩) (fun k e => by have : g9 = k := (by simpa [Value.ownBlock] using e); simp only; omega) (Value.slice (some ⟨g9, 0, none⟩) (n + 1) cap))
            replace HZ := Lib.hid (HZ.out.far (p := ⟨gx, 0, none⟩) (by simp only; omega) (Value.slice (some ⟨g9, 0, none⟩) (n + 1) cap))
            replace HW := Lib.hid (show w.heap.size ≤ (World.setCell W9 ⟨gx, 0, none⟩ (Value.slice (some ⟨g9, 0, none⟩) (n + 1) cap)).heap.size by rw [World.size_setCell]; exact HW.out)
            rw [← hW] at HS HG HW HO HZ HX ⊢
            clear hW
            replace HX : Hid (Blk W10 gx 26 #[Value.slice (some ⟨g9, 0, none⟩) (n + 1) cap, Value.int IntKind.i64 o, Value.int IntKind.i64 t, Value.int IntKind.i64 p]) := HX

            refine hK.out _ _ (trivial) (fun _ => ?_)
            clear hK K
            try simp only [Act.put]
            refine wpAnyH_done (by kernel_rfl) ?_ _
            have e9 : flat Item.cells (xs ++ [(⟨v, 1, 0⟩ : Item)]) = flat Item.cells xs ++ #[Value.string v, Value.int IntKind.i64 1, Value.int IntKind.i64 0].toList := by simp [flat, Item.cells]
            rw [← e9] at HO
            have HXS2 : Hid (∀ x ∈ xs ++ [(⟨v, 1, 0⟩ : Item)], x.name.size ≤ 100) := Lib.hid (fun y hy => by
              rcases List.mem_append.1 hy with hy | hy
              · exact HXS.out y hy
              · have hyx : y = (⟨v, 1, 0⟩ : Item) := by simpa using hy
                subst hyx
                have hv := HV.out
                simp only [List.mem_cons, List.not_mem_nil, or_false] at hv
                rcases hv with rfl | rfl | rfl <;> (dsimp only; decide))
            have HXL2 : Hid ((xs ++ [(⟨v, 1, 0⟩ : Item)]).length = n + 1) := Lib.hid (by rw [List.length_append, HXL.out]; rfl)
            go_wp2_with fail
            go_meet
            exact ⟨g9, (xs ++ [(⟨v, 1, 0⟩ : Item)]), (n + 1), cap, o, t, p, by omega, HXL2, HXS2, HO, H9Z, HX, Lib.hid (HS.out.more (by omega)), HG, HZ, HW⟩
    by_cases h4 : r = 4
    case pos =>
      subst h4
      go_wp2_with fail
      refine wp_region_held_drew (S := fun _ => True) (by kernel_rfl) ?_ (fun _ => ?_)
      · trivial
      replace HS := Lib.hid (HS.out.below (Below.refl (W3).heap.size (W3)).drew)
      replace HG := Lib.hid (grown_below HG.out (Below.refl (W3).heap.size (W3)).drew)
      replace HO := Lib.hid (own_below HO.out (Below.refl (W3).heap.size (W3)).drew)
      replace HZ := Lib.hid (HZ.out.below (Below.refl (W3).heap.size (W3)).drew)
      replace HX := Lib.hid (HX.out.below (Below.refl (W3).heap.size (W3)).drew)
      replace HW := Lib.hid (Nat.le_trans HW.out ((Below.refl (W3).heap.size (W3)).drew).size)
      refine wpAnyH_take (i := 0) (oi := { dst := some 49, op := _, type := _, pos := _, after := _, guard := _ }) (v := ?_) rfl (by kernel_rfl) (by kernel_rfl) (by kernel_rfl) (fun _ _ _ h => h) (Or.inl ⟨by kernel_rfl, ?_⟩) (trivial) ?_
      rotate_left
      · intro w hSw
        try dsimp only at hSw
        go_simp
        try with_reducible rfl
      try simp only [Act.put, List.setIfInBounds_toArray, List.set_cons_zero, List.set_cons_succ]
      refine wpAnyH_take (i := 2) (oi := { dst := some 51, op := _, type := _, pos := _, after := _, guard := _ }) (v := ?_) rfl (by kernel_rfl) (by kernel_rfl) (by kernel_rfl) (fun _ _ _ h => h) (Or.inl ⟨by kernel_rfl, ?_⟩) (trivial) ?_
      rotate_left
      · intro w hSw
        try dsimp only at hSw
        go_simp
        try with_reducible rfl
      try simp only [Act.put, List.setIfInBounds_toArray, List.set_cons_zero, List.set_cons_succ]
      refine wpAnyH_ready (rs := [1, 3]) (by kernel_rfl) (by simp) ?_
      refine (AllReadyH.cons (o := { dst := some 50, op := _, type := _, pos := _, after := _, guard := _ }) rfl (fun K hK => ?_) (AllReadyH.cons (o := { dst := some 52, op := _, type := _, pos := _, after := _, guard := _ }) rfl (fun K hK => ?_) AllReadyH.nil))
      · skip
        have k0 : World.cell? ((W3).drew) ⟨gx, 0, none⟩ = some (.slice (some ⟨ga, 0, none⟩) n c) := HX.out.cell 0
        go_simp
        refine hK.out _ _ (trivial) (fun _ => ?_)
        clear hK K
        try simp only [Act.put, List.setIfInBounds_toArray, List.set_cons_zero, List.set_cons_succ]
        refine wpAnyH_ready (rs := [3]) (by kernel_rfl) (by simp) ?_
        refine (AllReadyH.cons (o := { dst := some 52, op := _, type := _, pos := _, after := _, guard := _ }) rfl (fun K hK => ?_) AllReadyH.nil)
        go_simp
        obtain ⟨W4, hWW4⟩ : ∃ z, z = (World.alloc W3 (Obj.cells #[Value.int IntKind.i64 (-1), Value.int IntKind.i64 0, Value.int IntKind.i64 1, Value.int IntKind.i64 1000, Value.int IntKind.i64 1001] 2)).drew := ⟨_, rfl⟩
        obtain ⟨gl, hggl⟩ : ∃ z, z = (W3).heap.size := ⟨_, rfl⟩
        have HL : Hid (Blk W4 gl 2 #[Value.int IntKind.i64 (-1), Value.int IntKind.i64 0, Value.int IntKind.i64 1, Value.int IntKind.i64 1000, Value.int IntKind.i64 1001]) := Lib.hid (by rw [hWW4, hggl]; exact Blk.new W3 _ _)
        have hb : Below ((W3).drew).heap.size (W3).drew W4 := by rw [hWW4]; exact bl_alloc (Below.refl ((W3).drew).heap.size ((W3).drew)) _
        have hgl0 : w.heap.size ≤ gl := by rw [hggl]; exact HW.out
        have hgl1 : g < gl := by have h : g < (W3).heap.size := HS.out.lt; omega
        have hgl_HZ := Nat.ne_of_lt (hggl ▸ HZ.out.lt)
        have hgl_HX := Nat.ne_of_lt (hggl ▸ HX.out.lt)
        replace HS := Lib.hid (HS.out.below hb)
        replace HG := Lib.hid (grown_below HG.out hb)
        replace HO := Lib.hid (own_below HO.out hb)
        replace HZ := Lib.hid (HZ.out.below hb)
        replace HX := Lib.hid (HX.out.below hb)
        replace HW := Lib.hid (Nat.le_trans HW.out (hb).size)
        have hn_W4 : gl + 1 = W4.heap.size := by rw [hWW4, hggl]; exact (World.size_alloc W3 _).symm
        rw [← hWW4, ← hggl]
        clear hWW4 hggl hb
        clear hn_W4

        refine hK.out _ _ (trivial) (fun _ => ?_)
        clear hK K
        try simp only [Act.put, List.setIfInBounds_toArray, List.set_cons_zero, List.set_cons_succ]
        refine wpAnyH_ready (rs := [4]) (by kernel_rfl) (by simp) ?_
        refine (AllReadyH.cons (o := { dst := some 53, op := _, type := _, pos := _, after := _, guard := _ }) rfl (fun K hK => ?_) AllReadyH.nil)
        go_simp
        have hA : Arr W4 (some ⟨gl, 0, none⟩) (flat icell [-1, 0, 1, 1000, 1001]) := arr_of_blkM HL.out
        refine (among_c g _ _ [-1, 0, 1, 1000, 1001] 5 5 (Lib.hid rfl) (by omega) (by omega) (by omega) _ HS.out hA (fun ad e => by injection e with e; subst e; simp only; omega)).mono ?_
        rintro e W5 ⟨v, hv, rfl, hS, hg⟩
        replace HS := Lib.hid hS
        replace HG := Lib.hid (grown_trans HG.out hg)
        replace HO := Lib.hid (HO.out.kept hg (.inr (fun e => by have := own_at HO.out g e; omega)))
        replace HZ := Lib.hid (HZ.out.grown hg (by intro e; injection e; omega))
        replace HX := Lib.hid (HX.out.grown hg (by intro e; injection e; omega))
        replace HL := Lib.hid (HL.out.grown hg (by intro e; injection e; omega))
        replace HW := Lib.hid (Nat.le_trans HW.out hg.size)
        clear hS hg
        have HV := Lib.hid hv
        clear hv hA
        clear HL
        go_wp2_with fail

        refine hK.out _ _ (trivial) (fun _ => ?_)
        clear hK K
        try simp only [Act.put, List.setIfInBounds_toArray, List.set_cons_zero, List.set_cons_succ]
        refine wpAnyH_take (i := 5) (oi := { dst := some 54, op := _, type := _, pos := _, after := _, guard := _ }) (v := ?_) rfl (by kernel_rfl) (by kernel_rfl) (by kernel_rfl) (fun _ _ _ h => h) (Or.inl ⟨by kernel_rfl, ?_⟩) (trivial) ?_
        rotate_left
        · intro w hSw
          try dsimp only at hSw
          go_simp
          try with_reducible rfl
        try simp only [Act.put, List.setIfInBounds_toArray, List.set_cons_zero, List.set_cons_succ]
        refine wpAnyH_ready (rs := [6]) (by kernel_rfl) (by simp) ?_
        refine (AllReadyH.cons (o := { dst := some 55, op := _, type := _, pos := _, after := _, guard := _ }) rfl (fun K hK => ?_) AllReadyH.nil)
        go_simp
        obtain ⟨W6, hWW6⟩ : ∃ z, z = World.alloc W5 (Obj.cells #[Value.string ⟨#[119, 97, 120]⟩, Value.int IntKind.i64 v, Value.int IntKind.i64 0] 77) := ⟨_, rfl⟩
        obtain ⟨gn, hggn⟩ : ∃ z, z = (W5).heap.size := ⟨_, rfl⟩
        have HN : Hid (Blk W6 gn 77 #[Value.string ⟨#[119, 97, 120]⟩, Value.int IntKind.i64 v, Value.int IntKind.i64 0]) := Lib.hid (by rw [hWW6, hggn]; exact Blk.new _ _ _)
        have hb : Below (W5).heap.size W5 W6 := by rw [hWW6]; exact bl_alloc (Below.refl (W5).heap.size (W5)) _
        have hgn0 : w.heap.size ≤ gn := by rw [hggn]; exact HW.out
        have hgn1 : g < gn := by have h : g < (W5).heap.size := HS.out.lt; omega
        have hgn_HZ := Nat.ne_of_lt (hggn ▸ HZ.out.lt)
        have hgn_HX := Nat.ne_of_lt (hggn ▸ HX.out.lt)
        replace HS := Lib.hid (HS.out.below hb)
        replace HG := Lib.hid (grown_below HG.out hb)
        replace HO := Lib.hid (own_below HO.out hb)
        replace HZ := Lib.hid (HZ.out.below hb)
        replace HX := Lib.hid (HX.out.below hb)
        replace HW := Lib.hid (Nat.le_trans HW.out (hb).size)
        have hn_W6 : gn + 1 = W6.heap.size := by rw [hWW6, hggn]; exact (World.size_alloc _ _).symm
        rw [← hWW6, ← hggn]
        clear hWW6 hggn hb
        clear hn_W6

        refine hK.out _ _ (trivial) (fun _ => ?_)
        clear hK K
        try simp only [Act.put, List.setIfInBounds_toArray, List.set_cons_zero, List.set_cons_succ]
        refine wpAnyH_ready (rs := [7]) (by kernel_rfl) (by simp) ?_
        refine (AllReadyH.cons (o := { dst := some 56, op := _, type := _, pos := _, after := _, guard := _ }) rfl (fun K hK => ?_) AllReadyH.nil)
        have hxl := HX.out.lt
        have hbW : w.heap.size ≤ W6.heap.size := HW.out
        refine step_append_lies W6 rfl _ _ _ rfl w.heap.size 77 i0 _ 3 32 Tryd.underlying24 hi0 hz0 hz1 hz2 rfl (by omega) (.slice (some ⟨ga, 0, none⟩) n c) n (flat Item.cells xs) (by rfl) HO.out ⟨gn, 0, none⟩ 1 1 #[Value.string ⟨#[119, 97, 120]⟩, Value.int IntKind.i64 v, Value.int IntKind.i64 0].toList (by rfl) rfl (World.news_of_block HN.out) (by simp [Value.oneCell']) (by omega) (by unfold maxLen; omega) (by omega) hbW W6.heap.size rfl ?_
        intro g9 cap W9 hown9 hg9 hat hlt9
        have h9 : g9 = ga ∨ g9 = W6.heap.size := by
          rcases hat with h | h
          · left
            have : ga = g9 := by simpa [Value.ownBlock] using h
            exact this.symm
          · exact .inr h
        have hzl := HZ.out.lt
        have H9X : g9 ≠ gx := by omega
        have H9Z : g9 ≠ gz := by omega
        clear HN
        clear hbW hat
        replace HS := Lib.hid (HS.out.over hg9 (fun i e => by have := own_at HO.out i e; omega))
        replace HG := Lib.hid (grown_over HG.out hg9 (fun i e => by have := own_at HO.out i e; omega))
        replace HZ := Lib.hid (HZ.out.grown hg9 (fun e => by have : gz = ga := (by simpa [Value.ownBlock] using e); omega))
        replace HX := Lib.hid (HX.out.grown hg9 (fun e => by have : gx = ga := (by simpa [Value.ownBlock] using e); omega))
        replace HW := Lib.hid (Nat.le_trans HW.out hg9.size)
        replace HO := Lib.hid hown9
        clear hown9 hg9

        refine hK.out _ _ (trivial) (fun _ => ?_)
        clear hK K
        try simp only [Act.put, List.setIfInBounds_toArray, List.set_cons_zero, List.set_cons_succ]
        refine wpAnyH_ready (rs := [8]) (by kernel_rfl) (by simp) ?_
        refine (AllReadyH.cons (o := { dst := some 57, op := _, type := _, pos := _, after := _, guard := _ }) rfl (fun K hK => ?_) AllReadyH.nil)
        go_simp
        refine hK.out _ _ (trivial) (fun _ => ?_)
        clear hK K
        try simp only [Act.put, List.setIfInBounds_toArray, List.set_cons_zero, List.set_cons_succ]
        refine wpAnyH_ready (rs := [9]) (by kernel_rfl) (by simp) ?_
        refine (AllReadyH.cons (o := { dst := none, op := _, type := _, pos := _, after := _, guard := _ }) rfl (fun K hK => ?_) AllReadyH.nil)
        have k0 : W9.cell? ⟨gx, 0, none⟩ = some (.slice (some ⟨ga, 0, none⟩) n c) := HX.out.cell 0
        have f0 := HX.out.frozen 0
        go_simp
        clear k0 f0
        obtain ⟨W10, hW⟩ : ∃ z, z = World.setCell W9 ⟨gx, 0, none⟩ (Value.slice (some ⟨g9, 0, none⟩) (n + 1) cap) := ⟨_, rfl⟩
        replace HX := Lib.hid (HX.out.set_ 0 (Value.slice (some ⟨g9, 0, none⟩) (n + 1) cap))
        replace HS := Lib.hid (HS.out.far (p := ⟨gx, 0, none⟩) (by simp only; omega) (Value.slice (some ⟨g9, 0, none⟩) (n + 1) cap))
        replace HG := Lib.hid (grown_setCell (p := ⟨gx, 0, none⟩) HG.out (.inr (by simp only; omega)) (Value.slice (some ⟨g9, 0, none⟩) (n + 1) cap))
        replace HO := Lib.hid (own_far HO.out (p := ⟨gx, 0, none⟩) (fun k e => by have : g9 = k := (by simpa [Value.ownBlock] using e); simp only; omega) (Value.slice (some ⟨g9, 0, none⟩) (n + 1) cap))
        replace HZ := Lib.hid (HZ.out.far (p := ⟨gx, 0, none⟩) (by simp only; omega) (Value.slice (some ⟨g9, 0, none⟩) (n + 1) cap))
        replace HW := Lib.hid (show w.heap.size ≤ (World.setCell W9 ⟨gx, 0, none⟩ (Value.slice (some ⟨g9, 0, none⟩) (n + 1) cap)).heap.size by rw [World.size_setCell]; exact HW.out)
        rw [← hW] at HS HG HW HO HZ HX ⊢
        clear hW
        replace HX : Hid (Blk W10 gx 26 #[Value.slice (some ⟨g9, 0, none⟩) (n + 1) cap, Value.int IntKind.i64 o, Value.int IntKind.i64 t, Value.int IntKind.i64 p]) := HX

        refine hK.out _ _ (trivial) (fun _ => ?_)
        clear hK K
        try simp only [Act.put]
        refine wpAnyH_done (by kernel_rfl) ?_ _
        have e9 : flat Item.cells (xs ++ [(⟨⟨#[119, 97, 120]⟩, v, 0⟩ : Item)]) = flat Item.cells xs ++ #[Value.string ⟨#[119, 97, 120]⟩, Value.int IntKind.i64 v, Value.int IntKind.i64 0].toList := by simp [flat, Item.cells]
        rw [← e9] at HO
        have HXS2 : Hid (∀ x ∈ xs ++ [(⟨⟨#[119, 97, 120]⟩, v, 0⟩ : Item)], x.name.size ≤ 100) := Lib.hid (fun y hy => by
          rcases List.mem_append.1 hy with hy | hy
          · exact HXS.out y hy
          · have hyx : y = (⟨⟨#[119, 97, 120]⟩, v, 0⟩ : Item) := by simpa using hy
            subst hyx
            dsimp only; decide)
        have HXL2 : Hid ((xs ++ [(⟨⟨#[119, 97, 120]⟩, v, 0⟩ : Item)]).length = n + 1) := Lib.hid (by rw [List.length_append, HXL.out]; rfl)
        go_wp2_with fail
        go_meet
        exact ⟨g9, (xs ++ [(⟨⟨#[119, 97, 120]⟩, v, 0⟩ : Item)]), (n + 1), cap, o, t, p, by omega, HXL2, HXS2, HO, H9Z, HX, Lib.hid (HS.out.more (by omega)), HG, HZ, HW⟩
      · skip
        go_simp
        obtain ⟨W4, hWW4⟩ : ∃ z, z = (World.alloc W3 (Obj.cells #[Value.int IntKind.i64 (-1), Value.int IntKind.i64 0, Value.int IntKind.i64 1, Value.int IntKind.i64 1000, Value.int IntKind.i64 1001] 2)).drew := ⟨_, rfl⟩
        obtain ⟨gl, hggl⟩ : ∃ z, z = (W3).heap.size := ⟨_, rfl⟩
        have HL : Hid (Blk W4 gl 2 #[Value.int IntKind.i64 (-1), Value.int IntKind.i64 0, Value.int IntKind.i64 1, Value.int IntKind.i64 1000, Value.int IntKind.i64 1001]) := Lib.hid (by rw [hWW4, hggl]; exact Blk.new W3 _ _)
        have hb : Below ((W3).drew).heap.size (W3).drew W4 := by rw [hWW4]; exact bl_alloc (Below.refl ((W3).drew).heap.size ((W3).drew)) _
        have hgl0 : w.heap.size ≤ gl := by rw [hggl]; exact HW.out
        have hgl1 : g < gl := by have h : g < (W3).heap.size := HS.out.lt; omega
        have hgl_HZ := Nat.ne_of_lt (hggl ▸ HZ.out.lt)
        have hgl_HX := Nat.ne_of_lt (hggl ▸ HX.out.lt)
        replace HS := Lib.hid (HS.out.below hb)
        replace HG := Lib.hid (grown_below HG.out hb)
        replace HO := Lib.hid (own_below HO.out hb)
        replace HZ := Lib.hid (HZ.out.below hb)
        replace HX := Lib.hid (HX.out.below hb)
        replace HW := Lib.hid (Nat.le_trans HW.out (hb).size)
        have hn_W4 : gl + 1 = W4.heap.size := by rw [hWW4, hggl]; exact (World.size_alloc W3 _).symm
        rw [← hWW4, ← hggl]
        clear hWW4 hggl hb
        clear hn_W4

        refine hK.out _ _ (trivial) (fun _ => ?_)
        clear hK K
        try simp only [Act.put, List.setIfInBounds_toArray, List.set_cons_zero, List.set_cons_succ]
        refine wpAnyH_ready (rs := [1, 4]) (by kernel_rfl) (by simp) ?_
        refine (AllReadyH.cons (o := { dst := some 50, op := _, type := _, pos := _, after := _, guard := _ }) rfl (fun K hK => ?_) (AllReadyH.cons (o := { dst := some 53, op := _, type := _, pos := _, after := _, guard := _ }) rfl (fun K hK => ?_) AllReadyH.nil))
        · skip
          have k0 : World.cell? (W4) ⟨gx, 0, none⟩ = some (.slice (some ⟨ga, 0, none⟩) n c) := HX.out.cell 0
          go_simp
          refine hK.out _ _ (trivial) (fun _ => ?_)
          clear hK K
          try simp only [Act.put, List.setIfInBounds_toArray, List.set_cons_zero, List.set_cons_succ]
          refine wpAnyH_ready (rs := [4]) (by kernel_rfl) (by simp) ?_
          refine (AllReadyH.cons (o := { dst := some 53, op := _, type := _, pos := _, after := _, guard := _ }) rfl (fun K hK => ?_) AllReadyH.nil)
          go_simp
          have hA : Arr W4 (some ⟨gl, 0, none⟩) (flat icell [-1, 0, 1, 1000, 1001]) := arr_of_blkM HL.out
          refine (among_c g _ _ [-1, 0, 1, 1000, 1001] 5 5 (Lib.hid rfl) (by omega) (by omega) (by omega) _ HS.out hA (fun ad e => by injection e with e; subst e; simp only; omega)).mono ?_
          rintro e W5 ⟨v, hv, rfl, hS, hg⟩
          replace HS := Lib.hid hS
          replace HG := Lib.hid (grown_trans HG.out hg)
          replace HO := Lib.hid (HO.out.kept hg (.inr (fun e => by have := own_at HO.out g e; omega)))
          replace HZ := Lib.hid (HZ.out.grown hg (by intro e; injection e; omega))
          replace HX := Lib.hid (HX.out.grown hg (by intro e; injection e; omega))
          replace HL := Lib.hid (HL.out.grown hg (by intro e; injection e; omega))
          replace HW := Lib.hid (Nat.le_trans HW.out hg.size)
          clear hS hg
          have HV := Lib.hid hv
          clear hv hA
          clear HL
          go_wp2_with fail

          refine hK.out _ _ (trivial) (fun _ => ?_)
          clear hK K
          try simp only [Act.put, List.setIfInBounds_toArray, List.set_cons_zero, List.set_cons_succ]
          refine wpAnyH_take (i := 5) (oi := { dst := some 54, op := _, type := _, pos := _, after := _, guard := _ }) (v := ?_) rfl (by kernel_rfl) (by kernel_rfl) (by kernel_rfl) (fun _ _ _ h => h) (Or.inl ⟨by kernel_rfl, ?_⟩) (trivial) ?_
          rotate_left
          · intro w hSw
            try dsimp only at hSw
            go_simp
            try with_reducible rfl
          try simp only [Act.put, List.setIfInBounds_toArray, List.set_cons_zero, List.set_cons_succ]
          refine wpAnyH_ready (rs := [6]) (by kernel_rfl) (by simp) ?_
          refine (AllReadyH.cons (o := { dst := some 55, op := _, type := _, pos := _, after := _, guard := _ }) rfl (fun K hK => ?_) AllReadyH.nil)
          go_simp
          obtain ⟨W6, hWW6⟩ : ∃ z, z = World.alloc W5 (Obj.cells #[Value.string ⟨#[119, 97, 120]⟩, Value.int IntKind.i64 v, Value.int IntKind.i64 0] 77) := ⟨_, rfl⟩
          obtain ⟨gn, hggn⟩ : ∃ z, z = (W5).heap.size := ⟨_, rfl⟩
          have HN : Hid (Blk W6 gn 77 #[Value.string ⟨#[119, 97, 120]⟩, Value.int IntKind.i64 v, Value.int IntKind.i64 0]) := Lib.hid (by rw [hWW6, hggn]; exact Blk.new _ _ _)
          have hb : Below (W5).heap.size W5 W6 := by rw [hWW6]; exact bl_alloc (Below.refl (W5).heap.size (W5)) _
          have hgn0 : w.heap.size ≤ gn := by rw [hggn]; exact HW.out
          have hgn1 : g < gn := by have h : g < (W5).heap.size := HS.out.lt; omega
          have hgn_HZ := Nat.ne_of_lt (hggn ▸ HZ.out.lt)
          have hgn_HX := Nat.ne_of_lt (hggn ▸ HX.out.lt)
          replace HS := Lib.hid (HS.out.below hb)
          replace HG := Lib.hid (grown_below HG.out hb)
          replace HO := Lib.hid (own_below HO.out hb)
          replace HZ := Lib.hid (HZ.out.below hb)
          replace HX := Lib.hid (HX.out.below hb)
          replace HW := Lib.hid (Nat.le_trans HW.out (hb).size)
          have hn_W6 : gn + 1 = W6.heap.size := by rw [hWW6, hggn]; exact (World.size_alloc _ _).symm
          rw [← hWW6, ← hggn]
          clear hWW6 hggn hb
          clear hn_W6

          refine hK.out _ _ (trivial) (fun _ => ?_)
          clear hK K
          try simp only [Act.put, List.setIfInBounds_toArray, List.set_cons_zero, List.set_cons_succ]
          refine wpAnyH_ready (rs := [7]) (by kernel_rfl) (by simp) ?_
          refine (AllReadyH.cons (o := { dst := some 56, op := _, type := _, pos := _, after := _, guard := _ }) rfl (fun K hK => ?_) AllReadyH.nil)
          have hxl := HX.out.lt
          have hbW : w.heap.size ≤ W6.heap.size := HW.out
          refine step_append_lies W6 rfl _ _ _ rfl w.heap.size 77 i0 _ 3 32 Tryd.underlying24 hi0 hz0 hz1 hz2 rfl (by omega) (.slice (some ⟨ga, 0, none⟩) n c) n (flat Item.cells xs) (by rfl) HO.out ⟨gn, 0, none⟩ 1 1 #[Value.string ⟨#[119, 97, 120]⟩, Value.int IntKind.i64 v, Value.int IntKind.i64 0].toList (by rfl) rfl (World.news_of_block HN.out) (by simp [Value.oneCell']) (by omega) (by unfold maxLen; omega) (by omega) hbW W6.heap.size rfl ?_
          intro g9 cap W9 hown9 hg9 hat hlt9
          have h9 : g9 = ga ∨ g9 = W6.heap.size := by
            rcases hat with h | h
            · left
              have : ga = g9 := by simpa [Value.ownBlock] using h
              exact this.symm
            · exact .inr h
          have hzl := HZ.out.lt
          have H9X : g9 ≠ gx := by omega
          have H9Z : g9 ≠ gz := by omega
          clear HN
          clear hbW hat
          replace HS := Lib.hid (HS.out.over hg9 (fun i e => by have := own_at HO.out i e; omega))
          replace HG := Lib.hid (grown_over HG.out hg9 (fun i e => by have := own_at HO.out i e; omega))
          replace HZ := Lib.hid (HZ.out.grown hg9 (fun e => by have : gz = ga := (by simpa [Value.ownBlock] using e); omega))
          replace HX := Lib.hid (HX.out.grown hg9 (fun e => by have : gx = ga := (by simpa [Value.ownBlock] using e); omega))
          replace HW := Lib.hid (Nat.le_trans HW.out hg9.size)
          replace HO := Lib.hid hown9
          clear hown9 hg9

          refine hK.out _ _ (trivial) (fun _ => ?_)
          clear hK K
          try simp only [Act.put, List.setIfInBounds_toArray, List.set_cons_zero, List.set_cons_succ]
          refine wpAnyH_ready (rs := [8]) (by kernel_rfl) (by simp) ?_
          refine (AllReadyH.cons (o := { dst := some 57, op := _, type := _, pos := _, after := _, guard := _ }) rfl (fun K hK => ?_) AllReadyH.nil)
          go_simp
          refine hK.out _ _ (trivial) (fun _ => ?_)
          clear hK K
          try simp only [Act.put, List.setIfInBounds_toArray, List.set_cons_zero, List.set_cons_succ]
          refine wpAnyH_ready (rs := [9]) (by kernel_rfl) (by simp) ?_
          refine (AllReadyH.cons (o := { dst := none, op := _, type := _, pos := _, after := _, guard := _ }) rfl (fun K hK => ?_) AllReadyH.nil)
          have k0 : W9.cell? ⟨gx, 0, none⟩ = some (.slice (some ⟨ga, 0, none⟩) n c) := HX.out.cell 0
          have f0 := HX.out.frozen 0
          go_simp
          clear k0 f0
          obtain ⟨W10, hW⟩ : ∃ z, z = World.setCell W9 ⟨gx, 0, none⟩ (Value.slice (some ⟨g9, 0, none⟩) (n + 1) cap) := ⟨_, rfl⟩
          replace HX := Lib.hid (HX.out.set_ 0 (Value.slice (some ⟨g9, 0, none⟩) (n + 1) cap))
          replace HS := Lib.hid (HS.out.far (p := ⟨gx, 0, none⟩) (by simp only; omega) (Value.slice (some ⟨g9, 0, none⟩) (n + 1) cap))
          replace HG := Lib.hid (grown_setCell (p := ⟨gx, 0, none⟩) HG.out (.inr (by simp only; omega)) (Value.slice (some ⟨g9, 0, none⟩) (n + 1) cap))
          replace HO := Lib.hid (own_far HO.out (p := ⟨gx, 0, none⟩) (fun k e => by have : g9 = k := (by simpa [Value.ownBlock] using e); simp only; omega) (Value.slice (some ⟨g9, 0, none⟩) (n + 1) cap))
          replace HZ := Lib.hid (HZ.out.far (p := ⟨gx, 0, none⟩) (by simp only; omega) (Value.slice (some ⟨g9, 0, none⟩) (n + 1) cap))
          replace HW := Lib.hid (show w.heap.size ≤ (World.setCell W9 ⟨gx, 0, none⟩ (Value.slice (some ⟨g9, 0, none⟩) (n + 1) cap)).heap.size by rw [World.size_setCell]; exact HW.out)
          rw [← hW] at HS HG HW HO HZ HX ⊢
          clear hW
          replace HX : Hid (Blk W10 gx 26 #[Value.slice (some ⟨g9, 0, none⟩) (n + 1) cap, Value.int IntKind.i64 o, Value.int IntKind.i64 t, Value.int IntKind.i64 p]) := HX

          refine hK.out _ _ (trivial) (fun _ => ?_)
          clear hK K
          try simp only [Act.put]
          refine wpAnyH_done (by kernel_rfl) ?_ _
          have e9 : flat Item.cells (xs ++ [(⟨⟨#[119, 97, 120]⟩, v, 0⟩ : Item)]) = flat Item.cells xs ++ #[Value.string ⟨#[119, 97, 120]⟩, Value.int IntKind.i64 v, Value.int IntKind.i64 0].toList := by simp [flat, Item.cells]
          rw [← e9] at HO
          have HXS2 : Hid (∀ x ∈ xs ++ [(⟨⟨#[119, 97, 120]⟩, v, 0⟩ : Item)], x.name.size ≤ 100) := Lib.hid (fun y hy => by
            rcases List.mem_append.1 hy with hy | hy
            · exact HXS.out y hy
            · have hyx : y = (⟨⟨#[119, 97, 120]⟩, v, 0⟩ : Item) := by simpa using hy
              subst hyx
              dsimp only; decide)
          have HXL2 : Hid ((xs ++ [(⟨⟨#[119, 97, 120]⟩, v, 0⟩ : Item)]).length = n + 1) := Lib.hid (by rw [List.length_append, HXL.out]; rfl)
          go_wp2_with fail
          go_meet
          exact ⟨g9, (xs ++ [(⟨⟨#[119, 97, 120]⟩, v, 0⟩ : Item)]), (n + 1), cap, o, t, p, by omega, HXL2, HXS2, HO, H9Z, HX, Lib.hid (HS.out.more (by omega)), HG, HZ, HW⟩
        · skip
          go_simp
          have hA : Arr W4 (some ⟨gl, 0, none⟩) (flat icell [-1, 0, 1, 1000, 1001]) := arr_of_blkM HL.out
          refine (among_c g _ _ [-1, 0, 1, 1000, 1001] 5 5 (Lib.hid rfl) (by omega) (by omega) (by omega) _ HS.out hA (fun ad e => by injection e with e; subst e; simp only; omega)).mono ?_
          rintro e W5 ⟨v, hv, rfl, hS, hg⟩
          replace HS := Lib.hid hS
          replace HG := Lib.hid (grown_trans HG.out hg)
          replace HO := Lib.hid (HO.out.kept hg (.inr (fun e => by have := own_at HO.out g e; omega)))
          replace HZ := Lib.hid (HZ.out.grown hg (by intro e; injection e; omega))
          replace HX := Lib.hid (HX.out.grown hg (by intro e; injection e; omega))
          replace HL := Lib.hid (HL.out.grown hg (by intro e; injection e; omega))
          replace HW := Lib.hid (Nat.le_trans HW.out hg.size)
          clear hS hg
          have HV := Lib.hid hv
          clear hv hA
          clear HL
          go_wp2_with fail

          refine hK.out _ _ (trivial) (fun _ => ?_)
          clear hK K
          try simp only [Act.put, List.setIfInBounds_toArray, List.set_cons_zero, List.set_cons_succ]
          refine wpAnyH_take (i := 5) (oi := { dst := some 54, op := _, type := _, pos := _, after := _, guard := _ }) (v := ?_) rfl (by kernel_rfl) (by kernel_rfl) (by kernel_rfl) (fun _ _ _ h => h) (Or.inl ⟨by kernel_rfl, ?_⟩) (trivial) ?_
          rotate_left
          · intro w hSw
            try dsimp only at hSw
            go_simp
            try with_reducible rfl
          try simp only [Act.put, List.setIfInBounds_toArray, List.set_cons_zero, List.set_cons_succ]
          refine wpAnyH_ready (rs := [1, 6]) (by kernel_rfl) (by simp) ?_
          refine (AllReadyH.cons (o := { dst := some 50, op := _, type := _, pos := _, after := _, guard := _ }) rfl (fun K hK => ?_) (AllReadyH.cons (o := { dst := some 55, op := _, type := _, pos := _, after := _, guard := _ }) rfl (fun K hK => ?_) AllReadyH.nil))
          · skip
            have k0 : World.cell? (W5) ⟨gx, 0, none⟩ = some (.slice (some ⟨ga, 0, none⟩) n c) := HX.out.cell 0
            go_simp
            refine hK.out _ _ (trivial) (fun _ => ?_)
            clear hK K
            try simp only [Act.put, List.setIfInBounds_toArray, List.set_cons_zero, List.set_cons_succ]
            refine wpAnyH_ready (rs := [6]) (by kernel_rfl) (by simp) ?_
            refine (AllReadyH.cons (o := { dst := some 55, op := _, type := _, pos := _, after := _, guard := _ }) rfl (fun K hK => ?_) AllReadyH.nil)
            go_simp
            obtain ⟨W6, hWW6⟩ : ∃ z, z = World.alloc W5 (Obj.cells #[Value.string ⟨#[119, 97, 120]⟩, Value.int IntKind.i64 v, Value.int IntKind.i64 0] 77) := ⟨_, rfl⟩
            obtain ⟨gn, hggn⟩ : ∃ z, z = (W5).heap.size := ⟨_, rfl⟩
            have HN : Hid (Blk W6 gn 77 #[Value.string ⟨#[119, 97, 120]⟩, Value.int IntKind.i64 v, Value.int IntKind.i64 0]) := Lib.hid (by rw [hWW6, hggn]; exact Blk.new _ _ _)
            have hb : Below (W5).heap.size W5 W6 := by rw [hWW6]; exact bl_alloc (Below.refl (W5).heap.size (W5)) _
            have hgn0 : w.heap.size ≤ gn := by rw [hggn]; exact HW.out
            have hgn1 : g < gn := by have h : g < (W5).heap.size := HS.out.lt; omega
            have hgn_HZ := Nat.ne_of_lt (hggn ▸ HZ.out.lt)
            have hgn_HX := Nat.ne_of_lt (hggn ▸ HX.out.lt)
            replace HS := Lib.hid (HS.out.below hb)
            replace HG := Lib.hid (grown_below HG.out hb)
            replace HO := Lib.hid (own_below HO.out hb)
            replace HZ := Lib.hid (HZ.out.below hb)
            replace HX := Lib.hid (HX.out.below hb)
            replace HW := Lib.hid (Nat.le_trans HW.out (hb).size)
            have hn_W6 : gn + 1 = W6.heap.size := by rw [hWW6, hggn]; exact (World.size_alloc _ _).symm
            rw [← hWW6, ← hggn]
            clear hWW6 hggn hb
            clear hn_W6

            refine hK.out _ _ (trivial) (fun _ => ?_)
            clear hK K
            try simp only [Act.put, List.setIfInBounds_toArray, List.set_cons_zero, List.set_cons_succ]
            refine wpAnyH_ready (rs := [7]) (by kernel_rfl) (by simp) ?_
            refine (AllReadyH.cons (o := { dst := some 56, op := _, type := _, pos := _, after := _, guard := _ }) rfl (fun K hK => ?_) AllReadyH.nil)
            have hxl := HX.out.lt
            have hbW : w.heap.size ≤ W6.heap.size := HW.out
            refine step_append_lies W6 rfl _ _ _ rfl w.heap.size 77 i0 _ 3 32 Tryd.underlying24 hi0 hz0 hz1 hz2 rfl (by omega) (.slice (some ⟨ga, 0, none⟩) n c) n (flat Item.cells xs) (by rfl) HO.out ⟨gn, 0, none⟩ 1 1 #[Value.string ⟨#[119, 97, 120]⟩, Value.int IntKind.i64 v, Value.int IntKind.i64 0].toList (by rfl) rfl (World.news_of_block HN.out) (by simp [Value.oneCell']) (by omega) (by unfold maxLen; omega) (by omega) hbW W6.heap.size rfl ?_
            intro g9 cap W9 hown9 hg9 hat hlt9
            have h9 : g9 = ga ∨ g9 = W6.heap.size := by
              rcases hat with h | h
              · left
                have : ga = g9 := by simpa [Value.ownBlock] using h
                exact this.symm
              · exact .inr h
            have hzl := HZ.out.lt
            have H9X : g9 ≠ gx := by omega
            have H9Z : g9 ≠ gz := by omega
            clear HN
            clear hbW hat
            replace HS := Lib.hid (HS.out.over hg9 (fun i e => by have := own_at HO.out i e; omega))
            replace HG := Lib.hid (grown_over HG.out hg9 (fun i e => by have := own_at HO.out i e; omega))
            replace HZ := Lib.hid (HZ.out.grown hg9 (fun e => by have : gz = ga := (by simpa [Value.ownBlock] using e); omega))
            replace HX := Lib.hid (HX.out.grown hg9 (fun e => by have : gx = ga := (by simpa [Value.ownBlock] using e); omega))
            replace HW := Lib.hid (Nat.le_trans HW.out hg9.size)
            replace HO := Lib.hid hown9
            clear hown9 hg9

            refine hK.out _ _ (trivial) (fun _ => ?_)
            clear hK K
            try simp only [Act.put, List.setIfInBounds_toArray, List.set_cons_zero, List.set_cons_succ]
            refine wpAnyH_ready (rs := [8]) (by kernel_rfl) (by simp) ?_
            refine (AllReadyH.cons (o := { dst := some 57, op := _, type := _, pos := _, after := _, guard := _ }) rfl (fun K hK => ?_) AllReadyH.nil)
            go_simp
            refine hK.out _ _ (trivial) (fun _ => ?_)
            clear hK K
            try simp only [Act.put, List.setIfInBounds_toArray, List.set_cons_zero, List.set_cons_succ]
            refine wpAnyH_ready (rs := [9]) (by kernel_rfl) (by simp) ?_
            refine (AllReadyH.cons (o := { dst := none, op := _, type := _, pos := _, after := _, guard := _ }) rfl (fun K hK => ?_) AllReadyH.nil)
            have k0 : W9.cell? ⟨gx, 0, none⟩ = some (.slice (some ⟨ga, 0, none⟩) n c) := HX.out.cell 0
            have f0 := HX.out.frozen 0
            go_simp
            clear k0 f0
            obtain ⟨W10, hW⟩ : ∃ z, z = World.setCell W9 ⟨gx, 0, none⟩ (Value.slice (some ⟨g9, 0, none⟩) (n + 1) cap) := ⟨_, rfl⟩
            replace HX := Lib.hid (HX.out.set_ 0 (Value.slice (some ⟨g9, 0, none⟩) (n + 1) cap))
            replace HS := Lib.hid (HS.out.far (p := ⟨gx, 0, none⟩) (by simp only; omega) (Value.slice (some ⟨g9, 0, none⟩) (n + 1) cap))
            replace HG := Lib.hid (grown_setCell (p := ⟨gx, 0, none⟩) HG.out (.inr (by simp only; omega)) (Value.slice (some ⟨g9, 0, none⟩) (n + 1) cap))
            replace HO := Lib.hid (own_far HO.out (p := ⟨gx, 0, none⟩) (fun k e => by have : g9 = k := (by simpa [Value.ownBlock] using e); simp only; omega) (Value.slice (some ⟨g9, 0, none⟩) (n + 1) cap))
            replace HZ := Lib.hid (HZ.out.far (p := ⟨gx, 0, none⟩) (by simp only; omega) (Value.slice (some ⟨g9, 0, none⟩) (n + 1) cap))
            replace HW := Lib.hid (show w.heap.size ≤ (World.setCell W9 ⟨gx, 0, none⟩ (Value.slice (some ⟨g9, 0, none⟩) (n + 1) cap)).heap.size by rw [World.size_setCell]; exact HW.out)
            rw [← hW] at HS HG HW HO HZ HX ⊢
            clear hW
            replace HX : Hid (Blk W10 gx 26 #[Value.slice (some ⟨g9, 0, none⟩) (n + 1) cap, Value.int IntKind.i64 o, Value.int IntKind.i64 t, Value.int IntKind.i64 p]) := HX

            refine hK.out _ _ (trivial) (fun _ => ?_)
            clear hK K
            try simp only [Act.put]
            refine wpAnyH_done (by kernel_rfl) ?_ _
            have e9 : flat Item.cells (xs ++ [(⟨⟨#[119, 97, 120]⟩, v, 0⟩ : Item)]) = flat Item.cells xs ++ #[Value.string ⟨#[119, 97, 120]⟩, Value.int IntKind.i64 v, Value.int IntKind.i64 0].toList := by simp [flat, Item.cells]
            rw [← e9] at HO
            have HXS2 : Hid (∀ x ∈ xs ++ [(⟨⟨#[119, 97, 120]⟩, v, 0⟩ : Item)], x.name.size ≤ 100) := Lib.hid (fun y hy => by
              rcases List.mem_append.1 hy with hy | hy
              · exact HXS.out y hy
              · have hyx : y = (⟨⟨#[119, 97, 120]⟩, v, 0⟩ : Item) := by simpa using hy
                subst hyx
                dsimp only; decide)
            have HXL2 : Hid ((xs ++ [(⟨⟨#[119, 97, 120]⟩, v, 0⟩ : Item)]).length = n + 1) := Lib.hid (by rw [List.length_append, HXL.out]; rfl)
            go_wp2_with fail
            go_meet
            exact ⟨g9, (xs ++ [(⟨⟨#[119, 97, 120]⟩, v, 0⟩ : Item)]), (n + 1), cap, o, t, p, by omega, HXL2, HXS2, HO, H9Z, HX, Lib.hid (HS.out.more (by omega)), HG, HZ, HW⟩
          · skip
            go_simp
            obtain ⟨W6, hWW6⟩ : ∃ z, z = World.alloc W5 (Obj.cells #[Value.string ⟨#[119, 97, 120]⟩, Value.int IntKind.i64 v, Value.int IntKind.i64 0] 77) := ⟨_, rfl⟩
            obtain ⟨gn, hggn⟩ : ∃ z, z = (W5).heap.size := ⟨_, rfl⟩
            have HN : Hid (Blk W6 gn 77 #[Value.string ⟨#[119, 97, 120]⟩, Value.int IntKind.i64 v, Value.int IntKind.i64 0]) := Lib.hid (by rw [hWW6, hggn]; exact Blk.new _ _ _)
            have hb : Below (W5).heap.size W5 W6 := by rw [hWW6]; exact bl_alloc (Below.refl (W5).heap.size (W5)) _
            have hgn0 : w.heap.size ≤ gn := by rw [hggn]; exact HW.out
            have hgn1 : g < gn := by have h : g < (W5).heap.size := HS.out.lt; omega
            have hgn_HZ := Nat.ne_of_lt (hggn ▸ HZ.out.lt)
            have hgn_HX := Nat.ne_of_lt (hggn ▸ HX.out.lt)
            replace HS := Lib.hid (HS.out.below hb)
            replace HG := Lib.hid (grown_below HG.out hb)
            replace HO := Lib.hid (own_below HO.out hb)
            replace HZ := Lib.hid (HZ.out.below hb)
            replace HX := Lib.hid (HX.out.below hb)
            replace HW := Lib.hid (Nat.le_trans HW.out (hb).size)
            have hn_W6 : gn + 1 = W6.heap.size := by rw [hWW6, hggn]; exact (World.size_alloc _ _).symm
            rw [← hWW6, ← hggn]
            clear hWW6 hggn hb
            clear hn_W6

            refine hK.out _ _ (trivial) (fun _ => ?_)
            clear hK K
            try simp only [Act.put, List.setIfInBounds_toArray, List.set_cons_zero, List.set_cons_succ]
            refine wpAnyH_ready (rs := [1]) (by kernel_rfl) (by simp) ?_
            refine (AllReadyH.cons (o := { dst := some 50, op := _, type := _, pos := _, after := _, guard := _ }) rfl (fun K hK => ?_) AllReadyH.nil)
            have k0 : World.cell? (W6) ⟨gx, 0, none⟩ = some (.slice (some ⟨ga, 0, none⟩) n c) := HX.out.cell 0
            go_simp
            refine hK.out _ _ (trivial) (fun _ => ?_)
            clear hK K
            try simp only [Act.put, List.setIfInBounds_toArray, List.set_cons_zero, List.set_cons_succ]
            refine wpAnyH_ready (rs := [7]) (by kernel_rfl) (by simp) ?_
            refine (AllReadyH.cons (o := { dst := some 56, op := _, type := _, pos := _, after := _, guard := _ }) rfl (fun K hK => ?_) AllReadyH.nil)
            have hxl := HX.out.lt
            have hbW : w.heap.size ≤ W6.heap.size := HW.out
            refine step_append_lies W6 rfl _ _ _ rfl w.heap.size 77 i0 _ 3 32 Tryd.underlying24 hi0 hz0 hz1 hz2 rfl (by omega) (.slice (some ⟨ga, 0, none⟩) n c) n (flat Item.cells xs) (by rfl) HO.out ⟨gn, 0, none⟩ 1 1 #[Value.string ⟨#[119, 97, 120]⟩, Value.int IntKind.i64 v, Value.int IntKind.i64 0].toList (by rfl) rfl (World.news_of_block HN.out) (by simp [Value.oneCell']) (by omega) (by unfold maxLen; omega) (by omega) hbW W6.heap.size rfl ?_
            intro g9 cap W9 hown9 hg9 hat hlt9
            have h9 : g9 = ga ∨ g9 = W6.heap.size := by
              rcases hat with h | h
              · left
                have : ga = g9 := by simpa [Value.ownBlock] using h
                exact this.symm
              · exact .inr h
            have hzl := HZ.out.lt
            have H9X : g9 ≠ gx := by omega
            have H9Z : g9 ≠ gz := by omega
            clear HN
            clear hbW hat
            replace HS := Lib.hid (HS.out.over hg9 (fun i e => by have := own_at HO.out i e; omega))
            replace HG := Lib.hid (grown_over HG.out hg9 (fun i e => by have := own_at HO.out i e; omega))
            replace HZ := Lib.hid (HZ.out.grown hg9 (fun e => by have : gz = ga := (by simpa [Value.ownBlock] using e); omega))
            replace HX := Lib.hid (HX.out.grown hg9 (fun e => by have : gx = ga := (by simpa [Value.ownBlock] using e); omega))
            replace HW := Lib.hid (Nat.le_trans HW.out hg9.size)
            replace HO := Lib.hid hown9
            clear hown9 hg9

            refine hK.out _ _ (trivial) (fun _ => ?_)
            clear hK K
            try simp only [Act.put, List.setIfInBounds_toArray, List.set_cons_zero, List.set_cons_succ]
            refine wpAnyH_ready (rs := [8]) (by kernel_rfl) (by simp) ?_
            refine (AllReadyH.cons (o := { dst := some 57, op := _, type := _, pos := _, after := _, guard := _ }) rfl (fun K hK => ?_) AllReadyH.nil)
            go_simp
            refine hK.out _ _ (trivial) (fun _ => ?_)
            clear hK K
            try simp only [Act.put, List.setIfInBounds_toArray, List.set_cons_zero, List.set_cons_succ]
            refine wpAnyH_ready (rs := [9]) (by kernel_rfl) (by simp) ?_
            refine (AllReadyH.cons (o := { dst := none, op := _, type := _, pos := _, after := _, guard := _ }) rfl (fun K hK => ?_) AllReadyH.nil)
            have k0 : W9.cell? ⟨gx, 0, none⟩ = some (.slice (some ⟨ga, 0, none⟩) n c) := HX.out.cell 0
            have f0 := HX.out.frozen 0
            go_simp
            clear k0 f0
            obtain ⟨W10, hW⟩ : ∃ z, z = World.setCell W9 ⟨gx, 0, none⟩ (Value.slice (some ⟨g9, 0, none⟩) (n + 1) cap) := ⟨_, rfl⟩
            replace HX := Lib.hid (HX.out.set_ 0 (Value.slice (some ⟨g9, 0, none⟩) (n + 1) cap))
            replace HS := Lib.hid (HS.out.far (p := ⟨gx, 0, none⟩) (by simp only; omega) (Value.slice (some ⟨g9, 0, none⟩) (n + 1) cap))
            replace HG := Lib.hid (grown_setCell (p := ⟨gx, 0, none⟩) HG.out (.inr (by simp only; omega)) (Value.slice (some ⟨g9, 0, none⟩) (n + 1) cap))
            replace HO := Lib.hid (own_far HO.out (p := ⟨gx, 0, none⟩) (fun k e => by have : g9 = k := (by simpa [Value.ownBlock] using e); simp only; omega) (Value.slice (some ⟨g9, 0, none⟩) (n + 1) cap))
            replace HZ := Lib.hid (HZ.out.far (p := ⟨gx, 0, none⟩) (by simp only; omega) (Value.slice (some ⟨g9, 0, none⟩) (n + 1) cap))
            replace HW := Lib.hid (show w.heap.size ≤ (World.setCell W9 ⟨gx, 0, none⟩ (Value.slice (some ⟨g9, 0, none⟩) (n + 1) cap)).heap.size by rw [World.size_setCell]; exact HW.out)
            rw [← hW] at HS HG HW HO HZ HX ⊢
            clear hW
            replace HX : Hid (Blk W10 gx 26 #[Value.slice (some ⟨g9, 0, none⟩) (n + 1) cap, Value.int IntKind.i64 o, Value.int IntKind.i64 t, Value.int IntKind.i64 p]) := HX

            refine hK.out _ _ (trivial) (fun _ => ?_)
            clear hK K
            try simp only [Act.put]
            refine wpAnyH_done (by kernel_rfl) ?_ _
            have e9 : flat Item.cells (xs ++ [(⟨⟨#[119, 97, 120]⟩, v, 0⟩ : Item)]) = flat Item.cells xs ++ #[Value.string ⟨#[119, 97, 120]⟩, Value.int IntKind.i64 v, Value.int IntKind.i64 0].toList := by simp [flat, Item.cells]
            rw [← e9] at HO
            have HXS2 : Hid (∀ x ∈ xs ++ [(⟨⟨#[119, 97, 120]⟩, v, 0⟩ : Item)], x.name.size ≤ 100) := Lib.hid (fun y hy => by
              rcases List.mem_append.1 hy with hy | hy
              · exact HXS.out y hy
              · have hyx : y = (⟨⟨#[119, 97, 120]⟩, v, 0⟩ : Item) := by simpa using hy
                subst hyx
                dsimp only; decide)
            have HXL2 : Hid ((xs ++ [(⟨⟨#[119, 97, 120]⟩, v, 0⟩ : Item)]).length = n + 1) := Lib.hid (by rw [List.length_append, HXL.out]; rfl)
            go_wp2_with fail
            go_meet
            exact ⟨g9, (xs ++ [(⟨⟨#[119, 97, 120]⟩, v, 0⟩ : Item)]), (n + 1), cap, o, t, p, by omega, HXL2, HXS2, HO, H9Z, HX, Lib.hid (HS.out.more (by omega)), HG, HZ, HW⟩
    by_cases h5 : r = 5
    case pos =>
      subst h5
      go_wp2_with fail
      refine wp_region_held_drew (S := fun _ => True) (by kernel_rfl) ?_ (fun _ => ?_)
      · trivial
      replace HS := Lib.hid (HS.out.below (Below.refl (W3).heap.size (W3)).drew)
      replace HG := Lib.hid (grown_below HG.out (Below.refl (W3).heap.size (W3)).drew)
      replace HO := Lib.hid (own_below HO.out (Below.refl (W3).heap.size (W3)).drew)
      replace HZ := Lib.hid (HZ.out.below (Below.refl (W3).heap.size (W3)).drew)
      replace HX := Lib.hid (HX.out.below (Below.refl (W3).heap.size (W3)).drew)
      replace HW := Lib.hid (Nat.le_trans HW.out ((Below.refl (W3).heap.size (W3)).drew).size)
      refine wpAnyH_take (i := 0) (oi := { dst := some 60, op := _, type := _, pos := _, after := _, guard := _ }) (v := ?_) rfl (by kernel_rfl) (by kernel_rfl) (by kernel_rfl) (fun _ _ _ h => h) (Or.inl ⟨by kernel_rfl, ?_⟩) (trivial) ?_
      rotate_left
      · intro w hSw
        try dsimp only at hSw
        go_simp
        try with_reducible rfl
      try simp only [Act.put, List.setIfInBounds_toArray, List.set_cons_zero, List.set_cons_succ]
      refine wpAnyH_take (i := 2) (oi := { dst := some 62, op := _, type := _, pos := _, after := _, guard := _ }) (v := ?_) rfl (by kernel_rfl) (by kernel_rfl) (by kernel_rfl) (fun _ _ _ h => h) (Or.inl ⟨by kernel_rfl, ?_⟩) (trivial) ?_
      rotate_left
      · intro w hSw
        try dsimp only at hSw
        go_simp
        try with_reducible rfl
      try simp only [Act.put, List.setIfInBounds_toArray, List.set_cons_zero, List.set_cons_succ]
      refine wpAnyH_ready (rs := [1, 3]) (by kernel_rfl) (by simp) ?_
      refine (AllReadyH.cons (o := { dst := some 61, op := _, type := _, pos := _, after := _, guard := _ }) rfl (fun K hK => ?_) (AllReadyH.cons (o := { dst := some 63, op := _, type := _, pos := _, after := _, guard := _ }) rfl (fun K hK => ?_) AllReadyH.nil))
      · skip
        have k0 : World.cell? ((W3).drew) ⟨gx, 0, none⟩ = some (.slice (some ⟨ga, 0, none⟩) n c) := HX.out.cell 0
        go_simp
        refine hK.out _ _ (trivial) (fun _ => ?_)
        clear hK K
        try simp only [Act.put, List.setIfInBounds_toArray, List.set_cons_zero, List.set_cons_succ]
        refine wpAnyH_ready (rs := [3]) (by kernel_rfl) (by simp) ?_
        refine (AllReadyH.cons (o := { dst := some 63, op := _, type := _, pos := _, after := _, guard := _ }) rfl (fun K hK => ?_) AllReadyH.nil)
        go_simp
        obtain ⟨W4, hWW4⟩ : ∃ z, z = (World.alloc W3 (Obj.cells #[Value.int IntKind.i64 (-1), Value.int IntKind.i64 0, Value.int IntKind.i64 1000000, Value.int IntKind.i64 1000001] 2)).drew := ⟨_, rfl⟩
        obtain ⟨gl, hggl⟩ : ∃ z, z = (W3).heap.size := ⟨_, rfl⟩
        have HL : Hid (Blk W4 gl 2 #[Value.int IntKind.i64 (-1), Value.int IntKind.i64 0, Value.int IntKind.i64 1000000, Value.int IntKind.i64 1000001]) := Lib.hid (by rw [hWW4, hggl]; exact Blk.new W3 _ _)
        have hb : Below ((W3).drew).heap.size (W3).drew W4 := by rw [hWW4]; exact bl_alloc (Below.refl ((W3).drew).heap.size ((W3).drew)) _
        have hgl0 : w.heap.size ≤ gl := by rw [hggl]; exact HW.out
        have hgl1 : g < gl := by have h : g < (W3).heap.size := HS.out.lt; omega
        have hgl_HZ := Nat.ne_of_lt (hggl ▸ HZ.out.lt)
        have hgl_HX := Nat.ne_of_lt (hggl ▸ HX.out.lt)
        replace HS := Lib.hid (HS.out.below hb)
        replace HG := Lib.hid (grown_below HG.out hb)
        replace HO := Lib.hid (own_below HO.out hb)
        replace HZ := Lib.hid (HZ.out.below hb)
        replace HX := Lib.hid (HX.out.below hb)
        replace HW := Lib.hid (Nat.le_trans HW.out (hb).size)
        have hn_W4 : gl + 1 = W4.heap.size := by rw [hWW4, hggl]; exact (World.size_alloc W3 _).symm
        rw [← hWW4, ← hggl]
        clear hWW4 hggl hb
        clear hn_W4

        refine hK.out _ _ (trivial) (fun _ => ?_)
        clear hK K
        try simp only [Act.put, List.setIfInBounds_toArray, List.set_cons_zero, List.set_cons_succ]
        refine wpAnyH_ready (rs := [4]) (by kernel_rfl) (by simp) ?_
        refine (AllReadyH.cons (o := { dst := some 64, op := _, type := _, pos := _, after := _, guard := _ }) rfl (fun K hK => ?_) AllReadyH.nil)
        go_simp
        have hA : Arr W4 (some ⟨gl, 0, none⟩) (flat icell [-1, 0, 1000000, 1000001]) := arr_of_blkM HL.out
        refine (among_c g _ _ [-1, 0, 1000000, 1000001] 4 4 (Lib.hid rfl) (by omega) (by omega) (by omega) _ HS.out hA (fun ad e => by injection e with e; subst e; simp only; omega)).mono ?_
        rintro e W5 ⟨v, hv, rfl, hS, hg⟩
        replace HS := Lib.hid hS
        replace HG := Lib.hid (grown_trans HG.out hg)
        replace HO := Lib.hid (HO.out.kept hg (.inr (fun e => by have := own_at HO.out g e; omega)))
        replace HZ := Lib.hid (HZ.out.grown hg (by intro e; injection e; omega))
        replace HX := Lib.hid (HX.out.grown hg (by intro e; injection e; omega))
        replace HL := Lib.hid (HL.out.grown hg (by intro e; injection e; omega))
        replace HW := Lib.hid (Nat.le_trans HW.out hg.size)
        clear hS hg
        have HV := Lib.hid hv
        clear hv hA
        clear HL
        go_wp2_with fail

        refine hK.out _ _ (trivial) (fun _ => ?_)
        clear hK K
        try simp only [Act.put, List.setIfInBounds_toArray, List.set_cons_zero, List.set_cons_succ]
        refine wpAnyH_take (i := 5) (oi := { dst := some 65, op := _, type := _, pos := _, after := _, guard := _ }) (v := ?_) rfl (by kernel_rfl) (by kernel_rfl) (by kernel_rfl) (fun _ _ _ h => h) (Or.inl ⟨by kernel_rfl, ?_⟩) (trivial) ?_
        rotate_left
        · intro w hSw
          try dsimp only at hSw
          go_simp
          try with_reducible rfl
        try simp only [Act.put, List.setIfInBounds_toArray, List.set_cons_zero, List.set_cons_succ]
        refine wpAnyH_ready (rs := [6]) (by kernel_rfl) (by simp) ?_
        refine (AllReadyH.cons (o := { dst := some 66, op := _, type := _, pos := _, after := _, guard := _ }) rfl (fun K hK => ?_) AllReadyH.nil)
        go_simp
        obtain ⟨W6, hWW6⟩ : ∃ z, z = World.alloc W5 (Obj.cells #[Value.string ⟨#[119, 97, 120]⟩, Value.int IntKind.i64 1000, Value.int IntKind.i64 v] 77) := ⟨_, rfl⟩
        obtain ⟨gn, hggn⟩ : ∃ z, z = (W5).heap.size := ⟨_, rfl⟩
        have HN : Hid (Blk W6 gn 77 #[Value.string ⟨#[119, 97, 120]⟩, Value.int IntKind.i64 1000, Value.int IntKind.i64 v]) := Lib.hid (by rw [hWW6, hggn]; exact Blk.new _ _ _)
        have hb : Below (W5).heap.size W5 W6 := by rw [hWW6]; exact bl_alloc (Below.refl (W5).heap.size (W5)) _
        have hgn0 : w.heap.size ≤ gn := by rw [hggn]; exact HW.out
        have hgn1 : g < gn := by have h : g < (W5).heap.size := HS.out.lt; omega
        have hgn_HZ := Nat.ne_of_lt (hggn ▸ HZ.out.lt)
        have hgn_HX := Nat.ne_of_lt (hggn ▸ HX.out.lt)
        replace HS := Lib.hid (HS.out.below hb)
        replace HG := Lib.hid (grown_below HG.out hb)
        replace HO := Lib.hid (own_below HO.out hb)
        replace HZ := Lib.hid (HZ.out.below hb)
        replace HX := Lib.hid (HX.out.below hb)
        replace HW := Lib.hid (Nat.le_trans HW.out (hb).size)
        have hn_W6 : gn + 1 = W6.heap.size := by rw [hWW6, hggn]; exact (World.size_alloc _ _).symm
        rw [← hWW6, ← hggn]
        clear hWW6 hggn hb
        clear hn_W6

        refine hK.out _ _ (trivial) (fun _ => ?_)
        clear hK K
        try simp only [Act.put, List.setIfInBounds_toArray, List.set_cons_zero, List.set_cons_succ]
        refine wpAnyH_ready (rs := [7]) (by kernel_rfl) (by simp) ?_
        refine (AllReadyH.cons (o := { dst := some 67, op := _, type := _, pos := _, after := _, guard := _ }) rfl (fun K hK => ?_) AllReadyH.nil)
        have hxl := HX.out.lt
        have hbW : w.heap.size ≤ W6.heap.size := HW.out
        refine step_append_lies W6 rfl _ _ _ rfl w.heap.size 77 i0 _ 3 32 Tryd.underlying24 hi0 hz0 hz1 hz2 rfl (by omega) (.slice (some ⟨ga, 0, none⟩) n c) n (flat Item.cells xs) (by rfl) HO.out ⟨gn, 0, none⟩ 1 1 #[Value.string ⟨#[119, 97, 120]⟩, Value.int IntKind.i64 1000, Value.int IntKind.i64 v].toList (by rfl) rfl (World.news_of_block HN.out) (by simp [Value.oneCell']) (by omega) (by unfold maxLen; omega) (by omega) hbW W6.heap.size rfl ?_
        intro g9 cap W9 hown9 hg9 hat hlt9
        have h9 : g9 = ga ∨ g9 = W6.heap.size := by
          rcases hat with h | h
          · left
            have : ga = g9 := by simpa [Value.ownBlock] using h
            exact this.symm
          · exact .inr h
        have hzl := HZ.out.lt
        have H9X : g9 ≠ gx := by omega
        have H9Z : g9 ≠ gz := by omega
        clear HN
        clear hbW hat
        replace HS := Lib.hid (HS.out.over hg9 (fun i e => by have := own_at HO.out i e; omega))
        replace HG := Lib.hid (grown_over HG.out hg9 (fun i e => by have := own_at HO.out i e; omega))
        replace HZ := Lib.hid (HZ.out.grown hg9 (fun e => by have : gz = ga := (by simpa [Value.ownBlock] using e); omega))
        replace HX := Lib.hid (HX.out.grown hg9 (fun e => by have : gx = ga := (by simpa [Value.ownBlock] using e); omega))
        replace HW := Lib.hid (Nat.le_trans HW.out hg9.size)
        replace HO := Lib.hid hown9
        clear hown9 hg9

        refine hK.out _ _ (trivial) (fun _ => ?_)
        clear hK K
        try simp only [Act.put, List.setIfInBounds_toArray, List.set_cons_zero, List.set_cons_succ]
        refine wpAnyH_ready (rs := [8]) (by kernel_rfl) (by simp) ?_
        refine (AllReadyH.cons (o := { dst := some 68, op := _, type := _, pos := _, after := _, guard := _ }) rfl (fun K hK => ?_) AllReadyH.nil)
        go_simp
        refine hK.out _ _ (trivial) (fun _ => ?_)
        clear hK K
        try simp only [Act.put, List.setIfInBounds_toArray, List.set_cons_zero, List.set_cons_succ]
        refine wpAnyH_ready (rs := [9]) (by kernel_rfl) (by simp) ?_
        refine (AllReadyH.cons (o := { dst := none, op := _, type := _, pos := _, after := _, guard := _ }) rfl (fun K hK => ?_) AllReadyH.nil)
        have k0 : W9.cell? ⟨gx, 0, none⟩ = some (.slice (some ⟨ga, 0, none⟩) n c) := HX.out.cell 0
        have f0 := HX.out.frozen 0
        go_simp
        clear k0 f0
        obtain ⟨W10, hW⟩ : ∃ z, z = World.setCell W9 ⟨gx, 0, none⟩ (Value.slice (some ⟨g9, 0, none⟩) (n + 1) cap) := ⟨_, rfl⟩
        replace HX := Lib.hid (HX.out.set_ 0 (Value.slice (some ⟨g9, 0, none⟩) (n + 1) cap))
        replace HS := Lib.hid (HS.out.far (p := ⟨gx, 0, none⟩) (by simp only; omega) (Value.slice (some ⟨g9, 0, none⟩) (n + 1) cap))
        replace HG := Lib.hid (grown_setCell (p := ⟨gx, 0, none⟩) HG.out (.inr (by simp only; omega)) (Value.slice (some ⟨g9, 0, none⟩) (n + 1) cap))
        replace HO := Lib.hid (own_far HO.out (p := ⟨gx, 0, none⟩) (fun k e => by have : g9 = k := (by simpa [Value.ownBlock] using e); simp only; omega) (Value.slice (some ⟨g9, 0, none⟩) (n + 1) cap))
        replace HZ := Lib.hid (HZ.out.far (p := ⟨gx, 0, none⟩) (by simp only; omega) (Value.slice (some ⟨g9, 0, none⟩) (n + 1) cap))
        replace HW := Lib.hid (show w.heap.size ≤ (World.setCell W9 ⟨gx, 0, none⟩ (Value.slice (some ⟨g9, 0, none⟩) (n + 1) cap)).heap.size by rw [World.size_setCell]; exact HW.out)
        rw [← hW] at HS HG HW HO HZ HX ⊢
        clear hW
        replace HX : Hid (Blk W10 gx 26 #[Value.slice (some ⟨g9, 0, none⟩) (n + 1) cap, Value.int IntKind.i64 o, Value.int IntKind.i64 t, Value.int IntKind.i64 p]) := HX

        refine hK.out _ _ (trivial) (fun _ => ?_)
        clear hK K
        try simp only [Act.put]
        refine wpAnyH_done (by kernel_rfl) ?_ _
        have e9 : flat Item.cells (xs ++ [(⟨⟨#[119, 97, 120]⟩, 1000, v⟩ : Item)]) = flat Item.cells xs ++ #[Value.string ⟨#[119, 97, 120]⟩, Value.int IntKind.i64 1000, Value.int IntKind.i64 v].toList := by simp [flat, Item.cells]
        rw [← e9] at HO
        have HXS2 : Hid (∀ x ∈ xs ++ [(⟨⟨#[119, 97, 120]⟩, 1000, v⟩ : Item)], x.name.size ≤ 100) := Lib.hid (fun y hy => by
          rcases List.mem_append.1 hy with hy | hy
          · exact HXS.out y hy
          · have hyx : y = (⟨⟨#[119, 97, 120]⟩, 1000, v⟩ : Item) := by simpa using hy
            subst hyx
            dsimp only; decide)
        have HXL2 : Hid ((xs ++ [(⟨⟨#[119, 97, 120]⟩, 1000, v⟩ : Item)]).length = n + 1) := Lib.hid (by rw [List.length_append, HXL.out]; rfl)
        go_wp2_with fail
        go_meet
        exact ⟨g9, (xs ++ [(⟨⟨#[119, 97, 120]⟩, 1000, v⟩ : Item)]), (n + 1), cap, o, t, p, by omega, HXL2, HXS2, HO, H9Z, HX, Lib.hid (HS.out.more (by omega)), HG, HZ, HW⟩
      · skip
        go_simp
        obtain ⟨W4, hWW4⟩ : ∃ z, z = (World.alloc W3 (Obj.cells #[Value.int IntKind.i64 (-1), Value.int IntKind.i64 0, Value.int IntKind.i64 1000000, Value.int IntKind.i64 1000001] 2)).drew := ⟨_, rfl⟩
        obtain ⟨gl, hggl⟩ : ∃ z, z = (W3).heap.size := ⟨_, rfl⟩
        have HL : Hid (Blk W4 gl 2 #[Value.int IntKind.i64 (-1), Value.int IntKind.i64 0, Value.int IntKind.i64 1000000, Value.int IntKind.i64 1000001]) := Lib.hid (by rw [hWW4, hggl]; exact Blk.new W3 _ _)
        have hb : Below ((W3).drew).heap.size (W3).drew W4 := by rw [hWW4]; exact bl_alloc (Below.refl ((W3).drew).heap.size ((W3).drew)) _
        have hgl0 : w.heap.size ≤ gl := by rw [hggl]; exact HW.out
        have hgl1 : g < gl := by have h : g < (W3).heap.size := HS.out.lt; omega
        have hgl_HZ := Nat.ne_of_lt (hggl ▸ HZ.out.lt)
        have hgl_HX := Nat.ne_of_lt (hggl ▸ HX.out.lt)
        replace HS := Lib.hid (HS.out.below hb)
        replace HG := Lib.hid (grown_below HG.out hb)
        replace HO := Lib.hid (own_below HO.out hb)
        replace HZ := Lib.hid (HZ.out.below hb)
        replace HX := Lib.hid (HX.out.below hb)
        replace HW := Lib.hid (Nat.le_trans HW.out (hb).size)
        have hn_W4 : gl + 1 = W4.heap.size := by rw [hWW4, hggl]; exact (World.size_alloc W3 _).symm
        rw [← hWW4, ← hggl]
        clear hWW4 hggl hb
        clear hn_W4

        refine hK.out _ _ (trivial) (fun _ => ?_)
        clear hK K
        try simp only [Act.put, List.setIfInBounds_toArray, List.set_cons_zero, List.set_cons_succ]
        refine wpAnyH_ready (rs := [1, 4]) (by kernel_rfl) (by simp) ?_
        refine (AllReadyH.cons (o := { dst := some 61, op := _, type := _, pos := _, after := _, guard := _ }) rfl (fun K hK => ?_) (AllReadyH.cons (o := { dst := some 64, op := _, type := _, pos := _, after := _, guard := _ }) rfl (fun K hK => ?_) AllReadyH.nil))
        · skip
          have k0 : World.cell? (W4) ⟨gx, 0, none⟩ = some (.slice (some ⟨ga, 0, none⟩) n c) := HX.out.cell 0
          go_simp
          refine hK.out _ _ (trivial) (fun _ => ?_)
          clear hK K
          try simp only [Act.put, List.setIfInBounds_toArray, List.set_cons_zero, List.set_cons_succ]
          refine wpAnyH_ready (rs := [4]) (by kernel_rfl) (by simp) ?_
          refine (AllReadyH.cons (o := { dst := some 64, op := _, type := _, pos := _, after := _, guard := _ }) rfl (fun K hK => ?_) AllReadyH.nil)
          go_simp
          have hA : Arr W4 (some ⟨gl, 0, none⟩) (flat icell [-1, 0, 1000000, 1000001]) := arr_of_blkM HL.out
          refine (among_c g _ _ [-1, 0, 1000000, 1000001] 4 4 (Lib.hid rfl) (by omega) (by omega) (by omega) _ HS.out hA (fun ad e => by injection e with e; subst e; simp only; omega)).mono ?_
          rintro e W5 ⟨v, hv, rfl, hS, hg⟩
          replace HS := Lib.hid hS
          replace HG := Lib.hid (grown_trans HG.out hg)
          replace HO := Lib.hid (HO.out.kept hg (.inr (fun e => by have := own_at HO.out g e; omega)))
          replace HZ := Lib.hid (HZ.out.grown hg (by intro e; injection e; omega))
          replace HX := Lib.hid (HX.out.grown hg (by intro e; injection e; omega))
          replace HL := Lib.hid (HL.out.grown hg (by intro e; injection e; omega))
          replace HW := Lib.hid (Nat.le_trans HW.out hg.size)
          clear hS hg
          have HV := Lib.hid hv
          clear hv hA
          clear HL
          go_wp2_with fail

          refine hK.out _ _ (trivial) (fun _ => ?_)
          clear hK K
          try simp only [Act.put, List.setIfInBounds_toArray, List.set_cons_zero, List.set_cons_succ]
          refine wpAnyH_take (i := 5) (oi := { dst := some 65, op := _, type := _, pos := _, after := _, guard := _ }) (v := ?_) rfl (by kernel_rfl) (by kernel_rfl) (by kernel_rfl) (fun _ _ _ h => h) (Or.inl ⟨by kernel_rfl, ?_⟩) (trivial) ?_
          rotate_left
          · intro w hSw
            try dsimp only at hSw
            go_simp
            try with_reducible rfl
          try simp only [Act.put, List.setIfInBounds_toArray, List.set_cons_zero, List.set_cons_succ]
          refine wpAnyH_ready (rs := [6]) (by kernel_rfl) (by simp) ?_
          refine (AllReadyH.cons (o := { dst := some 66, op := _, type := _, pos := _, after := _, guard := _ }) rfl (fun K hK => ?_) AllReadyH.nil)
          go_simp
          obtain ⟨W6, hWW6⟩ : ∃ z, z = World.alloc W5 (Obj.cells #[Value.string ⟨#[119, 97, 120]⟩, Value.int IntKind.i64 1000, Value.int IntKind.i64 v] 77) := ⟨_, rfl⟩
          obtain ⟨gn, hggn⟩ : ∃ z, z = (W5).heap.size := ⟨_, rfl⟩
          have HN : Hid (Blk W6 gn 77 #[Value.string ⟨#[119, 97, 120]⟩, Value.int IntKind.i64 1000, Value.int IntKind.i64 v]) := Lib.hid (by rw [hWW6, hggn]; exact Blk.new _ _ _)
          have hb : Below (W5).heap.size W5 W6 := by rw [hWW6]; exact bl_alloc (Below.refl (W5).heap.size (W5)) _
          have hgn0 : w.heap.size ≤ gn := by rw [hggn]; exact HW.out
          have hgn1 : g < gn := by have h : g < (W5).heap.size := HS.out.lt; omega
          have hgn_HZ := Nat.ne_of_lt (hggn ▸ HZ.out.lt)
          have hgn_HX := Nat.ne_of_lt (hggn ▸ HX.out.lt)
          replace HS := Lib.hid (HS.out.below hb)
          replace HG := Lib.hid (grown_below HG.out hb)
          replace HO := Lib.hid (own_below HO.out hb)
          replace HZ := Lib.hid (HZ.out.below hb)
          replace HX := Lib.hid (HX.out.below hb)
          replace HW := Lib.hid (Nat.le_trans HW.out (hb).size)
          have hn_W6 : gn + 1 = W6.heap.size := by rw [hWW6, hggn]; exact (World.size_alloc _ _).symm
          rw [← hWW6, ← hggn]
          clear hWW6 hggn hb
          clear hn_W6

          refine hK.out _ _ (trivial) (fun _ => ?_)
          clear hK K
          try simp only [Act.put, List.setIfInBounds_toArray, List.set_cons_zero, List.set_cons_succ]
          refine wpAnyH_ready (rs := [7]) (by kernel_rfl) (by simp) ?_
          refine (AllReadyH.cons (o := { dst := some 67, op := _, type := _, pos := _, after := _, guard := _ }) rfl (fun K hK => ?_) AllReadyH.nil)
          have hxl := HX.out.lt
          have hbW : w.heap.size ≤ W6.heap.size := HW.out
          refine step_append_lies W6 rfl _ _ _ rfl w.heap.size 77 i0 _ 3 32 Tryd.underlying24 hi0 hz0 hz1 hz2 rfl (by omega) (.slice (some ⟨ga, 0, none⟩) n c) n (flat Item.cells xs) (by rfl) HO.out ⟨gn, 0, none⟩ 1 1 #[Value.string ⟨#[119, 97, 120]⟩, Value.int IntKind.i64 1000, Value.int IntKind.i64 v].toList (by rfl) rfl (World.news_of_block HN.out) (by simp [Value.oneCell']) (by omega) (by unfold maxLen; omega) (by omega) hbW W6.heap.size rfl ?_
          intro g9 cap W9 hown9 hg9 hat hlt9
          have h9 : g9 = ga ∨ g9 = W6.heap.size := by
            rcases hat with h | h
            · left
              have : ga = g9 := by simpa [Value.ownBlock] using h
              exact this.symm
            · exact .inr h
          have hzl := HZ.out.lt
          have H9X : g9 ≠ gx := by omega
          have H9Z : g9 ≠ gz := by omega
          clear HN
          clear hbW hat
          replace HS := Lib.hid (HS.out.over hg9 (fun i e => by have := own_at HO.out i e; omega))
          replace HG := Lib.hid (grown_over HG.out hg9 (fun i e => by have := own_at HO.out i e; omega))
          replace HZ := Lib.hid (HZ.out.grown hg9 (fun e => by have : gz = ga := (by simpa [Value.ownBlock] using e); omega))
          replace HX := Lib.hid (HX.out.grown hg9 (fun e => by have : gx = ga := (by simpa [Value.ownBlock] using e); omega))
          replace HW := Lib.hid (Nat.le_trans HW.out hg9.size)
          replace HO := Lib.hid hown9
          clear hown9 hg9

          refine hK.out _ _ (trivial) (fun _ => ?_)
          clear hK K
          try simp only [Act.put, List.setIfInBounds_toArray, List.set_cons_zero, List.set_cons_succ]
          refine wpAnyH_ready (rs := [8]) (by kernel_rfl) (by simp) ?_
          refine (AllReadyH.cons (o := { dst := some 68, op := _, type := _, pos := _, after := _, guard := _ }) rfl (fun K hK => ?_) AllReadyH.nil)
          go_simp
          refine hK.out _ _ (trivial) (fun _ => ?_)
          clear hK K
          try simp only [Act.put, List.setIfInBounds_toArray, List.set_cons_zero, List.set_cons_succ]
          refine wpAnyH_ready (rs := [9]) (by kernel_rfl) (by simp) ?_
          refine (AllReadyH.cons (o := { dst := none, op := _, type := _, pos := _, after := _, guard := _ }) rfl (fun K hK => ?_) AllReadyH.nil)
          have k0 : W9.cell? ⟨gx, 0, none⟩ = some (.slice (some ⟨ga, 0, none⟩) n c) := HX.out.cell 0
          have f0 := HX.out.frozen 0
          go_simp
          clear k0 f0
          obtain ⟨W10, hW⟩ : ∃ z, z = World.setCell W9 ⟨gx, 0, none⟩ (Value.slice (some ⟨g9, 0, none⟩) (n + 1) cap) := ⟨_, rfl⟩
          replace HX := Lib.hid (HX.out.set_ 0 (Value.slice (some ⟨g9, 0, none⟩) (n + 1) cap))
          replace HS := Lib.hid (HS.out.far (p := ⟨gx, 0, none⟩) (by simp only; omega) (Value.slice (some ⟨g9, 0, none⟩) (n + 1) cap))
          replace HG := Lib.hid (grown_setCell (p := ⟨gx, 0, none⟩) HG.out (.inr (by simp only; omega)) (Value.slice (some ⟨g9, 0, none⟩) (n + 1) cap))
          replace HO := Lib.hid (own_far HO.out (p := ⟨gx, 0, none⟩) (fun k e => by have : g9 = k := (by simpa [Value.ownBlock] using e); simp only; omega) (Value.slice (some ⟨g9, 0, none⟩) (n + 1) cap))
          replace HZ := Lib.hid (HZ.out.far (p := ⟨gx, 0, none⟩) (by simp only; omega) (Value.slice (some ⟨g9, 0, none⟩) (n + 1) cap))
          replace HW := Lib.hid (show w.heap.size ≤ (World.setCell W9 ⟨gx, 0, none⟩ (Value.slice (some ⟨g9, 0, none⟩) (n + 1) cap)).heap.size by rw [World.size_setCell]; exact HW.out)
          rw [← hW] at HS HG HW HO HZ HX ⊢
          clear hW
          replace HX : Hid (Blk W10 gx 26 #[Value.slice (some ⟨g9, 0, none⟩) (n + 1) cap, Value.int IntKind.i64 o, Value.int IntKind.i64 t, Value.int IntKind.i64 p]) := HX

          refine hK.out _ _ (trivial) (fun _ => ?_)
          clear hK K
          try simp only [Act.put]
          refine wpAnyH_done (by kernel_rfl) ?_ _
          have e9 : flat Item.cells (xs ++ [(⟨⟨#[119, 97, 120]⟩, 1000, v⟩ : Item)]) = flat Item.cells xs ++ #[Value.string ⟨#[119, 97, 120]⟩, Value.int IntKind.i64 1000, Value.int IntKind.i64 v].toList := by simp [flat, Item.cells]
          rw [← e9] at HO
          have HXS2 : Hid (∀ x ∈ xs ++ [(⟨⟨#[119, 97, 120]⟩, 1000, v⟩ : Item)], x.name.size ≤ 100) := Lib.hid (fun y hy => by
            rcases List.mem_append.1 hy with hy | hy
            · exact HXS.out y hy
            · have hyx : y = (⟨⟨#[119, 97, 120]⟩, 1000, v⟩ : Item) := by simpa using hy
              subst hyx
              dsimp only; decide)
          have HXL2 : Hid ((xs ++ [(⟨⟨#[119, 97, 120]⟩, 1000, v⟩ : Item)]).length = n + 1) := Lib.hid (by rw [List.length_append, HXL.out]; rfl)
          go_wp2_with fail
          go_meet
          exact ⟨g9, (xs ++ [(⟨⟨#[119, 97, 120]⟩, 1000, v⟩ : Item)]), (n + 1), cap, o, t, p, by omega, HXL2, HXS2, HO, H9Z, HX, Lib.hid (HS.out.more (by omega)), HG, HZ, HW⟩
        · skip
          go_simp
          have hA : Arr W4 (some ⟨gl, 0, none⟩) (flat icell [-1, 0, 1000000, 1000001]) := arr_of_blkM HL.out
          refine (among_c g _ _ [-1, 0, 1000000, 1000001] 4 4 (Lib.hid rfl) (by omega) (by omega) (by omega) _ HS.out hA (fun ad e => by injection e with e; subst e; simp only; omega)).mono ?_
          rintro e W5 ⟨v, hv, rfl, hS, hg⟩
          replace HS := Lib.hid hS
          replace HG := Lib.hid (grown_trans HG.out hg)
          replace HO := Lib.hid (HO.out.kept hg (.inr (fun e => by have := own_at HO.out g e; omega)))
          replace HZ := Lib.hid (HZ.out.grown hg (by intro e; injection e; omega))
          replace HX := Lib.hid (HX.out.grown hg (by intro e; injection e; omega))
          replace HL := Lib.hid (HL.out.grown hg (by intro e; injection e; omega))
          replace HW := Lib.hid (Nat.le_trans HW.out hg.size)
          clear hS hg
          have HV := Lib.hid hv
          clear hv hA
          clear HL
          go_wp2_with fail

          refine hK.out _ _ (trivial) (fun _ => ?_)
          clear hK K
          try simp only [Act.put, List.setIfInBounds_toArray, List.set_cons_zero, List.set_cons_succ]
          refine wpAnyH_take (i := 5) (oi := { dst := some 65, op := _, type := _, pos := _, after := _, guard := _ }) (v := ?_) rfl (by kernel_rfl) (by kernel_rfl) (by kernel_rfl) (fun _ _ _ h => h) (Or.inl ⟨by kernel_rfl, ?_⟩) (trivial) ?_
          rotate_left
          · intro w hSw
            try dsimp only at hSw
            go_simp
            try with_reducible rfl
          try simp only [Act.put, List.setIfInBounds_toArray, List.set_cons_zero, List.set_cons_succ]
          refine wpAnyH_ready (rs := [1, 6]) (by kernel_rfl) (by simp) ?_
          refine (AllReadyH.cons (o := { dst := some 61, op := _, type := _, pos := _, after := _, guard := _ }) rfl (fun K hK => ?_) (AllReadyH.cons (o := { dst := some 66, op := _, type := _, pos := _, after := _, guard := _ }) rfl (fun K hK => ?_) AllReadyH.nil))
          · skip
            have k0 : World.cell? (W5) ⟨gx, 0, none⟩ = some (.slice (some ⟨ga, 0, none⟩) n c) := HX.out.cell 0
            go_simp
            refine hK.out _ _ (trivial) (fun _ => ?_)
            clear hK K
            try simp only [Act.put, List.setIfInBounds_toArray, List.set_cons_zero, List.set_cons_succ]
            refine wpAnyH_ready (rs := [6]) (by kernel_rfl) (by simp) ?_
            refine (AllReadyH.cons (o := { dst := some 66, op := _, type := _, pos := _, after := _, guard := _ }) rfl (fun K hK => ?_) AllReadyH.nil)
            go_simp
            obtain ⟨W6, hWW6⟩ : ∃ z, z = World.alloc W5 (Obj.cells #[Value.string ⟨#[119, 97, 120]⟩, Value.int IntKind.i64 1000, Value.int IntKind.i64 v] 77) := ⟨_, rfl⟩
            obtain ⟨gn, hggn⟩ : ∃ z, z = (W5).heap.size := ⟨_, rfl⟩
            have HN : Hid (Blk W6 gn 77 #[Value.string ⟨#[119, 97, 120]⟩, Value.int IntKind.i64 1000, Value.int IntKind.i64 v]) := Lib.hid (by rw [hWW6, hggn]; exact Blk.new _ _ _)
            have hb : Below (W5).heap.size W5 W6 := by rw [hWW6]; exact bl_alloc (Below.refl (W5).heap.size (W5)) _
            have hgn0 : w.heap.size ≤ gn := by rw [hggn]; exact HW.out
            have hgn1 : g < gn := by have h : g < (W5).heap.size := HS.out.lt; omega
            have hgn_HZ := Nat.ne_of_lt (hggn ▸ HZ.out.lt)
            have hgn_HX := Nat.ne_of_lt (hggn ▸ HX.out.lt)
            replace HS := Lib.hid (HS.out.below hb)
            replace HG := Lib.hid (grown_below HG.out hb)
            replace HO := Lib.hid (own_below HO.out hb)
            replace HZ := Lib.hid (HZ.out.below hb)
            replace HX := Lib.hid (HX.out.below hb)
            replace HW := Lib.hid (Nat.le_trans HW.out (hb).size)
            have hn_W6 : gn + 1 = W6.heap.size := by rw [hWW6, hggn]; exact (World.size_alloc _ _).symm
            rw [← hWW6, ← hggn]
            clear hWW6 hggn hb
            clear hn_W6

            refine hK.out _ _ (trivial) (fun _ => ?_)
            clear hK K
            try simp only [Act.put, List.setIfInBounds_toArray, List.set_cons_zero, List.set_cons_succ]
            refine wpAnyH_ready (rs := [7]) (by kernel_rfl) (by simp) ?_
            refine (AllReadyH.cons (o := { dst := some 67, op := _, type := _, pos := _, after := _, guard := _ }) rfl (fun K hK => ?_) AllReadyH.nil)
            have hxl := HX.out.lt
            have hbW : w.heap.size ≤ W6.heap.size := HW.out
            refine step_append_lies W6 rfl _ _ _ rfl w.heap.size 77 i0 _ 3 32 Tryd.underlying24 hi0 hz0 hz1 hz2 rfl (by omega) (.slice (some ⟨ga, 0, none⟩) n c) n (flat Item.cells xs) (by rfl) HO.out ⟨gn, 0, none⟩ 1 1 #[Value.string ⟨#[119, 97, 120]⟩, Value.int IntKind.i64 1000, Value.int IntKind.i64 v].toList (by rfl) rfl (World.news_of_block HN.out) (by simp [Value.oneCell']) (by omega) (by unfold maxLen; omega) (by omega) hbW W6.heap.size rfl ?_
            intro g9 cap W9 hown9 hg9 hat hlt9
            have h9 : g9 = ga ∨ g9 = W6.heap.size := by
              rcases hat with h | h
              · left
                have : ga = g9 := by simpa [Value.ownBlock] using h
                exact this.symm
              · exact .inr h
            have hzl := HZ.out.lt
            have H9X : g9 ≠ gx := by omega
            have H9Z : g9 ≠ gz := by omega
            clear HN
            clear hbW hat
            replace HS := Lib.hid (HS.out.over hg9 (fun i e => by have := own_at HO.out i e; omega))
            replace HG := Lib.hid (grown_over HG.out hg9 (fun i e => by have := own_at HO.out i e; omega))
            replace HZ := Lib.hid (HZ.out.grown hg9 (fun e => by have : gz = ga := (by simpa [Value.ownBlock] using e); omega))
            replace HX := Lib.hid (HX.out.grown hg9 (fun e => by have : gx = ga := (by simpa [Value.ownBlock] using e); omega))
            replace HW := Lib.hid (Nat.le_trans HW.out hg9.size)
            replace HO := Lib.hid hown9
            clear hown9 hg9

            refine hK.out _ _ (trivial) (fun _ => ?_)
            clear hK K
            try simp only [Act.put, List.setIfInBounds_toArray, List.set_cons_zero, List.set_cons_succ]
            refine wpAnyH_ready (rs := [8]) (by kernel_rfl) (by simp) ?_
            refine (AllReadyH.cons (o := { dst := some 68, op := _, type := _, pos := _, after := _, guard := _ }) rfl (fun K hK => ?_) AllReadyH.nil)
            go_simp
            refine hK.out _ _ (trivial) (fun _ => ?_)
            clear hK K
            try simp only [Act.put, List.setIfInBounds_toArray, List.set_cons_zero, List.set_cons_succ]
            refine wpAnyH_ready (rs := [9]) (by kernel_rfl) (by simp) ?_
            refine (AllReadyH.cons (o := { dst := none, op := _, type := _, pos := _, after := _, guard := _ }) rfl (fun K hK => ?_) AllReadyH.nil)
            have k0 : W9.cell? ⟨gx, 0, none⟩ = some (.slice (some ⟨ga, 0, none⟩) n c) := HX.out.cell 0
            have f0 := HX.out.frozen 0
            go_simp
            clear k0 f0
            obtain ⟨W10, hW⟩ : ∃ z, z = World.setCell W9 ⟨gx, 0, none⟩ (Value.slice (some ⟨g9, 0, none⟩) (n + 1) cap) := ⟨_, rfl⟩
            replace HX := Lib.hid (HX.out.set_ 0 (Value.slice (some ⟨g9, 0, none⟩) (n + 1) cap))
            replace HS := Lib.hid (HS.out.far (p := ⟨gx, 0, none⟩) (by simp only; omega) (Value.slice (some ⟨g9, 0, none⟩) (n + 1) cap))
            replace HG := Lib.hid (grown_setCell (p := ⟨gx, 0, none⟩) HG.out (.inr (by simp only; omega)) (Value.slice (some ⟨g9, 0, none⟩) (n + 1) cap))
            replace HO := Lib.hid (own_far HO.out (p := ⟨gx, 0, none⟩) (fun k e => by have : g9 = k := (by simpa [Value.ownBlock] using e); simp only; omega) (Value.slice (some ⟨g9, 0, none⟩) (n + 1) cap))
            replace HZ := Lib.hid (HZ.out.far (p := ⟨gx, 0, none⟩) (by simp only; omega) (Value.slice (some ⟨g9, 0, none⟩) (n + 1) cap))
            replace HW := Lib.hid (show w.heap.size ≤ (World.setCell W9 ⟨gx, 0, none⟩ (Value.slice (some ⟨g9, 0, none⟩) (n + 1) cap)).heap.size by rw [World.size_setCell]; exact HW.out)
            rw [← hW] at HS HG HW HO HZ HX ⊢
            clear hW
            replace HX : Hid (Blk W10 gx 26 #[Value.slice (some ⟨g9, 0, none⟩) (n + 1) cap, Value.int IntKind.i64 o, Value.int IntKind.i64 t, Value.int IntKind.i64 p]) := HX

            refine hK.out _ _ (trivial) (fun _ => ?_)
            clear hK K
            try simp only [Act.put]
            refine wpAnyH_done (by kernel_rfl) ?_ _
            have e9 : flat Item.cells (xs ++ [(⟨⟨#[119, 97, 120]⟩, 1000, v⟩ : Item)]) = flat Item.cells xs ++ #[Value.string ⟨#[119, 97, 120]⟩, Value.int IntKind.i64 1000, Value.int IntKind.i64 v].toList := by simp [flat, Item.cells]
            rw [← e9] at HO
            have HXS2 : Hid (∀ x ∈ xs ++ [(⟨⟨#[119, 97, 120]⟩, 1000, v⟩ : Item)], x.name.size ≤ 100) := Lib.hid (fun y hy => by
              rcases List.mem_append.1 hy with hy | hy
              · exact HXS.out y hy
              · have hyx : y = (⟨⟨#[119, 97, 120]⟩, 1000, v⟩ : Item) := by simpa using hy
                subst hyx
                dsimp only; decide)
            have HXL2 : Hid ((xs ++ [(⟨⟨#[119, 97, 120]⟩, 1000, v⟩ : Item)]).length = n + 1) := Lib.hid (by rw [List.length_append, HXL.out]; rfl)
            go_wp2_with fail
            go_meet
            exact ⟨g9, (xs ++ [(⟨⟨#[119, 97, 120]⟩, 1000, v⟩ : Item)]), (n + 1), cap, o, t, p, by omega, HXL2, HXS2, HO, H9Z, HX, Lib.hid (HS.out.more (by omega)), HG, HZ, HW⟩
          · skip
            go_simp
            obtain ⟨W6, hWW6⟩ : ∃ z, z = World.alloc W5 (Obj.cells #[Value.string ⟨#[119, 97, 120]⟩, Value.int IntKind.i64 1000, Value.int IntKind.i64 v] 77) := ⟨_, rfl⟩
            obtain ⟨gn, hggn⟩ : ∃ z, z = (W5).heap.size := ⟨_, rfl⟩
            have HN : Hid (Blk W6 gn 77 #[Value.string ⟨#[119, 97, 120]⟩, Value.int IntKind.i64 1000, Value.int IntKind.i64 v]) := Lib.hid (by rw [hWW6, hggn]; exact Blk.new _ _ _)
            have hb : Below (W5).heap.size W5 W6 := by rw [hWW6]; exact bl_alloc (Below.refl (W5).heap.size (W5)) _
            have hgn0 : w.heap.size ≤ gn := by rw [hggn]; exact HW.out
            have hgn1 : g < gn := by have h : g < (W5).heap.size := HS.out.lt; omega
            have hgn_HZ := Nat.ne_of_lt (hggn ▸ HZ.out.lt)
            have hgn_HX := Nat.ne_of_lt (hggn ▸ HX.out.lt)
            replace HS := Lib.hid (HS.out.below hb)
            replace HG := Lib.hid (grown_below HG.out hb)
            replace HO := Lib.hid (own_below HO.out hb)
            replace HZ := Lib.hid (HZ.out.below hb)
            replace HX := Lib.hid (HX.out.below hb)
            replace HW := Lib.hid (Nat.le_trans HW.out (hb).size)
            have hn_W6 : gn + 1 = W6.heap.size := by rw [hWW6, hggn]; exact (World.size_alloc _ _).symm
            rw [← hWW6, ← hggn]
            clear hWW6 hggn hb
            clear hn_W6

            refine hK.out _ _ (trivial) (fun _ => ?_)
            clear hK K
            try simp only [Act.put, List.setIfInBounds_toArray, List.set_cons_zero, List.set_cons_succ]
            refine wpAnyH_ready (rs := [1]) (by kernel_rfl) (by simp) ?_
            refine (AllReadyH.cons (o := { dst := some 61, op := _, type := _, pos := _, after := _, guard := _ }) rfl (fun K hK => ?_) AllReadyH.nil)
            have k0 : World.cell? (W6) ⟨gx, 0, none⟩ = some (.slice (some ⟨ga, 0, none⟩) n c) := HX.out.cell 0
            go_simp
            refine hK.out _ _ (trivial) (fun _ => ?_)
            clear hK K
            try simp only [Act.put, List.setIfInBounds_toArray, List.set_cons_zero, List.set_cons_succ]
            refine wpAnyH_ready (rs := [7]) (by kernel_rfl) (by simp) ?_
            refine (AllReadyH.cons (o := { dst := some 67, op := _, type := _, pos := _, after := _, guard := _ }) rfl (fun K hK => ?_) AllReadyH.nil)
            have hxl := HX.out.lt
            have hbW : w.heap.size ≤ W6.heap.size := HW.out
            refine step_append_lies W6 rfl _ _ _ rfl w.heap.size 77 i0 _ 3 32 Tryd.underlying24 hi0 hz0 hz1 hz2 rfl (by omega) (.slice (some ⟨ga, 0, none⟩) n c) n (flat Item.cells xs) (by rfl) HO.out ⟨gn, 0, none⟩ 1 1 #[Value.string ⟨#[119, 97, 120]⟩, Value.int IntKind.i64 1000, Value.int IntKind.i64 v].toList (by rfl) rfl (World.news_of_block HN.out) (by simp [Value.oneCell']) (by omega) (by unfold maxLen; omega) (by omega) hbW W6.heap.size rfl ?_
            intro g9 cap W9 hown9 hg9 hat hlt9
            have h9 : g9 = ga ∨ g9 = W6.heap.size := by
              rcases hat with h | h
              · left
                have : ga = g9 := by simpa [Value.ownBlock] using h
                exact this.symm
              · exact .inr h
            have hzl := HZ.out.lt
            have H9X : g9 ≠ gx := by omega
            have H9Z : g9 ≠ gz := by omega
            clear HN
            clear hbW hat
            replace HS := Lib.hid (HS.out.over hg9 (fun i e => by have := own_at HO.out i e; omega))
            replace HG := Lib.hid (grown_over HG.out hg9 (fun i e => by have := own_at HO.out i e; omega))
            replace HZ := Lib.hid (HZ.out.grown hg9 (fun e => by have : gz = ga := (by simpa [Value.ownBlock] using e); omega))
            replace HX := Lib.hid (HX.out.grown hg9 (fun e => by have : gx = ga := (by simpa [Value.ownBlock] using e); omega))
            replace HW := Lib.hid (Nat.le_trans HW.out hg9.size)
            replace HO := Lib.hid hown9
            clear hown9 hg9

            refine hK.out _ _ (trivial) (fun _ => ?_)
            clear hK K
            try simp only [Act.put, List.setIfInBounds_toArray, List.set_cons_zero, List.set_cons_succ]
            refine wpAnyH_ready (rs := [8]) (by kernel_rfl) (by simp) ?_
            refine (AllReadyH.cons (o := { dst := some 68, op := _, type := _, pos := _, after := _, guard := _ }) rfl (fun K hK => ?_) AllReadyH.nil)
            go_simp
            refine hK.out _ _ (trivial) (fun _ => ?_)
            clear hK K
            try simp only [Act.put, List.setIfInBounds_toArray, List.set_cons_zero, List.set_cons_succ]
            refine wpAnyH_ready (rs := [9]) (by kernel_rfl) (by simp) ?_
            refine (AllReadyH.cons (o := { dst := none, op := _, type := _, pos := _, after := _, guard := _ }) rfl (fun K hK => ?_) AllReadyH.nil)
            have k0 : W9.cell? ⟨gx, 0, none⟩ = some (.slice (some ⟨ga, 0, none⟩) n c) := HX.out.cell 0
            have f0 := HX.out.frozen 0
            go_simp
            clear k0 f0
            obtain ⟨W10, hW⟩ : ∃ z, z = World.setCell W9 ⟨gx, 0, none⟩ (Value.slice (some ⟨g9, 0, none⟩) (n + 1) cap) := ⟨_, rfl⟩
            replace HX := Lib.hid (HX.out.set_ 0 (Value.slice (some ⟨g9, 0, none⟩) (n + 1) cap))
            replace HS := Lib.hid (HS.out.far (p := ⟨gx, 0, none⟩) (by simp only; omega) (Value.slice (some ⟨g9, 0, none⟩) (n + 1) cap))
            replace HG := Lib.hid (grown_setCell (p := ⟨gx, 0, none⟩) HG.out (.inr (by simp only; omega)) (Value.slice (some ⟨g9, 0, none⟩) (n + 1) cap))
            replace HO := Lib.hid (own_far HO.out (p := ⟨gx, 0, none⟩) (fun k e => by have : g9 = k := (by simpa [Value.ownBlock] using e); simp only; omega) (Value.slice (some ⟨g9, 0, none⟩) (n + 1) cap))
            replace HZ := Lib.hid (HZ.out.far (p := ⟨gx, 0, none⟩) (by simp only; omega) (Value.slice (some ⟨g9, 0, none⟩) (n + 1) cap))
            replace HW := Lib.hid (show w.heap.size ≤ (World.setCell W9 ⟨gx, 0, none⟩ (Value.slice (some ⟨g9, 0, none⟩) (n + 1) cap)).heap.size by rw [World.size_setCell]; exact HW.out)
            rw [← hW] at HS HG HW HO HZ HX ⊢
            clear hW
            replace HX : Hid (Blk W10 gx 26 #[Value.slice (some ⟨g9, 0, none⟩) (n + 1) cap, Value.int IntKind.i64 o, Value.int IntKind.i64 t, Value.int IntKind.i64 p]) := HX

            refine hK.out _ _ (trivial) (fun _ => ?_)
            clear hK K
            try simp only [Act.put]
            refine wpAnyH_done (by kernel_rfl) ?_ _
            have e9 : flat Item.cells (xs ++ [(⟨⟨#[119, 97, 120]⟩, 1000, v⟩ : Item)]) = flat Item.cells xs ++ #[Value.string ⟨#[119, 97, 120]⟩, Value.int IntKind.i64 1000, Value.int IntKind.i64 v].toList := by simp [flat, Item.cells]
            rw [← e9] at HO
            have HXS2 : Hid (∀ x ∈ xs ++ [(⟨⟨#[119, 97, 120]⟩, 1000, v⟩ : Item)], x.name.size ≤ 100) := Lib.hid (fun y hy => by
              rcases List.mem_append.1 hy with hy | hy
              · exact HXS.out y hy
              · have hyx : y = (⟨⟨#[119, 97, 120]⟩, 1000, v⟩ : Item) := by simpa using hy
                subst hyx
                dsimp only; decide)
            have HXL2 : Hid ((xs ++ [(⟨⟨#[119, 97, 120]⟩, 1000, v⟩ : Item)]).length = n + 1) := Lib.hid (by rw [List.length_append, HXL.out]; rfl)
            go_wp2_with fail
            go_meet
            exact ⟨g9, (xs ++ [(⟨⟨#[119, 97, 120]⟩, 1000, v⟩ : Item)]), (n + 1), cap, o, t, p, by omega, HXL2, HXS2, HO, H9Z, HX, Lib.hid (HS.out.more (by omega)), HG, HZ, HW⟩
    by_cases h6 : r = 6
    case pos =>
      subst h6
      have x0 : ∀ O, (W3.alloc O).cell? ⟨gx, 0, none⟩ = some (.slice (some ⟨ga, 0, none⟩) n c) := fun O => (HX.out.alloc O).cell 0
      have f0 : ∀ O, (W3.alloc O).frozen? ⟨gx, 0, none⟩ = false := fun O => (HX.out.alloc O).frozen 0
      go_wp2_with fail
      clear x0 f0
      obtain ⟨W4, hWW4⟩ : ∃ z, z = World.alloc W3 (Obj.cells #[] 77) := ⟨_, rfl⟩
      obtain ⟨gp, hggp⟩ : ∃ z, z = W3.heap.size := ⟨_, rfl⟩
      have HP : Hid (W4.ownsRow gp 77 3 (.slice (some ⟨gp, 0, none⟩) 0 0) 0 []) := Lib.hid (by rw [hWW4, hggp]; exact own_empty W3 _ _ _ (Nat.le_refl _))
      have hb : Below W3.heap.size W3 W4 := by rw [hWW4]; exact bl_alloc (Below.refl _ _) _
      have hgp0 : w.heap.size ≤ gp := by rw [hggp]; exact HW.out
      have hgp1 : g < gp := by have := HS.out.lt; omega
      have hgp_X : gx < gp := (hggp ▸ HX.out.lt)
      have hgp_Z : gz < gp := (hggp ▸ HZ.out.lt)
      replace HS := Lib.hid (HS.out.below hb)
      replace HG := Lib.hid (grown_below HG.out hb)
      replace HO := Lib.hid (own_below HO.out hb)
      replace HZ := Lib.hid (HZ.out.below hb)
      replace HX := Lib.hid (HX.out.below hb)
      replace HW := Lib.hid (Nat.le_trans HW.out (hb).size)
      rw [← hWW4, ← hggp]
      clear hWW4 hggp hb
      clear HO
      obtain ⟨W5, hW⟩ : ∃ z, z = World.setCell W4 ⟨gx, 0, none⟩ (Value.slice (some ⟨gp, 0, none⟩) 0 0) := ⟨_, rfl⟩
      replace HX := Lib.hid (HX.out.set_ 0 (Value.slice (some ⟨gp, 0, none⟩) 0 0))
      replace HS := Lib.hid (HS.out.far (p := ⟨gx, 0, none⟩) (by simp only; omega) (Value.slice (some ⟨gp, 0, none⟩) 0 0))
      replace HG := Lib.hid (grown_setCell (p := ⟨gx, 0, none⟩) HG.out (.inr (by simp only; omega)) (Value.slice (some ⟨gp, 0, none⟩) 0 0))
      replace HP := Lib.hid (own_far HP.out (p := ⟨gx, 0, none⟩) (fun k e => by have : gp = k := (by simpa [Value.ownBlock] using e); simp only; omega) (Value.slice (some ⟨gp, 0, none⟩) 0 0))
      replace HZ := Lib.hid (HZ.out.far (p := ⟨gx, 0, none⟩) (by simp only; omega) (Value.slice (some ⟨gp, 0, none⟩) 0 0))
      replace HW := Lib.hid (show w.heap.size ≤ (World.setCell W4 ⟨gx, 0, none⟩ (Value.slice (some ⟨gp, 0, none⟩) 0 0)).heap.size by rw [World.size_setCell]; exact HW.out)
      rw [← hW] at HS HG HW HP HZ HX ⊢
      clear hW
      replace HX : Hid (Blk W5 gx 26 #[Value.slice (some ⟨gp, 0, none⟩) 0 0, Value.int IntKind.i64 o, Value.int IntKind.i64 t, Value.int IntKind.i64 p]) := HX
      refine (pick_c g _ 2 (by omega) (by omega) _ HS.out).mono ?_
      rintro e W6 ⟨r2, rfl, r20, r21, hS, hg⟩
      replace HS := Lib.hid hS
      replace HG := Lib.hid (grown_trans HG.out hg)
      replace HP := Lib.hid (HP.out.kept hg (.inr (fun e => by have := own_at HP.out g e; omega)))
      replace HZ := Lib.hid (HZ.out.grown hg (by intro e; injection e; omega))
      replace HX := Lib.hid (HX.out.grown hg (by intro e; injection e; omega))
      replace HW := Lib.hid (Nat.le_trans HW.out hg.size)
      clear hS hg
      obtain ⟨rr, rfl⟩ := Int.eq_ofNat_of_zero_le r20
      go_wp2_with fail
      go_loopw [6] (fun i wr => ∃ (kv j gb e : Nat) (ys : List Item), i = .int .i64 kv ∧ j + kv ≤ 21 ∧ gp ≤ gb ∧ Hid (ys.length = j) ∧ Hid (∀ x ∈ ys, x.name.size ≤ 100) ∧ Hid (wr.ownsRow gp 77 3 (.slice (some ⟨gb, 0, none⟩) j e) j (flat Item.cells ys)) ∧ Hid (Blk wr gx 26 #[Value.slice (some ⟨gb, 0, none⟩) j e, Value.int IntKind.i64 o, Value.int IntKind.i64 t, Value.int IntKind.i64 p]) ∧ Hid (Src wr g (q + 100)) ∧ Hid (w.grownBy wr (some g)) ∧ Hid (Blk wr gz 26 #[Value.slice none 0 0, Value.int IntKind.i64 0, Value.int IntKind.i64 0, Value.int IntKind.i64 0]) ∧ Hid (w.heap.size ≤ wr.heap.size)) (fun i _ => (intOf i).toNat)
      case atStart => exact ⟨20 + rr, 0, gp, 0, [], by simp, by omega, Nat.le_refl _, Lib.hid rfl, Lib.hid (by simp), HP, HX, Lib.hid (HS.out.more (by omega)), HG, HZ, HW⟩
      case round =>
        clear HX HS HG HZ HW HP
        obtain ⟨kv, j, gb, e, ys, rfl, hjk, hgb, HYL, HYS, HP, HX, HS, HG, HZ, HW⟩ := hrel
        by_cases hk : 0 < kv
        · have hk0 : (0 : Int) < (kv : Int) := by omega
          have x0 := HX.out.cell 0
          have HPA := Lib.hid (HP.out.alloc (Obj.cells #[Value.string ⟨#[108, 97, 99, 101]⟩, Value.int IntKind.i64 (kv : Int), Value.int IntKind.i64 300000] 77))
          have HNB := Lib.hid (World.news_of_block (Blk.new wr 77 #[Value.string ⟨#[108, 97, 99, 101]⟩, Value.int IntKind.i64 (kv : Int), Value.int IntKind.i64 300000]))
          have HBS : Hid (gp ≤ (World.alloc wr (Obj.cells #[Value.string ⟨#[108, 97, 99, 101]⟩, Value.int IntKind.i64 (kv : Int), Value.int IntKind.i64 300000] 77)).heap.size) := Lib.hid (by have := own_lt HP.out gb rfl; rw [World.size_alloc]; omega)
          have HXA := Lib.hid (HX.out.alloc (Obj.cells #[Value.string ⟨#[108, 97, 99, 101]⟩, Value.int IntKind.i64 (kv : Int), Value.int IntKind.i64 300000] 77))
          go_wp2_with (at_builtin; refine wpList_append_lies (w := World.alloc wr (Obj.cells #[Value.string ⟨#[108, 97, 99, 101]⟩, Value.int IntKind.i64 (kv : Int), Value.int IntKind.i64 300000] 77)) rfl _ _ 24 rfl gp 77 i0 _ 3 32 Tryd.underlying24 hi0 hz0 hz1 hz2 rfl (by omega) (.slice (some ⟨gb, 0, none⟩) j e) j (flat Item.cells ys) rfl HPA.out ⟨wr.heap.size, 0, none⟩ 1 1 #[Value.string ⟨#[108, 97, 99, 101]⟩, Value.int IntKind.i64 (kv : Int), Value.int IntKind.i64 300000].toList rfl rfl HNB.out (by simp [Value.oneCell']) (by omega) (by unfold maxLen; omega) (by omega) HBS.out _ rfl ?_; intro g9 cap W10 hown9 hg9 hat hlt9; have hX10 := HXA.out.grown hg9 (fun e => by have : gx = gb := (by simpa [Value.ownBlock] using e); omega); have y0 := hX10.cell 0; have fy := hX10.frozen 0)
          clear x0 y0 fy hX10 HNB HXA HBS HPA
          have hgg9 : gp ≤ g9 := by
            rcases hat with h | h
            · have : gb = g9 := by simpa [Value.ownBlock] using h
              omega
            · rw [World.size_alloc] at h
              have := own_lt HP.out gb rfl
              omega
          clear hat
          replace HS := Lib.hid (HS.out.below (bl_alloc (Below.refl _ _) (.cells #[Value.string ⟨#[108, 97, 99, 101]⟩, Value.int IntKind.i64 (kv : Int), Value.int IntKind.i64 300000] 77)))
          replace HG := Lib.hid (grown_alloc HG.out (.cells #[Value.string ⟨#[108, 97, 99, 101]⟩, Value.int IntKind.i64 (kv : Int), Value.int IntKind.i64 300000] 77))
          replace HP := Lib.hid (HP.out.alloc (.cells #[Value.string ⟨#[108, 97, 99, 101]⟩, Value.int IntKind.i64 (kv : Int), Value.int IntKind.i64 300000] 77))
          replace HZ := Lib.hid (HZ.out.alloc (.cells #[Value.string ⟨#[108, 97, 99, 101]⟩, Value.int IntKind.i64 (kv : Int), Value.int IntKind.i64 300000] 77))
          replace HX := Lib.hid (HX.out.alloc (.cells #[Value.string ⟨#[108, 97, 99, 101]⟩, Value.int IntKind.i64 (kv : Int), Value.int IntKind.i64 300000] 77))
          replace HW := Lib.hid (show w.heap.size ≤ (World.alloc wr (.cells #[Value.string ⟨#[108, 97, 99, 101]⟩, Value.int IntKind.i64 (kv : Int), Value.int IntKind.i64 300000] 77)).heap.size by have := HW.out; rw [World.size_alloc]; omega)
          replace HS := Lib.hid (HS.out.over hg9 (fun i e => by have := own_at HP.out i e; omega))
          replace HG := Lib.hid (grown_over HG.out hg9 (fun i e => by have := own_at HP.out i e; omega))
          replace HZ := Lib.hid (HZ.out.grown hg9 (fun e => by have : gz = gb := (by simpa [Value.ownBlock] using e); omega))
          replace HX := Lib.hid (HX.out.grown hg9 (fun e => by have : gx = gb := (by simpa [Value.ownBlock] using e); omega))
          replace HW := Lib.hid (Nat.le_trans HW.out hg9.size)
          replace HP := Lib.hid hown9
          clear hown9 hg9
          obtain ⟨W11, hW⟩ : ∃ z, z = World.setCell W10 ⟨gx, 0, none⟩ (Value.slice (some ⟨g9, 0, none⟩) (j + 1) cap) := ⟨_, rfl⟩
          replace HX := Lib.hid (HX.out.set_ 0 (Value.slice (some ⟨g9, 0, none⟩) (j + 1) cap))
          replace HS := Lib.hid (HS.out.far (p := ⟨gx, 0, none⟩) (by simp only; omega) (Value.slice (some ⟨g9, 0, none⟩) (j + 1) cap))
          replace HG := Lib.hid (grown_setCell (p := ⟨gx, 0, none⟩) HG.out (.inr (by simp only; omega)) (Value.slice (some ⟨g9, 0, none⟩) (j + 1) cap))
          replace HP := Lib.hid (own_far HP.out (p := ⟨gx, 0, none⟩) (fun k e => by have : g9 = k := (by simpa [Value.ownBlock] using e); simp only; omega) (Value.slice (some ⟨g9, 0, none⟩) (j + 1) cap))
          replace HZ := Lib.hid (HZ.out.far (p := ⟨gx, 0, none⟩) (by simp only; omega) (Value.slice (some ⟨g9, 0, none⟩) (j + 1) cap))
          replace HW := Lib.hid (show w.heap.size ≤ (World.setCell W10 ⟨gx, 0, none⟩ (Value.slice (some ⟨g9, 0, none⟩) (j + 1) cap)).heap.size by rw [World.size_setCell]; exact HW.out)
          rw [← hW] at HS HG HW HP HZ HX ⊢
          clear hW
          replace HX : Hid (Blk W11 gx 26 #[Value.slice (some ⟨g9, 0, none⟩) (j + 1) cap, Value.int IntKind.i64 o, Value.int IntKind.i64 t, Value.int IntKind.i64 p]) := HX
          have e9 : flat Item.cells (ys ++ [(⟨⟨#[108, 97, 99, 101]⟩, kv, 300000⟩ : Item)]) = flat Item.cells ys ++ #[Value.string ⟨#[108, 97, 99, 101]⟩, Value.int IntKind.i64 (kv : Int), Value.int IntKind.i64 300000].toList := by simp [flat, Item.cells]
          rw [← e9] at HP
          exact ⟨⟨kv - 1, j + 1, g9, cap, ys ++ [(⟨⟨#[108, 97, 99, 101]⟩, kv, 300000⟩ : Item)], vi (by omega), by omega, hgg9, Lib.hid (by rw [List.length_append, HYL.out]; rfl), Lib.hid (fun y hy => by
            rcases List.mem_append.1 hy with hy | hy
            · exact HYS.out y hy
            · have hyx : y = (⟨⟨#[108, 97, 99, 101]⟩, kv, 300000⟩ : Item) := by simpa using hy
              subst hyx
              dsimp only
              decide), HP, HX, HS, HG, HZ, HW⟩, by simp [intOf]; omega⟩
        · have hk0 : ¬ (0 : Int) < (kv : Int) := by omega
          go_wp2_with fail
          go_meet
          exact ⟨gb, ys, j, e, o, t, p, by omega, HYL, HYS, Lib.hid (own_base HP.out hgp0), by omega, HX, Lib.hid (HS.out.more (by omega)), HG, HZ, HW⟩
    go_wp2_with fail
    go_meet
    exact ⟨ga, xs, n, c, o, t, p, by omega, HXL, HXS, HO, hgz, HX, Lib.hid (HS.out.more (by omega)), HG, HZ, HW⟩
  case rest =>
  clear HX HS HG HZ HW HO HXL HXS HXD hgx_ga hgz ho0 ho1 ht0 ht1 hn5
  obtain ⟨ga, xs, n, c, o, t, p, hn, HXL, HXS, HO, hgz, HX, HS, HG, HZ, HW⟩ := hcut
  have y0 : wc.cell? ⟨gx, 0, none⟩ = some (Value.slice (some ⟨ga, 0, none⟩) n c) := HX.out.cell 0
  have y1 : wc.cell? ⟨gx, 1, none⟩ = some (Value.int IntKind.i64 o) := HX.out.cell 1
  have y2 : wc.cell? ⟨gx, 2, none⟩ = some (Value.int IntKind.i64 t) := HX.out.cell 2
  have y3 : wc.cell? ⟨gx, 3, none⟩ = some (Value.int IntKind.i64 p) := HX.out.cell 3
  have hgr := grown_row (cs := #[Value.slice (some ⟨ga, 0, none⟩) n c, Value.int IntKind.i64 o, Value.int IntKind.i64 t, Value.int IntKind.i64 p]) HZ.out
  go_wp2_with (refine wpList_load_row rfl 26 _ rfl gx rfl 26 #[Value.slice (some ⟨ga, 0, none⟩) n c, Value.int IntKind.i64 o, Value.int IntKind.i64 t, Value.int IntKind.i64 p] (0, 0) _ HX.out Tryd.underlying26 rfl (by kernel_rfl) ?_; refine wpList_store_row rfl 26 _ _ rfl gz #[Value.slice (some ⟨ga, 0, none⟩) n c, Value.int IntKind.i64 o, Value.int IntKind.i64 t, Value.int IntKind.i64 p] rfl rfl 26 #[Value.slice none 0 0, Value.int IntKind.i64 0, Value.int IntKind.i64 0, Value.int IntKind.i64 0] HZ.out (by kernel_rfl) rfl (by simp [Value.oneCell']) ?_)
  try simp only [Exit.inBlock, Exit.then]
  refine bodyPost_ret (results_cell_row (P := Tryd.prog) rfl _ _ gz 26 #[Value.slice (some ⟨ga, 0, none⟩) n c, Value.int IntKind.i64 o, Value.int IntKind.i64 t, Value.int IntKind.i64 p] (0, 0) _ rfl ?_ Tryd.underlying26 rfl (by kernel_rfl)) rfl ?_
  · exact setRow_heap _ _ _ _ _ _ HZ.out
  · exact ⟨ga, xs, n, c, o, t, p, rfl, HXL.out, hn, HXS.out, HO.out.kept hgr (.inr (fun e => by have : ga = gz := (by simpa [Value.ownBlock] using e); omega)), HS.out.kept hgr hgz1, grown_over HG.out hgr (fun i e => by injection e with e; omega)⟩
end Go.Proofs.YtnhkdcebldppmaaDoor
