/- Drawn bills. -/
import Derived.Test.YtnhkdcebldppmaaDoorSrc
import Derived.Test.YtnhkdcebldppmaaDoorDrwP
import Derived.Test.YtnhkdcebldppmaaDoorOwn
import Derived.Test.YtnhkdcebldppmaaDoorBillS
import Derived.Deep.AppendLies
import Derived.Deep.RegionHeld
import Derived.Deep.CutBlock
import Derived.Deep.DeepCutAuto
namespace Go.Proofs.YtnhkdcebldppmaaDoor
open Go.RowKit

theorem info_ItemL : (Tryd.prog.info? 77).map (fun i => (i.zero, i.size, i.bytes)) = some (some (.agg #[.string ByteArray.empty, .int .i64 0, .int .i64 0]), 3, 32) := by kernel_rfl
def drwI (x : Item) : Prop := x.name.size ≤ 100 ∧ 0 ≤ x.many ∧ x.many ≤ 1000 ∧ 0 ≤ x.cents ∧ x.cents ≤ 1000000
def OutBl (g q : Nat) (w : World) (e : Ending) (w' : World) : Prop := ∃ (ga : Nat) (xs : List Item) (n c : Nat) (o t p : Int), e = .returned (.agg #[.slice (some ⟨ga, 0, none⟩) n c, .int .i64 o, .int .i64 t, .int .i64 p]) ∧ xs.length = n ∧ n ≤ 5 ∧ (∀ x ∈ xs, drwI x) ∧ 0 ≤ o ∧ o ≤ 100 ∧ 0 ≤ t ∧ t ≤ 100 ∧
  w'.ownsRow w.heap.size 77 3 (.slice (some ⟨ga, 0, none⟩) n c) n (flat Item.cells xs) ∧ Src w' g (q + 60) ∧ w.grownBy w' (some g)
theorem grown_row {W : World} {g : Nat} {t : TypeId} {old cs : Array Value} (_h : Blk W g t old) : W.grownBy (W.setRow g cs) (some g) :=
  ⟨rfl, rfl, rfl, by simp, fun i _ hne => setRow_other W g i cs (fun e => hne (by rw [e]))⟩
theorem in_list {P : Int → Prop} {l : List Int} (h : ∀ x ∈ l, P x) {v : Int} (hv : v ∈ l) : P v := h v hv
set_option maxRecDepth 100000 in
set_option maxHeartbeats 4000000 in
theorem l26Draw_c (g q : Nat) (hq : q ≤ 600000000000) (w : World) (hS : Src w g q) : Calls Tryd.prog 73 #[.pointer (some ⟨g, 0, none⟩)] w (OutBl g q w) := by
  obtain ⟨i0, hi0, hz0, hz1, hz2⟩ := info_parts (P := Tryd.prog) (e := 77) (z := .agg #[.string ByteArray.empty, .int .i64 0, .int .i64 0]) (size := 3) (bytes := 32) info_ItemL
  have HS := Lib.hid hS
  have hgw := hS.lt
  have HG := Lib.hid (World.grownBy.refl w (some g))
  have HW := Lib.hid (Nat.le_refl w.heap.size)
  clear hS
  go_enter Tryd.func73, Tryd.ntmps73
  go_wp2_with fail

  obtain ⟨W0, hWW0⟩ : ∃ z, z = World.alloc w (Obj.cells #[Value.slice none 0 0, Value.int IntKind.i64 0, Value.int IntKind.i64 0, Value.int IntKind.i64 0] 26) := ⟨_, rfl⟩
  obtain ⟨gz, hggz⟩ : ∃ z, z = (w).heap.size := ⟨_, rfl⟩
  have HZ : Hid (Blk W0 gz 26 #[Value.slice none 0 0, Value.int IntKind.i64 0, Value.int IntKind.i64 0, Value.int IntKind.i64 0]) := Lib.hid (by rw [hWW0, hggz]; exact Blk.new _ _ _)
  have hb : Below (w).heap.size w W0 := by rw [hWW0]; exact bl_alloc (Below.refl (w).heap.size (w)) _
  have hgz0 : w.heap.size ≤ gz := by rw [hggz]; exact HW.out
  have hgz1 : g < gz := by have h : g < (w).heap.size := HS.out.lt; omega
  replace HS := Lib.hid (HS.out.below hb)
  replace HG := Lib.hid (grown_below HG.out hb)
  replace HW := Lib.hid (Nat.le_trans HW.out (hb).size)
  have hn_W0 : gz + 1 = W0.heap.size := by rw [hWW0, hggz]; exact (World.size_alloc _ _).symm
  rw [← hWW0, ← hggz]
  clear hWW0 hggz hb
  obtain ⟨W1, hWW1⟩ : ∃ z, z = World.alloc W0 (Obj.cells #[] 77) := ⟨_, rfl⟩
  obtain ⟨gp, hggp⟩ : ∃ z, z = (W0).heap.size := ⟨_, rfl⟩
  have HP : Hid (W1.ownsRow gp 77 3 (.slice (some ⟨gp, 0, none⟩) 0 0) 0 []) := Lib.hid (by rw [hWW1, hggp]; exact own_empty W0 _ _ _ (Nat.le_refl _))
  have hb : Below (W0).heap.size W0 W1 := by rw [hWW1]; exact bl_alloc (Below.refl _ _) _
  have hgp0 : w.heap.size ≤ gp := by rw [hggp]; exact HW.out
  have hgp1 : g < gp := by have := HS.out.lt; omega
  have hgp_HZ := (hggp ▸ HZ.out.lt)
  replace HS := Lib.hid (HS.out.below hb)
  replace HG := Lib.hid (grown_below HG.out hb)
  replace HZ := Lib.hid (HZ.out.below hb)
  replace HW := Lib.hid (Nat.le_trans HW.out (hb).size)
  have hn_W1 : gp + 1 = W1.heap.size := by rw [hWW1, hggp, World.size_alloc]
  have he_gp := hn_W0.trans hggp.symm
  rw [← hWW1, hn_W0, ← hggp]
  clear hWW1 hggp hb
  obtain ⟨W2, hWW2⟩ : ∃ z, z = World.alloc W1 (Obj.cells #[Value.slice (some ⟨gp, 0, none⟩) 0 0, Value.int IntKind.i64 0, Value.int IntKind.i64 0, Value.int IntKind.i64 0] 26) := ⟨_, rfl⟩
  obtain ⟨gx, hggx⟩ : ∃ z, z = (W1).heap.size := ⟨_, rfl⟩
  have HX : Hid (Blk W2 gx 26 #[Value.slice (some ⟨gp, 0, none⟩) 0 0, Value.int IntKind.i64 0, Value.int IntKind.i64 0, Value.int IntKind.i64 0]) := Lib.hid (by rw [hWW2, hggx]; exact Blk.new _ _ _)
  have hb : Below (W1).heap.size W1 W2 := by rw [hWW2]; exact bl_alloc (Below.refl (W1).heap.size (W1)) _
  have hgx0 : w.heap.size ≤ gx := by rw [hggx]; exact HW.out
  have hgx1 : g < gx := by have h : g < (W1).heap.size := HS.out.lt; omega
  have hgx_HZ := Nat.ne_of_lt (hggx ▸ HZ.out.lt)
  replace HS := Lib.hid (HS.out.below hb)
  replace HG := Lib.hid (grown_below HG.out hb)
  replace HP := Lib.hid (own_below HP.out hb)
  replace HZ := Lib.hid (HZ.out.below hb)
  replace HW := Lib.hid (Nat.le_trans HW.out (hb).size)
  have hn_W2 : gx + 1 = W2.heap.size := by rw [hWW2, hggx]; exact (World.size_alloc _ _).symm
  have he_gx := hn_W1.trans hggx.symm
  rw [← hWW2, hn_W1, ← hggx]
  clear hWW2 hggx hb
  refine (pick_c g _ 6 (by omega) (by omega) _ HS.out).mono ?_
  rintro e W3 ⟨r, rfl, r0, r1, hS, hg⟩
  replace HS := Lib.hid hS
  replace HG := Lib.hid (grown_trans HG.out hg)
  replace HP := Lib.hid (HP.out.kept hg (.inr (fun e => by have := own_at HP.out g e; omega)))
  replace HZ := Lib.hid (HZ.out.grown hg (by intro e; injection e; omega))
  replace HX := Lib.hid (HX.out.grown hg (by intro e; injection e; omega))
  replace HW := Lib.hid (Nat.le_trans HW.out hg.size)
  clear hS hg
  obtain ⟨rr, rfl⟩ := Int.eq_ofNat_of_zero_le r0
  have hzp : gz < gp := by omega
  have hpx : gp < gx := by omega
  have HPX : gp ≠ gx := by omega
  clear hn_W0 hn_W1 hn_W2 he_gp he_gx
  go_wp2_with fail
  go_loopw [4] (fun i wr => ∃ (kv j ga e : Nat) (xs : List Item), i = .int .i64 kv ∧ j + kv ≤ 5 ∧ ga ≠ gx ∧ Hid (xs.length = j) ∧ Hid (∀ x ∈ xs, drwI x) ∧ Hid (wr.ownsRow gp 77 3 (.slice (some ⟨ga, 0, none⟩) j e) j (flat Item.cells xs)) ∧ Hid (Blk wr gx 26 #[Value.slice (some ⟨ga, 0, none⟩) j e, Value.int IntKind.i64 0, Value.int IntKind.i64 0, Value.int IntKind.i64 0]) ∧ Hid (Src wr g (q + 2 + 6 * j)) ∧ Hid (w.grownBy wr (some g)) ∧ Hid (Blk wr gz 26 #[Value.slice none 0 0, Value.int IntKind.i64 0, Value.int IntKind.i64 0, Value.int IntKind.i64 0]) ∧ Hid (w.heap.size ≤ wr.heap.size)) (fun i _ => (intOf i).toNat)
  case atStart => exact ⟨rr, 0, gp, 0, [], rfl, by omega, HPX, Lib.hid rfl, Lib.hid (by simp), HP, HX, HS, HG, HZ, HW⟩
  case round =>
    clear HX HS HG HZ HW HP HPX
    obtain ⟨kv, j, ga, e, xs, rfl, hjk, HPX, HXL, HXS, HP, HX, HS, HG, HZ, HW⟩ := hrel
    by_cases hk : 0 < kv
    · have hk0 : (0 : Int) < (kv : Int) := by omega
      go_wp2_with fail
      have hA := arr_new wr 9 #[.string ⟨#[100, 101, 114, 98, 121]⟩, .string ⟨#[108, 97, 99, 101]⟩, .string ⟨#[119, 97, 120]⟩, .string ⟨#[115, 111, 108, 101, 45, 50]⟩]
      have hgA := HS.out.lt
      replace HS := Lib.hid (HS.out.below (bl_alloc (Below.refl _ _) (.cells #[.string ⟨#[100, 101, 114, 98, 121]⟩, .string ⟨#[108, 97, 99, 101]⟩, .string ⟨#[119, 97, 120]⟩, .string ⟨#[115, 111, 108, 101, 45, 50]⟩] 9)))
      replace HG := Lib.hid (grown_alloc HG.out (.cells #[.string ⟨#[100, 101, 114, 98, 121]⟩, .string ⟨#[108, 97, 99, 101]⟩, .string ⟨#[119, 97, 120]⟩, .string ⟨#[115, 111, 108, 101, 45, 50]⟩] 9))
      replace HP := Lib.hid (HP.out.alloc (.cells #[.string ⟨#[100, 101, 114, 98, 121]⟩, .string ⟨#[108, 97, 99, 101]⟩, .string ⟨#[119, 97, 120]⟩, .string ⟨#[115, 111, 108, 101, 45, 50]⟩] 9))
      replace HX := Lib.hid (HX.out.alloc (.cells #[.string ⟨#[100, 101, 114, 98, 121]⟩, .string ⟨#[108, 97, 99, 101]⟩, .string ⟨#[119, 97, 120]⟩, .string ⟨#[115, 111, 108, 101, 45, 50]⟩] 9))
      replace HZ := Lib.hid (HZ.out.alloc (.cells #[.string ⟨#[100, 101, 114, 98, 121]⟩, .string ⟨#[108, 97, 99, 101]⟩, .string ⟨#[119, 97, 120]⟩, .string ⟨#[115, 111, 108, 101, 45, 50]⟩] 9))
      replace HW := Lib.hid (show w.heap.size ≤ (World.alloc wr (.cells #[.string ⟨#[100, 101, 114, 98, 121]⟩, .string ⟨#[108, 97, 99, 101]⟩, .string ⟨#[119, 97, 120]⟩, .string ⟨#[115, 111, 108, 101, 45, 50]⟩] 9)).heap.size by have := HW.out; rw [World.size_alloc]; omega)
      refine (text_c g _ _ [⟨#[100, 101, 114, 98, 121]⟩, ⟨#[108, 97, 99, 101]⟩, ⟨#[119, 97, 120]⟩, ⟨#[115, 111, 108, 101, 45, 50]⟩] 4 4 (Lib.hid rfl) (by omega) (by omega) (by omega) _ HS.out hA (fun ad e => by injection e with e; subst e; simp only; omega)).mono ?_
      rintro e W4 ⟨v, hv, rfl, hS, hg⟩
      replace HS := Lib.hid hS
      replace HG := Lib.hid (grown_trans HG.out hg)
      replace HP := Lib.hid (HP.out.kept hg (.inr (fun e => by have := own_at HP.out g e; omega)))
      replace HX := Lib.hid (HX.out.grown hg (by intro e; injection e; omega))
      replace HZ := Lib.hid (HZ.out.grown hg (by intro e; injection e; omega))
      replace HW := Lib.hid (Nat.le_trans HW.out hg.size)
      clear hS hg
      have HV_v := Lib.hid hv
      clear hA hv hgA
      go_wp2_with fail
      have hvz : v.size ≤ 100 := by
        have hv := HV_v.out
        simp only [List.mem_cons, List.not_mem_nil, or_false] at hv
        rcases hv with rfl | rfl | rfl | rfl <;> decide
      clear HV_v
      have hgaW4 := own_lt HP.out ga rfl
      obtain ⟨W5, hWW5⟩ : ∃ z, z = World.alloc W4 (Obj.cells #[Value.string v, Value.int IntKind.i64 1, Value.int IntKind.i64 0] 77) := ⟨_, rfl⟩
      obtain ⟨gi, hggi⟩ : ∃ z, z = (W4).heap.size := ⟨_, rfl⟩
      have hgi_ga : ga < gi := by rw [hggi]; exact hgaW4
      clear hgaW4
      have HI : Hid (Blk W5 gi 77 #[Value.string v, Value.int IntKind.i64 1, Value.int IntKind.i64 0]) := Lib.hid (by rw [hWW5, hggi]; exact Blk.new _ _ _)
      have hb : Below (W4).heap.size W4 W5 := by rw [hWW5]; exact bl_alloc (Below.refl (W4).heap.size (W4)) _
      have hgi0 : w.heap.size ≤ gi := by rw [hggi]; exact HW.out
      have hgi1 : g < gi := by have h : g < (W4).heap.size := HS.out.lt; omega
      have hgi_HX := Nat.ne_of_lt (hggi ▸ HX.out.lt)
      have hgi_HZ := Nat.ne_of_lt (hggi ▸ HZ.out.lt)
      replace HS := Lib.hid (HS.out.below hb)
      replace HG := Lib.hid (grown_below HG.out hb)
      replace HP := Lib.hid (own_below HP.out hb)
      replace HX := Lib.hid (HX.out.below hb)
      replace HZ := Lib.hid (HZ.out.below hb)
      replace HW := Lib.hid (Nat.le_trans HW.out (hb).size)
      have hn_W5 : gi + 1 = W5.heap.size := by rw [hWW5, hggi]; exact (World.size_alloc _ _).symm
      rw [← hWW5, ← hggi]
      clear hWW5 hggi hb
      refine (pick_c g _ 4 (by omega) (by omega) _ HS.out).mono ?_
      rintro e W6 ⟨r1, rfl, r10, r11, hS, hg⟩
      replace HS := Lib.hid hS
      replace HG := Lib.hid (grown_trans HG.out hg)
      replace HP := Lib.hid (HP.out.kept hg (.inr (fun e => by have := own_at HP.out g e; omega)))
      replace HX := Lib.hid (HX.out.grown hg (by intro e; injection e; omega))
      replace HZ := Lib.hid (HZ.out.grown hg (by intro e; injection e; omega))
      replace HI := Lib.hid (HI.out.grown hg (by intro e; injection e; omega))
      replace HW := Lib.hid (Nat.le_trans HW.out hg.size)
      clear hS hg
      have k1 : W6.cell? ⟨gi, 1, none⟩ = some (.int .i64 1) := HI.out.cell 1
      have f1 := HI.out.frozen 1
      go_wp2_with fail
      clear k1 f1
      obtain ⟨W7, hW⟩ : ∃ z, z = World.setCell W6 ⟨gi, 1, none⟩ (Value.int IntKind.i64 (1 + r1)) := ⟨_, rfl⟩
      replace HI := Lib.hid (HI.out.set_ 1 (Value.int IntKind.i64 (1 + r1)))
      replace HS := Lib.hid (HS.out.far (p := ⟨gi, 1, none⟩) (by simp only; omega) (Value.int IntKind.i64 (1 + r1)))
      replace HG := Lib.hid (grown_setCell (p := ⟨gi, 1, none⟩) HG.out (.inr (by simp only; omega)) (Value.int IntKind.i64 (1 + r1)))
      replace HP := Lib.hid (own_far HP.out (p := ⟨gi, 1, none⟩) (fun k e => by have : ga = k := (by simpa [Value.ownBlock] using e); simp only; omega) (Value.int IntKind.i64 (1 + r1)))
      replace HX := Lib.hid (HX.out.far (p := ⟨gi, 1, none⟩) (by simp only; omega) (Value.int IntKind.i64 (1 + r1)))
      replace HZ := Lib.hid (HZ.out.far (p := ⟨gi, 1, none⟩) (by simp only; omega) (Value.int IntKind.i64 (1 + r1)))
      replace HW := Lib.hid (show w.heap.size ≤ (World.setCell W6 ⟨gi, 1, none⟩ (Value.int IntKind.i64 (1 + r1))).heap.size by rw [World.size_setCell]; exact HW.out)
      rw [← hW] at HS HG HW HP HX HZ HI ⊢
      clear hW
      replace HI : Hid (Blk W7 gi 77 #[Value.string v, Value.int IntKind.i64 (1 + r1), Value.int IntKind.i64 0]) := HI
      refine (pick_c g _ 900 (by omega) (by omega) _ HS.out).mono ?_
      rintro e W8 ⟨r2, rfl, r20, r21, hS, hg⟩
      replace HS := Lib.hid hS
      replace HG := Lib.hid (grown_trans HG.out hg)
      replace HP := Lib.hid (HP.out.kept hg (.inr (fun e => by have := own_at HP.out g e; omega)))
      replace HX := Lib.hid (HX.out.grown hg (by intro e; injection e; omega))
      replace HZ := Lib.hid (HZ.out.grown hg (by intro e; injection e; omega))
      replace HI := Lib.hid (HI.out.grown hg (by intro e; injection e; omega))
      replace HW := Lib.hid (Nat.le_trans HW.out hg.size)
      clear hS hg
      have k2 : W8.cell? ⟨gi, 2, none⟩ = some (.int .i64 0) := HI.out.cell 2
      have f2 := HI.out.frozen 2
      go_upto_region 8 with fail
      clear k2 f2
      obtain ⟨W9, hW⟩ : ∃ z, z = World.setCell W8 ⟨gi, 2, none⟩ (Value.int IntKind.i64 (5 * r2)) := ⟨_, rfl⟩
      replace HI := Lib.hid (HI.out.set_ 2 (Value.int IntKind.i64 (5 * r2)))
      replace HS := Lib.hid (HS.out.far (p := ⟨gi, 2, none⟩) (by simp only; omega) (Value.int IntKind.i64 (5 * r2)))
      replace HG := Lib.hid (grown_setCell (p := ⟨gi, 2, none⟩) HG.out (.inr (by simp only; omega)) (Value.int IntKind.i64 (5 * r2)))
      replace HP := Lib.hid (own_far HP.out (p := ⟨gi, 2, none⟩) (fun k e => by have : ga = k := (by simpa [Value.ownBlock] using e); simp only; omega) (Value.int IntKind.i64 (5 * r2)))
      replace HX := Lib.hid (HX.out.far (p := ⟨gi, 2, none⟩) (by simp only; omega) (Value.int IntKind.i64 (5 * r2)))
      replace HZ := Lib.hid (HZ.out.far (p := ⟨gi, 2, none⟩) (by simp only; omega) (Value.int IntKind.i64 (5 * r2)))
      replace HW := Lib.hid (show w.heap.size ≤ (World.setCell W8 ⟨gi, 2, none⟩ (Value.int IntKind.i64 (5 * r2))).heap.size by rw [World.size_setCell]; exact HW.out)
      rw [← hW] at HS HG HW HP HX HZ HI ⊢
      clear hW
      replace HI : Hid (Blk W9 gi 77 #[Value.string v, Value.int IntKind.i64 (1 + r1), Value.int IntKind.i64 (5 * r2)]) := HI
      have q0 := HI.out.cell 0
      have q1 := HI.out.cell 1
      have q2 := HI.out.cell 2
      have x0 := HX.out.cell 0
      have HPA := Lib.hid (HP.out.alloc (Obj.cells #[Value.string v, Value.int IntKind.i64 (1 + r1), Value.int IntKind.i64 (5 * r2)] 77))
      have HNB := Lib.hid (World.news_of_block (Blk.new W9 77 #[Value.string v, Value.int IntKind.i64 (1 + r1), Value.int IntKind.i64 (5 * r2)]))
      have HBS : Hid (gp ≤ (World.alloc W9 (Obj.cells #[Value.string v, Value.int IntKind.i64 (1 + r1), Value.int IntKind.i64 (5 * r2)] 77)).heap.size) := Lib.hid (by have := HX.out.lt; rw [World.size_alloc]; omega)
      have HXA := Lib.hid (HX.out.alloc (Obj.cells #[Value.string v, Value.int IntKind.i64 (1 + r1), Value.int IntKind.i64 (5 * r2)] 77))
      go_wp2_with (at_builtin; refine wpList_append_lies (w := World.alloc W9 (Obj.cells #[Value.string v, Value.int IntKind.i64 (1 + r1), Value.int IntKind.i64 (5 * r2)] 77)) rfl _ _ 24 rfl gp 77 i0 _ 3 32 Tryd.underlying24 hi0 hz0 hz1 hz2 rfl (by omega) (.slice (some ⟨ga, 0, none⟩) j e) j (flat Item.cells xs) rfl HPA.out ⟨W9.heap.size, 0, none⟩ 1 1 #[Value.string v, Value.int IntKind.i64 (1 + r1), Value.int IntKind.i64 (5 * r2)].toList rfl rfl HNB.out (by simp [Value.oneCell']) (by omega) (by unfold maxLen; omega) (by omega) HBS.out _ rfl ?_; intro g9 cap W10 hown9 hg9 hat hlt9; have hX10 := HXA.out.grown hg9 (fun e => HPX (by simpa [Value.ownBlock] using e.symm)); have y0 := hX10.cell 0; have fy := hX10.frozen 0)
      clear q0 q1 q2 x0 y0 fy hX10 HNB HXA HBS HPA
      have hxl := HX.out.lt
      have H9X : g9 ≠ gx := by
        rcases hat with h | h
        · have : ga = g9 := by simpa [Value.ownBlock] using h
          omega
        · rw [World.size_alloc] at h; omega
      clear hat
      clear HI
      replace HS := Lib.hid (HS.out.below (bl_alloc (Below.refl _ _) (.cells #[Value.string v, Value.int IntKind.i64 (1 + r1), Value.int IntKind.i64 (5 * r2)] 77)))
      replace HG := Lib.hid (grown_alloc HG.out (.cells #[Value.string v, Value.int IntKind.i64 (1 + r1), Value.int IntKind.i64 (5 * r2)] 77))
      replace HP := Lib.hid (HP.out.alloc (.cells #[Value.string v, Value.int IntKind.i64 (1 + r1), Value.int IntKind.i64 (5 * r2)] 77))
      replace HX := Lib.hid (HX.out.alloc (.cells #[Value.string v, Value.int IntKind.i64 (1 + r1), Value.int IntKind.i64 (5 * r2)] 77))
      replace HZ := Lib.hid (HZ.out.alloc (.cells #[Value.string v, Value.int IntKind.i64 (1 + r1), Value.int IntKind.i64 (5 * r2)] 77))
      replace HW := Lib.hid (show w.heap.size ≤ (World.alloc W9 (.cells #[Value.string v, Value.int IntKind.i64 (1 + r1), Value.int IntKind.i64 (5 * r2)] 77)).heap.size by have := HW.out; rw [World.size_alloc]; omega)
      replace HS := Lib.hid (HS.out.over hg9 (fun i e => by have := own_at HP.out i e; omega))
      replace HG := Lib.hid (grown_over HG.out hg9 (fun i e => by have := own_at HP.out i e; omega))
      replace HX := Lib.hid (HX.out.grown hg9 (fun e => HPX (by simpa [Value.ownBlock] using e.symm)))
      replace HZ := Lib.hid (HZ.out.grown hg9 (fun e => by have := own_at HP.out _ e.symm; omega))
      replace HW := Lib.hid (Nat.le_trans HW.out hg9.size)
      replace HP := Lib.hid hown9
      clear hown9 hg9
      obtain ⟨W11, hW⟩ : ∃ z, z = World.setCell W10 ⟨gx, 0, none⟩ (Value.slice (some ⟨g9, 0, none⟩) (j + 1) cap) := ⟨_, rfl⟩
      replace HX := Lib.hid (HX.out.set_ 0 (Value.slice (some ⟨g9, 0, none⟩) (j + 1) cap))
      replace HS := Lib.hid (HS.out.far (p := ⟨gx, 0, none⟩) (by simp only; omega) (Value.slice (some ⟨g9, 0, none⟩) (j + 1) cap))
      replace HG := Lib.hid (grown_setCell (p := ⟨gx, 0, none⟩) HG.out (.inr (by simp only; omega)) (Value.slice (some ⟨g9, 0, none⟩) (j + 1) cap))
      replace HP := Lib.hid (own_far HP.out (p := ⟨gx, 0, none⟩) (fun k e => by have : g9 = k := (by simpa [Value.ownBlock] using e); simp only; omega) (Value.slice (some ⟨g9, 0, none⟩) (j + 1) cap))
      replace HZ := Lib.hid (HZ.out.far (p := ⟨gx, 0, none⟩) (by simp only; omega) (Value.slice (some ⟨g9, 0, none⟩) (j + 1) cap))
      replace HW := Lib.hid (show w.heap.size ≤ (World.setCell W10 ⟨gx, 0, none⟩ (Value.slice (some ⟨g9, 0, none⟩) (j + 1) cap)).heap.size by rw [World.size_setCell]; exact HW.out)
      rw [← hW] at HS HG HW HP HX HZ ⊢
      clear hW
      replace HX : Hid (Blk W11 gx 26 #[Value.slice (some ⟨g9, 0, none⟩) (j + 1) cap, Value.int IntKind.i64 0, Value.int IntKind.i64 0, Value.int IntKind.i64 0]) := HX
      have e9 : flat Item.cells (xs ++ [⟨v, 1 + r1, 5 * r2⟩]) = flat Item.cells xs ++ #[Value.string v, Value.int IntKind.i64 (1 + r1), Value.int IntKind.i64 (5 * r2)].toList := by simp [flat, Item.cells]
      rw [← e9] at HP
      exact ⟨⟨kv - 1, j + 1, g9, cap, xs ++ [⟨v, 1 + r1, 5 * r2⟩], vi (by omega), by omega, H9X, Lib.hid (by rw [List.length_append, HXL.out]; rfl), Lib.hid (fun y hy => by
        rcases List.mem_append.1 hy with hy | hy
        · exact HXS.out y hy
        · have hyx : y = ⟨v, 1 + r1, 5 * r2⟩ := by simpa using hy
          subst hyx
          refine ⟨hvz, ?_, ?_, ?_, ?_⟩ <;> simp only <;> omega), HP, HX, Lib.hid (HS.out.more (by omega)), HG, HZ, HW⟩, by simp [intOf]; omega⟩
    · have hk0 : ¬ (0 : Int) < (kv : Int) := by omega
      go_wp2_with fail
      have hA := arr_new wr 2 #[.int .i64 0, .int .i64 0, .int .i64 3, .int .i64 10, .int .i64 50]
      have hgA := HS.out.lt
      replace HS := Lib.hid (HS.out.below (bl_alloc (Below.refl _ _) (.cells #[.int .i64 0, .int .i64 0, .int .i64 3, .int .i64 10, .int .i64 50] 2)))
      replace HG := Lib.hid (grown_alloc HG.out (.cells #[.int .i64 0, .int .i64 0, .int .i64 3, .int .i64 10, .int .i64 50] 2))
      replace HP := Lib.hid (HP.out.alloc (.cells #[.int .i64 0, .int .i64 0, .int .i64 3, .int .i64 10, .int .i64 50] 2))
      replace HX := Lib.hid (HX.out.alloc (.cells #[.int .i64 0, .int .i64 0, .int .i64 3, .int .i64 10, .int .i64 50] 2))
      replace HZ := Lib.hid (HZ.out.alloc (.cells #[.int .i64 0, .int .i64 0, .int .i64 3, .int .i64 10, .int .i64 50] 2))
      replace HW := Lib.hid (show w.heap.size ≤ (World.alloc wr (.cells #[.int .i64 0, .int .i64 0, .int .i64 3, .int .i64 10, .int .i64 50] 2)).heap.size by have := HW.out; rw [World.size_alloc]; omega)
      refine (among_c g _ _ [0, 0, 3, 10, 50] 5 5 (Lib.hid rfl) (by omega) (by omega) (by omega) _ HS.out hA (fun ad e => by injection e with e; subst e; simp only; omega)).mono ?_
      rintro e W4 ⟨o, hv, rfl, hS, hg⟩
      replace HS := Lib.hid hS
      replace HG := Lib.hid (grown_trans HG.out hg)
      replace HP := Lib.hid (HP.out.kept hg (.inr (fun e => by have := own_at HP.out g e; omega)))
      replace HX := Lib.hid (HX.out.grown hg (by intro e; injection e; omega))
      replace HZ := Lib.hid (HZ.out.grown hg (by intro e; injection e; omega))
      replace HW := Lib.hid (Nat.le_trans HW.out hg.size)
      clear hS hg
      have HV_o := Lib.hid hv
      clear hA hv hgA
      have ho := HV_o.out
      simp only [List.mem_cons, List.not_mem_nil, or_false] at ho
      have ho0 : 0 ≤ o ∧ o ≤ 100 := by rcases ho with rfl | rfl | rfl | rfl | rfl <;> omega
      clear ho HV_o
      have k1 : W4.cell? ⟨gx, 1, none⟩ = some (.int .i64 0) := HX.out.cell 1
      have f1 := HX.out.frozen 1
      go_upto_region 10 with fail
      clear k1 f1
      obtain ⟨W5, hW⟩ : ∃ z, z = World.setCell W4 ⟨gx, 1, none⟩ (Value.int IntKind.i64 o) := ⟨_, rfl⟩
      replace HX := Lib.hid (HX.out.set_ 1 (Value.int IntKind.i64 o))
      replace HS := Lib.hid (HS.out.far (p := ⟨gx, 1, none⟩) (by simp only; omega) (Value.int IntKind.i64 o))
      replace HG := Lib.hid (grown_setCell (p := ⟨gx, 1, none⟩) HG.out (.inr (by simp only; omega)) (Value.int IntKind.i64 o))
      replace HP := Lib.hid (own_far HP.out (p := ⟨gx, 1, none⟩) (fun k e => by have : ga = k := (by simpa [Value.ownBlock] using e); simp only; omega) (Value.int IntKind.i64 o))
      replace HZ := Lib.hid (HZ.out.far (p := ⟨gx, 1, none⟩) (by simp only; omega) (Value.int IntKind.i64 o))
      replace HW := Lib.hid (show w.heap.size ≤ (World.setCell W4 ⟨gx, 1, none⟩ (Value.int IntKind.i64 o)).heap.size by rw [World.size_setCell]; exact HW.out)
      rw [← hW] at HS HG HW HP HX HZ ⊢
      clear hW
      replace HX : Hid (Blk W5 gx 26 #[Value.slice (some ⟨ga, 0, none⟩) j e, Value.int IntKind.i64 o, Value.int IntKind.i64 0, Value.int IntKind.i64 0]) := HX
      go_wp2_with fail
      have hA := arr_new W5 2 #[.int .i64 0, .int .i64 7, .int .i64 19, .int .i64 20]
      have hgA := HS.out.lt
      replace HS := Lib.hid (HS.out.below (bl_alloc (Below.refl _ _) (.cells #[.int .i64 0, .int .i64 7, .int .i64 19, .int .i64 20] 2)))
      replace HG := Lib.hid (grown_alloc HG.out (.cells #[.int .i64 0, .int .i64 7, .int .i64 19, .int .i64 20] 2))
      replace HP := Lib.hid (HP.out.alloc (.cells #[.int .i64 0, .int .i64 7, .int .i64 19, .int .i64 20] 2))
      replace HX := Lib.hid (HX.out.alloc (.cells #[.int .i64 0, .int .i64 7, .int .i64 19, .int .i64 20] 2))
      replace HZ := Lib.hid (HZ.out.alloc (.cells #[.int .i64 0, .int .i64 7, .int .i64 19, .int .i64 20] 2))
      replace HW := Lib.hid (show w.heap.size ≤ (World.alloc W5 (.cells #[.int .i64 0, .int .i64 7, .int .i64 19, .int .i64 20] 2)).heap.size by have := HW.out; rw [World.size_alloc]; omega)
      refine (among_c g _ _ [0, 7, 19, 20] 4 4 (Lib.hid rfl) (by omega) (by omega) (by omega) _ HS.out hA (fun ad e => by injection e with e; subst e; simp only; omega)).mono ?_
      rintro e W6 ⟨t, hv, rfl, hS, hg⟩
      replace HS := Lib.hid hS
      replace HG := Lib.hid (grown_trans HG.out hg)
      replace HP := Lib.hid (HP.out.kept hg (.inr (fun e => by have := own_at HP.out g e; omega)))
      replace HX := Lib.hid (HX.out.grown hg (by intro e; injection e; omega))
      replace HZ := Lib.hid (HZ.out.grown hg (by intro e; injection e; omega))
      replace HW := Lib.hid (Nat.le_trans HW.out hg.size)
      clear hS hg
      have HV_t := Lib.hid hv
      clear hA hv hgA
      have ht := HV_t.out
      simp only [List.mem_cons, List.not_mem_nil, or_false] at ht
      have ht0 : 0 ≤ t ∧ t ≤ 100 := by rcases ht with rfl | rfl | rfl | rfl <;> omega
      clear ht HV_t
      have k2 : W6.cell? ⟨gx, 2, none⟩ = some (.int .i64 0) := HX.out.cell 2
      have f2 := HX.out.frozen 2
      go_upto_region 11 with fail
      clear k2 f2
      obtain ⟨W7, hW⟩ : ∃ z, z = World.setCell W6 ⟨gx, 2, none⟩ (Value.int IntKind.i64 t) := ⟨_, rfl⟩
      replace HX := Lib.hid (HX.out.set_ 2 (Value.int IntKind.i64 t))
      replace HS := Lib.hid (HS.out.far (p := ⟨gx, 2, none⟩) (by simp only; omega) (Value.int IntKind.i64 t))
      replace HG := Lib.hid (grown_setCell (p := ⟨gx, 2, none⟩) HG.out (.inr (by simp only; omega)) (Value.int IntKind.i64 t))
      replace HP := Lib.hid (own_far HP.out (p := ⟨gx, 2, none⟩) (fun k e => by have : ga = k := (by simpa [Value.ownBlock] using e); simp only; omega) (Value.int IntKind.i64 t))
      replace HZ := Lib.hid (HZ.out.far (p := ⟨gx, 2, none⟩) (by simp only; omega) (Value.int IntKind.i64 t))
      replace HW := Lib.hid (show w.heap.size ≤ (World.setCell W6 ⟨gx, 2, none⟩ (Value.int IntKind.i64 t)).heap.size by rw [World.size_setCell]; exact HW.out)
      rw [← hW] at HS HG HW HP HX HZ ⊢
      clear hW
      replace HX : Hid (Blk W7 gx 26 #[Value.slice (some ⟨ga, 0, none⟩) j e, Value.int IntKind.i64 o, Value.int IntKind.i64 t, Value.int IntKind.i64 0]) := HX
      have hfew : fewOk xs := ⟨by rw [HXL.out]; omega, fun x hx => (HXS.out x hx).2⟩
      have HFW := Lib.hid hfew
      obtain ⟨S, hS⟩ : ∃ z, z = sumGo xs 0 := ⟨_, rfl⟩
      have HSS := Lib.hid hS
      have hsb := sum_bd hfew
      have htb : 0 ≤ totOf S o t ∧ totOf S o t ≤ 40000000000 := by
        have n1 := net_bd (s := S) (off := o) (by omega) ho0.1 ho0.2
        have n2 := tax_bd (s := S) (off := o) (tax := t) (by omega) ho0.1 ho0.2 ht0.1 ht0.2
        unfold totOf
        omega
      clear hfew hS hsb
      go_wp2_with fail
      refine (l26Total_c gx (some ⟨ga, 0, none⟩) xs j e o t 0 HXL S HFW HSS ho0.1 ho0.2 ht0.1 ht0.2 _ HX.out (Arr.own HP.out)).mono ?_
      rintro e2 W8 ⟨rfl, hb⟩
      replace HS := Lib.hid (HS.out.below hb)
      replace HG := Lib.hid (grown_below HG.out hb)
      replace HP := Lib.hid (own_below HP.out hb)
      replace HX := Lib.hid (HX.out.below hb)
      replace HZ := Lib.hid (HZ.out.below hb)
      replace HW := Lib.hid (Nat.le_trans HW.out (hb).size)
      clear hb
      obtain ⟨T, hT⟩ : ∃ z, z = totOf S o t := ⟨_, rfl⟩
      rw [← hT] at htb ⊢
      clear hT
      go_wp2_with fail
      refine (one_c g _ 2 (by omega) (by omega) _ HS.out).mono ?_
      rintro e W9 ⟨bb, rfl, hS, hg⟩
      replace HS := Lib.hid hS
      replace HG := Lib.hid (grown_trans HG.out hg)
      replace HP := Lib.hid (HP.out.kept hg (.inr (fun e => by have := own_at HP.out g e; omega)))
      replace HX := Lib.hid (HX.out.grown hg (by intro e; injection e; omega))
      replace HZ := Lib.hid (HZ.out.grown hg (by intro e; injection e; omega))
      replace HW := Lib.hid (Nat.le_trans HW.out hg.size)
      clear hS hg
      cases bb
      · skip
        have y0 : W9.cell? ⟨gx, 0, none⟩ = some (Value.slice (some ⟨ga, 0, none⟩) j e) := HX.out.cell 0
        have y1 : W9.cell? ⟨gx, 1, none⟩ = some (Value.int IntKind.i64 o) := HX.out.cell 1
        have y2 : W9.cell? ⟨gx, 2, none⟩ = some (Value.int IntKind.i64 t) := HX.out.cell 2
        have y3 : W9.cell? ⟨gx, 3, none⟩ = some (Value.int IntKind.i64 0) := HX.out.cell 3
        have HSF := Lib.hid HS.out
        have hgr := grown_row (cs := #[Value.slice (some ⟨ga, 0, none⟩) j e, Value.int IntKind.i64 o, Value.int IntKind.i64 t, Value.int IntKind.i64 0]) HZ.out
        go_wp2_with (refine wpList_load_row rfl 26 _ rfl gx rfl 26 #[Value.slice (some ⟨ga, 0, none⟩) j e, Value.int IntKind.i64 o, Value.int IntKind.i64 t, Value.int IntKind.i64 0] (0, 0) _ HX.out Tryd.underlying26 rfl (by kernel_rfl) ?_; refine wpList_store_row rfl 26 _ _ rfl gz #[Value.slice (some ⟨ga, 0, none⟩) j e, Value.int IntKind.i64 o, Value.int IntKind.i64 t, Value.int IntKind.i64 0] rfl rfl 26 #[Value.slice none 0 0, Value.int IntKind.i64 0, Value.int IntKind.i64 0, Value.int IntKind.i64 0] HZ.out (by kernel_rfl) rfl (by simp [Value.oneCell']) ?_)
        try simp only [Exit.inBlock, Exit.then]
        refine bodyPost_ret (results_cell_row (P := Tryd.prog) rfl _ _ gz 26 #[Value.slice (some ⟨ga, 0, none⟩) j e, Value.int IntKind.i64 o, Value.int IntKind.i64 t, Value.int IntKind.i64 0] (0, 0) _ rfl ?_ Tryd.underlying26 rfl (by kernel_rfl)) rfl ?_
        · exact setRow_heap _ _ _ _ _ _ HZ.out
        · exact ⟨ga, xs, j, e, o, t, 0, rfl, HXL.out, by omega, HXS.out, ho0.1, ho0.2, ht0.1, ht0.2, own_base (HP.out.kept hgr (.inr (fun e => by have := own_at HP.out gz e; omega))) (by omega), (HSF.out.kept hgr hgz1).more (by omega), grown_over HG.out hgr (fun i e => by injection e with e; omega)⟩
      · skip
        go_wp2_with fail
        refine (pick_c g _ (T + 1) (by omega) (by omega) _ HS.out).mono ?_
        rintro e WA ⟨p, rfl, p0, p1, hS, hg⟩
        replace HS := Lib.hid hS
        replace HG := Lib.hid (grown_trans HG.out hg)
        replace HP := Lib.hid (HP.out.kept hg (.inr (fun e => by have := own_at HP.out g e; omega)))
        replace HX := Lib.hid (HX.out.grown hg (by intro e; injection e; omega))
        replace HZ := Lib.hid (HZ.out.grown hg (by intro e; injection e; omega))
        replace HW := Lib.hid (Nat.le_trans HW.out hg.size)
        clear hS hg
        have k3 : WA.cell? ⟨gx, 3, none⟩ = some (.int .i64 0) := HX.out.cell 3
        have f3 := HX.out.frozen 3
        go_upto_region 14 with fail
        clear k3 f3
        obtain ⟨WB, hW⟩ : ∃ z, z = World.setCell WA ⟨gx, 3, none⟩ (Value.int IntKind.i64 p) := ⟨_, rfl⟩
        replace HX := Lib.hid (HX.out.set_ 3 (Value.int IntKind.i64 p))
        replace HS := Lib.hid (HS.out.far (p := ⟨gx, 3, none⟩) (by simp only; omega) (Value.int IntKind.i64 p))
        replace HG := Lib.hid (grown_setCell (p := ⟨gx, 3, none⟩) HG.out (.inr (by simp only; omega)) (Value.int IntKind.i64 p))
        replace HP := Lib.hid (own_far HP.out (p := ⟨gx, 3, none⟩) (fun k e => by have : ga = k := (by simpa [Value.ownBlock] using e); simp only; omega) (Value.int IntKind.i64 p))
        replace HZ := Lib.hid (HZ.out.far (p := ⟨gx, 3, none⟩) (by simp only; omega) (Value.int IntKind.i64 p))
        replace HW := Lib.hid (show w.heap.size ≤ (World.setCell WA ⟨gx, 3, none⟩ (Value.int IntKind.i64 p)).heap.size by rw [World.size_setCell]; exact HW.out)
        rw [← hW] at HS HG HW HP HX HZ ⊢
        clear hW
        replace HX : Hid (Blk WB gx 26 #[Value.slice (some ⟨ga, 0, none⟩) j e, Value.int IntKind.i64 o, Value.int IntKind.i64 t, Value.int IntKind.i64 p]) := HX
        have y0 : WB.cell? ⟨gx, 0, none⟩ = some (Value.slice (some ⟨ga, 0, none⟩) j e) := HX.out.cell 0
        have y1 : WB.cell? ⟨gx, 1, none⟩ = some (Value.int IntKind.i64 o) := HX.out.cell 1
        have y2 : WB.cell? ⟨gx, 2, none⟩ = some (Value.int IntKind.i64 t) := HX.out.cell 2
        have y3 : WB.cell? ⟨gx, 3, none⟩ = some (Value.int IntKind.i64 p) := HX.out.cell 3
        have HSF := Lib.hid HS.out
        have hgr := grown_row (cs := #[Value.slice (some ⟨ga, 0, none⟩) j e, Value.int IntKind.i64 o, Value.int IntKind.i64 t, Value.int IntKind.i64 p]) HZ.out
        go_wp2_with (refine wpList_load_row rfl 26 _ rfl gx rfl 26 #[Value.slice (some ⟨ga, 0, none⟩) j e, Value.int IntKind.i64 o, Value.int IntKind.i64 t, Value.int IntKind.i64 p] (0, 0) _ HX.out Tryd.underlying26 rfl (by kernel_rfl) ?_; refine wpList_store_row rfl 26 _ _ rfl gz #[Value.slice (some ⟨ga, 0, none⟩) j e, Value.int IntKind.i64 o, Value.int IntKind.i64 t, Value.int IntKind.i64 p] rfl rfl 26 #[Value.slice none 0 0, Value.int IntKind.i64 0, Value.int IntKind.i64 0, Value.int IntKind.i64 0] HZ.out (by kernel_rfl) rfl (by simp [Value.oneCell']) ?_)
        try simp only [Exit.inBlock, Exit.then]
        refine bodyPost_ret (results_cell_row (P := Tryd.prog) rfl _ _ gz 26 #[Value.slice (some ⟨ga, 0, none⟩) j e, Value.int IntKind.i64 o, Value.int IntKind.i64 t, Value.int IntKind.i64 p] (0, 0) _ rfl ?_ Tryd.underlying26 rfl (by kernel_rfl)) rfl ?_
        · exact setRow_heap _ _ _ _ _ _ HZ.out
        · exact ⟨ga, xs, j, e, o, t, p, rfl, HXL.out, by omega, HXS.out, ho0.1, ho0.2, ht0.1, ht0.2, own_base (HP.out.kept hgr (.inr (fun e => by have := own_at HP.out gz e; omega))) (by omega), (HSF.out.kept hgr hgz1).more (by omega), grown_over HG.out hgr (fun i e => by injection e with e; omega)⟩
end Go.Proofs.YtnhkdcebldppmaaDoor
