/- Styles: the fields of a clause, the program's. builds (52 s). -/
import Derived.Test.YtpiehlfffjhoaaaGreatDoorQ0
import Derived.Test.YtpiehlfffjhoaaaGreatDoorQ25
namespace Go.Proofs.YtpiehlfffjhoaaaGreatDoor
open Go.RowKit
set_option maxHeartbeats 800000 in
theorem with1_c (gl : Nat) (ad : Addr) (n c k : Nat) (t : ByteArray) (hk : (k : Int) < (n : Int)) (ht : t.size ≤ 4194304) (w : World) (h0 : w.cell? ⟨gl, 0, none⟩ = some (.slice (some ad) n c)) (h1 : w.cell? (ad.add k) = some (.string t)) (hT : Tabs w) :
   Calls Tryz.prog 209 #[.int .i64 k, .pointer (some ⟨gl, 0, none⟩)] w (Ret (.int .i64 (numV t)) w) := by
 have HRD := qH (ReadDecimal_c t (by omega) w hT)
 clear hT
 have hk0 : (0 : Int) ≤ (k : Int) := by omega
 have hk1 : k < n := by omega
 obtain ⟨v, hv⟩ : ∃ z, z = numV t := ⟨_, rfl⟩
 obtain ⟨b, hb⟩ : ∃ z, z = okN t.data.toList := ⟨_, rfl⟩
 rw [← hv, ← hb] at HRD
 have HV := qH hv.symm
 clear hv hb
 go_enter Tryz.func209, Tryz.ntmps209
 go_wp2_with fail
 refine HRD.out.mono ?_
 rintro e W ⟨rfl, hb⟩
 go_wp2_with fail
 go_returns
 exact Ret.mk (vi HV.out.symm) hb
set_option maxRecDepth 100000 in
set_option maxHeartbeats 8000000 in
theorem with_c (x : Style) (s : ByteArray) (hs : s.size ≤ 4194304) (hp : Hid (prob (wrds s) = 0)) (w : World) (hT : Tabs w) : Calls Tryz.prog 139 #[.agg #[.string x.upper, .string x.color, .string x.lining, .string x.sole, .int .i64 x.thick, .int .i64 x.heel, .int .i64 x.eyelets, .int .i64 x.density, .bool x.double], .string s] w (Ret (.agg #[.string (setS x (wrds s)).upper, .string (setS x (wrds s)).color, .string (setS x (wrds s)).lining, .string (setS x (wrds s)).sole, .int .i64 (setS x (wrds s)).thick, .int .i64 (setS x (wrds s)).heel, .int .i64 (setS x (wrds s)).eyelets, .int .i64 (setS x (wrds s)).density, .bool (setS x (wrds s)).double]) w) := by
 have HT := qH hT
 clear hT
 have HPT := qH (fun y (hy : y ∈ wrds s) => Nat.le_trans (wrds_part hy) hs)
 have HSW := fun w h => SplitWords_c s hs w h
 unfold OutC at HSW
 obtain ⟨ws, hws⟩ : ∃ z, z = wrds s := ⟨_, rfl⟩
 obtain ⟨n, hn⟩ : ∃ z, z = ws.length := ⟨_, rfl⟩
 rw [← hws] at HPT HSW hp ⊢
 rw [← hn, ← flat_str] at HSW
 replace HSW := qH HSW
 have HNL := qH hn
 clear hn
 obtain ⟨W, hW⟩ : ∃ W, W = (w.alloc (Obj.cells #[.string x.upper, .string x.color, .string x.lining, .string x.sole, .int .i64 x.thick, .int .i64 x.heel, .int .i64 x.eyelets, .int .i64 x.density, .bool x.double] 30)).alloc (Obj.cells #[.string ⟨#[]⟩, .string ⟨#[]⟩, .string ⟨#[]⟩, .string ⟨#[]⟩, .int .i64 0, .int .i64 0, .int .i64 0, .int .i64 0, .bool false] 30) := ⟨_, rfl⟩
 obtain ⟨gx, hgx⟩ : ∃ g, g = w.heap.size := ⟨_, rfl⟩
 obtain ⟨gr, hgr⟩ : ∃ g, g = w.heap.size + 1 := ⟨_, rfl⟩
 have hv : Below w.heap.size w W := by rw [hW]; exact bl_alloc (bl_alloc (Below.refl _ _) _) _
 have hX : Hid (Blk W gx 30 #[.string x.upper, .string x.color, .string x.lining, .string x.sole, .int .i64 x.thick, .int .i64 x.heel, .int .i64 x.eyelets, .int .i64 x.density, .bool x.double]) := qH (by rw [hW, hgx]; exact (Blk.new _ _ _).alloc _)
 have hR : Hid (Blk W gr 30 #[.string ⟨#[]⟩, .string ⟨#[]⟩, .string ⟨#[]⟩, .string ⟨#[]⟩, .int .i64 0, .int .i64 0, .int .i64 0, .int .i64 0, .bool false]) := qH (by
   have h := Blk.new (w.alloc (Obj.cells #[.string x.upper, .string x.color, .string x.lining, .string x.sole, .int .i64 x.thick, .int .i64 x.heel, .int .i64 x.eyelets, .int .i64 x.density, .bool x.double] 30)) 30 #[Value.string ⟨#[]⟩, Value.string ⟨#[]⟩, Value.string ⟨#[]⟩, Value.string ⟨#[]⟩, Value.int .i64 0, Value.int .i64 0, Value.int .i64 0, Value.int .i64 0, Value.bool false]
   rw [World.size_alloc] at h
   rw [hW, hgr]; exact h)
 have hge : w.heap.size ≤ gr := by omega
 have hgex : w.heap.size ≤ gx := by omega
 have hxr : gx ≠ gr := by omega
 have hxl : gx + 1 < W.heap.size := by have := hR.out.lt; omega
 have hrl : gr < W.heap.size := hR.out.lt
 have HW := qH hW
 have HGX := qH hgx
 have HGR := qH hgr
 clear hW hgx hgr hws
 go_enter Tryz.func139, Tryz.ntmps139
 go_upto_region 1 with fail
 rw [← HW.out, ← HGR.out, ← HGX.out]
 clear HW HGR HGX
 go_wp2_with fail
 refine (HSW.out _ (HT.out.below hv)).mono ?_
 rintro e W2 ⟨A, c, rfl, ho, hb⟩
 have hA := qH (Arr.own ho)
 have hnw : Hid (∀ ad, A = some ad → W.heap.size ≤ ad.block) := qH (fun ad e => by subst e; exact own_at ho ad.block (by simp [Value.ownBlock]))
 replace hv := bl_trans hv hb
 replace hX := qH (hX.out.below hb)
 replace hR := qH (hR.out.below hb)
 have hwl : W.heap.size ≤ W2.heap.size := hb.size
 clear hb ho HSW
 obtain ⟨W3, hW3⟩ : ∃ z, z = W2.alloc (Obj.cells #[.slice A n c] 24) := ⟨_, rfl⟩
 obtain ⟨gl, hgl⟩ : ∃ z, z = W2.heap.size := ⟨_, rfl⟩
 have hL : Hid (Blk W3 gl 24 #[.slice A n c]) := qH (by rw [hW3, hgl]; exact Blk.new _ _ _)
 have hb : Below W2.heap.size W2 W3 := by rw [hW3]; exact bl_alloc (Below.refl _ _) _
 have hgn : gx ≠ gl := by omega
 go_upto_region 2 with fail
 rw [← hW3, ← hgl]
 replace hv := bl_trans hv hb
 replace hX := qH (hX.out.below hb)
 replace hR := qH (hR.out.below hb)
 replace hA := qH (hA.out.below hb)
 clear hb hW3 hgl hwl
 have hvT := HT.out.below hv
 have HT3 := qH hvT
 clear hvT
 rcases prob_forms hp.out with ⟨a, b, rfl, _, _⟩ | ⟨a, rfl, _⟩ | ⟨a, b, rfl, _, _⟩ | ⟨a, rfl, _⟩ | ⟨a, rfl, _⟩ | ⟨a, rfl, _⟩ | ⟨a, rfl, _⟩
 · skip
   obtain rfl : n = 3 := HNL.out
   obtain ⟨ad, had, _, c0⟩ := scell_at (k := 0) hA.out rfl
   subst had
   replace c0 : W3.cell? ad = some (.string wUpper) := c0
   have hgd : gx ≠ ad.block := by have := hnw.out ad rfl; omega
   obtain ⟨ad1, had1, _, c1⟩ := scell_at (k := 1) hA.out rfl
   injection had1 with had1
   subst had1
   replace c1 : W3.cell? ⟨ad.block, ad.off + 1, none⟩ = some (.string a) := c1
   obtain ⟨ad2, had2, _, c2⟩ := scell_at (k := 2) hA.out rfl
   injection had2 with had2
   subst had2
   replace c2 : W3.cell? ⟨ad.block, ad.off + 2, none⟩ = some (.string b) := c2
   obtain ⟨e0, e1, e2, e3, e4, e5⟩ := kind_beq kind0
   replace e0 : (wUpper.toList == [117, 112, 112, 101, 114]) = true := by simp [wUpper]
   rw [show wLining.toList = [108, 105, 110, 105, 110, 103] from by simp [wLining]] at e1
   replace e1 := e1.trans (show decide ((0 : Int) = 1) = false from by decide)
   rw [show wSole.toList = [115, 111, 108, 101] from by simp [wSole]] at e2
   replace e2 := e2.trans (show decide ((0 : Int) = 2) = false from by decide)
   rw [show wHeel.toList = [104, 101, 101, 108] from by simp [wHeel]] at e3
   replace e3 := e3.trans (show decide ((0 : Int) = 3) = false from by decide)
   rw [show wEyelets.toList = [101, 121, 101, 108, 101, 116, 115] from by simp [wEyelets]] at e4
   replace e4 := e4.trans (show decide ((0 : Int) = 4) = false from by decide)
   rw [show wStitch.toList = [115, 116, 105, 116, 99, 104] from by simp [wStitch]] at e5
   replace e5 := e5.trans (show decide ((0 : Int) = 5) = false from by decide)
   obtain ⟨t, ht⟩ : ∃ z, z = wUpper := ⟨_, rfl⟩
   rw [← ht] at c0 e0 e1 e2 e3 e4 e5
   clear ht
   have kl : W3.cell? ⟨gl, 0, none⟩ = some (.slice (some ad) 3 c) := hL.out.cell 0
   go_upto_region 5 with fail
   refine wp_region_held_drew (S := fun w' => w'.cell? ⟨gl, 0, none⟩ = some (.slice (some ad) 3 c) ∧ w'.cell? ⟨ad.block, ad.off + 1, none⟩ = some (.string a) ∧ w'.cell? ⟨ad.block, ad.off + 2, none⟩ = some (.string b)) (by as_aux_lemma => kernel_rfl) ?_ (fun hHeld => ?_)
   · exact ⟨bl_cell (Below.refl _ _).drew kl, bl_cell (Below.refl _ _).drew c1, bl_cell (Below.refl _ _).drew c2⟩
   obtain ⟨Wd, hWd⟩ : ∃ z, z = W3.drew := ⟨_, rfl⟩
   have hb : Below W3.heap.size W3 Wd := by rw [hWd]; exact (Below.refl _ _).drew
   rw [← hWd] at hHeld ⊢
   replace hv := bl_trans hv hb
   replace hX := qH (hX.out.below hb)
   replace hR := qH (hR.out.below hb)
   clear hWd hb
   refine zT 0 15 ?_ rfl ?_ (by assumption) ?_
   rotate_left
   · intro w hSw
     try dsimp only at hSw
     obtain ⟨s0, s1, s2⟩ := hSw
     go_simp
     try with_reducible rfl
   try simp only [Act.put, zA, zB, zC]
   refine zT 1 16 ?_ rfl ?_ (by assumption) ?_
   rotate_left
   · intro w hSw
     try dsimp only at hSw
     obtain ⟨s0, s1, s2⟩ := hSw
     go_simp
     try with_reducible rfl
   try simp only [Act.put, zA, zB, zC]
   refine zT 2 17 ?_ rfl ?_ (by assumption) ?_
   rotate_left
   · intro w hSw
     try dsimp only at hSw
     obtain ⟨s0, s1, s2⟩ := hSw
     go_simp
     try with_reducible rfl
   try simp only [Act.put, zA, zB, zC]
   refine zT 3 18 ?_ rfl ?_ (by assumption) ?_
   rotate_left
   · intro w hSw
     try dsimp only at hSw
     obtain ⟨s0, s1, s2⟩ := hSw
     go_simp
     try with_reducible rfl
   try simp only [Act.put, zA, zB, zC]
   refine zT 4 19 ?_ rfl ?_ (by assumption) ?_
   rotate_left
   · intro w hSw
     try dsimp only at hSw
     obtain ⟨s0, s1, s2⟩ := hSw
     go_simp
     try with_reducible rfl
   try simp only [Act.put, zA, zB, zC]
   refine zT 5 20 ?_ rfl ?_ (by assumption) ?_
   rotate_left
   · intro w hSw
     try dsimp only at hSw
     obtain ⟨s0, s1, s2⟩ := hSw
     go_simp
     try with_reducible rfl
   try simp only [Act.put, zA, zB, zC]
   refine zU 6 21 rfl (by assumption) ?_
   try simp only [Act.put, zA, zB, zC]
   refine zR 7 none rfl (fun K hK => ?_)
   have k0 : World.cell? (Wd) ⟨gx, 0, none⟩ = some (.string x.upper) := hX.out.cell 0
   have f0 := hX.out.frozen 0
   go_simp
   clear k0 f0
   obtain ⟨s0, s1, s2⟩ := hHeld
   replace hX := qH (hX.out.set_ 0 (Value.string a))
   replace hR := qH (hR.out.far (p := ⟨gx, 0, none⟩) (by exact hxr.symm) (Value.string a))
   replace hv := bl_set hv (p := ⟨gx, 0, none⟩) hgex (Value.string a)
   replace hX : Hid (Blk (World.setCell Wd ⟨gx, 0, none⟩ (Value.string a)) gx 30 #[.string a, .string x.color, .string x.lining, .string x.sole, .int .i64 x.thick, .int .i64 x.heel, .int .i64 x.eyelets, .int .i64 x.density, .bool x.double]) := hX
   refine hK.out _ _ ⟨(World.cell?_setCell_far _ ⟨gx, 0, none⟩ _ _ (by exact hgn)).trans s0, (World.cell?_setCell_far _ ⟨gx, 0, none⟩ _ _ (by exact hgd)).trans s1, (World.cell?_setCell_far _ ⟨gx, 0, none⟩ _ _ (by exact hgd)).trans s2⟩ (fun hHeld => ?_)
   clear hK K s0 s1 s2
   try simp only [Act.put]
   refine zU 8 22 rfl (by assumption) ?_
   try simp only [Act.put, zA, zB, zC]
   refine zR 9 none rfl (fun K hK => ?_)
   have k1 : World.cell? ((World.setCell Wd ⟨gx, 0, none⟩ (Value.string a))) ⟨gx, 1, none⟩ = some (.string x.color) := hX.out.cell 1
   have f1 := hX.out.frozen 1
   go_simp
   clear k1 f1
   obtain ⟨s0, s1, s2⟩ := hHeld
   replace hX := qH (hX.out.set_ 1 (Value.string b))
   replace hR := qH (hR.out.far (p := ⟨gx, 1, none⟩) (by exact hxr.symm) (Value.string b))
   replace hv := bl_set hv (p := ⟨gx, 1, none⟩) hgex (Value.string b)
   replace hX : Hid (Blk (World.setCell (World.setCell Wd ⟨gx, 0, none⟩ (Value.string a)) ⟨gx, 1, none⟩ (Value.string b)) gx 30 #[Value.string a, Value.string b, Value.string x.lining, Value.string x.sole, Value.int .i64 x.thick, Value.int .i64 x.heel, Value.int .i64 x.eyelets, Value.int .i64 x.density, Value.bool x.double]) := hX
   refine hK.out _ _ ⟨(World.cell?_setCell_far _ ⟨gx, 1, none⟩ _ _ (by exact hgn)).trans s0, (World.cell?_setCell_far _ ⟨gx, 1, none⟩ _ _ (by exact hgd)).trans s1, (World.cell?_setCell_far _ ⟨gx, 1, none⟩ _ _ (by exact hgd)).trans s2⟩ (fun hHeld => ?_)
   clear hK K s0 s1 s2
   try simp only [Act.put]
   refine wpAnyH_done (by as_aux_lemma => kernel_rfl) ?_ _
   clear hHeld
   go_upto_region 16 with fail
   obtain ⟨W9, hW9⟩ : ∃ z, z = (World.setCell (World.setCell Wd ⟨gx, 0, none⟩ (Value.string a)) ⟨gx, 1, none⟩ (Value.string b)) := ⟨_, rfl⟩
   rw [← hW9] at hX hR hv ⊢
   clear hW9
   go_wp2_with (refine wpList_load_row rfl 30 _ rfl gx rfl 30 _ (0, 0) _ hX.out Tryz.underlying30 rfl (by kernel_rfl) ?_; refine wpList_store_row rfl 30 _ _ rfl gr #[.string a, .string b, .string x.lining, .string x.sole, .int .i64 x.thick, .int .i64 x.heel, .int .i64 x.eyelets, .int .i64 x.density, .bool x.double] rfl rfl 30 _ hR.out (by kernel_rfl) rfl (by simp [Value.oneCell']) ?_)
   refine bodyPost_ret (results_cell_row (P := Tryz.prog) rfl _ _ gr 30 #[Value.string a, Value.string b, Value.string x.lining, Value.string x.sole, Value.int .i64 x.thick, Value.int .i64 x.heel, Value.int .i64 x.eyelets, Value.int .i64 x.density, Value.bool x.double] (0, 0) _ rfl ?_ Tryz.underlying30 rfl (by kernel_rfl)) rfl ?_
   · exact setRow_heap _ _ _ _ _ _ hR.out
   · exact Ret.mk (by rw [set_upper]) (below_rowX hv hge _)
 · skip
   obtain rfl : n = 2 := HNL.out
   obtain ⟨ad, had, _, c0⟩ := scell_at (k := 0) hA.out rfl
   subst had
   replace c0 : W3.cell? ad = some (.string wLining) := c0
   have hgd : gx ≠ ad.block := by have := hnw.out ad rfl; omega
   obtain ⟨ad1, had1, _, c1⟩ := scell_at (k := 1) hA.out rfl
   injection had1 with had1
   subst had1
   replace c1 : W3.cell? ⟨ad.block, ad.off + 1, none⟩ = some (.string a) := c1
   obtain ⟨e0, e1, e2, e3, e4, e5⟩ := kind_beq kind1
   rw [show wUpper.toList = [117, 112, 112, 101, 114] from by simp [wUpper]] at e0
   replace e0 := e0.trans (show decide ((1 : Int) = 0) = false from by decide)
   replace e1 : (wLining.toList == [108, 105, 110, 105, 110, 103]) = true := by simp [wLining]
   rw [show wSole.toList = [115, 111, 108, 101] from by simp [wSole]] at e2
   replace e2 := e2.trans (show decide ((1 : Int) = 2) = false from by decide)
   rw [show wHeel.toList = [104, 101, 101, 108] from by simp [wHeel]] at e3
   replace e3 := e3.trans (show decide ((1 : Int) = 3) = false from by decide)
   rw [show wEyelets.toList = [101, 121, 101, 108, 101, 116, 115] from by simp [wEyelets]] at e4
   replace e4 := e4.trans (show decide ((1 : Int) = 4) = false from by decide)
   rw [show wStitch.toList = [115, 116, 105, 116, 99, 104] from by simp [wStitch]] at e5
   replace e5 := e5.trans (show decide ((1 : Int) = 5) = false from by decide)
   obtain ⟨t, ht⟩ : ∃ z, z = wLining := ⟨_, rfl⟩
   rw [← ht] at c0 e0 e1 e2 e3 e4 e5
   clear ht
   have kl : W3.cell? ⟨gl, 0, none⟩ = some (.slice (some ad) 2 c) := hL.out.cell 0
   have k2 : World.cell? (W3) ⟨gx, 2, none⟩ = some (.string x.lining) := hX.out.cell 2
   have f2 := hX.out.frozen 2
   go_upto_region 16 with fail
   replace hX := qH (hX.out.set_ 2 (Value.string a))
   replace hR := qH (hR.out.far (p := ⟨gx, 2, none⟩) (by exact hxr.symm) (Value.string a))
   replace hv := bl_set hv (p := ⟨gx, 2, none⟩) hgex (Value.string a)
   replace hX : Hid (Blk (World.setCell W3 ⟨gx, 2, none⟩ (Value.string a)) gx 30 #[.string x.upper, .string x.color, .string a, .string x.sole, .int .i64 x.thick, .int .i64 x.heel, .int .i64 x.eyelets, .int .i64 x.density, .bool x.double]) := hX
   obtain ⟨W9, hW9⟩ : ∃ z, z = (World.setCell W3 ⟨gx, 2, none⟩ (Value.string a)) := ⟨_, rfl⟩
   rw [← hW9] at hX hR hv ⊢
   clear hW9
   go_wp2_with (refine wpList_load_row rfl 30 _ rfl gx rfl 30 _ (0, 0) _ hX.out Tryz.underlying30 rfl (by kernel_rfl) ?_; refine wpList_store_row rfl 30 _ _ rfl gr #[.string x.upper, .string x.color, .string a, .string x.sole, .int .i64 x.thick, .int .i64 x.heel, .int .i64 x.eyelets, .int .i64 x.density, .bool x.double] rfl rfl 30 _ hR.out (by kernel_rfl) rfl (by simp [Value.oneCell']) ?_)
   refine bodyPost_ret (results_cell_row (P := Tryz.prog) rfl _ _ gr 30 #[Value.string x.upper, Value.string x.color, Value.string a, Value.string x.sole, Value.int .i64 x.thick, Value.int .i64 x.heel, Value.int .i64 x.eyelets, Value.int .i64 x.density, Value.bool x.double] (0, 0) _ rfl ?_ Tryz.underlying30 rfl (by kernel_rfl)) rfl ?_
   · exact setRow_heap _ _ _ _ _ _ hR.out
   · exact Ret.mk (by rw [set_lining]) (below_rowX hv hge _)
 · skip
   obtain rfl : n = 3 := HNL.out
   obtain ⟨ad, had, _, c0⟩ := scell_at (k := 0) hA.out rfl
   subst had
   replace c0 : W3.cell? ad = some (.string wSole) := c0
   have hgd : gx ≠ ad.block := by have := hnw.out ad rfl; omega
   obtain ⟨ad1, had1, _, c1⟩ := scell_at (k := 1) hA.out rfl
   injection had1 with had1
   subst had1
   replace c1 : W3.cell? ⟨ad.block, ad.off + 1, none⟩ = some (.string a) := c1
   obtain ⟨ad2, had2, _, c2⟩ := scell_at (k := 2) hA.out rfl
   injection had2 with had2
   subst had2
   replace c2 : W3.cell? ⟨ad.block, ad.off + 2, none⟩ = some (.string b) := c2
   obtain ⟨e0, e1, e2, e3, e4, e5⟩ := kind_beq kind2
   rw [show wUpper.toList = [117, 112, 112, 101, 114] from by simp [wUpper]] at e0
   replace e0 := e0.trans (show decide ((2 : Int) = 0) = false from by decide)
   rw [show wLining.toList = [108, 105, 110, 105, 110, 103] from by simp [wLining]] at e1
   replace e1 := e1.trans (show decide ((2 : Int) = 1) = false from by decide)
   replace e2 : (wSole.toList == [115, 111, 108, 101]) = true := by simp [wSole]
   rw [show wHeel.toList = [104, 101, 101, 108] from by simp [wHeel]] at e3
   replace e3 := e3.trans (show decide ((2 : Int) = 3) = false from by decide)
   rw [show wEyelets.toList = [101, 121, 101, 108, 101, 116, 115] from by simp [wEyelets]] at e4
   replace e4 := e4.trans (show decide ((2 : Int) = 4) = false from by decide)
   rw [show wStitch.toList = [115, 116, 105, 116, 99, 104] from by simp [wStitch]] at e5
   replace e5 := e5.trans (show decide ((2 : Int) = 5) = false from by decide)
   obtain ⟨t, ht⟩ : ∃ z, z = wSole := ⟨_, rfl⟩
   rw [← ht] at c0 e0 e1 e2 e3 e4 e5
   clear ht
   have kl : W3.cell? ⟨gl, 0, none⟩ = some (.slice (some ad) 3 c) := hL.out.cell 0
   have HN := fun w h0 h1 h2 => with1_c gl ad 3 c 2 b (by omega) (HPT.out b (by simp)) w h0 h1 h2
   obtain ⟨v, hvv⟩ : ∃ z, z = numV b := ⟨_, rfl⟩
   rw [← hvv] at HN
   replace HN := qH HN
   have HV := qH hvv.symm
   clear hvv
   go_upto_region 9 with fail
   refine wp_region_held_drew (S := fun w' => w'.cell? ⟨gl, 0, none⟩ = some (.slice (some ad) 3 c) ∧ w'.cell? ⟨ad.block, ad.off + 1, none⟩ = some (.string a) ∧ w'.cell? ⟨ad.block, ad.off + 2, none⟩ = some (.string b)) (by as_aux_lemma => kernel_rfl) ?_ (fun hHeld => ?_)
   · exact ⟨bl_cell (Below.refl _ _).drew kl, bl_cell (Below.refl _ _).drew c1, bl_cell (Below.refl _ _).drew c2⟩
   obtain ⟨Wd, hWd⟩ : ∃ z, z = W3.drew := ⟨_, rfl⟩
   have hb : Below W3.heap.size W3 Wd := by rw [hWd]; exact (Below.refl _ _).drew
   rw [← hWd] at hHeld ⊢
   replace hv := bl_trans hv hb
   replace hX := qH (hX.out.below hb)
   replace hR := qH (hR.out.below hb)
   clear hWd hb
   refine zT 0 31 ?_ rfl ?_ (by assumption) ?_
   rotate_left
   · intro w hSw
     try dsimp only at hSw
     obtain ⟨s0, s1, s2⟩ := hSw
     go_simp
     try with_reducible rfl
   try simp only [Act.put, zA, zB, zC]
   refine zT 1 32 ?_ rfl ?_ (by assumption) ?_
   rotate_left
   · intro w hSw
     try dsimp only at hSw
     obtain ⟨s0, s1, s2⟩ := hSw
     go_simp
     try with_reducible rfl
   try simp only [Act.put, zA, zB, zC]
   refine zT 2 33 ?_ rfl ?_ (by assumption) ?_
   rotate_left
   · intro w hSw
     try dsimp only at hSw
     obtain ⟨s0, s1, s2⟩ := hSw
     go_simp
     try with_reducible rfl
   try simp only [Act.put, zA, zB, zC]
   refine zT 3 34 ?_ rfl ?_ (by assumption) ?_
   rotate_left
   · intro w hSw
     try dsimp only at hSw
     obtain ⟨s0, s1, s2⟩ := hSw
     go_simp
     try with_reducible rfl
   try simp only [Act.put, zA, zB, zC]
   refine zU 5 36 rfl (by assumption) ?_
   try simp only [Act.put, zA, zB, zC]
   refine zR 4 (some 35) rfl (fun K hK => ?_)
   go_simp
   obtain ⟨s0, s1, s2⟩ := hHeld
   refine (HN.out _ s0 s2 (HT.out.below hv)).mono ?_
   rintro e W4 ⟨rfl, hb⟩
   replace hv := bl_trans hv hb
   replace hX := qH (hX.out.below hb)
   replace hR := qH (hR.out.below hb)
   go_wp2_with fail
   refine hK.out _ _ ⟨bl_cell hb s0, bl_cell hb s1, bl_cell hb s2⟩ (fun hHeld => ?_)
   clear hK K hb s0 s1 s2
   try simp only [Act.put, zA, zB, zC]
   refine zR 6 none rfl (fun K hK => ?_)
   have k3 : World.cell? (W4) ⟨gx, 3, none⟩ = some (.string x.sole) := hX.out.cell 3
   have f3 := hX.out.frozen 3
   go_simp
   clear k3 f3
   obtain ⟨s0, s1, s2⟩ := hHeld
   replace hX := qH (hX.out.set_ 3 (Value.string a))
   replace hR := qH (hR.out.far (p := ⟨gx, 3, none⟩) (by exact hxr.symm) (Value.string a))
   replace hv := bl_set hv (p := ⟨gx, 3, none⟩) hgex (Value.string a)
   replace hX : Hid (Blk (World.setCell W4 ⟨gx, 3, none⟩ (Value.string a)) gx 30 #[.string x.upper, .string x.color, .string x.lining, .string a, .int .i64 x.thick, .int .i64 x.heel, .int .i64 x.eyelets, .int .i64 x.density, .bool x.double]) := hX
   refine hK.out _ _ ⟨(World.cell?_setCell_far _ ⟨gx, 3, none⟩ _ _ (by exact hgn)).trans s0, (World.cell?_setCell_far _ ⟨gx, 3, none⟩ _ _ (by exact hgd)).trans s1, (World.cell?_setCell_far _ ⟨gx, 3, none⟩ _ _ (by exact hgd)).trans s2⟩ (fun hHeld => ?_)
   clear hK K s0 s1 s2
   try simp only [Act.put]
   refine zU 7 37 rfl (by assumption) ?_
   try simp only [Act.put, zA, zB, zC]
   refine zR 8 none rfl (fun K hK => ?_)
   have k4 : World.cell? ((World.setCell W4 ⟨gx, 3, none⟩ (Value.string a))) ⟨gx, 4, none⟩ = some (.int .i64 x.thick) := hX.out.cell 4
   have f4 := hX.out.frozen 4
   go_simp
   clear k4 f4
   obtain ⟨s0, s1, s2⟩ := hHeld
   replace hX := qH (hX.out.set_ 4 (Value.int .i64 v))
   replace hR := qH (hR.out.far (p := ⟨gx, 4, none⟩) (by exact hxr.symm) (Value.int .i64 v))
   replace hv := bl_set hv (p := ⟨gx, 4, none⟩) hgex (Value.int .i64 v)
   replace hX : Hid (Blk (World.setCell (World.setCell W4 ⟨gx, 3, none⟩ (Value.string a)) ⟨gx, 4, none⟩ (Value.int .i64 v)) gx 30 #[Value.string x.upper, Value.string x.color, Value.string x.lining, Value.string a, Value.int .i64 v, Value.int .i64 x.heel, Value.int .i64 x.eyelets, Value.int .i64 x.density, Value.bool x.double]) := hX
   refine hK.out _ _ ⟨(World.cell?_setCell_far _ ⟨gx, 4, none⟩ _ _ (by exact hgn)).trans s0, (World.cell?_setCell_far _ ⟨gx, 4, none⟩ _ _ (by exact hgd)).trans s1, (World.cell?_setCell_far _ ⟨gx, 4, none⟩ _ _ (by exact hgd)).trans s2⟩ (fun hHeld => ?_)
   clear hK K s0 s1 s2
   try simp only [Act.put]
   refine wpAnyH_done (by as_aux_lemma => kernel_rfl) ?_ _
   clear hHeld
   go_upto_region 16 with fail
   obtain ⟨W9, hW9⟩ : ∃ z, z = (World.setCell (World.setCell W4 ⟨gx, 3, none⟩ (Value.string a)) ⟨gx, 4, none⟩ (Value.int .i64 v)) := ⟨_, rfl⟩
   rw [← hW9] at hX hR hv ⊢
   clear hW9
   go_wp2_with (refine wpList_load_row rfl 30 _ rfl gx rfl 30 _ (0, 0) _ hX.out Tryz.underlying30 rfl (by kernel_rfl) ?_; refine wpList_store_row rfl 30 _ _ rfl gr #[.string x.upper, .string x.color, .string x.lining, .string a, .int .i64 v, .int .i64 x.heel, .int .i64 x.eyelets, .int .i64 x.density, .bool x.double] rfl rfl 30 _ hR.out (by kernel_rfl) rfl (by simp [Value.oneCell']) ?_)
   refine bodyPost_ret (results_cell_row (P := Tryz.prog) rfl _ _ gr 30 #[Value.string x.upper, Value.string x.color, Value.string x.lining, Value.string a, Value.int .i64 v, Value.int .i64 x.heel, Value.int .i64 x.eyelets, Value.int .i64 x.density, Value.bool x.double] (0, 0) _ rfl ?_ Tryz.underlying30 rfl (by kernel_rfl)) rfl ?_
   · exact setRow_heap _ _ _ _ _ _ hR.out
   · exact Ret.mk (by rw [set_sole, HV.out]) (below_rowX hv hge _)
 · skip
   obtain rfl : n = 2 := HNL.out
   obtain ⟨ad, had, _, c0⟩ := scell_at (k := 0) hA.out rfl
   subst had
   replace c0 : W3.cell? ad = some (.string wHeel) := c0
   have hgd : gx ≠ ad.block := by have := hnw.out ad rfl; omega
   obtain ⟨ad1, had1, _, c1⟩ := scell_at (k := 1) hA.out rfl
   injection had1 with had1
   subst had1
   replace c1 : W3.cell? ⟨ad.block, ad.off + 1, none⟩ = some (.string a) := c1
   obtain ⟨e0, e1, e2, e3, e4, e5⟩ := kind_beq kind3
   rw [show wUpper.toList = [117, 112, 112, 101, 114] from by simp [wUpper]] at e0
   replace e0 := e0.trans (show decide ((3 : Int) = 0) = false from by decide)
   rw [show wLining.toList = [108, 105, 110, 105, 110, 103] from by simp [wLining]] at e1
   replace e1 := e1.trans (show decide ((3 : Int) = 1) = false from by decide)
   rw [show wSole.toList = [115, 111, 108, 101] from by simp [wSole]] at e2
   replace e2 := e2.trans (show decide ((3 : Int) = 2) = false from by decide)
   replace e3 : (wHeel.toList == [104, 101, 101, 108]) = true := by simp [wHeel]
   rw [show wEyelets.toList = [101, 121, 101, 108, 101, 116, 115] from by simp [wEyelets]] at e4
   replace e4 := e4.trans (show decide ((3 : Int) = 4) = false from by decide)
   rw [show wStitch.toList = [115, 116, 105, 116, 99, 104] from by simp [wStitch]] at e5
   replace e5 := e5.trans (show decide ((3 : Int) = 5) = false from by decide)
   obtain ⟨t, ht⟩ : ∃ z, z = wHeel := ⟨_, rfl⟩
   rw [← ht] at c0 e0 e1 e2 e3 e4 e5
   clear ht
   have kl : W3.cell? ⟨gl, 0, none⟩ = some (.slice (some ad) 2 c) := hL.out.cell 0
   have HN := fun w h0 h1 h2 => with1_c gl ad 2 c 1 a (by omega) (HPT.out a (by simp)) w h0 h1 h2
   obtain ⟨v, hvv⟩ : ∃ z, z = numV a := ⟨_, rfl⟩
   rw [← hvv] at HN
   replace HN := qH HN
   have HV := qH hvv.symm
   clear hvv
   go_wp2_with fail
   refine (HN.out _ kl c1 HT3.out).mono ?_
   rintro e W4 ⟨rfl, hb⟩
   replace hv := bl_trans hv hb
   replace hX := qH (hX.out.below hb)
   replace hR := qH (hR.out.below hb)
   clear hb
   have k5 : World.cell? (W4) ⟨gx, 5, none⟩ = some (.int .i64 x.heel) := hX.out.cell 5
   have f5 := hX.out.frozen 5
   go_upto_region 16 with fail
   replace hX := qH (hX.out.set_ 5 (Value.int .i64 v))
   replace hR := qH (hR.out.far (p := ⟨gx, 5, none⟩) (by exact hxr.symm) (Value.int .i64 v))
   replace hv := bl_set hv (p := ⟨gx, 5, none⟩) hgex (Value.int .i64 v)
   replace hX : Hid (Blk (World.setCell W4 ⟨gx, 5, none⟩ (Value.int .i64 v)) gx 30 #[.string x.upper, .string x.color, .string x.lining, .string x.sole, .int .i64 x.thick, .int .i64 v, .int .i64 x.eyelets, .int .i64 x.density, .bool x.double]) := hX
   obtain ⟨W9, hW9⟩ : ∃ z, z = (World.setCell W4 ⟨gx, 5, none⟩ (Value.int .i64 v)) := ⟨_, rfl⟩
   rw [← hW9] at hX hR hv ⊢
   clear hW9
   go_wp2_with (refine wpList_load_row rfl 30 _ rfl gx rfl 30 _ (0, 0) _ hX.out Tryz.underlying30 rfl (by kernel_rfl) ?_; refine wpList_store_row rfl 30 _ _ rfl gr #[.string x.upper, .string x.color, .string x.lining, .string x.sole, .int .i64 x.thick, .int .i64 v, .int .i64 x.eyelets, .int .i64 x.density, .bool x.double] rfl rfl 30 _ hR.out (by kernel_rfl) rfl (by simp [Value.oneCell']) ?_)
   refine bodyPost_ret (results_cell_row (P := Tryz.prog) rfl _ _ gr 30 #[Value.string x.upper, Value.string x.color, Value.string x.lining, Value.string x.sole, Value.int .i64 x.thick, Value.int .i64 v, Value.int .i64 x.eyelets, Value.int .i64 x.density, Value.bool x.double] (0, 0) _ rfl ?_ Tryz.underlying30 rfl (by kernel_rfl)) rfl ?_
   · exact setRow_heap _ _ _ _ _ _ hR.out
   · exact Ret.mk (by rw [set_heel, HV.out]) (below_rowX hv hge _)
 · skip
   obtain rfl : n = 2 := HNL.out
   obtain ⟨ad, had, _, c0⟩ := scell_at (k := 0) hA.out rfl
   subst had
   replace c0 : W3.cell? ad = some (.string wEyelets) := c0
   have hgd : gx ≠ ad.block := by have := hnw.out ad rfl; omega
   obtain ⟨ad1, had1, _, c1⟩ := scell_at (k := 1) hA.out rfl
   injection had1 with had1
   subst had1
   replace c1 : W3.cell? ⟨ad.block, ad.off + 1, none⟩ = some (.string a) := c1
   obtain ⟨e0, e1, e2, e3, e4, e5⟩ := kind_beq kind4
   rw [show wUpper.toList = [117, 112, 112, 101, 114] from by simp [wUpper]] at e0
   replace e0 := e0.trans (show decide ((4 : Int) = 0) = false from by decide)
   rw [show wLining.toList = [108, 105, 110, 105, 110, 103] from by simp [wLining]] at e1
   replace e1 := e1.trans (show decide ((4 : Int) = 1) = false from by decide)
   rw [show wSole.toList = [115, 111, 108, 101] from by simp [wSole]] at e2
   replace e2 := e2.trans (show decide ((4 : Int) = 2) = false from by decide)
   rw [show wHeel.toList = [104, 101, 101, 108] from by simp [wHeel]] at e3
   replace e3 := e3.trans (show decide ((4 : Int) = 3) = false from by decide)
   replace e4 : (wEyelets.toList == [101, 121, 101, 108, 101, 116, 115]) = true := by simp [wEyelets]
   rw [show wStitch.toList = [115, 116, 105, 116, 99, 104] from by simp [wStitch]] at e5
   replace e5 := e5.trans (show decide ((4 : Int) = 5) = false from by decide)
   obtain ⟨t, ht⟩ : ∃ z, z = wEyelets := ⟨_, rfl⟩
   rw [← ht] at c0 e0 e1 e2 e3 e4 e5
   clear ht
   have kl : W3.cell? ⟨gl, 0, none⟩ = some (.slice (some ad) 2 c) := hL.out.cell 0
   have HN := fun w h0 h1 h2 => with1_c gl ad 2 c 1 a (by omega) (HPT.out a (by simp)) w h0 h1 h2
   obtain ⟨v, hvv⟩ : ∃ z, z = numV a := ⟨_, rfl⟩
   rw [← hvv] at HN
   replace HN := qH HN
   have HV := qH hvv.symm
   clear hvv
   go_wp2_with fail
   refine (HN.out _ kl c1 HT3.out).mono ?_
   rintro e W4 ⟨rfl, hb⟩
   replace hv := bl_trans hv hb
   replace hX := qH (hX.out.below hb)
   replace hR := qH (hR.out.below hb)
   clear hb
   have k6 : World.cell? (W4) ⟨gx, 6, none⟩ = some (.int .i64 x.eyelets) := hX.out.cell 6
   have f6 := hX.out.frozen 6
   go_upto_region 16 with fail
   replace hX := qH (hX.out.set_ 6 (Value.int .i64 v))
   replace hR := qH (hR.out.far (p := ⟨gx, 6, none⟩) (by exact hxr.symm) (Value.int .i64 v))
   replace hv := bl_set hv (p := ⟨gx, 6, none⟩) hgex (Value.int .i64 v)
   replace hX : Hid (Blk (World.setCell W4 ⟨gx, 6, none⟩ (Value.int .i64 v)) gx 30 #[.string x.upper, .string x.color, .string x.lining, .string x.sole, .int .i64 x.thick, .int .i64 x.heel, .int .i64 v, .int .i64 x.density, .bool x.double]) := hX
   obtain ⟨W9, hW9⟩ : ∃ z, z = (World.setCell W4 ⟨gx, 6, none⟩ (Value.int .i64 v)) := ⟨_, rfl⟩
   rw [← hW9] at hX hR hv ⊢
   clear hW9
   go_wp2_with (refine wpList_load_row rfl 30 _ rfl gx rfl 30 _ (0, 0) _ hX.out Tryz.underlying30 rfl (by kernel_rfl) ?_; refine wpList_store_row rfl 30 _ _ rfl gr #[.string x.upper, .string x.color, .string x.lining, .string x.sole, .int .i64 x.thick, .int .i64 x.heel, .int .i64 v, .int .i64 x.density, .bool x.double] rfl rfl 30 _ hR.out (by kernel_rfl) rfl (by simp [Value.oneCell']) ?_)
   refine bodyPost_ret (results_cell_row (P := Tryz.prog) rfl _ _ gr 30 #[Value.string x.upper, Value.string x.color, Value.string x.lining, Value.string x.sole, Value.int .i64 x.thick, Value.int .i64 x.heel, Value.int .i64 v, Value.int .i64 x.density, Value.bool x.double] (0, 0) _ rfl ?_ Tryz.underlying30 rfl (by kernel_rfl)) rfl ?_
   · exact setRow_heap _ _ _ _ _ _ hR.out
   · exact Ret.mk (by rw [set_eyelets, HV.out]) (below_rowX hv hge _)
 · skip
   obtain rfl : n = 2 := HNL.out
   obtain ⟨ad, had, _, c0⟩ := scell_at (k := 0) hA.out rfl
   subst had
   replace c0 : W3.cell? ad = some (.string wStitch) := c0
   have hgd : gx ≠ ad.block := by have := hnw.out ad rfl; omega
   obtain ⟨ad1, had1, _, c1⟩ := scell_at (k := 1) hA.out rfl
   injection had1 with had1
   subst had1
   replace c1 : W3.cell? ⟨ad.block, ad.off + 1, none⟩ = some (.string a) := c1
   obtain ⟨e0, e1, e2, e3, e4, e5⟩ := kind_beq kind5
   rw [show wUpper.toList = [117, 112, 112, 101, 114] from by simp [wUpper]] at e0
   replace e0 := e0.trans (show decide ((5 : Int) = 0) = false from by decide)
   rw [show wLining.toList = [108, 105, 110, 105, 110, 103] from by simp [wLining]] at e1
   replace e1 := e1.trans (show decide ((5 : Int) = 1) = false from by decide)
   rw [show wSole.toList = [115, 111, 108, 101] from by simp [wSole]] at e2
   replace e2 := e2.trans (show decide ((5 : Int) = 2) = false from by decide)
   rw [show wHeel.toList = [104, 101, 101, 108] from by simp [wHeel]] at e3
   replace e3 := e3.trans (show decide ((5 : Int) = 3) = false from by decide)
   rw [show wEyelets.toList = [101, 121, 101, 108, 101, 116, 115] from by simp [wEyelets]] at e4
   replace e4 := e4.trans (show decide ((5 : Int) = 4) = false from by decide)
   replace e5 : (wStitch.toList == [115, 116, 105, 116, 99, 104]) = true := by simp [wStitch]
   obtain ⟨t, ht⟩ : ∃ z, z = wStitch := ⟨_, rfl⟩
   rw [← ht] at c0 e0 e1 e2 e3 e4 e5
   clear ht
   have kl : W3.cell? ⟨gl, 0, none⟩ = some (.slice (some ad) 2 c) := hL.out.cell 0
   have HN := fun w h0 h1 h2 => with1_c gl ad 2 c 1 a (by omega) (HPT.out a (by simp)) w h0 h1 h2
   obtain ⟨v, hvv⟩ : ∃ z, z = numV a := ⟨_, rfl⟩
   rw [← hvv] at HN
   replace HN := qH HN
   have HV := qH hvv.symm
   clear hvv
   go_upto_region 15 with fail
   refine wp_region_held_drew (S := fun w' => w'.cell? ⟨gl, 0, none⟩ = some (.slice (some ad) 2 c) ∧ w'.cell? ⟨ad.block, ad.off + 1, none⟩ = some (.string a)) (by as_aux_lemma => kernel_rfl) ?_ (fun hHeld => ?_)
   · exact ⟨bl_cell (Below.refl _ _).drew kl, bl_cell (Below.refl _ _).drew c1⟩
   obtain ⟨Wd, hWd⟩ : ∃ z, z = W3.drew := ⟨_, rfl⟩
   have hb : Below W3.heap.size W3 Wd := by rw [hWd]; exact (Below.refl _ _).drew
   rw [← hWd] at hHeld ⊢
   replace hv := bl_trans hv hb
   replace hX := qH (hX.out.below hb)
   replace hR := qH (hR.out.below hb)
   clear hWd hb
   refine zT 0 50 ?_ rfl ?_ (by assumption) ?_
   rotate_left
   · intro w hSw
     try dsimp only at hSw
     obtain ⟨s0, s1⟩ := hSw
     go_simp
     try with_reducible rfl
   try simp only [Act.put, zA, zB, zC]
   refine zT 2 52 ?_ rfl ?_ (by assumption) ?_
   rotate_left
   · intro w hSw
     try dsimp only at hSw
     obtain ⟨s0, s1⟩ := hSw
     go_simp
     try with_reducible rfl
   try simp only [Act.put, zA, zB, zC]
   refine zT 3 53 ?_ rfl ?_ (by assumption) ?_
   rotate_left
   · intro w hSw
     try dsimp only at hSw
     obtain ⟨s0, s1⟩ := hSw
     go_simp
     try with_reducible rfl
   try simp only [Act.put, zA, zB, zC]
   refine zT 4 54 ?_ rfl ?_ (by assumption) ?_
   rotate_left
   · intro w hSw
     try dsimp only at hSw
     obtain ⟨s0, s1⟩ := hSw
     go_simp
     try with_reducible rfl
     try simp
   try simp only [Act.put, zA, zB, zC]
   refine zR 1 (some 51) rfl (fun K hK => ?_)
   go_simp
   obtain ⟨s0, s1⟩ := hHeld
   refine (HN.out _ s0 s1 (HT.out.below hv)).mono ?_
   rintro e W4 ⟨rfl, hb⟩
   replace hv := bl_trans hv hb
   replace hX := qH (hX.out.below hb)
   replace hR := qH (hR.out.below hb)
   go_wp2_with fail
   refine hK.out _ _ ⟨bl_cell hb s0, bl_cell hb s1⟩ (fun hHeld => ?_)
   clear hK K hb s0 s1
   try simp only [Act.put, zA, zB, zC]
   refine zU 5 55 rfl (by assumption) ?_
   try simp only [Act.put, zA, zB, zC]
   refine zR 6 none rfl (fun K hK => ?_)
   have k7 : World.cell? (W4) ⟨gx, 7, none⟩ = some (.int .i64 x.density) := hX.out.cell 7
   have f7 := hX.out.frozen 7
   go_simp
   clear k7 f7
   obtain ⟨s0, s1⟩ := hHeld
   replace hX := qH (hX.out.set_ 7 (Value.int .i64 v))
   replace hR := qH (hR.out.far (p := ⟨gx, 7, none⟩) (by exact hxr.symm) (Value.int .i64 v))
   replace hv := bl_set hv (p := ⟨gx, 7, none⟩) hgex (Value.int .i64 v)
   replace hX : Hid (Blk (World.setCell W4 ⟨gx, 7, none⟩ (Value.int .i64 v)) gx 30 #[.string x.upper, .string x.color, .string x.lining, .string x.sole, .int .i64 x.thick, .int .i64 x.heel, .int .i64 x.eyelets, .int .i64 v, .bool x.double]) := hX
   refine hK.out _ _ ⟨(World.cell?_setCell_far _ ⟨gx, 7, none⟩ _ _ (by exact hgn)).trans s0, (World.cell?_setCell_far _ ⟨gx, 7, none⟩ _ _ (by exact hgd)).trans s1⟩ (fun hHeld => ?_)
   clear hK K s0 s1
   try simp only [Act.put]
   refine zU 7 56 rfl (by assumption) ?_
   try simp only [Act.put, zA, zB, zC]
   refine zR 8 none rfl (fun K hK => ?_)
   have k8 : World.cell? ((World.setCell W4 ⟨gx, 7, none⟩ (Value.int .i64 v))) ⟨gx, 8, none⟩ = some (.bool x.double) := hX.out.cell 8
   have f8 := hX.out.frozen 8
   go_simp
   clear k8 f8
   obtain ⟨s0, s1⟩ := hHeld
   replace hX := qH (hX.out.set_ 8 (Value.bool false))
   replace hR := qH (hR.out.far (p := ⟨gx, 8, none⟩) (by exact hxr.symm) (Value.bool false))
   replace hv := bl_set hv (p := ⟨gx, 8, none⟩) hgex (Value.bool false)
   replace hX : Hid (Blk (World.setCell (World.setCell W4 ⟨gx, 7, none⟩ (Value.int .i64 v)) ⟨gx, 8, none⟩ (Value.bool false)) gx 30 #[Value.string x.upper, Value.string x.color, Value.string x.lining, Value.string x.sole, Value.int .i64 x.thick, Value.int .i64 x.heel, Value.int .i64 x.eyelets, Value.int .i64 v, Value.bool false]) := hX
   refine hK.out _ _ ⟨(World.cell?_setCell_far _ ⟨gx, 8, none⟩ _ _ (by exact hgn)).trans s0, (World.cell?_setCell_far _ ⟨gx, 8, none⟩ _ _ (by exact hgd)).trans s1⟩ (fun hHeld => ?_)
   clear hK K s0 s1
   try simp only [Act.put]
   refine wpAnyH_done (by as_aux_lemma => kernel_rfl) ?_ _
   clear hHeld
   go_upto_region 16 with fail
   obtain ⟨W9, hW9⟩ : ∃ z, z = (World.setCell (World.setCell W4 ⟨gx, 7, none⟩ (Value.int .i64 v)) ⟨gx, 8, none⟩ (Value.bool false)) := ⟨_, rfl⟩
   rw [← hW9] at hX hR hv ⊢
   clear hW9
   go_wp2_with (refine wpList_load_row rfl 30 _ rfl gx rfl 30 _ (0, 0) _ hX.out Tryz.underlying30 rfl (by kernel_rfl) ?_; refine wpList_store_row rfl 30 _ _ rfl gr #[.string x.upper, .string x.color, .string x.lining, .string x.sole, .int .i64 x.thick, .int .i64 x.heel, .int .i64 x.eyelets, .int .i64 v, .bool false] rfl rfl 30 _ hR.out (by kernel_rfl) rfl (by simp [Value.oneCell']) ?_)
   refine bodyPost_ret (results_cell_row (P := Tryz.prog) rfl _ _ gr 30 #[Value.string x.upper, Value.string x.color, Value.string x.lining, Value.string x.sole, Value.int .i64 x.thick, Value.int .i64 x.heel, Value.int .i64 x.eyelets, Value.int .i64 v, Value.bool false] (0, 0) _ rfl ?_ Tryz.underlying30 rfl (by kernel_rfl)) rfl ?_
   · exact setRow_heap _ _ _ _ _ _ hR.out
   · exact Ret.mk (by rw [set_stitch, HV.out]) (below_rowX hv hge _)
 · skip
   obtain rfl : n = 3 := HNL.out
   obtain ⟨ad, had, _, c0⟩ := scell_at (k := 0) hA.out rfl
   subst had
   replace c0 : W3.cell? ad = some (.string wStitch) := c0
   have hgd : gx ≠ ad.block := by have := hnw.out ad rfl; omega
   obtain ⟨ad1, had1, _, c1⟩ := scell_at (k := 1) hA.out rfl
   injection had1 with had1
   subst had1
   replace c1 : W3.cell? ⟨ad.block, ad.off + 1, none⟩ = some (.string a) := c1
   obtain ⟨ad2, had2, _, c2⟩ := scell_at (k := 2) hA.out rfl
   injection had2 with had2
   subst had2
   replace c2 : W3.cell? ⟨ad.block, ad.off + 2, none⟩ = some (.string wDouble) := c2
   obtain ⟨e0, e1, e2, e3, e4, e5⟩ := kind_beq kind5
   rw [show wUpper.toList = [117, 112, 112, 101, 114] from by simp [wUpper]] at e0
   replace e0 := e0.trans (show decide ((5 : Int) = 0) = false from by decide)
   rw [show wLining.toList = [108, 105, 110, 105, 110, 103] from by simp [wLining]] at e1
   replace e1 := e1.trans (show decide ((5 : Int) = 1) = false from by decide)
   rw [show wSole.toList = [115, 111, 108, 101] from by simp [wSole]] at e2
   replace e2 := e2.trans (show decide ((5 : Int) = 2) = false from by decide)
   rw [show wHeel.toList = [104, 101, 101, 108] from by simp [wHeel]] at e3
   replace e3 := e3.trans (show decide ((5 : Int) = 3) = false from by decide)
   rw [show wEyelets.toList = [101, 121, 101, 108, 101, 116, 115] from by simp [wEyelets]] at e4
   replace e4 := e4.trans (show decide ((5 : Int) = 4) = false from by decide)
   replace e5 : (wStitch.toList == [115, 116, 105, 116, 99, 104]) = true := by simp [wStitch]
   obtain ⟨t, ht⟩ : ∃ z, z = wStitch := ⟨_, rfl⟩
   rw [← ht] at c0 e0 e1 e2 e3 e4 e5
   clear ht
   have kl : W3.cell? ⟨gl, 0, none⟩ = some (.slice (some ad) 3 c) := hL.out.cell 0
   have HN := fun w h0 h1 h2 => with1_c gl ad 3 c 1 a (by omega) (HPT.out a (by simp)) w h0 h1 h2
   obtain ⟨v, hvv⟩ : ∃ z, z = numV a := ⟨_, rfl⟩
   rw [← hvv] at HN
   replace HN := qH HN
   have HV := qH hvv.symm
   clear hvv
   go_upto_region 15 with fail
   refine wp_region_held_drew (S := fun w' => w'.cell? ⟨gl, 0, none⟩ = some (.slice (some ad) 3 c) ∧ w'.cell? ⟨ad.block, ad.off + 1, none⟩ = some (.string a)) (by as_aux_lemma => kernel_rfl) ?_ (fun hHeld => ?_)
   · exact ⟨bl_cell (Below.refl _ _).drew kl, bl_cell (Below.refl _ _).drew c1⟩
   obtain ⟨Wd, hWd⟩ : ∃ z, z = W3.drew := ⟨_, rfl⟩
   have hb : Below W3.heap.size W3 Wd := by rw [hWd]; exact (Below.refl _ _).drew
   rw [← hWd] at hHeld ⊢
   replace hv := bl_trans hv hb
   replace hX := qH (hX.out.below hb)
   replace hR := qH (hR.out.below hb)
   clear hWd hb
   refine zT 0 50 ?_ rfl ?_ (by assumption) ?_
   rotate_left
   · intro w hSw
     try dsimp only at hSw
     obtain ⟨s0, s1⟩ := hSw
     go_simp
     try with_reducible rfl
   try simp only [Act.put, zA, zB, zC]
   refine zT 2 52 ?_ rfl ?_ (by assumption) ?_
   rotate_left
   · intro w hSw
     try dsimp only at hSw
     obtain ⟨s0, s1⟩ := hSw
     go_simp
     try with_reducible rfl
   try simp only [Act.put, zA, zB, zC]
   refine zT 3 53 ?_ rfl ?_ (by assumption) ?_
   rotate_left
   · intro w hSw
     try dsimp only at hSw
     obtain ⟨s0, s1⟩ := hSw
     go_simp
     try with_reducible rfl
   try simp only [Act.put, zA, zB, zC]
   refine zT 4 54 ?_ rfl ?_ (by assumption) ?_
   rotate_left
   · intro w hSw
     try dsimp only at hSw
     obtain ⟨s0, s1⟩ := hSw
     go_simp
     try with_reducible rfl
     try simp
   try simp only [Act.put, zA, zB, zC]
   refine zR 1 (some 51) rfl (fun K hK => ?_)
   go_simp
   obtain ⟨s0, s1⟩ := hHeld
   refine (HN.out _ s0 s1 (HT.out.below hv)).mono ?_
   rintro e W4 ⟨rfl, hb⟩
   replace hv := bl_trans hv hb
   replace hX := qH (hX.out.below hb)
   replace hR := qH (hR.out.below hb)
   go_wp2_with fail
   refine hK.out _ _ ⟨bl_cell hb s0, bl_cell hb s1⟩ (fun hHeld => ?_)
   clear hK K hb s0 s1
   try simp only [Act.put, zA, zB, zC]
   refine zU 5 55 rfl (by assumption) ?_
   try simp only [Act.put, zA, zB, zC]
   refine zR 6 none rfl (fun K hK => ?_)
   have k7 : World.cell? (W4) ⟨gx, 7, none⟩ = some (.int .i64 x.density) := hX.out.cell 7
   have f7 := hX.out.frozen 7
   go_simp
   clear k7 f7
   obtain ⟨s0, s1⟩ := hHeld
   replace hX := qH (hX.out.set_ 7 (Value.int .i64 v))
   replace hR := qH (hR.out.far (p := ⟨gx, 7, none⟩) (by exact hxr.symm) (Value.int .i64 v))
   replace hv := bl_set hv (p := ⟨gx, 7, none⟩) hgex (Value.int .i64 v)
   replace hX : Hid (Blk (World.setCell W4 ⟨gx, 7, none⟩ (Value.int .i64 v)) gx 30 #[.string x.upper, .string x.color, .string x.lining, .string x.sole, .int .i64 x.thick, .int .i64 x.heel, .int .i64 x.eyelets, .int .i64 v, .bool x.double]) := hX
   refine hK.out _ _ ⟨(World.cell?_setCell_far _ ⟨gx, 7, none⟩ _ _ (by exact hgn)).trans s0, (World.cell?_setCell_far _ ⟨gx, 7, none⟩ _ _ (by exact hgd)).trans s1⟩ (fun hHeld => ?_)
   clear hK K s0 s1
   try simp only [Act.put]
   refine zU 7 56 rfl (by assumption) ?_
   try simp only [Act.put, zA, zB, zC]
   refine zR 8 none rfl (fun K hK => ?_)
   have k8 : World.cell? ((World.setCell W4 ⟨gx, 7, none⟩ (Value.int .i64 v))) ⟨gx, 8, none⟩ = some (.bool x.double) := hX.out.cell 8
   have f8 := hX.out.frozen 8
   go_simp
   clear k8 f8
   obtain ⟨s0, s1⟩ := hHeld
   replace hX := qH (hX.out.set_ 8 (Value.bool true))
   replace hR := qH (hR.out.far (p := ⟨gx, 8, none⟩) (by exact hxr.symm) (Value.bool true))
   replace hv := bl_set hv (p := ⟨gx, 8, none⟩) hgex (Value.bool true)
   replace hX : Hid (Blk (World.setCell (World.setCell W4 ⟨gx, 7, none⟩ (Value.int .i64 v)) ⟨gx, 8, none⟩ (Value.bool true)) gx 30 #[Value.string x.upper, Value.string x.color, Value.string x.lining, Value.string x.sole, Value.int .i64 x.thick, Value.int .i64 x.heel, Value.int .i64 x.eyelets, Value.int .i64 v, Value.bool true]) := hX
   refine hK.out _ _ ⟨(World.cell?_setCell_far _ ⟨gx, 8, none⟩ _ _ (by exact hgn)).trans s0, (World.cell?_setCell_far _ ⟨gx, 8, none⟩ _ _ (by exact hgd)).trans s1⟩ (fun hHeld => ?_)
   clear hK K s0 s1
   try simp only [Act.put]
   refine wpAnyH_done (by as_aux_lemma => kernel_rfl) ?_ _
   clear hHeld
   go_upto_region 16 with fail
   obtain ⟨W9, hW9⟩ : ∃ z, z = (World.setCell (World.setCell W4 ⟨gx, 7, none⟩ (Value.int .i64 v)) ⟨gx, 8, none⟩ (Value.bool true)) := ⟨_, rfl⟩
   rw [← hW9] at hX hR hv ⊢
   clear hW9
   go_wp2_with (refine wpList_load_row rfl 30 _ rfl gx rfl 30 _ (0, 0) _ hX.out Tryz.underlying30 rfl (by kernel_rfl) ?_; refine wpList_store_row rfl 30 _ _ rfl gr #[.string x.upper, .string x.color, .string x.lining, .string x.sole, .int .i64 x.thick, .int .i64 x.heel, .int .i64 x.eyelets, .int .i64 v, .bool true] rfl rfl 30 _ hR.out (by kernel_rfl) rfl (by simp [Value.oneCell']) ?_)
   refine bodyPost_ret (results_cell_row (P := Tryz.prog) rfl _ _ gr 30 #[Value.string x.upper, Value.string x.color, Value.string x.lining, Value.string x.sole, Value.int .i64 x.thick, Value.int .i64 x.heel, Value.int .i64 x.eyelets, Value.int .i64 v, Value.bool true] (0, 0) _ rfl ?_ Tryz.underlying30 rfl (by kernel_rfl)) rfl ?_
   · exact setRow_heap _ _ _ _ _ _ hR.out
   · exact Ret.mk (by rw [set_double, HV.out]) (below_rowX hv hge _)
end Go.Proofs.YtpiehlfffjhoaaaGreatDoor
