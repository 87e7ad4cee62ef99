/- Drawn materials with a sole. -/
import Derived.Test.YtopbiihiogbhiaaDrwB
import Derived.Deep.AppendLies
import Derived.Deep.RegionHeld
import Derived.Deep.CutBlock
import Derived.Deep.DeepCutAuto
namespace Go.Proofs.Ytopbiihiogbhiaa
open Go.RowKit

def OutBoth (g q : Nat) (w : World) (e : Ending) (w' : World) : Prop := ∃ (A : Option Addr) (xs : List Stuff) (n c : Nat) (B : Option Addr) (ps : List Int) (m d : Nat), e = .returned (.tuple #[.slice A n c, .agg #[.slice B m d]]) ∧ xs.length = n ∧ n ≤ 13 ∧ (∀ x ∈ xs, x.name.size ≤ 100) ∧ ps.length = m ∧ m ≤ 7 ∧
  w'.ownsRow w.heap.size 46 5 (.slice A n c) n (flat Stuff.cells xs) ∧ w'.ownsRow w.heap.size 2 1 (.slice B m d) m (flat icell ps) ∧ Src w' g (q + 300) ∧ w.grownBy w' (some g)
theorem arr_of_blk {w : World} {g : Nat} {t : TypeId} {C : Array Value} (h : Blk w g t C) : Arr w (some ⟨g, 0, none⟩) C.toList := fun _ => by
  refine ⟨_, rfl, h.lt, fun j u hu => ?_⟩
  have hadd : (⟨g, 0, none⟩ : Addr).add j = ⟨g, j, none⟩ := by unfold Addr.add; split <;> simp_all
  rw [hadd, h.cell j]
  simpa using hu
theorem flat_rep : ∀ n : Nat, List.replicate n (Value.int IntKind.i64 0) = flat icell (List.replicate n (0 : Int))
  | 0 => rfl
  | n + 1 => by rw [List.replicate_succ, List.replicate_succ, flat_rep n]; rfl
theorem infoI64D : (Try.prog.info? 2).map (fun i => (i.zero, i.size, i.bytes)) = some (some (.int .i64 0), 1, 8) := by kernel_rfl
set_option maxRecDepth 100000 in
set_option maxHeartbeats 2000000 in
theorem l17Both_c (g q : Nat) (hq : q ≤ 500000000000) (w : World) (hS : Src w g q) : Calls Try.prog 51 #[.pointer (some ⟨g, 0, none⟩)] w (OutBoth g q w) := by
  obtain ⟨i0, hi0, hz0, hz1, hz2⟩ := info_parts (P := Try.prog) (e := 2) (z := .int .i64 0) (size := 1) (bytes := 8) infoI64D
  have HS := Lib.hid hS
  have hgw := hS.lt
  have HG := Lib.hid (World.grownBy.refl w (some g))
  have HW := Lib.hid (Nat.le_refl w.heap.size)
  clear hS
  go_enter Try.func51, Try.ntmps51
  go_wp2_with fail


  obtain ⟨W0, hWW0⟩ : ∃ z, z = World.alloc w (Obj.cells #[Value.slice none 0 0] 27) := ⟨_, rfl⟩
  obtain ⟨gz, hggz⟩ : ∃ z, z = (w).heap.size := ⟨_, rfl⟩
  have HZ : Hid (Blk W0 gz 27 #[Value.slice none 0 0]) := Lib.hid (by rw [hWW0, hggz]; exact Blk.new _ _ _)
  have hb : Below (w).heap.size w W0 := by rw [hWW0]; exact bl_alloc (Below.refl (w).heap.size (w)) _
  have hgz0 : w.heap.size ≤ gz := by rw [hggz]; exact HW.out
  have hgz1 : g < gz := by have := HS.out.lt; omega
  replace HS := Lib.hid (HS.out.below hb)
  replace HG := Lib.hid (grown_below HG.out hb)
  replace HW := Lib.hid (Nat.le_trans HW.out (hb).size)
  have hn_W0 : gz + 1 = W0.heap.size := by rw [hWW0, hggz]; exact (World.size_alloc _ _).symm
  rw [← hWW0, ← hggz]
  clear hWW0 hggz hb
  have hbase := HW.out
  refine (l17Bent_c g _ (by omega) _ HS.out).mono ?_
  rintro e W1 ⟨A, xs, n, c, rfl, hxl, hn5, hxs, hown, hS, hg⟩
  replace HS := Lib.hid hS
  replace HG := Lib.hid (grown_trans HG.out hg)
  replace HZ := Lib.hid (HZ.out.grown hg (by intro e; injection e; omega))
  replace HW := Lib.hid (Nat.le_trans HW.out hg.size)
  clear hS hg
  have HXL := Lib.hid hxl
  have HXS := Lib.hid hxs
  have hz01 := HZ.out.lt
  have HAZ := Lib.hid (show ∀ k, (Value.slice A n c).ownBlock = some k → k ≠ gz from fun k e => by have := own_at hown k e; have := hn_W0; omega)
  have HO := Lib.hid (own_base hown (base' := w.heap.size) (by omega))
  clear hbase hxl hxs hown
  have HAL := (own_lt HO.out)
  go_wp2_with fail
  obtain ⟨W2, hWW2⟩ : ∃ z, z = World.alloc W1 (Obj.cells #[] 2) := ⟨_, rfl⟩
  obtain ⟨gp, hggp⟩ : ∃ z, z = (W1).heap.size := ⟨_, rfl⟩
  have HP : Hid (W2.ownsRow gp 2 1 (.slice (some ⟨gp, 0, none⟩) 0 0) 0 []) := Lib.hid (by rw [hWW2, hggp]; exact own_empty W1 _ _ _ (Nat.le_refl _))
  have hb : Below (W1).heap.size W1 W2 := by rw [hWW2]; exact bl_alloc (Below.refl _ _) _
  have hgp0 : w.heap.size ≤ gp := by rw [hggp]; exact HW.out
  have hgp1 : g < gp := by have := HS.out.lt; omega
  rw [← hggp] at HAL
  have hgp_HZ := (hggp ▸ HZ.out.lt)
  replace HS := Lib.hid (HS.out.below hb)
  replace HG := Lib.hid (grown_below HG.out hb)
  replace HO := Lib.hid (own_below HO.out hb)
  replace HZ := Lib.hid (HZ.out.below hb)
  replace HW := Lib.hid (Nat.le_trans HW.out (hb).size)
  have hn_W2 : gp + 1 = W2.heap.size := by rw [hWW2, hggp, World.size_alloc]
  rw [← hWW2, ← hggp]
  clear hWW2 hggp hb
  replace HAL := Lib.hid HAL
  obtain ⟨W3, hWW3⟩ : ∃ z, z = World.alloc W2 (Obj.cells #[Value.slice (some ⟨gp, 0, none⟩) 0 0] 27) := ⟨_, rfl⟩
  obtain ⟨gx, hggx⟩ : ∃ z, z = (W2).heap.size := ⟨_, rfl⟩
  have HX : Hid (Blk W3 gx 27 #[Value.slice (some ⟨gp, 0, none⟩) 0 0]) := Lib.hid (by rw [hWW3, hggx]; exact Blk.new _ _ _)
  have hb : Below (W2).heap.size W2 W3 := by rw [hWW3]; exact bl_alloc (Below.refl (W2).heap.size (W2)) _
  have hgx0 : w.heap.size ≤ gx := by rw [hggx]; exact HW.out
  have hgx1 : g < gx := by have := HS.out.lt; omega
  have hgx_HZ := Nat.ne_of_lt (hggx ▸ HZ.out.lt)
  replace HS := Lib.hid (HS.out.below hb)
  replace HG := Lib.hid (grown_below HG.out hb)
  replace HO := Lib.hid (own_below HO.out hb)
  replace HP := Lib.hid (own_below HP.out hb)
  replace HZ := Lib.hid (HZ.out.below hb)
  replace HW := Lib.hid (Nat.le_trans HW.out (hb).size)
  have hn_W3 : gx + 1 = W3.heap.size := by rw [hWW3, hggx]; exact (World.size_alloc _ _).symm
  have he_gx := hn_W2.trans hggx.symm
  rw [← hWW3, hn_W2, ← hggx]
  clear hWW3 hggx hb
  refine (pick_c g _ 4 (by omega) (by omega) _ HS.out).mono ?_
  rintro e W4 ⟨r, rfl, r0, r1, hS, hg⟩
  replace HS := Lib.hid hS
  replace HG := Lib.hid (grown_trans HG.out hg)
  replace HO := Lib.hid (HO.out.kept hg (.inr (fun e => by have := own_at HO.out g e; omega)))
  replace HP := Lib.hid (HP.out.kept hg (.inr (fun e => by have := own_at HP.out g e; omega)))
  replace HZ := Lib.hid (HZ.out.grown hg (by intro e; injection e; omega))
  replace HX := Lib.hid (HX.out.grown hg (by intro e; injection e; omega))
  replace HW := Lib.hid (Nat.le_trans HW.out hg.size)
  clear hS hg
  obtain ⟨rr, rfl⟩ := Int.eq_ofNat_of_zero_le r0
  have hnn0 : (0 : Int) ≤ (n : Int) := by omega
  go_upto_block 0 with fail
  go_cut [] (fun wx => ∃ (m : Nat) (ps : List Int) (B : Option Addr) (e : Nat), m ≤ 4 ∧ Hid (ps.length = m) ∧ Hid (wx.ownsRow gp 2 1 (.slice B m e) m (flat icell ps)) ∧ Hid (∀ k, (Value.slice B m e).ownBlock = some k → k ≠ gx) ∧ Hid (Blk wx gx 27 #[Value.slice B m e]) ∧ Hid (Src wx g (q + 212)) ∧ Hid (w.grownBy wx (some g)) ∧ Hid (wx.ownsRow w.heap.size 46 5 (.slice A n c) n (flat Stuff.cells xs)) ∧ Hid (Blk wx gz 27 #[Value.slice none 0 0]) ∧ Hid (w.heap.size ≤ wx.heap.size))
  case first =>
    go_wp2_with fail
    go_loopw [6] (fun i wr => ∃ (kv m : Nat) (ps : List Int) (B : Option Addr) (e : Nat), i = .int .i64 kv ∧ m + kv ≤ 4 ∧ Hid (ps.length = m) ∧ Hid (wr.ownsRow gp 2 1 (.slice B m e) m (flat icell ps)) ∧ Hid (∀ k, (Value.slice B m e).ownBlock = some k → k ≠ gx) ∧ Hid (Blk wr gx 27 #[Value.slice B m e]) ∧ Hid (Src wr g (q + 204 + 2 * m)) ∧ Hid (w.grownBy wr (some g)) ∧ Hid (wr.ownsRow w.heap.size 46 5 (.slice A n c) n (flat Stuff.cells xs)) ∧ Hid (Blk wr gz 27 #[Value.slice none 0 0]) ∧ Hid (w.heap.size ≤ wr.heap.size)) (fun i _ => (intOf i).toNat)
    case atStart => exact ⟨1 + rr, 0, [], _, _, by simp, by omega, Lib.hid rfl, HP, Lib.hid (fun k e => by have : gp = k := (by simpa [Value.ownBlock] using e); have := he_gx; omega), HX, Lib.hid (HS.out.more (by omega)), HG, HO, HZ, HW⟩
    case round =>
      clear HX HS HG HO HZ HW HP
      obtain ⟨kv, m, ps, B, e, rfl, hmk, HPL, HP, HPX, HX, HS, HG, HO, HZ, HW⟩ := hrel
      by_cases hc : 0 < kv ∧ 0 < n
      · obtain ⟨hk, hn0⟩ := hc
        have hk0 : (0 : Int) < (kv : Int) := by omega
        have hn00 : (0 : Int) < (n : Int) := by omega
        go_wp2_with fail
        refine wp_region_held_drew (S := fun _ => True) (by kernel_rfl) ?_ (fun _ => ?_)
        · trivial
        replace HS := Lib.hid (HS.out.below (Below.refl (wr).heap.size (wr)).drew)
        replace HG := Lib.hid (grown_below HG.out (Below.refl (wr).heap.size (wr)).drew)
        replace HO := Lib.hid (own_below HO.out (Below.refl (wr).heap.size (wr)).drew)
        replace HP := Lib.hid (own_below HP.out (Below.refl (wr).heap.size (wr)).drew)
        replace HX := Lib.hid (HX.out.below (Below.refl (wr).heap.size (wr)).drew)
        replace HZ := Lib.hid (HZ.out.below (Below.refl (wr).heap.size (wr)).drew)
        replace HW := Lib.hid (Nat.le_trans HW.out ((Below.refl (wr).heap.size (wr)).drew).size)
        refine wpAnyH_take (i := 0) (oi := { dst := some 23, op := _, type := _, pos := _, after := _, guard := _ }) (v := ?_) rfl (by kernel_rfl) (by kernel_rfl) (by kernel_rfl) (fun _ _ _ h => h) (Or.inl ⟨by kernel_rfl, ?_⟩) (trivial) ?_
        rotate_left
        · intro w hSw
          try dsimp only at hSw
          go_simp
          try with_reducible rfl
        try simp only [Act.put, List.setIfInBounds_toArray, List.set_cons_zero, List.set_cons_succ]
        refine wpAnyH_take (i := 2) (oi := { dst := some 25, op := _, type := _, pos := _, after := _, guard := _ }) (v := ?_) rfl (by kernel_rfl) (by kernel_rfl) (by kernel_rfl) (fun _ _ _ h => h) (Or.inl ⟨by kernel_rfl, ?_⟩) (trivial) ?_
        rotate_left
        · intro w hSw
          try dsimp only at hSw
          go_simp
          try with_reducible rfl
        try simp only [Act.put, List.setIfInBounds_toArray, List.set_cons_zero, List.set_cons_succ]
        refine wpAnyH_take (i := 3) (oi := { dst := some 26, op := _, type := _, pos := _, after := _, guard := _ }) (v := ?_) rfl (by kernel_rfl) (by kernel_rfl) (by kernel_rfl) (fun _ _ _ h => h) (Or.inl ⟨by kernel_rfl, ?_⟩) (trivial) ?_
        rotate_left
        · intro w hSw
          try dsimp only at hSw
          go_simp
          try with_reducible rfl
        try simp only [Act.put, List.setIfInBounds_toArray, List.set_cons_zero, List.set_cons_succ]
        refine wpAnyH_take (i := 4) (oi := { dst := some 27, op := _, type := _, pos := _, after := _, guard := _ }) (v := ?_) rfl (by kernel_rfl) (by kernel_rfl) (by kernel_rfl) (fun _ _ _ h => h) (Or.inl ⟨by kernel_rfl, ?_⟩) (trivial) ?_
        rotate_left
        · intro w hSw
          try dsimp only at hSw
          go_simp
          try with_reducible rfl
        try simp only [Act.put, List.setIfInBounds_toArray, List.set_cons_zero, List.set_cons_succ]
        refine wpAnyH_ready (rs := [1, 5]) (by kernel_rfl) (by simp) ?_
        refine (AllReadyH.cons (o := { dst := some 24, op := _, type := _, pos := _, after := _, guard := _ }) rfl (fun K hK => ?_) (AllReadyH.cons (o := { dst := some 28, op := _, type := _, pos := _, after := _, guard := _ }) rfl (fun K hK => ?_) AllReadyH.nil))
        · skip
          have k0 : World.cell? ((wr).drew) ⟨gx, 0, none⟩ = some (.slice B m e) := HX.out.cell 0
          go_simp
          refine hK.out _ _ (trivial) (fun _ => ?_)
          clear hK K
          try simp only [Act.put, List.setIfInBounds_toArray, List.set_cons_zero, List.set_cons_succ]
          refine wpAnyH_ready (rs := [5]) (by kernel_rfl) (by simp) ?_
          refine (AllReadyH.cons (o := { dst := some 28, op := _, type := _, pos := _, after := _, guard := _ }) rfl (fun K hK => ?_) AllReadyH.nil)
          go_simp
          refine (pick_c g _ (n : Int) (by omega) (by omega) _ HS.out).mono ?_
          rintro e W1 ⟨v, rfl, v0, v1, hS, hg⟩
          replace HS := Lib.hid hS
          replace HG := Lib.hid (grown_trans HG.out hg)
          replace HO := Lib.hid (HO.out.kept hg (.inr (fun e => by have := own_at HO.out g e; omega)))
          replace HP := Lib.hid (HP.out.kept hg (.inr (fun e => by have := own_at HP.out g e; omega)))
          replace HX := Lib.hid (HX.out.grown hg (by intro e; injection e; omega))
          replace HZ := Lib.hid (HZ.out.grown hg (by intro e; injection e; omega))
          replace HW := Lib.hid (Nat.le_trans HW.out hg.size)
          clear hS hg
          go_wp2_with fail

          refine hK.out _ _ (trivial) (fun _ => ?_)
          clear hK K
          try simp only [Act.put, List.setIfInBounds_toArray, List.set_cons_zero, List.set_cons_succ]
          refine wpAnyH_ready (rs := [6]) (by kernel_rfl) (by simp) ?_
          refine (AllReadyH.cons (o := { dst := some 29, op := _, type := _, pos := _, after := _, guard := _ }) rfl (fun K hK => ?_) AllReadyH.nil)
          go_simp
          obtain ⟨W2, hWW2⟩ : ∃ z, z = World.alloc W1 (Obj.cells #[Value.int IntKind.i64 v] 2) := ⟨_, rfl⟩
          obtain ⟨gn, hggn⟩ : ∃ z, z = (W1).heap.size := ⟨_, rfl⟩
          have HN : Hid (Blk W2 gn 2 #[Value.int IntKind.i64 v]) := Lib.hid (by rw [hWW2, hggn]; exact Blk.new _ _ _)
          have hb : Below (W1).heap.size W1 W2 := by rw [hWW2]; exact bl_alloc (Below.refl (W1).heap.size (W1)) _
          have hgn0 : w.heap.size ≤ gn := by rw [hggn]; exact HW.out
          have hgn1 : g < gn := by have := HS.out.lt; omega
          have hgn_HX := Nat.ne_of_lt (hggn ▸ HX.out.lt)
          have hgn_HZ := Nat.ne_of_lt (hggn ▸ HZ.out.lt)
          replace HS := Lib.hid (HS.out.below hb)
          replace HG := Lib.hid (grown_below HG.out hb)
          replace HO := Lib.hid (own_below HO.out hb)
          replace HP := Lib.hid (own_below HP.out hb)
          replace HX := Lib.hid (HX.out.below hb)
          replace HZ := Lib.hid (HZ.out.below hb)
          replace HW := Lib.hid (Nat.le_trans HW.out (hb).size)
          have hn_W2 : gn + 1 = W2.heap.size := by rw [hWW2, hggn]; exact (World.size_alloc _ _).symm
          rw [← hWW2, ← hggn]
          clear hWW2 hggn hb

          refine hK.out _ _ (trivial) (fun _ => ?_)
          clear hK K
          try simp only [Act.put, List.setIfInBounds_toArray, List.set_cons_zero, List.set_cons_succ]
          refine wpAnyH_ready (rs := [7]) (by kernel_rfl) (by simp) ?_
          refine (AllReadyH.cons (o := { dst := some 30, op := _, type := _, pos := _, after := _, guard := _ }) rfl (fun K hK => ?_) AllReadyH.nil)
          have hgpW := Nat.le_trans (Nat.le_of_lt HX.out.lt) (Nat.le_refl _)
          refine step_append_lies W2 rfl _ _ _ rfl gp 2 i0 _ 1 8 Try.underlying25 hi0 hz0 hz1 hz2 rfl (by omega) (.slice B m e) m (flat icell ps) (by rfl) HP.out ⟨gn, 0, none⟩ 1 1 #[Value.int IntKind.i64 v].toList (by rfl) rfl (World.news_of_block HN.out) (by simp [Value.oneCell']) (by omega) (by unfold maxLen; omega) (by omega) (by omega) W2.heap.size rfl ?_
          intro g9 cap W9 hown9 hg9 hat hlt9
          have hxl := HX.out.lt
          have H9X : g9 ≠ gx := by
            rcases hat with h | h
            · exact HPX.out g9 h
            · omega
          clear HN hgpW
          have HPO := HP
          replace HS := Lib.hid (HS.out.over hg9 (fun i e => by have := own_at HP.out i e; omega))
          replace HG := Lib.hid (grown_over HG.out hg9 (fun i e => by have := own_at HP.out i e; omega))
          replace HO := Lib.hid (HO.out.kept hg9 (by cases hk : (Value.slice A n c).ownBlock with | none => exact .inl rfl | some k => exact .inr (fun e => by have h1 := HAL.out k hk; have h2 := own_at HPO.out k e.symm; omega)))
          replace HX := Lib.hid (HX.out.grown hg9 (fun e => HPX.out gx e.symm rfl))
          replace HZ := Lib.hid (HZ.out.grown hg9 (fun e => by have := own_at HP.out _ e.symm; omega))
          replace HW := Lib.hid (Nat.le_trans HW.out hg9.size)
          replace HP := Lib.hid hown9
          clear hown9 hg9
          clear HPO HPX hat

          refine hK.out _ _ (trivial) (fun _ => ?_)
          clear hK K
          try simp only [Act.put, List.setIfInBounds_toArray, List.set_cons_zero, List.set_cons_succ]
          refine wpAnyH_ready (rs := [8]) (by kernel_rfl) (by simp) ?_
          refine (AllReadyH.cons (o := { dst := some 31, op := _, type := _, pos := _, after := _, guard := _ }) rfl (fun K hK => ?_) AllReadyH.nil)
          go_simp
          refine hK.out _ _ (trivial) (fun _ => ?_)
          clear hK K
          try simp only [Act.put, List.setIfInBounds_toArray, List.set_cons_zero, List.set_cons_succ]
          refine wpAnyH_ready (rs := [9]) (by kernel_rfl) (by simp) ?_
          refine (AllReadyH.cons (o := { dst := none, op := _, type := _, pos := _, after := _, guard := _ }) rfl (fun K hK => ?_) AllReadyH.nil)
          have k0 : W9.cell? ⟨gx, 0, none⟩ = some (.slice B m e) := HX.out.cell 0
          have f0 := HX.out.frozen 0
          go_simp
          clear k0 f0
          obtain ⟨W10, hW⟩ : ∃ z, z = World.setCell W9 ⟨gx, 0, none⟩ (Value.slice (some ⟨g9, 0, none⟩) (m + 1) cap) := ⟨_, rfl⟩
          replace HX := Lib.hid (HX.out.set_ 0 (Value.slice (some ⟨g9, 0, none⟩) (m + 1) cap))
          replace HS := Lib.hid (HS.out.far (p := ⟨gx, 0, none⟩) (by simp only; omega) (Value.slice (some ⟨g9, 0, none⟩) (m + 1) cap))
          replace HG := Lib.hid (grown_setCell (p := ⟨gx, 0, none⟩) HG.out (.inr (by simp only; omega)) (Value.slice (some ⟨g9, 0, none⟩) (m + 1) cap))
          replace HO := Lib.hid (own_far HO.out (p := ⟨gx, 0, none⟩) (fun k e => by have := HAL.out k e; simp only; omega) (Value.slice (some ⟨g9, 0, none⟩) (m + 1) cap))
          replace HP := Lib.hid (own_far HP.out (p := ⟨gx, 0, none⟩) (fun k e => by have : g9 = k := (by simpa [Value.ownBlock] using e); simp only; omega) (Value.slice (some ⟨g9, 0, none⟩) (m + 1) cap))
          replace HZ := Lib.hid (HZ.out.far (p := ⟨gx, 0, none⟩) (by simp only; omega) (Value.slice (some ⟨g9, 0, none⟩) (m + 1) cap))
          replace HW := Lib.hid (show w.heap.size ≤ (World.setCell W9 ⟨gx, 0, none⟩ (Value.slice (some ⟨g9, 0, none⟩) (m + 1) cap)).heap.size by rw [World.size_setCell]; exact HW.out)
          rw [← hW] at HS HG HW HO HP HX HZ ⊢
          clear hW
          replace HX : Hid (Blk W10 gx 27 #[Value.slice (some ⟨g9, 0, none⟩) (m + 1) cap]) := HX

          refine hK.out _ _ (trivial) (fun _ => ?_)
          clear hK K
          try simp only [Act.put]
          refine wpAnyH_done (by kernel_rfl) ?_ _
          go_wp2_with fail
          have e9 : flat icell (ps ++ [v]) = flat icell ps ++ #[Value.int IntKind.i64 v].toList := by simp [flat, icell]
          rw [← e9] at HP
          exact ⟨⟨kv - 1, m + 1, ps ++ [v], some ⟨g9, 0, none⟩, cap, vi (by omega), by omega, Lib.hid (by rw [List.length_append, HPL.out]; rfl), HP, Lib.hid (fun k e => by have : g9 = k := (by simpa [Value.ownBlock] using e); omega), HX, Lib.hid (HS.out.more (by omega)), HG, HO, HZ, HW⟩, by simp [intOf]; omega⟩
        · skip
          go_simp
          refine (pick_c g _ (n : Int) (by omega) (by omega) _ HS.out).mono ?_
          rintro e W1 ⟨v, rfl, v0, v1, hS, hg⟩
          replace HS := Lib.hid hS
          replace HG := Lib.hid (grown_trans HG.out hg)
          replace HO := Lib.hid (HO.out.kept hg (.inr (fun e => by have := own_at HO.out g e; omega)))
          replace HP := Lib.hid (HP.out.kept hg (.inr (fun e => by have := own_at HP.out g e; omega)))
          replace HX := Lib.hid (HX.out.grown hg (by intro e; injection e; omega))
          replace HZ := Lib.hid (HZ.out.grown hg (by intro e; injection e; omega))
          replace HW := Lib.hid (Nat.le_trans HW.out hg.size)
          clear hS hg
          go_wp2_with fail

          refine hK.out _ _ (trivial) (fun _ => ?_)
          clear hK K
          try simp only [Act.put, List.setIfInBounds_toArray, List.set_cons_zero, List.set_cons_succ]
          refine wpAnyH_ready (rs := [1, 6]) (by kernel_rfl) (by simp) ?_
          refine (AllReadyH.cons (o := { dst := some 24, op := _, type := _, pos := _, after := _, guard := _ }) rfl (fun K hK => ?_) (AllReadyH.cons (o := { dst := some 29, op := _, type := _, pos := _, after := _, guard := _ }) rfl (fun K hK => ?_) AllReadyH.nil))
          · skip
            have k0 : World.cell? (W1) ⟨gx, 0, none⟩ = some (.slice B m e) := HX.out.cell 0
            go_simp
            refine hK.out _ _ (trivial) (fun _ => ?_)
            clear hK K
            try simp only [Act.put, List.setIfInBounds_toArray, List.set_cons_zero, List.set_cons_succ]
            refine wpAnyH_ready (rs := [6]) (by kernel_rfl) (by simp) ?_
            refine (AllReadyH.cons (o := { dst := some 29, op := _, type := _, pos := _, after := _, guard := _ }) rfl (fun K hK => ?_) AllReadyH.nil)
            go_simp
            obtain ⟨W2, hWW2⟩ : ∃ z, z = World.alloc W1 (Obj.cells #[Value.int IntKind.i64 v] 2) := ⟨_, rfl⟩
            obtain ⟨gn, hggn⟩ : ∃ z, z = (W1).heap.size := ⟨_, rfl⟩
            have HN : Hid (Blk W2 gn 2 #[Value.int IntKind.i64 v]) := Lib.hid (by rw [hWW2, hggn]; exact Blk.new _ _ _)
            have hb : Below (W1).heap.size W1 W2 := by rw [hWW2]; exact bl_alloc (Below.refl (W1).heap.size (W1)) _
            have hgn0 : w.heap.size ≤ gn := by rw [hggn]; exact HW.out
            have hgn1 : g < gn := by have := HS.out.lt; omega
            have hgn_HX := Nat.ne_of_lt (hggn ▸ HX.out.lt)
            have hgn_HZ := Nat.ne_of_lt (hggn ▸ HZ.out.lt)
            replace HS := Lib.hid (HS.out.below hb)
            replace HG := Lib.hid (grown_below HG.out hb)
            replace HO := Lib.hid (own_below HO.out hb)
            replace HP := Lib.hid (own_below HP.out hb)
            replace HX := Lib.hid (HX.out.below hb)
            replace HZ := Lib.hid (HZ.out.below hb)
            replace HW := Lib.hid (Nat.le_trans HW.out (hb).size)
            have hn_W2 : gn + 1 = W2.heap.size := by rw [hWW2, hggn]; exact (World.size_alloc _ _).symm
            rw [← hWW2, ← hggn]
            clear hWW2 hggn hb

            refine hK.out _ _ (trivial) (fun _ => ?_)
            clear hK K
            try simp only [Act.put, List.setIfInBounds_toArray, List.set_cons_zero, List.set_cons_succ]
            refine wpAnyH_ready (rs := [7]) (by kernel_rfl) (by simp) ?_
            refine (AllReadyH.cons (o := { dst := some 30, op := _, type := _, pos := _, after := _, guard := _ }) rfl (fun K hK => ?_) AllReadyH.nil)
            have hgpW := Nat.le_trans (Nat.le_of_lt HX.out.lt) (Nat.le_refl _)
            refine step_append_lies W2 rfl _ _ _ rfl gp 2 i0 _ 1 8 Try.underlying25 hi0 hz0 hz1 hz2 rfl (by omega) (.slice B m e) m (flat icell ps) (by rfl) HP.out ⟨gn, 0, none⟩ 1 1 #[Value.int IntKind.i64 v].toList (by rfl) rfl (World.news_of_block HN.out) (by simp [Value.oneCell']) (by omega) (by unfold maxLen; omega) (by omega) (by omega) W2.heap.size rfl ?_
            intro g9 cap W9 hown9 hg9 hat hlt9
            have hxl := HX.out.lt
            have H9X : g9 ≠ gx := by
              rcases hat with h | h
              · exact HPX.out g9 h
              · omega
            clear HN hgpW
            have HPO := HP
            replace HS := Lib.hid (HS.out.over hg9 (fun i e => by have := own_at HP.out i e; omega))
            replace HG := Lib.hid (grown_over HG.out hg9 (fun i e => by have := own_at HP.out i e; omega))
            replace HO := Lib.hid (HO.out.kept hg9 (by cases hk : (Value.slice A n c).ownBlock with | none => exact .inl rfl | some k => exact .inr (fun e => by have h1 := HAL.out k hk; have h2 := own_at HPO.out k e.symm; omega)))
            replace HX := Lib.hid (HX.out.grown hg9 (fun e => HPX.out gx e.symm rfl))
            replace HZ := Lib.hid (HZ.out.grown hg9 (fun e => by have := own_at HP.out _ e.symm; omega))
            replace HW := Lib.hid (Nat.le_trans HW.out hg9.size)
            replace HP := Lib.hid hown9
            clear hown9 hg9
            clear HPO HPX hat

            refine hK.out _ _ (trivial) (fun _ => ?_)
            clear hK K
            try simp only [Act.put, List.setIfInBounds_toArray, List.set_cons_zero, List.set_cons_succ]
            refine wpAnyH_ready (rs := [8]) (by kernel_rfl) (by simp) ?_
            refine (AllReadyH.cons (o := { dst := some 31, op := _, type := _, pos := _, after := _, guard := _ }) rfl (fun K hK => ?_) AllReadyH.nil)
            go_simp
            refine hK.out _ _ (trivial) (fun _ => ?_)
            clear hK K
            try simp only [Act.put, List.setIfInBounds_toArray, List.set_cons_zero, List.set_cons_succ]
            refine wpAnyH_ready (rs := [9]) (by kernel_rfl) (by simp) ?_
            refine (AllReadyH.cons (o := { dst := none, op := _, type := _, pos := _, after := _, guard := _ }) rfl (fun K hK => ?_) AllReadyH.nil)
            have k0 : W9.cell? ⟨gx, 0, none⟩ = some (.slice B m e) := HX.out.cell 0
            have f0 := HX.out.frozen 0
            go_simp
            clear k0 f0
            obtain ⟨W10, hW⟩ : ∃ z, z = World.setCell W9 ⟨gx, 0, none⟩ (Value.slice (some ⟨g9, 0, none⟩) (m + 1) cap) := ⟨_, rfl⟩
            replace HX := Lib.hid (HX.out.set_ 0 (Value.slice (some ⟨g9, 0, none⟩) (m + 1) cap))
            replace HS := Lib.hid (HS.out.far (p := ⟨gx, 0, none⟩) (by simp only; omega) (Value.slice (some ⟨g9, 0, none⟩) (m + 1) cap))
            replace HG := Lib.hid (grown_setCell (p := ⟨gx, 0, none⟩) HG.out (.inr (by simp only; omega)) (Value.slice (some ⟨g9, 0, none⟩) (m + 1) cap))
            replace HO := Lib.hid (own_far HO.out (p := ⟨gx, 0, none⟩) (fun k e => by have := HAL.out k e; simp only; omega) (Value.slice (some ⟨g9, 0, none⟩) (m + 1) cap))
            replace HP := Lib.hid (own_far HP.out (p := ⟨gx, 0, none⟩) (fun k e => by have : g9 = k := (by simpa [Value.ownBlock] using e); simp only; omega) (Value.slice (some ⟨g9, 0, none⟩) (m + 1) cap))
            replace HZ := Lib.hid (HZ.out.far (p := ⟨gx, 0, none⟩) (by simp only; omega) (Value.slice (some ⟨g9, 0, none⟩) (m + 1) cap))
            replace HW := Lib.hid (show w.heap.size ≤ (World.setCell W9 ⟨gx, 0, none⟩ (Value.slice (some ⟨g9, 0, none⟩) (m + 1) cap)).heap.size by rw [World.size_setCell]; exact HW.out)
            rw [← hW] at HS HG HW HO HP HX HZ ⊢
            clear hW
            replace HX : Hid (Blk W10 gx 27 #[Value.slice (some ⟨g9, 0, none⟩) (m + 1) cap]) := HX

            refine hK.out _ _ (trivial) (fun _ => ?_)
            clear hK K
            try simp only [Act.put]
            refine wpAnyH_done (by kernel_rfl) ?_ _
            go_wp2_with fail
            have e9 : flat icell (ps ++ [v]) = flat icell ps ++ #[Value.int IntKind.i64 v].toList := by simp [flat, icell]
            rw [← e9] at HP
            exact ⟨⟨kv - 1, m + 1, ps ++ [v], some ⟨g9, 0, none⟩, cap, vi (by omega), by omega, Lib.hid (by rw [List.length_append, HPL.out]; rfl), HP, Lib.hid (fun k e => by have : g9 = k := (by simpa [Value.ownBlock] using e); omega), HX, Lib.hid (HS.out.more (by omega)), HG, HO, HZ, HW⟩, by simp [intOf]; omega⟩
          · skip
            go_simp
            obtain ⟨W2, hWW2⟩ : ∃ z, z = World.alloc W1 (Obj.cells #[Value.int IntKind.i64 v] 2) := ⟨_, rfl⟩
            obtain ⟨gn, hggn⟩ : ∃ z, z = (W1).heap.size := ⟨_, rfl⟩
            have HN : Hid (Blk W2 gn 2 #[Value.int IntKind.i64 v]) := Lib.hid (by rw [hWW2, hggn]; exact Blk.new _ _ _)
            have hb : Below (W1).heap.size W1 W2 := by rw [hWW2]; exact bl_alloc (Below.refl (W1).heap.size (W1)) _
            have hgn0 : w.heap.size ≤ gn := by rw [hggn]; exact HW.out
            have hgn1 : g < gn := by have := HS.out.lt; omega
            have hgn_HX := Nat.ne_of_lt (hggn ▸ HX.out.lt)
            have hgn_HZ := Nat.ne_of_lt (hggn ▸ HZ.out.lt)
            replace HS := Lib.hid (HS.out.below hb)
            replace HG := Lib.hid (grown_below HG.out hb)
            replace HO := Lib.hid (own_below HO.out hb)
            replace HP := Lib.hid (own_below HP.out hb)
            replace HX := Lib.hid (HX.out.below hb)
            replace HZ := Lib.hid (HZ.out.below hb)
            replace HW := Lib.hid (Nat.le_trans HW.out (hb).size)
            have hn_W2 : gn + 1 = W2.heap.size := by rw [hWW2, hggn]; exact (World.size_alloc _ _).symm
            rw [← hWW2, ← hggn]
            clear hWW2 hggn hb

            refine hK.out _ _ (trivial) (fun _ => ?_)
            clear hK K
            try simp only [Act.put, List.setIfInBounds_toArray, List.set_cons_zero, List.set_cons_succ]
            refine wpAnyH_ready (rs := [1]) (by kernel_rfl) (by simp) ?_
            refine (AllReadyH.cons (o := { dst := some 24, op := _, type := _, pos := _, after := _, guard := _ }) rfl (fun K hK => ?_) AllReadyH.nil)
            have k0 : World.cell? (W2) ⟨gx, 0, none⟩ = some (.slice B m e) := HX.out.cell 0
            go_simp
            refine hK.out _ _ (trivial) (fun _ => ?_)
            clear hK K
            try simp only [Act.put, List.setIfInBounds_toArray, List.set_cons_zero, List.set_cons_succ]
            refine wpAnyH_ready (rs := [7]) (by kernel_rfl) (by simp) ?_
            refine (AllReadyH.cons (o := { dst := some 30, op := _, type := _, pos := _, after := _, guard := _ }) rfl (fun K hK => ?_) AllReadyH.nil)
            have hgpW := Nat.le_trans (Nat.le_of_lt HX.out.lt) (Nat.le_refl _)
            refine step_append_lies W2 rfl _ _ _ rfl gp 2 i0 _ 1 8 Try.underlying25 hi0 hz0 hz1 hz2 rfl (by omega) (.slice B m e) m (flat icell ps) (by rfl) HP.out ⟨gn, 0, none⟩ 1 1 #[Value.int IntKind.i64 v].toList (by rfl) rfl (World.news_of_block HN.out) (by simp [Value.oneCell']) (by omega) (by unfold maxLen; omega) (by omega) (by omega) W2.heap.size rfl ?_
            intro g9 cap W9 hown9 hg9 hat hlt9
            have hxl := HX.out.lt
            have H9X : g9 ≠ gx := by
              rcases hat with h | h
              · exact HPX.out g9 h
              · omega
            clear HN hgpW
            have HPO := HP
            replace HS := Lib.hid (HS.out.over hg9 (fun i e => by have := own_at HP.out i e; omega))
            replace HG := Lib.hid (grown_over HG.out hg9 (fun i e => by have := own_at HP.out i e; omega))
            replace HO := Lib.hid (HO.out.kept hg9 (by cases hk : (Value.slice A n c).ownBlock with | none => exact .inl rfl | some k => exact .inr (fun e => by have h1 := HAL.out k hk; have h2 := own_at HPO.out k e.symm; omega)))
            replace HX := Lib.hid (HX.out.grown hg9 (fun e => HPX.out gx e.symm rfl))
            replace HZ := Lib.hid (HZ.out.grown hg9 (fun e => by have := own_at HP.out _ e.symm; omega))
            replace HW := Lib.hid (Nat.le_trans HW.out hg9.size)
            replace HP := Lib.hid hown9
            clear hown9 hg9
            clear HPO HPX hat

            refine hK.out _ _ (trivial) (fun _ => ?_)
            clear hK K
            try simp only [Act.put, List.setIfInBounds_toArray, List.set_cons_zero, List.set_cons_succ]
            refine wpAnyH_ready (rs := [8]) (by kernel_rfl) (by simp) ?_
            refine (AllReadyH.cons (o := { dst := some 31, op := _, type := _, pos := _, after := _, guard := _ }) rfl (fun K hK => ?_) AllReadyH.nil)
            go_simp
            refine hK.out _ _ (trivial) (fun _ => ?_)
            clear hK K
            try simp only [Act.put, List.setIfInBounds_toArray, List.set_cons_zero, List.set_cons_succ]
            refine wpAnyH_ready (rs := [9]) (by kernel_rfl) (by simp) ?_
            refine (AllReadyH.cons (o := { dst := none, op := _, type := _, pos := _, after := _, guard := _ }) rfl (fun K hK => ?_) AllReadyH.nil)
            have k0 : W9.cell? ⟨gx, 0, none⟩ = some (.slice B m e) := HX.out.cell 0
            have f0 := HX.out.frozen 0
            go_simp
            clear k0 f0
            obtain ⟨W10, hW⟩ : ∃ z, z = World.setCell W9 ⟨gx, 0, none⟩ (Value.slice (some ⟨g9, 0, none⟩) (m + 1) cap) := ⟨_, rfl⟩
            replace HX := Lib.hid (HX.out.set_ 0 (Value.slice (some ⟨g9, 0, none⟩) (m + 1) cap))
            replace HS := Lib.hid (HS.out.far (p := ⟨gx, 0, none⟩) (by simp only; omega) (Value.slice (some ⟨g9, 0, none⟩) (m + 1) cap))
            replace HG := Lib.hid (grown_setCell (p := ⟨gx, 0, none⟩) HG.out (.inr (by simp only; omega)) (Value.slice (some ⟨g9, 0, none⟩) (m + 1) cap))
            replace HO := Lib.hid (own_far HO.out (p := ⟨gx, 0, none⟩) (fun k e => by have := HAL.out k e; simp only; omega) (Value.slice (some ⟨g9, 0, none⟩) (m + 1) cap))
            replace HP := Lib.hid (own_far HP.out (p := ⟨gx, 0, none⟩) (fun k e => by have : g9 = k := (by simpa [Value.ownBlock] using e); simp only; omega) (Value.slice (some ⟨g9, 0, none⟩) (m + 1) cap))
            replace HZ := Lib.hid (HZ.out.far (p := ⟨gx, 0, none⟩) (by simp only; omega) (Value.slice (some ⟨g9, 0, none⟩) (m + 1) cap))
            replace HW := Lib.hid (show w.heap.size ≤ (World.setCell W9 ⟨gx, 0, none⟩ (Value.slice (some ⟨g9, 0, none⟩) (m + 1) cap)).heap.size by rw [World.size_setCell]; exact HW.out)
            rw [← hW] at HS HG HW HO HP HX HZ ⊢
            clear hW
            replace HX : Hid (Blk W10 gx 27 #[Value.slice (some ⟨g9, 0, none⟩) (m + 1) cap]) := HX

            refine hK.out _ _ (trivial) (fun _ => ?_)
            clear hK K
            try simp only [Act.put]
            refine wpAnyH_done (by kernel_rfl) ?_ _
            go_wp2_with fail
            have e9 : flat icell (ps ++ [v]) = flat icell ps ++ #[Value.int IntKind.i64 v].toList := by simp [flat, icell]
            rw [← e9] at HP
            exact ⟨⟨kv - 1, m + 1, ps ++ [v], some ⟨g9, 0, none⟩, cap, vi (by omega), by omega, Lib.hid (by rw [List.length_append, HPL.out]; rfl), HP, Lib.hid (fun k e => by have : g9 = k := (by simpa [Value.ownBlock] using e); omega), HX, Lib.hid (HS.out.more (by omega)), HG, HO, HZ, HW⟩, by simp [intOf]; omega⟩
      · by_cases hk : 0 < kv
        · have hk0 : (0 : Int) < (kv : Int) := by omega
          have hn00 : ¬ (0 : Int) < (n : Int) := by omega
          clear hc
          go_wp2_with fail
          go_meet
          exact ⟨m, ps, B, e, by omega, HPL, HP, HPX, HX, Lib.hid (HS.out.more (by omega)), HG, HO, HZ, HW⟩
        · have hk0 : ¬ (0 : Int) < (kv : Int) := by omega
          clear hc
          go_wp2_with fail
          go_meet
          exact ⟨m, ps, B, e, by omega, HPL, HP, HPX, HX, Lib.hid (HS.out.more (by omega)), HG, HO, HZ, HW⟩
  case rest =>
    clear HX HS HG HO HZ HW HP
    obtain ⟨m, ps, B, e, hm4, HPL, HP, HPX, HX, HS, HG, HO, HZ, HW⟩ := hcut
    go_wp2_with fail
    refine (pick_c g _ 16 (by omega) (by omega) _ HS.out).mono ?_
    rintro e W5 ⟨r2, rfl, r20, r21, hS, hg⟩
    replace HS := Lib.hid hS
    replace HG := Lib.hid (grown_trans HG.out hg)
    replace HO := Lib.hid (HO.out.kept hg (.inr (fun e => by have := own_at HO.out g e; omega)))
    replace HP := Lib.hid (HP.out.kept hg (.inr (fun e => by have := own_at HP.out g e; omega)))
    replace HX := Lib.hid (HX.out.grown hg (by intro e; injection e; omega))
    replace HZ := Lib.hid (HZ.out.grown hg (by intro e; injection e; omega))
    replace HW := Lib.hid (Nat.le_trans HW.out hg.size)
    clear hS hg
    go_upto_block 2 with fail
    go_cut [] (fun wx => ∃ (m : Nat) (ps : List Int) (B : Option Addr) (e : Nat), m ≤ 7 ∧ Hid (ps.length = m) ∧ Hid (wx.ownsRow gp 2 1 (.slice B m e) m (flat icell ps)) ∧ Hid (∀ k, (Value.slice B m e).ownBlock = some k → k ≠ gx) ∧ Hid (Blk wx gx 27 #[Value.slice B m e]) ∧ Hid (Src wx g (q + 300)) ∧ Hid (w.grownBy wx (some g)) ∧ Hid (wx.ownsRow w.heap.size 46 5 (.slice A n c) n (flat Stuff.cells xs)) ∧ Hid (Blk wx gz 27 #[Value.slice none 0 0]) ∧ Hid (w.heap.size ≤ wx.heap.size))
    case first =>
      by_cases h0 : r2 = 0
      case pos =>
        subst h0
        go_wp2_with fail
        refine wp_region_held_drew (S := fun _ => True) (by kernel_rfl) ?_ (fun _ => ?_)
        · trivial
        replace HS := Lib.hid (HS.out.below (Below.refl (W5).heap.size (W5)).drew)
        replace HG := Lib.hid (grown_below HG.out (Below.refl (W5).heap.size (W5)).drew)
        replace HO := Lib.hid (own_below HO.out (Below.refl (W5).heap.size (W5)).drew)
        replace HP := Lib.hid (own_below HP.out (Below.refl (W5).heap.size (W5)).drew)
        replace HX := Lib.hid (HX.out.below (Below.refl (W5).heap.size (W5)).drew)
        replace HZ := Lib.hid (HZ.out.below (Below.refl (W5).heap.size (W5)).drew)
        replace HW := Lib.hid (Nat.le_trans HW.out ((Below.refl (W5).heap.size (W5)).drew).size)
        refine wpAnyH_take (i := 0) (oi := { dst := some 36, op := _, type := _, pos := _, after := _, guard := _ }) (v := ?_) rfl (by kernel_rfl) (by kernel_rfl) (by kernel_rfl) (fun _ _ _ h => h) (Or.inl ⟨by kernel_rfl, ?_⟩) (trivial) ?_
        rotate_left
        · intro w hSw
          try dsimp only at hSw
          go_simp
          try with_reducible rfl
        try simp only [Act.put, List.setIfInBounds_toArray, List.set_cons_zero, List.set_cons_succ]
        refine wpAnyH_take (i := 2) (oi := { dst := some 38, op := _, type := _, pos := _, after := _, guard := _ }) (v := ?_) rfl (by kernel_rfl) (by kernel_rfl) (by kernel_rfl) (fun _ _ _ h => h) (Or.inl ⟨by kernel_rfl, ?_⟩) (trivial) ?_
        rotate_left
        · intro w hSw
          try dsimp only at hSw
          go_simp
          try with_reducible rfl
        try simp only [Act.put, List.setIfInBounds_toArray, List.set_cons_zero, List.set_cons_succ]
        refine wpAnyH_take (i := 3) (oi := { dst := some 39, op := _, type := _, pos := _, after := _, guard := _ }) (v := ?_) rfl (by kernel_rfl) (by kernel_rfl) (by kernel_rfl) (fun _ _ _ h => h) (Or.inl ⟨by kernel_rfl, ?_⟩) (trivial) ?_
        rotate_left
        · intro w hSw
          try dsimp only at hSw
          go_simp
          try with_reducible rfl
        try simp only [Act.put, List.setIfInBounds_toArray, List.set_cons_zero, List.set_cons_succ]
        refine wpAnyH_take (i := 4) (oi := { dst := some 40, op := _, type := _, pos := _, after := _, guard := _ }) (v := ?_) rfl (by kernel_rfl) (by kernel_rfl) (by kernel_rfl) (fun _ _ _ h => h) (Or.inl ⟨by kernel_rfl, ?_⟩) (trivial) ?_
        rotate_left
        · intro w hSw
          try dsimp only at hSw
          go_simp
          try with_reducible rfl
        try simp only [Act.put, List.setIfInBounds_toArray, List.set_cons_zero, List.set_cons_succ]
        refine wpAnyH_ready (rs := [1, 5]) (by kernel_rfl) (by simp) ?_
        refine (AllReadyH.cons (o := { dst := some 37, op := _, type := _, pos := _, after := _, guard := _ }) rfl (fun K hK => ?_) (AllReadyH.cons (o := { dst := some 41, op := _, type := _, pos := _, after := _, guard := _ }) rfl (fun K hK => ?_) AllReadyH.nil))
        · skip
          have k0 : World.cell? ((W5).drew) ⟨gx, 0, none⟩ = some (.slice B m e) := HX.out.cell 0
          go_simp
          refine hK.out _ _ (trivial) (fun _ => ?_)
          clear hK K
          try simp only [Act.put, List.setIfInBounds_toArray, List.set_cons_zero, List.set_cons_succ]
          refine wpAnyH_ready (rs := [5]) (by kernel_rfl) (by simp) ?_
          refine (AllReadyH.cons (o := { dst := some 41, op := _, type := _, pos := _, after := _, guard := _ }) rfl (fun K hK => ?_) AllReadyH.nil)
          go_simp
          obtain ⟨W6, hWW6⟩ : ∃ z, z = (World.alloc W5 (Obj.cells #[Value.int IntKind.i64 (-1), Value.int IntKind.i64 0, Value.int IntKind.i64 (n : Int)] 2)).drew := ⟨_, rfl⟩
          obtain ⟨gl, hggl⟩ : ∃ z, z = (W5).heap.size := ⟨_, rfl⟩
          have HL : Hid (Blk W6 gl 2 #[Value.int IntKind.i64 (-1), Value.int IntKind.i64 0, Value.int IntKind.i64 (n : Int)]) := Lib.hid (by rw [hWW6, hggl]; exact Blk.new W5 _ _)
          have hb : Below ((W5).drew).heap.size (W5).drew W6 := by rw [hWW6]; exact bl_alloc (Below.refl ((W5).drew).heap.size ((W5).drew)) _
          have hgl0 : w.heap.size ≤ gl := by rw [hggl]; exact HW.out
          have hgl1 : g < gl := by have := HS.out.lt; omega
          have hgl_HX := Nat.ne_of_lt (hggl ▸ HX.out.lt)
          have hgl_HZ := Nat.ne_of_lt (hggl ▸ HZ.out.lt)
          replace HS := Lib.hid (HS.out.below hb)
          replace HG := Lib.hid (grown_below HG.out hb)
          replace HO := Lib.hid (own_below HO.out hb)
          replace HP := Lib.hid (own_below HP.out hb)
          replace HX := Lib.hid (HX.out.below hb)
          replace HZ := Lib.hid (HZ.out.below hb)
          replace HW := Lib.hid (Nat.le_trans HW.out (hb).size)
          have hn_W6 : gl + 1 = W6.heap.size := by rw [hWW6, hggl]; exact (World.size_alloc W5 _).symm
          rw [← hWW6, ← hggl]
          clear hWW6 hggl hb
          have HLL := HL

          refine hK.out _ _ (trivial) (fun _ => ?_)
          clear hK K
          try simp only [Act.put, List.setIfInBounds_toArray, List.set_cons_zero, List.set_cons_succ]
          refine wpAnyH_ready (rs := [6]) (by kernel_rfl) (by simp) ?_
          refine (AllReadyH.cons (o := { dst := some 42, op := _, type := _, pos := _, after := _, guard := _ }) rfl (fun K hK => ?_) AllReadyH.nil)
          go_simp
          have hA : Arr W6 (some ⟨gl, 0, none⟩) (flat icell [-1, 0, (n : Int)]) := arr_of_blk HL.out
          refine (among_c g _ _ [-1, 0, (n : Int)] 3 3 (Lib.hid rfl) (by omega) (by omega) (by omega) _ HS.out hA (fun ad e => by injection e with e; subst e; simp only; omega)).mono ?_
          rintro e W7 ⟨v, hv, rfl, hS, hg⟩
          replace HS := Lib.hid hS
          replace HG := Lib.hid (grown_trans HG.out hg)
          replace HO := Lib.hid (HO.out.kept hg (.inr (fun e => by have := own_at HO.out g e; omega)))
          replace HP := Lib.hid (HP.out.kept hg (.inr (fun e => by have := own_at HP.out g e; omega)))
          replace HX := Lib.hid (HX.out.grown hg (by intro e; injection e; omega))
          replace HZ := Lib.hid (HZ.out.grown hg (by intro e; injection e; omega))
          replace HL := Lib.hid (HL.out.grown hg (by intro e; injection e; omega))
          replace HW := Lib.hid (Nat.le_trans HW.out hg.size)
          clear hS hg
          clear hv hA
          clear HL
          clear HLL
          go_wp2_with fail

          refine hK.out _ _ (trivial) (fun _ => ?_)
          clear hK K
          try simp only [Act.put, List.setIfInBounds_toArray, List.set_cons_zero, List.set_cons_succ]
          refine wpAnyH_ready (rs := [7]) (by kernel_rfl) (by simp) ?_
          refine (AllReadyH.cons (o := { dst := some 43, op := _, type := _, pos := _, after := _, guard := _ }) rfl (fun K hK => ?_) AllReadyH.nil)
          go_simp
          obtain ⟨W8, hWW8⟩ : ∃ z, z = World.alloc W7 (Obj.cells #[Value.int IntKind.i64 v] 2) := ⟨_, rfl⟩
          obtain ⟨gn, hggn⟩ : ∃ z, z = (W7).heap.size := ⟨_, rfl⟩
          have HN : Hid (Blk W8 gn 2 #[Value.int IntKind.i64 v]) := Lib.hid (by rw [hWW8, hggn]; exact Blk.new _ _ _)
          have hb : Below (W7).heap.size W7 W8 := by rw [hWW8]; exact bl_alloc (Below.refl (W7).heap.size (W7)) _
          have hgn0 : w.heap.size ≤ gn := by rw [hggn]; exact HW.out
          have hgn1 : g < gn := by have := HS.out.lt; omega
          have hgn_HX := Nat.ne_of_lt (hggn ▸ HX.out.lt)
          have hgn_HZ := Nat.ne_of_lt (hggn ▸ HZ.out.lt)
          replace HS := Lib.hid (HS.out.below hb)
          replace HG := Lib.hid (grown_below HG.out hb)
          replace HO := Lib.hid (own_below HO.out hb)
          replace HP := Lib.hid (own_below HP.out hb)
          replace HX := Lib.hid (HX.out.below hb)
          replace HZ := Lib.hid (HZ.out.below hb)
          replace HW := Lib.hid (Nat.le_trans HW.out (hb).size)
          have hn_W8 : gn + 1 = W8.heap.size := by rw [hWW8, hggn]; exact (World.size_alloc _ _).symm
          rw [← hWW8, ← hggn]
          clear hWW8 hggn hb

          refine hK.out _ _ (trivial) (fun _ => ?_)
          clear hK K
          try simp only [Act.put, List.setIfInBounds_toArray, List.set_cons_zero, List.set_cons_succ]
          refine wpAnyH_ready (rs := [8]) (by kernel_rfl) (by simp) ?_
          refine (AllReadyH.cons (o := { dst := some 44, op := _, type := _, pos := _, after := _, guard := _ }) rfl (fun K hK => ?_) AllReadyH.nil)
          have hgpW := HX.out.lt
          refine step_append_lies W8 rfl _ _ _ rfl gp 2 i0 _ 1 8 Try.underlying25 hi0 hz0 hz1 hz2 rfl (by omega) (.slice B m e) m (flat icell ps) (by rfl) HP.out ⟨gn, 0, none⟩ 1 1 #[Value.int IntKind.i64 v].toList (by rfl) rfl (World.news_of_block HN.out) (by simp [Value.oneCell']) (by omega) (by unfold maxLen; omega) (by omega) (by omega) W8.heap.size rfl ?_
          intro g9 cap W9 hown9 hg9 hat hlt9
          have hxl := HX.out.lt
          have H9X : g9 ≠ gx := by
            rcases hat with h | h
            · exact HPX.out g9 h
            · omega
          clear HN
          clear hgpW
          have HPO := HP
          replace HS := Lib.hid (HS.out.over hg9 (fun i e => by have := own_at HP.out i e; omega))
          replace HG := Lib.hid (grown_over HG.out hg9 (fun i e => by have := own_at HP.out i e; omega))
          replace HO := Lib.hid (HO.out.kept hg9 (by cases hk : (Value.slice A n c).ownBlock with | none => exact .inl rfl | some k => exact .inr (fun e => by have h1 := HAL.out k hk; have h2 := own_at HPO.out k e.symm; omega)))
          replace HX := Lib.hid (HX.out.grown hg9 (fun e => HPX.out gx e.symm rfl))
          replace HZ := Lib.hid (HZ.out.grown hg9 (fun e => by have := own_at HP.out _ e.symm; omega))
          replace HW := Lib.hid (Nat.le_trans HW.out hg9.size)
          replace HP := Lib.hid hown9
          clear hown9 hg9
          clear HPO HPX hat

          refine hK.out _ _ (trivial) (fun _ => ?_)
          clear hK K
          try simp only [Act.put, List.setIfInBounds_toArray, List.set_cons_zero, List.set_cons_succ]
          refine wpAnyH_ready (rs := [9]) (by kernel_rfl) (by simp) ?_
          refine (AllReadyH.cons (o := { dst := some 45, op := _, type := _, pos := _, after := _, guard := _ }) rfl (fun K hK => ?_) AllReadyH.nil)
          go_simp
          refine hK.out _ _ (trivial) (fun _ => ?_)
          clear hK K
          try simp only [Act.put, List.setIfInBounds_toArray, List.set_cons_zero, List.set_cons_succ]
          refine wpAnyH_ready (rs := [10]) (by kernel_rfl) (by simp) ?_
          refine (AllReadyH.cons (o := { dst := none, op := _, type := _, pos := _, after := _, guard := _ }) rfl (fun K hK => ?_) AllReadyH.nil)
          have k0 : W9.cell? ⟨gx, 0, none⟩ = some (.slice B m e) := HX.out.cell 0
          have f0 := HX.out.frozen 0
          go_simp
          clear k0 f0
          obtain ⟨W11, hW⟩ : ∃ z, z = World.setCell W9 ⟨gx, 0, none⟩ (Value.slice (some ⟨g9, 0, none⟩) (m + 1) cap) := ⟨_, rfl⟩
          replace HX := Lib.hid (HX.out.set_ 0 (Value.slice (some ⟨g9, 0, none⟩) (m + 1) cap))
          replace HS := Lib.hid (HS.out.far (p := ⟨gx, 0, none⟩) (by simp only; omega) (Value.slice (some ⟨g9, 0, none⟩) (m + 1) cap))
          replace HG := Lib.hid (grown_setCell (p := ⟨gx, 0, none⟩) HG.out (.inr (by simp only; omega)) (Value.slice (some ⟨g9, 0, none⟩) (m + 1) cap))
          replace HO := Lib.hid (own_far HO.out (p := ⟨gx, 0, none⟩) (fun k e => by have := HAL.out k e; simp only; omega) (Value.slice (some ⟨g9, 0, none⟩) (m + 1) cap))
          replace HP := Lib.hid (own_far HP.out (p := ⟨gx, 0, none⟩) (fun k e => by have : g9 = k := (by simpa [Value.ownBlock] using e); simp only; omega) (Value.slice (some ⟨g9, 0, none⟩) (m + 1) cap))
          replace HZ := Lib.hid (HZ.out.far (p := ⟨gx, 0, none⟩) (by simp only; omega) (Value.slice (some ⟨g9, 0, none⟩) (m + 1) cap))
          replace HW := Lib.hid (show w.heap.size ≤ (World.setCell W9 ⟨gx, 0, none⟩ (Value.slice (some ⟨g9, 0, none⟩) (m + 1) cap)).heap.size by rw [World.size_setCell]; exact HW.out)
          rw [← hW] at HS HG HW HO HP HX HZ ⊢
          clear hW
          replace HX : Hid (Blk W11 gx 27 #[Value.slice (some ⟨g9, 0, none⟩) (m + 1) cap]) := HX

          refine hK.out _ _ (trivial) (fun _ => ?_)
          clear hK K
          try simp only [Act.put]
          refine wpAnyH_done (by kernel_rfl) ?_ _
          have e9 : flat icell (ps ++ [v]) = flat icell ps ++ #[Value.int IntKind.i64 v].toList := by simp [flat, icell]
          rw [← e9] at HP
          replace HPL : Hid ((ps ++ [v]).length = m + 1) := Lib.hid (by rw [List.length_append, HPL.out]; rfl)
          clear e9
          go_wp2_with fail
          go_meet
          exact ⟨(m + 1), (ps ++ [v]), (some ⟨g9, 0, none⟩), cap, by omega, HPL, HP, Lib.hid (fun k e => by have : g9 = k := (by simpa [Value.ownBlock] using e); omega), HX, Lib.hid (HS.out.more (by omega)), HG, HO, HZ, HW⟩
        · skip
          go_simp
          obtain ⟨W6, hWW6⟩ : ∃ z, z = (World.alloc W5 (Obj.cells #[Value.int IntKind.i64 (-1), Value.int IntKind.i64 0, Value.int IntKind.i64 (n : Int)] 2)).drew := ⟨_, rfl⟩
          obtain ⟨gl, hggl⟩ : ∃ z, z = (W5).heap.size := ⟨_, rfl⟩
          have HL : Hid (Blk W6 gl 2 #[Value.int IntKind.i64 (-1), Value.int IntKind.i64 0, Value.int IntKind.i64 (n : Int)]) := Lib.hid (by rw [hWW6, hggl]; exact Blk.new W5 _ _)
          have hb : Below ((W5).drew).heap.size (W5).drew W6 := by rw [hWW6]; exact bl_alloc (Below.refl ((W5).drew).heap.size ((W5).drew)) _
          have hgl0 : w.heap.size ≤ gl := by rw [hggl]; exact HW.out
          have hgl1 : g < gl := by have := HS.out.lt; omega
          have hgl_HX := Nat.ne_of_lt (hggl ▸ HX.out.lt)
          have hgl_HZ := Nat.ne_of_lt (hggl ▸ HZ.out.lt)
          replace HS := Lib.hid (HS.out.below hb)
          replace HG := Lib.hid (grown_below HG.out hb)
          replace HO := Lib.hid (own_below HO.out hb)
          replace HP := Lib.hid (own_below HP.out hb)
          replace HX := Lib.hid (HX.out.below hb)
          replace HZ := Lib.hid (HZ.out.below hb)
          replace HW := Lib.hid (Nat.le_trans HW.out (hb).size)
          have hn_W6 : gl + 1 = W6.heap.size := by rw [hWW6, hggl]; exact (World.size_alloc W5 _).symm
          rw [← hWW6, ← hggl]
          clear hWW6 hggl hb
          have HLL := HL

          refine hK.out _ _ (trivial) (fun _ => ?_)
          clear hK K
          try simp only [Act.put, List.setIfInBounds_toArray, List.set_cons_zero, List.set_cons_succ]
          refine wpAnyH_ready (rs := [1, 6]) (by kernel_rfl) (by simp) ?_
          refine (AllReadyH.cons (o := { dst := some 37, op := _, type := _, pos := _, after := _, guard := _ }) rfl (fun K hK => ?_) (AllReadyH.cons (o := { dst := some 42, op := _, type := _, pos := _, after := _, guard := _ }) rfl (fun K hK => ?_) AllReadyH.nil))
          · skip
            have k0 : World.cell? (W6) ⟨gx, 0, none⟩ = some (.slice B m e) := HX.out.cell 0
            go_simp
            refine hK.out _ _ (trivial) (fun _ => ?_)
            clear hK K
            try simp only [Act.put, List.setIfInBounds_toArray, List.set_cons_zero, List.set_cons_succ]
            refine wpAnyH_ready (rs := [6]) (by kernel_rfl) (by simp) ?_
            refine (AllReadyH.cons (o := { dst := some 42, op := _, type := _, pos := _, after := _, guard := _ }) rfl (fun K hK => ?_) AllReadyH.nil)
            go_simp
            have hA : Arr W6 (some ⟨gl, 0, none⟩) (flat icell [-1, 0, (n : Int)]) := arr_of_blk HL.out
            refine (among_c g _ _ [-1, 0, (n : Int)] 3 3 (Lib.hid rfl) (by omega) (by omega) (by omega) _ HS.out hA (fun ad e => by injection e with e; subst e; simp only; omega)).mono ?_
            rintro e W7 ⟨v, hv, rfl, hS, hg⟩
            replace HS := Lib.hid hS
            replace HG := Lib.hid (grown_trans HG.out hg)
            replace HO := Lib.hid (HO.out.kept hg (.inr (fun e => by have := own_at HO.out g e; omega)))
            replace HP := Lib.hid (HP.out.kept hg (.inr (fun e => by have := own_at HP.out g e; omega)))
            replace HX := Lib.hid (HX.out.grown hg (by intro e; injection e; omega))
            replace HZ := Lib.hid (HZ.out.grown hg (by intro e; injection e; omega))
            replace HL := Lib.hid (HL.out.grown hg (by intro e; injection e; omega))
            replace HW := Lib.hid (Nat.le_trans HW.out hg.size)
            clear hS hg
            clear hv hA
            clear HL
            clear HLL
            go_wp2_with fail

            refine hK.out _ _ (trivial) (fun _ => ?_)
            clear hK K
            try simp only [Act.put, List.setIfInBounds_toArray, List.set_cons_zero, List.set_cons_succ]
            refine wpAnyH_ready (rs := [7]) (by kernel_rfl) (by simp) ?_
            refine (AllReadyH.cons (o := { dst := some 43, op := _, type := _, pos := _, after := _, guard := _ }) rfl (fun K hK => ?_) AllReadyH.nil)
            go_simp
            obtain ⟨W8, hWW8⟩ : ∃ z, z = World.alloc W7 (Obj.cells #[Value.int IntKind.i64 v] 2) := ⟨_, rfl⟩
            obtain ⟨gn, hggn⟩ : ∃ z, z = (W7).heap.size := ⟨_, rfl⟩
            have HN : Hid (Blk W8 gn 2 #[Value.int IntKind.i64 v]) := Lib.hid (by rw [hWW8, hggn]; exact Blk.new _ _ _)
            have hb : Below (W7).heap.size W7 W8 := by rw [hWW8]; exact bl_alloc (Below.refl (W7).heap.size (W7)) _
            have hgn0 : w.heap.size ≤ gn := by rw [hggn]; exact HW.out
            have hgn1 : g < gn := by have := HS.out.lt; omega
            have hgn_HX := Nat.ne_of_lt (hggn ▸ HX.out.lt)
            have hgn_HZ := Nat.ne_of_lt (hggn ▸ HZ.out.lt)
            replace HS := Lib.hid (HS.out.below hb)
            replace HG := Lib.hid (grown_below HG.out hb)
            replace HO := Lib.hid (own_below HO.out hb)
            replace HP := Lib.hid (own_below HP.out hb)
            replace HX := Lib.hid (HX.out.below hb)
            replace HZ := Lib.hid (HZ.out.below hb)
            replace HW := Lib.hid (Nat.le_trans HW.out (hb).size)
            have hn_W8 : gn + 1 = W8.heap.size := by rw [hWW8, hggn]; exact (World.size_alloc _ _).symm
            rw [← hWW8, ← hggn]
            clear hWW8 hggn hb

            refine hK.out _ _ (trivial) (fun _ => ?_)
            clear hK K
            try simp only [Act.put, List.setIfInBounds_toArray, List.set_cons_zero, List.set_cons_succ]
            refine wpAnyH_ready (rs := [8]) (by kernel_rfl) (by simp) ?_
            refine (AllReadyH.cons (o := { dst := some 44, op := _, type := _, pos := _, after := _, guard := _ }) rfl (fun K hK => ?_) AllReadyH.nil)
            have hgpW := HX.out.lt
            refine step_append_lies W8 rfl _ _ _ rfl gp 2 i0 _ 1 8 Try.underlying25 hi0 hz0 hz1 hz2 rfl (by omega) (.slice B m e) m (flat icell ps) (by rfl) HP.out ⟨gn, 0, none⟩ 1 1 #[Value.int IntKind.i64 v].toList (by rfl) rfl (World.news_of_block HN.out) (by simp [Value.oneCell']) (by omega) (by unfold maxLen; omega) (by omega) (by omega) W8.heap.size rfl ?_
            intro g9 cap W9 hown9 hg9 hat hlt9
            have hxl := HX.out.lt
            have H9X : g9 ≠ gx := by
              rcases hat with h | h
              · exact HPX.out g9 h
              · omega
            clear HN
            clear hgpW
            have HPO := HP
            replace HS := Lib.hid (HS.out.over hg9 (fun i e => by have := own_at HP.out i e; omega))
            replace HG := Lib.hid (grown_over HG.out hg9 (fun i e => by have := own_at HP.out i e; omega))
            replace HO := Lib.hid (HO.out.kept hg9 (by cases hk : (Value.slice A n c).ownBlock with | none => exact .inl rfl | some k => exact .inr (fun e => by have h1 := HAL.out k hk; have h2 := own_at HPO.out k e.symm; omega)))
            replace HX := Lib.hid (HX.out.grown hg9 (fun e => HPX.out gx e.symm rfl))
            replace HZ := Lib.hid (HZ.out.grown hg9 (fun e => by have := own_at HP.out _ e.symm; omega))
            replace HW := Lib.hid (Nat.le_trans HW.out hg9.size)
            replace HP := Lib.hid hown9
            clear hown9 hg9
            clear HPO HPX hat

            refine hK.out _ _ (trivial) (fun _ => ?_)
            clear hK K
            try simp only [Act.put, List.setIfInBounds_toArray, List.set_cons_zero, List.set_cons_succ]
            refine wpAnyH_ready (rs := [9]) (by kernel_rfl) (by simp) ?_
            refine (AllReadyH.cons (o := { dst := some 45, op := _, type := _, pos := _, after := _, guard := _ }) rfl (fun K hK => ?_) AllReadyH.nil)
            go_simp
            refine hK.out _ _ (trivial) (fun _ => ?_)
            clear hK K
            try simp only [Act.put, List.setIfInBounds_toArray, List.set_cons_zero, List.set_cons_succ]
            refine wpAnyH_ready (rs := [10]) (by kernel_rfl) (by simp) ?_
            refine (AllReadyH.cons (o := { dst := none, op := _, type := _, pos := _, after := _, guard := _ }) rfl (fun K hK => ?_) AllReadyH.nil)
            have k0 : W9.cell? ⟨gx, 0, none⟩ = some (.slice B m e) := HX.out.cell 0
            have f0 := HX.out.frozen 0
            go_simp
            clear k0 f0
            obtain ⟨W11, hW⟩ : ∃ z, z = World.setCell W9 ⟨gx, 0, none⟩ (Value.slice (some ⟨g9, 0, none⟩) (m + 1) cap) := ⟨_, rfl⟩
            replace HX := Lib.hid (HX.out.set_ 0 (Value.slice (some ⟨g9, 0, none⟩) (m + 1) cap))
            replace HS := Lib.hid (HS.out.far (p := ⟨gx, 0, none⟩) (by simp only; omega) (Value.slice (some ⟨g9, 0, none⟩) (m + 1) cap))
            replace HG := Lib.hid (grown_setCell (p := ⟨gx, 0, none⟩) HG.out (.inr (by simp only; omega)) (Value.slice (some ⟨g9, 0, none⟩) (m + 1) cap))
            replace HO := Lib.hid (own_far HO.out (p := ⟨gx, 0, none⟩) (fun k e => by have := HAL.out k e; simp only; omega) (Value.slice (some ⟨g9, 0, none⟩) (m + 1) cap))
            replace HP := Lib.hid (own_far HP.out (p := ⟨gx, 0, none⟩) (fun k e => by have : g9 = k := (by simpa [Value.ownBlock] using e); simp only; omega) (Value.slice (some ⟨g9, 0, none⟩) (m + 1) cap))
            replace HZ := Lib.hid (HZ.out.far (p := ⟨gx, 0, none⟩) (by simp only; omega) (Value.slice (some ⟨g9, 0, none⟩) (m + 1) cap))
            replace HW := Lib.hid (show w.heap.size ≤ (World.setCell W9 ⟨gx, 0, none⟩ (Value.slice (some ⟨g9, 0, none⟩) (m + 1) cap)).heap.size by rw [World.size_setCell]; exact HW.out)
            rw [← hW] at HS HG HW HO HP HX HZ ⊢
            clear hW
            replace HX : Hid (Blk W11 gx 27 #[Value.slice (some ⟨g9, 0, none⟩) (m + 1) cap]) := HX

            refine hK.out _ _ (trivial) (fun _ => ?_)
            clear hK K
            try simp only [Act.put]
            refine wpAnyH_done (by kernel_rfl) ?_ _
            have e9 : flat icell (ps ++ [v]) = flat icell ps ++ #[Value.int IntKind.i64 v].toList := by simp [flat, icell]
            rw [← e9] at HP
            replace HPL : Hid ((ps ++ [v]).length = m + 1) := Lib.hid (by rw [List.length_append, HPL.out]; rfl)
            clear e9
            go_wp2_with fail
            go_meet
            exact ⟨(m + 1), (ps ++ [v]), (some ⟨g9, 0, none⟩), cap, by omega, HPL, HP, Lib.hid (fun k e => by have : g9 = k := (by simpa [Value.ownBlock] using e); omega), HX, Lib.hid (HS.out.more (by omega)), HG, HO, HZ, HW⟩
          · skip
            go_simp
            have hA : Arr W6 (some ⟨gl, 0, none⟩) (flat icell [-1, 0, (n : Int)]) := arr_of_blk HL.out
            refine (among_c g _ _ [-1, 0, (n : Int)] 3 3 (Lib.hid rfl) (by omega) (by omega) (by omega) _ HS.out hA (fun ad e => by injection e with e; subst e; simp only; omega)).mono ?_
            rintro e W7 ⟨v, hv, rfl, hS, hg⟩
            replace HS := Lib.hid hS
            replace HG := Lib.hid (grown_trans HG.out hg)
            replace HO := Lib.hid (HO.out.kept hg (.inr (fun e => by have := own_at HO.out g e; omega)))
            replace HP := Lib.hid (HP.out.kept hg (.inr (fun e => by have := own_at HP.out g e; omega)))
            replace HX := Lib.hid (HX.out.grown hg (by intro e; injection e; omega))
            replace HZ := Lib.hid (HZ.out.grown hg (by intro e; injection e; omega))
            replace HL := Lib.hid (HL.out.grown hg (by intro e; injection e; omega))
            replace HW := Lib.hid (Nat.le_trans HW.out hg.size)
            clear hS hg
            clear hv hA
            clear HL
            clear HLL
            go_wp2_with fail

            refine hK.out _ _ (trivial) (fun _ => ?_)
            clear hK K
            try simp only [Act.put, List.setIfInBounds_toArray, List.set_cons_zero, List.set_cons_succ]
            refine wpAnyH_ready (rs := [1, 7]) (by kernel_rfl) (by simp) ?_
            refine (AllReadyH.cons (o := { dst := some 37, op := _, type := _, pos := _, after := _, guard := _ }) rfl (fun K hK => ?_) (AllReadyH.cons (o := { dst := some 43, op := _, type := _, pos := _, after := _, guard := _ }) rfl (fun K hK => ?_) AllReadyH.nil))
            · skip
              have k0 : World.cell? (W7) ⟨gx, 0, none⟩ = some (.slice B m e) := HX.out.cell 0
              go_simp
              refine hK.out _ _ (trivial) (fun _ => ?_)
              clear hK K
              try simp only [Act.put, List.setIfInBounds_toArray, List.set_cons_zero, List.set_cons_succ]
              refine wpAnyH_ready (rs := [7]) (by kernel_rfl) (by simp) ?_
              refine (AllReadyH.cons (o := { dst := some 43, op := _, type := _, pos := _, after := _, guard := _ }) rfl (fun K hK => ?_) AllReadyH.nil)
              go_simp
              obtain ⟨W8, hWW8⟩ : ∃ z, z = World.alloc W7 (Obj.cells #[Value.int IntKind.i64 v] 2) := ⟨_, rfl⟩
              obtain ⟨gn, hggn⟩ : ∃ z, z = (W7).heap.size := ⟨_, rfl⟩
              have HN : Hid (Blk W8 gn 2 #[Value.int IntKind.i64 v]) := Lib.hid (by rw [hWW8, hggn]; exact Blk.new _ _ _)
              have hb : Below (W7).heap.size W7 W8 := by rw [hWW8]; exact bl_alloc (Below.refl (W7).heap.size (W7)) _
              have hgn0 : w.heap.size ≤ gn := by rw [hggn]; exact HW.out
              have hgn1 : g < gn := by have := HS.out.lt; omega
              have hgn_HX := Nat.ne_of_lt (hggn ▸ HX.out.lt)
              have hgn_HZ := Nat.ne_of_lt (hggn ▸ HZ.out.lt)
              replace HS := Lib.hid (HS.out.below hb)
              replace HG := Lib.hid (grown_below HG.out hb)
              replace HO := Lib.hid (own_below HO.out hb)
              replace HP := Lib.hid (own_below HP.out hb)
              replace HX := Lib.hid (HX.out.below hb)
              replace HZ := Lib.hid (HZ.out.below hb)
              replace HW := Lib.hid (Nat.le_trans HW.out (hb).size)
              have hn_W8 : gn + 1 = W8.heap.size := by rw [hWW8, hggn]; exact (World.size_alloc _ _).symm
              rw [← hWW8, ← hggn]
              clear hWW8 hggn hb

              refine hK.out _ _ (trivial) (fun _ => ?_)
              clear hK K
              try simp only [Act.put, List.setIfInBounds_toArray, List.set_cons_zero, List.set_cons_succ]
              refine wpAnyH_ready (rs := [8]) (by kernel_rfl) (by simp) ?_
              refine (AllReadyH.cons (o := { dst := some 44, op := _, type := _, pos := _, after := _, guard := _ }) rfl (fun K hK => ?_) AllReadyH.nil)
              have hgpW := HX.out.lt
              refine step_append_lies W8 rfl _ _ _ rfl gp 2 i0 _ 1 8 Try.underlying25 hi0 hz0 hz1 hz2 rfl (by omega) (.slice B m e) m (flat icell ps) (by rfl) HP.out ⟨gn, 0, none⟩ 1 1 #[Value.int IntKind.i64 v].toList (by rfl) rfl (World.news_of_block HN.out) (by simp [Value.oneCell']) (by omega) (by unfold maxLen; omega) (by omega) (by omega) W8.heap.size rfl ?_
              intro g9 cap W9 hown9 hg9 hat hlt9
              have hxl := HX.out.lt
              have H9X : g9 ≠ gx := by
                rcases hat with h | h
                · exact HPX.out g9 h
                · omega
              clear HN
              clear hgpW
              have HPO := HP
              replace HS := Lib.hid (HS.out.over hg9 (fun i e => by have := own_at HP.out i e; omega))
              replace HG := Lib.hid (grown_over HG.out hg9 (fun i e => by have := own_at HP.out i e; omega))
              replace HO := Lib.hid (HO.out.kept hg9 (by cases hk : (Value.slice A n c).ownBlock with | none => exact .inl rfl | some k => exact .inr (fun e => by have h1 := HAL.out k hk; have h2 := own_at HPO.out k e.symm; omega)))
              replace HX := Lib.hid (HX.out.grown hg9 (fun e => HPX.out gx e.symm rfl))
              replace HZ := Lib.hid (HZ.out.grown hg9 (fun e => by have := own_at HP.out _ e.symm; omega))
              replace HW := Lib.hid (Nat.le_trans HW.out hg9.size)
              replace HP := Lib.hid hown9
              clear hown9 hg9
              clear HPO HPX hat

              refine hK.out _ _ (trivial) (fun _ => ?_)
              clear hK K
              try simp only [Act.put, List.setIfInBounds_toArray, List.set_cons_zero, List.set_cons_succ]
              refine wpAnyH_ready (rs := [9]) (by kernel_rfl) (by simp) ?_
              refine (AllReadyH.cons (o := { dst := some 45, op := _, type := _, pos := _, after := _, guard := _ }) rfl (fun K hK => ?_) AllReadyH.nil)
              go_simp
              refine hK.out _ _ (trivial) (fun _ => ?_)
              clear hK K
              try simp only [Act.put, List.setIfInBounds_toArray, List.set_cons_zero, List.set_cons_succ]
              refine wpAnyH_ready (rs := [10]) (by kernel_rfl) (by simp) ?_
              refine (AllReadyH.cons (o := { dst := none, op := _, type := _, pos := _, after := _, guard := _ }) rfl (fun K hK => ?_) AllReadyH.nil)
              have k0 : W9.cell? ⟨gx, 0, none⟩ = some (.slice B m e) := HX.out.cell 0
              have f0 := HX.out.frozen 0
              go_simp
              clear k0 f0
              obtain ⟨W11, hW⟩ : ∃ z, z = World.setCell W9 ⟨gx, 0, none⟩ (Value.slice (some ⟨g9, 0, none⟩) (m + 1) cap) := ⟨_, rfl⟩
              replace HX := Lib.hid (HX.out.set_ 0 (Value.slice (some ⟨g9, 0, none⟩) (m + 1) cap))
              replace HS := Lib.hid (HS.out.far (p := ⟨gx, 0, none⟩) (by simp only; omega) (Value.slice (some ⟨g9, 0, none⟩) (m + 1) cap))
              replace HG := Lib.hid (grown_setCell (p := ⟨gx, 0, none⟩) HG.out (.inr (by simp only; omega)) (Value.slice (some ⟨g9, 0, none⟩) (m + 1) cap))
              replace HO := Lib.hid (own_far HO.out (p := ⟨gx, 0, none⟩) (fun k e => by have := HAL.out k e; simp only; omega) (Value.slice (some ⟨g9, 0, none⟩) (m + 1) cap))
              replace HP := Lib.hid (own_far HP.out (p := ⟨gx, 0, none⟩) (fun k e => by have : g9 = k := (by simpa [Value.ownBlock] using e); simp only; omega) (Value.slice (some ⟨g9, 0, none⟩) (m + 1) cap))
              replace HZ := Lib.hid (HZ.out.far (p := ⟨gx, 0, none⟩) (by simp only; omega) (Value.slice (some ⟨g9, 0, none⟩) (m + 1) cap))
              replace HW := Lib.hid (show w.heap.size ≤ (World.setCell W9 ⟨gx, 0, none⟩ (Value.slice (some ⟨g9, 0, none⟩) (m + 1) cap)).heap.size by rw [World.size_setCell]; exact HW.out)
              rw [← hW] at HS HG HW HO HP HX HZ ⊢
              clear hW
              replace HX : Hid (Blk W11 gx 27 #[Value.slice (some ⟨g9, 0, none⟩) (m + 1) cap]) := HX

              refine hK.out _ _ (trivial) (fun _ => ?_)
              clear hK K
              try simp only [Act.put]
              refine wpAnyH_done (by kernel_rfl) ?_ _
              have e9 : flat icell (ps ++ [v]) = flat icell ps ++ #[Value.int IntKind.i64 v].toList := by simp [flat, icell]
              rw [← e9] at HP
              replace HPL : Hid ((ps ++ [v]).length = m + 1) := Lib.hid (by rw [List.length_append, HPL.out]; rfl)
              clear e9
              go_wp2_with fail
              go_meet
              exact ⟨(m + 1), (ps ++ [v]), (some ⟨g9, 0, none⟩), cap, by omega, HPL, HP, Lib.hid (fun k e => by have : g9 = k := (by simpa [Value.ownBlock] using e); omega), HX, Lib.hid (HS.out.more (by omega)), HG, HO, HZ, HW⟩
            · skip
              go_simp
              obtain ⟨W8, hWW8⟩ : ∃ z, z = World.alloc W7 (Obj.cells #[Value.int IntKind.i64 v] 2) := ⟨_, rfl⟩
              obtain ⟨gn, hggn⟩ : ∃ z, z = (W7).heap.size := ⟨_, rfl⟩
              have HN : Hid (Blk W8 gn 2 #[Value.int IntKind.i64 v]) := Lib.hid (by rw [hWW8, hggn]; exact Blk.new _ _ _)
              have hb : Below (W7).heap.size W7 W8 := by rw [hWW8]; exact bl_alloc (Below.refl (W7).heap.size (W7)) _
              have hgn0 : w.heap.size ≤ gn := by rw [hggn]; exact HW.out
              have hgn1 : g < gn := by have := HS.out.lt; omega
              have hgn_HX := Nat.ne_of_lt (hggn ▸ HX.out.lt)
              have hgn_HZ := Nat.ne_of_lt (hggn ▸ HZ.out.lt)
              replace HS := Lib.hid (HS.out.below hb)
              replace HG := Lib.hid (grown_below HG.out hb)
              replace HO := Lib.hid (own_below HO.out hb)
              replace HP := Lib.hid (own_below HP.out hb)
              replace HX := Lib.hid (HX.out.below hb)
              replace HZ := Lib.hid (HZ.out.below hb)
              replace HW := Lib.hid (Nat.le_trans HW.out (hb).size)
              have hn_W8 : gn + 1 = W8.heap.size := by rw [hWW8, hggn]; exact (World.size_alloc _ _).symm
              rw [← hWW8, ← hggn]
              clear hWW8 hggn hb

              refine hK.out _ _ (trivial) (fun _ => ?_)
              clear hK K
              try simp only [Act.put, List.setIfInBounds_toArray, List.set_cons_zero, List.set_cons_succ]
              refine wpAnyH_ready (rs := [1]) (by kernel_rfl) (by simp) ?_
              refine (AllReadyH.cons (o := { dst := some 37, op := _, type := _, pos := _, after := _, guard := _ }) rfl (fun K hK => ?_) AllReadyH.nil)
              have k0 : World.cell? (W8) ⟨gx, 0, none⟩ = some (.slice B m e) := HX.out.cell 0
              go_simp
              refine hK.out _ _ (trivial) (fun _ => ?_)
              clear hK K
              try simp only [Act.put, List.setIfInBounds_toArray, List.set_cons_zero, List.set_cons_succ]
              refine wpAnyH_ready (rs := [8]) (by kernel_rfl) (by simp) ?_
              refine (AllReadyH.cons (o := { dst := some 44, op := _, type := _, pos := _, after := _, guard := _ }) rfl (fun K hK => ?_) AllReadyH.nil)
              have hgpW := HX.out.lt
              refine step_append_lies W8 rfl _ _ _ rfl gp 2 i0 _ 1 8 Try.underlying25 hi0 hz0 hz1 hz2 rfl (by omega) (.slice B m e) m (flat icell ps) (by rfl) HP.out ⟨gn, 0, none⟩ 1 1 #[Value.int IntKind.i64 v].toList (by rfl) rfl (World.news_of_block HN.out) (by simp [Value.oneCell']) (by omega) (by unfold maxLen; omega) (by omega) (by omega) W8.heap.size rfl ?_
              intro g9 cap W9 hown9 hg9 hat hlt9
              have hxl := HX.out.lt
              have H9X : g9 ≠ gx := by
                rcases hat with h | h
                · exact HPX.out g9 h
                · omega
              clear HN
              clear hgpW
              have HPO := HP
              replace HS := Lib.hid (HS.out.over hg9 (fun i e => by have := own_at HP.out i e; omega))
              replace HG := Lib.hid (grown_over HG.out hg9 (fun i e => by have := own_at HP.out i e; omega))
              replace HO := Lib.hid (HO.out.kept hg9 (by cases hk : (Value.slice A n c).ownBlock with | none => exact .inl rfl | some k => exact .inr (fun e => by have h1 := HAL.out k hk; have h2 := own_at HPO.out k e.symm; omega)))
              replace HX := Lib.hid (HX.out.grown hg9 (fun e => HPX.out gx e.symm rfl))
              replace HZ := Lib.hid (HZ.out.grown hg9 (fun e => by have := own_at HP.out _ e.symm; omega))
              replace HW := Lib.hid (Nat.le_trans HW.out hg9.size)
              replace HP := Lib.hid hown9
              clear hown9 hg9
              clear HPO HPX hat

              refine hK.out _ _ (trivial) (fun _ => ?_)
              clear hK K
              try simp only [Act.put, List.setIfInBounds_toArray, List.set_cons_zero, List.set_cons_succ]
              refine wpAnyH_ready (rs := [9]) (by kernel_rfl) (by simp) ?_
              refine (AllReadyH.cons (o := { dst := some 45, op := _, type := _, pos := _, after := _, guard := _ }) rfl (fun K hK => ?_) AllReadyH.nil)
              go_simp
              refine hK.out _ _ (trivial) (fun _ => ?_)
              clear hK K
              try simp only [Act.put, List.setIfInBounds_toArray, List.set_cons_zero, List.set_cons_succ]
              refine wpAnyH_ready (rs := [10]) (by kernel_rfl) (by simp) ?_
              refine (AllReadyH.cons (o := { dst := none, op := _, type := _, pos := _, after := _, guard := _ }) rfl (fun K hK => ?_) AllReadyH.nil)
              have k0 : W9.cell? ⟨gx, 0, none⟩ = some (.slice B m e) := HX.out.cell 0
              have f0 := HX.out.frozen 0
              go_simp
              clear k0 f0
              obtain ⟨W11, hW⟩ : ∃ z, z = World.setCell W9 ⟨gx, 0, none⟩ (Value.slice (some ⟨g9, 0, none⟩) (m + 1) cap) := ⟨_, rfl⟩
              replace HX := Lib.hid (HX.out.set_ 0 (Value.slice (some ⟨g9, 0, none⟩) (m + 1) cap))
              replace HS := Lib.hid (HS.out.far (p := ⟨gx, 0, none⟩) (by simp only; omega) (Value.slice (some ⟨g9, 0, none⟩) (m + 1) cap))
              replace HG := Lib.hid (grown_setCell (p := ⟨gx, 0, none⟩) HG.out (.inr (by simp only; omega)) (Value.slice (some ⟨g9, 0, none⟩) (m + 1) cap))
              replace HO := Lib.hid (own_far HO.out (p := ⟨gx, 0, none⟩) (fun k e => by have := HAL.out k e; simp only; omega) (Value.slice (some ⟨g9, 0, none⟩) (m + 1) cap))
              replace HP := Lib.hid (own_far HP.out (p := ⟨gx, 0, none⟩) (fun k e => by have : g9 = k := (by simpa [Value.ownBlock] using e); simp only; omega) (Value.slice (some ⟨g9, 0, none⟩) (m + 1) cap))
              replace HZ := Lib.hid (HZ.out.far (p := ⟨gx, 0, none⟩) (by simp only; omega) (Value.slice (some ⟨g9, 0, none⟩) (m + 1) cap))
              replace HW := Lib.hid (show w.heap.size ≤ (World.setCell W9 ⟨gx, 0, none⟩ (Value.slice (some ⟨g9, 0, none⟩) (m + 1) cap)).heap.size by rw [World.size_setCell]; exact HW.out)
              rw [← hW] at HS HG HW HO HP HX HZ ⊢
              clear hW
              replace HX : Hid (Blk W11 gx 27 #[Value.slice (some ⟨g9, 0, none⟩) (m + 1) cap]) := HX

              refine hK.out _ _ (trivial) (fun _ => ?_)
              clear hK K
              try simp only [Act.put]
              refine wpAnyH_done (by kernel_rfl) ?_ _
              have e9 : flat icell (ps ++ [v]) = flat icell ps ++ #[Value.int IntKind.i64 v].toList := by simp [flat, icell]
              rw [← e9] at HP
              replace HPL : Hid ((ps ++ [v]).length = m + 1) := Lib.hid (by rw [List.length_append, HPL.out]; rfl)
              clear e9
              go_wp2_with fail
              go_meet
              exact ⟨(m + 1), (ps ++ [v]), (some ⟨g9, 0, none⟩), cap, by omega, HPL, HP, Lib.hid (fun k e => by have : g9 = k := (by simpa [Value.ownBlock] using e); omega), HX, Lib.hid (HS.out.more (by omega)), HG, HO, HZ, HW⟩
      by_cases h1 : r2 = 1
      case pos =>
        subst h1
        go_wp2_with fail
        have hA := arr_new W5 2 #[.int .i64 0, .int .i64 6, .int .i64 7]
        have hgA := HS.out.lt
        replace HS := Lib.hid (HS.out.below (bl_alloc (Below.refl _ _) (.cells #[.int .i64 0, .int .i64 6, .int .i64 7] 2)))
        replace HG := Lib.hid (grown_alloc HG.out (.cells #[.int .i64 0, .int .i64 6, .int .i64 7] 2))
        replace HO := Lib.hid (HO.out.alloc (.cells #[.int .i64 0, .int .i64 6, .int .i64 7] 2))
        replace HP := Lib.hid (HP.out.alloc (.cells #[.int .i64 0, .int .i64 6, .int .i64 7] 2))
        replace HX := Lib.hid (HX.out.alloc (.cells #[.int .i64 0, .int .i64 6, .int .i64 7] 2))
        replace HZ := Lib.hid (HZ.out.alloc (.cells #[.int .i64 0, .int .i64 6, .int .i64 7] 2))
        replace HW := Lib.hid (show w.heap.size ≤ (World.alloc W5 (.cells #[.int .i64 0, .int .i64 6, .int .i64 7] 2)).heap.size by have := HW.out; rw [World.size_alloc]; omega)
        refine (among_c g _ _ [0, 6, 7] 3 3 (Lib.hid rfl) (by omega) (by omega) (by omega) _ HS.out hA (fun ad e => by injection e with e; subst e; simp only; omega)).mono ?_
        rintro e W6 ⟨v, hv, rfl, hS, hg⟩
        replace HS := Lib.hid hS
        replace HG := Lib.hid (grown_trans HG.out hg)
        replace HO := Lib.hid (HO.out.kept hg (.inr (fun e => by have := own_at HO.out g e; omega)))
        replace HP := Lib.hid (HP.out.kept hg (.inr (fun e => by have := own_at HP.out g e; omega)))
        replace HX := Lib.hid (HX.out.grown hg (by intro e; injection e; omega))
        replace HZ := Lib.hid (HZ.out.grown hg (by intro e; injection e; omega))
        replace HW := Lib.hid (Nat.le_trans HW.out hg.size)
        clear hS hg
        have HV_v := Lib.hid hv
        clear hA hv hgA
        obtain ⟨mm, hmm, rfl⟩ : ∃ mm : Nat, mm ≤ 7 ∧ v = (mm : Int) := by
          have h := HV_v.out
          simp only [List.mem_cons, List.not_mem_nil, or_false] at h
          rcases h with rfl | rfl | rfl
          · exact ⟨0, by omega, rfl⟩
          · exact ⟨6, by omega, rfl⟩
          · exact ⟨7, by omega, rfl⟩
        have hmm0 : (0 : Int) ≤ (mm : Int) := by omega
        go_wp2_with (at_make; refine wpList_make_full _ rfl _ _ 25 rfl gp 2 i0 _ 1 Try.underlying25 hi0 hz0 hz1 _ _ _ _ mm rfl rfl rfl rfl (by rw [hz2]; omega) (by unfold maxLen; omega) (by have := HX.out.lt; omega) ?_; intro W7 hown9 hg9; have k0 : W7.cell? ⟨gx, 0, none⟩ = some (.slice B m e) := (HX.out.grown hg9 (by simp)).cell 0; have f0 := (HX.out.grown hg9 (by simp)).frozen 0)
        have hb9 : Below W6.heap.size W6 W7 := bl_grown (Below.refl _ _) hg9 (fun k e => by cases e)
        have hxl := HX.out.lt
        obtain ⟨g9, hg9'⟩ : ∃ z, z = W6.heap.size := ⟨_, rfl⟩
        rw [← hg9'] at hown9 hxl ⊢
        clear hg9' HV_v
        replace HS := Lib.hid (HS.out.below hb9)
        replace HG := Lib.hid (grown_below HG.out hb9)
        replace HO := Lib.hid (own_below HO.out hb9)
        replace HP := Lib.hid (own_below HP.out hb9)
        replace HX := Lib.hid (HX.out.below hb9)
        replace HZ := Lib.hid (HZ.out.below hb9)
        replace HW := Lib.hid (Nat.le_trans HW.out (hb9).size)
        rw [show (madeCells (Value.int IntKind.i64 0).cells (mm * 1)).toList = flat icell (List.replicate mm 0) from by rw [Nat.mul_one]; exact (toList_madeCells_one _ _).trans (flat_rep mm)] at hown9
        replace HP := Lib.hid hown9
        replace HPL : Hid ((List.replicate mm (0 : Int)).length = mm) := Lib.hid (by simp)
        clear hown9 hg9 hb9 HPX
        obtain ⟨W8, hW⟩ : ∃ z, z = World.setCell W7 ⟨gx, 0, none⟩ (Value.slice (some ⟨g9, 0, none⟩) mm mm) := ⟨_, rfl⟩
        replace HX := Lib.hid (HX.out.set_ 0 (Value.slice (some ⟨g9, 0, none⟩) mm mm))
        replace HS := Lib.hid (HS.out.far (p := ⟨gx, 0, none⟩) (by simp only; omega) (Value.slice (some ⟨g9, 0, none⟩) mm mm))
        replace HG := Lib.hid (grown_setCell (p := ⟨gx, 0, none⟩) HG.out (.inr (by simp only; omega)) (Value.slice (some ⟨g9, 0, none⟩) mm mm))
        replace HO := Lib.hid (own_far HO.out (p := ⟨gx, 0, none⟩) (fun k e => by have := HAL.out k e; simp only; omega) (Value.slice (some ⟨g9, 0, none⟩) mm mm))
        replace HP := Lib.hid (own_far HP.out (p := ⟨gx, 0, none⟩) (fun k e => by have : g9 = k := (by simpa [Value.ownBlock] using e); simp only; omega) (Value.slice (some ⟨g9, 0, none⟩) mm mm))
        replace HZ := Lib.hid (HZ.out.far (p := ⟨gx, 0, none⟩) (by simp only; omega) (Value.slice (some ⟨g9, 0, none⟩) mm mm))
        replace HW := Lib.hid (show w.heap.size ≤ (World.setCell W7 ⟨gx, 0, none⟩ (Value.slice (some ⟨g9, 0, none⟩) mm mm)).heap.size by rw [World.size_setCell]; exact HW.out)
        rw [← hW] at HS HG HW HO HP HX HZ ⊢
        clear hW
        replace HX : Hid (Blk W8 gx 27 #[Value.slice (some ⟨g9, 0, none⟩) mm mm]) := HX
        go_wp2_with fail
        go_meet
        exact ⟨mm, (List.replicate mm (0 : Int)), (some ⟨g9, 0, none⟩), mm, by omega, HPL, HP, Lib.hid (fun k e => by have : g9 = k := (by simpa [Value.ownBlock] using e); omega), HX, Lib.hid (HS.out.more (by omega)), HG, HO, HZ, HW⟩
      go_wp2_with fail
      go_meet
      exact ⟨m, ps, B, e, by omega, HPL, HP, HPX, HX, Lib.hid (HS.out.more (by omega)), HG, HO, HZ, HW⟩
    case rest =>
    clear HX HS HG HO HZ HW HP HPX HPL
    obtain ⟨m, ps, B, e, hm4, HPL, HP, HPX, HX, HS, HG, HO, HZ, HW⟩ := hcut
    go_wp2_with fail
    refine wp_region_held_drew (S := fun _ => True) (by kernel_rfl) ?_ (fun _ => ?_)
    · trivial
    replace HS := Lib.hid (HS.out.below (Below.refl (wc).heap.size (wc)).drew)
    replace HG := Lib.hid (grown_below HG.out (Below.refl (wc).heap.size (wc)).drew)
    replace HO := Lib.hid (own_below HO.out (Below.refl (wc).heap.size (wc)).drew)
    replace HP := Lib.hid (own_below HP.out (Below.refl (wc).heap.size (wc)).drew)
    replace HX := Lib.hid (HX.out.below (Below.refl (wc).heap.size (wc)).drew)
    replace HZ := Lib.hid (HZ.out.below (Below.refl (wc).heap.size (wc)).drew)
    replace HW := Lib.hid (Nat.le_trans HW.out ((Below.refl (wc).heap.size (wc)).drew).size)
    refine wpAnyH_take (i := 0) (oi := { dst := some 53, op := _, type := _, pos := _, after := _, guard := _ }) (v := ?_) rfl (by kernel_rfl) (by kernel_rfl) (by kernel_rfl) (fun _ _ _ h => h) (Or.inl ⟨by kernel_rfl, ?_⟩) (trivial) ?_
    rotate_left
    · intro w hSw
      try dsimp only at hSw
      go_simp
      try with_reducible rfl
    try simp only [Act.put, List.setIfInBounds_toArray, List.set_cons_zero, List.set_cons_succ]
    refine wpAnyH_take (i := 2) (oi := { dst := some 2, op := _, type := _, pos := _, after := _, guard := _ }) (v := ?_) rfl (by kernel_rfl) (by kernel_rfl) (by kernel_rfl) (fun _ _ _ h => h) (Or.inl ⟨by kernel_rfl, ?_⟩) (trivial) ?_
    rotate_left
    · intro w hSw
      try dsimp only at hSw
      go_simp
      try with_reducible rfl
    try simp only [Act.put, List.setIfInBounds_toArray, List.set_cons_zero, List.set_cons_succ]
    refine wpAnyH_ready (rs := [1]) (by kernel_rfl) (by simp) ?_
    refine (AllReadyH.cons (o := { dst := some 54, op := _, type := _, pos := _, after := _, guard := _ }) rfl (fun K hK => ?_) AllReadyH.nil)
    have k0 : World.cell? ((wc).drew) ⟨gx, 0, none⟩ = some (.slice B m e) := HX.out.cell 0
    go_simp
    refine hK.out _ _ (trivial) (fun _ => ?_)
    clear hK K
    try simp only [Act.put, List.setIfInBounds_toArray, List.set_cons_zero, List.set_cons_succ]
    refine wpAnyH_ready (rs := [3]) (by kernel_rfl) (by simp) ?_
    refine (AllReadyH.cons (o := { dst := none, op := _, type := _, pos := _, after := _, guard := _ }) rfl (fun K hK => ?_) AllReadyH.nil)
    have k0 : World.cell? ((wc).drew) ⟨gz, 0, none⟩ = some (.slice none 0 0) := HZ.out.cell 0
    have f0 := HZ.out.frozen 0
    go_simp
    clear k0 f0
    have eW : World.setCell (wc).drew ⟨gz, 0, none⟩ (Value.slice B m e) = (World.setCell wc ⟨gz, 0, none⟩ (Value.slice B m e)).drew := rfl
    obtain ⟨W10, hW⟩ : ∃ z, z = (World.setCell wc ⟨gz, 0, none⟩ (Value.slice B m e)).drew := ⟨_, rfl⟩
    replace HZ := Lib.hid (HZ.out.set_ 0 (Value.slice B m e))
    replace HS := Lib.hid (HS.out.far (p := ⟨gz, 0, none⟩) (by simp only; omega) (Value.slice B m e))
    replace HG := Lib.hid (grown_setCell (p := ⟨gz, 0, none⟩) HG.out (.inr (by simp only; omega)) (Value.slice B m e))
    replace HO := Lib.hid (own_far HO.out (p := ⟨gz, 0, none⟩) (fun k e => HAZ.out k e) (Value.slice B m e))
    replace HP := Lib.hid (own_far HP.out (p := ⟨gz, 0, none⟩) (fun k e => by have := own_at HP.out k e; simp only; omega) (Value.slice B m e))
    replace HX := Lib.hid (HX.out.far (p := ⟨gz, 0, none⟩) (by simp only; omega) (Value.slice B m e))
    replace HW := Lib.hid (show w.heap.size ≤ (World.setCell (wc).drew ⟨gz, 0, none⟩ (Value.slice B m e)).heap.size by rw [World.size_setCell]; exact HW.out)
    rw [eW, ← hW] at HS HG HW HO HP HX HZ
    rw [← hW]
    clear hW eW
    replace HZ : Hid (Blk W10 gz 27 #[Value.slice B m e]) := HZ

    refine hK.out _ _ (trivial) (fun _ => ?_)
    clear hK K
    try simp only [Act.put]
    refine wpAnyH_done (by kernel_rfl) ?_ _
    have m0 : W10.cell? ⟨gz, 0, none⟩ = some (.slice B m e) := HZ.out.cell 0
    go_wp2_with fail
    try simp only [Exit.inBlock, Exit.then]
    refine bodyPost_ret (v := .tuple #[.slice A n c, .agg #[.slice B m e]]) (by simp [results, Try.results51, go_sem, m0]) rfl ?_
    exact ⟨A, xs, n, c, B, ps, m, e, rfl, HXL.out, hn5, HXS.out, HPL.out, by omega, HO.out, own_base HP.out (by omega), HS.out.more (by omega), HG.out⟩
end Go.Proofs.Ytopbiihiogbhiaa
