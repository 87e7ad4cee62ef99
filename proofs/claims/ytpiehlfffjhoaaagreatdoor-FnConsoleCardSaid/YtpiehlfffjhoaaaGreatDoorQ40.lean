/- The console's command alter (the program's). -/
import Derived.Test.YtpiehlfffjhoaaaGreatDoorQ0
import Derived.Test.YtpiehlfffjhoaaaGreatDoorQ34
import Derived.Test.YtpiehlfffjhoaaaGreatDoorQ39
import Derived.Deep.CutBlock
import Derived.Deep.DeepCutAuto
namespace Go.Proofs.YtpiehlfffjhoaaaGreatDoor
open Go.RowKit
theorem own_setCellsJ {g n c base e size : Nat} : ∀ (vs cs : List Value) (o : Nat) (w : World), w.ownsRow base e size (.slice (some ⟨g, 0, none⟩) n c) n cs → (w.setCells g o vs).ownsRow base e size (.slice (some ⟨g, 0, none⟩) n c) n (setMany cs o vs) := by
 intro vs
 induction vs with
 | nil => intro cs o w h; exact h
 | cons v r ih =>
   intro cs o w h
   exact ih _ _ _ (h.stored o v).1
theorem flat_put {xs : List Last} {k : Nat} {y : Last} (hk : k < xs.length) : setMany (flat Last.cells xs) (k * 6) y.cells = flat Last.cells (xs.set k y) := by
 have hl : (flat Last.cells xs).length = xs.length * 6 := flat_length Last.cells_length xs
 have hy : y.cells.length = 6 := Last.cells_length y
 have key : ∀ (xs : List Last) (k : Nat), k < xs.length → (flat Last.cells xs).take (k * 6) ++ y.cells ++ (flat Last.cells xs).drop (k * 6 + 6) = flat Last.cells (xs.set k y) := by
   intro xs
   induction xs with
   | nil => intro k h; simp at h
   | cons x r ih =>
     intro k h
     cases k with
     | zero =>
       have hx : x.cells.length = 6 := Last.cells_length x
       simp [flat, hx]
     | succ k =>
       have hx : x.cells.length = 6 := Last.cells_length x
       have h1 := ih k (by simpa using h)
       have e1 : flat Last.cells (x :: r) = x.cells ++ flat Last.cells r := by simp [flat]
       rw [e1, List.set_cons_succ]
       have e2 : flat Last.cells (x :: r.set k y) = x.cells ++ flat Last.cells (r.set k y) := by simp [flat]
       rw [e2, ← h1]
       have e3 : (k + 1) * 6 = x.cells.length + k * 6 := by omega
       have e4 : (k + 1) * 6 + 6 = x.cells.length + (k * 6 + 6) := by omega
       rw [e4, e3, List.take_length_add_append, List.drop_length_add_append]
       simp [List.append_assoc]
 rw [setMany_eq _ _ _ (by rw [hl, hy]; omega), hy]
 exact key xs k hk
theorem own_there {w : World} {base e n c g o m : Nat} {cs : List Value} {size : Nat} (h : w.ownsRow base e size (.slice (some ⟨g, 0, none⟩) n c) n cs) (hm : o + m ≤ n * size) : w.there g o m := by
 rcases h.2 with ⟨hv, _⟩ | ⟨g', cap, cur, hv, _, hg, hnc, _, hcs, _⟩
 · cases hv
 · simp only [Value.slice.injEq, Option.some.injEq, Addr.mk.injEq, and_true] at hv
   obtain ⟨rfl, _, rfl⟩ := hv
   have hle : n * size ≤ c * size := Nat.mul_le_mul_right _ hnc
   exact blk_there (cs := cur) hg (by rw [hcs]; omega)
set_option maxRecDepth 100000 in
set_option maxHeartbeats 8000000 in
theorem exe_alter (w0 w : World) (gd ga : Nat) (f : Foot) (xs : List Last) (s : Style) (lg : ByteArray) (n c : Nat) (A An : Option Addr) (ws : List ByteArray) (ns : List Int) (nw kn cn : Nat) (h : XIn w0 w gd ga f xs s lg n c A An ws ns nw kn) (hk : nthD ws 0 = kAlter) (_h2 : 2 ≤ nw) (h4 : 4 ≤ nw) :
   Calls Tryz.prog 35 #[.pointer (some ⟨gd, 0, none⟩), .slice (some ⟨ga, 0, none⟩) nw nw, .slice An kn cn] w (OutX w0 gd (alterD ⟨f, xs, s, lg⟩ (nthD ws 1) (nthD ws 2 ++ ⟨#[32]⟩ ++ nthD ws 3))) := by
 have HBW := qH h.hbw
 have HWS := qH h.hws
 have HD : Hid (Blk w gd 32 #[.int .i64 f.length, .int .i64 f.ball, .int .i64 f.instep, .int .i64 f.heel, .slice A n c, .string s.upper, .string s.color, .string s.lining, .string s.sole, .int .i64 s.thick, .int .i64 s.heel, .int .i64 s.eyelets, .int .i64 s.density, .bool s.double, .string lg]) := qH h.hdk
 have HO := qH h.hown
 have HNE := qH h.hne
 have HT := qH h.htabs
 have HCN := qH h.hchg
 have HOK := qH h.hok
 have HSZ := qH h.hsz
 have hn := h.hn
 have hnw := h.hnw
 have hkn := h.hkn
 have hgd := h.hgd
 have hn30 := h.n30
 have hnw0 := h.nw0
 have hnw1 := h.nw1
 have HJ := qH (h.join)
 have hx0 := h.word0 hk
 have HK := qH hk
 obtain ⟨hfB, hlB, hsB, hcB⟩ := ok_parts h.hok
 have HNZ : Hid (∀ x ∈ xs, x.name.size ≤ 9223372036854775807) := qH (fun x hx => Nat.le_trans (lastB_name (las_mem hlB x hx)) (by omega))
 have HLB := qH hlB
 have hz1 := h.hsz (nthD ws 1)
 have hm1 : nthD ws 1 ∈ ws := by
   unfold nthD
   have h3 : 1 < ws.length := by rw [h.hnw.out]; omega
   rw [List.getD_eq_getElem?_getD, List.getElem?_eq_getElem h3]
   exact List.getElem_mem h3
 replace hz1 := hz1 hm1
 clear hm1
 have w1 := h.word (k := 1) (by omega)
 have hz2 := h.hsz (nthD ws 2)
 have hm2 : nthD ws 2 ∈ ws := by
   unfold nthD
   have h3 : 2 < ws.length := by rw [h.hnw.out]; omega
   rw [List.getD_eq_getElem?_getD, List.getElem?_eq_getElem h3]
   exact List.getElem_mem h3
 replace hz2 := hz2 hm2
 clear hm2
 have w2 := h.word (k := 2) (by omega)
 have hz3 := h.hsz (nthD ws 3)
 have hm3 : nthD ws 3 ∈ ws := by
   unfold nthD
   have h3 : 3 < ws.length := by rw [h.hnw.out]; omega
   rw [List.getD_eq_getElem?_getD, List.getElem?_eq_getElem h3]
   exact List.getElem_mem h3
 replace hz3 := hz3 hm3
 clear hm3
 have w3 := h.word (k := 3) (by omega)
 clear hfB hlB hsB hcB
 clear h hk
 have hl1 : (1 : Int) ≤ (nw : Int) := by omega
 have hl2 : ¬ (nw - 1 = 0) := by omega
 have hl0 : (0 : Int) < (nw : Int) := by omega
 have hx1 : w.cell? ⟨ga, 0, none⟩ = some (.string ⟨#[97, 108, 116, 101, 114]⟩) := hx0
 clear hx0
 go_enter Tryz.func35, Tryz.ntmps35
 go_wp2_with fail
 refine HJ.out.mono ?_
 rintro e W ⟨rfl, hb⟩
 obtain ⟨rt, hrt⟩ : ∃ z, z = restD ws := ⟨_, rfl⟩
 have HRT := qH hrt
 rw [← hrt]
 clear hrt HJ
 replace HBW := qH (bl_trans HBW.out hb)
 replace HD := qH (HD.out.below hb)
 replace HO := qH (own_below HO.out hb)
 replace hx1 := bl_cell hb hx1
 replace w1 := bl_cell hb w1
 replace w2 := bl_cell hb w2
 replace w3 := bl_cell hb w3
 clear hb
 clear hl1 hl2
 obtain ⟨p1, hp1⟩ : ∃ z, z = nthD ws 1 := ⟨_, rfl⟩
 rw [← hp1] at w1 hz1
 have HP1 := qH hp1
 clear hp1
 obtain ⟨p2, hp2⟩ : ∃ z, z = nthD ws 2 := ⟨_, rfl⟩
 rw [← hp2] at w2 hz2
 have HP2 := qH hp2
 clear hp2
 obtain ⟨p3, hp3⟩ : ∃ z, z = nthD ws 3 := ⟨_, rfl⟩
 rw [← hp3] at w3 hz3
 have HP3 := qH hp3
 clear hp3
 have h1 : (1 : Int) < (nw : Int) := by omega
 have h2' : (2 : Int) < (nw : Int) := by omega
 have h3 : (3 : Int) < (nw : Int) := by omega
 have l1 : (⟨#[32]⟩ : ByteArray).size = 1 := rfl
 have a0 := fun (w : World) => run_string_add_sum (P := Tryz.prog) w p2 ⟨#[32]⟩ (by omega)
 have a1 := fun (w : World) => run_string_add_sum (P := Tryz.prog) w (p2 ++ ⟨#[32]⟩) p3 (by rw [app_size]; omega)
 have htz : (p2 ++ ⟨#[32]⟩ ++ p3).size ≤ 4194304 := by rw [app_size, app_size]; omega
 obtain ⟨tx, htx⟩ : ∃ z, z = p2 ++ ⟨#[32]⟩ ++ p3 := ⟨_, rfl⟩
 have HTX := qH htx
 rw [← htx] at a1 htz
 clear htx
 have HRC := fun w h1 h2 => ReadChange_c tx htz w h1 h2
 have HNO := qH (fun (h : rdCh tx = none) => (show alterD ⟨f, xs, s, lg⟩ p1 tx = (⟨f, xs, s, lg⟩, [], 7) by unfold alterD; rw [h]; rfl))
 have HYE := qH (fun k a (h : rdCh tx = some (k, a)) => (show alterD ⟨f, xs, s, lg⟩ p1 tx = if (namP xs p1).2 = 0 then
     (if (aplP (atD ⟨f, xs, s, lg⟩ p1) k a).2 = 0 then (⟨f, xs.set (namP xs p1).1.toNat (aplP (atD ⟨f, xs, s, lg⟩ p1) k a).1, s, lg⟩, [ltB (aplP (atD ⟨f, xs, s, lg⟩ p1) k a).1], 0) else (⟨f, xs, s, lg⟩, [], (aplP (atD ⟨f, xs, s, lg⟩ p1) k a).2))
   else (⟨f, xs, s, lg⟩, [], (namP xs p1).2) by unfold alterD; rw [h]; rfl))
 obtain ⟨o, ho⟩ : ∃ z, z = rdCh tx := ⟨_, rfl⟩
 rw [← ho] at HRC HNO HYE
 clear ho
 obtain ⟨ck, hck⟩ : ∃ z, z = (o.getD (0, 0)).1 := ⟨_, rfl⟩
 obtain ⟨ca, hca⟩ : ∃ z, z = (o.getD (0, 0)).2 := ⟨_, rfl⟩
 obtain ⟨cb, hcb⟩ : ∃ z, z = o.isSome := ⟨_, rfl⟩
 unfold outCh at HRC
 rw [← hck, ← hca, ← hcb] at HRC
 have HCK := qH hck
 have HCA := qH hca
 have HCB := qH hcb
 replace HRC := qH HRC
 clear hck hca hcb
 go_upto_region 37 with fail
 go_cut [23, 24] (fun p b wx => ∃ gz, p = .pointer (some ⟨gz, 0, none⟩) ∧ b = .bool cb ∧ W.heap.size ≤ gz ∧ Hid (Blk wx gz 126 #[.int .i64 ck, .int .i64 ca]) ∧ Below W.heap.size W wx)
 case first =>
   refine wp_region_held_drew (S := fun w' => Below W.heap.size W w' ∧ True) (by as_aux_lemma => kernel_rfl) ?_ (fun hHeld => ?_)
   · exact ⟨(Below.refl _ _).drew, trivial⟩
   have hd9 := hHeld.1
   refine zU 0 174 rfl (by assumption) ?_
   try simp only [Act.put, zA, zB, zC]
   refine zU 1 175 rfl (by assumption) ?_
   try simp only [Act.put, zA, zB, zC]
   refine zT 2 176 ?_ rfl ?_ (by assumption) ?_
   rotate_left
   · intro w hSw
     try dsimp only at hSw
     have x_w2 := bl_cell hSw.1 w2
     go_simp
     try with_reducible rfl
   try simp only [Act.put, zA, zB, zC]
   refine zU 3 177 rfl (by assumption) ?_
   try simp only [Act.put, zA, zB, zC]
   refine zU 4 178 rfl (by assumption) ?_
   try simp only [Act.put, zA, zB, zC]
   refine zU 5 179 rfl (by assumption) ?_
   try simp only [Act.put, zA, zB, zC]
   refine zT 6 180 ?_ rfl ?_ (by assumption) ?_
   rotate_left
   · intro w hSw
     try dsimp only at hSw
     have x_w3 := bl_cell hSw.1 w3
     go_simp
     try with_reducible rfl
   try simp only [Act.put, zA, zB, zC]
   refine zU 7 181 rfl (by assumption) ?_
   try simp only [Act.put, zA, zB, zC]
   refine wpAnyH_ready (rs := [8, 12]) (by as_aux_lemma => kernel_rfl) (by simp) ?_
   refine AllReadyH.cons (o := { dst := some 182, op := _, type := _, pos := _, after := _, guard := _ }) rfl (fun K hK => ?_) (AllReadyH.cons (o := { dst := some 23, op := _, type := _, pos := _, after := _, guard := _ }) rfl (fun K hK => ?_) AllReadyH.nil)
   · skip
     go_simp
     (try dsimp only at hHeld); go_split_ands
     refine (HRC.out _ (HT.out.below (bl_trans HBW.out hd9)) (HCN.out.below (bl_trans HBW.out hd9))).mono ?_
     rintro e V ⟨rfl, hb9⟩
     replace hd9 := bl_trans hd9 hb9
     clear hb9
     go_wp2_with fail
     refine hK.out _ _ ?_ (fun hHeld => ?_)
     · (try dsimp only); go_split_ands; exact ⟨hd9, trivial⟩
     clear hK K
     try simp only [Act.put, zA, zB, zC]
     refine zU 9 173 rfl (by assumption) ?_
     try simp only [Act.put, zA, zB, zC]
     refine zU 10 183 rfl (by assumption) ?_
     try simp only [Act.put, zA, zB, zC]
     refine zU 11 184 rfl (by assumption) ?_
     try simp only [Act.put, zA, zB, zC]
     refine zR 12 (some 23) rfl (fun K hK => ?_)
     go_simp
     (try dsimp only at hHeld); go_split_ands
     obtain ⟨V5, hV5⟩ : ∃ z, z = World.alloc V (Obj.cells #[.int .i64 0, .int .i64 0] 126) := ⟨_, rfl⟩
     obtain ⟨gz, hgz⟩ : ∃ z, z = V.heap.size := ⟨_, rfl⟩
     have HZ : Hid (Blk V5 gz 126 #[.int .i64 0, .int .i64 0]) := qH (by rw [hV5, hgz]; exact Blk.new V _ _)
     have hzW : W.heap.size ≤ gz := by rw [hgz]; exact hd9.size
     have hb9 : Below (V).heap.size (V) V5 := by rw [hV5]; exact bl_alloc (Below.refl _ _) _
     replace hd9 := bl_trans hd9 hb9
     rw [← hV5, ← hgz]
     clear hV5 hgz hb9
     refine hK.out _ _ ?_ (fun hHeld => ?_)
     · (try dsimp only); go_split_ands; exact ⟨hd9, trivial⟩
     clear hK K
     try simp only [Act.put, zA, zB, zC]
     refine zR 13 none rfl (fun K hK => ?_)
     skip
     (try dsimp only at hHeld); go_split_ands
     refine wp_store_row 126 _ _ rfl gz #[.int .i64 ck, .int .i64 ca] rfl rfl 126 #[Value.int .i64 0, Value.int .i64 0] HZ.out (by kernel_rfl) rfl (by simp [Value.oneCell']) ?_
     have HZ1 : Hid (Blk (World.setRow V5 gz #[Value.int .i64 ck, Value.int .i64 ca]) gz 126 #[.int .i64 ck, .int .i64 ca]) := qH (setRow_heap _ _ _ _ _ _ HZ.out)
     have hd8 := below_rowX hd9 hzW #[Value.int .i64 ck, Value.int .i64 ca]
     clear HZ hd9
     obtain ⟨V6, hV6⟩ : ∃ z, z = World.setRow V5 gz #[Value.int .i64 ck, Value.int .i64 ca] := ⟨_, rfl⟩
     rw [← hV6] at HZ1 hd8 ⊢
     clear hV6
     refine hK.out _ _ ?_ (fun hHeld => ?_)
     · (try dsimp only); go_split_ands; exact ⟨hd8, trivial⟩
     clear hK K
     try simp only [Act.put]
     refine zU 14 24 rfl (by assumption) ?_
     try simp only [Act.put, zA, zB, zC]
     refine wpAnyH_done (by as_aux_lemma => kernel_rfl) ?_ _
     go_wp2_with fail
     go_meet
     exact ⟨gz, rfl, rfl, hzW, HZ1, hd8⟩
   · skip
     go_simp
     (try dsimp only at hHeld); go_split_ands
     obtain ⟨V5, hV5⟩ : ∃ z, z = World.drew (World.alloc W (Obj.cells #[.int .i64 0, .int .i64 0] 126)) := ⟨_, rfl⟩
     obtain ⟨gz, hgz⟩ : ∃ z, z = W.heap.size := ⟨_, rfl⟩
     have HZ : Hid (Blk V5 gz 126 #[.int .i64 0, .int .i64 0]) := qH (by rw [hV5, hgz]; exact Blk.new W _ _)
     have hzW : W.heap.size ≤ gz := by rw [hgz]; exact hd9.size
     have hb9 : Below (W.drew).heap.size (W.drew) V5 := by rw [hV5]; exact bl_alloc (Below.refl _ _) _
     replace hd9 := bl_trans hd9 hb9
     rw [← hV5, ← hgz]
     clear hV5 hgz hb9
     refine hK.out _ _ ?_ (fun hHeld => ?_)
     · (try dsimp only); go_split_ands; exact ⟨hd9, trivial⟩
     clear hK K
     try simp only [Act.put, zA, zB, zC]
     refine zR 8 (some 182) rfl (fun K hK => ?_)
     go_simp
     (try dsimp only at hHeld); go_split_ands
     refine (HRC.out _ (HT.out.below (bl_trans HBW.out hd9)) (HCN.out.below (bl_trans HBW.out hd9))).mono ?_
     rintro e V ⟨rfl, hb9⟩
     have HZ2 := qH (HZ.out.below hb9)
     clear HZ
     have HZ := HZ2
     clear HZ2
     replace hd9 := bl_trans hd9 hb9
     clear hb9
     go_wp2_with fail
     refine hK.out _ _ ?_ (fun hHeld => ?_)
     · (try dsimp only); go_split_ands; exact ⟨hd9, trivial⟩
     clear hK K
     try simp only [Act.put, zA, zB, zC]
     refine zU 9 173 rfl (by assumption) ?_
     try simp only [Act.put, zA, zB, zC]
     refine zU 10 183 rfl (by assumption) ?_
     try simp only [Act.put, zA, zB, zC]
     refine zU 11 184 rfl (by assumption) ?_
     try simp only [Act.put, zA, zB, zC]
     refine zR 13 none rfl (fun K hK => ?_)
     skip
     (try dsimp only at hHeld); go_split_ands
     refine wp_store_row 126 _ _ rfl gz #[.int .i64 ck, .int .i64 ca] rfl rfl 126 #[Value.int .i64 0, Value.int .i64 0] HZ.out (by kernel_rfl) rfl (by simp [Value.oneCell']) ?_
     have HZ1 : Hid (Blk (World.setRow V gz #[Value.int .i64 ck, Value.int .i64 ca]) gz 126 #[.int .i64 ck, .int .i64 ca]) := qH (setRow_heap _ _ _ _ _ _ HZ.out)
     have hd8 := below_rowX hd9 hzW #[Value.int .i64 ck, Value.int .i64 ca]
     clear HZ hd9
     obtain ⟨V6, hV6⟩ : ∃ z, z = World.setRow V gz #[Value.int .i64 ck, Value.int .i64 ca] := ⟨_, rfl⟩
     rw [← hV6] at HZ1 hd8 ⊢
     clear hV6
     refine hK.out _ _ ?_ (fun hHeld => ?_)
     · (try dsimp only); go_split_ands; exact ⟨hd8, trivial⟩
     clear hK K
     try simp only [Act.put]
     refine zU 14 24 rfl (by assumption) ?_
     try simp only [Act.put, zA, zB, zC]
     refine wpAnyH_done (by as_aux_lemma => kernel_rfl) ?_ _
     go_wp2_with fail
     go_meet
     exact ⟨gz, rfl, rfl, hzW, HZ1, hd8⟩
 case rest =>
 clear a0 a1 w2 w3 HRC hx1
 obtain ⟨gz, rfl, rfl, hgzW, HB0, hb⟩ := hcut
 rename World => W4
 replace w1 := bl_cell hb w1
 have hgw0 : w0.heap.size ≤ gz := Nat.le_trans HBW.out.size hgzW
 replace HBW := qH (bl_trans HBW.out hb)
 replace HD := qH (HD.out.below hb)
 replace HO := qH (own_below HO.out hb)
 clear hb
 cases o with
 | none =>
   obtain rfl : cb = false := HCB.out
   have HE := qH (HNO.out rfl)
   go_wp2_with fail
   go_returns
   exact OutX.no (by rw [← HP1.out, ← HP2.out, ← HP3.out, ← HTX.out, HE.out]) (by decide) HBW.out
 | some p =>
 obtain ⟨k0, a0⟩ := p
 obtain rfl : cb = true := HCB.out
 obtain rfl : ck = k0 := HCK.out
 obtain rfl : ca = a0 := HCA.out
 have HE0 := HYE.out _ _ rfl
 have c4 : W4.cell? ⟨gd, 4, none⟩ = some (.slice A n c) := HD.out.cell 4
 have HLN := qH (lastNamed_c gd A xs n c p1 hn (by omega) HNZ (by omega) W4 (Arr.own HO.out) c4)
 clear c4 HNO HYE
 go_wp2_with fail
 refine HLN.out.mono ?_
 rintro e W5 ⟨rfl, hb⟩
 clear HLN w1
 replace HBW := qH (bl_trans HBW.out hb)
 replace HD := qH (HD.out.below hb)
 replace HO := qH (own_below HO.out hb)
 replace HB0 := qH (HB0.out.below hb)
 clear hb
 have hltz := HB0.out.lt
 have hszx := HBW.out.size
 obtain ⟨gx, hgz⟩ : ∃ z, z = W5.heap.size := ⟨_, rfl⟩
 obtain ⟨W6, hW3⟩ : ∃ z, z = W5.alloc (Obj.cells #[.string ⟨#[]⟩, .int .i64 0, .int .i64 0, .int .i64 0, .int .i64 0, .int .i64 0] 100) := ⟨_, rfl⟩
 have HBX : Hid (Blk W6 gx 100 #[.string ⟨#[]⟩, .int .i64 0, .int .i64 0, .int .i64 0, .int .i64 0, .int .i64 0]) := qH (by rw [hW3, hgz]; exact Blk.new _ _ _)
 have hb : Below W5.heap.size W5 W6 := by rw [hW3]; exact bl_alloc (Below.refl _ _) _
 have hgwx : w0.heap.size ≤ gx := by omega
 have hgnex : gd < gx := by have := HD.out.lt; omega
 have honex : Hid (∀ k, (Value.slice A n c).ownBlock = some k → k ≠ gx) := qH (fun k e => by have := own_lt HO.out k e; omega)
 have hzx : gz < gx := by omega
 have HGx := qH hgz
 have HWx := qH hW3
 clear hgz hW3
 replace HBW := qH (bl_trans HBW.out hb)
 replace HD := qH (HD.out.below hb)
 replace HO := qH (own_below HO.out hb)
 replace HB0 := qH (HB0.out.below hb)
 clear hb
 by_cases hc : (namP xs p1).2 = 0
 case neg =>
   rw [nmV_no hc]
   have HE := qH (HE0.trans (if_neg hc))
   obtain ⟨co, hco⟩ : ∃ z, z = (namP xs p1).2 := ⟨_, rfl⟩
   rw [← hco] at HE hc ⊢
   rw [show outNm (zLast, 0, co) = #[.agg #[.string ⟨#[]⟩, .int .i64 0, .int .i64 0, .int .i64 0, .int .i64 0, .int .i64 0], .int .i64 0, .int .i64 co] from rfl]
   clear hco HE0
   go_wp2_with (rw [← HWx.out, ← HGx.out]; refine wpList_store_row rfl 100 _ _ rfl gx #[.string ⟨#[]⟩, .int .i64 0, .int .i64 0, .int .i64 0, .int .i64 0, .int .i64 0] rfl rfl 100 _ HBX.out (by kernel_rfl) rfl (by simp [Value.oneCell']) ?_)
   go_returns
   exact OutX.no (by rw [← HP1.out, ← HP2.out, ← HP3.out, ← HTX.out, HE.out]) hc (below_rowX HBW.out hgwx _)
 obtain ⟨j, x, hk, hx, hnv⟩ := nmV_yes hc
 have hat : atD ⟨f, xs, s, lg⟩ p1 = x := by unfold atD; dsimp only; rw [hk, Int.toNat_natCast, hx]; rfl
 rw [if_pos hc, hat, hk, Int.toNat_natCast] at HE0
 have HXB := qH (las_mem HLB.out x (List.mem_of_getElem? hx))
 have hxz : x.name.size ≤ 9223372036854775807 := Nat.le_trans (lastB_name HXB.out) (by omega)
 have hjn : j < n := by rw [← hn.out]; exact (List.getElem?_eq_some_iff.1 hx).1
 have HAP := fun gc w h => ApplyChanges1_c x ck ca gc hxz w h
 have HAZ := qH (fun h => aplP_zero (x := x) (k := ck) (a := ca) h)
 rw [hnv]
 rw [show outNm (x, (j : Int), 0) = #[.agg #[.string x.name, .int .i64 x.length, .int .i64 x.ball, .int .i64 x.instep, .int .i64 x.heel, .int .i64 x.pitch], .int .i64 (j : Int), .int .i64 0] from rfl]
 unfold outAp at HAP
 obtain ⟨y, hy⟩ : ∃ z, z = (aplP x ck ca).1 := ⟨_, rfl⟩
 obtain ⟨co, hco⟩ : ∃ z, z = (aplP x ck ca).2 := ⟨_, rfl⟩
 rw [← hy, ← hco] at HAP HE0 HAZ
 replace HAP := qH HAP
 replace HE0 := qH HE0
 clear hy hco hat hnv hx hk hc
 go_upto_region 43 with (rw [← HWx.out, ← HGx.out]; refine wpList_store_row rfl 100 _ _ rfl gx #[.string x.name, .int .i64 x.length, .int .i64 x.ball, .int .i64 x.instep, .int .i64 x.heel, .int .i64 x.pitch] rfl rfl 100 _ HBX.out (by kernel_rfl) rfl (by simp [Value.oneCell']) ?_; have hf4 : Blk (World.setRow W6 gx #[Value.string x.name, Value.int .i64 x.length, Value.int .i64 x.ball, Value.int .i64 x.instep, Value.int .i64 x.heel, Value.int .i64 x.pitch]) gx 100 #[.string x.name, .int .i64 x.length, .int .i64 x.ball, .int .i64 x.instep, .int .i64 x.heel, .int .i64 x.pitch] := setRow_heap _ _ _ _ _ _ HBX.out; have hg4 := grown_rowX W6 gx #[Value.string x.name, Value.int .i64 x.length, Value.int .i64 x.ball, Value.int .i64 x.instep, Value.int .i64 x.heel, Value.int .i64 x.pitch]; have hd4 := HD.out.grown hg4 (fun e => by injection e with e; omega); have ho4 := own_row HO.out honex.out #[Value.string x.name, Value.int .i64 x.length, Value.int .i64 x.ball, Value.int .i64 x.instep, Value.int .i64 x.heel, Value.int .i64 x.pitch]; have hw4 := below_rowX HBW.out hgwx #[Value.string x.name, Value.int .i64 x.length, Value.int .i64 x.ball, Value.int .i64 x.instep, Value.int .i64 x.heel, Value.int .i64 x.pitch]; have hx_HB0 := HB0.out.grown hg4 (fun e => by injection e with e; omega); clear hg4 HD HO HBW HBX; obtain ⟨W7, hW4⟩ : ∃ z, z = World.setRow W6 gx #[Value.string x.name, Value.int .i64 x.length, Value.int .i64 x.ball, Value.int .i64 x.instep, Value.int .i64 x.heel, Value.int .i64 x.pitch] := ⟨_, rfl⟩; rw [← hW4] at hf4 hd4 ho4 hw4 hx_HB0 ⊢; have HBX := qH hf4; have HD := qH hd4; have HO := qH ho4; have HBW := qH hw4; replace HB0 := qH hx_HB0; clear hW4 hf4 hd4 ho4 hw4 hx_HB0)
 clear HWx HGx
 obtain ⟨gc, hgc⟩ : ∃ z, z = W7.heap.size := ⟨_, rfl⟩
 obtain ⟨W8, hW8⟩ : ∃ z, z = World.alloc W7 (Obj.cells #[.int .i64 ck, .int .i64 ca] 126) := ⟨_, rfl⟩
 have HBC : Hid (Blk W8 gc 126 #[.int .i64 ck, .int .i64 ca]) := qH (by rw [hW8, hgc]; exact Blk.new _ _ _)
 have hb8 : Below W7.heap.size W7 W8 := by rw [hW8]; exact bl_alloc (Below.refl _ _) _
 have HGc := qH hgc
 have HWc := qH hW8
 clear hgc hW8
 go_wp2_with (first | (refine wpList_load_row rfl 100 _ rfl gx rfl 100 _ (0, 0) _ HBX.out Tryz.underlying100 rfl (by kernel_rfl) ?_) | (refine wpList_load_row rfl 126 _ rfl gz rfl 126 _ (0, 0) _ HB0.out Tryz.underlying126 rfl (by kernel_rfl) ?_))
 rw [← HWc.out, ← HGc.out]
 refine (HAP.out gc _ HBC.out).mono ?_
 rintro e W9 ⟨rfl, hb9⟩
 have hb := bl_trans hb8 hb9
 clear hb8 hb9 HAP HBC HWc HGc HB0
 replace HBW := qH (bl_trans HBW.out hb)
 replace HD := qH (HD.out.below hb)
 replace HO := qH (own_below HO.out hb)
 replace HBX := qH (HBX.out.below hb)
 clear hb
 have honex2 : Hid (∀ k, (Value.slice A n c).ownBlock = some k → k ≠ gx) := honex
 by_cases hc : co = 0
 case neg =>
   have HE := qH (HE0.out.trans (if_neg hc))
   go_wp2_with (refine wpList_store_row rfl 100 _ _ rfl gx #[.string y.name, .int .i64 y.length, .int .i64 y.ball, .int .i64 y.instep, .int .i64 y.heel, .int .i64 y.pitch] rfl rfl 100 _ HBX.out (by kernel_rfl) rfl (by simp [Value.oneCell']) ?_; have hf4 : Blk (World.setRow W9 gx #[Value.string y.name, Value.int .i64 y.length, Value.int .i64 y.ball, Value.int .i64 y.instep, Value.int .i64 y.heel, Value.int .i64 y.pitch]) gx 100 #[.string y.name, .int .i64 y.length, .int .i64 y.ball, .int .i64 y.instep, .int .i64 y.heel, .int .i64 y.pitch] := setRow_heap _ _ _ _ _ _ HBX.out; have hg4 := grown_rowX W9 gx #[Value.string y.name, Value.int .i64 y.length, Value.int .i64 y.ball, Value.int .i64 y.instep, Value.int .i64 y.heel, Value.int .i64 y.pitch]; have hd4 := HD.out.grown hg4 (fun e => by injection e with e; omega); have ho4 := own_row HO.out honex.out #[Value.string y.name, Value.int .i64 y.length, Value.int .i64 y.ball, Value.int .i64 y.instep, Value.int .i64 y.heel, Value.int .i64 y.pitch]; have hw4 := below_rowX HBW.out hgwx #[Value.string y.name, Value.int .i64 y.length, Value.int .i64 y.ball, Value.int .i64 y.instep, Value.int .i64 y.heel, Value.int .i64 y.pitch]; clear hg4 HD HO HBW HBX; obtain ⟨W10, hW4⟩ : ∃ z, z = World.setRow W9 gx #[Value.string y.name, Value.int .i64 y.length, Value.int .i64 y.ball, Value.int .i64 y.instep, Value.int .i64 y.heel, Value.int .i64 y.pitch] := ⟨_, rfl⟩; rw [← hW4] at hf4 hd4 ho4 hw4 ⊢; have HBX := qH hf4; have HD := qH hd4; have HO := qH ho4; have HBW := qH hw4; clear hW4 hf4 hd4 ho4 hw4)
   go_returns
   exact OutX.no (by rw [← HP1.out, ← HP2.out, ← HP3.out, ← HTX.out, HE.out]) hc HBW.out
 subst hc
 have HE := qH (HE0.out.trans (if_pos rfl))
 obtain ⟨ey, hyB⟩ := HAZ.out rfl
 have HYB : Hid (lastB y = true) := qH (by rw [ey]; exact hyB)
 clear ey hyB HAZ HE0
 go_upto_region 46 with (refine wpList_store_row rfl 100 _ _ rfl gx #[.string y.name, .int .i64 y.length, .int .i64 y.ball, .int .i64 y.instep, .int .i64 y.heel, .int .i64 y.pitch] rfl rfl 100 _ HBX.out (by kernel_rfl) rfl (by simp [Value.oneCell']) ?_; have hf4 : Blk (World.setRow W9 gx #[Value.string y.name, Value.int .i64 y.length, Value.int .i64 y.ball, Value.int .i64 y.instep, Value.int .i64 y.heel, Value.int .i64 y.pitch]) gx 100 #[.string y.name, .int .i64 y.length, .int .i64 y.ball, .int .i64 y.instep, .int .i64 y.heel, .int .i64 y.pitch] := setRow_heap _ _ _ _ _ _ HBX.out; have hg4 := grown_rowX W9 gx #[Value.string y.name, Value.int .i64 y.length, Value.int .i64 y.ball, Value.int .i64 y.instep, Value.int .i64 y.heel, Value.int .i64 y.pitch]; have hd4 := HD.out.grown hg4 (fun e => by injection e with e; omega); have ho4 := own_row HO.out honex.out #[Value.string y.name, Value.int .i64 y.length, Value.int .i64 y.ball, Value.int .i64 y.instep, Value.int .i64 y.heel, Value.int .i64 y.pitch]; have hw4 := below_rowX HBW.out hgwx #[Value.string y.name, Value.int .i64 y.length, Value.int .i64 y.ball, Value.int .i64 y.instep, Value.int .i64 y.heel, Value.int .i64 y.pitch]; clear hg4 HD HO HBW HBX; obtain ⟨W10, hW4⟩ : ∃ z, z = World.setRow W9 gx #[Value.string y.name, Value.int .i64 y.length, Value.int .i64 y.ball, Value.int .i64 y.instep, Value.int .i64 y.heel, Value.int .i64 y.pitch] := ⟨_, rfl⟩; rw [← hW4] at hf4 hd4 ho4 hw4 ⊢; have HBX := qH hf4; have HD := qH hd4; have HO := qH ho4; have HBW := qH hw4; clear hW4 hf4 hd4 ho4 hw4)
 obtain ⟨gl, rfl⟩ := own_addr HO.out (by omega)
 have hglx := HNE.out gl rfl
 have hgly := honex.out gl rfl
 have c4 : W10.cell? ⟨gd, 4, none⟩ = some (.slice (some ⟨gl, 0, none⟩) n c) := HD.out.cell 4
 have hj0 : (0 : Int) ≤ (j : Int) := by omega
 have hj1 : (j : Int) < (n : Int) := by omega
 obtain ⟨m0, m1, m2, m3, m4, m5⟩ := qC6 HBX.out
 refine wp_region_held_drew (S := fun w' => w'.cell? ⟨gd, 4, none⟩ = some (.slice (some ⟨gl, 0, none⟩) n c) ∧ w'.cell? ⟨gx, 0, none⟩ = some (.string y.name) ∧ w'.cell? ⟨gx, 1, none⟩ = some (.int .i64 y.length) ∧ w'.cell? ⟨gx, 2, none⟩ = some (.int .i64 y.ball) ∧ w'.cell? ⟨gx, 3, none⟩ = some (.int .i64 y.instep) ∧ w'.cell? ⟨gx, 4, none⟩ = some (.int .i64 y.heel) ∧ w'.cell? ⟨gx, 5, none⟩ = some (.int .i64 y.pitch)) (by as_aux_lemma => kernel_rfl) ?_ (fun hHeld => ?_)
 · exact ⟨bl_cell (Below.refl _ _).drew c4, bl_cell (Below.refl _ _).drew m0, bl_cell (Below.refl _ _).drew m1, bl_cell (Below.refl _ _).drew m2, bl_cell (Below.refl _ _).drew m3, bl_cell (Below.refl _ _).drew m4, bl_cell (Below.refl _ _).drew m5⟩
 refine zT 0 209 ?_ rfl ?_ (by assumption) ?_
 rotate_left
 · intro w hSw
   try dsimp only at hSw
   obtain ⟨s0, s1, s2, s3, s4, s5, s6⟩ := hSw
   go_simp
   try with_reducible rfl
 try simp only [Act.put, zA, zB, zC]
 refine zT 1 210 ?_ rfl ?_ (by assumption) ?_
 rotate_left
 · intro w hSw
   try dsimp only at hSw
   obtain ⟨s0, s1, s2, s3, s4, s5, s6⟩ := hSw
   go_simp
   try with_reducible rfl
 try simp only [Act.put, zA, zB, zC]
 refine zT 2 211 ?_ rfl ?_ (by assumption) ?_
 rotate_left
 · intro w hSw
   try dsimp only at hSw
   obtain ⟨s0, s1, s2, s3, s4, s5, s6⟩ := hSw
   go_simp
   try with_reducible rfl
 try simp only [Act.put, zA, zB, zC]
 refine zT 3 212 ?_ rfl ?_ (by assumption) ?_
 rotate_left
 · intro w hSw
   try dsimp only at hSw
   obtain ⟨s0, s1, s2, s3, s4, s5, s6⟩ := hSw
   go_simp
   try with_reducible rfl
 try simp only [Act.put, zA, zB, zC]
 refine zT 4 213 ?_ rfl ?_ (by assumption) ?_
 rotate_left
 · intro w hSw
   try dsimp only at hSw
   obtain ⟨s0, s1, s2, s3, s4, s5, s6⟩ := hSw
   go_simp
   try with_reducible rfl
 try simp only [Act.put, zA, zB, zC]
 refine zT 5 214 ?_ rfl ?_ (by assumption) ?_
 rotate_left
 · intro w hSw
   try dsimp only at hSw
   obtain ⟨s0, s1, s2, s3, s4, s5, s6⟩ := hSw
   go_simp
   try with_reducible rfl
 try simp only [Act.put, zA, zB, zC]
 refine zT 6 215 ?_ rfl ?_ (by assumption) ?_
 rotate_left
 · intro w hSw
   try dsimp only at hSw
   obtain ⟨s0, s1, s2, s3, s4, s5, s6⟩ := hSw
   go_simp
   try with_reducible rfl
 try simp only [Act.put, zA, zB, zC]
 clear c4 m0 m1 m2 m3 m4 m5
 refine zR 7 none rfl (fun K hK => ?_)
 (try dsimp only at hHeld); go_split_ands
 have HOD := own_below HO.out (Below.refl _ _).drew
 refine wp_store_mid 100 _ _ rfl gl (j * 6) #[Value.string y.name, Value.int .i64 y.length, Value.int .i64 y.ball, Value.int .i64 y.instep, Value.int .i64 y.heel, Value.int .i64 y.pitch] (by rfl) rfl (own_there HOD (by show j * 6 + 6 ≤ n * 6; omega)) (by kernel_rfl) (by simp [Value.oneCell']) ?_
 have HO11 := own_setCellsJ (Array.toList #[Value.string y.name, Value.int .i64 y.length, Value.int .i64 y.ball, Value.int .i64 y.instep, Value.int .i64 y.heel, Value.int .i64 y.pitch]) _ (j * 6) _ HOD
 rw [show setMany (flat Last.cells xs) (j * 6) (Array.toList #[Value.string y.name, Value.int .i64 y.length, Value.int .i64 y.ball, Value.int .i64 y.instep, Value.int .i64 y.heel, Value.int .i64 y.pitch]) = flat Last.cells (xs.set j y) from flat_put (by rw [hn.out]; exact hjn)] at HO11
 have hg11 := grown_cells gl (Array.toList #[Value.string y.name, Value.int .i64 y.length, Value.int .i64 y.ball, Value.int .i64 y.instep, Value.int .i64 y.heel, Value.int .i64 y.pitch]) (j * 6) W10.drew
 have HD11 := Blk.grown (HD.out.below (Below.refl _ _).drew) hg11 (fun e => by injection e with e; omega)
 have HBX11 := Blk.grown (HBX.out.below (Below.refl _ _).drew) hg11 (fun e => by injection e with e; omega)
 have HBW11 := bl_cells (HBW.out.drew) (own_at HO.out gl rfl) (j * 6) (Array.toList #[Value.string y.name, Value.int .i64 y.length, Value.int .i64 y.ball, Value.int .i64 y.instep, Value.int .i64 y.heel, Value.int .i64 y.pitch])
 obtain ⟨W11, hW11⟩ : ∃ z, z = World.setCells W10.drew gl (j * 6) (Array.toList #[Value.string y.name, Value.int .i64 y.length, Value.int .i64 y.ball, Value.int .i64 y.instep, Value.int .i64 y.heel, Value.int .i64 y.pitch]) := ⟨_, rfl⟩
 rw [← hW11] at HO11 HD11 HBX11 HBW11 ⊢
 clear hW11 HOD hg11
 refine hK.out _ _ ?_ (fun hHeld => ?_)
 · (try dsimp only); exact ⟨HD11.cell 4, HBX11.cell 0, HBX11.cell 1, HBX11.cell 2, HBX11.cell 3, HBX11.cell 4, HBX11.cell 5⟩
 clear hK K
 try simp only [Act.put]
 refine wpAnyH_done (by as_aux_lemma => kernel_rfl) ?_ _
 clear hHeld HD HBX HBW HO
 have HD := qH HD11
 have HBX := qH HBX11
 have HBW := qH HBW11
 have HO := qH HO11
 clear HD11 HBX11 HBW11 HO11
 have HN9 : Hid ((xs.set j y).length = n) := qH (by rw [List.length_set]; exact hn.out)
 have HLT := fun w h => LastText_c y (Nat.le_trans (lastB_name HYB.out) (by omega)) w h
 obtain ⟨ty, hty⟩ : ∃ z, z = ltB y := ⟨_, rfl⟩
 rw [← hty] at HLT HE
 replace HLT := qH HLT
 clear hty
 go_wp2_with (refine wpList_load_row rfl 100 _ rfl gx rfl 100 _ (0, 0) _ HBX.out Tryz.underlying100 rfl (by kernel_rfl) ?_)
 refine (HLT.out _ (HT.out.below HBW.out)).mono ?_
 rintro e W12 ⟨rfl, hb⟩
 replace HBW := qH (bl_trans HBW.out hb)
 replace HD := qH (HD.out.below hb)
 replace HO := qH (own_below HO.out hb)
 clear hb
 go_wp2_with fail
 go_returns
 exact OutX.one (by rw [← HP1.out, ← HP2.out, ← HP3.out, ← HTX.out, HE.out]) HN9.out HBW.out HO.out HD.out
end Go.Proofs.YtpiehlfffjhoaaaGreatDoor
