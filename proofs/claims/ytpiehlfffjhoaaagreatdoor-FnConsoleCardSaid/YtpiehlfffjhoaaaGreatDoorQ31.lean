/- Lemmas for the law on the console: the parts CnL, Neq, SameL, DeskS, DeskT, DeskU, CoC, CnF. -/
import Derived.Test.YtpiehlfffjhoaaaGreatDoorQ0
import Derived.Test.YtpiehlfffjhoaaaGreatDoorQ29
import Derived.Test.YtpiehlfffjhoaaaGreatDoorQ30
import Derived.Test.YtpiehlfffjhoaaaGreatDoorQ4
import Derived.Test.YtpiehlfffjhoaaaGreatDoorQ28
import Derived.Deep.RegionHeld3
import Derived.Test.YtpiehlfffjhoaaaGreatDoorQ2
import Derived.Laws.ResultCell
import Derived.Test.YtpiehlfffjhoaaaGreatDoorQ19
import Derived.Test.YtpiehlfffjhoaaaGreatDoorQ20
namespace Go.Proofs.YtpiehlfffjhoaaaGreatDoor
open Go.RowKit
theorem OutL.ofN {l : List Last} {p : List Last × Int} {m c : Nat} {A : Option Addr} {co : Int} {w w' : World} (hp : p = (l, co)) (hm : l.length = m) (h : w'.ownsRow w.heap.size 100 6 (.slice A m c) m (flat Last.cells l)) (hb : Below w.heap.size w w') :
   OutL 100 6 p.1.length (flat Last.cells p.1) p.2 w (.returned (.tuple #[.slice A m c, .int .i64 co])) w' := by
 subst hp
 exact OutL.mk h hm.symm rfl rfl hb
theorem OutL.noN {p : List Last × Int} {co : Int} {w w' : World} (hp : p = ([], co)) (hb : Below w.heap.size w w') :
   OutL 100 6 p.1.length (flat Last.cells p.1) p.2 w (.returned (.tuple #[.slice none 0 0, .int .i64 co])) w' := by
 subst hp
 exact OutL.nil hb
theorem cloneLastA_c (A : Option Addr) (xs : List Last) (n c : Nat) (hn : Hid (xs.length = n)) (hm : (n : Int) ≤ 1048576) (w : World) (hA : Arr w A (flat Last.cells xs)) :
   Calls Tryz.prog 65 #[.slice A n c] w (OutC 100 6 n (flat Last.cells xs) w) := by
 cases A with
 | some ad => exact cloneLast_c ad xs n c hn hm w hA
 | none =>
   have hx : xs = [] := by
     cases xs with
     | nil => rfl
     | cons x r =>
       obtain ⟨ad, h, _⟩ := hA (by simp [flat, Last.cells])
       cases h
   subst hx
   obtain rfl : n = 0 := hn.out.symm
   have q22 : ∀ (w : World) (a : Option Addr) (n c n' c' : Nat), (binOp .eql 28 (.slice a n c) (.slice none n' c')).run Tryz.prog w = .ok (.bool a.isNone) w := fun w a n c n' c' => Lib.run_eql_slice_nil w _ _ a n c n' c' Tryz.underlying28
   go_enter Tryz.func65, Tryz.ntmps65
   go_wp2_with fail
   go_returns
   exact ⟨none, 0, rfl, World.ownsRow_nil _ _ _ _, Below.refl _ _⟩
set_option maxRecDepth 100000 in
set_option maxHeartbeats 2000000 in
theorem AddLast_c (A : Option Addr) (xs : List Last) (n c : Nat) (x : Last) (hn : Hid (xs.length = n)) (hm : (n : Int) ≤ 1048576) (hs : Hid (∀ x ∈ xs, x.name.size ≤ 9223372036854775807)) (hsx : x.name.size ≤ 9223372036854775807) (w : World) (hA : Arr w A (flat Last.cells xs)) :
   Calls Tryz.prog 72 #[.slice A n c, .agg #[.string x.name, .int .i64 x.length, .int .i64 x.ball, .int .i64 x.instep, .int .i64 x.heel, .int .i64 x.pitch]] w (OutL 100 6 (addP xs x).1.length (flat Last.cells (addP xs x).1) (addP xs x).2 w) := by
 have hlen : (flat Last.cells xs).length = n * 6 := by rw [flat_length Last.cells_length, hn.out]
 go_enter Tryz.func72, Tryz.ntmps72
 go_wp2_with fail
 have hv0 := bl_alloc (Below.refl w.heap.size w) (Obj.cells #[.string x.name, .int .i64 x.length, .int .i64 x.ball, .int .i64 x.instep, .int .i64 x.heel, .int .i64 x.pitch] 100)
 have hX0 : Blk (w.alloc (Obj.cells #[.string x.name, .int .i64 x.length, .int .i64 x.ball, .int .i64 x.instep, .int .i64 x.heel, .int .i64 x.pitch] 100)) w.heap.size 100 #[Value.string x.name, Value.int .i64 x.length, Value.int .i64 x.ball, Value.int .i64 x.instep, Value.int .i64 x.heel, Value.int .i64 x.pitch] := Blk.new _ _ _
 refine (ValidLasts_c A xs n c hn hm hs _ (hA.below hv0)).mono ?_
 rintro e W ⟨rfl, hb1⟩
 have hv1 : Below w.heap.size w W := bl_trans hv0 hb1
 have hX1 := hX0.below hb1
 have x0 := hX1.cell 0
 have x1 := hX1.cell 1
 have x2 := hX1.cell 2
 have x3 := hX1.cell 3
 have x4 := hX1.cell 4
 have x5 := hX1.cell 5
 dsimp at x0 x1 x2 x3 x4 x5
 clear hX0 hb1
 cases ho : lasB xs
 · have HO := qH ho
   clear ho
   go_wp2_with fail
   go_returns
   exact OutL.noN (addP_inv HO.out) hv1
 have HO := qH ho
 clear ho
 go_wp2_with fail
 refine (validLast_c x hsx _).mono ?_
 rintro e W2 ⟨rfl, hb2⟩
 have hv2 : Below w.heap.size w W2 := bl_trans hv1 hb2
 have hX2 := hX1.below hb2
 clear x0 x1 x2 x3 x4 x5
 have x0 := hX2.cell 0
 dsimp at x0
 clear hX1 hb2
 cases hq : lastB x
 · have HQ := qH hq
   clear hq
   go_wp2_with fail
   go_returns
   exact OutL.noN (addP_rng HO.out HQ.out) hv2
 have HQ := qH hq
 clear hq
 go_wp2_with fail
 refine (lastPlace_c A xs n c x.name hn hm (qH (las_pair HO.out)) _ (hA.below hv2)).mono ?_
 rintro e W3 ⟨rfl, hb3⟩
 have hv3 : Below w.heap.size w W3 := bl_trans hv2 hb3
 have hX3 := hX2.below hb3
 clear hX2 hb3 x0
 cases hh : hitN x.name xs
 case true =>
   have HH := qH hh
   clear hh
   go_wp2_with fail
   go_returns
   exact OutL.noN (addP_hit HO.out HQ.out HH.out) hv3
 have HH := qH hh
 clear hh
 by_cases hf : n = 30
 · subst hf
   go_wp2_with fail
   go_returns
   exact OutL.noN (addP_full HO.out HQ.out HH.out hn.out) hv3
 have hni : ¬ (n : Int) = 30 := by omega
 go_wp2_with fail
 have hi : lbN x.name xs ≤ n := by rw [← hn.out]; exact lbN_le _ _
 have hn30 : n ≤ 30 := by rw [← hn.out]; exact las_len HO.out
 have hgw : w.heap.size < W3.heap.size := hX3.lt
 obtain ⟨w0, hw0⟩ : ∃ w0, w0 = w := ⟨_, rfl⟩
 obtain ⟨w3, hw3⟩ : ∃ w3, w3 = W3 := ⟨_, rfl⟩
 subst hw0
 subst hw3
 refine wp_region_held_drew (S := fun w' => Below w0.heap.size w0 w' ∧ Blk w' w0.heap.size 100 #[Value.string x.name, Value.int .i64 x.length, Value.int .i64 x.ball, Value.int .i64 x.instep, Value.int .i64 x.heel, Value.int .i64 x.pitch]) (by kernel_rfl) ?_ (fun hHeld => ?_)
 · exact ⟨hv3.drew, hX3.below (Below.refl _ _).drew⟩
 clear hv3 hX3 hv0 hv1 hv2
 refine zU 0 29 rfl (by assumption) ?_
 try simp only [Act.put, zA, zB, zC]
 refine zU 2 31 rfl (by assumption) ?_
 try simp only [Act.put, zA, zB, zC]
 refine zT 3 32 ?_ rfl ?_ (by assumption) ?_
 rotate_left
 · intro w hSw
   try dsimp only at hSw
   have y0 : w.cell? ⟨w0.heap.size, 0, none⟩ = some (.string x.name) := hSw.2.cell 0
   have y1 : w.cell? ⟨w0.heap.size, 1, none⟩ = some (.int .i64 x.length) := hSw.2.cell 1
   have y2 : w.cell? ⟨w0.heap.size, 2, none⟩ = some (.int .i64 x.ball) := hSw.2.cell 2
   have y3 : w.cell? ⟨w0.heap.size, 3, none⟩ = some (.int .i64 x.instep) := hSw.2.cell 3
   have y4 : w.cell? ⟨w0.heap.size, 4, none⟩ = some (.int .i64 x.heel) := hSw.2.cell 4
   have y5 : w.cell? ⟨w0.heap.size, 5, none⟩ = some (.int .i64 x.pitch) := hSw.2.cell 5
   go_simp
   try with_reducible rfl
 try simp only [Act.put, zA, zB, zC]
 refine wpAnyH_ready (rs := [1, 4]) (by kernel_rfl) (by simp) ?_
 refine AllReadyH.cons (o := { dst := some 30, op := _, type := _, pos := _, after := _, guard := _ }) rfl (fun K hK => ?_) (AllReadyH.cons (o := { dst := some 33, op := _, type := _, pos := _, after := _, guard := _ }) rfl (fun K hK => ?_) AllReadyH.nil)
 · go_simp
   (try dsimp only at hHeld); go_split_ands
   refine (cloneLastA_c A xs n c hn hm _ (hA.below (by assumption))).mono ?_
   rintro e W ⟨A2, c2, rfl, hown, hb⟩
   replace hown : W.ownsRow w3.heap.size 100 6 (.slice A2 n c2) n (flat Last.cells xs) := hown
   have hbs : w3.heap.size ≤ W.heap.size := hb.size
   go_wp2_with fail
   refine hK.out _ _ ?_ (fun hHeld => ?_)
   · (try dsimp only); go_split_ands; exact ⟨bl_trans (by assumption) hb, Blk.below (by assumption) hb⟩
   clear hK K
   try simp only [Act.put, zA, zB, zC]
   refine zR 4 (some 33) rfl (fun K hK => ?_)
   go_simp
   (try dsimp only at hHeld); go_split_ands
   obtain ⟨W2, hW2⟩ : ∃ W2, W2 = World.alloc W (Obj.cells #[.string x.name, .int .i64 x.length, .int .i64 x.ball, .int .i64 x.instep, .int .i64 x.heel, .int .i64 x.pitch] 100) := ⟨_, rfl⟩
   obtain ⟨gy, hgy⟩ : ∃ gy, gy = (W).heap.size := ⟨_, rfl⟩
   have hb : Below (W).heap.size (W) W2 := by rw [hW2]; exact bl_alloc (Below.refl _ _) _
   have hY : Blk W2 gy 100 #[.string x.name, .int .i64 x.length, .int .i64 x.ball, .int .i64 x.instep, .int .i64 x.heel, .int .i64 x.pitch] := by rw [hW2, hgy]; exact Blk.new _ _ _
   have hgne : ∀ k, (Value.slice A2 n c2).ownBlock = some k → k ≠ gy := fun k hk => by have := (hown.lt k hk).2; omega
   replace hown := own_below hown hb
   replace hbs : w3.heap.size ≤ W2.heap.size := Nat.le_trans hbs hb.size
   rw [← hW2, ← hgy]
   clear hW2 hgy
   refine hK.out _ _ ?_ (fun hHeld => ?_)
   · (try dsimp only); go_split_ands; exact ⟨bl_trans (by assumption) hb, Blk.below (by assumption) hb⟩
   clear hK K
   try simp only [Act.put, zA, zB, zC]
   refine zR 5 (some 34) rfl (fun K hK => ?_)
   go_simp
   (try dsimp only at hHeld); go_split_ands
   refine (insertN_c A2 xs n c2 (lbN x.name xs) x hn (by omega) hi w3.heap.size gy _ hown hY hgne (by assumption)).mono ?_
   rintro e W4 ⟨v, rfl, hownF, hg2⟩
   go_wp2_with fail
   refine hK.out _ _ ?_ (fun hHeld => ?_)
   · (try dsimp only); go_split_ands; exact ⟨bl_grown (by assumption) hg2 (fun k e => by have h1 := own_at hown k e; omega), Blk.grown (by assumption) hg2 (fun e => by have h1 := own_at hown _ e.symm; omega)⟩
   clear hK K
   try simp only [Act.put, zA, zB, zC]
   refine zU 6 4 rfl (by assumption) ?_
   try simp only [Act.put, zA, zB, zC]
   refine zU 7 5 rfl (by assumption) ?_
   try simp only [Act.put, zA, zB, zC]
   refine wpAnyH_done (by kernel_rfl) ?_ _
   go_split_ands
   have hv := (by assumption : Below w0.heap.size w0 _)
   go_wp2_with fail
   obtain ⟨A9, c9, rfl, _, _⟩ := own_form hownF
   go_returns
   exact OutL.ofN (addP_ok HO.out HQ.out HH.out (by rw [hn.out]; exact hf)) (by rw [insN_len _ _ _ (lbN_le _ _), hn.out]) (own_base hownF (by omega)) hv
 · go_simp
   (try dsimp only at hHeld); go_split_ands
   obtain ⟨W2, hW2⟩ : ∃ W2, W2 = (World.alloc w3 (Obj.cells #[.string x.name, .int .i64 x.length, .int .i64 x.ball, .int .i64 x.instep, .int .i64 x.heel, .int .i64 x.pitch] 100)).drew := ⟨_, rfl⟩
   obtain ⟨gy, hgy⟩ : ∃ gy, gy = w3.heap.size := ⟨_, rfl⟩
   have hb : Below (w3.drew).heap.size (w3.drew) W2 := by rw [hW2]; exact bl_alloc (Below.refl w3.drew.heap.size w3.drew) _
   have hY : Blk W2 gy 100 #[.string x.name, .int .i64 x.length, .int .i64 x.ball, .int .i64 x.instep, .int .i64 x.heel, .int .i64 x.pitch] := by rw [hW2, hgy]; exact Blk.new w3.drew _ _
   have hbs : w3.heap.size ≤ W2.heap.size := hb.size
   have hgy1 : gy < W2.heap.size := hY.lt
   rw [← hW2, ← hgy]
   clear hW2 hgy
   refine hK.out _ _ ?_ (fun hHeld => ?_)
   · (try dsimp only); go_split_ands; exact ⟨bl_trans (by assumption) hb, Blk.below (by assumption) hb⟩
   clear hK K
   try simp only [Act.put, zA, zB, zC]
   refine zR 1 (some 30) rfl (fun K hK => ?_)
   go_simp
   (try dsimp only at hHeld); go_split_ands
   refine (cloneLastA_c A xs n c hn hm _ (hA.below (by assumption))).mono ?_
   rintro e W ⟨A2, c2, rfl, hown, hb⟩
   have hgne : ∀ k, (Value.slice A2 n c2).ownBlock = some k → k ≠ gy := fun k hk => by have := own_at hown k hk; omega
   replace hown := own_base hown hbs
   replace hbs : w3.heap.size ≤ W.heap.size := Nat.le_trans hbs hb.size
   replace hY := hY.below hb
   go_wp2_with fail
   refine hK.out _ _ ?_ (fun hHeld => ?_)
   · (try dsimp only); go_split_ands; exact ⟨bl_trans (by assumption) hb, Blk.below (by assumption) hb⟩
   clear hK K
   try simp only [Act.put, zA, zB, zC]
   refine zR 5 (some 34) rfl (fun K hK => ?_)
   go_simp
   (try dsimp only at hHeld); go_split_ands
   refine (insertN_c A2 xs n c2 (lbN x.name xs) x hn (by omega) hi w3.heap.size gy _ hown hY hgne (by assumption)).mono ?_
   rintro e W4 ⟨v, rfl, hownF, hg2⟩
   go_wp2_with fail
   refine hK.out _ _ ?_ (fun hHeld => ?_)
   · (try dsimp only); go_split_ands; exact ⟨bl_grown (by assumption) hg2 (fun k e => by have h1 := own_at hown k e; omega), Blk.grown (by assumption) hg2 (fun e => by have h1 := own_at hown _ e.symm; omega)⟩
   clear hK K
   try simp only [Act.put, zA, zB, zC]
   refine zU 6 4 rfl (by assumption) ?_
   try simp only [Act.put, zA, zB, zC]
   refine zU 7 5 rfl (by assumption) ?_
   try simp only [Act.put, zA, zB, zC]
   refine wpAnyH_done (by kernel_rfl) ?_ _
   go_split_ands
   have hv := (by assumption : Below w0.heap.size w0 _)
   go_wp2_with fail
   obtain ⟨A9, c9, rfl, _, _⟩ := own_form hownF
   go_returns
   exact OutL.ofN (addP_ok HO.out HQ.out HH.out (by rw [hn.out]; exact hf)) (by rw [insN_len _ _ _ (lbN_le _ _), hn.out]) (own_base hownF (by omega)) hv
theorem own_row {w : World} {base e size n g : Nat} {v : Value} {cs : List Value} (h : w.ownsRow base e size v n cs) (hp : ∀ g', v.ownBlock = some g' → g' ≠ g) (u : Array Value) : (w.setRow g u).ownsRow base e size v n cs :=
 h.kept (w' := w.setRow g u) (row := some g) ⟨rfl, rfl, rfl, by simp, fun k _ hk => setRow_other w g k u (fun e => hk (by rw [e]))⟩ (by
   cases hv : v.ownBlock with
   | none => exact .inl rfl
   | some g' => exact .inr (fun e => hp g' hv (Option.some.inj e)))
def nmV (xs : List Last) (nm : ByteArray) : Last × Int × Int := if (namP xs nm).2 = 0 then ((xs[(namP xs nm).1.toNat]?).getD zLast, (namP xs nm).1, 0) else (zLast, 0, (namP xs nm).2)
theorem nmV_no {xs : List Last} {nm : ByteArray} (h : ¬ (namP xs nm).2 = 0) : nmV xs nm = (zLast, 0, (namP xs nm).2) := by unfold nmV; rw [if_neg h]
theorem nmV_yes {xs : List Last} {nm : ByteArray} (h : (namP xs nm).2 = 0) : ∃ (k : Nat) (x : Last), (namP xs nm).1 = (k : Int) ∧ xs[k]? = some x ∧ nmV xs nm = (x, (k : Int), 0) := by
 obtain ⟨h1, ⟨x, hx, _⟩, _⟩ := namP_zero h
 refine ⟨lbN nm xs, x, h1, hx, ?_⟩
 unfold nmV
 rw [if_pos h, h1, Int.toNat_natCast, hx]; rfl
def outNm (p : Last × Int × Int) : Array Value := #[.agg #[.string p.1.name, .int .i64 p.1.length, .int .i64 p.1.ball, .int .i64 p.1.instep, .int .i64 p.1.heel, .int .i64 p.1.pitch], .int .i64 p.2.1, .int .i64 p.2.2]
set_option maxRecDepth 100000 in
set_option maxHeartbeats 4000000 in
theorem lastNamed_c (gd : Nat) (A : Option Addr) (xs : List Last) (n c : Nat) (nm : ByteArray) (hn : Hid (xs.length = n)) (hm : (n : Int) ≤ 1048576) (hs : Hid (∀ x ∈ xs, x.name.size ≤ 9223372036854775807)) (hz : nm.size ≤ 9223372036854775807) (w : World) (hA : Arr w A (flat Last.cells xs)) (h4 : w.cell? ⟨gd, 4, none⟩ = some (.slice A n c)) :
   Calls Tryz.prog 76 #[.pointer (some ⟨gd, 0, none⟩), .string nm] w (RetT (outNm (nmV xs nm)) w) := by
 obtain ⟨W, hW⟩ : ∃ z, z = w.alloc (Obj.cells #[.string ⟨#[]⟩, .int .i64 0, .int .i64 0, .int .i64 0, .int .i64 0, .int .i64 0] 100) := ⟨_, rfl⟩
 obtain ⟨g, hg⟩ : ∃ z, z = w.heap.size := ⟨_, rfl⟩
 have hv : Below w.heap.size w W := by rw [hW]; exact bl_alloc (Below.refl _ _) _
 have HB : Hid (Blk W g 100 #[.string ⟨#[]⟩, .int .i64 0, .int .i64 0, .int .i64 0, .int .i64 0, .int .i64 0]) := qH (by rw [hW, hg]; exact Blk.new _ _ _)
 have hgw : w.heap.size ≤ g := by omega
 have HA := qH (hA.below hv)
 have k4 := bl_cell hv h4
 have H4 := qH k4
 have HP := fun w h => LastNamed_c A xs n c nm hn hm hs hz w h
 have HNO := qH (@nmV_no xs nm)
 have HYES := qH (@nmV_yes xs nm)
 obtain ⟨co, hco⟩ : ∃ z, z = (namP xs nm).2 := ⟨_, rfl⟩
 obtain ⟨pl, hpl⟩ : ∃ z, z = (namP xs nm).1 := ⟨_, rfl⟩
 rw [← hco] at HNO HYES
 rw [← hpl] at HYES
 rw [← hco, ← hpl] at HP
 replace HP := qH HP
 have HW := qH hW
 have HG := qH hg
 clear hW hg hA h4 hco hpl
 go_enter Tryz.func76, Tryz.ntmps76
 go_upto_region 1 with fail
 rw [← HW.out, ← HG.out]
 clear HW HG
 go_wp2_with fail
 refine (HP.out _ HA.out).mono ?_
 rintro e W1 ⟨rfl, hb⟩
 replace HA := qH (HA.out.below hb)
 replace HB := qH (HB.out.below hb)
 replace H4 := qH (bl_cell hb H4.out)
 replace hv := bl_trans hv hb
 clear hb HP k4
 by_cases hc : co = 0
 case neg =>
   have HR := qH (HNO.out hc)
   clear HNO HYES HA H4
   go_wp2_with (refine wpList_store_row rfl 100 _ _ rfl g #[.string ⟨#[]⟩, .int .i64 0, .int .i64 0, .int .i64 0, .int .i64 0, .int .i64 0] rfl rfl 100 _ HB.out (by kernel_rfl) rfl (by simp [Value.oneCell']) ?_)
   have hF : Blk (World.setRow W1 g #[Value.string ⟨#[]⟩, Value.int .i64 0, Value.int .i64 0, Value.int .i64 0, Value.int .i64 0, Value.int .i64 0]) g 100 #[.string ⟨#[]⟩, .int .i64 0, .int .i64 0, .int .i64 0, .int .i64 0, .int .i64 0] := setRow_heap _ _ _ _ _ _ HB.out
   have hbF := below_rowL hv hgw #[Value.string ⟨#[]⟩, Value.int .i64 0, Value.int .i64 0, Value.int .i64 0, Value.int .i64 0, Value.int .i64 0]
   obtain ⟨WF, hWF⟩ : ∃ z, z = World.setRow W1 g #[Value.string ⟨#[]⟩, Value.int .i64 0, Value.int .i64 0, Value.int .i64 0, Value.int .i64 0, Value.int .i64 0] := ⟨_, rfl⟩
   rw [← hWF] at hF hbF ⊢
   clear hWF
   obtain ⟨m0, m1, m2, m3, m4, m5⟩ := qC6 hF
   go_wp2_with fail
   try simp only [Exit.inBlock, Exit.then]
   refine bodyPost_ret (v := .tuple #[.agg #[.string ⟨#[]⟩, .int .i64 0, .int .i64 0, .int .i64 0, .int .i64 0, .int .i64 0], .int .i64 0, .int .i64 co]) (by simp [results, Tryz.results76, go_sem, m0, m1, m2, m3, m4, m5]) rfl ?_
   exact RetT.mk (by rw [HR.out]; rfl) hbF
 case pos =>
 subst hc
 obtain ⟨k, x, hk, hx, hR⟩ := HYES.out rfl
 subst hk
 obtain ⟨ad, had, hab, c0, c1, c2, c3, c4, c5⟩ := Last.at_ HA.out hx
 subst had
 have k4 := H4.out
 have HR := qH hR
 have hkn : k < n := by rw [← hn.out]; exact (List.getElem?_eq_some_iff.1 hx).1
 have hk0 : (0 : Int) ≤ (k : Int) := by omega
 have hk1 : (k : Int) < (n : Int) := by omega
 clear HNO HYES HA H4 hx hR hkn
 go_wp2_with (refine wpList_store_row rfl 100 _ _ rfl g #[.string x.name, .int .i64 x.length, .int .i64 x.ball, .int .i64 x.instep, .int .i64 x.heel, .int .i64 x.pitch] rfl rfl 100 _ HB.out (by kernel_rfl) rfl (by simp [Value.oneCell']) ?_)
 have hF : Blk (World.setRow W1 g #[Value.string x.name, Value.int .i64 x.length, Value.int .i64 x.ball, Value.int .i64 x.instep, Value.int .i64 x.heel, Value.int .i64 x.pitch]) g 100 #[.string x.name, .int .i64 x.length, .int .i64 x.ball, .int .i64 x.instep, .int .i64 x.heel, .int .i64 x.pitch] := setRow_heap _ _ _ _ _ _ HB.out
 have hbF := below_rowL hv hgw #[Value.string x.name, Value.int .i64 x.length, Value.int .i64 x.ball, Value.int .i64 x.instep, Value.int .i64 x.heel, Value.int .i64 x.pitch]
 obtain ⟨WF, hWF⟩ : ∃ z, z = World.setRow W1 g #[Value.string x.name, Value.int .i64 x.length, Value.int .i64 x.ball, Value.int .i64 x.instep, Value.int .i64 x.heel, Value.int .i64 x.pitch] := ⟨_, rfl⟩
 rw [← hWF] at hF hbF ⊢
 clear hWF
 obtain ⟨m0, m1, m2, m3, m4, m5⟩ := qC6 hF
 go_wp2_with fail
 try simp only [Exit.inBlock, Exit.then]
 refine bodyPost_ret (v := .tuple #[.agg #[.string x.name, .int .i64 x.length, .int .i64 x.ball, .int .i64 x.instep, .int .i64 x.heel, .int .i64 x.pitch], .int .i64 (k : Int), .int .i64 0]) (by simp [results, Tryz.results76, go_sem, m0, m1, m2, m3, m4, m5]) rfl ?_
 exact RetT.mk (by rw [HR.out]; rfl) hbF
def OutCp (f : Foot) (xs : List Last) (n : Nat) (s : Style) (lg : ByteArray) (w : World) (e : Ending) (w' : World) : Prop := ∃ (A2 : Option Addr) (c2 : Nat), e = .returned (.agg #[.int .i64 f.length, .int .i64 f.ball, .int .i64 f.instep, .int .i64 f.heel, .slice A2 n c2, .string s.upper, .string s.color, .string s.lining, .string s.sole, .int .i64 s.thick, .int .i64 s.heel, .int .i64 s.eyelets, .int .i64 s.density, .bool s.double, .string lg]) ∧ w'.ownsRow w.heap.size 100 6 (.slice A2 n c2) n (flat Last.cells xs) ∧ Below w.heap.size w w'
set_option maxRecDepth 100000 in
set_option maxHeartbeats 4000000 in
theorem copyDesk_c (f : Foot) (s : Style) (lg : ByteArray) (A : Option Addr) (xs : List Last) (n c : Nat) (hn : Hid (xs.length = n)) (hm : (n : Int) ≤ 1048576) (w : World) (hA : Arr w A (flat Last.cells xs)) :
   Calls Tryz.prog 32 #[.agg #[.int .i64 f.length, .int .i64 f.ball, .int .i64 f.instep, .int .i64 f.heel, .slice A n c, .string s.upper, .string s.color, .string s.lining, .string s.sole, .int .i64 s.thick, .int .i64 s.heel, .int .i64 s.eyelets, .int .i64 s.density, .bool s.double, .string lg]] w (OutCp f xs n s lg w) := by
 obtain ⟨W, hW⟩ : ∃ W, W = (w.alloc (Obj.cells #[.int .i64 f.length, .int .i64 f.ball, .int .i64 f.instep, .int .i64 f.heel, .slice A n c, .string s.upper, .string s.color, .string s.lining, .string s.sole, .int .i64 s.thick, .int .i64 s.heel, .int .i64 s.eyelets, .int .i64 s.density, .bool s.double, .string lg] 32)).alloc (Obj.cells #[.int .i64 0, .int .i64 0, .int .i64 0, .int .i64 0, .slice none 0 0, .string ⟨#[]⟩, .string ⟨#[]⟩, .string ⟨#[]⟩, .string ⟨#[]⟩, .int .i64 0, .int .i64 0, .int .i64 0, .int .i64 0, .bool false, .string ⟨#[]⟩] 32) := ⟨_, rfl⟩
 obtain ⟨g0, hg0⟩ : ∃ g0, g0 = w.heap.size := ⟨_, rfl⟩
 obtain ⟨g1, hg1⟩ : ∃ g1, g1 = w.heap.size + 1 := ⟨_, rfl⟩
 have hv : Below w.heap.size w W := by rw [hW]; exact bl_alloc (bl_alloc (Below.refl _ _) _) _
 have H0 : Hid (Blk W g0 32 #[.int .i64 f.length, .int .i64 f.ball, .int .i64 f.instep, .int .i64 f.heel, .slice A n c, .string s.upper, .string s.color, .string s.lining, .string s.sole, .int .i64 s.thick, .int .i64 s.heel, .int .i64 s.eyelets, .int .i64 s.density, .bool s.double, .string lg]) := qH (by rw [hW, hg0]; exact (Blk.new _ _ _).alloc _)
 have H1 : Hid (Blk W g1 32 #[.int .i64 0, .int .i64 0, .int .i64 0, .int .i64 0, .slice none 0 0, .string ⟨#[]⟩, .string ⟨#[]⟩, .string ⟨#[]⟩, .string ⟨#[]⟩, .int .i64 0, .int .i64 0, .int .i64 0, .int .i64 0, .bool false, .string ⟨#[]⟩]) := qH (by rw [hW, hg1]; have h := Blk.new (w.alloc (Obj.cells #[.int .i64 f.length, .int .i64 f.ball, .int .i64 f.instep, .int .i64 f.heel, .slice A n c, .string s.upper, .string s.color, .string s.lining, .string s.sole, .int .i64 s.thick, .int .i64 s.heel, .int .i64 s.eyelets, .int .i64 s.density, .bool s.double, .string lg] 32)) 32 #[Value.int .i64 0, Value.int .i64 0, Value.int .i64 0, Value.int .i64 0, Value.slice none 0 0, Value.string ⟨#[]⟩, Value.string ⟨#[]⟩, Value.string ⟨#[]⟩, Value.string ⟨#[]⟩, Value.int .i64 0, Value.int .i64 0, Value.int .i64 0, Value.int .i64 0, Value.bool false, Value.string ⟨#[]⟩]; rw [World.size_alloc] at h; exact h)
 have HCL := qH (cloneLastA_c A xs n c hn hm W (hA.below hv))
 have hge0 : w.heap.size ≤ g0 := by omega
 have hge : w.heap.size ≤ g1 := by omega
 have hne : g0 ≠ g1 := by omega
 have hgW : Hid (g0 < W.heap.size ∧ g1 < W.heap.size ∧ w.heap.size ≤ W.heap.size) := qH ⟨H0.out.lt, H1.out.lt, hv.size⟩
 have k4 : W.cell? ⟨g0, 4, none⟩ = some (.slice A n c) := H0.out.cell 4
 have HW := qH hW
 have G0 := qH hg0
 have G1 := qH hg1
 clear hW hg0 hg1 hA
 go_enter Tryz.func32, Tryz.ntmps32
 go_upto_region 1 with fail
 rw [← HW.out, ← G1.out, ← G0.out]
 clear HW G0 G1
 go_wp2_with fail
 refine HCL.out.mono ?_
 rintro e W2 ⟨A2, c2, rfl, hown, hb⟩
 replace H0 := qH (H0.out.below hb)
 replace H1 := qH (H1.out.below hb)
 have HOW := qH hown
 have hsz := hv.size
 replace hv := bl_trans hv hb
 clear hb HCL k4 hown
 have hl0 := H0.out.lt
 have fz : W2.frozen? ⟨g0, 4, none⟩ = false := H0.out.frozen 4
 have k4 : W2.cell? ⟨g0, 4, none⟩ = some (.slice A n c) := H0.out.cell 4
 have z1 : W2.frozen? ⟨g1, 0, none⟩ = false := H1.out.frozen 0
 have hcp := HOW.out
 go_upto_region 2 with fail
 clear fz k4 z1 hcp
 have h0 : Blk (W2.setCell ⟨g0, 4, none⟩ (.slice A2 n c2)) g0 32 #[.int .i64 f.length, .int .i64 f.ball, .int .i64 f.instep, .int .i64 f.heel, .slice A2 n c2, .string s.upper, .string s.color, .string s.lining, .string s.sole, .int .i64 s.thick, .int .i64 s.heel, .int .i64 s.eyelets, .int .i64 s.density, .bool s.double, .string lg] := H0.out.set_ 4 _
 have h1 : Blk (W2.setCell ⟨g0, 4, none⟩ (.slice A2 n c2)) g1 32 #[.int .i64 0, .int .i64 0, .int .i64 0, .int .i64 0, .slice none 0 0, .string ⟨#[]⟩, .string ⟨#[]⟩, .string ⟨#[]⟩, .string ⟨#[]⟩, .int .i64 0, .int .i64 0, .int .i64 0, .int .i64 0, .bool false, .string ⟨#[]⟩] := H1.out.far (fun e => hne e.symm) _
 have ho := own_far HOW.out (p := ⟨g0, 4, none⟩) (fun k e => by have := own_at HOW.out k e; have := hgW.out; dsimp only; omega) (.slice A2 n c2)
 have hv3 := bl_set hv (p := ⟨g0, 4, none⟩) hge0 (.slice A2 n c2)
 obtain ⟨W3, hW3⟩ : ∃ z, z = W2.setCell ⟨g0, 4, none⟩ (.slice A2 n c2) := ⟨_, rfl⟩
 rw [← hW3] at h0 h1 ho hv3 ⊢
 clear hW3 H0 H1 HOW hv
 have H0 := qH h0
 have H1 := qH h1
 have HOW := qH ho
 clear h0 h1 ho
 go_wp2_with (first | (refine wpList_load_row rfl 32 _ rfl g0 rfl 32 _ (0, 0) _ H0.out Tryz.underlying32 rfl (by kernel_rfl) ?_) | (refine wpList_store_row rfl 32 _ _ rfl g1 #[.int .i64 f.length, .int .i64 f.ball, .int .i64 f.instep, .int .i64 f.heel, .slice A2 n c2, .string s.upper, .string s.color, .string s.lining, .string s.sole, .int .i64 s.thick, .int .i64 s.heel, .int .i64 s.eyelets, .int .i64 s.density, .bool s.double, .string lg] rfl rfl 32 _ H1.out (by kernel_rfl) rfl (by simp [Value.oneCell']) ?_))
 refine bodyPost_ret (results_cell_row (P := Tryz.prog) rfl _ _ g1 32 #[Value.int .i64 f.length, Value.int .i64 f.ball, Value.int .i64 f.instep, Value.int .i64 f.heel, Value.slice A2 n c2, Value.string s.upper, Value.string s.color, Value.string s.lining, Value.string s.sole, Value.int .i64 s.thick, Value.int .i64 s.heel, Value.int .i64 s.eyelets, Value.int .i64 s.density, Value.bool s.double, Value.string lg] (0, 0) _ rfl ?_ Tryz.underlying32 rfl (by kernel_rfl)) rfl ?_
 · exact setRow_heap _ _ _ _ _ _ H1.out
 · exact ⟨A2, c2, rfl, own_base (own_row HOW.out (fun k e => by have := own_at HOW.out k e; have := hgW.out; omega) _) (by have := hgW.out; omega), below_rowX hv3 hge _⟩
def OutIl (L : List Int) (c : Int) (w : World) (e : Ending) (w' : World) : Prop := ∃ (A : Option Addr) (m k : Nat), e = .returned (.tuple #[.slice A m k, .int .i64 c]) ∧ L.length = m ∧ Arr w' A (flat icell L) ∧ Below w.heap.size w w'
def OutI1 (L : List Int) (w : World) (e : Ending) (w' : World) : Prop := ∃ (A : Option Addr) (m k : Nat), e = .returned (.slice A m k) ∧ L.length = m ∧ Arr w' A (flat icell L) ∧ Below w.heap.size w w'
theorem raiP_no {s i k o : Int} (h : (shB s && (shB i && (shB k && shB o))) = false) : raiP s i k o = ([], 2) := by unfold raiP; rw [if_neg (by rw [h]; simp)]
theorem raiP_tight {s i k o : Int} (h : (shB s && (shB i && (shB k && shB o))) = true) {a b c : Int} (ha : a = min s i) (hb : b = min (s - a) k) (hc : c = min (s - a - b) o) (ht : a + b + c < s) : raiP s i k o = ([], 10) := by
 unfold raiP; rw [if_pos h, ← ha, ← hb, ← hc, if_pos ht]
theorem raiP_ok {s i k o : Int} (h : (shB s && (shB i && (shB k && shB o))) = true) {a b c : Int} (ha : a = min s i) (hb : b = min (s - a) k) (hc : c = min (s - a - b) o) (ht : ¬ a + b + c < s) : raiP s i k o = ([a, b + c, c], 0) := by
 unfold raiP; rw [if_pos h, ← ha, ← hb, ← hc, if_neg ht]
theorem arr_new_cells (w : World) (t : TypeId) (C : Array Value) : Arr (w.alloc (.cells C t)) (some ⟨w.heap.size, 0, none⟩) C.toList := arr_blkO (Blk.new w t C)
set_option maxRecDepth 100000 in
set_option maxHeartbeats 2000000 in
theorem RaiseFor_c (s i k o : Int) (w : World) : Calls Tryz.prog 84 #[.int .i64 s, .int .i64 i, .int .i64 k, .int .i64 o] w (OutIl (raiP s i k o).1 (raiP s i k o).2 w) := by
 have H0 := @raiP_no s i k o
 have H1 := fun h a b c => @raiP_tight s i k o h a b c
 have H2 := fun h a b c => @raiP_ok s i k o h a b c
 obtain ⟨R, hR⟩ : ∃ z, z = raiP s i k o := ⟨_, rfl⟩
 rw [← hR] at H0 H1 H2 ⊢
 clear hR
 replace H0 := qH H0
 replace H1 := qH H1
 replace H2 := qH H2
 have HO := qH (fun g w h => outside_c (some ⟨g, 0, none⟩) [s, i, k, o] 4 4 0 400 (qH rfl) (by omega) w h)
 have hall : ([s, i, k, o].all fun k => inB k 0 400) = (shB s && (shB i && (shB k && shB o))) := by simp [shB]
 rw [hall] at HO
 obtain ⟨B, hB⟩ : ∃ z, z = (shB s && (shB i && (shB k && shB o))) := ⟨_, rfl⟩
 rw [← hB] at HO H0
 have HB := qH hB.symm
 clear hB hall
 obtain ⟨g, hg⟩ : ∃ z, z = w.heap.size := ⟨_, rfl⟩
 have hv := bl_alloc (Below.refl w.heap.size w) (.cells #[Value.int .i64 s, Value.int .i64 i, Value.int .i64 k, Value.int .i64 o] 2)
 go_enter Tryz.func84, Tryz.ntmps84
 go_wp2_with fail
 refine (HO.out _ _ (arr_new_cells w 2 #[Value.int .i64 s, Value.int .i64 i, Value.int .i64 k, Value.int .i64 o])).mono ?_
 rintro e W ⟨rfl, hb1⟩
 replace hv := bl_trans hv hb1
 clear hb1 HO hg g
 cases B
 · have HR := qH (H0.out rfl)
   go_wp2_with fail
   go_returns
   exact ⟨none, 0, 0, by rw [HR.out]; rfl, by rw [HR.out]; rfl, by rw [HR.out]; exact Arr.nil _ _, hv⟩
 have hbd : (0 ≤ s ∧ s ≤ 400) ∧ (0 ≤ i ∧ i ≤ 400) ∧ (0 ≤ k ∧ k ≤ 400) ∧ (0 ≤ o ∧ o ≤ 400) := by
   have h := HB.out
   simp [shB, inB] at h
   omega
 obtain ⟨⟨s0, s1⟩, ⟨i0, i1⟩, ⟨k0, k1⟩, ⟨o0, o1⟩⟩ := hbd
 obtain ⟨a, ha⟩ : ∃ z, z = min s i := ⟨_, rfl⟩
 obtain ⟨b, hb⟩ : ∃ z, z = min (s - a) k := ⟨_, rfl⟩
 obtain ⟨c, hc⟩ : ∃ z, z = min (s - a - b) o := ⟨_, rfl⟩
 have a0 : 0 ≤ a := by omega
 have a1 : a ≤ 400 := by omega
 have b0 : 0 ≤ b := by omega
 have b1 : b ≤ 400 := by omega
 have c0 : 0 ≤ c := by omega
 have c1 : c ≤ 400 := by omega
 have as0 : a ≤ s := by omega
 have abs0 : a + b ≤ s := by omega
 have HA := qH ha
 have HBB := qH hb
 have HC := qH hc
 have ha' : min s i = a := ha.symm
 have hb' : min (s - a) k = b := hb.symm
 have hc' : min (s - a - b) o = c := hc.symm
 clear ha hb hc
 by_cases ht : a + b + c < s
 · have HR := qH (H1.out HB.out _ _ _ HA.out HBB.out HC.out (by omega))
   clear HA HBB HC
   go_wp2_with fail
   go_returns
   exact ⟨none, 0, 0, by rw [HR.out]; rfl, by rw [HR.out]; rfl, by rw [HR.out]; exact Arr.nil _ _, hv⟩
 · have HR := qH (H2.out HB.out _ _ _ HA.out HBB.out HC.out (by omega))
   clear HA HBB HC
   go_wp2_with fail
   go_returns
   exact ⟨_, 3, 3, by rw [HR.out]; rfl, by rw [HR.out]; rfl, by rw [HR.out]; exact arr_new_cells _ _ _, bl_alloc hv _⟩
end Go.Proofs.YtpiehlfffjhoaaaGreatDoor
