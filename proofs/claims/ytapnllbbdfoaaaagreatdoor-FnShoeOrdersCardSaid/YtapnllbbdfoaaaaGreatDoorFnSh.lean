/- The law on orders of shoes, walked. -/
import Derived.Test.YtapnllbbdfoaaaaGreatDoorShoQ
import Derived.Test.YtapnllbbdfoaaaaGreatDoorShoR
import Derived.Test.YtapnllbbdfoaaaaGreatDoorMDrwSp
import Derived.Test.YtapnllbbdfoaaaaGreatDoorMDrwO
import Derived.Test.YtapnllbbdfoaaaaGreatDoorTakS
import Derived.Test.YtapnllbbdfoaaaaGreatDoorMOrdG
import Derived.Test.YtapnllbbdfoaaaaGreatDoorSameO
import Derived.Test.YtapnllbbdfoaaaaGreatDoorRdOA
import Derived.Test.YtapnllbbdfoaaaaGreatDoorRdOS
import Derived.Test.YtapnllbbdfoaaaaGreatDoorFnB
import Derived.BigQuiet
namespace Go.Proofs.YtapnllbbdfoaaaaGreatDoor
open Go.RowKit

theorem SSame_c (A B : Option Addr) (xs : List Order) (n c d : Nat) (hn : Hid (xs.length = n)) (hz : (n : Int) ≤ 1048576) (w : World) (hA : Arr w A (flat Order.cells xs)) (hB : Arr w B (flat Order.cells xs)) :
    Calls Tryz.prog 24 #[.slice A n c, .slice B n d] w (Ret (.bool true) w) := by
  have h := SSameOrders_c A B xs xs n n c d hn hn hz w hA hB
  rwa [(listBeq_iff Order.beq_iff xs xs).2 rfl] at h
theorem SValidOrdersH_c (A : Option Addr) (xs : List Order) (n c : Nat) (hn : Hid (xs.length = n)) (hm : (n : Int) ≤ 1048576) (hs : Hid (∀ x ∈ xs, x.customer.size ≤ 9223372036854775807)) (w : World) (hA : Arr w A (flat Order.cells xs)) :
    Calls Tryz.prog 30 #[.slice A n c] w (Ret (.bool (ordsB xs)) w) := by
  go_enter Tryz.func30, Tryz.ntmps30
  go_wp2_with fail
  refine (l25Ok_c A xs n c hn hm hs _ hA).mono ?_
  rintro e w1 ⟨rfl, hb1⟩
  go_wp2_with fail
  go_returns
  exact Ret.mk rfl hb1
theorem ords_sizes {xs : List Order} (h : ordsB xs = true) : ∀ x ∈ xs, x.customer.size ≤ 9223372036854775807 := fun x hx => Nat.le_trans (ordB_name (ords_mem h x hx)) (by omega)
theorem move_ords {xs : List Order} {id : Int} (h : moveC xs id = 0) : ordsB xs = true := by
  obtain ⟨_, ho, _⟩ := stepP_zero (by omega) h
  exact ho
theorem work_mem {xs : List Order} {id d : Int} (h : workC xs id d = 0) : ∀ x ∈ workL xs id d, ordB x = true := by
  obtain ⟨z, ho, _, hz, _, hy, _, hL⟩ := stepP_zero (by omega) h
  have hL2 : workL xs id d = xs.set (lbO id xs) (workY d z) := hL
  rw [hL2]
  intro x hx
  rcases List.mem_or_eq_of_mem_set hx with hx | hx
  · exact ords_mem ho x hx
  · rw [hx]; exact hy
theorem rd_ot (x : Order) : (rdO (otB x).data.toList).isSome = ordB x ∧ (ordB x = true → (rdO (otB x).data.toList).getD zO = x) ∧ (otB x).size ≤ 30000 ∧ (ordB x = true → 0 < (otB x).size) ∧ (ordB x = false → otB x = ⟨#[]⟩) := by
  cases h : ordB x
  · have e : otB x = ⟨#[]⟩ := by unfold otB; rw [h]; rfl
    rw [e, rd_empty]
    exact ⟨rfl, fun h => (Bool.noConfusion h), by decide, fun h => (Bool.noConfusion h), fun _ => rfl⟩
  · have e : otB x = textO x := by unfold otB; rw [if_pos h]
    rw [e, rd_text h]
    refine ⟨rfl, fun _ => rfl, textO_size h, fun _ => ?_, fun h => (Bool.noConfusion h)⟩
    simp only [textO, ByteArray.size_append']
    have : (⟨#[35]⟩ : ByteArray).size = 1 := rfl
    omega
theorem sum_take {xs : List Order} {k : Nat} {x : Order} (h : xs[k]? = some x) : ((xs.take (k + 1)).map (·.left)).sum = ((xs.take k).map (·.left)).sum + x.left := by
  obtain ⟨hk, e⟩ := List.getElem?_eq_some_iff.1 h
  subst e
  rw [List.take_succ_eq_append_getElem hk, List.map_append, List.sum_append]
  simp
set_option maxRecDepth 100000 in
set_option maxHeartbeats 8000000 in
theorem FnShoeOrders_law (C : Option Addr) (nn cc : Nat) (cs : List UInt8) (hnn : Hid (cs.length = nn)) (w : World) (hA : Arr w C (cs.map bvS)) (hlt : ∀ ad, C = some ad → ad.block < w.heap.size) (hT : Tabs w) (hW : Words w) :
    Calls Tryz.prog 3 #[.slice C nn cc] w (Ret (.bool true) w) := by
  have hA0 := Lib.hid hA
  have hL0 := Lib.hid hlt
  have HT := Lib.hid hT
  have HWW := Lib.hid hW
  clear hA hlt hT hW
  go_enter Tryz.func3, Tryz.ntmps3
  go_wp2_with fail
  refine (f6big_c C nn cc w).mono ?_
  rintro e V1 ⟨rfl, hv⟩
  by_cases hb4 : 4096 < nn
  · go_wp2_with fail
    go_returns
    exact Ret.mk rfl hv
  go_wp2_with fail
  refine (DrawTakeOrder_c C nn cc cs hnn (by omega) _ (hA0.out.below hv) (fun ad e => Nat.lt_of_lt_of_le (hL0.out ad e) hv.size)).mono ?_
  rintro e V2 ⟨A1, xs, n, c, o, rfl, hl, hn31, hsz, hox, hown, hne, hb⟩
  replace hv := bl_trans hv hb
  clear hb
  obtain ⟨ga, rfl⟩ := own_addrN hown hne
  have hnc := own_cap hown hne
  have HA1 := Lib.hid (Arr.own hown)
  clear hown hne
  go_upto_region 4 with fail
  obtain ⟨V3, hWn⟩ : ∃ q9, q9 = World.alloc V2 (Obj.cells #[Value.int IntKind.i64 o.id, Value.string o.customer, Value.int IntKind.i64 o.stage, Value.int IntKind.i64 o.due, Value.int IntKind.i64 o.left, Value.int IntKind.i64 o.fittings] 26) := ⟨_, rfl⟩
  obtain ⟨g4, hgn⟩ : ∃ q9, q9 = V2.heap.size := ⟨_, rfl⟩
  have hb : Below V2.heap.size V2 V3 := by rw [hWn]; exact bl_alloc (Below.refl _ _) _
  have HB4 : Hid (Blk V3 g4 26 #[Value.int IntKind.i64 o.id, Value.string o.customer, Value.int IntKind.i64 o.stage, Value.int IntKind.i64 o.due, Value.int IntKind.i64 o.left, Value.int IntKind.i64 o.fittings]) := Lib.hid (by rw [hWn, hgn]; exact Blk.new _ _ _)
  rw [← hWn, ← hgn]
  clear hWn hgn
  replace HA1 := Lib.hid (HA1.out.below hb)
  replace hv := bl_trans hv hb
  clear hb
  have hn_xs := Lib.hid hl
  have hs_xs : Hid (∀ x ∈ xs, x.customer.size ≤ 9223372036854775807) := Lib.hid (fun x hx => Nat.le_trans (hsz x hx) (by omega))
  have hz_xs : (n : Int) ≤ 1048576 := by omega
  clear hl hsz
  have HI1 := fun (w : World) h => TakeOrder_c ⟨ga, 0, none⟩ xs n c o hn_xs hz_xs hs_xs (by omega) w h
  have HS1 := fun (w : World) h => STakeOrderW_c ga xs n c hnc o hn_xs hz_xs hs_xs (by omega) w h
  have hf := @take_ok xs o
  have hlen := takeP_len xs o
  unfold OutL at HI1 HS1
  obtain ⟨tl, hl'⟩ : ∃ z, z = (takeP xs o).1 := ⟨_, rfl⟩
  obtain ⟨tc, hc'⟩ : ∃ z, z = (takeP xs o).2 := ⟨_, rfl⟩
  rw [← hl'] at hlen
  rw [← hl', ← hc'] at HI1 HS1 hf
  obtain ⟨tn, hn'⟩ : ∃ z, z = tl.length := ⟨_, rfl⟩
  rw [← hn'] at HI1 HS1 hlen
  have hn_tl := Lib.hid hn'.symm
  have HF_tl := Lib.hid hf
  have hz_tl : (tn : Int) ≤ 1048576 := by omega
  replace HI1 := Lib.hid HI1
  replace HS1 := Lib.hid HS1
  clear hl' hc' hn' hf
  go_wp2_with (refine wpList_load_row rfl 26 _ rfl g4 rfl 26 #[Value.int IntKind.i64 o.id, Value.string o.customer, Value.int IntKind.i64 o.stage, Value.int IntKind.i64 o.due, Value.int IntKind.i64 o.left, Value.int IntKind.i64 o.fittings] (0, 0) _ HB4.out Tryz.underlying26 rfl (by kernel_rfl) ?_)
  refine (HI1.out _ HA1.out).mono ?_
  rintro e V4 ⟨P1, p1, rfl, ho, hb⟩
  replace HA1 := Lib.hid (HA1.out.below hb)
  replace HB4 := Lib.hid (HB4.out.below hb)
  replace hv := bl_trans hv hb
  clear hb
  have HP1 := Lib.hid (Arr.own ho)
  clear ho
  go_wp2_with (refine wpList_load_row rfl 26 _ rfl g4 rfl 26 #[Value.int IntKind.i64 o.id, Value.string o.customer, Value.int IntKind.i64 o.stage, Value.int IntKind.i64 o.due, Value.int IntKind.i64 o.left, Value.int IntKind.i64 o.fittings] (0, 0) _ HB4.out Tryz.underlying26 rfl (by kernel_rfl) ?_)
  refine (HS1.out _ HA1.out).mono ?_
  rintro e V5 ⟨P2, p2, rfl, ho, hb⟩
  replace HA1 := Lib.hid (HA1.out.below hb)
  replace HB4 := Lib.hid (HB4.out.below hb)
  replace HP1 := Lib.hid (HP1.out.below hb)
  replace hv := bl_trans hv hb
  clear hb
  have HP2 := Lib.hid (Arr.own ho)
  clear ho HI1 HS1
  clear HB4
  go_wp2_with fail
  refine (DrawMoveOrder_c C nn cc cs hnn (by omega) _ (hA0.out.below hv) (fun ad e => Nat.lt_of_lt_of_le (hL0.out ad e) hv.size)).mono ?_
  rintro e V6 ⟨A2, ys, n2, c2, id2, rfl, hl, h31_n2, hsz, hown, hb⟩
  replace HA1 := Lib.hid (HA1.out.below hb)
  replace HP1 := Lib.hid (HP1.out.below hb)
  replace HP2 := Lib.hid (HP2.out.below hb)
  replace hv := bl_trans hv hb
  clear hb
  have HA2 := Lib.hid (Arr.own hown)
  clear hown
  have hn_ys := Lib.hid hl
  have hs_ys : Hid (∀ x ∈ ys, x.customer.size ≤ 9223372036854775807) := Lib.hid (fun x hx => Nat.le_trans (hsz x hx) (by omega))
  have hz_ys : (n2 : Int) ≤ 1048576 := by omega
  clear hl hsz
  have HI1 := fun (w : World) h => MoveOrder_c A2 ys n2 c2 id2 hn_ys hz_ys hs_ys w h
  have HS1 := fun (w : World) h => SMoveOrder_c A2 ys n2 c2 id2 hn_ys hz_ys hs_ys w h
  have hf := fun h => And.intro (move_ords h) (move_stage (xs := ys) (id := id2) h)
  have hlen := moveL_len ys id2
  rw [hn_ys.out] at hlen
  unfold OutL at HI1 HS1
  rw [show moveP ys id2 = (moveL ys id2, moveC ys id2) from rfl] at HI1 HS1
  dsimp only at HI1 HS1
  obtain ⟨ml, hl'⟩ : ∃ z, z = moveL ys id2 := ⟨_, rfl⟩
  obtain ⟨mc, hc'⟩ : ∃ z, z = moveC ys id2 := ⟨_, rfl⟩
  rw [← hl'] at hlen
  rw [← hl', ← hc'] at HI1 HS1 hf
  obtain ⟨mn, hn'⟩ : ∃ z, z = ml.length := ⟨_, rfl⟩
  rw [← hn'] at HI1 HS1 hlen
  have hn_ml := Lib.hid hn'.symm
  have HF_ml := Lib.hid hf
  have hz_ml : (mn : Int) ≤ 1048576 := by omega
  replace HI1 := Lib.hid HI1
  replace HS1 := Lib.hid HS1
  clear hl' hc' hn' hf
  go_wp2_with fail
  refine (HI1.out _ HA2.out).mono ?_
  rintro e V7 ⟨P3, p3, rfl, ho, hb⟩
  replace HA1 := Lib.hid (HA1.out.below hb)
  replace HP1 := Lib.hid (HP1.out.below hb)
  replace HP2 := Lib.hid (HP2.out.below hb)
  replace HA2 := Lib.hid (HA2.out.below hb)
  replace hv := bl_trans hv hb
  clear hb
  have HP3 := Lib.hid (Arr.own ho)
  clear ho
  go_wp2_with fail
  refine (HS1.out _ HA2.out).mono ?_
  rintro e V8 ⟨P4, p4, rfl, ho, hb⟩
  replace HA1 := Lib.hid (HA1.out.below hb)
  replace HP1 := Lib.hid (HP1.out.below hb)
  replace HP2 := Lib.hid (HP2.out.below hb)
  replace HA2 := Lib.hid (HA2.out.below hb)
  replace HP3 := Lib.hid (HP3.out.below hb)
  replace hv := bl_trans hv hb
  clear hb
  have HP4 := Lib.hid (Arr.own ho)
  clear ho HI1 HS1
  go_wp2_with fail
  refine (DrawFitOrder_c C nn cc cs hnn (by omega) _ (hA0.out.below hv) (fun ad e => Nat.lt_of_lt_of_le (hL0.out ad e) hv.size)).mono ?_
  rintro e V9 ⟨A3, zs, n3, c3, id3, m3, rfl, hl, h31_n3, hsz, hown, hb⟩
  replace HA1 := Lib.hid (HA1.out.below hb)
  replace HP1 := Lib.hid (HP1.out.below hb)
  replace HP2 := Lib.hid (HP2.out.below hb)
  replace HA2 := Lib.hid (HA2.out.below hb)
  replace HP3 := Lib.hid (HP3.out.below hb)
  replace HP4 := Lib.hid (HP4.out.below hb)
  replace hv := bl_trans hv hb
  clear hb
  have HA3 := Lib.hid (Arr.own hown)
  clear hown
  have hn_zs := Lib.hid hl
  have hs_zs : Hid (∀ x ∈ zs, x.customer.size ≤ 9223372036854775807) := Lib.hid (fun x hx => Nat.le_trans (hsz x hx) (by omega))
  have hz_zs : (n3 : Int) ≤ 1048576 := by omega
  clear hl hsz
  have HI1 := fun (w : World) h => FitOrder_c A3 zs n3 c3 id3 m3 hn_zs hz_zs hs_zs w h
  have HS1 := fun (w : World) h => SFitOrder_c A3 zs n3 c3 id3 m3 hn_zs hz_zs hs_zs w h
  have hf := fun h => fit_ok (xs := zs) (id := id3) (m := m3) h
  have hlen := fitL_len zs id3 m3
  rw [hn_zs.out] at hlen
  unfold OutL at HI1 HS1
  rw [show fitP zs id3 m3 = (fitL zs id3 m3, fitC zs id3 m3) from rfl] at HI1 HS1
  dsimp only at HI1 HS1
  obtain ⟨fl, hl'⟩ : ∃ z, z = fitL zs id3 m3 := ⟨_, rfl⟩
  obtain ⟨fc, hc'⟩ : ∃ z, z = fitC zs id3 m3 := ⟨_, rfl⟩
  rw [← hl'] at hlen
  rw [← hl', ← hc'] at HI1 HS1 hf
  obtain ⟨fln, hn'⟩ : ∃ z, z = fl.length := ⟨_, rfl⟩
  rw [← hn'] at HI1 HS1 hlen
  have hn_fl := Lib.hid hn'.symm
  have HF_fl := Lib.hid hf
  have hz_fl : (fln : Int) ≤ 1048576 := by omega
  replace HI1 := Lib.hid HI1
  replace HS1 := Lib.hid HS1
  clear hl' hc' hn' hf
  go_wp2_with fail
  refine (HI1.out _ HA3.out).mono ?_
  rintro e V10 ⟨P5, p5, rfl, ho, hb⟩
  replace HA1 := Lib.hid (HA1.out.below hb)
  replace HP1 := Lib.hid (HP1.out.below hb)
  replace HP2 := Lib.hid (HP2.out.below hb)
  replace HA2 := Lib.hid (HA2.out.below hb)
  replace HP3 := Lib.hid (HP3.out.below hb)
  replace HP4 := Lib.hid (HP4.out.below hb)
  replace HA3 := Lib.hid (HA3.out.below hb)
  replace hv := bl_trans hv hb
  clear hb
  have HP5 := Lib.hid (Arr.own ho)
  clear ho
  go_wp2_with fail
  refine (HS1.out _ HA3.out).mono ?_
  rintro e V11 ⟨P6, p6, rfl, ho, hb⟩
  replace HA1 := Lib.hid (HA1.out.below hb)
  replace HP1 := Lib.hid (HP1.out.below hb)
  replace HP2 := Lib.hid (HP2.out.below hb)
  replace HA2 := Lib.hid (HA2.out.below hb)
  replace HP3 := Lib.hid (HP3.out.below hb)
  replace HP4 := Lib.hid (HP4.out.below hb)
  replace HA3 := Lib.hid (HA3.out.below hb)
  replace HP5 := Lib.hid (HP5.out.below hb)
  replace hv := bl_trans hv hb
  clear hb
  have HP6 := Lib.hid (Arr.own ho)
  clear ho HI1 HS1
  go_wp2_with fail
  refine (DrawWorkOn_c C nn cc cs hnn (by omega) _ (hA0.out.below hv) (fun ad e => Nat.lt_of_lt_of_le (hL0.out ad e) hv.size)).mono ?_
  rintro e V12 ⟨A4, us, n4, c4, id4, d4, rfl, hl, h31_n4, hsz, hown, hb⟩
  replace HA1 := Lib.hid (HA1.out.below hb)
  replace HP1 := Lib.hid (HP1.out.below hb)
  replace HP2 := Lib.hid (HP2.out.below hb)
  replace HA2 := Lib.hid (HA2.out.below hb)
  replace HP3 := Lib.hid (HP3.out.below hb)
  replace HP4 := Lib.hid (HP4.out.below hb)
  replace HA3 := Lib.hid (HA3.out.below hb)
  replace HP5 := Lib.hid (HP5.out.below hb)
  replace HP6 := Lib.hid (HP6.out.below hb)
  replace hv := bl_trans hv hb
  clear hb
  have HA4 := Lib.hid (Arr.own hown)
  clear hown
  have hn_us := Lib.hid hl
  have hs_us : Hid (∀ x ∈ us, x.customer.size ≤ 9223372036854775807) := Lib.hid (fun x hx => Nat.le_trans (hsz x hx) (by omega))
  have hz_us : (n4 : Int) ≤ 1048576 := by omega
  clear hl hsz
  have HI1 := fun (w : World) h => WorkOn_c A4 us n4 c4 id4 d4 hn_us hz_us hs_us w h
  have HS1 := fun (w : World) h => SWorkOn_c A4 us n4 c4 id4 d4 hn_us hz_us hs_us w h
  have hf := fun h => And.intro (work_mem h) (work_sum (xs := us) (id := id4) (d := d4) h)
  have hlen := workL_len us id4 d4
  rw [hn_us.out] at hlen
  unfold OutL at HI1 HS1
  rw [show workP us id4 d4 = (workL us id4 d4, workC us id4 d4) from rfl] at HI1 HS1
  dsimp only at HI1 HS1
  obtain ⟨wl, hl'⟩ : ∃ z, z = workL us id4 d4 := ⟨_, rfl⟩
  obtain ⟨kc, hc'⟩ : ∃ z, z = workC us id4 d4 := ⟨_, rfl⟩
  rw [← hl'] at hlen
  rw [← hl', ← hc'] at HI1 HS1 hf
  obtain ⟨wn, hn'⟩ : ∃ z, z = wl.length := ⟨_, rfl⟩
  rw [← hn'] at HI1 HS1 hlen
  have hn_wl := Lib.hid hn'.symm
  have HF_wl := Lib.hid hf
  have hz_wl : (wn : Int) ≤ 1048576 := by omega
  replace HI1 := Lib.hid HI1
  replace HS1 := Lib.hid HS1
  clear hl' hc' hn' hf
  go_wp2_with fail
  refine (HI1.out _ HA4.out).mono ?_
  rintro e V13 ⟨P7, p7, rfl, ho, hb⟩
  replace HA1 := Lib.hid (HA1.out.below hb)
  replace HP1 := Lib.hid (HP1.out.below hb)
  replace HP2 := Lib.hid (HP2.out.below hb)
  replace HA2 := Lib.hid (HA2.out.below hb)
  replace HP3 := Lib.hid (HP3.out.below hb)
  replace HP4 := Lib.hid (HP4.out.below hb)
  replace HA3 := Lib.hid (HA3.out.below hb)
  replace HP5 := Lib.hid (HP5.out.below hb)
  replace HP6 := Lib.hid (HP6.out.below hb)
  replace HA4 := Lib.hid (HA4.out.below hb)
  replace hv := bl_trans hv hb
  clear hb
  have HP7 := Lib.hid (Arr.own ho)
  clear ho
  go_wp2_with fail
  refine (HS1.out _ HA4.out).mono ?_
  rintro e V14 ⟨P8, p8, rfl, ho, hb⟩
  replace HA1 := Lib.hid (HA1.out.below hb)
  replace HP1 := Lib.hid (HP1.out.below hb)
  replace HP2 := Lib.hid (HP2.out.below hb)
  replace HA2 := Lib.hid (HA2.out.below hb)
  replace HP3 := Lib.hid (HP3.out.below hb)
  replace HP4 := Lib.hid (HP4.out.below hb)
  replace HA3 := Lib.hid (HA3.out.below hb)
  replace HP5 := Lib.hid (HP5.out.below hb)
  replace HP6 := Lib.hid (HP6.out.below hb)
  replace HA4 := Lib.hid (HA4.out.below hb)
  replace HP7 := Lib.hid (HP7.out.below hb)
  replace hv := bl_trans hv hb
  clear hb
  have HP8 := Lib.hid (Arr.own ho)
  clear ho HI1 HS1
  go_wp2_with fail
  refine (DrawOrderText_c C nn cc cs hnn (by omega) _ (hA0.out.below hv) (fun ad e => Nat.lt_of_lt_of_le (hL0.out ad e) hv.size)).mono ?_
  rintro e V15 ⟨t, rfl, htz, hb⟩
  replace HA1 := Lib.hid (HA1.out.below hb)
  replace HP1 := Lib.hid (HP1.out.below hb)
  replace HP2 := Lib.hid (HP2.out.below hb)
  replace HA2 := Lib.hid (HA2.out.below hb)
  replace HP3 := Lib.hid (HP3.out.below hb)
  replace HP4 := Lib.hid (HP4.out.below hb)
  replace HA3 := Lib.hid (HA3.out.below hb)
  replace HP5 := Lib.hid (HP5.out.below hb)
  replace HP6 := Lib.hid (HP6.out.below hb)
  replace HA4 := Lib.hid (HA4.out.below hb)
  replace HP7 := Lib.hid (HP7.out.below hb)
  replace HP8 := Lib.hid (HP8.out.below hb)
  replace hv := bl_trans hv hb
  clear hb
  go_upto_region 16 with fail
  obtain ⟨V16, hWn⟩ : ∃ q9, q9 = World.alloc V15 (Obj.cells #[Value.int IntKind.i64 t.id, Value.string t.customer, Value.int IntKind.i64 t.stage, Value.int IntKind.i64 t.due, Value.int IntKind.i64 t.left, Value.int IntKind.i64 t.fittings] 26) := ⟨_, rfl⟩
  obtain ⟨g29, hgn⟩ : ∃ q9, q9 = V15.heap.size := ⟨_, rfl⟩
  have hb : Below V15.heap.size V15 V16 := by rw [hWn]; exact bl_alloc (Below.refl _ _) _
  have HB29 : Hid (Blk V16 g29 26 #[Value.int IntKind.i64 t.id, Value.string t.customer, Value.int IntKind.i64 t.stage, Value.int IntKind.i64 t.due, Value.int IntKind.i64 t.left, Value.int IntKind.i64 t.fittings]) := Lib.hid (by rw [hWn, hgn]; exact Blk.new _ _ _)
  rw [← hWn, ← hgn]
  clear hWn hgn
  replace HA1 := Lib.hid (HA1.out.below hb)
  replace HP1 := Lib.hid (HP1.out.below hb)
  replace HP2 := Lib.hid (HP2.out.below hb)
  replace HA2 := Lib.hid (HA2.out.below hb)
  replace HP3 := Lib.hid (HP3.out.below hb)
  replace HP4 := Lib.hid (HP4.out.below hb)
  replace HA3 := Lib.hid (HA3.out.below hb)
  replace HP5 := Lib.hid (HP5.out.below hb)
  replace HP6 := Lib.hid (HP6.out.below hb)
  replace HA4 := Lib.hid (HA4.out.below hb)
  replace HP7 := Lib.hid (HP7.out.below hb)
  replace HP8 := Lib.hid (HP8.out.below hb)
  replace hv := bl_trans hv hb
  clear hb
  have HI1 := fun (w : World) h h' => OrderText_c t (by omega) w h h'
  have HS1 := fun (w : World) => SOrderText_c t (by omega) w
  obtain ⟨r1, r2, r3, r4, r5⟩ := rd_ot t
  have HRB := fun (w : World) h h' => ReadOrder_c (otB t) (by omega) w h h'
  unfold outO at HRB
  rw [r1] at HRB
  obtain ⟨bx, hbx⟩ : ∃ z, z = (rdO (otB t).data.toList).getD zO := ⟨_, rfl⟩
  rw [← hbx] at HRB r2
  obtain ⟨bo, hbo⟩ : ∃ z, z = ordB t := ⟨_, rfl⟩
  rw [← hbo] at HRB r2 r4 r5
  obtain ⟨tx, htx⟩ : ∃ z, z = otB t := ⟨_, rfl⟩
  rw [← htx] at HRB HI1 HS1 r4 r5
  clear hbx hbo htx r1 r3
  have R2 := Lib.hid r2
  have R4 := Lib.hid r4
  have R5 := Lib.hid r5
  replace HI1 := Lib.hid HI1
  have HOT := Lib.hid HS1
  replace HRB := Lib.hid HRB
  clear HS1 r2 r4 r5
  go_wp2_with (refine wpList_load_row rfl 26 _ rfl g29 rfl 26 #[Value.int IntKind.i64 t.id, Value.string t.customer, Value.int IntKind.i64 t.stage, Value.int IntKind.i64 t.due, Value.int IntKind.i64 t.left, Value.int IntKind.i64 t.fittings] (0, 0) _ HB29.out Tryz.underlying26 rfl (by kernel_rfl) ?_)
  refine (HI1.out _ (HT.out.below hv).pow (HWW.out.below hv)).mono ?_
  rintro e V17 ⟨rfl, hb⟩
  replace HA1 := Lib.hid (HA1.out.below hb)
  replace HP1 := Lib.hid (HP1.out.below hb)
  replace HP2 := Lib.hid (HP2.out.below hb)
  replace HA2 := Lib.hid (HA2.out.below hb)
  replace HP3 := Lib.hid (HP3.out.below hb)
  replace HP4 := Lib.hid (HP4.out.below hb)
  replace HA3 := Lib.hid (HA3.out.below hb)
  replace HP5 := Lib.hid (HP5.out.below hb)
  replace HP6 := Lib.hid (HP6.out.below hb)
  replace HA4 := Lib.hid (HA4.out.below hb)
  replace HP7 := Lib.hid (HP7.out.below hb)
  replace HP8 := Lib.hid (HP8.out.below hb)
  replace HB29 := Lib.hid (HB29.out.below hb)
  replace hv := bl_trans hv hb
  clear hb
  clear HI1
  go_wp2_with fail
  refine (HRB.out _ (HT.out.below hv) (HWW.out.below hv)).mono ?_
  rintro e V18 ⟨rfl, hb⟩
  replace HA1 := Lib.hid (HA1.out.below hb)
  replace HP1 := Lib.hid (HP1.out.below hb)
  replace HP2 := Lib.hid (HP2.out.below hb)
  replace HA2 := Lib.hid (HA2.out.below hb)
  replace HP3 := Lib.hid (HP3.out.below hb)
  replace HP4 := Lib.hid (HP4.out.below hb)
  replace HA3 := Lib.hid (HA3.out.below hb)
  replace HP5 := Lib.hid (HP5.out.below hb)
  replace HP6 := Lib.hid (HP6.out.below hb)
  replace HA4 := Lib.hid (HA4.out.below hb)
  replace HP7 := Lib.hid (HP7.out.below hb)
  replace HP8 := Lib.hid (HP8.out.below hb)
  replace HB29 := Lib.hid (HB29.out.below hb)
  replace hv := bl_trans hv hb
  clear hb
  clear HRB
  go_upto_region 18 with fail
  obtain ⟨V19, hWn⟩ : ∃ q9, q9 = World.alloc V18 (Obj.cells #[Value.int IntKind.i64 bx.id, Value.string bx.customer, Value.int IntKind.i64 bx.stage, Value.int IntKind.i64 bx.due, Value.int IntKind.i64 bx.left, Value.int IntKind.i64 bx.fittings] 26) := ⟨_, rfl⟩
  obtain ⟨g31, hgn⟩ : ∃ q9, q9 = V18.heap.size := ⟨_, rfl⟩
  have hb : Below V18.heap.size V18 V19 := by rw [hWn]; exact bl_alloc (Below.refl _ _) _
  have HB31 : Hid (Blk V19 g31 26 #[Value.int IntKind.i64 bx.id, Value.string bx.customer, Value.int IntKind.i64 bx.stage, Value.int IntKind.i64 bx.due, Value.int IntKind.i64 bx.left, Value.int IntKind.i64 bx.fittings]) := Lib.hid (by rw [hWn, hgn]; exact Blk.new _ _ _)
  rw [← hWn, ← hgn]
  clear hWn hgn
  replace HA1 := Lib.hid (HA1.out.below hb)
  replace HP1 := Lib.hid (HP1.out.below hb)
  replace HP2 := Lib.hid (HP2.out.below hb)
  replace HA2 := Lib.hid (HA2.out.below hb)
  replace HP3 := Lib.hid (HP3.out.below hb)
  replace HP4 := Lib.hid (HP4.out.below hb)
  replace HA3 := Lib.hid (HA3.out.below hb)
  replace HP5 := Lib.hid (HP5.out.below hb)
  replace HP6 := Lib.hid (HP6.out.below hb)
  replace HA4 := Lib.hid (HA4.out.below hb)
  replace HP7 := Lib.hid (HP7.out.below hb)
  replace HP8 := Lib.hid (HP8.out.below hb)
  replace HB29 := Lib.hid (HB29.out.below hb)
  replace hv := bl_trans hv hb
  clear hb
  go_wp2_with fail
  refine (DrawReadOrder_c C nn cc cs hnn (by omega) _ (hA0.out.below hv) (fun ad e => Nat.lt_of_lt_of_le (hL0.out ad e) hv.size)).mono ?_
  rintro e V20 ⟨s, rfl, hsz, hb⟩
  replace HA1 := Lib.hid (HA1.out.below hb)
  replace HP1 := Lib.hid (HP1.out.below hb)
  replace HP2 := Lib.hid (HP2.out.below hb)
  replace HA2 := Lib.hid (HA2.out.below hb)
  replace HP3 := Lib.hid (HP3.out.below hb)
  replace HP4 := Lib.hid (HP4.out.below hb)
  replace HA3 := Lib.hid (HA3.out.below hb)
  replace HP5 := Lib.hid (HP5.out.below hb)
  replace HP6 := Lib.hid (HP6.out.below hb)
  replace HA4 := Lib.hid (HA4.out.below hb)
  replace HP7 := Lib.hid (HP7.out.below hb)
  replace HP8 := Lib.hid (HP8.out.below hb)
  replace HB29 := Lib.hid (HB29.out.below hb)
  replace HB31 := Lib.hid (HB31.out.below hb)
  replace hv := bl_trans hv hb
  clear hb
  have HI1 := fun (w : World) h h' => ReadOrder_c s (by omega) w h h'
  have HS1 := fun (w : World) => SReadOrder_c s (by omega) w
  rw [show outOs (rdO s.data.toList) = outO (rdO s.data.toList) from rfl] at HS1
  unfold outO at HI1 HS1
  obtain ⟨u, hu⟩ : ∃ z, z = (rdO s.data.toList).getD zO := ⟨_, rfl⟩
  obtain ⟨uo, huo⟩ : ∃ z, z = (rdO s.data.toList).isSome := ⟨_, rfl⟩
  rw [← hu, ← huo] at HI1 HS1
  replace HI1 := Lib.hid HI1
  replace HS1 := Lib.hid HS1
  clear hu huo hsz
  go_wp2_with fail
  refine (HI1.out _ (HT.out.below hv) (HWW.out.below hv)).mono ?_
  rintro e V21 ⟨rfl, hb⟩
  replace HA1 := Lib.hid (HA1.out.below hb)
  replace HP1 := Lib.hid (HP1.out.below hb)
  replace HP2 := Lib.hid (HP2.out.below hb)
  replace HA2 := Lib.hid (HA2.out.below hb)
  replace HP3 := Lib.hid (HP3.out.below hb)
  replace HP4 := Lib.hid (HP4.out.below hb)
  replace HA3 := Lib.hid (HA3.out.below hb)
  replace HP5 := Lib.hid (HP5.out.below hb)
  replace HP6 := Lib.hid (HP6.out.below hb)
  replace HA4 := Lib.hid (HA4.out.below hb)
  replace HP7 := Lib.hid (HP7.out.below hb)
  replace HP8 := Lib.hid (HP8.out.below hb)
  replace HB29 := Lib.hid (HB29.out.below hb)
  replace HB31 := Lib.hid (HB31.out.below hb)
  replace hv := bl_trans hv hb
  clear hb
  go_upto_region 20 with fail
  obtain ⟨V22, hWn⟩ : ∃ q9, q9 = World.alloc V21 (Obj.cells #[Value.int IntKind.i64 u.id, Value.string u.customer, Value.int IntKind.i64 u.stage, Value.int IntKind.i64 u.due, Value.int IntKind.i64 u.left, Value.int IntKind.i64 u.fittings] 26) := ⟨_, rfl⟩
  obtain ⟨g34, hgn⟩ : ∃ q9, q9 = V21.heap.size := ⟨_, rfl⟩
  have hb : Below V21.heap.size V21 V22 := by rw [hWn]; exact bl_alloc (Below.refl _ _) _
  have HB34 : Hid (Blk V22 g34 26 #[Value.int IntKind.i64 u.id, Value.string u.customer, Value.int IntKind.i64 u.stage, Value.int IntKind.i64 u.due, Value.int IntKind.i64 u.left, Value.int IntKind.i64 u.fittings]) := Lib.hid (by rw [hWn, hgn]; exact Blk.new _ _ _)
  rw [← hWn, ← hgn]
  clear hWn hgn
  replace HA1 := Lib.hid (HA1.out.below hb)
  replace HP1 := Lib.hid (HP1.out.below hb)
  replace HP2 := Lib.hid (HP2.out.below hb)
  replace HA2 := Lib.hid (HA2.out.below hb)
  replace HP3 := Lib.hid (HP3.out.below hb)
  replace HP4 := Lib.hid (HP4.out.below hb)
  replace HA3 := Lib.hid (HA3.out.below hb)
  replace HP5 := Lib.hid (HP5.out.below hb)
  replace HP6 := Lib.hid (HP6.out.below hb)
  replace HA4 := Lib.hid (HA4.out.below hb)
  replace HP7 := Lib.hid (HP7.out.below hb)
  replace HP8 := Lib.hid (HP8.out.below hb)
  replace HB29 := Lib.hid (HB29.out.below hb)
  replace HB31 := Lib.hid (HB31.out.below hb)
  replace hv := bl_trans hv hb
  clear hb
  go_wp2_with fail
  refine (HS1.out _).mono ?_
  rintro e V23 ⟨rfl, hb⟩
  replace HA1 := Lib.hid (HA1.out.below hb)
  replace HP1 := Lib.hid (HP1.out.below hb)
  replace HP2 := Lib.hid (HP2.out.below hb)
  replace HA2 := Lib.hid (HA2.out.below hb)
  replace HP3 := Lib.hid (HP3.out.below hb)
  replace HP4 := Lib.hid (HP4.out.below hb)
  replace HA3 := Lib.hid (HA3.out.below hb)
  replace HP5 := Lib.hid (HP5.out.below hb)
  replace HP6 := Lib.hid (HP6.out.below hb)
  replace HA4 := Lib.hid (HA4.out.below hb)
  replace HP7 := Lib.hid (HP7.out.below hb)
  replace HP8 := Lib.hid (HP8.out.below hb)
  replace HB29 := Lib.hid (HB29.out.below hb)
  replace HB31 := Lib.hid (HB31.out.below hb)
  replace HB34 := Lib.hid (HB34.out.below hb)
  replace hv := bl_trans hv hb
  clear hb
  clear HI1 HS1
  go_upto_region 21 with fail
  obtain ⟨V24, hWn⟩ : ∃ q9, q9 = World.alloc V23 (Obj.cells #[Value.int IntKind.i64 u.id, Value.string u.customer, Value.int IntKind.i64 u.stage, Value.int IntKind.i64 u.due, Value.int IntKind.i64 u.left, Value.int IntKind.i64 u.fittings] 26) := ⟨_, rfl⟩
  obtain ⟨g36, hgn⟩ : ∃ q9, q9 = V23.heap.size := ⟨_, rfl⟩
  have hb : Below V23.heap.size V23 V24 := by rw [hWn]; exact bl_alloc (Below.refl _ _) _
  have HB36 : Hid (Blk V24 g36 26 #[Value.int IntKind.i64 u.id, Value.string u.customer, Value.int IntKind.i64 u.stage, Value.int IntKind.i64 u.due, Value.int IntKind.i64 u.left, Value.int IntKind.i64 u.fittings]) := Lib.hid (by rw [hWn, hgn]; exact Blk.new _ _ _)
  rw [← hWn, ← hgn]
  clear hWn hgn
  replace HA1 := Lib.hid (HA1.out.below hb)
  replace HP1 := Lib.hid (HP1.out.below hb)
  replace HP2 := Lib.hid (HP2.out.below hb)
  replace HA2 := Lib.hid (HA2.out.below hb)
  replace HP3 := Lib.hid (HP3.out.below hb)
  replace HP4 := Lib.hid (HP4.out.below hb)
  replace HA3 := Lib.hid (HA3.out.below hb)
  replace HP5 := Lib.hid (HP5.out.below hb)
  replace HP6 := Lib.hid (HP6.out.below hb)
  replace HA4 := Lib.hid (HA4.out.below hb)
  replace HP7 := Lib.hid (HP7.out.below hb)
  replace HP8 := Lib.hid (HP8.out.below hb)
  replace HB29 := Lib.hid (HB29.out.below hb)
  replace HB31 := Lib.hid (HB31.out.below hb)
  replace HB34 := Lib.hid (HB34.out.below hb)
  replace hv := bl_trans hv hb
  clear hb
  go_wp2_with fail
  refine (DrawSameOrders_c C nn cc cs hnn (by omega) _ (hA0.out.below hv) (fun ad e => Nat.lt_of_lt_of_le (hL0.out ad e) hv.size)).mono ?_
  rintro e V25 ⟨A9, B9, ds, es, n9, c9, m9, e9, rfl, hl, hl2, h9, h99, hsz, hsz2, hown, hown2, hb⟩
  replace HA1 := Lib.hid (HA1.out.below hb)
  replace HP1 := Lib.hid (HP1.out.below hb)
  replace HP2 := Lib.hid (HP2.out.below hb)
  replace HA2 := Lib.hid (HA2.out.below hb)
  replace HP3 := Lib.hid (HP3.out.below hb)
  replace HP4 := Lib.hid (HP4.out.below hb)
  replace HA3 := Lib.hid (HA3.out.below hb)
  replace HP5 := Lib.hid (HP5.out.below hb)
  replace HP6 := Lib.hid (HP6.out.below hb)
  replace HA4 := Lib.hid (HA4.out.below hb)
  replace HP7 := Lib.hid (HP7.out.below hb)
  replace HP8 := Lib.hid (HP8.out.below hb)
  replace HB29 := Lib.hid (HB29.out.below hb)
  replace HB31 := Lib.hid (HB31.out.below hb)
  replace HB34 := Lib.hid (HB34.out.below hb)
  replace HB36 := Lib.hid (HB36.out.below hb)
  replace hv := bl_trans hv hb
  clear hb
  have HA9 := Lib.hid (Arr.own hown)
  have HB9 := Lib.hid (Arr.own hown2)
  have hn_ds := Lib.hid hl
  have hn_es := Lib.hid hl2
  clear hown hown2 hl hl2 hsz hsz2
  go_wp2_with fail
  refine (DrawStageWord_c C nn cc cs hnn (by omega) _ (hA0.out.below hv) (fun ad e => Nat.lt_of_lt_of_le (hL0.out ad e) hv.size)).mono ?_
  rintro e V26 ⟨sg, rfl, sg0, sg1, hb⟩
  replace HA1 := Lib.hid (HA1.out.below hb)
  replace HP1 := Lib.hid (HP1.out.below hb)
  replace HP2 := Lib.hid (HP2.out.below hb)
  replace HA2 := Lib.hid (HA2.out.below hb)
  replace HP3 := Lib.hid (HP3.out.below hb)
  replace HP4 := Lib.hid (HP4.out.below hb)
  replace HA3 := Lib.hid (HA3.out.below hb)
  replace HP5 := Lib.hid (HP5.out.below hb)
  replace HP6 := Lib.hid (HP6.out.below hb)
  replace HA4 := Lib.hid (HA4.out.below hb)
  replace HP7 := Lib.hid (HP7.out.below hb)
  replace HP8 := Lib.hid (HP8.out.below hb)
  replace HB29 := Lib.hid (HB29.out.below hb)
  replace HB31 := Lib.hid (HB31.out.below hb)
  replace HB34 := Lib.hid (HB34.out.below hb)
  replace HB36 := Lib.hid (HB36.out.below hb)
  replace HA9 := Lib.hid (HA9.out.below hb)
  replace HB9 := Lib.hid (HB9.out.below hb)
  replace hv := bl_trans hv hb
  clear hb
  clear hA0 hL0
  go_upto_region 23 with fail
  go_cut [244] (fun s9 wx => s9 = .bool false ∧ Hid (Arr wx (some ⟨ga, 0, none⟩) (flat Order.cells xs)) ∧ Hid (Arr wx P1 (flat Order.cells tl)) ∧ Hid (Arr wx A2 (flat Order.cells ys)) ∧ Hid (Arr wx P3 (flat Order.cells ml)) ∧ Hid (Arr wx P4 (flat Order.cells ml)) ∧ Hid (Arr wx P5 (flat Order.cells fl)) ∧ Hid (Arr wx A4 (flat Order.cells us)) ∧ Hid (Arr wx P8 (flat Order.cells wl)) ∧ Below w.heap.size w wx)
  case first =>
   as_aux_lemma =>
    have HQ1 := Order.run_neq t t
    rw [Order.beq_self] at HQ1
    have HQ2 := Order.run_neq u u
    rw [Order.beq_self] at HQ2
    obtain ⟨r9, hr9⟩ : ∃ z, z = listBeq Order.beq ds es := ⟨_, rfl⟩
    have HD1 := fun (w : World) h h' => SameOrders_c A9 B9 ds es n9 m9 c9 e9 hn_ds hn_es (by omega) w h h'
    have HD2 := fun (w : World) h h' => SSameOrders_c A9 B9 ds es n9 m9 c9 e9 hn_ds hn_es (by omega) w h h'
    rw [← hr9] at HD1 HD2
    replace HD1 := Lib.hid HD1
    replace HD2 := Lib.hid HD2
    have hrr : (r9 != r9) = false := by simp
    obtain ⟨wd, hwd⟩ : ∃ z, z = wordAt sg := ⟨_, rfl⟩
    have HG1 := fun (w : World) h => StageWord_c sg w h
    have HG2 := fun (w : World) => SStageWord_c sg w
    rw [← hwd] at HG1 HG2
    replace HG1 := Lib.hid HG1
    replace HG2 := Lib.hid HG2
    have hww : (!wd.toList == wd.toList) = false := by simp
    have htt : (!tx.toList == tx.toList) = false := by simp
    obtain ⟨ob, hob⟩ : ∃ z, z = ordsB xs := ⟨_, rfl⟩
    have HV1 := fun (w : World) h => ValidOrders_c (some ⟨ga, 0, none⟩) xs n c hn_xs hz_xs hs_xs w h
    have HV2 := fun (w : World) h => SValidOrdersH_c (some ⟨ga, 0, none⟩) xs n c hn_xs hz_xs hs_xs w h
    rw [← hob] at HV1 HV2
    replace HV1 := Lib.hid HV1
    replace HV2 := Lib.hid HV2
    have hoo : (ob != ob) = false := by simp
    have huu : (uo != uo) = false := by simp
    clear hr9 hwd hob
    go_wp2_with fail
    refine (SSame_c P1 P2 tl tn p1 p2 hn_tl hz_tl _ HP1.out HP2.out).mono ?_
    rintro e V27 ⟨rfl, hb⟩
    replace HA1 := Lib.hid (HA1.out.below hb)
    replace HP1 := Lib.hid (HP1.out.below hb)
    replace HP2 := Lib.hid (HP2.out.below hb)
    replace HA2 := Lib.hid (HA2.out.below hb)
    replace HP3 := Lib.hid (HP3.out.below hb)
    replace HP4 := Lib.hid (HP4.out.below hb)
    replace HA3 := Lib.hid (HA3.out.below hb)
    replace HP5 := Lib.hid (HP5.out.below hb)
    replace HP6 := Lib.hid (HP6.out.below hb)
    replace HA4 := Lib.hid (HA4.out.below hb)
    replace HP7 := Lib.hid (HP7.out.below hb)
    replace HP8 := Lib.hid (HP8.out.below hb)
    replace HB29 := Lib.hid (HB29.out.below hb)
    replace HB31 := Lib.hid (HB31.out.below hb)
    replace HB34 := Lib.hid (HB34.out.below hb)
    replace HB36 := Lib.hid (HB36.out.below hb)
    replace HA9 := Lib.hid (HA9.out.below hb)
    replace HB9 := Lib.hid (HB9.out.below hb)
    replace hv := bl_trans hv hb
    clear hb
    go_wp2_with fail
    refine (SSame_c P3 P4 ml mn p3 p4 hn_ml hz_ml _ HP3.out HP4.out).mono ?_
    rintro e V28 ⟨rfl, hb⟩
    replace HA1 := Lib.hid (HA1.out.below hb)
    replace HP1 := Lib.hid (HP1.out.below hb)
    replace HP2 := Lib.hid (HP2.out.below hb)
    replace HA2 := Lib.hid (HA2.out.below hb)
    replace HP3 := Lib.hid (HP3.out.below hb)
    replace HP4 := Lib.hid (HP4.out.below hb)
    replace HA3 := Lib.hid (HA3.out.below hb)
    replace HP5 := Lib.hid (HP5.out.below hb)
    replace HP6 := Lib.hid (HP6.out.below hb)
    replace HA4 := Lib.hid (HA4.out.below hb)
    replace HP7 := Lib.hid (HP7.out.below hb)
    replace HP8 := Lib.hid (HP8.out.below hb)
    replace HB29 := Lib.hid (HB29.out.below hb)
    replace HB31 := Lib.hid (HB31.out.below hb)
    replace HB34 := Lib.hid (HB34.out.below hb)
    replace HB36 := Lib.hid (HB36.out.below hb)
    replace HA9 := Lib.hid (HA9.out.below hb)
    replace HB9 := Lib.hid (HB9.out.below hb)
    replace hv := bl_trans hv hb
    clear hb
    go_wp2_with fail
    refine (SSame_c P5 P6 fl fln p5 p6 hn_fl hz_fl _ HP5.out HP6.out).mono ?_
    rintro e V29 ⟨rfl, hb⟩
    replace HA1 := Lib.hid (HA1.out.below hb)
    replace HP1 := Lib.hid (HP1.out.below hb)
    replace HP2 := Lib.hid (HP2.out.below hb)
    replace HA2 := Lib.hid (HA2.out.below hb)
    replace HP3 := Lib.hid (HP3.out.below hb)
    replace HP4 := Lib.hid (HP4.out.below hb)
    replace HA3 := Lib.hid (HA3.out.below hb)
    replace HP5 := Lib.hid (HP5.out.below hb)
    replace HP6 := Lib.hid (HP6.out.below hb)
    replace HA4 := Lib.hid (HA4.out.below hb)
    replace HP7 := Lib.hid (HP7.out.below hb)
    replace HP8 := Lib.hid (HP8.out.below hb)
    replace HB29 := Lib.hid (HB29.out.below hb)
    replace HB31 := Lib.hid (HB31.out.below hb)
    replace HB34 := Lib.hid (HB34.out.below hb)
    replace HB36 := Lib.hid (HB36.out.below hb)
    replace HA9 := Lib.hid (HA9.out.below hb)
    replace HB9 := Lib.hid (HB9.out.below hb)
    replace hv := bl_trans hv hb
    clear hb
    go_wp2_with fail
    refine (SSame_c P7 P8 wl wn p7 p8 hn_wl hz_wl _ HP7.out HP8.out).mono ?_
    rintro e V30 ⟨rfl, hb⟩
    replace HA1 := Lib.hid (HA1.out.below hb)
    replace HP1 := Lib.hid (HP1.out.below hb)
    replace HP2 := Lib.hid (HP2.out.below hb)
    replace HA2 := Lib.hid (HA2.out.below hb)
    replace HP3 := Lib.hid (HP3.out.below hb)
    replace HP4 := Lib.hid (HP4.out.below hb)
    replace HA3 := Lib.hid (HA3.out.below hb)
    replace HP5 := Lib.hid (HP5.out.below hb)
    replace HP6 := Lib.hid (HP6.out.below hb)
    replace HA4 := Lib.hid (HA4.out.below hb)
    replace HP7 := Lib.hid (HP7.out.below hb)
    replace HP8 := Lib.hid (HP8.out.below hb)
    replace HB29 := Lib.hid (HB29.out.below hb)
    replace HB31 := Lib.hid (HB31.out.below hb)
    replace HB34 := Lib.hid (HB34.out.below hb)
    replace HB36 := Lib.hid (HB36.out.below hb)
    replace HA9 := Lib.hid (HA9.out.below hb)
    replace HB9 := Lib.hid (HB9.out.below hb)
    replace hv := bl_trans hv hb
    clear hb
    have kt0 : V30.cell? ⟨g29, 0, none⟩ = some (Value.int IntKind.i64 t.id) := HB29.out.cell 0
    have kt1 : V30.cell? ⟨g29, 1, none⟩ = some (Value.string t.customer) := HB29.out.cell 1
    have kt2 : V30.cell? ⟨g29, 2, none⟩ = some (Value.int IntKind.i64 t.stage) := HB29.out.cell 2
    have kt3 : V30.cell? ⟨g29, 3, none⟩ = some (Value.int IntKind.i64 t.due) := HB29.out.cell 3
    have kt4 : V30.cell? ⟨g29, 4, none⟩ = some (Value.int IntKind.i64 t.left) := HB29.out.cell 4
    have kt5 : V30.cell? ⟨g29, 5, none⟩ = some (Value.int IntKind.i64 t.fittings) := HB29.out.cell 5
    go_wp2_with fail
    clear kt0 kt1 kt2 kt3 kt4 kt5
    refine (HOT.out _).mono ?_
    rintro e V31 ⟨rfl, hb⟩
    replace HA1 := Lib.hid (HA1.out.below hb)
    replace HP1 := Lib.hid (HP1.out.below hb)
    replace HP2 := Lib.hid (HP2.out.below hb)
    replace HA2 := Lib.hid (HA2.out.below hb)
    replace HP3 := Lib.hid (HP3.out.below hb)
    replace HP4 := Lib.hid (HP4.out.below hb)
    replace HA3 := Lib.hid (HA3.out.below hb)
    replace HP5 := Lib.hid (HP5.out.below hb)
    replace HP6 := Lib.hid (HP6.out.below hb)
    replace HA4 := Lib.hid (HA4.out.below hb)
    replace HP7 := Lib.hid (HP7.out.below hb)
    replace HP8 := Lib.hid (HP8.out.below hb)
    replace HB29 := Lib.hid (HB29.out.below hb)
    replace HB31 := Lib.hid (HB31.out.below hb)
    replace HB34 := Lib.hid (HB34.out.below hb)
    replace HB36 := Lib.hid (HB36.out.below hb)
    replace HA9 := Lib.hid (HA9.out.below hb)
    replace HB9 := Lib.hid (HB9.out.below hb)
    replace hv := bl_trans hv hb
    clear hb
    cases bo
    case' false =>
      have hE1 : tx.toList.isEmpty = true := by rw [R5.out rfl]; simp
      have hE2 : (tx.toList == []) = true := by rw [R5.out rfl]; simp
    case' true =>
      have hE0 : ¬ tx.size = 0 := by have := R4.out rfl; omega
      have hE1 : tx.toList.isEmpty = false := by rw [empty_beqS]; exact decide_eq_false hE0
      have hE2 : (tx.toList == []) = false := by rw [bytes_nil]; exact decide_eq_false hE0
      obtain rfl := (R2.out rfl).symm
      clear hE0
    all_goals
      clear R2 R4 R5 HOT
      have kt0 : V31.cell? ⟨g29, 0, none⟩ = some (Value.int IntKind.i64 t.id) := HB29.out.cell 0
      have kt1 : V31.cell? ⟨g29, 1, none⟩ = some (Value.string t.customer) := HB29.out.cell 1
      have kt2 : V31.cell? ⟨g29, 2, none⟩ = some (Value.int IntKind.i64 t.stage) := HB29.out.cell 2
      have kt3 : V31.cell? ⟨g29, 3, none⟩ = some (Value.int IntKind.i64 t.due) := HB29.out.cell 3
      have kt4 : V31.cell? ⟨g29, 4, none⟩ = some (Value.int IntKind.i64 t.left) := HB29.out.cell 4
      have kt5 : V31.cell? ⟨g29, 5, none⟩ = some (Value.int IntKind.i64 t.fittings) := HB29.out.cell 5
      have ku0 : V31.cell? ⟨g34, 0, none⟩ = some (Value.int IntKind.i64 u.id) := HB34.out.cell 0
      have ku1 : V31.cell? ⟨g34, 1, none⟩ = some (Value.string u.customer) := HB34.out.cell 1
      have ku2 : V31.cell? ⟨g34, 2, none⟩ = some (Value.int IntKind.i64 u.stage) := HB34.out.cell 2
      have ku3 : V31.cell? ⟨g34, 3, none⟩ = some (Value.int IntKind.i64 u.due) := HB34.out.cell 3
      have ku4 : V31.cell? ⟨g34, 4, none⟩ = some (Value.int IntKind.i64 u.left) := HB34.out.cell 4
      have ku5 : V31.cell? ⟨g34, 5, none⟩ = some (Value.int IntKind.i64 u.fittings) := HB34.out.cell 5
      have kv0 : V31.cell? ⟨g36, 0, none⟩ = some (Value.int IntKind.i64 u.id) := HB36.out.cell 0
      have kv1 : V31.cell? ⟨g36, 1, none⟩ = some (Value.string u.customer) := HB36.out.cell 1
      have kv2 : V31.cell? ⟨g36, 2, none⟩ = some (Value.int IntKind.i64 u.stage) := HB36.out.cell 2
      have kv3 : V31.cell? ⟨g36, 3, none⟩ = some (Value.int IntKind.i64 u.due) := HB36.out.cell 3
      have kv4 : V31.cell? ⟨g36, 4, none⟩ = some (Value.int IntKind.i64 u.left) := HB36.out.cell 4
      have kv5 : V31.cell? ⟨g36, 5, none⟩ = some (Value.int IntKind.i64 u.fittings) := HB36.out.cell 5
      first | (have kb0 : V31.cell? ⟨g31, 0, none⟩ = some (Value.int IntKind.i64 t.id) := HB31.out.cell 0; have kb1 : V31.cell? ⟨g31, 1, none⟩ = some (Value.string t.customer) := HB31.out.cell 1; have kb2 : V31.cell? ⟨g31, 2, none⟩ = some (Value.int IntKind.i64 t.stage) := HB31.out.cell 2; have kb3 : V31.cell? ⟨g31, 3, none⟩ = some (Value.int IntKind.i64 t.due) := HB31.out.cell 3; have kb4 : V31.cell? ⟨g31, 4, none⟩ = some (Value.int IntKind.i64 t.left) := HB31.out.cell 4; have kb5 : V31.cell? ⟨g31, 5, none⟩ = some (Value.int IntKind.i64 t.fittings) := HB31.out.cell 5) | skip
      go_wp2_with fail
      clear kt0 kt1 kt2 kt3 kt4 kt5 ku0 ku1 ku2 ku3 ku4 ku5 kv0 kv1 kv2 kv3 kv4 kv5
      try clear kb0 kb1 kb2 kb3 kb4 kb5
      refine (HD1.out _ HA9.out HB9.out).mono ?_
      rintro e V32 ⟨rfl, hb⟩
      replace HA1 := Lib.hid (HA1.out.below hb)
      replace HP1 := Lib.hid (HP1.out.below hb)
      replace HP2 := Lib.hid (HP2.out.below hb)
      replace HA2 := Lib.hid (HA2.out.below hb)
      replace HP3 := Lib.hid (HP3.out.below hb)
      replace HP4 := Lib.hid (HP4.out.below hb)
      replace HA3 := Lib.hid (HA3.out.below hb)
      replace HP5 := Lib.hid (HP5.out.below hb)
      replace HP6 := Lib.hid (HP6.out.below hb)
      replace HA4 := Lib.hid (HA4.out.below hb)
      replace HP7 := Lib.hid (HP7.out.below hb)
      replace HP8 := Lib.hid (HP8.out.below hb)
      replace HB29 := Lib.hid (HB29.out.below hb)
      replace HB31 := Lib.hid (HB31.out.below hb)
      replace HB34 := Lib.hid (HB34.out.below hb)
      replace HB36 := Lib.hid (HB36.out.below hb)
      replace HA9 := Lib.hid (HA9.out.below hb)
      replace HB9 := Lib.hid (HB9.out.below hb)
      replace hv := bl_trans hv hb
      clear hb
      go_wp2_with fail
      refine (HD2.out _ HA9.out HB9.out).mono ?_
      rintro e V33 ⟨rfl, hb⟩
      replace HA1 := Lib.hid (HA1.out.below hb)
      replace HP1 := Lib.hid (HP1.out.below hb)
      replace HP2 := Lib.hid (HP2.out.below hb)
      replace HA2 := Lib.hid (HA2.out.below hb)
      replace HP3 := Lib.hid (HP3.out.below hb)
      replace HP4 := Lib.hid (HP4.out.below hb)
      replace HA3 := Lib.hid (HA3.out.below hb)
      replace HP5 := Lib.hid (HP5.out.below hb)
      replace HP6 := Lib.hid (HP6.out.below hb)
      replace HA4 := Lib.hid (HA4.out.below hb)
      replace HP7 := Lib.hid (HP7.out.below hb)
      replace HP8 := Lib.hid (HP8.out.below hb)
      replace HB29 := Lib.hid (HB29.out.below hb)
      replace HB31 := Lib.hid (HB31.out.below hb)
      replace HB34 := Lib.hid (HB34.out.below hb)
      replace HB36 := Lib.hid (HB36.out.below hb)
      replace HA9 := Lib.hid (HA9.out.below hb)
      replace HB9 := Lib.hid (HB9.out.below hb)
      replace hv := bl_trans hv hb
      clear hb
      go_wp2_with fail
      refine (HG1.out _ (HWW.out.below hv)).mono ?_
      rintro e V50 ⟨rfl, rfl⟩
      go_wp2_with fail
      refine (HG2.out _).mono ?_
      rintro e V34 ⟨rfl, hb⟩
      replace HA1 := Lib.hid (HA1.out.below hb)
      replace HP1 := Lib.hid (HP1.out.below hb)
      replace HP2 := Lib.hid (HP2.out.below hb)
      replace HA2 := Lib.hid (HA2.out.below hb)
      replace HP3 := Lib.hid (HP3.out.below hb)
      replace HP4 := Lib.hid (HP4.out.below hb)
      replace HA3 := Lib.hid (HA3.out.below hb)
      replace HP5 := Lib.hid (HP5.out.below hb)
      replace HP6 := Lib.hid (HP6.out.below hb)
      replace HA4 := Lib.hid (HA4.out.below hb)
      replace HP7 := Lib.hid (HP7.out.below hb)
      replace HP8 := Lib.hid (HP8.out.below hb)
      replace HB29 := Lib.hid (HB29.out.below hb)
      replace HB31 := Lib.hid (HB31.out.below hb)
      replace HB34 := Lib.hid (HB34.out.below hb)
      replace HB36 := Lib.hid (HB36.out.below hb)
      replace HA9 := Lib.hid (HA9.out.below hb)
      replace HB9 := Lib.hid (HB9.out.below hb)
      replace hv := bl_trans hv hb
      clear hb
      go_wp2_with fail
      refine (HV1.out _ HA1.out).mono ?_
      rintro e V35 ⟨rfl, hb⟩
      replace HA1 := Lib.hid (HA1.out.below hb)
      replace HP1 := Lib.hid (HP1.out.below hb)
      replace HP2 := Lib.hid (HP2.out.below hb)
      replace HA2 := Lib.hid (HA2.out.below hb)
      replace HP3 := Lib.hid (HP3.out.below hb)
      replace HP4 := Lib.hid (HP4.out.below hb)
      replace HA3 := Lib.hid (HA3.out.below hb)
      replace HP5 := Lib.hid (HP5.out.below hb)
      replace HP6 := Lib.hid (HP6.out.below hb)
      replace HA4 := Lib.hid (HA4.out.below hb)
      replace HP7 := Lib.hid (HP7.out.below hb)
      replace HP8 := Lib.hid (HP8.out.below hb)
      replace HB29 := Lib.hid (HB29.out.below hb)
      replace HB31 := Lib.hid (HB31.out.below hb)
      replace HB34 := Lib.hid (HB34.out.below hb)
      replace HB36 := Lib.hid (HB36.out.below hb)
      replace HA9 := Lib.hid (HA9.out.below hb)
      replace HB9 := Lib.hid (HB9.out.below hb)
      replace hv := bl_trans hv hb
      clear hb
      go_wp2_with fail
      refine (HV2.out _ HA1.out).mono ?_
      rintro e V36 ⟨rfl, hb⟩
      replace HA1 := Lib.hid (HA1.out.below hb)
      replace HP1 := Lib.hid (HP1.out.below hb)
      replace HP2 := Lib.hid (HP2.out.below hb)
      replace HA2 := Lib.hid (HA2.out.below hb)
      replace HP3 := Lib.hid (HP3.out.below hb)
      replace HP4 := Lib.hid (HP4.out.below hb)
      replace HA3 := Lib.hid (HA3.out.below hb)
      replace HP5 := Lib.hid (HP5.out.below hb)
      replace HP6 := Lib.hid (HP6.out.below hb)
      replace HA4 := Lib.hid (HA4.out.below hb)
      replace HP7 := Lib.hid (HP7.out.below hb)
      replace HP8 := Lib.hid (HP8.out.below hb)
      replace HB29 := Lib.hid (HB29.out.below hb)
      replace HB31 := Lib.hid (HB31.out.below hb)
      replace HB34 := Lib.hid (HB34.out.below hb)
      replace HB36 := Lib.hid (HB36.out.below hb)
      replace HA9 := Lib.hid (HA9.out.below hb)
      replace HB9 := Lib.hid (HB9.out.below hb)
      replace hv := bl_trans hv hb
      clear hb
      go_wp2_with fail
      go_meet
      exact ⟨rfl, HA1, HP1, HA2, HP3, HP4, HP5, HA4, HP8, hv⟩
  case rest =>
  as_aux_lemma =>
  clear HA1 HP1 HP2 HA2 HP3 HP4 HA3 HP5 HP6 HA4 HP7 HP8 HB29 HB31 HB34 HB36 HA9 HB9 hv
  obtain ⟨rfl, HA1, HP1, HA2, HP3, HP4, HP5, HA4, HP8, hv⟩ := hcut
  clear R2 R4 R5 HOT
  rename World => V60
  go_upto_if 246 with fail
  go_cut [] (fun wx => Hid (Arr wx (some ⟨ga, 0, none⟩) (flat Order.cells xs)) ∧ Hid (Arr wx P1 (flat Order.cells tl)) ∧ Hid (Arr wx A2 (flat Order.cells ys)) ∧ Hid (Arr wx P3 (flat Order.cells ml)) ∧ Hid (Arr wx P4 (flat Order.cells ml)) ∧ Hid (Arr wx P5 (flat Order.cells fl)) ∧ Hid (Arr wx A4 (flat Order.cells us)) ∧ Hid (Arr wx P8 (flat Order.cells wl)) ∧ Below w.heap.size w wx)
  case first =>
   as_aux_lemma =>
    by_cases hm0 : mc = 0
    case neg =>
      have hm1 : (mc == 0) = false := by rw [beq_eq_false_iff_ne]; exact hm0
      go_wp2_with fail
      go_meet
      exact ⟨HA1, HP1, HA2, HP3, HP4, HP5, HA4, HP8, hv⟩
    case pos =>
    subst hm0
    obtain ⟨hoy, hml, hst⟩ := HF_ml.out rfl
    have HST := Lib.hid hst
    have HOY := Lib.hid hoy
    rw [hn_ml.out, hn_ys.out] at hml
    clear hoy hst
    subst hml
    go_wp2_with fail
    go_loopw [41, 42] (fun i s wr => ∃ k : Nat, k ≤ mn ∧ i = .int .i64 k ∧ Below V60.heap.size V60 wr) (fun i _ _ => mn - (intOf i).toNat)
    case atStart => exact ⟨0, by omega, rfl, Below.refl _ _⟩
    case round =>
    obtain ⟨k, hk, rfl, hbel⟩ := hrel
    have hk0 : (0 : Int) ≤ (k : Int) := by omega
    by_cases hlt : k < mn
    case neg =>
      have hk1 : ¬ (k : Int) < (mn : Int) := by omega
      have hb := hbel

      replace HA1 := Lib.hid (HA1.out.below hb)
      replace HP1 := Lib.hid (HP1.out.below hb)
      replace HA2 := Lib.hid (HA2.out.below hb)
      replace HP3 := Lib.hid (HP3.out.below hb)
      replace HP4 := Lib.hid (HP4.out.below hb)
      replace HP5 := Lib.hid (HP5.out.below hb)
      replace HA4 := Lib.hid (HA4.out.below hb)
      replace HP8 := Lib.hid (HP8.out.below hb)
      replace hv := bl_trans hv hb
      clear hb
      go_wp2_with fail
      go_meet
      exact ⟨HA1, HP1, HA2, HP3, HP4, HP5, HA4, HP8, hv⟩
    case pos =>
    have hk1 : (k : Int) < (mn : Int) := by omega
    obtain ⟨x, hx⟩ := get_of_lt (xs := ys) (k := k) (by rw [hn_ys.out]; exact hlt)
    obtain ⟨y, hy, hys⟩ := HST.out k x hx
    obtain ⟨b1, b2, b3, b4, b5⟩ := ordB_bd (ords_mem HOY.out x (List.mem_of_getElem? hx))
    obtain ⟨ad, rfl, _, c0, _, k2, _, _, _⟩ := Order.at_ (HA2.out.below hbel) hx
    obtain ⟨ad2, rfl, _, _, _, l2, _, _, _⟩ := Order.at_ (HP4.out.below hbel) hy
    clear hx hy
    by_cases hid : x.id = id2
    · rw [if_pos hid] at hys
      have hid2 : (x.id == id2) = true := by rw [beq_iff_eq]; exact hid
      rw [hys] at l2
      clear hys hid
      go_wp2_with fail
      go_quiet (fail)
      go_wp2_with fail
      exact ⟨⟨k + 1, by omega, by go_num, below_drewN hbel _⟩, by simp [intOf]; omega⟩
    · rw [if_neg hid, Int.add_zero] at hys
      have hid2 : (x.id == id2) = false := by rw [beq_eq_false_iff_ne]; exact hid
      rw [hys] at l2
      clear hys
      go_wp2_with fail
      go_quiet (fail)
      go_wp2_with fail
      exact ⟨⟨k + 1, by omega, by go_num, below_drewN hbel _⟩, by simp [intOf]; omega⟩
  case rest =>
  as_aux_lemma =>
  clear HA1 HP1 HA2 HP3 HP4 HP5 HA4 HP8 hv
  obtain ⟨HA1, HP1, HA2, HP3, HP4, HP5, HA4, HP8, hv⟩ := hcut
  clear HF_ml
  rename World => V70
  go_upto_region 34 with fail
  go_cut [279] (fun s9 wx => s9 = .bool false ∧ Hid (Arr wx (some ⟨ga, 0, none⟩) (flat Order.cells xs)) ∧ Hid (Arr wx P1 (flat Order.cells tl)) ∧ Hid (Arr wx A2 (flat Order.cells ys)) ∧ Hid (Arr wx P3 (flat Order.cells ml)) ∧ Hid (Arr wx P4 (flat Order.cells ml)) ∧ Hid (Arr wx P5 (flat Order.cells fl)) ∧ Hid (Arr wx A4 (flat Order.cells us)) ∧ Hid (Arr wx P8 (flat Order.cells wl)) ∧ Below w.heap.size w wx)
  case first =>
   as_aux_lemma =>
    by_cases hm0 : fc = 0
    case neg =>
      have hm1 : (fc == 0) = false := by rw [beq_eq_false_iff_ne]; exact hm0
      go_wp2_with fail
      go_meet
      exact ⟨rfl, HA1, HP1, HA2, HP3, HP4, HP5, HA4, HP8, hv⟩
    case pos =>
    subst hm0
    have hof := HF_fl.out rfl
    have HV1 := fun (w : World) h => ValidOrders_c P5 fl fln p5 hn_fl hz_fl (Lib.hid (ords_sizes hof)) w h
    rw [hof] at HV1
    replace HV1 := Lib.hid HV1
    clear hof
    go_wp2_with fail
    refine (HV1.out _ HP5.out).mono ?_
    rintro e V37 ⟨rfl, hb⟩
    replace HA1 := Lib.hid (HA1.out.below hb)
    replace HP1 := Lib.hid (HP1.out.below hb)
    replace HA2 := Lib.hid (HA2.out.below hb)
    replace HP3 := Lib.hid (HP3.out.below hb)
    replace HP4 := Lib.hid (HP4.out.below hb)
    replace HP5 := Lib.hid (HP5.out.below hb)
    replace HA4 := Lib.hid (HA4.out.below hb)
    replace HP8 := Lib.hid (HP8.out.below hb)
    replace hv := bl_trans hv hb
    clear hb
    go_wp2_with fail
    go_meet
    exact ⟨rfl, HA1, HP1, HA2, HP3, HP4, HP5, HA4, HP8, hv⟩
  case rest =>
  as_aux_lemma =>
  clear HA1 HP1 HA2 HP3 HP4 HP5 HA4 HP8 hv
  obtain ⟨rfl, HA1, HP1, HA2, HP3, HP4, HP5, HA4, HP8, hv⟩ := hcut
  clear HF_fl
  rename World => V80
  go_upto_if 281 with fail
  go_cut [] (fun wx => Hid (Arr wx (some ⟨ga, 0, none⟩) (flat Order.cells xs)) ∧ Hid (Arr wx P1 (flat Order.cells tl)) ∧ Hid (Arr wx A2 (flat Order.cells ys)) ∧ Hid (Arr wx P3 (flat Order.cells ml)) ∧ Hid (Arr wx P4 (flat Order.cells ml)) ∧ Hid (Arr wx P5 (flat Order.cells fl)) ∧ Hid (Arr wx A4 (flat Order.cells us)) ∧ Hid (Arr wx P8 (flat Order.cells wl)) ∧ Below w.heap.size w wx)
  case first =>
   as_aux_lemma =>
    by_cases hm0 : kc = 0
    case neg =>
      have hm1 : (kc == 0) = false := by rw [beq_eq_false_iff_ne]; exact hm0
      go_wp2_with fail
      go_meet
      exact ⟨HA1, HP1, HA2, HP3, HP4, HP5, HA4, HP8, hv⟩
    case pos =>
    subst hm0
    obtain ⟨hmem, hml, hsum, hoy⟩ := HF_wl.out rfl
    have HM := Lib.hid hmem
    have HOY := Lib.hid hoy
    have HSM := Lib.hid hsum
    rw [hn_wl.out, hn_us.out] at hml
    clear hoy hmem hsum
    subst hml
    have hw30 : wn ≤ 31 := by omega
    go_wp2_with fail
    have hR0 := Lib.hid (show (0 : Int) = ((us.take 0).map (·.left)).sum from rfl)
    have hR1 := Lib.hid (show (0 : Int) = ((wl.take 0).map (·.left)).sum from rfl)
    go_loopw [43, 44, 45] (fun av bv iv wr => ∃ (k : Nat) (a b : Int), k ≤ wn ∧ iv = .int .i64 k ∧ av = .int .i64 a ∧ bv = .int .i64 b ∧ 0 ≤ a ∧ a ≤ 100 * k ∧ 0 ≤ b ∧ b ≤ 100 * k ∧ Hid (a = ((us.take k).map (·.left)).sum) ∧ Hid (b = ((wl.take k).map (·.left)).sum) ∧ Below V80.heap.size V80 wr) (fun _ _ i _ => wn - (intOf i).toNat)
    case atStart => exact ⟨0, 0, 0, by omega, rfl, rfl, rfl, by omega, by omega, by omega, by omega, hR0, hR1, Below.refl _ _⟩
    case round =>
    clear hR0 hR1
    obtain ⟨k, a, b, hk, rfl, rfl, rfl, a0, a1, b0, b1, hRa, hRb, hbel⟩ := hrel
    have hk0 : (0 : Int) ≤ (k : Int) := by omega
    by_cases hlt : k < wn
    case neg =>
      have hk1 : ¬ (k : Int) < (wn : Int) := by omega
      have hkk : k = wn := by omega
      have hab : a - b = d4 := by
        have h1 := hRa.out
        have h2 := hRb.out
        rw [hkk, List.take_of_length_le (by rw [hn_us.out]; exact Nat.le_refl _)] at h1
        rw [hkk, List.take_of_length_le (by rw [hn_wl.out]; exact Nat.le_refl _)] at h2
        have h3 := HSM.out
        omega
      have hwr : IntKind.i64.wrap (a - b) = d4 := (IntWalk.i64_in _ (by omega)).trans hab
      have hb := hbel
      clear hRa hRb hkk hab
      replace HA1 := Lib.hid (HA1.out.below hb)
      replace HP1 := Lib.hid (HP1.out.below hb)
      replace HA2 := Lib.hid (HA2.out.below hb)
      replace HP3 := Lib.hid (HP3.out.below hb)
      replace HP4 := Lib.hid (HP4.out.below hb)
      replace HP5 := Lib.hid (HP5.out.below hb)
      replace HA4 := Lib.hid (HA4.out.below hb)
      replace HP8 := Lib.hid (HP8.out.below hb)
      replace hv := bl_trans hv hb
      clear hb
      go_wp2_with fail
      go_meet
      exact ⟨HA1, HP1, HA2, HP3, HP4, HP5, HA4, HP8, hv⟩
    case pos =>
    have hk1 : (k : Int) < (wn : Int) := by omega
    obtain ⟨x, hx⟩ := get_of_lt (xs := us) (k := k) (by rw [hn_us.out]; exact hlt)
    obtain ⟨y, hy⟩ := get_of_lt (xs := wl) (k := k) (by rw [hn_wl.out]; exact hlt)
    obtain ⟨_, _, _, x4, _⟩ := ordB_bd (ords_mem HOY.out x (List.mem_of_getElem? hx))
    obtain ⟨_, _, _, y4, _⟩ := ordB_bd (HM.out y (List.mem_of_getElem? hy))
    obtain ⟨ad, rfl, _, _, _, _, _, k4, _⟩ := Order.at_ (HA4.out.below hbel) hx
    obtain ⟨ad2, rfl, _, _, _, _, _, l4, _⟩ := Order.at_ (HP8.out.below hbel) hy
    have HRA := Lib.hid (show a + x.left = ((us.take (k + 1)).map (·.left)).sum by rw [sum_take hx, hRa.out])
    have HRB := Lib.hid (show b + y.left = ((wl.take (k + 1)).map (·.left)).sum by rw [sum_take hy, hRb.out])
    clear hx hy hRa hRb
    go_wp2_with fail
    exact ⟨⟨k + 1, a + x.left, b + y.left, by omega, by go_num, rfl, rfl, by omega, by omega, by omega, by omega, HRA, HRB, hbel⟩, by simp [intOf]; omega⟩
  case rest =>
  as_aux_lemma =>
  clear HA1 HP1 HA2 HP3 HP4 HP5 HA4 HP8 hv
  obtain ⟨HA1, HP1, HA2, HP3, HP4, HP5, HA4, HP8, hv⟩ := hcut
  clear HF_wl
  rename World => V90
  by_cases hm0 : tc = 0
  case neg =>
    have hm1 : (tc != 0) = true := by rw [bne_iff_ne]; exact hm0
    go_wp2_with fail
    go_returns
    exact Ret.mk rfl hv
  case pos =>
  subst hm0
  obtain ⟨htl, hot⟩ := HF_tl.out rfl
  have HV1 := fun (w : World) h => ValidOrders_c P1 tl tn p1 hn_tl hz_tl (Lib.hid (ords_sizes hot)) w h
  rw [hot] at HV1
  replace HV1 := Lib.hid HV1
  rw [hn_tl.out, hn_xs.out] at htl
  clear hot
  subst htl
  have hle9 : ((n + 1 : Nat) : Int) = (n : Int) + 1 := by omega
  go_wp2_with fail
  refine (HV1.out _ HP1.out).mono ?_
  rintro e V38 ⟨rfl, hb⟩
  replace HA1 := Lib.hid (HA1.out.below hb)
  replace HP1 := Lib.hid (HP1.out.below hb)
  replace HA2 := Lib.hid (HA2.out.below hb)
  replace HP3 := Lib.hid (HP3.out.below hb)
  replace HP4 := Lib.hid (HP4.out.below hb)
  replace HP5 := Lib.hid (HP5.out.below hb)
  replace HA4 := Lib.hid (HA4.out.below hb)
  replace HP8 := Lib.hid (HP8.out.below hb)
  replace hv := bl_trans hv hb
  clear hb
  go_wp2_with fail
  go_returns
  exact Ret.mk rfl hv
end Go.Proofs.YtapnllbbdfoaaaaGreatDoor
