/- Lemmas for the law on the console: the parts AppF, CnY. -/
import Derived.Test.YtpiehlfffjhoaaaGreatDoorQ0
import Derived.Test.YtpiehlfffjhoaaaGreatDoorQ1
import Derived.Test.YtpiehlfffjhoaaaGreatDoorQ19
import Derived.Test.YtpiehlfffjhoaaaGreatDoorQ21
import Derived.Deep.RegionHeld3
import Derived.BigQuiet
import Derived.Deep.QuietTactic
namespace Go.Proofs.YtpiehlfffjhoaaaGreatDoor
open Go.RowKit
theorem run_append_fresh {P : Program} (w : World) (base : Nat) (t ty e : TypeId) (i : TypeInfo) (z : Value) (size bytes : Nat) (ht : P.underlying t = some (.slice e)) (hi : P.info? e = some i) (hz : i.zero = some z)
   (hsize : i.size = size) (hby : i.bytes = bytes) (hzs : z.cells.size = size) (hsz : 0 < size)
   (A : Option Addr) (n cp : Nat) (xs : List Value) (hown : w.ownsRow base e size (.slice A n cp) n xs)
   (a : Addr) (m c : Nat) (news : List Value) (hm : 0 < m) (hl : news.length = m * size) (hnews : ∀ j u, news[j]? = some u → w.cell? (a.add j) = some u) (h1 : ∀ u ∈ news, u.oneCell' = true)
   (h63 : n + m ≤ maxLen) (hbytes : (n + m) * bytes ≤ 140737488355328) (hbase : base ≤ w.heap.size) :
   ∃ g c' w', (Builtin.append_ #[t, t] ty #[.slice A n cp, .slice (some a) m c]).run P w = .ok (.slice (some ⟨g, 0, none⟩) (n + m) c') w' ∧ w'.ownsRow base e size (.slice (some ⟨g, 0, none⟩) (n + m) c') (n + m) (xs ++ news) ∧ w.grownBy w' (A.map (·.block)) ∧
     (A = some ⟨g, 0, none⟩ ∨ g = w.heap.size) := by
 obtain ⟨v', w', hr, ho, hg, _⟩ := run_append_own (P := P) w base t ty e i z size bytes ht hi hz hsize hby hzs hsz (.slice A n cp) n xs hown a m c news hl hnews h1 h63 hbytes hbase
 have hsmall : n + m ≤ 9223372036854775807 := by simp only [maxLen] at h63; omega
 subst hsize
 subst hby
 have hgA : (Value.slice A n cp).ownBlock = A.map (·.block) := by
   rcases hown.2 with ⟨hv, _⟩ | ⟨g, cap, cur, hv, _⟩
   · simp only [Value.slice.injEq] at hv; rw [hv.1]; rfl
   · simp only [Value.slice.injEq] at hv; rw [hv.1]; rfl
 rw [hgA] at hg
 rcases hown.2 with ⟨hv, hn0⟩ | ⟨g, cap, cur, hv, hbg, hgg, hnc, hcm, hcs, htake⟩
 · simp only [Value.slice.injEq] at hv
   obtain ⟨rfl, _, rfl⟩ := hv
   subst hn0
   have hx : xs = [] := List.eq_nil_of_length_eq_zero (by simpa using hown.1)
   subst hx
   have hr2 := run_append_nil (P := P) w t ty e i z ht hi hz a m c news hl hnews (by omega) (by omega) (by have hb := hbytes; simp only [Nat.zero_add] at hb; omega)
   rw [hr2] at hr
   injection hr with e1 e2
   subst e1
   subst e2
   simp only [Nat.zero_add] at ho ⊢
   exact ⟨_, _, _, hr2, ho, hg, .inr rfl⟩
 · simp only [Value.slice.injEq] at hv
   obtain ⟨rfl, _, rfl⟩ := hv
   by_cases hroom : n + m ≤ cp
   · have hfit : n * i.size + news.length ≤ cur.size := by rw [hl, hcs, ← Nat.add_mul]; exact Nat.mul_le_mul_right _ hroom
     have hr2 := run_append_room (P := P) w t ty e i ht hi g n cp cur hgg a m c news hl hnews h1 hroom hfit
     rw [hr2] at hr
     injection hr with e1 e2
     subst e1
     subst e2
     exact ⟨_, _, _, hr2, ho, hg, .inl rfl⟩
   · have holds : ∀ j u, xs[j]? = some u → w.cell? ((⟨g, 0, none⟩ : Addr).add j) = some u := hown.cells (g := g) rfl
     have hr2 := run_append_grow (P := P) w t ty e i z ht hi hz ⟨g, 0, none⟩ n cp xs hown.1 holds a m c news hl hnews (by omega) (by omega) (growslice_fits (by omega) hbytes)
     rw [hr2] at hr
     injection hr with e1 e2
     subst e1
     subst e2
     exact ⟨_, _, _, hr2, ho, hg, .inr rfl⟩
theorem app_fresh {P : Program} {ops : Array Oper} {rest : List Oper} {o : Oper} {a : Act} {Q : Exit → Act → World → Prop} (w : World) (hgd : o.guard = none) (s x : Operand) (t e : TypeId)
   (ho : o.op = .call { callee := .builtin .append, args := #[s, x], argTypes := #[t, t] })
   (i : TypeInfo) (z : Value) (size bytes : Nat) (ht : P.underlying t = some (.slice e)) (hi : P.info? e = some i) (hz : i.zero = some z)
   (hsize : i.size = size) (hby : i.bytes = bytes) (hzs : z.cells.size = size) (hsz : 0 < size)
   (base : Nat) (A : Option Addr) (n cp : Nat) (cs : List Value) (hs : a.eval s = .slice A n cp) (hown : w.ownsRow base e size (.slice A n cp) n cs)
   (ad : Addr) (m c : Nat) (C : List Value) (hm : 0 < m) (hx : a.eval x = .slice (some ad) m c) (hA : Arr w (some ad) C)
   (hl : C.length = m * size) (h1 : ∀ u ∈ C, u.oneCell' = true) (h63 : n + m ≤ maxLen) (hbytes : (n + m) * bytes ≤ 140737488355328) (hbase : base ≤ w.heap.size)
   (h : ∀ g c' w', w'.ownsRow base e size (.slice (some ⟨g, 0, none⟩) (n + m) c') (n + m) (cs ++ C) → w.grownBy w' (A.map (·.block)) → (A = some ⟨g, 0, none⟩ ∨ g = w.heap.size) → wpList P ops Q rest (a.put o.dst (.slice (some ⟨g, 0, none⟩) (n + m) c')) w') :
   wpList P ops Q (o :: rest) a w := by
 refine wpList_plain hgd fun K hK => ?_
 obtain ⟨g, c', w', hr, h2, h3, h4⟩ := run_append_fresh (P := P) w base t o.type e i z size bytes ht hi hz hsize hby hzs hsz A n cp cs hown ad m c C hm hl (fun j u hu => by
   obtain ⟨ad', e', _, hc⟩ := hA (by have := (List.getElem?_eq_some_iff.1 hu).1; omega)
   injection e' with e'
   subst e'
   exact hc j u hu) h1 h63 hbytes hbase
 unfold Oper.wp execOp
 simp only [ho, resolve, invoke, builtin, Sem.run_bind, Sem.run_pure, Result.andThen_ok, List.map_toArray, List.map_cons, List.map_nil, hs, hx, hr]
 exact hK _ _ (h g c' w' h2 h3 h4)
theorem app_fresh1 {P : Program} {ops : Array Oper} {rest : List Oper} {o : Oper} {a : Act} {Q : Exit → Act → World → Prop} (w : World) (C : Array Value) (hgd : o.guard = none) (s x : Operand) (t e : TypeId)
   (ho : o.op = .call { callee := .builtin .append, args := #[s, x], argTypes := #[t, t] })
   (i : TypeInfo) (z : Value) (size bytes : Nat) (ht : P.underlying t = some (.slice e)) (hi : P.info? e = some i) (hz : i.zero = some z)
   (hsize : i.size = size) (hby : i.bytes = bytes) (hzs : z.cells.size = size) (hsz : 0 < size)
   (base : Nat) (A : Option Addr) (n cp : Nat) (cs : List Value) (hs : a.eval s = .slice A n cp) (gx : Nat) (hgx : gx = w.heap.size) (hx : a.eval x = .slice (some ⟨gx, 0, none⟩) 1 1) (hown : w.ownsRow base e size (.slice A n cp) n cs)
   (hl : C.size = size) (h1 : ∀ u ∈ C.toList, u.oneCell' = true) (h63 : n + 1 ≤ maxLen) (hbytes : (n + 1) * bytes ≤ 140737488355328) (hbase : base ≤ w.heap.size)
   (h : ∀ g c' w', w'.ownsRow base e size (.slice (some ⟨g, 0, none⟩) (n + 1) c') (n + 1) (cs ++ C.toList) → w.grownBy w' (A.map (·.block)) → (A = some ⟨g, 0, none⟩ ∨ w.heap.size ≤ g) → wpList P ops Q rest (a.put o.dst (.slice (some ⟨g, 0, none⟩) (n + 1) c')) w') :
   wpList P ops Q (o :: rest) a (w.alloc (.cells C e)) := by
 subst hgx
 refine app_fresh (w.alloc (.cells C e)) hgd s x t e ho i z size bytes ht hi hz hsize hby hzs hsz base A n cp cs hs (hown.alloc _) ⟨w.heap.size, 0, none⟩ 1 1 C.toList (by omega) hx ?_ (by simp [hl]) h1 h63 hbytes (by simp; omega) ?_
 · intro hn
   refine ⟨_, rfl, by simp, fun j u hu => ?_⟩
   have hadd : (⟨w.heap.size, 0, none⟩ : Addr).add j = ⟨w.heap.size, j, none⟩ := by unfold Addr.add; split <;> simp_all
   rw [hadd, World.cell?_alloc_at C e w.heap.size j rfl]
   simpa using hu
 · intro g c' w' hown' hg hf
   exact h g c' w' hown' (grown_trans (grown_alloc (World.grownBy.refl w _) _) hg) (hf.imp id (fun e => by rw [e]; simp))
theorem minL_snoc : ∀ (l : List Int) (c m : Int), minL (l ++ [c]) m = min (minL l m) c
 | [], c, m => rfl
 | d :: r, c, m => by simp only [List.cons_append, minL]; exact minL_snoc r c _
set_option maxHeartbeats 1600000 in
theorem sMin_c (A : Option Addr) (c0 : Int) (l : List Int) (n k : Nat) (hn : Hid ((c0 :: l).length = n)) (hm : (n : Int) ≤ 1048576) (w : World) (hA : Arr w A (flat icell (c0 :: l))) : Calls Tryz.prog 201 #[.slice A n k] w (Ret (.int .i64 (minL l c0)) w) := by
 have hn1 : 1 ≤ n := by rw [← hn.out]; simp
 obtain ⟨ad, rfl, _, c0'⟩ := icell_at hA (k := 0) (x := c0) rfl
 replace c0' : w.cell? ad = some (.int .i64 c0) := c0'
 have g1 : ¬ (n : Int) < 1 := by omega
 have g2 : (0 : Int) < (n : Int) := by omega
 have g3 : decide ((n : Int) < 1) = false := decide_eq_false g1
 have HA := qH hA
 clear hA
 go_enter Tryz.func201, Tryz.ntmps201
 go_wp2_with fail
 have hR := qH (show c0 = minL (l.take 0) c0 from rfl)
 go_loopw [3, 4] (fun v i wr => ∃ (j : Nat) (m : Int), j + 1 ≤ n ∧ i = .int .i64 ((j + 1 : Nat) : Int) ∧ v = .int .i64 m ∧ Hid (m = minL (l.take j) c0) ∧ Below w.heap.size w wr) (fun _ i _ => n - (intOf i).toNat)
 case atStart => exact ⟨0, c0, by omega, rfl, rfl, hR, Below.refl _ _⟩
 case round =>
   clear hR
   obtain ⟨j, m, hj, rfl, rfl, hR, hv⟩ := hrel
   by_cases hlt : j + 1 < n
   · obtain ⟨y, hy⟩ := get_of_lt (xs := l) (k := j) (by have := hn.out; simp at this; omega)
     have hy2 : (c0 :: l)[j + 1]? = some y := by rw [List.getElem?_cons_succ]; exact hy
     obtain ⟨bd, hbd, _, d0⟩ := icell_at (HA.out.below hv) hy2
     injection hbd with hbd
     subst hbd
     replace d0 : wr.cell? ⟨ad.block, ad.off + (j + 1), none⟩ = some (.int .i64 y) := d0
     have HN := qH (show min m y = minL (l.take (j + 1)) c0 by rw [take_at hy, minL_snoc, hR.out])
     have e1 : ((j + 1 : Nat) : Int) = (j : Int) + 1 := by omega
     have h0 : (0 : Int) ≤ ((j + 1 : Nat) : Int) := by omega
     have h1 : ((j + 1 : Nat) : Int) < (n : Int) := by omega
     clear hy hy2 hR e1
     go_wp2_with fail
     exact ⟨⟨j + 1, min m y, by omega, by go_num, rfl, HN, hv⟩, by simp [intOf]; omega⟩
   · have htk : l.take j = l := List.take_of_length_le (by have := hn.out; simp at this; omega)
     have HF := qH (show m = minL l c0 by rw [hR.out, htk])
     clear hR htk
     have h1 : ¬ ((j + 1 : Nat) : Int) < (n : Int) := by omega
     go_wp2_with fail
     go_returns
     exact Ret.mk (vi HF.out) hv
set_option maxHeartbeats 1600000 in
theorem sIdx_c (A : Option Addr) (l : List Int) (n k : Nat) (v : Int) (hn : Hid (l.length = n)) (hm : (n : Int) ≤ 1048576) (w : World) (hA : Arr w A (flat icell l)) : Calls Tryz.prog 200 #[.slice A n k, .int .i64 v] w (Ret (.int .i64 (idxE v l 0)) w) := by
 go_enter Tryz.func200, Tryz.ntmps200
 go_wp2_with fail
 have hR := qH (show idxE v l 0 = idxE v (l.drop 0) 0 from rfl)
 go_loopw [8] (fun i wr => ∃ j : Nat, j ≤ n ∧ i = .int .i64 j ∧ Hid (idxE v l 0 = idxE v (l.drop j) j) ∧ Below w.heap.size w wr) (fun i _ => n - (intOf i).toNat)
 case atStart => exact ⟨0, by omega, rfl, hR, Below.refl _ _⟩
 case round =>
   clear hR
   obtain ⟨j, hj, rfl, hR, hv⟩ := hrel
   by_cases hlt : j < n
   · obtain ⟨y, hy⟩ := get_of_lt (xs := l) (k := j) (by rw [hn.out]; exact hlt)
     obtain ⟨bd, rfl, _, d0⟩ := icell_at (hA.below hv) hy
     have hR2 := qH (hR.out.trans (by rw [drop_at hy]; rfl : _ = if y = v then (j : Int) else idxE v (l.drop (j + 1)) (j + 1)))
     clear hR hy
     by_cases hq : y = v
     · have hR3 := qH (hR2.out.trans (if_pos hq))
       have hb : (v == y) = true := by rw [beq_iff_eq]; exact hq.symm
       clear hR2 hq
       go_wp2_with fail
       go_returns
       exact Ret.mk (vi hR3.out.symm) hv
     · have hR3 := qH (hR2.out.trans (if_neg hq))
       have hb : (v == y) = false := by rw [beq_eq_false_iff_ne]; exact fun e => hq e.symm
       clear hR2 hq
       go_wp2_with fail
       exact ⟨⟨j + 1, by omega, by go_num, hR3, hv⟩, by simp [intOf]; omega⟩
   · have hR2 := qH (hR.out.trans (by rw [List.drop_eq_nil_of_le (by rw [hn.out]; omega)]; rfl : _ = (-1 : Int)))
     clear hR
     go_wp2_with fail
     go_returns
     exact Ret.mk (vi hR2.out.symm) hv
theorem apart_c (a b : Int) (h1 : -10000 ≤ a) (h2 : a ≤ 10000) (h3 : -10000 ≤ b) (h4 : b ≤ 10000) (w : World) : Calls Tryz.prog 277 #[.int .i64 a, .int .i64 b] w (RetQ (.int .i64 (apt a b)) w) := by
 have e1 : IntKind.i64.wrap (a - b) = a - b := IntWalk.i64_in _ (by omega)
 have e2 : IntKind.i64.wrap (b - a) = b - a := IntWalk.i64_in _ (by omega)
 have e3 := qH (show apt a b = max (a - b) (b - a) from rfl)
 obtain ⟨r, hr⟩ : ∃ z, z = max (a - b) (b - a) := ⟨_, rfl⟩
 rw [← hr] at e3
 have e4 : max (a - b) (b - a) = r := hr.symm
 clear hr
 go_enter Tryz.func277, Tryz.ntmps277
 go_wp2_with fail
 go_returns
 exact RetQ.mk (vi e3.out.symm)
theorem ones_in : (![(1 : Int), 1, 1, 1].all fun k => inB k 0 100) = false := by decide
set_option maxHeartbeats 2000000 in
theorem ValidFit_c (lo hi gi : Int) (gw : Nat) (w : World) (hB : Blk w gw 2 #[.int .i64 1, .int .i64 1, .int .i64 1, .int .i64 1]) : Calls Tryz.prog 130 #[.agg #[.int .i64 lo, .int .i64 hi, .int .i64 gi, .slice (some ⟨gw, 0, none⟩) 4 4]] w (Ret (.bool (fitB lo hi gi)) w) := by
 have HP : Hid (fitB lo hi gi = (inB hi 0 500 && (inB lo 0 hi && inB gi 0 500))) := qH rfl
 have H1 := fun w => within_c hi 0 500 w
 have H2 := fun w => within_c lo 0 hi w
 have H3 := fun w => within_c gi 0 500 w
 have H4 := fun w h => outside_c (some ⟨gw, 0, none⟩) [1, 1, 1, 1] 4 4 0 100 (qH rfl) (by omega) w h
 rw [ones_in] at H4
 obtain ⟨b1, e1⟩ : ∃ z, z = inB hi 0 500 := ⟨_, rfl⟩
 obtain ⟨b2, e2⟩ : ∃ z, z = inB lo 0 hi := ⟨_, rfl⟩
 obtain ⟨b3, e3⟩ : ∃ z, z = inB gi 0 500 := ⟨_, rfl⟩
 rw [← e1, ← e2, ← e3] at HP
 rw [← e1] at H1
 rw [← e2] at H2
 rw [← e3] at H3
 replace H1 := qH H1
 replace H2 := qH H2
 replace H3 := qH H3
 replace H4 := qH H4
 clear e1 e2 e3
 obtain ⟨W, hW⟩ : ∃ W, W = w.alloc (Obj.cells #[.int .i64 lo, .int .i64 hi, .int .i64 gi, .slice (some ⟨gw, 0, none⟩) 4 4] 120) := ⟨_, rfl⟩
 obtain ⟨g, hg⟩ : ∃ g, g = w.heap.size := ⟨_, rfl⟩
 have hv : Below w.heap.size w W := by rw [hW]; exact bl_alloc (Below.refl _ _) _
 have hB2 : Blk W g 120 #[.int .i64 lo, .int .i64 hi, .int .i64 gi, .slice (some ⟨gw, 0, none⟩) 4 4] := by rw [hW, hg]; exact Blk.new _ _ _
 have HA := qH ((arr_blkO hB).below hv)
 obtain ⟨k0, k1, k2, k3⟩ := qC4 hB2
 have HW := qH hW
 have HG := qH hg
 clear hW hg hB2 hB
 go_enter Tryz.func130, Tryz.ntmps130
 go_upto_region 1 with fail
 rw [← HW.out, ← HG.out]
 clear HW HG
 cases b1
 · skip
   go_wp2_with fail
   refine (H1.out _).mono ?_
   rintro e w' ⟨rfl, hq⟩
   rw [hq]
   clear hq w'
   go_wp2_with fail
   go_returns
   exact Ret.mk (vb (by rw [HP.out]; rfl)) hv
 cases b2
 · skip
   go_wp2_with fail
   refine (H1.out _).mono ?_
   rintro e w' ⟨rfl, hq⟩
   rw [hq]
   clear hq w'
   go_wp2_with fail
   refine (H2.out _).mono ?_
   rintro e w' ⟨rfl, hq⟩
   rw [hq]
   clear hq w'
   go_wp2_with fail
   go_returns
   exact Ret.mk (vb (by rw [HP.out]; rfl)) hv
 cases b3
 · skip
   go_wp2_with fail
   refine (H1.out _).mono ?_
   rintro e w' ⟨rfl, hq⟩
   rw [hq]
   clear hq w'
   go_wp2_with fail
   refine (H2.out _).mono ?_
   rintro e w' ⟨rfl, hq⟩
   rw [hq]
   clear hq w'
   go_wp2_with fail
   refine (H3.out _).mono ?_
   rintro e w' ⟨rfl, hq⟩
   rw [hq]
   clear hq w'
   go_wp2_with fail
   go_returns
   exact Ret.mk (vb (by rw [HP.out]; rfl)) hv
 go_wp2_with fail
 refine (H1.out _).mono ?_
 rintro e w' ⟨rfl, hq⟩
 rw [hq]
 clear hq w'
 go_wp2_with fail
 refine (H2.out _).mono ?_
 rintro e w' ⟨rfl, hq⟩
 rw [hq]
 clear hq w'
 go_wp2_with fail
 refine (H3.out _).mono ?_
 rintro e w' ⟨rfl, hq⟩
 rw [hq]
 clear hq w'
 go_wp2_with fail
 refine (H4.out _ HA.out).mono ?_
 rintro e W2 ⟨rfl, hb⟩
 replace hv := bl_trans hv hb
 go_wp2_with fail
 go_returns
 exact Ret.mk (vb (by rw [HP.out]; rfl)) hv
def cstK (x : Last) (f : Foot) (lo : Int) (k : Nat) : Int := (rmP x f - lo) + (if 2 ≤ k then apt x.ball f.ball else 0) + (if 3 ≤ k then apt x.instep f.instep else 0) + (if 4 ≤ k then apt x.heel f.heel else 0)
def okK (x : Last) (f : Foot) (lo hi gi : Int) (k : Nat) : Bool := inB (rmP x f) lo hi && ((if 2 ≤ k then decide (apt x.ball f.ball ≤ gi) else true) && ((if 3 ≤ k then decide (apt x.instep f.instep ≤ gi) else true) && (if 4 ≤ k then decide (apt x.heel f.heel ≤ gi) else true)))
theorem okK_1 (x : Last) (f : Foot) (lo hi gi : Int) : okK x f lo hi gi 2 = (okK x f lo hi gi 1 && decide (apt x.ball f.ball ≤ gi)) := by unfold okK; simp
theorem okK_2 (x : Last) (f : Foot) (lo hi gi : Int) : okK x f lo hi gi 3 = (okK x f lo hi gi 2 && decide (apt x.instep f.instep ≤ gi)) := by unfold okK; simp [Bool.and_assoc]
theorem okK_3 (x : Last) (f : Foot) (lo hi gi : Int) : okK x f lo hi gi 4 = (okK x f lo hi gi 3 && decide (apt x.heel f.heel ≤ gi)) := by unfold okK; simp [Bool.and_assoc]
theorem apt_bd {a b : Int} (h1 : 500 ≤ a) (h2 : a ≤ 5000) (h3 : 500 ≤ b) (h4 : b ≤ 5000) : 0 ≤ apt a b ∧ apt a b ≤ 4500 := by unfold apt; omega
set_option maxRecDepth 100000 in
set_option maxHeartbeats 8000000 in
theorem fitCost_c (x : Last) (f : Foot) (lo hi gi : Int) (gw : Nat) (HX : Hid (lastB x = true)) (HF : Hid (footB f = true)) (HT : Hid (fitB lo hi gi = true)) (w : World) (hB : Blk w gw 2 #[.int .i64 1, .int .i64 1, .int .i64 1, .int .i64 1]) :
   Calls Tryz.prog 257 #[.agg #[.string x.name, .int .i64 x.length, .int .i64 x.ball, .int .i64 x.instep, .int .i64 x.heel, .int .i64 x.pitch], .agg #[.int .i64 f.length, .int .i64 f.ball, .int .i64 f.instep, .int .i64 f.heel], .agg #[.int .i64 lo, .int .i64 hi, .int .i64 gi, .slice (some ⟨gw, 0, none⟩) 4 4]] w (RetT #[.int .i64 (cstP x f lo), .bool (okC x f lo hi gi)] w) := by
 obtain ⟨_, hf, p0, p1⟩ := lastB_parts HX.out
 obtain ⟨⟨l1, l2⟩, ⟨m1, m2⟩, ⟨n1, n2⟩, ⟨o1, o2⟩⟩ := foot_bd hf
 obtain ⟨⟨q1, q2⟩, ⟨r1, r2⟩, ⟨s1, s2⟩, ⟨t1, t2⟩⟩ := foot_bd HF.out
 have hft := HT.out
 unfold fitB at hft
 simp only [Bool.and_eq_true, inB_iff] at hft
 obtain ⟨⟨u1, u2⟩, ⟨u3, u4⟩, u5, u6⟩ := hft
 unfold Last.foot at *
 dsimp only at *
 have hbd := fun k hk => (show -5500 ≤ cstK x f lo k ∧ cstK x f lo k ≤ 20000 by
   have a1 := apt_bd m1 m2 r1 r2
   have a2 := apt_bd n1 n2 s1 s2
   have a3 := apt_bd o1 o2 t1 t2
   unfold cstK rmP
   have : k ≤ 4 := hk
   repeat' split
   all_goals omega)
 obtain ⟨gx, hgx⟩ : ∃ z, z = w.heap.size := ⟨_, rfl⟩
 obtain ⟨gf, hgf⟩ : ∃ z, z = w.heap.size + 1 := ⟨_, rfl⟩
 obtain ⟨gt, hgt⟩ : ∃ z, z = w.heap.size + 1 + 1 := ⟨_, rfl⟩
 obtain ⟨W, hW⟩ : ∃ z, z = ((w.alloc (Obj.cells #[.string x.name, .int .i64 x.length, .int .i64 x.ball, .int .i64 x.instep, .int .i64 x.heel, .int .i64 x.pitch] 100)).alloc (Obj.cells #[.int .i64 f.length, .int .i64 f.ball, .int .i64 f.instep, .int .i64 f.heel] 27)).alloc (Obj.cells #[.int .i64 lo, .int .i64 hi, .int .i64 gi, .slice (some ⟨gw, 0, none⟩) 4 4] 120) := ⟨_, rfl⟩
 have hv : Below w.heap.size w W := by rw [hW]; exact bl_alloc (bl_alloc (bl_alloc (Below.refl _ _) _) _) _
 have HX1 : Hid (Blk W gx 100 #[.string x.name, .int .i64 x.length, .int .i64 x.ball, .int .i64 x.instep, .int .i64 x.heel, .int .i64 x.pitch]) := qH (by rw [hW, hgx]; exact ((Blk.new w _ _).alloc _).alloc _)
 have HF1 : Hid (Blk W gf 27 #[.int .i64 f.length, .int .i64 f.ball, .int .i64 f.instep, .int .i64 f.heel]) := qH (by
   have h := (Blk.new (w.alloc (Obj.cells #[.string x.name, .int .i64 x.length, .int .i64 x.ball, .int .i64 x.instep, .int .i64 x.heel, .int .i64 x.pitch] 100)) 27 #[Value.int .i64 f.length, Value.int .i64 f.ball, Value.int .i64 f.instep, Value.int .i64 f.heel]).alloc (Obj.cells #[.int .i64 lo, .int .i64 hi, .int .i64 gi, .slice (some ⟨gw, 0, none⟩) 4 4] 120)
   rw [World.size_alloc] at h
   rw [hW, hgf]; exact h)
 have HT1 : Hid (Blk W gt 120 #[.int .i64 lo, .int .i64 hi, .int .i64 gi, .slice (some ⟨gw, 0, none⟩) 4 4]) := qH (by
   have h := Blk.new ((w.alloc (Obj.cells #[.string x.name, .int .i64 x.length, .int .i64 x.ball, .int .i64 x.instep, .int .i64 x.heel, .int .i64 x.pitch] 100)).alloc (Obj.cells #[.int .i64 f.length, .int .i64 f.ball, .int .i64 f.instep, .int .i64 f.heel] 27)) 120 #[Value.int .i64 lo, Value.int .i64 hi, Value.int .i64 gi, Value.slice (some ⟨gw, 0, none⟩) 4 4]
   rw [World.size_alloc, World.size_alloc] at h
   rw [hW, hgt]; exact h)
 have HB : Hid (Blk W gw 2 #[.int .i64 1, .int .i64 1, .int .i64 1, .int .i64 1]) := qH (by rw [hW]; exact ((hB.alloc _).alloc _).alloc _)
 have HW := qH hW
 have G1 := qH hgx
 have G2 := qH hgf
 have G3 := qH hgt
 clear hW hgx hgf hgt hB
 have k1 : W.cell? ⟨gx, 1, none⟩ = some (.int .i64 x.length) := HX1.out.cell 1
 have j0 : W.cell? ⟨gf, 0, none⟩ = some (.int .i64 f.length) := HF1.out.cell 0
 have hrm : IntKind.i64.wrap (x.length - f.length) = x.length - f.length := IntWalk.i64_in _ (by omega)
 go_enter Tryz.func257, Tryz.ntmps257
 go_upto_region 1 with fail
 rw [← HW.out]
 first | rw [← G3.out, ← G2.out, ← G1.out] | rw [show w.heap.size + 2 = gt from G3.out.symm, ← G2.out, ← G1.out]
 clear HW G1 G2 G3
 go_upto_region 2 with fail
 obtain ⟨rm, hrm2⟩ : ∃ z, z = x.length - f.length := ⟨_, rfl⟩
 rw [← hrm2]
 have HRM := qH hrm2
 have rb1 : -4500 ≤ rm := by omega
 have rb2 : rm ≤ 4500 := by omega
 have hrw : IntKind.i64.wrap (rm - lo) = rm - lo := IntWalk.i64_in _ (by omega)
 have hrw2 : IntKind.i64.wrap (1 * (rm - lo)) = rm - lo := by rw [Int.one_mul]; exact hrw
 clear hrm2 hrm k1 j0
 have t0 : W.cell? ⟨gt, 0, none⟩ = some (.int .i64 lo) := HT1.out.cell 0
 have t1' : W.cell? ⟨gt, 1, none⟩ = some (.int .i64 hi) := HT1.out.cell 1
 have t3 : W.cell? ⟨gt, 3, none⟩ = some (.slice (some ⟨gw, 0, none⟩) 4 4) := HT1.out.cell 3
 have w0 : W.cell? ⟨gw, 0, none⟩ = some (.int .i64 1) := HB.out.cell 0
 obtain ⟨f0, f1, f2, f3⟩ := qC4 HF1.out
 have HWI := qH (fun w => within_c rm lo hi w)
 have HMS := qH (fun w => measures_c f w)
 refine wp_region_held_drew (S := fun w' => Below W.heap.size W w' ∧ True) (by as_aux_lemma => kernel_rfl) ?_ (fun hHeld => ?_)
 · exact ⟨(Below.refl _ _).drew, trivial⟩
 have hd9 := hHeld.1
 refine zU 0 20 rfl (by assumption) ?_
 try simp only [Act.put, zA, zB, zC]
 refine zT 1 21 ?_ rfl ?_ (by assumption) ?_
 rotate_left
 · intro w hSw
   try dsimp only at hSw
   have x_t3 := bl_cell hSw.1 t3
   go_simp
   try with_reducible rfl
 try simp only [Act.put, zA, zB, zC]
 refine zU 2 22 rfl (by assumption) ?_
 try simp only [Act.put, zA, zB, zC]
 refine zT 3 23 ?_ rfl ?_ (by assumption) ?_
 rotate_left
 · intro w hSw
   try dsimp only at hSw
   have x_w0 := bl_cell hSw.1 w0
   go_simp
   try with_reducible rfl
 try simp only [Act.put, zA, zB, zC]
 refine zU 4 24 rfl (by assumption) ?_
 try simp only [Act.put, zA, zB, zC]
 refine zU 5 25 rfl (by assumption) ?_
 try simp only [Act.put, zA, zB, zC]
 refine zT 6 26 ?_ rfl ?_ (by assumption) ?_
 rotate_left
 · intro w hSw
   try dsimp only at hSw
   have x_t0 := bl_cell hSw.1 t0
   go_simp
   try with_reducible rfl
 try simp only [Act.put, zA, zB, zC]
 refine zU 7 27 rfl (by assumption) ?_
 try simp only [Act.put, zA, zB, zC]
 refine zU 8 28 rfl (by assumption) ?_
 try simp only [Act.put, zA, zB, zC]
 refine zU 9 29 rfl (by assumption) ?_
 try simp only [Act.put, zA, zB, zC]
 refine zU 10 30 rfl (by assumption) ?_
 try simp only [Act.put, zA, zB, zC]
 refine zT 11 31 ?_ rfl ?_ (by assumption) ?_
 rotate_left
 · intro w hSw
   try dsimp only at hSw
   have x_t0 := bl_cell hSw.1 t0
   go_simp
   try with_reducible rfl
 try simp only [Act.put, zA, zB, zC]
 refine zU 12 32 rfl (by assumption) ?_
 try simp only [Act.put, zA, zB, zC]
 refine zT 13 33 ?_ rfl ?_ (by assumption) ?_
 rotate_left
 · intro w hSw
   try dsimp only at hSw
   have x_t1p := bl_cell hSw.1 t1'
   go_simp
   try with_reducible rfl
 try simp only [Act.put, zA, zB, zC]
 refine zT 15 35 ?_ rfl ?_ (by assumption) ?_
 rotate_left
 · intro w hSw
   try dsimp only at hSw
   have x_f0 := bl_cell hSw.1 f0
   have x_f1 := bl_cell hSw.1 f1
   have x_f2 := bl_cell hSw.1 f2
   have x_f3 := bl_cell hSw.1 f3
   go_simp
   try with_reducible rfl
 try simp only [Act.put, zA, zB, zC]
 refine zR 14 (some 34) rfl (fun K hK => ?_)
 go_simp
 (try dsimp only at hHeld); go_split_ands
 refine (HWI.out _).mono ?_
 rintro e w' ⟨rfl, hq⟩
 rw [hq]
 clear hq w'
 go_wp2_with fail
 refine hK.out _ _ ?_ (fun hHeld => ?_)
 · (try dsimp only); go_split_ands; exact ⟨hd9, trivial⟩
 clear hK K
 try simp only [Act.put, zA, zB, zC]
 refine zR 16 (some 36) rfl (fun K hK => ?_)
 go_simp
 (try dsimp only at hHeld); go_split_ands
 refine (HMS.out _).mono ?_
 rintro e V1 ⟨gm, rfl, hM, hb9⟩
 have HM := qH hM
 replace hd9 := bl_trans hd9 hb9
 clear hb9 hM
 go_wp2_with fail
 refine hK.out _ _ ?_ (fun hHeld => ?_)
 · (try dsimp only); go_split_ands; exact ⟨hd9, trivial⟩
 clear hK K
 try simp only [Act.put, zA, zB, zC]
 refine zU 17 9 rfl (by assumption) ?_
 try simp only [Act.put, zA, zB, zC]
 refine zU 18 10 rfl (by assumption) ?_
 try simp only [Act.put, zA, zB, zC]
 refine zU 19 11 rfl (by assumption) ?_
 try simp only [Act.put, zA, zB, zC]
 refine wpAnyH_done (by as_aux_lemma => kernel_rfl) ?_ _
 clear hHeld t0 t1' t3 w0 f0 f1 f2 f3
 replace HX1 := qH (HX1.out.below hd9)
 replace HT1 := qH (HT1.out.below hd9)
 replace HB := qH (HB.out.below hd9)
 replace hv := bl_trans hv hd9
 clear hd9 HF1
 go_wp2_with (refine wpList_load_row rfl 100 _ rfl gx rfl 100 _ (0, 0) _ HX1.out Tryz.underlying100 rfl (by kernel_rfl) ?_)
 refine (foot_c x _).mono ?_
 rintro e W2 ⟨rfl, hb⟩
 replace HM := qH (HM.out.below hb)
 replace HT1 := qH (HT1.out.below hb)
 replace HB := qH (HB.out.below hb)
 replace hv := bl_trans hv hb
 clear hb HX1
 go_wp2_with fail
 refine (measures_c x.foot _).mono ?_
 rintro e W3 ⟨gn, rfl, hN, hb⟩
 have HN : Hid (Blk W3 gn 2 #[.int .i64 x.length, .int .i64 x.ball, .int .i64 x.instep, .int .i64 x.heel]) := qH hN
 replace HM := qH (HM.out.below hb)
 replace HT1 := qH (HT1.out.below hb)
 replace HB := qH (HB.out.below hb)
 replace hv := bl_trans hv hb
 clear hb hN
 have hK0 := qH (show rm - lo = cstK x f lo 0 by unfold cstK rmP; rw [HRM.out]; simp)
 have hO0 := qH (show inB rm lo hi = okK x f lo hi gi 0 by unfold okK rmP; rw [HRM.out]; simp)
 obtain ⟨b0, hb0⟩ : ∃ z, z = inB rm lo hi := ⟨_, rfl⟩
 rw [← hb0] at hO0 ⊢
 clear hb0 HWI HMS hrw2
 go_wp2_with fail
 go_loopw [9, 10, 41] (fun cv ov iv wr => ∃ (k : Nat) (c : Int) (b : Bool), k ≤ 4 ∧ iv = .int .i64 k ∧ cv = .int .i64 c ∧ ov = .bool b ∧ Hid (c = cstK x f lo k) ∧ Hid (b = okK x f lo hi gi k) ∧ Below W3.heap.size W3 wr) (fun _ _ i _ => 4 - (intOf i).toNat)
 case atStart => exact ⟨0, rm - lo, b0, by omega, rfl, rfl, rfl, hK0, hO0, Below.refl _ _⟩
 case round =>
 clear hK0 hO0
 obtain ⟨k, c, b, hk, rfl, rfl, rfl, HC, HO, hb⟩ := hrel
 have hcb := hbd k hk
 rw [← HC.out] at hcb
 obtain ⟨c1, c2⟩ := hcb
 by_cases h4 : k = 4
 · subst h4
   have hE := qH (show c = cstP x f lo by rw [HC.out]; rfl)
   have hF := qH (show b = okC x f lo hi gi by rw [HO.out]; rfl)
   clear HC HO
   go_wp2_with fail
   go_returns
   exact RetT.mk (by rw [hE.out, hF.out]; rfl) (bl_trans hv hb)
 by_cases h0 : k = 0
 · subst h0
   have v0 : wr.cell? ⟨gn, 0, none⟩ = some (.int .i64 x.length) := (HN.out.below hb).cell 0
   go_wp2_with fail
   exact ⟨⟨1, c, b, by omega, by go_num, rfl, rfl, qH (by rw [HC.out]; rfl), qH (by rw [HO.out]; rfl), hb⟩, by simp [intOf]⟩
 by_cases h1 : k = 1
 · subst h1
   have v0 : wr.cell? ⟨gn, 1, none⟩ = some (.int .i64 x.ball) := (HN.out.below hb).cell 1
   have v1 : wr.cell? ⟨gm, 1, none⟩ = some (.int .i64 f.ball) := (HM.out.below hb).cell 1
   have HAP := qH (fun w => apart_c x.ball f.ball (by omega) (by omega) (by omega) (by omega) w)
   have hab := apt_bd m1 m2 r1 r2
   obtain ⟨d, hd⟩ : ∃ z, z = apt x.ball f.ball := ⟨_, rfl⟩
   rw [← hd] at HAP hab
   have HD := qH hd
   obtain ⟨d1, d2⟩ := hab
   clear hd
   go_wp2_with fail
   refine (HAP.out _).mono ?_
   rintro e w' ⟨rfl, hq⟩
   rw [hq]
   clear hq w' v0 v1
   have y2 : wr.cell? ⟨gt, 2, none⟩ = some (.int .i64 gi) := (HT1.out.below hb).cell 2
   have y3 : wr.cell? ⟨gt, 3, none⟩ = some (.slice (some ⟨gw, 0, none⟩) 4 4) := (HT1.out.below hb).cell 3
   have y4 : wr.cell? ⟨gw, 1, none⟩ = some (.int .i64 1) := (HB.out.below hb).cell 1
   have e1 : IntKind.i64.wrap (1 * d) = d := by rw [Int.one_mul]; exact IntWalk.i64_in _ (by omega)
   have e1b : IntKind.i64.wrap d = d := IntWalk.i64_in _ (by omega)
   have e2 : IntKind.i64.wrap (c + d) = c + d := IntWalk.i64_in _ (by omega)
   cases b
   · go_wp2_with fail
     go_quiet (fail)
     go_wp2_with fail
     exact ⟨⟨2, c + d, false, by omega, by go_num, rfl, rfl, qH (by rw [HC.out, HD.out]; unfold cstK; simp), qH (by rw [okK_1, ← HO.out]; rfl), below_drewN hb _⟩, by simp [intOf]⟩
   · skip
     go_wp2_with fail
     go_quiet (fail)
     go_wp2_with fail
     exact ⟨⟨2, c + d, decide (d ≤ gi), by omega, by go_num, rfl, rfl, qH (by rw [HC.out, HD.out]; unfold cstK; simp), qH (by rw [okK_1, ← HO.out, HD.out]; rfl), below_drewN hb _⟩, by simp [intOf]⟩
 by_cases h2 : k = 2
 · subst h2
   have v0 : wr.cell? ⟨gn, 2, none⟩ = some (.int .i64 x.instep) := (HN.out.below hb).cell 2
   have v1 : wr.cell? ⟨gm, 2, none⟩ = some (.int .i64 f.instep) := (HM.out.below hb).cell 2
   have HAP := qH (fun w => apart_c x.instep f.instep (by omega) (by omega) (by omega) (by omega) w)
   have hab := apt_bd n1 n2 s1 s2
   obtain ⟨d, hd⟩ : ∃ z, z = apt x.instep f.instep := ⟨_, rfl⟩
   rw [← hd] at HAP hab
   have HD := qH hd
   obtain ⟨d1, d2⟩ := hab
   clear hd
   go_wp2_with fail
   refine (HAP.out _).mono ?_
   rintro e w' ⟨rfl, hq⟩
   rw [hq]
   clear hq w' v0 v1
   have y2 : wr.cell? ⟨gt, 2, none⟩ = some (.int .i64 gi) := (HT1.out.below hb).cell 2
   have y3 : wr.cell? ⟨gt, 3, none⟩ = some (.slice (some ⟨gw, 0, none⟩) 4 4) := (HT1.out.below hb).cell 3
   have y4 : wr.cell? ⟨gw, 2, none⟩ = some (.int .i64 1) := (HB.out.below hb).cell 2
   have e1 : IntKind.i64.wrap (1 * d) = d := by rw [Int.one_mul]; exact IntWalk.i64_in _ (by omega)
   have e1b : IntKind.i64.wrap d = d := IntWalk.i64_in _ (by omega)
   have e2 : IntKind.i64.wrap (c + d) = c + d := IntWalk.i64_in _ (by omega)
   cases b
   · go_wp2_with fail
     go_quiet (fail)
     go_wp2_with fail
     exact ⟨⟨3, c + d, false, by omega, by go_num, rfl, rfl, qH (by rw [HC.out, HD.out]; unfold cstK; simp), qH (by rw [okK_2, ← HO.out]; rfl), below_drewN hb _⟩, by simp [intOf]⟩
   · skip
     go_wp2_with fail
     go_quiet (fail)
     go_wp2_with fail
     exact ⟨⟨3, c + d, decide (d ≤ gi), by omega, by go_num, rfl, rfl, qH (by rw [HC.out, HD.out]; unfold cstK; simp), qH (by rw [okK_2, ← HO.out, HD.out]; rfl), below_drewN hb _⟩, by simp [intOf]⟩
 by_cases h3 : k = 3
 · subst h3
   have v0 : wr.cell? ⟨gn, 3, none⟩ = some (.int .i64 x.heel) := (HN.out.below hb).cell 3
   have v1 : wr.cell? ⟨gm, 3, none⟩ = some (.int .i64 f.heel) := (HM.out.below hb).cell 3
   have HAP := qH (fun w => apart_c x.heel f.heel (by omega) (by omega) (by omega) (by omega) w)
   have hab := apt_bd o1 o2 t1 t2
   obtain ⟨d, hd⟩ : ∃ z, z = apt x.heel f.heel := ⟨_, rfl⟩
   rw [← hd] at HAP hab
   have HD := qH hd
   obtain ⟨d1, d2⟩ := hab
   clear hd
   go_wp2_with fail
   refine (HAP.out _).mono ?_
   rintro e w' ⟨rfl, hq⟩
   rw [hq]
   clear hq w' v0 v1
   have y2 : wr.cell? ⟨gt, 2, none⟩ = some (.int .i64 gi) := (HT1.out.below hb).cell 2
   have y3 : wr.cell? ⟨gt, 3, none⟩ = some (.slice (some ⟨gw, 0, none⟩) 4 4) := (HT1.out.below hb).cell 3
   have y4 : wr.cell? ⟨gw, 3, none⟩ = some (.int .i64 1) := (HB.out.below hb).cell 3
   have e1 : IntKind.i64.wrap (1 * d) = d := by rw [Int.one_mul]; exact IntWalk.i64_in _ (by omega)
   have e1b : IntKind.i64.wrap d = d := IntWalk.i64_in _ (by omega)
   have e2 : IntKind.i64.wrap (c + d) = c + d := IntWalk.i64_in _ (by omega)
   cases b
   · go_wp2_with fail
     go_quiet (fail)
     go_wp2_with fail
     exact ⟨⟨4, c + d, false, by omega, by go_num, rfl, rfl, qH (by rw [HC.out, HD.out]; unfold cstK; simp), qH (by rw [okK_3, ← HO.out]; rfl), below_drewN hb _⟩, by simp [intOf]⟩
   · skip
     go_wp2_with fail
     go_quiet (fail)
     go_wp2_with fail
     exact ⟨⟨4, c + d, decide (d ≤ gi), by omega, by go_num, rfl, rfl, qH (by rw [HC.out, HD.out]; unfold cstK; simp), qH (by rw [okK_3, ← HO.out, HD.out]; rfl), below_drewN hb _⟩, by simp [intOf]⟩
 omega
end Go.Proofs.YtpiehlfffjhoaaaGreatDoor
