/- Lemmas for the law on the console: the parts CnJ, CnG, InsP. -/
import Derived.Test.YtpiehlfffjhoaaaGreatDoorQ0
import Derived.Test.YtpiehlfffjhoaaaGreatDoorQ19
import Derived.Test.YtpiehlfffjhoaaaGreatDoorQ4
import Derived.Test.YtpiehlfffjhoaaaGreatDoorQ5
import Derived.Test.YtpiehlfffjhoaaaGreatDoorQ1
import Derived.Laws.CopyRow
import Derived.Laws.Append
import Derived.Lib.AppendZeros
namespace Go.Proofs.YtpiehlfffjhoaaaGreatDoor
open Go.RowKit
def cmpS (a b : ByteArray) : Int := if lessB a b = true then -1 else if lessB b a = true then 1 else 0
theorem cmpS_lt {a b : ByteArray} : cmpS a b < 0 ↔ lessB a b = true := by unfold cmpS; repeat' split; all_goals simp_all
theorem cmpS_eq {a b : ByteArray} : cmpS a b = 0 ↔ a = b := by
 unfold cmpS
 constructor
 · intro h
   rcases lessB_tri a b with h1 | h1 | h1
   · rw [if_pos h1] at h; omega
   · exact h1
   · rw [if_neg (by rw [lessB_asym h1]; simp), if_pos h1] at h; omega
 · intro h
   subst h
   rw [if_neg (by rw [lessB_irr]; simp), if_neg (by rw [lessB_irr]; simp)]
theorem isNaNS_c (a : ByteArray) (w : World) : Calls Tryz.prog 255 #[.string a] w (RetQ (.bool false) w) := by
 go_enter Tryz.func255, Tryz.ntmps255
 go_wp2
 go_returns
 exact RetQ.mk (vb (by simp))
theorem compareS_c (a b : ByteArray) (w : World) : Calls Tryz.prog 196 #[.string a, .string b] w (RetQ (.int .i64 (cmpS a b)) w) := by
 have HC : Hid ((lessB a b = true → cmpS a b = -1) ∧ (lessB b a = true → cmpS a b = 1) ∧ (a = b → cmpS a b = 0)) := qH ⟨fun h => if_pos h, fun h => by unfold cmpS; rw [if_neg (by rw [lessB_asym h]; simp), if_pos h], fun h => cmpS_eq.2 h⟩
 have h0 : (a.toList == b.toList) = decide (a = b) := bytes_beq a b
 have h1 : Op.bytesLess a.toList b.toList = lessB a b := rfl
 have h2 : Op.bytesLess b.toList a.toList = lessB b a := rfl
 obtain ⟨r, hr⟩ : ∃ z, z = cmpS a b := ⟨_, rfl⟩
 rw [← hr] at HC ⊢
 clear hr
 rcases lessB_tri a b with h | h | h
 · obtain rfl := HC.out.1 h
   rw [h] at h1
   rw [lessB_asym h] at h2
   rw [decide_eq_false (lessB_ne h)] at h0
   clear h HC
   go_enter Tryz.func196, Tryz.ntmps196
   go_wp2_with (go_at_call 255; refine (isNaNS_c _ _).mono ?_; rintro e w' ⟨rfl, rfl⟩)
   go_returns
   exact RetQ.mk rfl
 · obtain rfl := HC.out.2.2 h
   subst h
   rw [lessB_irr] at h1
   rw [decide_eq_true rfl] at h0
   clear HC h2
   go_enter Tryz.func196, Tryz.ntmps196
   go_wp2_with (go_at_call 255; refine (isNaNS_c _ _).mono ?_; rintro e w' ⟨rfl, rfl⟩)
   go_returns
   exact RetQ.mk rfl
 · obtain rfl := HC.out.2.1 h
   rw [h] at h2
   rw [lessB_asym h] at h1
   rw [decide_eq_false (fun e => lessB_ne h e.symm)] at h0
   clear h HC
   go_enter Tryz.func196, Tryz.ntmps196
   go_wp2_with (go_at_call 255; refine (isNaNS_c _ _).mono ?_; rintro e w' ⟨rfl, rfl⟩)
   go_returns
   exact RetQ.mk rfl
theorem placeN1_c (x : Last) (nm : ByteArray) (w : World) : Calls Tryz.prog 195 #[.agg #[.string x.name, .int .i64 x.length, .int .i64 x.ball, .int .i64 x.instep, .int .i64 x.heel, .int .i64 x.pitch], .string nm] w (Ret (.int .i64 (cmpS x.name nm)) w) := by
 go_enter Tryz.func195, Tryz.ntmps195
 go_wp2_with (go_at_call 196; refine (compareS_c _ _ _).mono ?_; rintro e w' ⟨rfl, rfl⟩)
 go_returns
 exact Ret.mk rfl (by go_grown)
set_option maxRecDepth 100000 in
set_option maxHeartbeats 1600000 in
theorem searchN_c (A : Option Addr) (xs : List Last) (n c : Nat) (nm : ByteArray) (hn : Hid (xs.length = n)) (hm : (n : Int) ≤ 1048576) (hp : Hid (xs.Pairwise byName)) (w : World) (hA : Arr w A (flat Last.cells xs)) :
   Calls Tryz.prog 194 #[.slice A n c, .string nm, .func (.func 195) #[] #[]] w (RetT #[.int .i64 (lbN nm xs), .bool (hitN nm xs)] w) := by
 obtain ⟨b, hb⟩ : ∃ b, b = lbN nm xs := ⟨_, rfl⟩
 have hbn : b ≤ n := by rw [hb, ← hn.out]; exact lbN_le nm xs
 have HB := qH hb
 rw [← hb]
 clear hb
 go_enter Tryz.func194, Tryz.ntmps194
 go_wp2_with fail
 go_loopw [9, 10] (fun i j wr => ∃ p q : Nat, p ≤ b ∧ b ≤ q ∧ q ≤ n ∧ i = .int .i64 p ∧ j = .int .i64 q ∧ Below w.heap.size w wr) (fun i j _ => ((intOf j) - (intOf i)).toNat)
 case atStart => exact ⟨0, n, by omega, by omega, by omega, rfl, rfl, Below.refl _ _⟩
 case round =>
   obtain ⟨p, q, hpb, hbq, hqn, rfl, rfl, hv⟩ := hrel
   by_cases hlt : p < q
   · obtain ⟨h, hh⟩ : ∃ h : Nat, ((p : Int) + (q : Int)) / 2 = (h : Int) := ⟨(p + q) / 2, by omega⟩
     have hph : p ≤ h := by omega
     have hhq : h < q := by omega
     obtain ⟨x, hx⟩ := get_of_lt (xs := xs) (k := h) (by rw [hn.out]; omega)
     obtain ⟨ad, rfl, hab, c0, c1, c2, c3, c4, c5⟩ := Last.at_ (hA.below hv) hx
     have HX := qH (lbN_iff nm xs hp.out h x hx)
     clear hx
     go_wp2_with fail
     refine (placeN1_c x nm _).mono ?_
     rintro e w1 ⟨rfl, hb1⟩
     have hcl := qH (@cmpS_lt x.name nm)
     obtain ⟨r, hr⟩ : ∃ r, r = cmpS x.name nm := ⟨_, rfl⟩
     rw [← hr] at hcl ⊢
     clear hr
     by_cases hr0 : r < 0
     · have h1 := (HX.out.1 (hcl.out.1 hr0))
       rw [← HB.out] at h1
       go_wp2_with fail
       exact ⟨⟨h + 1, q, by omega, by omega, by omega, by go_num, rfl, bl_trans hv hb1⟩, by simp [intOf]; omega⟩
     · have h1 : b ≤ h := by
         have : ¬ h < lbN nm xs := fun hc => hr0 (hcl.out.2 (HX.out.2 hc))
         have := HB.out
         omega
       go_wp2_with fail
       exact ⟨⟨p, h, by omega, by omega, by omega, rfl, by go_num, bl_trans hv hb1⟩, by simp [intOf]; omega⟩
   · obtain rfl : p = b := by omega
     obtain rfl : q = p := by omega
     by_cases hpn : q < n
     · obtain ⟨x, hx⟩ := get_of_lt (xs := xs) (k := q) (by rw [hn.out]; omega)
       obtain ⟨ad, rfl, hab, c0, c1, c2, c3, c4, c5⟩ := Last.at_ (hA.below hv) hx
       have HH := qH (show hitN nm xs = decide (x.name = nm) by unfold hitN; rw [← HB.out, hx]; rfl)
       clear hx
       go_wp2_with fail
       refine (placeN1_c x nm _).mono ?_
       rintro e w1 ⟨rfl, hb1⟩
       have hce := qH (@cmpS_eq x.name nm)
       obtain ⟨r, hr⟩ : ∃ r, r = cmpS x.name nm := ⟨_, rfl⟩
       rw [← hr] at hce ⊢
       clear hr
       go_wp2_with fail
       go_returns
       refine RetT.mk ?_ (bl_trans hv hb1)
       rw [HH.out]
       have h2 : (r == 0) = decide (x.name = nm) := by rw [Bool.eq_iff_iff, beq_iff_eq, decide_eq_true_eq]; exact hce.out
       rw [← h2]
       rfl
     · have HH := qH (show hitN nm xs = false by unfold hitN; rw [← HB.out, List.getElem?_eq_none (by rw [hn.out]; omega)]; rfl)
       go_wp2_with fail
       go_returns
       exact RetT.mk (by rw [HH.out]; rfl) hv
theorem lastPlace_c (A : Option Addr) (xs : List Last) (n c : Nat) (nm : ByteArray) (hn : Hid (xs.length = n)) (hm : (n : Int) ≤ 1048576) (hp : Hid (xs.Pairwise byName)) (w : World) (hA : Arr w A (flat Last.cells xs)) :
   Calls Tryz.prog 127 #[.slice A n c, .string nm] w (RetT #[.int .i64 (lbN nm xs), .bool (hitN nm xs)] w) := by
 go_enter Tryz.func127, Tryz.ntmps127
 go_wp2_with fail
 refine (searchN_c A xs n c nm hn hm hp _ hA).mono ?_
 rintro e w1 ⟨rfl, hb1⟩
 go_wp2_with fail
 go_returns
 exact RetT.mk rfl hb1
theorem namP_inv {xs : List Last} {nm : ByteArray} (h : lasB xs = false) : namP xs nm = (0, 1) := by unfold namP; rw [if_neg (by simp [h])]
theorem namP_rng {xs : List Last} {nm : ByteArray} (h : lasB xs = true) (h2 : nameB nm = false) : namP xs nm = (0, 2) := by unfold namP; rw [if_pos h, if_neg (by simp [h2])]
theorem namP_non {xs : List Last} {nm : ByteArray} (h : lasB xs = true) (h2 : nameB nm = true) (h3 : hitN nm xs = false) : namP xs nm = (0, 3) := by unfold namP; rw [if_pos h, if_pos h2, if_neg (by simp [h3])]
theorem namP_hit {xs : List Last} {nm : ByteArray} (h : lasB xs = true) (h2 : nameB nm = true) (h3 : hitN nm xs = true) : namP xs nm = ((lbN nm xs : Int), 0) := by unfold namP; rw [if_pos h, if_pos h2, if_pos h3]
set_option maxHeartbeats 1600000 in
theorem LastNamed_c (A : Option Addr) (xs : List Last) (n c : Nat) (nm : ByteArray) (hn : Hid (xs.length = n)) (hm : (n : Int) ≤ 1048576) (hs : Hid (∀ x ∈ xs, x.name.size ≤ 9223372036854775807)) (hz : nm.size ≤ 9223372036854775807) (w : World) (hA : Arr w A (flat Last.cells xs)) :
   Calls Tryz.prog 132 #[.slice A n c, .string nm] w (RetT #[.int .i64 (namP xs nm).1, .int .i64 (namP xs nm).2] w) := by
 have HA := qH hA
 go_enter Tryz.func132, Tryz.ntmps132
 go_wp2_with fail
 refine (ValidLasts_c A xs n c hn hm hs _ HA.out).mono ?_
 rintro e W ⟨rfl, hv⟩
 cases ho : lasB xs
 · have HP := qH (namP_inv (nm := nm) ho)
   clear ho
   go_wp2_with fail
   go_returns
   exact RetT.mk (by rw [HP.out]; rfl) hv
 have HO := qH ho
 clear ho
 go_wp2_with fail
 refine (IsName_c nm hz _).mono ?_
 rintro e w' ⟨rfl, rfl⟩
 cases hq : nameB nm
 · have HP := qH (namP_rng HO.out hq)
   clear hq
   go_wp2_with fail
   go_returns
   exact RetT.mk (by rw [HP.out]; rfl) hv
 have HQ := qH hq
 clear hq
 go_wp2_with fail
 refine (lastPlace_c A xs n c nm hn hm (qH (las_pair HO.out)) _ (HA.out.below hv)).mono ?_
 rintro e W2 ⟨rfl, hb⟩
 replace hv := bl_trans hv hb
 cases hh : hitN nm xs
 · have HP := qH (namP_non HO.out HQ.out hh)
   clear hh
   go_wp2_with fail
   go_returns
   exact RetT.mk (by rw [HP.out]; rfl) hv
 have HP := qH (namP_hit HO.out HQ.out hh)
 clear hh
 have hl0 : (0 : Int) ≤ (lbN nm xs : Int) := by omega
 have hl1 : ¬ (lbN nm xs : Int) < 0 := by omega
 go_wp2_with fail
 go_returns
 exact RetT.mk (by rw [HP.out]; rfl) hv
theorem run_copy_rowS {P : Program} (w : World) (dT sT ty elem : TypeId) (s g o dLen dCap : Nat) (a : Addr) (sLen sCap : Nat) (cur : Array Value) (t : TypeId) (cs : List Value)
   (hu : P.underlying dT = some (.slice elem)) (hs : (P.info? elem).map (·.size) = some s)
   (hg : w.heap[g]? = some (.cells cur t (0, 0))) (hn : cs.length = Nat.min sLen dLen * s)
   (hsrc : ∀ j v, cs[j]? = some v → w.cell? (a.add j) = some v) (hfit : o + cs.length ≤ cur.size) (h1 : ∀ v ∈ cs, v.oneCell' = true) :
   (Builtin.copy_ #[dT, sT] ty #[.slice (some ⟨g, o, none⟩) dLen dCap, .slice (some a) sLen sCap]).run P w =
     .ok (goInt (Nat.min sLen dLen)) (w.setRow g (cur.toList.take o ++ cs ++ cur.toList.drop (o + cs.length)).toArray) := by
 have hl := run_loadCells_list (P := P) w a cs hsrc
 have hst := run_storeCells_at P g o t cs 0 cur w hg (by simpa using hfit) h1
 rw [hn] at hl
 cases hq : P.info? elem with
 | none => simp [hq] at hs
 | some i =>
   have hi : i.size = s := by simpa [hq] using hs
   simp [Builtin.copy_, run_underlying hu, Builtin.lenOf, Builtin.firstCells, sizeOf, typeInfo, hq, hi, hl, hst]
theorem run_append_grow_zeros {P : Program} (w : World) (t tn ty e : TypeId) (i : TypeInfo) (z : Value) (k kn : IntKind) (ht : P.underlying t = some (.slice e)) (htn : P.underlying tn = some (.int kn)) (hi : P.info? e = some i) (hz : i.zero = some z)
   (b : Addr) (sLen sCap : Nat) (olds : List Value) (hlo : olds.length = sLen * i.size) (holds : ∀ j v, olds[j]? = some v → w.cell? (b.add j) = some v)
   (n : Nat) (h0 : 0 < n) (hs : 0 < i.size) (hg : sCap < sLen + n) (h63 : ((sLen + n : Nat) : Int) ≤ 9223372036854775807) (h48 : n * i.bytes ≤ 281474976710656) (hfit : Builtin.nextslicecap (sLen + n) sCap * i.bytes ≤ 281474976710656) :
   (Builtin.append_ #[t, tn] ty #[.slice (some b) sLen sCap, .int k n]).run P w =
     .ok (.slice (some ⟨w.heap.size, 0, none⟩) (sLen + n) (grownCap w (sLen + n) sCap e))
       (w.drew.alloc (.cells (olds.toArray ++ Builtin.zeroCells z.cells n ++ Builtin.zeroCells z.cells (grownCap w (sLen + n) sCap e - (sLen + n))) e)) := by
 have hn : ¬ (sLen + n ≤ sCap) := by omega
 have hn0 : n ≠ 0 := by omega
 have hw : IntKind.i64.wrap (n : Int) = n := by rw [IntKind.wrap_i64]; omega
 have h63' : ¬ (9223372036854775807 < ((sLen : Int) + (n : Int))) := by omega
 have h48' : ¬ (281474976710656 < Builtin.nextslicecap (sLen + n) sCap * i.bytes) := by omega
 have h48i : ¬ (281474976710656 < (n : Int) * (i.bytes : Int)) := by
   rw [← Int.natCast_mul]
   omega
 have hneg : ¬ ((n : Int) < 0) := by omega
 have hns : ¬ (n * i.size = 0) := Nat.mul_ne_zero hn0 (by omega)
 have hfo := run_firstCells_some (P := P) w.drew i.size sLen b sLen sCap olds hlo (by simpa using holds)
 simp [Builtin.append_, run_underlying ht, run_underlying htn, sizeOf, typeInfo, zeroValue, hi, hz, asInt, asIntOf, hw, hn, hneg, hns, h63', h48', h48i, Question.forced, hfo, newRow, grownCap]
theorem wp_copy_run {P : Program} (w : World) {o : Oper} {a : Act} {K : Act → World → Prop} {Q : Exit → Act → World → Prop} (d s : Operand) (t t' : TypeId)
   (ho : o.op = .call { callee := .builtin .copy, args := #[d, s], argTypes := #[t, t'] }) (v u : Value) (hd : a.eval d = v) (hs : a.eval s = u) {v' : Value} {w' : World}
   (hr : (Builtin.copy_ #[t, t'] o.type #[v, u]).run P w = .ok v' w') (h : K (a.put o.dst v') w') : o.wp P a w K Q := by
 unfold Oper.wp execOp
 simp only [ho, resolve, invoke, builtin, Sem.run_bind, Sem.run_pure, Result.andThen_ok, List.map_toArray, List.map_cons, List.map_nil, hd, hs, hr]
 exact h
theorem wpList_copy_run {P : Program} (w : World) {ops : Array Oper} {rest : List Oper} {o : Oper} {a : Act} {Q : Exit → Act → World → Prop} (hgd : o.guard = none) (d s : Operand) (t t' : TypeId)
   (ho : o.op = .call { callee := .builtin .copy, args := #[d, s], argTypes := #[t, t'] }) (v u : Value) (hd : a.eval d = v) (hs : a.eval s = u) {v' : Value} {w' : World}
   (hr : (Builtin.copy_ #[t, t'] o.type #[v, u]).run P w = .ok v' w') (h : wpList P ops Q rest (a.put o.dst v') w') : wpList P ops Q (o :: rest) a w :=
 wpList_plain hgd fun _ hK => wp_copy_run w d s t t' ho v u hd hs hr (hK _ _ h)
theorem step_copy_run' {P : Program} {ops : Array Oper} {o : Oper} {a : Act} {w : World} {K : Act → World → Prop} {Q : Exit → Act → World → Prop} {E : Prop}
   (hg : o.guard = none) (d x : Operand) (dT sT : TypeId) (hop : o.op = Op.call { callee := Callee.builtin Builtin.copy, args := #[d, x], argTypes := #[dT, sT] })
   (v u : Value) (hd : a.eval d = v) (hx : a.eval x = u) {v' : Value} {w' : World} (hr : (Builtin.copy_ #[dT, sT] o.type #[v, u]).run P w = .ok v' w') (hK : K (a.put o.dst v') w') :
   if Region.wanted o (yielded ops a.tmps) = true then Oper.wp P o a w K Q else E := by
 have hw : Region.wanted o (yielded ops a.tmps) = true := by simp [Region.wanted, hg]
 rw [if_pos hw]
 exact wp_copy_run w d x dT sT hop v u hd hx hr hK
theorem blk_arr {w : World} {g : Nat} {t : TypeId} {cs : Array Value} (h : Blk w g t cs) : Arr w (some ⟨g, 0, none⟩) cs.toList := fun _ =>
 ⟨_, rfl, h.lt, fun j u hu => by
   rw [Addr.add_lit, Nat.zero_add]
   rw [h.cell j]
   simpa using hu⟩
end Go.Proofs.YtpiehlfffjhoaaaGreatDoor
