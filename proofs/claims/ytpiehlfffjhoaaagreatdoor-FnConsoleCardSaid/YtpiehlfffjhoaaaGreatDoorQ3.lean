/- Lemmas for the law on the console: the parts OutA, LstA. -/
import Derived.Test.YtpiehlfffjhoaaaGreatDoorQ0
import Derived.Test.YtpiehlfffjhoaaaGreatDoorQ2
import Derived.Test.YtpiehlfffjhoaaaGreatDoorQ1
import Derived.Laws.ResultCell
import Derived.Deep.CutBlock
import Derived.Deep.DeepCutAuto
import Derived.Deep.RegionHeld3
namespace Go.Proofs.YtpiehlfffjhoaaaGreatDoor
open Go.RowKit
def idxO {α : Type} (p : α → Bool) : List α → Int → Int
 | [], _ => -1
 | x :: r, i => if p x = true then i else idxO p r (i + 1)
theorem idxO_iff {α : Type} (p : α → Bool) : ∀ (xs : List α) (i : Int), 0 ≤ i → (0 ≤ idxO p xs i ↔ xs.any p = true) := by
 intro xs
 induction xs with
 | nil => intro i _; simp [idxO]
 | cons x r ih =>
   intro i hi
   by_cases hp : p x = true
   · simp only [idxO, List.any_cons, hp, Bool.true_or, if_true]; simpa using hi
   · simp only [idxO, List.any_cons, Bool.eq_false_iff.2 hp, Bool.false_or]; exact ih (i + 1) (by omega)
theorem idxO_any {α : Type} (p : α → Bool) (xs : List α) (i : Int) (hi : 0 ≤ i) : decide (idxO p xs i ≥ 0) = xs.any p := by
 rw [Bool.eq_iff_iff, decide_eq_true_eq]
 exact idxO_iff p xs i hi
theorem outside1_c (k lo hi : Int) (g1 g2 : Nat) (w : World) (h1 : w.cell? ⟨g1, 0, none⟩ = some (.int .i64 lo)) (h2 : w.cell? ⟨g2, 0, none⟩ = some (.int .i64 hi)) :
   Calls Tryz.prog 184 #[.int .i64 k, .pointer (some ⟨g1, 0, none⟩), .pointer (some ⟨g2, 0, none⟩)] w (RetQ (.bool (!inB k lo hi)) w) := by
 go_enter Tryz.func184, Tryz.ntmps184
 go_wp2_with (go_at_call 68; refine (within_c _ _ _ _).mono ?_; rintro e w' ⟨rfl, rfl⟩)
 go_returns
 exact RetQ.mk rfl
set_option maxRecDepth 100000 in
set_option maxHeartbeats 800000 in
theorem indexOut_c (A : Option Addr) (ps : List Int) (m d : Nat) (lo hi : Int) (g1 g2 : Nat) (hn : Hid (ps.length = m)) (hm : (m : Int) ≤ 9223372036854775807) (w : World) (hl : Blk w g1 2 #[.int .i64 lo]) (hh : Blk w g2 2 #[.int .i64 hi]) (hA : Arr w A (flat icell ps)) :
   Calls Tryz.prog 247 #[.slice A m d, .func (.func 184) #[] #[.pointer (some ⟨g1, 0, none⟩), .pointer (some ⟨g2, 0, none⟩)]] w (RetQ (.int .i64 (idxO (fun k => !inB k lo hi) ps 0)) w) := by
 have h1 : w.cell? ⟨g1, 0, none⟩ = some (.int .i64 lo) := hl.cell 0
 have h2 : w.cell? ⟨g2, 0, none⟩ = some (.int .i64 hi) := hh.cell 0
 go_enter Tryz.func247, Tryz.ntmps247
 go_wp2_with fail
 have hR := qH (show idxO (fun k => !inB k lo hi) ps 0 = idxO (fun k => !inB k lo hi) (ps.drop 0) ((0 : Nat) : Int) from rfl)
 go_loopw [8] (fun i wr => ∃ k : Nat, k ≤ m ∧ i = .int .i64 k ∧ Hid (idxO (fun k => !inB k lo hi) ps 0 = idxO (fun k => !inB k lo hi) (ps.drop k) k) ∧ wr = w) (fun i _ => m - (intOf i).toNat)
 case atStart => exact ⟨0, by omega, rfl, hR, rfl⟩
 case round =>
   clear hR
   obtain ⟨k, hk, rfl, hR, rfl⟩ := hrel
   by_cases hlt : k < m
   · obtain ⟨y, hy⟩ := get_of_lt (xs := ps) (k := k) (by rw [hn.out]; exact hlt)
     obtain ⟨ad, rfl, hab, c0⟩ := icell_at hA hy
     have hR2 := qH (hR.out.trans (by rw [drop_at hy]; rfl : _ = if (!inB y lo hi) = true then (k : Int) else idxO (fun k => !inB k lo hi) (ps.drop (k + 1)) (k + 1)))
     clear hR hy
     go_wp2_with fail
     refine (outside1_c y lo hi g1 g2 _ h1 h2).mono ?_
     rintro e w1 ⟨rfl, rfl⟩
     cases hq : (!inB y lo hi)
     · have HQ := qH hq
       clear hq
       go_wp2_with fail
       exact ⟨⟨k + 1, by omega, by go_num, qH (hR2.out.trans (by rw [HQ.out]; rfl)), True.intro⟩, by simp [intOf]; omega⟩
     · have HQ := qH hq
       clear hq
       go_wp2_with fail
       go_returns
       refine RetQ.mk (vi ?_)
       rw [hR2.out, HQ.out]; rfl
   · have hR2 := qH (hR.out.trans (by rw [List.drop_eq_nil_of_le (by rw [hn.out]; omega)]; rfl : _ = -1))
     clear hR
     go_wp2_with fail
     go_returns
     refine RetQ.mk (vi ?_)
     rw [hR2.out]
theorem containsOut_c (A : Option Addr) (ps : List Int) (m d : Nat) (lo hi : Int) (g1 g2 : Nat) (hn : Hid (ps.length = m)) (hm : (m : Int) ≤ 9223372036854775807) (w : World) (hl : Blk w g1 2 #[.int .i64 lo]) (hh : Blk w g2 2 #[.int .i64 hi]) (hA : Arr w A (flat icell ps)) :
   Calls Tryz.prog 183 #[.slice A m d, .func (.func 184) #[] #[.pointer (some ⟨g1, 0, none⟩), .pointer (some ⟨g2, 0, none⟩)]] w (RetQ (.bool (!ps.all (fun k => inB k lo hi))) w) := by
 go_enter Tryz.func183, Tryz.ntmps183
 go_wp2_with fail
 refine (indexOut_c A ps m d lo hi g1 g2 hn hm _ hl hh hA).mono ?_
 rintro e w1 ⟨rfl, rfl⟩
 go_wp2_with fail
 go_returns
 refine RetQ.mk (vb ?_)
 have h := idxO_any (fun k => !inB k lo hi) ps 0 (by omega)
 rw [List.all_eq_not_any_not, Bool.not_not]
 exact h
theorem outside_c (A : Option Addr) (ps : List Int) (m d : Nat) (lo hi : Int) (hn : Hid (ps.length = m)) (hm : (m : Int) ≤ 9223372036854775807) (w : World) (hA : Arr w A (flat icell ps)) :
   Calls Tryz.prog 116 #[.slice A m d, .int .i64 lo, .int .i64 hi] w (Ret (.bool (!ps.all (fun k => inB k lo hi))) w) := by
 have hl : Blk ((w.alloc (Obj.cells #[.int .i64 lo] 2)).alloc (Obj.cells #[.int .i64 hi] 2)) w.heap.size 2 #[Value.int .i64 lo] := (Blk.new _ _ _).alloc _
 have hh : Blk ((w.alloc (Obj.cells #[.int .i64 lo] 2)).alloc (Obj.cells #[.int .i64 hi] 2)) (w.heap.size + 1) 2 #[Value.int .i64 hi] := by
   have h := Blk.new (w.alloc (Obj.cells #[.int .i64 lo] 2)) 2 #[Value.int .i64 hi]
   simpa using h
 go_enter Tryz.func116, Tryz.ntmps116
 go_wp2_with fail
 refine (containsOut_c A ps m d lo hi _ _ hn hm _ hl hh ((hA.alloc _).alloc _)).mono ?_
 rintro e w1 ⟨rfl, rfl⟩
 go_wp2_with fail
 go_returns
 exact Ret.mk rfl (bl_alloc (bl_alloc (Below.refl _ _) _) _)
theorem arr_blkO {w : World} {g : Nat} {t : TypeId} {C : Array Value} (h : Blk w g t C) : Arr w (some ⟨g, 0, none⟩) C.toList := fun _ => by
 refine ⟨_, rfl, h.lt, fun j u hu => ?_⟩
 have hadd : (⟨g, 0, none⟩ : Addr).add j = ⟨g, j, none⟩ := by unfold Addr.add; split <;> simp_all
 rw [hadd, h.cell j]
 simpa using hu
def footB (f : Foot) : Bool := inB f.length 500 5000 && inB f.ball 500 5000 && inB f.instep 500 5000 && inB f.heel 500 5000
def OutMe (f : Foot) (w : World) (e : Ending) (w' : World) : Prop := ∃ g, e = .returned (.slice (some ⟨g, 0, none⟩) 4 4) ∧ Blk w' g 2 #[Value.int .i64 f.length, Value.int .i64 f.ball, Value.int .i64 f.instep, Value.int .i64 f.heel] ∧ Below w.heap.size w w'
theorem measures_c (f : Foot) (w : World) : Calls Tryz.prog 94 #[.agg #[.int .i64 f.length, .int .i64 f.ball, .int .i64 f.instep, .int .i64 f.heel]] w (OutMe f w) := by
 go_enter Tryz.func94, Tryz.ntmps94
 go_wp2_with fail
 go_returns
 exact ⟨_, rfl, by have h := Blk.new (w.alloc (Obj.cells #[.int .i64 f.length, .int .i64 f.ball, .int .i64 f.instep, .int .i64 f.heel] 27)) 2 #[Value.int .i64 f.length, Value.int .i64 f.ball, Value.int .i64 f.instep, Value.int .i64 f.heel]; simpa using h, bl_alloc (bl_alloc (Below.refl _ _) _) _⟩
theorem ValidFoot_c (f : Foot) (w : World) : Calls Tryz.prog 60 #[.agg #[.int .i64 f.length, .int .i64 f.ball, .int .i64 f.instep, .int .i64 f.heel]] w (Ret (.bool (footB f)) w) := by
 have hf : footB f = [f.length, f.ball, f.instep, f.heel].all (fun k => inB k 500 5000) := by simp [footB, Bool.and_assoc]
 have HF := qH hf
 clear hf
 go_enter Tryz.func60, Tryz.ntmps60
 go_wp2_with fail
 refine (measures_c f _).mono ?_
 rintro e W ⟨g, rfl, hB, hb⟩
 have hv := bl_trans (bl_alloc (Below.refl w.heap.size w) _) hb
 clear hb
 go_wp2_with fail
 refine (outside_c (some ⟨g, 0, none⟩) [f.length, f.ball, f.instep, f.heel] 4 4 500 5000 (qH rfl) (by omega) _ (arr_blkO hB)).mono ?_
 rintro e W2 ⟨rfl, hb⟩
 replace hv := bl_trans hv hb
 clear hb hB
 go_wp2_with fail
 go_returns
 exact Ret.mk (vb (by rw [HF.out]; simp)) hv
theorem l02One_c (n : Int) (w : World) : Calls Tryz.prog 148 #[.int .i64 n] w (RetQ (.bool (inB n 500 5000)) w) := by
 go_enter Tryz.func148, Tryz.ntmps148
 go_wp2_with fail
 refine (l00In_c _ _ _ _).mono ?_
 rintro e w' ⟨rfl, rfl⟩
 go_wp2_with fail
 go_returns
 exact RetQ.mk rfl
set_option maxHeartbeats 2000000 in
theorem l02Foot_c (f : Foot) (w : World) : Calls Tryz.prog 91 #[.agg #[.int .i64 f.length, .int .i64 f.ball, .int .i64 f.instep, .int .i64 f.heel]] w (Ret (.bool (footB f)) w) := by
 have hf : footB f = (inB f.length 500 5000 && inB f.ball 500 5000 && inB f.instep 500 5000 && inB f.heel 500 5000) := rfl
 have H1 := fun w => l02One_c f.length w
 have H2 := fun w => l02One_c f.ball w
 have H3 := fun w => l02One_c f.instep w
 have H4 := fun w => l02One_c f.heel w
 obtain ⟨b1, e1⟩ : ∃ z, z = inB f.length 500 5000 := ⟨_, rfl⟩
 obtain ⟨b2, e2⟩ : ∃ z, z = inB f.ball 500 5000 := ⟨_, rfl⟩
 obtain ⟨b3, e3⟩ : ∃ z, z = inB f.instep 500 5000 := ⟨_, rfl⟩
 obtain ⟨b4, e4⟩ : ∃ z, z = inB f.heel 500 5000 := ⟨_, rfl⟩
 rw [← e1] at H1 hf
 rw [← e2] at H2 hf
 rw [← e3] at H3 hf
 rw [← e4] at H4 hf
 replace H1 := qH H1
 replace H2 := qH H2
 replace H3 := qH H3
 replace H4 := qH H4
 have HP := qH hf
 clear hf e1 e2 e3 e4
 obtain ⟨W, hW⟩ : ∃ W, W = w.alloc (Obj.cells #[.int .i64 f.length, .int .i64 f.ball, .int .i64 f.instep, .int .i64 f.heel] 27) := ⟨_, rfl⟩
 obtain ⟨g, hg⟩ : ∃ g, g = w.heap.size := ⟨_, rfl⟩
 have hv : Below w.heap.size w W := by rw [hW]; exact bl_alloc (Below.refl _ _) _
 have hB : Blk W g 27 #[.int .i64 f.length, .int .i64 f.ball, .int .i64 f.instep, .int .i64 f.heel] := by rw [hW, hg]; exact Blk.new _ _ _
 have HW := qH hW
 have HG := qH hg
 clear hW hg
 obtain ⟨k0, k1, k2, k3⟩ := qC4 hB
 clear hB
 go_enter Tryz.func91, Tryz.ntmps91
 go_upto_region 1 with fail
 rw [← HW.out, ← HG.out]
 clear HW HG
 cases b1
 · skip
   go_wp2_with fail
   refine (H1.out _).mono ?_
   rintro e w' ⟨rfl, hq⟩
   rw [hq]
   clear hq w'
   go_wp2_with fail
   go_returns
   exact Ret.mk (vb (by rw [HP.out]; rfl)) hv
 cases b2
 · skip
   go_wp2_with fail
   refine (H1.out _).mono ?_
   rintro e w' ⟨rfl, hq⟩
   rw [hq]
   clear hq w'
   go_wp2_with fail
   refine (H2.out _).mono ?_
   rintro e w' ⟨rfl, hq⟩
   rw [hq]
   clear hq w'
   go_wp2_with fail
   go_returns
   exact Ret.mk (vb (by rw [HP.out]; rfl)) hv
 cases b3
 · skip
   go_wp2_with fail
   refine (H1.out _).mono ?_
   rintro e w' ⟨rfl, hq⟩
   rw [hq]
   clear hq w'
   go_wp2_with fail
   refine (H2.out _).mono ?_
   rintro e w' ⟨rfl, hq⟩
   rw [hq]
   clear hq w'
   go_wp2_with fail
   refine (H3.out _).mono ?_
   rintro e w' ⟨rfl, hq⟩
   rw [hq]
   clear hq w'
   go_wp2_with fail
   go_returns
   exact Ret.mk (vb (by rw [HP.out]; rfl)) hv
 cases b4
 · skip
   go_wp2_with fail
   refine (H1.out _).mono ?_
   rintro e w' ⟨rfl, hq⟩
   rw [hq]
   clear hq w'
   go_wp2_with fail
   refine (H2.out _).mono ?_
   rintro e w' ⟨rfl, hq⟩
   rw [hq]
   clear hq w'
   go_wp2_with fail
   refine (H3.out _).mono ?_
   rintro e w' ⟨rfl, hq⟩
   rw [hq]
   clear hq w'
   go_wp2_with fail
   refine (H4.out _).mono ?_
   rintro e w' ⟨rfl, hq⟩
   rw [hq]
   clear hq w'
   go_wp2_with fail
   go_returns
   exact Ret.mk (vb (by rw [HP.out]; rfl)) hv
 · skip
   go_wp2_with fail
   refine (H1.out _).mono ?_
   rintro e w' ⟨rfl, hq⟩
   rw [hq]
   clear hq w'
   go_wp2_with fail
   refine (H2.out _).mono ?_
   rintro e w' ⟨rfl, hq⟩
   rw [hq]
   clear hq w'
   go_wp2_with fail
   refine (H3.out _).mono ?_
   rintro e w' ⟨rfl, hq⟩
   rw [hq]
   clear hq w'
   go_wp2_with fail
   refine (H4.out _).mono ?_
   rintro e w' ⟨rfl, hq⟩
   rw [hq]
   clear hq w'
   go_wp2_with fail
   go_returns
   exact Ret.mk (vb (by rw [HP.out]; rfl)) hv
def Last.foot (x : Last) : Foot := ⟨x.length, x.ball, x.instep, x.heel⟩
def lastB (x : Last) : Bool := nameB x.name && footB x.foot && inB x.pitch 0 1000
def lessB (a b : ByteArray) : Bool := Op.bytesLess a.toList b.toList
def lasGo : Option ByteArray → List Last → Bool
 | _, [] => true
 | none, x :: r => lastB x && lasGo (some x.name) r
 | some p, x :: r => lastB x && (lessB p x.name && lasGo (some x.name) r)
def lasB (xs : List Last) : Bool := lasGo none xs && decide (xs.length ≤ 30)
def prevL (xs : List Last) (k : Nat) : Option ByteArray := if k = 0 then none else xs[k - 1]?.map (·.name)
theorem prevL_succ {xs : List Last} {k : Nat} {x : Last} (hx : xs[k]? = some x) : prevL xs (k + 1) = some x.name := by unfold prevL; simp [hx]
theorem las_first {xs : List Last} {x : Last} (hx : xs[0]? = some x) : lasGo (prevL xs 0) (xs.drop 0) = (lastB x && lasGo (prevL xs 1) (xs.drop 1)) := by
 rw [prevL_succ hx, drop_at hx]; rfl
theorem las_next {xs : List Last} {j : Nat} {y x : Last} (hy : xs[j]? = some y) (hx : xs[j + 1]? = some x) : lasGo (prevL xs (j + 1)) (xs.drop (j + 1)) = (lastB x && (lessB y.name x.name && lasGo (prevL xs (j + 1 + 1)) (xs.drop (j + 1 + 1)))) := by
 rw [prevL_succ hy, prevL_succ hx, drop_at hx]; rfl
theorem las_bad {xs : List Last} {k : Nat} {x : Last} (hx : xs[k]? = some x) (hb : lastB x = false) : lasGo (prevL xs k) (xs.drop k) = false := by
 rw [drop_at hx]
 cases prevL xs k <;> simp [lasGo, hb]
theorem las_end {xs : List Last} {k : Nat} (h : xs.length ≤ k) : lasGo (prevL xs k) (xs.drop k) = true := by
 rw [List.drop_eq_nil_of_le h]; cases prevL xs k <;> rfl
theorem below_rowL {a w : World} {g : Nat} (h : Below a.heap.size a w) (hg : a.heap.size ≤ g) (cs : Array Value) : Below a.heap.size a (w.setRow g cs) :=
 bl_grown h (⟨rfl, rfl, rfl, by simp, fun i _ hne => setRow_other w g i cs (fun e => hne (by rw [e]))⟩ : w.grownBy (w.setRow g cs) (some g)) (fun k e => by injection e with e; omega)
set_option maxHeartbeats 2000000 in
theorem foot_c (x : Last) (w : World) : Calls Tryz.prog 129 #[.agg #[.string x.name, .int .i64 x.length, .int .i64 x.ball, .int .i64 x.instep, .int .i64 x.heel, .int .i64 x.pitch]] w (Ret (.agg #[.int .i64 x.length, .int .i64 x.ball, .int .i64 x.instep, .int .i64 x.heel]) w) := by
 obtain ⟨W, hW⟩ : ∃ W, W = (w.alloc (Obj.cells #[.string x.name, .int .i64 x.length, .int .i64 x.ball, .int .i64 x.instep, .int .i64 x.heel, .int .i64 x.pitch] 100)).alloc (Obj.cells #[.int .i64 0, .int .i64 0, .int .i64 0, .int .i64 0] 27) := ⟨_, rfl⟩
 obtain ⟨g, hg⟩ : ∃ g, g = w.heap.size := ⟨_, rfl⟩
 obtain ⟨gr, hgr⟩ : ∃ g, g = w.heap.size + 1 := ⟨_, rfl⟩
 have hv : Below w.heap.size w W := by rw [hW]; exact bl_alloc (bl_alloc (Below.refl _ _) _) _
 have hB : Blk W g 100 #[.string x.name, .int .i64 x.length, .int .i64 x.ball, .int .i64 x.instep, .int .i64 x.heel, .int .i64 x.pitch] := by rw [hW, hg]; exact (Blk.new _ _ _).alloc _
 have hR : Hid (Blk W gr 27 #[.int .i64 0, .int .i64 0, .int .i64 0, .int .i64 0]) := qH (by
   have h := Blk.new (w.alloc (Obj.cells #[.string x.name, .int .i64 x.length, .int .i64 x.ball, .int .i64 x.instep, .int .i64 x.heel, .int .i64 x.pitch] 100)) 27 #[Value.int .i64 0, Value.int .i64 0, Value.int .i64 0, Value.int .i64 0]
   rw [World.size_alloc] at h
   rw [hW, hgr]; exact h)
 have hge : w.heap.size ≤ gr := by omega
 have HW := qH hW
 have HG := qH hg
 have HGR := qH hgr
 clear hW hg hgr
 obtain ⟨k0, k1, k2, k3, k4, k5⟩ := qC6 hB
 clear hB
 go_enter Tryz.func129, Tryz.ntmps129
 go_upto_region 1 with fail
 rw [← HW.out, ← HGR.out, ← HG.out]
 clear HW HG HGR
 go_wp2_with (refine wpList_store_row rfl 27 _ _ rfl gr #[.int .i64 x.length, .int .i64 x.ball, .int .i64 x.instep, .int .i64 x.heel] rfl rfl 27 _ hR.out (by kernel_rfl) rfl (by simp [Value.oneCell']) ?_)
 try simp only [Exit.inBlock, Exit.then]
 refine bodyPost_ret (results_cell_row (P := Tryz.prog) rfl _ _ gr 27 #[Value.int .i64 x.length, Value.int .i64 x.ball, Value.int .i64 x.instep, Value.int .i64 x.heel] (0, 0) _ rfl ?_ Tryz.underlying27 rfl (by kernel_rfl)) rfl ?_
 · exact setRow_heap _ _ _ _ _ _ hR.out
 · exact Ret.mk rfl (below_rowL hv hge _)
set_option maxHeartbeats 2000000 in
theorem l04Foot_c (x : Last) (w : World) : Calls Tryz.prog 213 #[.agg #[.string x.name, .int .i64 x.length, .int .i64 x.ball, .int .i64 x.instep, .int .i64 x.heel, .int .i64 x.pitch]] w (Ret (.agg #[.int .i64 x.length, .int .i64 x.ball, .int .i64 x.instep, .int .i64 x.heel]) w) := by
 obtain ⟨W, hW⟩ : ∃ W, W = (w.alloc (Obj.cells #[.string x.name, .int .i64 x.length, .int .i64 x.ball, .int .i64 x.instep, .int .i64 x.heel, .int .i64 x.pitch] 100)).alloc (Obj.cells #[.int .i64 0, .int .i64 0, .int .i64 0, .int .i64 0] 27) := ⟨_, rfl⟩
 obtain ⟨g, hg⟩ : ∃ g, g = w.heap.size := ⟨_, rfl⟩
 obtain ⟨gr, hgr⟩ : ∃ g, g = w.heap.size + 1 := ⟨_, rfl⟩
 have hv : Below w.heap.size w W := by rw [hW]; exact bl_alloc (bl_alloc (Below.refl _ _) _) _
 have hB : Blk W g 100 #[.string x.name, .int .i64 x.length, .int .i64 x.ball, .int .i64 x.instep, .int .i64 x.heel, .int .i64 x.pitch] := by rw [hW, hg]; exact (Blk.new _ _ _).alloc _
 have hR : Hid (Blk W gr 27 #[.int .i64 0, .int .i64 0, .int .i64 0, .int .i64 0]) := qH (by
   have h := Blk.new (w.alloc (Obj.cells #[.string x.name, .int .i64 x.length, .int .i64 x.ball, .int .i64 x.instep, .int .i64 x.heel, .int .i64 x.pitch] 100)) 27 #[Value.int .i64 0, Value.int .i64 0, Value.int .i64 0, Value.int .i64 0]
   rw [World.size_alloc] at h
   rw [hW, hgr]; exact h)
 have hge : w.heap.size ≤ gr := by omega
 have HW := qH hW
 have HG := qH hg
 have HGR := qH hgr
 clear hW hg hgr
 obtain ⟨k0, k1, k2, k3, k4, k5⟩ := qC6 hB
 clear hB
 go_enter Tryz.func213, Tryz.ntmps213
 go_upto_region 1 with fail
 rw [← HW.out, ← HGR.out, ← HG.out]
 clear HW HG HGR
 go_wp2_with (refine wpList_store_row rfl 27 _ _ rfl gr #[.int .i64 x.length, .int .i64 x.ball, .int .i64 x.instep, .int .i64 x.heel] rfl rfl 27 _ hR.out (by kernel_rfl) rfl (by simp [Value.oneCell']) ?_)
 try simp only [Exit.inBlock, Exit.then]
 refine bodyPost_ret (results_cell_row (P := Tryz.prog) rfl _ _ gr 27 #[Value.int .i64 x.length, Value.int .i64 x.ball, Value.int .i64 x.instep, Value.int .i64 x.heel] (0, 0) _ rfl ?_ Tryz.underlying27 rfl (by kernel_rfl)) rfl ?_
 · exact setRow_heap _ _ _ _ _ _ hR.out
 · exact Ret.mk rfl (below_rowL hv hge _)
set_option maxHeartbeats 2000000 in
theorem validLast_c (x : Last) (hs : x.name.size ≤ 9223372036854775807) (w : World) : Calls Tryz.prog 117 #[.agg #[.string x.name, .int .i64 x.length, .int .i64 x.ball, .int .i64 x.instep, .int .i64 x.heel, .int .i64 x.pitch]] w (Ret (.bool (lastB x)) w) := by
 have hP : lastB x = (nameB x.name && footB x.foot && inB x.pitch 0 1000) := rfl
 have H1 := fun w => IsName_c x.name hs w
 have H2 := fun w => foot_c x w
 have H3 := fun w => ValidFoot_c x.foot w
 have H4 := fun w => within_c x.pitch 0 1000 w
 obtain ⟨b1, e1⟩ : ∃ z, z = nameB x.name := ⟨_, rfl⟩
 obtain ⟨b2, e2⟩ : ∃ z, z = footB x.foot := ⟨_, rfl⟩
 obtain ⟨b3, e3⟩ : ∃ z, z = inB x.pitch 0 1000 := ⟨_, rfl⟩
 rw [← e1] at H1 hP
 rw [← e2] at H3 hP
 rw [← e3] at H4 hP
 unfold Last.foot at H3
 replace H1 := qH H1
 replace H2 := qH H2
 replace H3 := qH H3
 replace H4 := qH H4
 have HP := qH hP
 clear hP e1 e2 e3 hs
 obtain ⟨W, hW⟩ : ∃ W, W = w.alloc (Obj.cells #[.string x.name, .int .i64 x.length, .int .i64 x.ball, .int .i64 x.instep, .int .i64 x.heel, .int .i64 x.pitch] 100) := ⟨_, rfl⟩
 obtain ⟨g, hg⟩ : ∃ g, g = w.heap.size := ⟨_, rfl⟩
 have hv : Below w.heap.size w W := by rw [hW]; exact bl_alloc (Below.refl _ _) _
 have hB : Hid (Blk W g 100 #[.string x.name, .int .i64 x.length, .int .i64 x.ball, .int .i64 x.instep, .int .i64 x.heel, .int .i64 x.pitch]) := qH (by rw [hW, hg]; exact Blk.new _ _ _)
 have HW := qH hW
 have HG := qH hg
 clear hW hg
 obtain ⟨k0, k1, k2, k3, k4, k5⟩ := qC6 hB.out
 go_enter Tryz.func117, Tryz.ntmps117
 go_upto_region 1 with fail
 rw [← HW.out, ← HG.out]
 clear HW HG
 cases b1
 · skip
   go_wp2_with fail
   refine (H1.out _).mono ?_
   rintro e w' ⟨rfl, hq⟩
   rw [hq]
   clear hq w'
   go_wp2_with fail
   go_returns
   exact Ret.mk (vb (by rw [HP.out]; rfl)) hv
 cases b2
 · skip
   go_wp2_with fail
   refine (H1.out _).mono ?_
   rintro e w' ⟨rfl, hq⟩
   rw [hq]
   clear hq w'
   go_wp2_with fail
   refine (H2.out _).mono ?_
   rintro e W2 ⟨rfl, hb⟩
   replace hv := bl_trans hv hb
   replace hB := qH (hB.out.below hb)
   clear hb
   clear k0 k1 k2 k3 k4 k5
   obtain ⟨k0, k1, k2, k3, k4, k5⟩ := qC6 hB.out
   go_wp2_with fail
   refine (H3.out _).mono ?_
   rintro e W3 ⟨rfl, hb⟩
   replace hv := bl_trans hv hb
   replace hB := qH (hB.out.below hb)
   clear hb
   clear k0 k1 k2 k3 k4 k5
   obtain ⟨k0, k1, k2, k3, k4, k5⟩ := qC6 hB.out
   go_wp2_with fail
   go_returns
   exact Ret.mk (vb (by rw [HP.out]; rfl)) hv
 · skip
   go_wp2_with fail
   refine (H1.out _).mono ?_
   rintro e w' ⟨rfl, hq⟩
   rw [hq]
   clear hq w'
   go_wp2_with fail
   refine (H2.out _).mono ?_
   rintro e W2 ⟨rfl, hb⟩
   replace hv := bl_trans hv hb
   replace hB := qH (hB.out.below hb)
   clear hb
   clear k0 k1 k2 k3 k4 k5
   obtain ⟨k0, k1, k2, k3, k4, k5⟩ := qC6 hB.out
   go_wp2_with fail
   refine (H3.out _).mono ?_
   rintro e W3 ⟨rfl, hb⟩
   replace hv := bl_trans hv hb
   replace hB := qH (hB.out.below hb)
   clear hb
   clear k0 k1 k2 k3 k4 k5
   obtain ⟨k0, k1, k2, k3, k4, k5⟩ := qC6 hB.out
   go_wp2_with fail
   refine (H4.out _).mono ?_
   rintro e w' ⟨rfl, hq⟩
   rw [hq]
   clear hq w'
   go_wp2_with fail
   go_returns
   exact Ret.mk (vb (by rw [HP.out]; rfl)) hv
set_option maxHeartbeats 2000000 in
theorem l04One_c (x : Last) (hs : x.name.size ≤ 9223372036854775807) (w : World) : Calls Tryz.prog 149 #[.agg #[.string x.name, .int .i64 x.length, .int .i64 x.ball, .int .i64 x.instep, .int .i64 x.heel, .int .i64 x.pitch]] w (Ret (.bool (lastB x)) w) := by
 have hP : lastB x = (nameB x.name && footB x.foot && inB x.pitch 0 1000) := rfl
 have H1 := fun w => SIsName_c x.name hs w
 have H2 := fun w => l04Foot_c x w
 have H3 := fun w => l02Foot_c x.foot w
 have H4 := fun w => l00In_c x.pitch 0 1000 w
 obtain ⟨b1, e1⟩ : ∃ z, z = nameB x.name := ⟨_, rfl⟩
 obtain ⟨b2, e2⟩ : ∃ z, z = footB x.foot := ⟨_, rfl⟩
 obtain ⟨b3, e3⟩ : ∃ z, z = inB x.pitch 0 1000 := ⟨_, rfl⟩
 rw [← e1] at H1 hP
 rw [← e2] at H3 hP
 rw [← e3] at H4 hP
 unfold Last.foot at H3
 replace H1 := qH H1
 replace H2 := qH H2
 replace H3 := qH H3
 replace H4 := qH H4
 have HP := qH hP
 clear hP e1 e2 e3 hs
 obtain ⟨W, hW⟩ : ∃ W, W = w.alloc (Obj.cells #[.string x.name, .int .i64 x.length, .int .i64 x.ball, .int .i64 x.instep, .int .i64 x.heel, .int .i64 x.pitch] 100) := ⟨_, rfl⟩
 obtain ⟨g, hg⟩ : ∃ g, g = w.heap.size := ⟨_, rfl⟩
 have hv : Below w.heap.size w W := by rw [hW]; exact bl_alloc (Below.refl _ _) _
 have hB : Hid (Blk W g 100 #[.string x.name, .int .i64 x.length, .int .i64 x.ball, .int .i64 x.instep, .int .i64 x.heel, .int .i64 x.pitch]) := qH (by rw [hW, hg]; exact Blk.new _ _ _)
 have HW := qH hW
 have HG := qH hg
 clear hW hg
 obtain ⟨k0, k1, k2, k3, k4, k5⟩ := qC6 hB.out
 go_enter Tryz.func149, Tryz.ntmps149
 go_upto_region 1 with fail
 rw [← HW.out, ← HG.out]
 clear HW HG
 cases b1
 · skip
   go_wp2_with fail
   refine (H1.out _).mono ?_
   rintro e w' ⟨rfl, hq⟩
   rw [hq]
   clear hq w'
   go_wp2_with fail
   go_returns
   exact Ret.mk (vb (by rw [HP.out]; rfl)) hv
 cases b2
 · skip
   go_wp2_with fail
   refine (H1.out _).mono ?_
   rintro e w' ⟨rfl, hq⟩
   rw [hq]
   clear hq w'
   go_wp2_with fail
   refine (H2.out _).mono ?_
   rintro e W2 ⟨rfl, hb⟩
   replace hv := bl_trans hv hb
   replace hB := qH (hB.out.below hb)
   clear hb
   clear k0 k1 k2 k3 k4 k5
   obtain ⟨k0, k1, k2, k3, k4, k5⟩ := qC6 hB.out
   go_wp2_with fail
   refine (H3.out _).mono ?_
   rintro e W3 ⟨rfl, hb⟩
   replace hv := bl_trans hv hb
   replace hB := qH (hB.out.below hb)
   clear hb
   clear k0 k1 k2 k3 k4 k5
   obtain ⟨k0, k1, k2, k3, k4, k5⟩ := qC6 hB.out
   go_wp2_with fail
   go_returns
   exact Ret.mk (vb (by rw [HP.out]; rfl)) hv
 · skip
   go_wp2_with fail
   refine (H1.out _).mono ?_
   rintro e w' ⟨rfl, hq⟩
   rw [hq]
   clear hq w'
   go_wp2_with fail
   refine (H2.out _).mono ?_
   rintro e W2 ⟨rfl, hb⟩
   replace hv := bl_trans hv hb
   replace hB := qH (hB.out.below hb)
   clear hb
   clear k0 k1 k2 k3 k4 k5
   obtain ⟨k0, k1, k2, k3, k4, k5⟩ := qC6 hB.out
   go_wp2_with fail
   refine (H3.out _).mono ?_
   rintro e W3 ⟨rfl, hb⟩
   replace hv := bl_trans hv hb
   replace hB := qH (hB.out.below hb)
   clear hb
   clear k0 k1 k2 k3 k4 k5
   obtain ⟨k0, k1, k2, k3, k4, k5⟩ := qC6 hB.out
   go_wp2_with fail
   refine (H4.out _).mono ?_
   rintro e w' ⟨rfl, hq⟩
   rw [hq]
   clear hq w'
   go_wp2_with fail
   go_returns
   exact Ret.mk (vb (by rw [HP.out]; rfl)) hv
end Go.Proofs.YtpiehlfffjhoaaaGreatDoor
