/- Soles: turned, told as text, the groove; the reference's asking functions. -/
import Derived.Test.YtopbiihiogbhiaaSolQ
import Derived.Test.YtopbiihiogbhiaaOwn
import Derived.Test.YtopbiihiogbhiaaShelf
import Derived.Test.YtopbiihiogbhiaaSrc
import Derived.Lib.Join
import Derived.Deep.AppendLies
import Derived.Deep.RegionHeld
import Derived.Deep.CutBlock
import Derived.Deep.DeepCutAuto
namespace Go.Proofs.Ytopbiihiogbhiaa
open Go.RowKit

def OutTn (l : List Int) (co : Int) (w : World) (e : Ending) (w' : World) : Prop := ∃ B c, e = .returned (.tuple #[.agg #[.slice B l.length c], .int .i64 co]) ∧ w'.ownsRow w.heap.size 2 1 (.slice B l.length c) l.length (flat icell l) ∧ Below w.heap.size w w'
theorem own_setCells {g n c base e size : Nat} : ∀ (vs cs : List Value) (o : Nat) (w : World), w.ownsRow base e size (.slice (some ⟨g, 0, none⟩) n c) n cs → (w.setCells g o vs).ownsRow base e size (.slice (some ⟨g, 0, none⟩) n c) n (setMany cs o vs) := by
  intro vs
  induction vs with
  | nil => intro cs o w h; exact h
  | cons v r ih =>
    intro cs o w h
    exact ih _ _ _ (h.stored o v).1
theorem blk_setCells {g b : Nat} {t : TypeId} {cs : Array Value} (hne : g ≠ b) : ∀ (vs : List Value) (o : Nat) (w : World), Blk w g t cs → Blk (w.setCells b o vs) g t cs := by
  intro vs
  induction vs with
  | nil => intro o w h; exact h
  | cons v r ih => intro o w h; exact ih _ _ (h.far hne v)
theorem bl_setCells {a : World} {b : Nat} (hb : a.heap.size ≤ b) : ∀ (vs : List Value) (o : Nat) (w : World), Below a.heap.size a w → Below a.heap.size a (w.setCells b o vs) := by
  intro vs
  induction vs with
  | nil => intro o w h; exact h
  | cons v r ih => intro o w h; exact ih _ _ (bl_set h hb v)
theorem setMany_all {cs vs : List Value} (h : vs.length = cs.length) : setMany cs 0 vs = vs := by
  rw [setMany_eq _ _ _ (by omega)]
  simp [h]
theorem icell_map (l : List Int) : flat icell l = l.map (Value.int .i64) := by
  induction l with
  | nil => rfl
  | cons a r ih => simp only [flat, List.flatMap_cons, List.map_cons] at ih ⊢; rw [ih]; rfl
set_option maxRecDepth 100000 in
set_option maxHeartbeats 1000000 in
theorem SValidStuffs_c (A : Option Addr) (xs : List Stuff) (n c : Nat) (hn : Hid (xs.length = n)) (hm : (n : Int) ≤ 1048576) (hs : Hid (∀ x ∈ xs, x.name.size ≤ 9223372036854775807)) (w : World) (hA : Arr w A (flat Stuff.cells xs)) : Calls Try.prog 29 #[.slice A n c] w (Ret (.bool (stuffsB xs)) w) := by
  go_enter Try.func29, Try.ntmps29
  go_wp2_with fail
  refine (l17Ok_c A xs n c hn hm hs w hA).mono ?_
  rintro e W ⟨rfl, hb⟩
  go_wp2_with fail
  go_returns
  exact Ret.mk rfl hb
set_option maxRecDepth 100000 in
set_option maxHeartbeats 1000000 in
theorem SValidSole_c (A : Option Addr) (xs : List Stuff) (n c : Nat) (hn : Hid (xs.length = n)) (hm : (n : Int) ≤ 1048576) (hs : Hid (∀ x ∈ xs, x.name.size ≤ 9223372036854775807)) (B : Option Addr) (ps : List Int) (m d : Nat) (hp : Hid (ps.length = m)) (hm' : (m : Int) ≤ 1048576) (w : World) (hA : Arr w A (flat Stuff.cells xs)) (hB : Arr w B (flat icell ps)) : Calls Try.prog 27 #[.slice A n c, .agg #[.slice B m d]] w (Ret (.bool (soleB xs ps)) w) := by
  go_enter Try.func27, Try.ntmps27
  go_wp2_with fail
  refine (l17Sole_c A xs n c hn hm hs w.heap.size B ps m d hp hm' _ (Blk.new _ _ _) (hA.alloc _) (hB.alloc _)).mono ?_
  rintro e W ⟨rfl, hb⟩
  go_wp2_with fail
  go_returns
  exact Ret.mk rfl (bl_trans (bl_alloc (Below.refl _ _) _) hb)
/-! ### The groove -/
def rGroove (xs : List Stuff) (ps : List Int) (sh : Int) : Array Value :=
  if soleB xs ps = true then (if inB sh 0 100 = true then #[.int .i64 (thAt xs ps (ps.length - 1) * sh / 100), .int .i64 0] else #[.int .i64 0, .int .i64 2]) else #[.int .i64 0, .int .i64 1]
theorem rGroove_form (xs : List Stuff) (ps : List Int) (sh : Int) : ∃ ra rb : Int, rGroove xs ps sh = #[.int .i64 ra, .int .i64 rb] := by
  unfold rGroove
  split
  · split <;> exact ⟨_, _, rfl⟩
  · exact ⟨_, _, rfl⟩
theorem groove_at {xs : List Stuff} {ps : List Int} (h : soleB xs ps = true) : ∃ (q kk : Nat) (x : Stuff), ps.length = q + 1 ∧ ps[q]? = some (kk : Int) ∧ xs[kk]? = some x ∧ kk < xs.length ∧ 0 ≤ x.thick ∧ x.thick ≤ 10000 ∧ thAt xs ps q = x.thick := by
  obtain ⟨p1, p2, p3, p4⟩ := sole_parts h
  obtain ⟨k, hk⟩ := get_of_lt (xs := ps) (k := ps.length - 1) (by omega)
  obtain ⟨k0, k1⟩ := p4 k (List.mem_of_getElem? hk)
  obtain ⟨kk, rfl⟩ := Int.eq_ofNat_of_zero_le k0
  obtain ⟨x, hx⟩ := get_of_lt (xs := xs) (k := kk) (by omega)
  have hb := (few_stuff p1).1 x (List.mem_of_getElem? hx)
  refine ⟨ps.length - 1, kk, x, by omega, hk, hx, by omega, hb.1, hb.2, ?_⟩
  unfold thAt
  rw [hk]
  simp only [Int.toNat_natCast]
  rw [hx]
theorem mul_nn {a b : Int} (h0 : 0 ≤ a) (h1 : a ≤ 10000) (h2 : 0 ≤ b) (h3 : b ≤ 100) : 0 ≤ a * b ∧ a * b ≤ 1000000 := by
  refine ⟨Int.mul_nonneg h0 h2, ?_⟩
  calc a * b ≤ 10000 * b := Int.mul_le_mul_of_nonneg_right h1 h2
    _ ≤ 10000 * 100 := Int.mul_le_mul_of_nonneg_left h3 (by omega)
set_option maxRecDepth 100000 in
set_option maxHeartbeats 2000000 in
theorem GrooveDepth_c (A : Option Addr) (xs : List Stuff) (n c : Nat) (hn : Hid (xs.length = n)) (hm : (n : Int) ≤ 1048576) (hs : Hid (∀ x ∈ xs, x.name.size ≤ 9223372036854775807)) (hnc : (n : Int) ≤ c) (B : Option Addr) (ps : List Int) (m d : Nat) (hp : Hid (ps.length = m)) (hm' : (m : Int) ≤ 1048576) (sh : Int) (w : World) (hA : Arr w A (flat Stuff.cells xs)) (hB : Arr w B (flat icell ps)) :
    Calls Try.prog 21 #[.slice A n c, .agg #[.slice B m d], .int .i64 sh] w (RetT (rGroove xs ps sh) w) := by
  go_enter Try.func21, Try.ntmps21
  go_wp2_with fail
  refine (ValidSole_c A xs n c hn hm hs hnc B ps m d hp hm' _ (hA.alloc _) (hB.alloc _)).mono ?_
  rintro e W ⟨rfl, hb⟩
  have hv : Below w.heap.size w W := bl_trans (bl_alloc (Below.refl _ _) _) hb
  have k0 : W.cell? ⟨w.heap.size, 0, none⟩ = some (.slice B m d) := ((Blk.new w 27 #[Value.slice B m d]).below hb).cell 0
  cases hso : soleB xs ps
  · have HS := Lib.hid hso
    clear hso
    go_wp2_with fail
    go_returns
    exact RetT.mk (by rw [rGroove, HS.out]; rfl) hv
  · have HS := Lib.hid hso
    obtain ⟨q, kk, x, hq, hpk, hxk, hkl, t0, t1, hth⟩ := groove_at hso
    clear hso
    cases hi : inB sh 0 100
    · have HI := Lib.hid hi
      have hin := fun w => within_c sh 0 100 w
      rw [hi] at hin
      replace hin := Lib.hid hin
      clear hi
      go_wp2_with fail
      refine (hin.out _).mono ?_
      rintro e w' ⟨rfl, rfl⟩
      go_wp2_with fail
      go_returns
      exact RetT.mk (by rw [rGroove, HS.out, HI.out]; rfl) hv
    · have HI := Lib.hid hi
      obtain ⟨h0, h1⟩ := inB_iff.1 hi
      have hin := fun w => within_c sh 0 100 w
      rw [hi] at hin
      replace hin := Lib.hid hin
      obtain ⟨bd, rfl, hbb, d0⟩ := icell_at (hB.below hv) hpk
      obtain ⟨ad, rfl, hab, c0, c1, c2, c3, c4⟩ := Stuff.at_ (hA.below hv) hxk
      have hmq : m = q + 1 := by have := hp.out; omega
      have hbd := mul_nn t0 t1 h0 h1
      have HTH := Lib.hid (show rGroove xs ps sh = #[.int .i64 (x.thick * sh / 100), .int .i64 0] by
        unfold rGroove
        rw [if_pos HS.out, if_pos HI.out, hq, Nat.add_sub_cancel, hth])
      have hn2 : (kk : Int) < (n : Int) := by have := hn.out; omega
      have hn3 : (0 : Int) ≤ (kk : Int) := by omega
      have hq1 : ((q + 1 : Nat) : Int) - 1 = (q : Int) := by omega
      have hq2 : (0 : Int) ≤ (q : Int) := by omega
      have hq3 : (q : Int) < ((q + 1 : Nat) : Int) := by omega
      subst hmq
      clear hi hpk hxk hkl hth hq
      go_wp2_with fail
      refine (hin.out _).mono ?_
      rintro e w' ⟨rfl, rfl⟩
      go_wp2_with fail
      go_returns
      exact RetT.mk (by rw [HTH.out]; rfl) hv

set_option maxRecDepth 100000 in
set_option maxHeartbeats 2000000 in
theorem SGrooveDepth_c (A : Option Addr) (xs : List Stuff) (n c : Nat) (hn : Hid (xs.length = n)) (hm : (n : Int) ≤ 1048576) (hs : Hid (∀ x ∈ xs, x.name.size ≤ 9223372036854775807)) (B : Option Addr) (ps : List Int) (m d : Nat) (hp : Hid (ps.length = m)) (hm' : (m : Int) ≤ 1048576) (sh : Int) (w : World) (hA : Arr w A (flat Stuff.cells xs)) (hB : Arr w B (flat icell ps)) :
    Calls Try.prog 22 #[.slice A n c, .agg #[.slice B m d], .int .i64 sh] w (RetT (rGroove xs ps sh) w) := by
  go_enter Try.func22, Try.ntmps22
  go_wp2_with fail
  refine (l17Sole_c A xs n c hn hm hs w.heap.size B ps m d hp hm' _ (Blk.new _ _ _) (hA.alloc _) (hB.alloc _)).mono ?_
  rintro e W ⟨rfl, hb⟩
  have hv : Below w.heap.size w W := bl_trans (bl_alloc (Below.refl _ _) _) hb
  have k0 : W.cell? ⟨w.heap.size, 0, none⟩ = some (.slice B m d) := ((Blk.new w 27 #[Value.slice B m d]).below hb).cell 0
  cases hso : soleB xs ps
  · have HS := Lib.hid hso
    clear hso
    go_wp2_with fail
    go_returns
    exact RetT.mk (by rw [rGroove, HS.out]; rfl) hv
  · have HS := Lib.hid hso
    obtain ⟨q, kk, x, hq, hpk, hxk, hkl, t0, t1, hth⟩ := groove_at hso
    clear hso
    cases hi : inB sh 0 100
    · have HI := Lib.hid hi
      have hin := fun w => l00In_c sh 0 100 w
      rw [hi] at hin
      replace hin := Lib.hid hin
      clear hi
      go_wp2_with fail
      refine (hin.out _).mono ?_
      rintro e w' ⟨rfl, rfl⟩
      go_wp2_with fail
      go_returns
      exact RetT.mk (by rw [rGroove, HS.out, HI.out]; rfl) hv
    · have HI := Lib.hid hi
      obtain ⟨h0, h1⟩ := inB_iff.1 hi
      have hin := fun w => l00In_c sh 0 100 w
      rw [hi] at hin
      replace hin := Lib.hid hin
      obtain ⟨bd, rfl, hbb, d0⟩ := icell_at (hB.below hv) hpk
      obtain ⟨ad, rfl, hab, c0, c1, c2, c3, c4⟩ := Stuff.at_ (hA.below hv) hxk
      have hmq : m = q + 1 := by have := hp.out; omega
      have hbd := mul_nn t0 t1 h0 h1
      have HTH := Lib.hid (show rGroove xs ps sh = #[.int .i64 (x.thick * sh / 100), .int .i64 0] by
        unfold rGroove
        rw [if_pos HS.out, if_pos HI.out, hq, Nat.add_sub_cancel, hth])
      have hn2 : (kk : Int) < (n : Int) := by have := hn.out; omega
      have hn3 : (0 : Int) ≤ (kk : Int) := by omega
      have hq1 : ((q + 1 : Nat) : Int) - 1 = (q : Int) := by omega
      have hq2 : (0 : Int) ≤ (q : Int) := by omega
      have hq3 : (q : Int) < ((q + 1 : Nat) : Int) := by omega
      subst hmq
      clear hi hpk hxk hkl hth hq
      go_wp2_with fail
      refine (hin.out _).mono ?_
      rintro e w' ⟨rfl, rfl⟩
      go_wp2_with fail
      go_returns
      exact RetT.mk (by rw [HTH.out]; rfl) hv


/-! ### Turned -/
set_option maxRecDepth 100000 in
set_option maxHeartbeats 2000000 in
theorem TurnSole_c (A : Option Addr) (xs : List Stuff) (n c : Nat) (hn : Hid (xs.length = n)) (hm : (n : Int) ≤ 1048576) (hs : Hid (∀ x ∈ xs, x.name.size ≤ 9223372036854775807)) (hnc : (n : Int) ≤ c) (B : Option Addr) (ps : List Int) (m d : Nat) (hp : Hid (ps.length = m)) (hm' : (m : Int) ≤ 1048576) (hBn : 0 < m → ∃ b, B = some ⟨b, 0, none⟩) (w : World) (hA : Arr w A (flat Stuff.cells xs)) (hB : Arr w B (flat icell ps)) :
    Calls Try.prog 9 #[.slice A n c, .agg #[.slice B m d]] w (OutTn (turnL xs ps) (turnC xs ps) w) := by
  have HBN := Lib.hid hBn
  clear hBn
  go_enter Try.func9, Try.ntmps9
  go_wp2_with fail
  refine (ValidSole_c A xs n c hn hm hs hnc B ps m d hp hm' _ ((hA.alloc _).alloc _) ((hB.alloc _).alloc _)).mono ?_
  rintro e W ⟨rfl, hb⟩
  have hv : Below w.heap.size w W := bl_trans (bl_alloc (bl_alloc (Below.refl _ _) _) _) hb
  have hX : Blk W w.heap.size 27 #[Value.slice B m d] := ((Blk.new w 27 #[Value.slice B m d]).alloc _).below hb
  have hZ : Blk W (w.heap.size + 1) 27 #[Value.slice none 0 0] := by
    have h := (Blk.new (w.alloc (.cells #[Value.slice B m d] 27)) 27 #[Value.slice none 0 0]).below hb
    rwa [World.size_alloc] at h
  have hlt := hZ.lt
  obtain ⟨g0, hg0⟩ : ∃ z, z = w.heap.size := ⟨_, rfl⟩
  obtain ⟨g1, hg1⟩ : ∃ z, z = w.heap.size + 1 := ⟨_, rfl⟩
  rw [← hg0] at hX
  rw [← hg1] at hZ hlt
  rw [← hg1, ← hg0]
  have hge : w.heap.size ≤ g1 := by omega
  have hne : g0 ≠ g1 := by omega
  clear hg0 hg1 hb
  have k0 : W.cell? ⟨g0, 0, none⟩ = some (.slice B m d) := hX.cell 0
  have z0 : W.cell? ⟨g1, 0, none⟩ = some (.slice none 0 0) := hZ.cell 0
  have f0 := hZ.frozen 0
  have HX := Lib.hid hX
  have HZ := Lib.hid hZ
  clear hX hZ
  cases hso : soleB xs ps
  · have e1 : turnL xs ps = [] := by unfold turnL; rw [hso]; rfl
    have e2 : turnC xs ps = 1 := by unfold turnC; rw [hso]; rfl
    have HE := Lib.hid (And.intro e1 e2)
    clear hso e1 e2
    go_wp2_with fail
    refine bodyPost_ret (results_cell_row_tmp (P := Try.prog) rfl _ _ g1 27 #[Value.slice none 0 0] (0, 0) _ rfl ?_ Try.underlying27 rfl (by kernel_rfl)) rfl ?_
    · exact HZ.out.set_ 0 _
    · rw [HE.out.1, HE.out.2]
      exact ⟨none, 0, rfl, World.ownsRow_nil _ _ _ _, bl_set hv hge _⟩
  · have hp1 := (sole_parts hso).2.1
    have e1 : turnL xs ps = ps.reverse := by unfold turnL; rw [hso]; rfl
    have e2 : turnC xs ps = 0 := by unfold turnC; rw [hso]; rfl
    have HE := Lib.hid (And.intro e1 e2)
    have hm6 : m ≤ 6 := by have := (sole_parts hso).2.2.1; have := hp.out; omega
    have hm1 : 0 < m := by have := hp.out; omega
    obtain ⟨b, rfl⟩ := HBN.out hm1
    clear hso e1 e2 hp1 HBN
    have hcl := Try.slices_Clone_int b 0 m d ps W (by rw [hp.out]; exact Nat.le_refl _) (by omega) (by
      intro j hj
      obtain ⟨v, hv'⟩ := get_of_lt hj
      obtain ⟨bd, e, _, h0⟩ := icell_at (hB.below hv) hv'
      injection e with e
      subst e
      have hadd : (⟨b, 0, none⟩ : Addr).add j = ⟨b, 0 + j, none⟩ := by unfold Addr.add; split <;> simp_all
      rw [hadd] at h0
      rw [h0, List.getD_eq_getElem?_getD, hv']
      rfl)
    have HCL := Lib.hid hcl
    clear hcl
    go_wp2_with fail
    refine HCL.out.mono ?_
    rintro e W2 ⟨v', rfl, hown, _, hb2⟩
    obtain ⟨A2, c2, rfl, hc2, _⟩ := own_form hown
    obtain ⟨g2, rfl⟩ := own_addr hown hm1
    have hg2 := own_at hown g2 rfl
    have hg2l := own_lt hown g2 rfl
    have htk : ps.take m = ps := List.take_of_length_le (by rw [hp.out]; exact Nat.le_refl _)
    rw [htk] at hown
    have HO := Lib.hid hown
    have hv2 := bl_trans hv hb2
    have HZ2 := Lib.hid (HZ.out.below hb2)
    clear hown hb2 htk HCL HZ k0 z0 f0 hv
    go_wp2_with fail
    obtain ⟨W3, hW3⟩ : ∃ z, z = W2.alloc (Obj.cells #[Value.slice (some ⟨g2, 0, none⟩) m c2] 27) := ⟨_, rfl⟩
    obtain ⟨g3, hg3⟩ : ∃ z, z = W2.heap.size := ⟨_, rfl⟩
    have HY : Hid (Blk W3 g3 27 #[Value.slice (some ⟨g2, 0, none⟩) m c2]) := Lib.hid (by rw [hW3, hg3]; exact Blk.new _ _ _)
    have HO3 : Hid (W3.ownsRow W.heap.size 2 1 (.slice (some ⟨g2, 0, none⟩) m c2) m (ps.map (Value.int .i64))) := Lib.hid (by rw [hW3]; exact HO.out.alloc _)
    have HZ3 : Hid (Blk W3 g1 27 #[Value.slice none 0 0]) := Lib.hid (by rw [hW3]; exact HZ2.out.alloc _)
    have hv3 : Below w.heap.size w W3 := by rw [hW3]; exact bl_alloc hv2 _
    have hg3l : g2 < g3 := by omega
    have hg31 : g1 ≠ g3 := by have := HZ2.out.lt; omega
    rw [← hW3, ← hg3]
    clear hW3 hg3 HO HZ2 hv2
    have hrv := Try.slices_Reverse_int_cells g2 0 m c2 ps W3 (by rw [hp.out]; exact Nat.le_refl _) (by omega) (by
      intro j hj
      have h0 := HO3.out.cellAt j (by rw [Nat.mul_one, ← hp.out]; exact hj)
      rw [Nat.zero_add, h0, List.getD_eq_getElem?_getD]
      simp [hj]) (fun j _ => by rw [Nat.zero_add]; exact HO3.out.frozenAt j)
    have htk : ps.take m = ps := List.take_of_length_le (by rw [hp.out]; exact Nat.le_refl _)
    rw [htk] at hrv
    refine hrv.mono ?_
    rintro e W4' ⟨rfl, qd, rfl⟩
    have HO4 := Lib.hid (own_setCells (ps.reverse.map (Value.int .i64)) _ 0 _ (own_below HO3.out (below_drewN (Below.refl _ _) qd)))
    have hln : (ps.reverse.map (Value.int .i64)).length = (ps.map (Value.int .i64)).length := by simp
    have hd := below_drewN (Below.refl W3.heap.size W3) qd
    have HZ4 := Lib.hid (blk_setCells (b := g2) (by omega) (ps.reverse.map (Value.int .i64)) 0 _ (HZ3.out.below hd))
    have HY4 := Lib.hid (blk_setCells (b := g2) (by omega) (ps.reverse.map (Value.int .i64)) 0 _ (HY.out.below hd))
    have hwg : w.heap.size ≤ g2 := by have := hlt; omega
    have HV4 := Lib.hid (bl_setCells (b := g2) hwg (ps.reverse.map (Value.int .i64)) 0 _ (bl_trans hv3 hd))
    rw [setMany_all hln] at HO4
    obtain ⟨W4, hW4⟩ : ∃ z, z = (W3.drewN qd).setCells g2 0 (ps.reverse.map (Value.int .i64)) := ⟨_, rfl⟩
    rw [← hW4] at HO4 HZ4 HY4 HV4 ⊢
    clear hW4 hd hln hrv htk HZ3 HY hv3 HO3
    have y0 : W4.cell? ⟨g3, 0, none⟩ = some (.slice (some ⟨g2, 0, none⟩) m c2) := HY4.out.cell 0
    have z0 : W4.cell? ⟨g1, 0, none⟩ = some (.slice none 0 0) := HZ4.out.cell 0
    have f0 := HZ4.out.frozen 0
    go_wp2_with fail
    refine bodyPost_ret (results_cell_row_tmp (P := Try.prog) rfl _ _ g1 27 #[Value.slice (some ⟨g2, 0, none⟩) m c2] (0, 0) _ rfl ?_ Try.underlying27 rfl (by kernel_rfl)) rfl ?_
    · exact HZ4.out.set_ 0 _
    · rw [HE.out.1, HE.out.2]
      have hl : ps.reverse.length = m := by rw [List.length_reverse]; exact hp.out
      unfold OutTn
      rw [hl, icell_map]
      exact ⟨some ⟨g2, 0, none⟩, c2, rfl, own_base (own_far HO4.out (fun k e => by have : g2 = k := (by simpa [Value.ownBlock] using e); simp only; omega) _) (by omega), bl_set HV4.out hge _⟩

theorem infoI64X : (Try.prog.info? 2).map (fun i => (i.zero, i.size, i.bytes)) = some (some (.int .i64 0), 1, 8) := by kernel_rfl
theorem rev_take_succ {ps : List Int} {q : Nat} {v : Int} {j : Nat} (h : ps[q]? = some v) (hj : j + q + 1 = ps.length) : ps.reverse.take (j + 1) = ps.reverse.take j ++ [v] := by
  refine take_at ?_
  rw [List.getElem?_reverse (by omega)]
  rw [show ps.length - 1 - j = q from by omega]
  exact h
set_option maxRecDepth 100000 in
set_option maxHeartbeats 2000000 in
theorem STurnSole_c (A : Option Addr) (xs : List Stuff) (n c : Nat) (hn : Hid (xs.length = n)) (hm : (n : Int) ≤ 1048576) (hs : Hid (∀ x ∈ xs, x.name.size ≤ 9223372036854775807)) (B : Option Addr) (ps : List Int) (m d : Nat) (hp : Hid (ps.length = m)) (hm' : (m : Int) ≤ 1048576) (w : World) (hA : Arr w A (flat Stuff.cells xs)) (hB : Arr w B (flat icell ps)) :
    Calls Try.prog 10 #[.slice A n c, .agg #[.slice B m d]] w (OutTn (turnL xs ps) (turnC xs ps) w) := by
  obtain ⟨i0, hi0, hz0, hz1, hz2⟩ := info_parts (P := Try.prog) (e := 2) (z := .int .i64 0) (size := 1) (bytes := 8) infoI64X
  go_enter Try.func10, Try.ntmps10
  go_wp2_with fail
  refine (l17Sole_c A xs n c hn hm hs w.heap.size B ps m d hp hm' _ ((Blk.new _ _ _).alloc _) ((hA.alloc _).alloc _) ((hB.alloc _).alloc _)).mono ?_
  rintro e W ⟨rfl, hb⟩
  have hv : Below w.heap.size w W := bl_trans (bl_alloc (bl_alloc (Below.refl _ _) _) _) hb
  have hX : Blk W w.heap.size 27 #[Value.slice B m d] := ((Blk.new w 27 #[Value.slice B m d]).alloc _).below hb
  have hZ : Blk W (w.heap.size + 1) 27 #[Value.slice none 0 0] := by
    have h := (Blk.new (w.alloc (.cells #[Value.slice B m d] 27)) 27 #[Value.slice none 0 0]).below hb
    rwa [World.size_alloc] at h
  have hlt := hZ.lt
  obtain ⟨g0, hg0⟩ : ∃ z, z = w.heap.size := ⟨_, rfl⟩
  obtain ⟨g1, hg1⟩ : ∃ z, z = w.heap.size + 1 := ⟨_, rfl⟩
  have HG := Lib.hid (grown_of_below hv (some g0))
  have HW := Lib.hid hv.size
  rw [← hg0] at hX
  rw [← hg1] at hZ hlt
  rw [← hg1, ← hg0]
  have hge : w.heap.size ≤ g1 := by omega
  have hge0 : w.heap.size ≤ g0 := by omega
  have hne : g0 ≠ g1 := by omega
  have h01 : g0 < g1 := by omega
  clear hg0 hg1 hb
  have z0 : W.cell? ⟨g1, 0, none⟩ = some (.slice none 0 0) := hZ.cell 0
  have f0 := hZ.frozen 0
  have H0 := Lib.hid hX
  have HZ := Lib.hid hZ
  clear hX hZ
  cases hso : soleB xs ps
  · have e1 : turnL xs ps = [] := by unfold turnL; rw [hso]; rfl
    have e2 : turnC xs ps = 1 := by unfold turnC; rw [hso]; rfl
    have HE := Lib.hid (And.intro e1 e2)
    clear hso e1 e2
    go_wp2_with fail
    refine bodyPost_ret (results_cell_row_tmp (P := Try.prog) rfl _ _ g1 27 #[Value.slice none 0 0] (0, 0) _ rfl ?_ Try.underlying27 rfl (by kernel_rfl)) rfl ?_
    · exact HZ.out.set_ 0 _
    · rw [HE.out.1, HE.out.2]
      exact ⟨none, 0, rfl, World.ownsRow_nil _ _ _ _, bl_set hv hge _⟩
  have hp1 := (sole_parts hso).2.1
  have e1 : turnL xs ps = ps.reverse := by unfold turnL; rw [hso]; rfl
  have e2 : turnC xs ps = 0 := by unfold turnC; rw [hso]; rfl
  have HE := Lib.hid (And.intro e1 e2)
  have hm6 : m ≤ 6 := by have := (sole_parts hso).2.2.1; have := hp.out; omega
  have hm1 : 0 < m := by have := hp.out; omega
  have HBW := Lib.hid (hB.below hv)
  clear hso e1 e2 hp1 z0 f0 hv
  have k0 : ∀ O O', ((W.alloc O).alloc O').cell? ⟨g0, 0, none⟩ = some (.slice B m d) := fun O O' => ((H0.out.alloc O).alloc O').cell 0
  go_upto_block 0 with fail
  clear k0

  obtain ⟨W2, hWW2⟩ : ∃ z, z = World.alloc W (Obj.cells #[] 2) := ⟨_, rfl⟩
  obtain ⟨gp, hggp⟩ : ∃ z, z = (W).heap.size := ⟨_, rfl⟩
  have HP : Hid (W2.ownsRow gp 2 1 (.slice (some ⟨gp, 0, none⟩) 0 0) 0 []) := Lib.hid (by rw [hWW2, hggp]; exact own_empty W _ _ _ (Nat.le_refl _))
  have hb : Below (W).heap.size W W2 := by rw [hWW2]; exact bl_alloc (Below.refl _ _) _
  have hgp0 : w.heap.size ≤ gp := by rw [hggp]; exact HW.out
  have hgp1 : g0 < gp := by have := H0.out.lt; omega
  have hgp_H0 := (hggp ▸ H0.out.lt)
  have hgp_HZ := (hggp ▸ HZ.out.lt)
  replace HG := Lib.hid (grown_below HG.out hb)
  replace H0 := Lib.hid (H0.out.below hb)
  replace HZ := Lib.hid (HZ.out.below hb)
  replace HW := Lib.hid (Nat.le_trans HW.out (hb).size)
  have hn_W2 : gp + 1 = W2.heap.size := by rw [hWW2, hggp, World.size_alloc]
  rw [← hWW2, ← hggp]
  clear hWW2 hggp hb
  obtain ⟨W3, hWW3⟩ : ∃ z, z = World.alloc W2 (Obj.cells #[Value.slice (some ⟨gp, 0, none⟩) 0 0] 27) := ⟨_, rfl⟩
  obtain ⟨gx, hggx⟩ : ∃ z, z = (W2).heap.size := ⟨_, rfl⟩
  have HX : Hid (Blk W3 gx 27 #[Value.slice (some ⟨gp, 0, none⟩) 0 0]) := Lib.hid (by rw [hWW3, hggx]; exact Blk.new _ _ _)
  have hb : Below (W2).heap.size W2 W3 := by rw [hWW3]; exact bl_alloc (Below.refl (W2).heap.size (W2)) _
  have hgx0 : w.heap.size ≤ gx := by rw [hggx]; exact HW.out
  have hgx1 : g0 < gx := by have h : g0 < (W2).heap.size := H0.out.lt; omega
  have hgx_H0 := Nat.ne_of_lt (hggx ▸ H0.out.lt)
  have hgx_HZ := Nat.ne_of_lt (hggx ▸ HZ.out.lt)
  replace HG := Lib.hid (grown_below HG.out hb)
  replace HP := Lib.hid (own_below HP.out hb)
  replace H0 := Lib.hid (H0.out.below hb)
  replace HZ := Lib.hid (HZ.out.below hb)
  replace HW := Lib.hid (Nat.le_trans HW.out (hb).size)
  have hn_W3 : gx + 1 = W3.heap.size := by rw [hWW3, hggx]; exact (World.size_alloc _ _).symm
  have he_gx := hn_W2.trans hggx.symm
  rw [← hWW3, hn_W2, ← hggx]
  clear hWW3 hggx hb
  have HPX : Hid (∀ k, (Value.slice (some ⟨gp, 0, none⟩) 0 0).ownBlock = some k → k ≠ gx) := Lib.hid (fun k e => by have : gp = k := (by simpa [Value.ownBlock] using e); have := he_gx; omega)
  have hq0 : (m : Int) - 1 = ((m - 1 : Nat) : Int) := by omega
  go_wp2_with fail
  go_loopw [7] (fun i wr => ∃ (qi : Int) (j : Nat) (B' : Option Addr) (e : Nat), i = .int .i64 qi ∧ -1 ≤ qi ∧ (j : Int) + qi + 1 = m ∧ Hid (wr.ownsRow gp 2 1 (.slice B' j e) j (flat icell (ps.reverse.take j))) ∧ Hid (∀ k, (Value.slice B' j e).ownBlock = some k → k ≠ gx) ∧ Hid (Blk wr gx 27 #[Value.slice B' j e]) ∧ Hid (w.grownBy wr (some g0)) ∧ Hid (Blk wr g0 27 #[Value.slice B m d]) ∧ Hid (Blk wr g1 27 #[Value.slice none 0 0]) ∧ Hid (w.heap.size ≤ wr.heap.size)) (fun i _ => (intOf i + 1).toNat)
  case atStart => exact ⟨(m : Int) - 1, 0, _, _, rfl, by omega, by omega, HP, HPX, HX, HG, H0, HZ, HW⟩
  case round =>
    clear HX HG H0 HZ HW HP HPX
    obtain ⟨qi, j, B', e, rfl, hqi, hjq, HP, HPX, HX, HG, H0, HZ, HW⟩ := hrel
    by_cases hlt : 0 ≤ qi
    · obtain ⟨q, rfl⟩ := Int.eq_ofNat_of_zero_le hlt
      have hqm : q < m := by omega
      obtain ⟨v, hv⟩ := get_of_lt (xs := ps) (k := q) (by rw [hp.out]; exact hqm)
      obtain ⟨bd, hbd, hbb, d0⟩ := icell_at hB hv
      subst hbd
      have HV := Lib.hid hv
      have D0 := Lib.hid d0
      have hq2 : (0 : Int) ≤ (q : Int) := by omega
      have hq3 : (q : Int) < (m : Int) := by omega
      clear hv d0
      go_wp2_with fail
      refine wp_region_held_drew (S := fun w' => Blk w' g0 27 #[Value.slice (some bd) m d] ∧ World.cell? w' (bd.add q) = some (.int .i64 v)) (by kernel_rfl) ?_ (fun _ => ?_)
      · exact ⟨H0.out.below (Below.refl (wr).heap.size (wr)).drew, bl_cell (Below.refl (wr).heap.size (wr)).drew (bl_cell (bl_grown (Below.refl _ _) HG.out (fun k e => by injection e with e; omega)) D0.out)⟩
      replace HG := Lib.hid (grown_below HG.out (Below.refl (wr).heap.size (wr)).drew)
      replace HP := Lib.hid (own_below HP.out (Below.refl (wr).heap.size (wr)).drew)
      replace HX := Lib.hid (HX.out.below (Below.refl (wr).heap.size (wr)).drew)
      replace H0 := Lib.hid (H0.out.below (Below.refl (wr).heap.size (wr)).drew)
      replace HZ := Lib.hid (HZ.out.below (Below.refl (wr).heap.size (wr)).drew)
      replace HW := Lib.hid (Nat.le_trans HW.out ((Below.refl (wr).heap.size (wr)).drew).size)
      refine wpAnyH_take (i := 2) (oi := { dst := some 24, op := _, type := _, pos := _, after := _, guard := _ }) (v := ?_) rfl (by kernel_rfl) (by kernel_rfl) (by kernel_rfl) (fun _ _ _ h => h) (Or.inl ⟨by kernel_rfl, ?_⟩) (⟨H0.out, bl_cell (bl_grown (Below.refl _ _) HG.out (fun k e => by injection e with e; omega)) D0.out⟩) ?_
      rotate_left
      · intro w hSw
        try dsimp only at hSw
        go_simp
        try with_reducible rfl
      try simp only [Act.put, List.setIfInBounds_toArray, List.set_cons_zero, List.set_cons_succ]
      refine wpAnyH_take (i := 3) (oi := { dst := some 25, op := _, type := _, pos := _, after := _, guard := _ }) (v := ?_) rfl (by kernel_rfl) (by kernel_rfl) (by kernel_rfl) (fun _ _ _ h => h) (Or.inl ⟨by kernel_rfl, ?_⟩) (⟨H0.out, bl_cell (bl_grown (Below.refl _ _) HG.out (fun k e => by injection e with e; omega)) D0.out⟩) ?_
      rotate_left
      · intro w hSw
        try dsimp only at hSw
        have k0 : w.cell? ⟨g0, 0, none⟩ = some (.slice (some bd) m d) := hSw.1.cell 0
        go_simp
        try with_reducible rfl
      try simp only [Act.put, List.setIfInBounds_toArray, List.set_cons_zero, List.set_cons_succ]
      refine wpAnyH_take (i := 4) (oi := { dst := some 26, op := _, type := _, pos := _, after := _, guard := _ }) (v := ?_) rfl (by kernel_rfl) (by kernel_rfl) (by kernel_rfl) (fun _ _ _ h => h) (Or.inl ⟨by kernel_rfl, ?_⟩) (⟨H0.out, bl_cell (bl_grown (Below.refl _ _) HG.out (fun k e => by injection e with e; omega)) D0.out⟩) ?_
      rotate_left
      · intro w hSw
        try dsimp only at hSw
        go_simp
        try with_reducible rfl
      try simp only [Act.put, List.setIfInBounds_toArray, List.set_cons_zero, List.set_cons_succ]
      refine wpAnyH_take (i := 5) (oi := { dst := some 27, op := _, type := _, pos := _, after := _, guard := _ }) (v := ?_) rfl (by kernel_rfl) (by kernel_rfl) (by kernel_rfl) (fun _ _ _ h => h) (Or.inl ⟨by kernel_rfl, ?_⟩) (⟨H0.out, bl_cell (bl_grown (Below.refl _ _) HG.out (fun k e => by injection e with e; omega)) D0.out⟩) ?_
      rotate_left
      · intro w hSw
        try dsimp only at hSw
        go_simp
        try with_reducible rfl
      try simp only [Act.put, List.setIfInBounds_toArray, List.set_cons_zero, List.set_cons_succ]
      refine wpAnyH_take (i := 6) (oi := { dst := some 28, op := _, type := _, pos := _, after := _, guard := _ }) (v := ?_) rfl (by kernel_rfl) (by kernel_rfl) (by kernel_rfl) (fun _ _ _ h => h) (Or.inl ⟨by kernel_rfl, ?_⟩) (⟨H0.out, bl_cell (bl_grown (Below.refl _ _) HG.out (fun k e => by injection e with e; omega)) D0.out⟩) ?_
      rotate_left
      · intro w hSw
        try dsimp only at hSw
        have k0 : w.cell? (bd.add q) = some (.int .i64 v) := hSw.2
        go_simp
        try with_reducible rfl
      try simp only [Act.put, List.setIfInBounds_toArray, List.set_cons_zero, List.set_cons_succ]
      refine wpAnyH_take (i := 0) (oi := { dst := some 22, op := _, type := _, pos := _, after := _, guard := _ }) (v := ?_) rfl (by kernel_rfl) (by kernel_rfl) (by kernel_rfl) (fun _ _ _ h => h) (Or.inl ⟨by kernel_rfl, ?_⟩) (⟨H0.out, bl_cell (bl_grown (Below.refl _ _) HG.out (fun k e => by injection e with e; omega)) D0.out⟩) ?_
      rotate_left
      · intro w hSw
        try dsimp only at hSw
        go_simp
        try with_reducible rfl
      try simp only [Act.put, List.setIfInBounds_toArray, List.set_cons_zero, List.set_cons_succ]
      refine wpAnyH_ready (rs := [1, 7]) (by kernel_rfl) (by simp) ?_
      refine (AllReadyH.cons (o := { dst := some 23, op := _, type := _, pos := _, after := _, guard := _ }) rfl (fun K hK => ?_) (AllReadyH.cons (o := { dst := some 29, op := _, type := _, pos := _, after := _, guard := _ }) rfl (fun K hK => ?_) AllReadyH.nil))
      · skip
        have k0 : World.cell? ((wr).drew) ⟨gx, 0, none⟩ = some (.slice B' j e) := HX.out.cell 0
        go_simp
        refine hK.out _ _ (⟨H0.out, bl_cell (bl_grown (Below.refl _ _) HG.out (fun k e => by injection e with e; omega)) D0.out⟩) (fun _ => ?_)
        clear hK K
        try simp only [Act.put, List.setIfInBounds_toArray, List.set_cons_zero, List.set_cons_succ]
        refine wpAnyH_ready (rs := [7]) (by kernel_rfl) (by simp) ?_
        refine (AllReadyH.cons (o := { dst := some 29, op := _, type := _, pos := _, after := _, guard := _ }) rfl (fun K hK => ?_) AllReadyH.nil)
        go_simp
        obtain ⟨W5, hWW5⟩ : ∃ z, z = (World.alloc wr (Obj.cells #[Value.int IntKind.i64 v] 2)).drew := ⟨_, rfl⟩
        obtain ⟨gn, hggn⟩ : ∃ z, z = (wr).heap.size := ⟨_, rfl⟩
        have HN : Hid (Blk W5 gn 2 #[Value.int IntKind.i64 v]) := Lib.hid (by rw [hWW5, hggn]; exact Blk.new wr _ _)
        have hb : Below ((wr).drew).heap.size (wr).drew W5 := by rw [hWW5]; exact bl_alloc (Below.refl ((wr).drew).heap.size ((wr).drew)) _
        have hgn0 : w.heap.size ≤ gn := by rw [hggn]; exact HW.out
        have hgn1 : g0 < gn := by have h : g0 < (wr).heap.size := H0.out.lt; omega
        have hgn_HX := Nat.ne_of_lt (hggn ▸ HX.out.lt)
        have hgn_H0 := Nat.ne_of_lt (hggn ▸ H0.out.lt)
        have hgn_HZ := Nat.ne_of_lt (hggn ▸ HZ.out.lt)
        replace HG := Lib.hid (grown_below HG.out hb)
        replace HP := Lib.hid (own_below HP.out hb)
        replace HX := Lib.hid (HX.out.below hb)
        replace H0 := Lib.hid (H0.out.below hb)
        replace HZ := Lib.hid (HZ.out.below hb)
        replace HW := Lib.hid (Nat.le_trans HW.out (hb).size)
        have hn_W5 : gn + 1 = W5.heap.size := by rw [hWW5, hggn]; exact (World.size_alloc wr _).symm
        rw [← hWW5, ← hggn]
        clear hWW5 hggn hb

        refine hK.out _ _ (⟨H0.out, bl_cell (bl_grown (Below.refl _ _) HG.out (fun k e => by injection e with e; omega)) D0.out⟩) (fun _ => ?_)
        clear hK K
        try simp only [Act.put, List.setIfInBounds_toArray, List.set_cons_zero, List.set_cons_succ]
        refine wpAnyH_ready (rs := [8]) (by kernel_rfl) (by simp) ?_
        refine (AllReadyH.cons (o := { dst := some 30, op := _, type := _, pos := _, after := _, guard := _ }) rfl (fun K hK => ?_) AllReadyH.nil)
        have hgpW := HX.out.lt
        refine step_append_lies W5 rfl _ _ _ rfl gp 2 i0 _ 1 8 Try.underlying25 hi0 hz0 hz1 hz2 rfl (by omega) (.slice B' j e) j (flat icell (ps.reverse.take j)) (by rfl) HP.out ⟨gn, 0, none⟩ 1 1 #[Value.int IntKind.i64 v].toList (by rfl) rfl (World.news_of_block HN.out) (by simp [Value.oneCell']) (by omega) (by unfold maxLen; omega) (by omega) (by omega) W5.heap.size rfl ?_
        intro g9 cap W9 hown9 hg9 hat hlt9
        have hxl := HX.out.lt
        have H9X : g9 ≠ gx := by
          rcases hat with h | h
          · exact HPX.out g9 h
          · omega
        clear HN
        clear hgpW
        replace HG := Lib.hid (grown_over HG.out hg9 (fun i e => by have := own_at HP.out i e; omega))
        replace HX := Lib.hid (HX.out.grown hg9 (fun e => HPX.out gx e.symm rfl))
        replace H0 := Lib.hid (H0.out.grown hg9 (fun e => by have := own_at HP.out _ e.symm; omega))
        replace HZ := Lib.hid (HZ.out.grown hg9 (fun e => by have := own_at HP.out _ e.symm; omega))
        replace HW := Lib.hid (Nat.le_trans HW.out hg9.size)
        replace HP := Lib.hid hown9
        clear hown9 hg9
        clear HPX hat

        refine hK.out _ _ (⟨H0.out, bl_cell (bl_grown (Below.refl _ _) HG.out (fun k e => by injection e with e; omega)) D0.out⟩) (fun _ => ?_)
        clear hK K
        try simp only [Act.put, List.setIfInBounds_toArray, List.set_cons_zero, List.set_cons_succ]
        refine wpAnyH_ready (rs := [9]) (by kernel_rfl) (by simp) ?_
        refine (AllReadyH.cons (o := { dst := some 31, op := _, type := _, pos := _, after := _, guard := _ }) rfl (fun K hK => ?_) AllReadyH.nil)
        go_simp
        refine hK.out _ _ (⟨H0.out, bl_cell (bl_grown (Below.refl _ _) HG.out (fun k e => by injection e with e; omega)) D0.out⟩) (fun _ => ?_)
        clear hK K
        try simp only [Act.put, List.setIfInBounds_toArray, List.set_cons_zero, List.set_cons_succ]
        refine wpAnyH_ready (rs := [10]) (by kernel_rfl) (by simp) ?_
        refine (AllReadyH.cons (o := { dst := none, op := _, type := _, pos := _, after := _, guard := _ }) rfl (fun K hK => ?_) AllReadyH.nil)
        have k0 : W9.cell? ⟨gx, 0, none⟩ = some (.slice B' j e) := HX.out.cell 0
        have f0 := HX.out.frozen 0
        go_simp
        clear k0 f0
        obtain ⟨W11, hW⟩ : ∃ z, z = World.setCell W9 ⟨gx, 0, none⟩ (Value.slice (some ⟨g9, 0, none⟩) (j + 1) cap) := ⟨_, rfl⟩
        replace HX := Lib.hid (HX.out.set_ 0 (Value.slice (some ⟨g9, 0, none⟩) (j + 1) cap))
        replace HG := Lib.hid (grown_setCell (p := ⟨gx, 0, none⟩) HG.out (.inr (by simp only; omega)) (Value.slice (some ⟨g9, 0, none⟩) (j + 1) cap))
        replace HP := Lib.hid (own_far HP.out (p := ⟨gx, 0, none⟩) (fun k e => by have : g9 = k := (by simpa [Value.ownBlock] using e); simp only; omega) (Value.slice (some ⟨g9, 0, none⟩) (j + 1) cap))
        replace H0 := Lib.hid (H0.out.far (p := ⟨gx, 0, none⟩) (by simp only; omega) (Value.slice (some ⟨g9, 0, none⟩) (j + 1) cap))
        replace HZ := Lib.hid (HZ.out.far (p := ⟨gx, 0, none⟩) (by simp only; omega) (Value.slice (some ⟨g9, 0, none⟩) (j + 1) cap))
        replace HW := Lib.hid (show w.heap.size ≤ (World.setCell W9 ⟨gx, 0, none⟩ (Value.slice (some ⟨g9, 0, none⟩) (j + 1) cap)).heap.size by rw [World.size_setCell]; exact HW.out)
        rw [← hW] at HG HW HP HX H0 HZ ⊢
        clear hW
        replace HX : Hid (Blk W11 gx 27 #[Value.slice (some ⟨g9, 0, none⟩) (j + 1) cap]) := HX

        refine hK.out _ _ (⟨H0.out, bl_cell (bl_grown (Below.refl _ _) HG.out (fun k e => by injection e with e; omega)) D0.out⟩) (fun _ => ?_)
        clear hK K
        try simp only [Act.put]
        refine wpAnyH_done (by kernel_rfl) ?_ _
        go_wp2_with fail
        have e9 : flat icell (ps.reverse.take (j + 1)) = flat icell (ps.reverse.take j) ++ #[Value.int IntKind.i64 v].toList := by rw [rev_take_succ HV.out (by rw [hp.out]; omega)]; simp [flat, icell]
        rw [← e9] at HP
        go_roundw
        case rel =>
          have HPY : Hid (∀ k, (Value.slice (some ⟨g9, 0, none⟩) (j + 1) cap).ownBlock = some k → k ≠ gx) := Lib.hid (fun k e => by have : g9 = k := (by simpa [Value.ownBlock] using e); omega)
          first | exact ⟨(q : Int) - 1, j + 1, some ⟨g9, 0, none⟩, cap, rfl, by omega, by omega, HP, HPY, HX, HG, H0, HZ, HW⟩ | exact ⟨by omega, j + 1, by omega, some ⟨g9, 0, none⟩, cap, HP, HPY, HX, Lib.hid trivial⟩
        case measure => simp [intOf]; omega
      · skip
        go_simp
        obtain ⟨W5, hWW5⟩ : ∃ z, z = (World.alloc wr (Obj.cells #[Value.int IntKind.i64 v] 2)).drew := ⟨_, rfl⟩
        obtain ⟨gn, hggn⟩ : ∃ z, z = (wr).heap.size := ⟨_, rfl⟩
        have HN : Hid (Blk W5 gn 2 #[Value.int IntKind.i64 v]) := Lib.hid (by rw [hWW5, hggn]; exact Blk.new wr _ _)
        have hb : Below ((wr).drew).heap.size (wr).drew W5 := by rw [hWW5]; exact bl_alloc (Below.refl ((wr).drew).heap.size ((wr).drew)) _
        have hgn0 : w.heap.size ≤ gn := by rw [hggn]; exact HW.out
        have hgn1 : g0 < gn := by have h : g0 < (wr).heap.size := H0.out.lt; omega
        have hgn_HX := Nat.ne_of_lt (hggn ▸ HX.out.lt)
        have hgn_H0 := Nat.ne_of_lt (hggn ▸ H0.out.lt)
        have hgn_HZ := Nat.ne_of_lt (hggn ▸ HZ.out.lt)
        replace HG := Lib.hid (grown_below HG.out hb)
        replace HP := Lib.hid (own_below HP.out hb)
        replace HX := Lib.hid (HX.out.below hb)
        replace H0 := Lib.hid (H0.out.below hb)
        replace HZ := Lib.hid (HZ.out.below hb)
        replace HW := Lib.hid (Nat.le_trans HW.out (hb).size)
        have hn_W5 : gn + 1 = W5.heap.size := by rw [hWW5, hggn]; exact (World.size_alloc wr _).symm
        rw [← hWW5, ← hggn]
        clear hWW5 hggn hb

        refine hK.out _ _ (⟨H0.out, bl_cell (bl_grown (Below.refl _ _) HG.out (fun k e => by injection e with e; omega)) D0.out⟩) (fun _ => ?_)
        clear hK K
        try simp only [Act.put, List.setIfInBounds_toArray, List.set_cons_zero, List.set_cons_succ]
        refine wpAnyH_ready (rs := [1]) (by kernel_rfl) (by simp) ?_
        refine (AllReadyH.cons (o := { dst := some 23, op := _, type := _, pos := _, after := _, guard := _ }) rfl (fun K hK => ?_) AllReadyH.nil)
        have k0 : World.cell? (W5) ⟨gx, 0, none⟩ = some (.slice B' j e) := HX.out.cell 0
        go_simp
        refine hK.out _ _ (⟨H0.out, bl_cell (bl_grown (Below.refl _ _) HG.out (fun k e => by injection e with e; omega)) D0.out⟩) (fun _ => ?_)
        clear hK K
        try simp only [Act.put, List.setIfInBounds_toArray, List.set_cons_zero, List.set_cons_succ]
        refine wpAnyH_ready (rs := [8]) (by kernel_rfl) (by simp) ?_
        refine (AllReadyH.cons (o := { dst := some 30, op := _, type := _, pos := _, after := _, guard := _ }) rfl (fun K hK => ?_) AllReadyH.nil)
        have hgpW := HX.out.lt
        refine step_append_lies W5 rfl _ _ _ rfl gp 2 i0 _ 1 8 Try.underlying25 hi0 hz0 hz1 hz2 rfl (by omega) (.slice B' j e) j (flat icell (ps.reverse.take j)) (by rfl) HP.out ⟨gn, 0, none⟩ 1 1 #[Value.int IntKind.i64 v].toList (by rfl) rfl (World.news_of_block HN.out) (by simp [Value.oneCell']) (by omega) (by unfold maxLen; omega) (by omega) (by omega) W5.heap.size rfl ?_
        intro g9 cap W9 hown9 hg9 hat hlt9
        have hxl := HX.out.lt
        have H9X : g9 ≠ gx := by
          rcases hat with h | h
          · exact HPX.out g9 h
          · omega
        clear HN
        clear hgpW
        replace HG := Lib.hid (grown_over HG.out hg9 (fun i e => by have := own_at HP.out i e; omega))
        replace HX := Lib.hid (HX.out.grown hg9 (fun e => HPX.out gx e.symm rfl))
        replace H0 := Lib.hid (H0.out.grown hg9 (fun e => by have := own_at HP.out _ e.symm; omega))
        replace HZ := Lib.hid (HZ.out.grown hg9 (fun e => by have := own_at HP.out _ e.symm; omega))
        replace HW := Lib.hid (Nat.le_trans HW.out hg9.size)
        replace HP := Lib.hid hown9
        clear hown9 hg9
        clear HPX hat

        refine hK.out _ _ (⟨H0.out, bl_cell (bl_grown (Below.refl _ _) HG.out (fun k e => by injection e with e; omega)) D0.out⟩) (fun _ => ?_)
        clear hK K
        try simp only [Act.put, List.setIfInBounds_toArray, List.set_cons_zero, List.set_cons_succ]
        refine wpAnyH_ready (rs := [9]) (by kernel_rfl) (by simp) ?_
        refine (AllReadyH.cons (o := { dst := some 31, op := _, type := _, pos := _, after := _, guard := _ }) rfl (fun K hK => ?_) AllReadyH.nil)
        go_simp
        refine hK.out _ _ (⟨H0.out, bl_cell (bl_grown (Below.refl _ _) HG.out (fun k e => by injection e with e; omega)) D0.out⟩) (fun _ => ?_)
        clear hK K
        try simp only [Act.put, List.setIfInBounds_toArray, List.set_cons_zero, List.set_cons_succ]
        refine wpAnyH_ready (rs := [10]) (by kernel_rfl) (by simp) ?_
        refine (AllReadyH.cons (o := { dst := none, op := _, type := _, pos := _, after := _, guard := _ }) rfl (fun K hK => ?_) AllReadyH.nil)
        have k0 : W9.cell? ⟨gx, 0, none⟩ = some (.slice B' j e) := HX.out.cell 0
        have f0 := HX.out.frozen 0
        go_simp
        clear k0 f0
        obtain ⟨W11, hW⟩ : ∃ z, z = World.setCell W9 ⟨gx, 0, none⟩ (Value.slice (some ⟨g9, 0, none⟩) (j + 1) cap) := ⟨_, rfl⟩
        replace HX := Lib.hid (HX.out.set_ 0 (Value.slice (some ⟨g9, 0, none⟩) (j + 1) cap))
        replace HG := Lib.hid (grown_setCell (p := ⟨gx, 0, none⟩) HG.out (.inr (by simp only; omega)) (Value.slice (some ⟨g9, 0, none⟩) (j + 1) cap))
        replace HP := Lib.hid (own_far HP.out (p := ⟨gx, 0, none⟩) (fun k e => by have : g9 = k := (by simpa [Value.ownBlock] using e); simp only; omega) (Value.slice (some ⟨g9, 0, none⟩) (j + 1) cap))
        replace H0 := Lib.hid (H0.out.far (p := ⟨gx, 0, none⟩) (by simp only; omega) (Value.slice (some ⟨g9, 0, none⟩) (j + 1) cap))
        replace HZ := Lib.hid (HZ.out.far (p := ⟨gx, 0, none⟩) (by simp only; omega) (Value.slice (some ⟨g9, 0, none⟩) (j + 1) cap))
        replace HW := Lib.hid (show w.heap.size ≤ (World.setCell W9 ⟨gx, 0, none⟩ (Value.slice (some ⟨g9, 0, none⟩) (j + 1) cap)).heap.size by rw [World.size_setCell]; exact HW.out)
        rw [← hW] at HG HW HP HX H0 HZ ⊢
        clear hW
        replace HX : Hid (Blk W11 gx 27 #[Value.slice (some ⟨g9, 0, none⟩) (j + 1) cap]) := HX

        refine hK.out _ _ (⟨H0.out, bl_cell (bl_grown (Below.refl _ _) HG.out (fun k e => by injection e with e; omega)) D0.out⟩) (fun _ => ?_)
        clear hK K
        try simp only [Act.put]
        refine wpAnyH_done (by kernel_rfl) ?_ _
        go_wp2_with fail
        have e9 : flat icell (ps.reverse.take (j + 1)) = flat icell (ps.reverse.take j) ++ #[Value.int IntKind.i64 v].toList := by rw [rev_take_succ HV.out (by rw [hp.out]; omega)]; simp [flat, icell]
        rw [← e9] at HP
        go_roundw
        case rel =>
          have HPY : Hid (∀ k, (Value.slice (some ⟨g9, 0, none⟩) (j + 1) cap).ownBlock = some k → k ≠ gx) := Lib.hid (fun k e => by have : g9 = k := (by simpa [Value.ownBlock] using e); omega)
          first | exact ⟨(q : Int) - 1, j + 1, some ⟨g9, 0, none⟩, cap, rfl, by omega, by omega, HP, HPY, HX, HG, H0, HZ, HW⟩ | exact ⟨by omega, j + 1, by omega, some ⟨g9, 0, none⟩, cap, HP, HPY, HX, Lib.hid trivial⟩
        case measure => simp [intOf]; omega
    · obtain rfl : qi = -1 := by omega
      have hjm : j = m := by omega
      have hall : ps.reverse.take j = ps.reverse := List.take_of_length_le (by rw [List.length_reverse, hp.out]; omega)
      rw [hall] at HP
      have x0 : wr.cell? ⟨gx, 0, none⟩ = some (.slice B' j e) := HX.out.cell 0
      have z0 : wr.cell? ⟨g1, 0, none⟩ = some (.slice none 0 0) := HZ.out.cell 0
      have f0 := HZ.out.frozen 0
      have HJ := Lib.hid hjm
      clear hall hjm
      go_wp2_with fail
      refine bodyPost_ret (results_cell_row_tmp (P := Try.prog) rfl _ _ g1 27 #[Value.slice B' j e] (0, 0) _ rfl ?_ Try.underlying27 rfl (by kernel_rfl)) rfl ?_
      · exact HZ.out.set_ 0 _
      · rw [HE.out.1, HE.out.2]
        have hl : ps.reverse.length = j := by rw [List.length_reverse, hp.out]; exact HJ.out.symm
        unfold OutTn
        rw [hl]
        exact ⟨B', e, rfl, own_base (own_far HP.out (fun k e => by have := own_at HP.out k e; simp only; omega) _) (by omega), bl_set (bl_grown (Below.refl _ _) HG.out (fun k e => by injection e with e; omega)) hge _⟩
end Go.Proofs.Ytopbiihiogbhiaa
