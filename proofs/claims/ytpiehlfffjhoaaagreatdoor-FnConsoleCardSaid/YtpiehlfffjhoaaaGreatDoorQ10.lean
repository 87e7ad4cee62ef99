/- A line of a log read: the reference's function. -/
import Derived.Test.YtpiehlfffjhoaaaGreatDoorQ0
import Derived.Test.YtpiehlfffjhoaaaGreatDoorQ8
import Derived.Test.YtpiehlfffjhoaaaGreatDoorQ9
import Derived.Deep.RegionHeld3
import Derived.Deep.AppendLies
namespace Go.Proofs.YtpiehlfffjhoaaaGreatDoor
open Go.RowKit
set_option maxRecDepth 100000 in
set_option maxHeartbeats 2000000 in
theorem day_c (s : ByteArray) (g : Nat) (es : List Entry) (st : Int) (n m c : Nat) (A : Option Addr) (hm : Hid (es.length = m)) (hmb : m ≤ 1048576) (w : World) (hB : Blk w g 201 #[.string s, .int .i64 n, .int .i64 st, .slice A m c]) (hA : Arr w A (flat Entry.cells es)) :
   Calls Tryz.prog 230 #[.pointer (some ⟨g, 0, none⟩)] w (Ret (.int .i64 (lastD es)) w) := by
 have k3 : w.cell? ⟨g, 3, none⟩ = some (.slice A m c) := hB.cell 3
 by_cases h0 : m = 0
 · subst h0
   have HE := qH (show lastD es = 0 by rw [show es = [] from List.eq_nil_of_length_eq_zero hm.out]; rfl)
   go_enter Tryz.func230, Tryz.ntmps230
   go_wp2_with fail
   go_returns
   exact Ret.mk (vi HE.out.symm) (Below.refl _ _)
 · obtain ⟨j, rfl⟩ : ∃ j, m = j + 1 := ⟨m - 1, by omega⟩
   obtain ⟨y, hy⟩ := get_of_lt (xs := es) (k := j) (by rw [hm.out]; omega)
   obtain ⟨ad, rfl, hab, y0, _, _⟩ := Entry.at_ hA hy
   have HE := qH (lastD_at hm.out hy)
   have hj0 : (0 : Int) ≤ (j : Int) := by omega
   have hj1 : (j : Int) < ((j + 1 : Nat) : Int) := by omega
   have hj2 : ((j : Int)).toNat = j := by omega
   have hj3 : (j : Int) < (j : Int) + 1 := by omega
   have hne : (((j + 1 : Nat) : Int) == 0) = false := by rw [beq_eq_false_iff_ne]; omega
   have hne2 : ¬ (((j + 1 : Nat) : Int) = 0) := by omega
   have hne3 : ¬ (((j : Nat) : Int) + 1 = 0) := by omega
   have hne4 : (((j : Nat) : Int) + 1 == 0) = false := by rw [beq_eq_false_iff_ne]; omega
   have hw2 : IntKind.i64.wrap (j : Int) = (j : Int) := IntWalk.i64_in _ (by omega)
   have hw1 : IntKind.i64.wrap (((j + 1 : Nat) : Int) - 1) = (j : Int) := IntWalk.i64_in _ (by omega) |>.trans (by omega)
   clear hy h0
   go_enter Tryz.func230, Tryz.ntmps230
   go_wp2_with fail
   go_quiet (fail)
   go_wp2_with fail
   go_returns
   exact Ret.mk (vi HE.out.symm) (below_drewN (Below.refl _ _) _)
def RV (s : ByteArray) (n : Nat) (st : Int) (A : Option Addr) (m c : Nat) : Array Value := #[.string s, .int .i64 n, .int .i64 st, .slice A m c]
def RS (s : ByteArray) (g : Nat) (es : List Entry) (st : Int) (n m b : Nat) (w : World) : Prop :=
 ∃ A c, Blk w g 201 (RV s n st A m c) ∧ w.ownsRow b 141 3 (.slice A m c) m (flat Entry.cells es) ∧ ∀ k, (Value.slice A m c).ownBlock = some k → k ≠ g
def OutLi (s : ByteArray) (g : Nat) (es : List Entry) (st : Int) (n m b : Nat) (w : World) (e : Ending) (w' : World) : Prop :=
 (stepL (s.data.toList.drop n) es st = none ∧ e = .returned (.bool false) ∧ RS s g es st n m b w' ∧ Below b w w') ∨
 ∃ x k, stepL (s.data.toList.drop n) es st = some (x, k) ∧ e = .returned (.bool true) ∧ RS s g (es ++ [x]) (stp st x) (n + k) (m + 1) b w' ∧ Below b w w'
theorem line_same {s a b c d : ByteArray} {n : Nat} {stv : Int} (hk : nl10 (s.data.toList.drop n) < (s.data.toList.drop n).length) (hq : splC 32 (s.extract n (n + nl10 (s.data.toList.drop n))) = [a, b, c, d]) (ha : okN a.data.toList = true) (hc : okN c.data.toList = true) (h0 : 0 ≤ stv) (h1 : stv ≤ 65518) :
   lineE stv ⟨numV a, b, numV c⟩ = s.extract n (n + nl10 (s.data.toList.drop n) + 1) ↔ (okN d.data.toList = true ∧ numV d = stv) := by
 have hd : (s.extract n (n + nl10 (s.data.toList.drop n))).data.toList = (s.data.toList.drop n).take (nl10 (s.data.toList.drop n)) := by
   rw [extract_data, Nat.add_sub_cancel_left]
 have hd1 : (s.extract n (n + nl10 (s.data.toList.drop n) + 1)).data.toList = (s.data.toList.drop n).take (nl10 (s.data.toList.drop n)) ++ [10] := by
   rw [extract_data, show n + nl10 (s.data.toList.drop n) + 1 - n = nl10 (s.data.toList.drop n) + 1 from by omega, take_nl hk]
 have hs : spl 32 ((s.data.toList.drop n).take (nl10 (s.data.toList.drop n))) = [a.data.toList, b.data.toList, c.data.toList, d.data.toList] := by
   have h2 : (splC 32 (s.extract n (n + nl10 (s.data.toList.drop n)))).map (·.data.toList) = spl 32 (s.extract n (n + nl10 (s.data.toList.drop n))).data.toList := by
     unfold splC
     rw [List.map_map]
     conv => rhs; rw [← List.map_id (spl 32 _)]
     exact List.map_congr_left fun x _ => by simp
   rw [← hd, ← h2, hq]; rfl
 have key := line_eq hs ha hc h0 h1
 rw [bytes_list, ← numV_yes ha, ← numV_yes hc] at key
 constructor
 · intro h
   have h3 := key.1 (by rw [h, hd1])
   exact ⟨h3.1, by rw [numV_yes h3.1]; exact h3.2⟩
 · rintro ⟨h3, h4⟩
   rw [numV_yes h3] at h4
   have h5 := key.2 ⟨h3, h4⟩
   rw [← hd1] at h5
   rw [← bytes_list (lineE _ _), h5, bytes_list]
theorem stepL_cond {l : List UInt8} {es : List Entry} {st sv : Int} {x : Entry} {B : Bool} (h : linE (l.take (nl10 l)) = if B = true then some (x, sv) else none) (hn : ¬ (B = true ∧ lastD es ≤ x.day ∧ stp st x = sv)) : stepL l es st = none := by
 cases B with
 | false => exact stepL_bad (by rw [h]; rfl)
 | true => exact stepL_not (by rw [h]; rfl) (fun h2 => hn ⟨rfl, h2⟩)
set_option maxRecDepth 100000 in
set_option maxHeartbeats 8000000 in
theorem line_c (s : ByteArray) (hs : s.size ≤ 1048576) (g : Nat) (es : List Entry) (st : Int) (n m b : Nat) (hG : Good s es st n) (hm : Hid (es.length = m)) (hb0 : b ≤ g) (w : World) (hRS : RS s g es st n m b w) :
   Calls Tryz.prog 212 #[.pointer (some ⟨g, 0, none⟩)] w (OutLi s g es st n m b w) := by
 obtain ⟨i0, hi0, hz0, hz1, hz2⟩ := info_parts (P := Tryz.prog) (e := 141) (z := .agg #[.int .i64 0, .string ByteArray.empty, .int .i64 0]) (size := 3) (bytes := 32) info_EntryX
 obtain ⟨A, c, hB, hown, hne⟩ := hRS
 have hgw : g < w.heap.size := hB.lt
 have hownlt := qH (own_lt hown)
 have hn := hG.le
 have hmb : m ≤ 1048576 := by have := hG.few; have := hm.out; omega
 have hdl := qH (show (s.data.toList.drop n).length = s.size - n by rw [List.length_drop, bytes_len])
 obtain ⟨E, hE⟩ : ∃ E, E = n + nl10 (s.data.toList.drop n) := ⟨_, rfl⟩
 have hEs : E ≤ s.size := by have := nl10_le (s.data.toList.drop n); rw [hdl.out] at this; omega
 have hnE : n ≤ E := by omega
 have HE := qH hE
 clear hE
 have k0 : w.cell? ⟨g, 0, none⟩ = some (.string s) := hB.cell 0
 have k1 : w.cell? ⟨g, 1, none⟩ = some (.int .i64 n) := hB.cell 1
 go_enter Tryz.func212, Tryz.ntmps212
 go_wp2_with fail
 go_loop [3] (fun e => ∃ q : Nat, n ≤ q ∧ q ≤ E ∧ e = .int .i64 q) (fun e => s.size - (intOf e).toNat)
 case atStart => exact ⟨n, by omega, hnE, rfl⟩
 case round =>
   obtain ⟨q, hq0, hq1, rfl⟩ := hrel
   by_cases hlt : q < E
   · have hqs : q < s.size := by omega
     have hb10 : ((s[q].toNat : Int) != 10) = true := by
       rw [bne_iff_ne]
       intro h
       have hx : (s.data.toList.drop n)[q - n]? = some s[q] := by rw [List.getElem?_drop, show n + (q - n) = q from by omega]; exact byte_at hqs
       have := nl10_ne _ (q - n) s[q] (by have := HE.out; omega) hx
       exact this (UInt8.toNat_inj.1 (by rw [show (10 : UInt8).toNat = 10 from rfl]; omega))
     go_wp2_with fail
     exact ⟨⟨q + 1, by omega, by omega, by go_num⟩, by simp [intOf]; omega⟩
   have hqE : q = E := by omega
   subst hqE
   by_cases hk : q < s.size
   case neg =>
     have HS := qH (stepL_short (l := s.data.toList.drop n) (es := es) (st := st) (by rw [hdl.out]; have := HE.out; omega))
     go_wp2_with fail
     go_returns
     exact .inl ⟨HS.out, rfl, ⟨A, c, hB, hown, hne⟩, Below.refl _ _⟩
   have hb10 : ((s[q].toNat : Int) != 10) = false := by
     have hx : (s.data.toList.drop n)[q - n]? = some s[q] := by rw [List.getElem?_drop, show n + (q - n) = q from by omega]; exact byte_at hk
     have h2 := nl10_at (s.data.toList.drop n) (by rw [hdl.out]; have := HE.out; omega)
     have h3 : q - n = nl10 (s.data.toList.drop n) := by have := HE.out; omega
     rw [h3, h2] at hx
     have h4 : s[q] = 10 := (Option.some.inj hx).symm
     rw [h4]; rfl
   have HKL := qH (show nl10 (s.data.toList.drop n) < (s.data.toList.drop n).length by rw [hdl.out]; have := HE.out; omega)
   have hnI : (n : Int) ≤ (q : Int) := by omega
   have hqI : (q : Int) ≤ (s.size : Int) := by omega
   go_wp2_with fail
   clear hb10 k0 k1
   obtain ⟨ln, hln⟩ : ∃ ln, s.extract n q = ln := ⟨_, rfl⟩
   have hlz : ln.size ≤ 1048576 := by rw [← hln]; simp; omega
   have HLD := qH (show ln.data.toList = (s.data.toList.drop n).take (nl10 (s.data.toList.drop n)) by rw [← hln, extract_data]; congr 1; have := HE.out; omega)
   have HSP : Hid (∀ w, Calls Tryz.prog 40 #[.string ln, .int .u8 32] w (OutC 9 1 (splC 32 ln).length ((splC 32 ln).map Value.string) w)) := qH (fun w => l01Split_c 32 ln hlz w)
   have HLN := qH hln
   replace hB := hB.below (Below.refl w.heap.size w).drew
   replace hown := own_below hown (Below.refl w.heap.size w).drew
   have hv : Below w.heap.size w w.drew := (Below.refl w.heap.size w).drew
   refine wp_region_held_drew (S := fun w' => Blk w' g 201 (RV s n st A m c)) (by kernel_rfl) ?_ (fun hHeld => ?_)
   · exact hB
   refine zU 0 40 rfl (by assumption) ?_
   try simp only [Act.put, zA, zB, zC]
   refine zU 1 41 rfl (by assumption) ?_
   try simp only [Act.put, zA, zB, zC]
   refine zU 2 42 rfl (by assumption) ?_
   try simp only [Act.put, zA, zB, zC]
   refine zT 3 43 ?_ rfl ?_ (by assumption) ?_
   rotate_left
   · intro w hSw
     try dsimp only at hSw
     obtain ⟨k0, k1, k2, k3⟩ := qC4 hSw
     go_simp
     try with_reducible rfl
   try simp only [Act.put, zA, zB, zC]
   refine zU 4 44 rfl (by assumption) ?_
   try simp only [Act.put, zA, zB, zC]
   refine zU 5 45 rfl (by assumption) ?_
   try simp only [Act.put, zA, zB, zC]
   refine zU 6 46 rfl (by assumption) ?_
   try simp only [Act.put, zA, zB, zC]
   refine zT 7 47 ?_ rfl ?_ (by assumption) ?_
   rotate_left
   · intro w hSw
     try dsimp only at hSw
     obtain ⟨k0, k1, k2, k3⟩ := qC4 hSw
     go_simp
     try with_reducible rfl
   try simp only [Act.put, zA, zB, zC]
   refine zU 8 48 rfl (by assumption) ?_
   try simp only [Act.put, zA, zB, zC]
   refine zU 9 49 rfl (by assumption) ?_
   try simp only [Act.put, zA, zB, zC]
   refine zR 10 (some 50) rfl (fun K hK => ?_)
   go_simp
   (try dsimp only at hHeld); go_split_ands
   refine (HSP.out _).mono ?_
   rintro e W1 ⟨A4, c4, rfl, hown4, hb⟩
   replace hv := bl_trans hv hb
   replace hB := hB.below hb
   replace hown := own_below hown hb
   clear hb
   go_wp2_with fail
   refine hK.out _ _ ?_ (fun hHeld => ?_)
   · (try dsimp only); go_split_ands; exact hB
   clear hK K
   try simp only [Act.put, zA, zB, zC]
   refine zU 11 4 rfl (by assumption) ?_
   try simp only [Act.put, zA, zB, zC]
   refine wpAnyH_done (by kernel_rfl) ?_ _
   clear hHeld hln
   by_cases h4 : (splC 32 ln).length = 4
   case neg =>
     have HS := qH (stepL_bad (l := s.data.toList.drop n) (es := es) (st := st) (by rw [← HLD.out]; exact linE_no h4))
     have h4' : ¬ ((splC 32 ln).length : Int) = 4 := by omega
     generalize (splC 32 ln).length = L at h4 h4' hown4 ⊢
     go_wp2_with fail
     go_returns
     exact .inl ⟨HS.out, rfl, ⟨A, c, hB, hown, hne⟩, hv.mono (by omega)⟩
   obtain ⟨p0, p1, p2, p3, hq4⟩ := four_of (s := ln) h4
   have hz0' := splB_part (s := ln) (x := p0) (by rw [hq4]; simp)
   have hz1' := splB_part (s := ln) (x := p1) (by rw [hq4]; simp)
   have hz2' := splB_part (s := ln) (x := p2) (by rw [hq4]; simp)
   have hz3' := splB_part (s := ln) (x := p3) (by rw [hq4]; simp)
   have HL := qH (linE_four hq4)
   have hq5 : splC 32 ln = [p0, p1, p2, p3] := hq4
   rw [hq5] at hown4 ⊢
   simp only [List.length_cons, List.length_nil, List.map_cons, List.map_nil] at hown4 ⊢
   have HQ4 := qH hq5
   clear hq4 hq5 h4
   obtain ⟨g4, rfl⟩ := own_addr hown4 (by omega)
   obtain ⟨ba0, ba1⟩ := numV_bd p0
   obtain ⟨bc0, bc1⟩ := numV_bd p2
   have HA := qH (fun w => l01Number_c p0 (by omega) w)
   have HC := qH (fun w => l01Number_c p2 (by omega) w)
   obtain ⟨oa, hoa⟩ : ∃ o, o = okN p0.data.toList := ⟨_, rfl⟩
   obtain ⟨oc, hoc⟩ : ∃ o, o = okN p2.data.toList := ⟨_, rfl⟩
   obtain ⟨na, hna⟩ : ∃ o, o = numV p0 := ⟨_, rfl⟩
   obtain ⟨nc, hnc⟩ : ∃ o, o = numV p2 := ⟨_, rfl⟩
   rw [← hoa, ← hna] at HA
   rw [← hoc, ← hnc] at HC
   rw [← hoa, ← hoc, ← hna, ← hnc] at HL
   rw [← hna] at ba0 ba1
   rw [← hnc] at bc0 bc1
   have HOA := qH hoa
   have HOC := qH hoc
   have HNA := qH hna
   have HNC := qH hnc
   clear hoa hoc hna hnc
   have s0 : W1.cell? ⟨g4, 0, none⟩ = some (.string p0) := hown4.cellAt 0 (by omega)
   go_wp2_with fail
   refine (HA.out _).mono ?_
   rintro e W2 ⟨rfl, hb⟩
   replace hv := bl_trans hv hb
   replace hB := hB.below hb
   replace hown := own_below hown hb
   replace hown4 := own_below hown4 hb
   clear hb s0
   have s2 : W2.cell? ⟨g4, 2, none⟩ = some (.string p2) := hown4.cellAt 2 (by omega)
   go_wp2_with fail
   refine (HC.out _).mono ?_
   rintro e W3 ⟨rfl, hb⟩
   replace hv := bl_trans hv hb
   replace hB := hB.below hb
   replace hown := own_below hown hb
   replace hown4 := own_below hown4 hb
   clear hb s2
   have s1 : W3.cell? ⟨g4, 1, none⟩ = some (.string p1) := hown4.cellAt 1 (by omega)
   obtain ⟨W4, hW4⟩ : ∃ W4, W4 = W3.alloc (Obj.cells #[.int .i64 na, .string p1, .int .i64 nc] 141) := ⟨_, rfl⟩
   obtain ⟨gX, hgX⟩ : ∃ gX, gX = W3.heap.size := ⟨_, rfl⟩
   have hX : Blk W4 gX 141 #[.int .i64 na, .string p1, .int .i64 nc] := by rw [hW4, hgX]; exact Blk.new _ _ _
   have hXw : w.heap.size ≤ gX := by rw [hgX]; exact hv.size
   have hb : Below W3.heap.size W3 W4 := by rw [hW4]; exact bl_alloc (Below.refl _ _) _
   go_wp2_with fail
   rw [← hW4, ← hgX]
   clear hW4 hgX s1 hown4
   replace hv := (bl_trans hv hb).drew
   replace hB := (hB.below hb).below (Below.refl W4.heap.size W4).drew
   replace hown := own_below (own_below hown hb) (Below.refl W4.heap.size W4).drew
   replace hX := hX.below (Below.refl W4.heap.size W4).drew
   clear hb
   cases oa
   · have HS := qH (stepL_bad (l := s.data.toList.drop n) (es := es) (st := st) (by rw [← HLD.out, HL.out]; simp))
     refine wp_region_held_drew (S := fun w' => Blk w' g 201 (RV s n st A m c) ∧ Blk w' gX 141 #[Value.int .i64 na, Value.string p1, Value.int .i64 nc]) (by kernel_rfl) ?_ (fun hHeld => ?_)
     · exact ⟨hB, hX⟩
     refine zU 0 74 rfl (by assumption) ?_
     try simp only [Act.put, zA, zB, zC]
     refine zU 1 75 rfl (by assumption) ?_
     try simp only [Act.put, zA, zB, zC]
     refine zU 2 76 rfl (by assumption) ?_
     try simp only [Act.put, zA, zB, zC]
     refine zS 3 77 rfl (by assumption) ?_
     try simp only [Act.put, zA, zB, zC]
     refine zS 4 78 rfl (by assumption) ?_
     try simp only [Act.put, zA, zB, zC]
     refine zU 5 79 rfl (by assumption) ?_
     try simp only [Act.put, zA, zB, zC]
     refine zU 6 80 rfl (by assumption) ?_
     try simp only [Act.put, zA, zB, zC]
     refine zS 7 81 rfl (by assumption) ?_
     try simp only [Act.put, zA, zB, zC]
     refine zS 8 82 rfl (by assumption) ?_
     try simp only [Act.put, zA, zB, zC]
     refine zU 9 83 rfl (by assumption) ?_
     try simp only [Act.put, zA, zB, zC]
     refine zU 10 84 rfl (by assumption) ?_
     try simp only [Act.put, zA, zB, zC]
     refine zS 11 85 rfl (by assumption) ?_
     try simp only [Act.put, zA, zB, zC]
     refine zS 12 86 rfl (by assumption) ?_
     try simp only [Act.put, zA, zB, zC]
     refine zS 13 87 rfl (by assumption) ?_
     try simp only [Act.put, zA, zB, zC]
     refine zS 14 88 rfl (by assumption) ?_
     try simp only [Act.put, zA, zB, zC]
     refine zS 15 89 rfl (by assumption) ?_
     try simp only [Act.put, zA, zB, zC]
     refine zU 16 90 rfl (by assumption) ?_
     try simp only [Act.put, zA, zB, zC]
     refine wpAnyH_done (by kernel_rfl) ?_ _
     clear hHeld
     go_wp2_with fail
     go_returns
     exact .inl ⟨HS.out, rfl, ⟨A, c, hB, hown, hne⟩, hv.mono (by omega)⟩
   cases oc
   · have HS := qH (stepL_bad (l := s.data.toList.drop n) (es := es) (st := st) (by rw [← HLD.out, HL.out]; simp))
     refine wp_region_held_drew (S := fun w' => Blk w' g 201 (RV s n st A m c) ∧ Blk w' gX 141 #[Value.int .i64 na, Value.string p1, Value.int .i64 nc]) (by kernel_rfl) ?_ (fun hHeld => ?_)
     · exact ⟨hB, hX⟩
     refine zU 0 74 rfl (by assumption) ?_
     try simp only [Act.put, zA, zB, zC]
     refine zU 1 75 rfl (by assumption) ?_
     try simp only [Act.put, zA, zB, zC]
     refine zU 2 76 rfl (by assumption) ?_
     try simp only [Act.put, zA, zB, zC]
     refine zU 3 77 rfl (by assumption) ?_
     try simp only [Act.put, zA, zB, zC]
     refine zU 4 78 rfl (by assumption) ?_
     try simp only [Act.put, zA, zB, zC]
     refine zU 5 79 rfl (by assumption) ?_
     try simp only [Act.put, zA, zB, zC]
     refine zU 6 80 rfl (by assumption) ?_
     try simp only [Act.put, zA, zB, zC]
     refine zS 7 81 rfl (by assumption) ?_
     try simp only [Act.put, zA, zB, zC]
     refine zS 8 82 rfl (by assumption) ?_
     try simp only [Act.put, zA, zB, zC]
     refine zU 9 83 rfl (by assumption) ?_
     try simp only [Act.put, zA, zB, zC]
     refine zU 10 84 rfl (by assumption) ?_
     try simp only [Act.put, zA, zB, zC]
     refine zS 11 85 rfl (by assumption) ?_
     try simp only [Act.put, zA, zB, zC]
     refine zS 12 86 rfl (by assumption) ?_
     try simp only [Act.put, zA, zB, zC]
     refine zS 13 87 rfl (by assumption) ?_
     try simp only [Act.put, zA, zB, zC]
     refine zS 14 88 rfl (by assumption) ?_
     try simp only [Act.put, zA, zB, zC]
     refine zS 15 89 rfl (by assumption) ?_
     try simp only [Act.put, zA, zB, zC]
     refine zU 16 90 rfl (by assumption) ?_
     try simp only [Act.put, zA, zB, zC]
     refine wpAnyH_done (by kernel_rfl) ?_ _
     clear hHeld
     go_wp2_with fail
     go_returns
     exact .inl ⟨HS.out, rfl, ⟨A, c, hB, hown, hne⟩, hv.mono (by omega)⟩
   cases hent : entB ⟨na, p1, nc⟩
   · have HS := qH (stepL_bad (l := s.data.toList.drop n) (es := es) (st := st) (by rw [← HLD.out, HL.out]; simp [hent]))
     have hent2 : entB ⟨na, p1, nc⟩ = false := hent
     refine wp_region_held_drew (S := fun w' => Blk w' g 201 (RV s n st A m c) ∧ Blk w' gX 141 #[Value.int .i64 na, Value.string p1, Value.int .i64 nc]) (by kernel_rfl) ?_ (fun hHeld => ?_)
     · exact ⟨hB, hX⟩
     refine zU 0 74 rfl (by assumption) ?_
     try simp only [Act.put, zA, zB, zC]
     refine zU 1 75 rfl (by assumption) ?_
     try simp only [Act.put, zA, zB, zC]
     refine zU 2 76 rfl (by assumption) ?_
     try simp only [Act.put, zA, zB, zC]
     refine zU 3 77 rfl (by assumption) ?_
     try simp only [Act.put, zA, zB, zC]
     refine zU 4 78 rfl (by assumption) ?_
     try simp only [Act.put, zA, zB, zC]
     refine zU 5 79 rfl (by assumption) ?_
     try simp only [Act.put, zA, zB, zC]
     refine zU 6 80 rfl (by assumption) ?_
     try simp only [Act.put, zA, zB, zC]
     refine zR 7 (some 81) rfl (fun K hK => ?_)
     go_simp
     (try dsimp only at hHeld); go_split_ands
     refine (l27Ok_c ⟨gX, 0, none⟩ ⟨na, p1, nc⟩ (show p1.size ≤ _ by omega) _ (hX.cell 0) (hX.cell 1) (hX.cell 2)).mono ?_
     rintro e w' ⟨rfl, rfl⟩
     rw [hent2]
     go_wp2_with fail
     refine hK.out _ _ ?_ (fun hHeld => ?_)
     · (try dsimp only); go_split_ands; exact ⟨hB, hX⟩
     clear hK K
     try simp only [Act.put, zA, zB, zC]
     refine zU 8 82 rfl (by assumption) ?_
     try simp only [Act.put, zA, zB, zC]
     refine zU 9 83 rfl (by assumption) ?_
     try simp only [Act.put, zA, zB, zC]
     refine zU 10 84 rfl (by assumption) ?_
     try simp only [Act.put, zA, zB, zC]
     refine zS 11 85 rfl (by assumption) ?_
     try simp only [Act.put, zA, zB, zC]
     refine zS 12 86 rfl (by assumption) ?_
     try simp only [Act.put, zA, zB, zC]
     refine zS 13 87 rfl (by assumption) ?_
     try simp only [Act.put, zA, zB, zC]
     refine zS 14 88 rfl (by assumption) ?_
     try simp only [Act.put, zA, zB, zC]
     refine zS 15 89 rfl (by assumption) ?_
     try simp only [Act.put, zA, zB, zC]
     refine zU 16 90 rfl (by assumption) ?_
     try simp only [Act.put, zA, zB, zC]
     refine wpAnyH_done (by kernel_rfl) ?_ _
     clear hHeld
     go_wp2_with fail
     go_returns
     exact .inl ⟨HS.out, rfl, ⟨A, c, hB, hown, hne⟩, hv.mono (by omega)⟩
   have hent2 : entB ⟨na, p1, nc⟩ = true := hent
   have HENT := qH hent2
   refine wp_region_held_drew (S := fun w' => Blk w' g 201 (RV s n st A m c) ∧ Blk w' gX 141 #[Value.int .i64 na, Value.string p1, Value.int .i64 nc]) (by kernel_rfl) ?_ (fun hHeld => ?_)
   · exact ⟨hB, hX⟩
   refine zU 0 74 rfl (by assumption) ?_
   try simp only [Act.put, zA, zB, zC]
   refine zU 1 75 rfl (by assumption) ?_
   try simp only [Act.put, zA, zB, zC]
   refine zU 2 76 rfl (by assumption) ?_
   try simp only [Act.put, zA, zB, zC]
   refine zU 3 77 rfl (by assumption) ?_
   try simp only [Act.put, zA, zB, zC]
   refine zU 4 78 rfl (by assumption) ?_
   try simp only [Act.put, zA, zB, zC]
   refine zU 5 79 rfl (by assumption) ?_
   try simp only [Act.put, zA, zB, zC]
   refine zU 6 80 rfl (by assumption) ?_
   try simp only [Act.put, zA, zB, zC]
   refine zR 7 (some 81) rfl (fun K hK => ?_)
   go_simp
   (try dsimp only at hHeld); go_split_ands
   refine (l27Ok_c ⟨gX, 0, none⟩ ⟨na, p1, nc⟩ (show p1.size ≤ _ by omega) _ (hX.cell 0) (hX.cell 1) (hX.cell 2)).mono ?_
   rintro e w' ⟨rfl, rfl⟩
   try rw [hent2]
   go_wp2_with fail
   refine hK.out _ _ ?_ (fun hHeld => ?_)
   · (try dsimp only); go_split_ands; exact ⟨hB, hX⟩
   clear hK K
   try simp only [Act.put, zA, zB, zC]
   refine zU 8 82 rfl (by assumption) ?_
   try simp only [Act.put, zA, zB, zC]
   refine zU 9 83 rfl (by assumption) ?_
   try simp only [Act.put, zA, zB, zC]
   refine zU 10 84 rfl (by assumption) ?_
   try simp only [Act.put, zA, zB, zC]
   refine zU 11 85 rfl (by assumption) ?_
   try simp only [Act.put, zA, zB, zC]
   refine zT 12 86 ?_ rfl ?_ (by assumption) ?_
   rotate_left
   · intro w hSw
     try dsimp only at hSw
     have k0 : w.cell? ⟨g, 0, none⟩ = some (.string s) := hSw.1.cell 0
     have k1 : w.cell? ⟨g, 1, none⟩ = some (.int .i64 n) := hSw.1.cell 1
     have k2 : w.cell? ⟨g, 2, none⟩ = some (.int .i64 st) := hSw.1.cell 2
     have k3 : w.cell? ⟨g, 3, none⟩ = some (.slice A m c) := hSw.1.cell 3
     have x0 : w.cell? ⟨gX, 0, none⟩ = some (.int .i64 na) := hSw.2.cell 0
     have x1 : w.cell? ⟨gX, 1, none⟩ = some (.string p1) := hSw.2.cell 1
     have x2 : w.cell? ⟨gX, 2, none⟩ = some (.int .i64 nc) := hSw.2.cell 2
     go_simp
     try with_reducible rfl
   try simp only [Act.put, zA, zB, zC]
   refine zU 13 87 rfl (by assumption) ?_
   try simp only [Act.put, zA, zB, zC]
   refine zR 14 (some 88) rfl (fun K hK => ?_)
   go_simp
   (try dsimp only at hHeld); go_split_ands
   refine (day_c s g es st n m c A hm hmb _ hB (Arr.own hown)).mono ?_
   rintro e W5 ⟨rfl, hb⟩
   replace hv := bl_trans hv hb
   replace hB := hB.below hb
   replace hown := own_below hown hb
   replace hX := hX.below hb
   clear hb
   try rw [hent2]
   go_wp2_with fail
   refine hK.out _ _ ?_ (fun hHeld => ?_)
   · (try dsimp only); go_split_ands; exact ⟨hB, hX⟩
   clear hK K
   try simp only [Act.put, zA, zB, zC]
   refine zU 15 89 rfl (by assumption) ?_
   try simp only [Act.put, zA, zB, zC]
   refine zU 16 90 rfl (by assumption) ?_
   try simp only [Act.put, zA, zB, zC]
   refine wpAnyH_done (by kernel_rfl) ?_ _
   clear hHeld
   clear hent hent2
   by_cases hday : na < lastD es
   · have hdd : decide (na < lastD es) = true := decide_eq_true hday
     have HS := qH (stepL_cond (l := s.data.toList.drop n) (es := es) (st := st) (by rw [← HLD.out]; exact HL.out) (fun h => by have h2 : lastD es ≤ na := h.2.1; omega))
     go_wp2_with fail
     go_returns
     exact .inl ⟨HS.out, rfl, ⟨A, c, hB, hown, hne⟩, hv.mono (by omega)⟩
   have hdd : decide (na < lastD es) = false := decide_eq_false hday
   have HDAY := qH (show lastD es ≤ na by omega)
   obtain ⟨t0, t1⟩ := stp_bd st ⟨na, p1, nc⟩
   have s0 := hG.s0
   have s1 := hG.s1
   have hwz : (wordsB ⟨na, p1, nc⟩).size ≤ 9223372036854775807 := by have := wordsB_size HENT.out; omega
   have hWD : Hid (∀ w c0 c1 c2, Calls Tryz.prog 174 #[.pointer (some ⟨gX, 0, none⟩)] w (Ret (.string (wordsB ⟨na, p1, nc⟩)) w)) := qH (fun w c0 c1 c2 => l27Words_c ⟨gX, 0, none⟩ ⟨na, p1, nc⟩ HENT.out w c0 c1 c2)
   have hST : Hid (∀ w, Calls Tryz.prog 232 #[.int .i64 st, .string (wordsB ⟨na, p1, nc⟩)] w (RetQ (.int .i64 (stp st ⟨na, p1, nc⟩)) w)) := qH (fun w => l27Stamp_c st _ s0 s1 hwz w)
   have hLN := qH (fun w c0 c1 c2 => l27Line_c (stp st ⟨na, p1, nc⟩) ⟨gX, 0, none⟩ ⟨na, p1, nc⟩ HENT.out t0 t1 w c0 c1 c2)
   have HSAME := qH (line_same (s := s) (n := n) HKL.out (by rw [← HE.out, HLN.out]; exact HQ4.out) (HOA.out.symm) (HOC.out.symm) t0 t1)
   obtain ⟨sv, hsv⟩ : ∃ sv, sv = stp st ⟨na, p1, nc⟩ := ⟨_, rfl⟩
   rw [← HNA.out, ← HNC.out, ← HE.out, ← hsv] at HSAME
   rw [← hsv] at hLN hST t0 t1
   obtain ⟨L1, hL1⟩ : ∃ L1, L1 = lineE sv ⟨na, p1, nc⟩ := ⟨_, rfl⟩
   rw [← hL1] at HSAME hLN
   obtain ⟨wd, hwd⟩ : ∃ wd, wd = wordsB ⟨na, p1, nc⟩ := ⟨_, rfl⟩
   rw [← hwd] at hWD hST
   have HSV := qH hsv
   clear hwd hL1 hsv hwz
   go_wp2_with fail
   replace hv := hv.drew
   replace hB := hB.below (Below.refl W5.heap.size W5).drew
   replace hown := own_below hown (Below.refl W5.heap.size W5).drew
   replace hX := hX.below (Below.refl W5.heap.size W5).drew
   refine wp_region_held_drew (S := fun w' => Blk w' g 201 (RV s n st A m c) ∧ Blk w' gX 141 #[Value.int .i64 na, Value.string p1, Value.int .i64 nc]) (by kernel_rfl) ?_ (fun hHeld => ?_)
   · exact ⟨hB, hX⟩
   refine zU 0 91 rfl (by assumption) ?_
   try simp only [Act.put, zA, zB, zC]
   refine zU 1 92 rfl (by assumption) ?_
   try simp only [Act.put, zA, zB, zC]
   refine zU 2 93 rfl (by assumption) ?_
   try simp only [Act.put, zA, zB, zC]
   refine zT 3 94 ?_ rfl ?_ (by assumption) ?_
   rotate_left
   · intro w hSw
     try dsimp only at hSw
     have k0 : w.cell? ⟨g, 0, none⟩ = some (.string s) := hSw.1.cell 0
     have k1 : w.cell? ⟨g, 1, none⟩ = some (.int .i64 n) := hSw.1.cell 1
     have k2 : w.cell? ⟨g, 2, none⟩ = some (.int .i64 st) := hSw.1.cell 2
     have k3 : w.cell? ⟨g, 3, none⟩ = some (.slice A m c) := hSw.1.cell 3
     have x0 : w.cell? ⟨gX, 0, none⟩ = some (.int .i64 na) := hSw.2.cell 0
     have x1 : w.cell? ⟨gX, 1, none⟩ = some (.string p1) := hSw.2.cell 1
     have x2 : w.cell? ⟨gX, 2, none⟩ = some (.int .i64 nc) := hSw.2.cell 2
     go_simp
     try with_reducible rfl
   try simp only [Act.put, zA, zB, zC]
   refine zR 4 (some 95) rfl (fun K hK => ?_)
   go_simp
   (try dsimp only at hHeld); go_split_ands
   refine (hWD.out _ (hX.cell 0) (hX.cell 1) (hX.cell 2)).mono ?_
   rintro e W6 ⟨rfl, hb⟩
   replace hv := bl_trans hv hb
   replace hB := hB.below hb
   replace hown := own_below hown hb
   replace hX := hX.below hb
   clear hb
   go_wp2_with fail
   refine hK.out _ _ ?_ (fun hHeld => ?_)
   · (try dsimp only); go_split_ands; exact ⟨hB, hX⟩
   clear hK K
   try simp only [Act.put, zA, zB, zC]
   refine zR 5 (some 96) rfl (fun K hK => ?_)
   go_simp
   (try dsimp only at hHeld); go_split_ands
   refine (hST.out _).mono ?_
   rintro e w' ⟨rfl, hq⟩
   rw [hq]
   clear hq w'
   go_wp2_with fail
   refine hK.out _ _ ?_ (fun hHeld => ?_)
   · (try dsimp only); go_split_ands; exact ⟨hB, hX⟩
   clear hK K
   try simp only [Act.put, zA, zB, zC]
   refine zU 6 10 rfl (by assumption) ?_
   try simp only [Act.put, zA, zB, zC]
   refine wpAnyH_done (by kernel_rfl) ?_ _
   clear hHeld
   have hq1 : (0 : Int) ≤ (q : Int) + 1 := by omega
   have hq2 : (q : Int) + 1 ≤ (s.size : Int) := by omega
   have hq3 : (n : Int) ≤ (q : Int) + 1 := by omega
   have hq4 : ((q : Int) + 1).toNat = q + 1 := by omega
   have hw1 : IntKind.i64.wrap ((q : Int) + 1) = (q : Int) + 1 := IntWalk.i64_in _ (by omega)
   obtain ⟨L2, hL2⟩ : ∃ L2, s.extract n (q + 1) = L2 := ⟨_, rfl⟩
   rw [hL2] at HSAME
   obtain ⟨bq, hbq⟩ : ∃ bq, (L1.toList == L2.toList) = bq := ⟨_, rfl⟩
   have HBQ := qH (hbq.symm.trans (bytes_beq L1 L2))
   go_wp2_with fail
   replace hv := hv.drew
   replace hB := hB.below (Below.refl W6.heap.size W6).drew
   replace hown := own_below hown (Below.refl W6.heap.size W6).drew
   replace hX := hX.below (Below.refl W6.heap.size W6).drew
   refine wp_region_held_drew (S := fun w' => Blk w' g 201 (RV s n st A m c) ∧ Blk w' gX 141 #[Value.int .i64 na, Value.string p1, Value.int .i64 nc]) (by kernel_rfl) ?_ (fun hHeld => ?_)
   · exact ⟨hB, hX⟩
   refine zU 0 97 rfl (by assumption) ?_
   try simp only [Act.put, zA, zB, zC]
   refine zU 2 99 rfl (by assumption) ?_
   try simp only [Act.put, zA, zB, zC]
   refine zU 3 100 rfl (by assumption) ?_
   try simp only [Act.put, zA, zB, zC]
   refine zU 4 101 rfl (by assumption) ?_
   try simp only [Act.put, zA, zB, zC]
   refine zT 5 102 ?_ rfl ?_ (by assumption) ?_
   rotate_left
   · intro w hSw
     try dsimp only at hSw
     have k0 : w.cell? ⟨g, 0, none⟩ = some (.string s) := hSw.1.cell 0
     have k1 : w.cell? ⟨g, 1, none⟩ = some (.int .i64 n) := hSw.1.cell 1
     have k2 : w.cell? ⟨g, 2, none⟩ = some (.int .i64 st) := hSw.1.cell 2
     have k3 : w.cell? ⟨g, 3, none⟩ = some (.slice A m c) := hSw.1.cell 3
     have x0 : w.cell? ⟨gX, 0, none⟩ = some (.int .i64 na) := hSw.2.cell 0
     have x1 : w.cell? ⟨gX, 1, none⟩ = some (.string p1) := hSw.2.cell 1
     have x2 : w.cell? ⟨gX, 2, none⟩ = some (.int .i64 nc) := hSw.2.cell 2
     go_simp
     try with_reducible rfl
   try simp only [Act.put, zA, zB, zC]
   refine zU 6 103 rfl (by assumption) ?_
   try simp only [Act.put, zA, zB, zC]
   refine zU 7 104 rfl (by assumption) ?_
   try simp only [Act.put, zA, zB, zC]
   refine zU 8 105 rfl (by assumption) ?_
   try simp only [Act.put, zA, zB, zC]
   refine zT 9 106 ?_ rfl ?_ (by assumption) ?_
   rotate_left
   · intro w hSw
     try dsimp only at hSw
     have k0 : w.cell? ⟨g, 0, none⟩ = some (.string s) := hSw.1.cell 0
     have k1 : w.cell? ⟨g, 1, none⟩ = some (.int .i64 n) := hSw.1.cell 1
     have k2 : w.cell? ⟨g, 2, none⟩ = some (.int .i64 st) := hSw.1.cell 2
     have k3 : w.cell? ⟨g, 3, none⟩ = some (.slice A m c) := hSw.1.cell 3
     have x0 : w.cell? ⟨gX, 0, none⟩ = some (.int .i64 na) := hSw.2.cell 0
     have x1 : w.cell? ⟨gX, 1, none⟩ = some (.string p1) := hSw.2.cell 1
     have x2 : w.cell? ⟨gX, 2, none⟩ = some (.int .i64 nc) := hSw.2.cell 2
     go_simp
     try with_reducible rfl
   try simp only [Act.put, zA, zB, zC]
   refine zU 10 107 rfl (by assumption) ?_
   try simp only [Act.put, zA, zB, zC]
   refine zU 11 108 rfl (by assumption) ?_
   try simp only [Act.put, zA, zB, zC]
   refine zU 12 109 rfl (by assumption) ?_
   try simp only [Act.put, zA, zB, zC]
   refine zR 1 (some 98) rfl (fun K hK => ?_)
   go_simp
   (try dsimp only at hHeld); go_split_ands
   refine (hLN.out _ (hX.cell 0) (hX.cell 1) (hX.cell 2)).mono ?_
   rintro e W7 ⟨rfl, hb⟩
   replace hv := bl_trans hv hb
   replace hB := hB.below hb
   replace hown := own_below hown hb
   replace hX := hX.below hb
   clear hb
   go_wp2_with fail
   refine hK.out _ _ ?_ (fun hHeld => ?_)
   · (try dsimp only); go_split_ands; exact ⟨hB, hX⟩
   clear hK K
   try simp only [Act.put, zA, zB, zC]
   refine zU 13 110 rfl (by assumption) ?_
   try simp only [Act.put, zA, zB, zC]
   refine wpAnyH_done (by kernel_rfl) ?_ _
   clear hHeld
   clear hw1 hL2 hbq
   cases bq
   case false =>
     have h12 : ¬ L1 = L2 := of_decide_eq_false HBQ.out.symm
     have HS := qH (stepL_cond (l := s.data.toList.drop n) (es := es) (st := st) (by rw [← HLD.out]; exact HL.out) (fun h => h12 (HSAME.out.2 (by
       have h1 := h.1
       simp only [Bool.true_and, Bool.and_eq_true] at h1
       exact ⟨h1.1, by rw [HSV.out]; exact h.2.2.symm⟩))))
     clear h12
     go_wp2_with fail
     go_returns
     exact .inl ⟨HS.out, rfl, ⟨A, c, hB, hown, hne⟩, hv.mono (by omega)⟩
   have h12 : L1 = L2 := of_decide_eq_true HBQ.out.symm
   have HS := qH (stepL_yes (es := es) (st := st) HKL.out (show linE ((s.data.toList.drop n).take (nl10 (s.data.toList.drop n))) = some (⟨na, p1, nc⟩, numV p3) by
     rw [← HLD.out, HL.out, (HSAME.out.1 h12).1, HENT.out]; rfl) ⟨HDAY.out, by rw [← HSV.out]; exact (HSAME.out.1 h12).2.symm⟩)
   clear h12
   go_wp2_with fail
   replace hv := hv.drew
   replace hB := hB.below (Below.refl W7.heap.size W7).drew
   replace hown := own_below hown (Below.refl W7.heap.size W7).drew
   replace hX := hX.below (Below.refl W7.heap.size W7).drew
   have hbW : b ≤ W7.drew.heap.size := by
     have h := hv.size
     have h2 : b ≤ w.heap.size := by omega
     exact Nat.le_trans h2 h
   refine wp_region_held_drew (S := fun w' => Blk w' gX 141 #[Value.int .i64 na, Value.string p1, Value.int .i64 nc]) (by kernel_rfl) ?_ (fun hHeld => ?_)
   · exact hX
   refine zU 0 111 rfl (by assumption) ?_
   try simp only [Act.put, zA, zB, zC]
   refine zU 1 112 rfl (by assumption) ?_
   try simp only [Act.put, zA, zB, zC]
   refine zU 2 113 rfl (by assumption) ?_
   try simp only [Act.put, zA, zB, zC]
   refine zU 3 114 rfl (by assumption) ?_
   try simp only [Act.put, zA, zB, zC]
   refine zT 5 116 ?_ rfl ?_ (by assumption) ?_
   rotate_left
   · intro w hSw
     try dsimp only at hSw
     obtain ⟨x0, x1, x2⟩ := qC3 hSw
     go_simp
     try with_reducible rfl
   try simp only [Act.put, zA, zB, zC]
   refine wpAnyH_ready (rs := [4, 6]) (by kernel_rfl) (by simp) ?_
   refine AllReadyH.cons (o := { dst := some 115, op := _, type := _, pos := _, after := _, guard := _ }) rfl (fun K hK => ?_) (AllReadyH.cons (o := { dst := some 117, op := _, type := _, pos := _, after := _, guard := _ }) rfl (fun K hK => ?_) AllReadyH.nil)
   · have k3 : W7.cell? ⟨g, 3, none⟩ = some (.slice A m c) := hB.cell 3
 
     go_simp
     refine hK.out _ _ ?_ (fun hHeld => ?_)
     · exact hX
     clear hK K
     try simp only [Act.put, zA, zB, zC]
     refine zR 6 (some 117) rfl (fun K hK => ?_)
     have x0 : W7.cell? ⟨gX, 0, none⟩ = some (.int .i64 na) := hX.cell 0
     go_simp
     obtain ⟨W8, hW8⟩ : ∃ W8, W8 = (W7.alloc (Obj.cells #[.int .i64 na, .string p1, .int .i64 nc] 141)).drew := ⟨_, rfl⟩
     obtain ⟨gN, hgN⟩ : ∃ gN, gN = W7.heap.size := ⟨_, rfl⟩
     have hN : Blk W8 gN 141 #[.int .i64 na, .string p1, .int .i64 nc] := by rw [hW8, hgN]; exact Blk.new W7 _ _
     have hb : Below W7.drew.heap.size W7.drew W8 := by rw [hW8]; exact bl_alloc (Below.refl W7.drew.heap.size W7.drew) _
     rw [← hgN, ← hW8]
     clear hgN hW8
     replace hv := bl_trans hv hb
     replace hB := hB.below hb
     replace hown := own_below hown hb
     replace hX := hX.below hb
     replace hbW := Nat.le_trans hbW hb.size
     clear hb
     refine hK.out _ _ ?_ (fun hHeld => ?_)
     · exact hX
     clear hK K
     try simp only [Act.put, zA, zB, zC]
     refine zR 7 (some 118) rfl (fun K hK => ?_)
     have HOWN := qH hown
     refine step_append_lies W8 rfl _ _ _ rfl b 141 i0 _ 3 32 Tryz.underlying144 hi0 hz0 hz1 hz2 rfl (by omega) (.slice A m c) m (flat Entry.cells es) (by rfl) hown ⟨gN, 0, none⟩ 1 1 #[Value.int .i64 na, Value.string p1, Value.int .i64 nc].toList (by rfl) rfl (World.news_of_block hN) (by simp [Value.oneCell']) (by omega) (by unfold maxLen; omega) (by omega) hbW W8.heap.size rfl ?_
     intro g9 cap W9 hown9 hg9 hat hlt9
     have hB9 := hB.grown hg9 (fun e => hne g e.symm rfl)
     have hX9 := hX.grown hg9 (fun e => by have := hownlt.out gX e.symm; omega)
     refine hK.out _ _ ?_ (fun hHeld => ?_)
     · exact hX9
     clear hK K
     try simp only [Act.put, zA, zB, zC]
     refine zU 8 119 rfl (by assumption) ?_
     try simp only [Act.put, zA, zB, zC]
     refine zU 9 120 rfl (by assumption) ?_
     try simp only [Act.put, zA, zB, zC]
     refine zR 10 none rfl (fun K hK => ?_)
     have q3 := hB9.frozen 3
     have k3 : W9.cell? ⟨g, 3, none⟩ = some (.slice A m c) := hB9.cell 3
     have hgX2 : gX ≠ g := by omega
     go_simp
     have hB10 := hB9.set_ 3 (.slice (some ⟨g9, 0, none⟩) (m + 1) cap)
     refine hK.out _ _ ?_ (fun hHeld => ?_)
     · exact (hX9.far (p := ⟨g, 3, none⟩) hgX2 _)
     clear hK K
     try simp only [Act.put]
     refine wpAnyH_done (by kernel_rfl) ?_ _
     clear hHeld q3 k3
     have y1 : W9.cell? ⟨g, 1, none⟩ = some (.int .i64 n) := hB9.cell 1
     have y2 : W9.cell? ⟨g, 2, none⟩ = some (.int .i64 st) := hB9.cell 2
     have z1 := hB9.frozen 1
     have z2 := hB9.frozen 2
     have hg9g : g9 ≠ g := by
       rcases hat with h | h
       · exact hne g9 h
       · have h1 := hv.size; omega
     go_wp2_with fail
     go_returns
     have hcast : ((n + (nl10 (s.data.toList.drop n) + 1) : Nat) : Int) = (q : Int) + 1 := by have := HE.out; omega
     have hfl : flat Entry.cells es ++ (#[Value.int .i64 na, Value.string p1, Value.int .i64 nc]).toList = flat Entry.cells (es ++ [⟨na, p1, nc⟩]) := by rw [flat_append, flat_one]; rfl
     have hB11 := ((hB9.set_ 3 (.slice (some ⟨g9, 0, none⟩) (m + 1) cap)).set_ 2 (.int .i64 sv)).set_ 1 (.int .i64 ((q : Int) + 1))
     have hv11 := (((((hv.mono (by omega : b ≤ w.heap.size)).grown hg9 hbW (fun k e => own_at HOWN.out k e)).setCell (p := ⟨g, 3, none⟩) hb0 (.slice (some ⟨g9, 0, none⟩) (m + 1) cap)).setCell (p := ⟨g, 2, none⟩) hb0 (.int .i64 sv)).setCell (p := ⟨g, 1, none⟩) hb0 (.int .i64 ((q : Int) + 1)))
     have hnb : ∀ k, (Value.slice (some ⟨g9, 0, none⟩) (m + 1) cap).ownBlock = some k → k ≠ g := by
       intro k e
       have : g9 = k := by simpa [Value.ownBlock] using e
       rw [← this]; exact hg9g
     have ho11 := own_far (own_far (own_far hown9 (p := ⟨g, 3, none⟩) hnb (.slice (some ⟨g9, 0, none⟩) (m + 1) cap)) (p := ⟨g, 2, none⟩) hnb (.int .i64 sv)) (p := ⟨g, 1, none⟩) hnb (.int .i64 ((q : Int) + 1))
     refine .inr ⟨⟨na, p1, nc⟩, nl10 (s.data.toList.drop n) + 1, HS.out, rfl, ⟨some ⟨g9, 0, none⟩, cap, ?_, by rw [← hfl]; exact ho11, hnb⟩, hv11⟩
     unfold RV
     rw [hcast, ← HSV.out]
     exact hB11
   · go_simp
     obtain ⟨W8, hW8⟩ : ∃ W8, W8 = (W7.alloc (Obj.cells #[.int .i64 na, .string p1, .int .i64 nc] 141)).drew := ⟨_, rfl⟩
     obtain ⟨gN, hgN⟩ : ∃ gN, gN = W7.heap.size := ⟨_, rfl⟩
     have hN : Blk W8 gN 141 #[.int .i64 na, .string p1, .int .i64 nc] := by rw [hW8, hgN]; exact Blk.new W7 _ _
     have hb : Below W7.drew.heap.size W7.drew W8 := by rw [hW8]; exact bl_alloc (Below.refl W7.drew.heap.size W7.drew) _
     rw [← hgN, ← hW8]
     clear hgN hW8
     replace hv := bl_trans hv hb
     replace hB := hB.below hb
     replace hown := own_below hown hb
     replace hX := hX.below hb
     replace hbW := Nat.le_trans hbW hb.size
     clear hb
     refine hK.out _ _ ?_ (fun hHeld => ?_)
     · exact hX
     clear hK K
     try simp only [Act.put, zA, zB, zC]
     refine zR 4 (some 115) rfl (fun K hK => ?_)
     have k3 : W8.cell? ⟨g, 3, none⟩ = some (.slice A m c) := hB.cell 3
 
     go_simp
     refine hK.out _ _ ?_ (fun hHeld => ?_)
     · exact hX
     clear hK K
     try simp only [Act.put, zA, zB, zC]
     refine zR 7 (some 118) rfl (fun K hK => ?_)
     have HOWN := qH hown
     refine step_append_lies W8 rfl _ _ _ rfl b 141 i0 _ 3 32 Tryz.underlying144 hi0 hz0 hz1 hz2 rfl (by omega) (.slice A m c) m (flat Entry.cells es) (by rfl) hown ⟨gN, 0, none⟩ 1 1 #[Value.int .i64 na, Value.string p1, Value.int .i64 nc].toList (by rfl) rfl (World.news_of_block hN) (by simp [Value.oneCell']) (by omega) (by unfold maxLen; omega) (by omega) hbW W8.heap.size rfl ?_
     intro g9 cap W9 hown9 hg9 hat hlt9
     have hB9 := hB.grown hg9 (fun e => hne g e.symm rfl)
     have hX9 := hX.grown hg9 (fun e => by have := hownlt.out gX e.symm; omega)
     refine hK.out _ _ ?_ (fun hHeld => ?_)
     · exact hX9
     clear hK K
     try simp only [Act.put, zA, zB, zC]
     refine zU 8 119 rfl (by assumption) ?_
     try simp only [Act.put, zA, zB, zC]
     refine zU 9 120 rfl (by assumption) ?_
     try simp only [Act.put, zA, zB, zC]
     refine zR 10 none rfl (fun K hK => ?_)
     have q3 := hB9.frozen 3
     have k3 : W9.cell? ⟨g, 3, none⟩ = some (.slice A m c) := hB9.cell 3
     have hgX2 : gX ≠ g := by omega
     go_simp
     have hB10 := hB9.set_ 3 (.slice (some ⟨g9, 0, none⟩) (m + 1) cap)
     refine hK.out _ _ ?_ (fun hHeld => ?_)
     · exact (hX9.far (p := ⟨g, 3, none⟩) hgX2 _)
     clear hK K
     try simp only [Act.put]
     refine wpAnyH_done (by kernel_rfl) ?_ _
     clear hHeld q3 k3
     have y1 : W9.cell? ⟨g, 1, none⟩ = some (.int .i64 n) := hB9.cell 1
     have y2 : W9.cell? ⟨g, 2, none⟩ = some (.int .i64 st) := hB9.cell 2
     have z1 := hB9.frozen 1
     have z2 := hB9.frozen 2
     have hg9g : g9 ≠ g := by
       rcases hat with h | h
       · exact hne g9 h
       · have h1 := hv.size; omega
     go_wp2_with fail
     go_returns
     have hcast : ((n + (nl10 (s.data.toList.drop n) + 1) : Nat) : Int) = (q : Int) + 1 := by have := HE.out; omega
     have hfl : flat Entry.cells es ++ (#[Value.int .i64 na, Value.string p1, Value.int .i64 nc]).toList = flat Entry.cells (es ++ [⟨na, p1, nc⟩]) := by rw [flat_append, flat_one]; rfl
     have hB11 := ((hB9.set_ 3 (.slice (some ⟨g9, 0, none⟩) (m + 1) cap)).set_ 2 (.int .i64 sv)).set_ 1 (.int .i64 ((q : Int) + 1))
     have hv11 := (((((hv.mono (by omega : b ≤ w.heap.size)).grown hg9 hbW (fun k e => own_at HOWN.out k e)).setCell (p := ⟨g, 3, none⟩) hb0 (.slice (some ⟨g9, 0, none⟩) (m + 1) cap)).setCell (p := ⟨g, 2, none⟩) hb0 (.int .i64 sv)).setCell (p := ⟨g, 1, none⟩) hb0 (.int .i64 ((q : Int) + 1)))
     have hnb : ∀ k, (Value.slice (some ⟨g9, 0, none⟩) (m + 1) cap).ownBlock = some k → k ≠ g := by
       intro k e
       have : g9 = k := by simpa [Value.ownBlock] using e
       rw [← this]; exact hg9g
     have ho11 := own_far (own_far (own_far hown9 (p := ⟨g, 3, none⟩) hnb (.slice (some ⟨g9, 0, none⟩) (m + 1) cap)) (p := ⟨g, 2, none⟩) hnb (.int .i64 sv)) (p := ⟨g, 1, none⟩) hnb (.int .i64 ((q : Int) + 1))
     refine .inr ⟨⟨na, p1, nc⟩, nl10 (s.data.toList.drop n) + 1, HS.out, rfl, ⟨some ⟨g9, 0, none⟩, cap, ?_, by rw [← hfl]; exact ho11, hnb⟩, hv11⟩
     unfold RV
     rw [hcast, ← HSV.out]
     exact hB11
end Go.Proofs.YtpiehlfffjhoaaaGreatDoor
