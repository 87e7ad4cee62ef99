/- Styles: the problems of a text, its clauses, the name of a problem, the style of a text, the program's. -/
import Derived.Test.YtihgjmhhpiobbaaGreatDoorStyG
import Derived.Test.YtihgjmhhpiobbaaGreatDoorStyY
namespace Go.Proofs.YtihgjmhhpiobbaaGreatDoor
open Go.RowKit

def OutCk (b : Bool) (L : List ByteArray) (w : World) (e : Ending) (w' : World) : Prop := ∃ (A : Option Addr) (k c : Nat), e = .returned (.tuple #[.slice A k c, .int .i64 (if b = true then 0 else 5)]) ∧ (b = true → k = (tro L).length ∧ Arr w' A (flat TroubleP.cells (tro L))) ∧ Below w.heap.size w w'
def OutCf (b : Bool) (L : List ByteArray) (w : World) (e : Ending) (w' : World) : Prop := ∃ (A : Option Addr) (m c : Nat), e = .returned (.tuple #[.slice A m c, .int .i64 (if b = true then 0 else 5)]) ∧ (b = true → L.length = m ∧ Arr w' A (flat scell L)) ∧ Below w.heap.size w w'
theorem clsOk_few {s : ByteArray} (h : clsOk s = true) : (splC 59 s).length ≤ 12 := by
  unfold clsOk at h
  rw [Bool.and_eq_true, decide_eq_true_eq, decide_eq_true_eq] at h
  exact h.2
set_option maxHeartbeats 1000000 in
theorem CheckStyle_c (s : ByteArray) (hs : s.size ≤ 1048576) (w : World) (hT : Tabs w) : Calls Tryz.prog 17 #[.string s] w (OutCk (clsOk s) (splC 59 s) w) := by
  have HT := Lib.hid hT
  clear hT
  have HC := clausesOf_c s hs w HT.out
  unfold OutCo at HC
  have HPT := Lib.hid (fun t (h : t ∈ splC 59 s) => Nat.le_trans (splC_part h) (by omega : s.size ≤ 4194304))
  have HFW := Lib.hid (fun h => clsOk_few (s := s) h)
  obtain ⟨b, hb⟩ : ∃ z, z = clsOk s := ⟨_, rfl⟩
  obtain ⟨L, hL⟩ : ∃ z, z = splC 59 s := ⟨_, rfl⟩
  rw [← hb, ← hL] at HC HFW
  rw [← hL] at HPT
  rw [← hb, ← hL]
  replace HC := Lib.hid HC
  clear hb hL
  go_enter Tryz.func17, Tryz.ntmps17
  go_wp2_with fail
  refine HC.out.mono ?_
  rintro e W ⟨A, m, c, rfl, hcl, hv⟩
  cases b
  · clear hcl
    go_wp2_with fail
    go_returns
    exact ⟨none, 0, 0, rfl, (fun h => by cases h), hv⟩
  · obtain ⟨hm, hA⟩ := hcl rfl
    have hm12 := HFW.out rfl
    have HTR := Lib.hid (troubles_c A L m c (Lib.hid hm) (by omega) HPT W hA (HT.out.below hv))
    clear hcl hm hA hm12
    go_wp2_with fail
    refine HTR.out.mono ?_
    rintro e W2 ⟨g, k, c2, rfl, hk, hA2, hb⟩
    have HK := Lib.hid hk
    have HA2 := Lib.hid hA2
    clear hk hA2
    go_wp2_with fail
    go_returns
    exact ⟨_, k, c2, rfl, fun _ => ⟨HK.out, HA2.out⟩, bl_trans hv hb⟩
set_option maxHeartbeats 1000000 in
theorem ClausesOf_c (s : ByteArray) (hs : s.size ≤ 1048576) (w : World) (hT : Tabs w) : Calls Tryz.prog 20 #[.string s] w (OutCf (clsOk s) (splC 59 s) w) := by
  have HC := clausesOf_c s hs w hT
  unfold OutCo at HC
  obtain ⟨b, hb⟩ : ∃ z, z = clsOk s := ⟨_, rfl⟩
  obtain ⟨L, hL⟩ : ∃ z, z = splC 59 s := ⟨_, rfl⟩
  rw [← hb, ← hL] at HC
  rw [← hb, ← hL]
  replace HC := Lib.hid HC
  clear hb hL hT
  go_enter Tryz.func20, Tryz.ntmps20
  go_wp2_with fail
  refine HC.out.mono ?_
  rintro e W ⟨A, m, c, rfl, hcl, hv⟩
  cases b
  · clear hcl
    go_wp2_with fail
    go_returns
    exact ⟨none, 0, 0, rfl, (fun h => by cases h), hv⟩
  · have HCL := Lib.hid (hcl rfl)
    clear hcl
    go_wp2_with fail
    go_returns
    exact ⟨_, m, c, rfl, fun _ => HCL.out, hv⟩
def OutTn (w : World) (e : Ending) (w' : World) : Prop := ∃ t : ByteArray, e = .returned (.string t) ∧ 0 < t.size ∧ Below w.heap.size w w'
set_option maxRecDepth 100000 in
set_option maxHeartbeats 1000000 in
theorem TroubleName_c (code : Int) (h1 : 1 ≤ code) (h6 : code ≤ 6) (w : World) : Calls Tryz.prog 22 #[.int .i64 code] w (OutTn w) := by
  have hin : inB code 1 6 = true := inB_true h1 h6
  have HW := within_c code 1 6
  rw [hin] at HW
  clear hin
  have hc : code = 1 ∨ code = 2 ∨ code = 3 ∨ code = 4 ∨ code = 5 ∨ code = 6 := by omega
  rcases hc with rfl | rfl | rfl | rfl | rfl | rfl
  · have hi : ∀ w, (Instr.index 86 (.agg #[.string ⟨#[]⟩, .string ⟨#[119, 111, 114, 100]⟩, .string ⟨#[99, 111, 117, 110, 116]⟩, .string ⟨#[110, 117, 109, 98, 101, 114]⟩, .string ⟨#[110, 97, 109, 101]⟩, .string ⟨#[116, 119, 105, 99, 101]⟩, .string ⟨#[108, 97, 99, 107, 115]⟩]) (.int .i64 1)).run Tryz.prog w = .ok (.string ⟨#[119, 111, 114, 100]⟩) w := fun w => by kernel_rfl
    go_enter Tryz.func22, Tryz.ntmps22
    go_wp2_with fail
    refine (HW _).mono ?_
    rintro e w' ⟨rfl, hq⟩
    rw [hq]
    clear hq w'
    go_wp2_with fail
    go_returns
    exact ⟨_, rfl, by decide, Below.refl _ _⟩
  · have hi : ∀ w, (Instr.index 86 (.agg #[.string ⟨#[]⟩, .string ⟨#[119, 111, 114, 100]⟩, .string ⟨#[99, 111, 117, 110, 116]⟩, .string ⟨#[110, 117, 109, 98, 101, 114]⟩, .string ⟨#[110, 97, 109, 101]⟩, .string ⟨#[116, 119, 105, 99, 101]⟩, .string ⟨#[108, 97, 99, 107, 115]⟩]) (.int .i64 2)).run Tryz.prog w = .ok (.string ⟨#[99, 111, 117, 110, 116]⟩) w := fun w => by kernel_rfl
    go_enter Tryz.func22, Tryz.ntmps22
    go_wp2_with fail
    refine (HW _).mono ?_
    rintro e w' ⟨rfl, hq⟩
    rw [hq]
    clear hq w'
    go_wp2_with fail
    go_returns
    exact ⟨_, rfl, by decide, Below.refl _ _⟩
  · have hi : ∀ w, (Instr.index 86 (.agg #[.string ⟨#[]⟩, .string ⟨#[119, 111, 114, 100]⟩, .string ⟨#[99, 111, 117, 110, 116]⟩, .string ⟨#[110, 117, 109, 98, 101, 114]⟩, .string ⟨#[110, 97, 109, 101]⟩, .string ⟨#[116, 119, 105, 99, 101]⟩, .string ⟨#[108, 97, 99, 107, 115]⟩]) (.int .i64 3)).run Tryz.prog w = .ok (.string ⟨#[110, 117, 109, 98, 101, 114]⟩) w := fun w => by kernel_rfl
    go_enter Tryz.func22, Tryz.ntmps22
    go_wp2_with fail
    refine (HW _).mono ?_
    rintro e w' ⟨rfl, hq⟩
    rw [hq]
    clear hq w'
    go_wp2_with fail
    go_returns
    exact ⟨_, rfl, by decide, Below.refl _ _⟩
  · have hi : ∀ w, (Instr.index 86 (.agg #[.string ⟨#[]⟩, .string ⟨#[119, 111, 114, 100]⟩, .string ⟨#[99, 111, 117, 110, 116]⟩, .string ⟨#[110, 117, 109, 98, 101, 114]⟩, .string ⟨#[110, 97, 109, 101]⟩, .string ⟨#[116, 119, 105, 99, 101]⟩, .string ⟨#[108, 97, 99, 107, 115]⟩]) (.int .i64 4)).run Tryz.prog w = .ok (.string ⟨#[110, 97, 109, 101]⟩) w := fun w => by kernel_rfl
    go_enter Tryz.func22, Tryz.ntmps22
    go_wp2_with fail
    refine (HW _).mono ?_
    rintro e w' ⟨rfl, hq⟩
    rw [hq]
    clear hq w'
    go_wp2_with fail
    go_returns
    exact ⟨_, rfl, by decide, Below.refl _ _⟩
  · have hi : ∀ w, (Instr.index 86 (.agg #[.string ⟨#[]⟩, .string ⟨#[119, 111, 114, 100]⟩, .string ⟨#[99, 111, 117, 110, 116]⟩, .string ⟨#[110, 117, 109, 98, 101, 114]⟩, .string ⟨#[110, 97, 109, 101]⟩, .string ⟨#[116, 119, 105, 99, 101]⟩, .string ⟨#[108, 97, 99, 107, 115]⟩]) (.int .i64 5)).run Tryz.prog w = .ok (.string ⟨#[116, 119, 105, 99, 101]⟩) w := fun w => by kernel_rfl
    go_enter Tryz.func22, Tryz.ntmps22
    go_wp2_with fail
    refine (HW _).mono ?_
    rintro e w' ⟨rfl, hq⟩
    rw [hq]
    clear hq w'
    go_wp2_with fail
    go_returns
    exact ⟨_, rfl, by decide, Below.refl _ _⟩
  · have hi : ∀ w, (Instr.index 86 (.agg #[.string ⟨#[]⟩, .string ⟨#[119, 111, 114, 100]⟩, .string ⟨#[99, 111, 117, 110, 116]⟩, .string ⟨#[110, 117, 109, 98, 101, 114]⟩, .string ⟨#[110, 97, 109, 101]⟩, .string ⟨#[116, 119, 105, 99, 101]⟩, .string ⟨#[108, 97, 99, 107, 115]⟩]) (.int .i64 6)).run Tryz.prog w = .ok (.string ⟨#[108, 97, 99, 107, 115]⟩) w := fun w => by kernel_rfl
    go_enter Tryz.func22, Tryz.ntmps22
    go_wp2_with fail
    refine (HW _).mono ?_
    rintro e w' ⟨rfl, hq⟩
    rw [hq]
    clear hq w'
    go_wp2_with fail
    go_returns
    exact ⟨_, rfl, by decide, Below.refl _ _⟩

def rdS (s : ByteArray) : Style := if clsOk s = true then (if tro (splC 59 s) = [] then foldS zeroS (splC 59 s) else zeroS) else zeroS
def rdC (s : ByteArray) : Int := if clsOk s = true then (if tro (splC 59 s) = [] then 0 else 7) else 5
theorem fold_step {x : Style} {cl : List ByteArray} {j : Nat} {t : ByteArray} (h : cl[j]? = some t) : foldS x (cl.take (j + 1)) = setS (foldS x (cl.take j)) (wrds t) := by
  unfold foldS
  rw [take_at h, List.foldl_append]; rfl
set_option maxRecDepth 100000 in
set_option maxHeartbeats 8000000 in
theorem ReadStyle_c (s : ByteArray) (hs : s.size ≤ 1048576) (w : World) (hT : Tabs w) : Calls Tryz.prog 16 #[.string s] w (RetT #[.agg #[.string (rdS s).upper, .string (rdS s).color, .string (rdS s).lining, .string (rdS s).sole, .int .i64 (rdS s).thick, .int .i64 (rdS s).heel, .int .i64 (rdS s).eyelets, .int .i64 (rdS s).density, .bool (rdS s).double], .int .i64 (rdC s)] w) := by
  have HT := Lib.hid hT
  clear hT
  obtain ⟨W, hW⟩ : ∃ W, W = w.alloc (Obj.cells #[Value.string ⟨#[]⟩, Value.string ⟨#[]⟩, Value.string ⟨#[]⟩, Value.string ⟨#[]⟩, Value.int IntKind.i64 0, Value.int IntKind.i64 0, Value.int IntKind.i64 0, Value.int IntKind.i64 0, Value.bool false] 33) := ⟨_, rfl⟩
  obtain ⟨gr, hgr⟩ : ∃ g, g = w.heap.size := ⟨_, rfl⟩
  have hv : Below w.heap.size w W := by rw [hW]; exact bl_alloc (Below.refl _ _) _
  have hR : Hid (Blk W gr 33 #[Value.string ⟨#[]⟩, Value.string ⟨#[]⟩, Value.string ⟨#[]⟩, Value.string ⟨#[]⟩, Value.int IntKind.i64 0, Value.int IntKind.i64 0, Value.int IntKind.i64 0, Value.int IntKind.i64 0, Value.bool false]) := Lib.hid (by rw [hW, hgr]; exact Blk.new _ _ _)
  have hge : w.heap.size ≤ gr := by omega
  have HC := clausesOf_c s hs W (HT.out.below hv)
  unfold OutCo at HC
  have HPT := Lib.hid (fun t (h : t ∈ splC 59 s) => Nat.le_trans (splC_part h) (by omega : s.size ≤ 4194304))
  have HFW := Lib.hid (fun h => clsOk_few (s := s) h)
  have h1 : rdS s = if clsOk s = true then (if tro (splC 59 s) = [] then foldS zeroS (splC 59 s) else zeroS) else zeroS := rfl
  have h2 : rdC s = if clsOk s = true then (if tro (splC 59 s) = [] then 0 else 7) else 5 := rfl
  obtain ⟨b, hb⟩ : ∃ z, z = clsOk s := ⟨_, rfl⟩
  obtain ⟨L, hL⟩ : ∃ z, z = splC 59 s := ⟨_, rfl⟩
  rw [← hb, ← hL] at HC HFW h1 h2
  rw [← hL] at HPT
  replace HC := Lib.hid HC
  have HPOS := Lib.hid (show 0 < L.length by rw [hL, splC_len]; omega)
  have HW := Lib.hid hW
  have HGR := Lib.hid hgr
  have H1' := Lib.hid h1
  have H2' := Lib.hid h2
  clear hb hL hW hgr h1 h2
  go_enter Tryz.func16, Tryz.ntmps16
  go_upto_region 1 with fail
  rw [← HW.out, ← HGR.out]
  clear HW HGR
  go_wp2_with fail
  refine HC.out.mono ?_
  rintro e W1 ⟨A, m, c, rfl, hcl, hb⟩
  replace hv := bl_trans hv hb
  replace hR := Lib.hid (hR.out.below hb)
  clear hb HC
  cases b
  case false =>
    clear hcl
    have H1 := Lib.hid (show rdS s = zeroS by rw [H1'.out]; rfl)
    have H2 := Lib.hid (show rdC s = 5 by rw [H2'.out]; rfl)
    go_wp2_with (refine wpList_store_row rfl 33 _ _ rfl gr #[Value.string ⟨#[]⟩, Value.string ⟨#[]⟩, Value.string ⟨#[]⟩, Value.string ⟨#[]⟩, Value.int IntKind.i64 0, Value.int IntKind.i64 0, Value.int IntKind.i64 0, Value.int IntKind.i64 0, Value.bool false] rfl rfl 33 #[Value.string ⟨#[]⟩, Value.string ⟨#[]⟩, Value.string ⟨#[]⟩, Value.string ⟨#[]⟩, Value.int IntKind.i64 0, Value.int IntKind.i64 0, Value.int IntKind.i64 0, Value.int IntKind.i64 0, Value.bool false] hR.out (by kernel_rfl) rfl (by simp [Value.oneCell']) ?_)
    refine bodyPost_ret (results_cell_row_tmp (P := Tryz.prog) rfl _ _ gr 33 #[Value.string ⟨#[]⟩, Value.string ⟨#[]⟩, Value.string ⟨#[]⟩, Value.string ⟨#[]⟩, Value.int IntKind.i64 0, Value.int IntKind.i64 0, Value.int IntKind.i64 0, Value.int IntKind.i64 0, Value.bool false] (0, 0) _ rfl ?_ Tryz.underlying33 rfl (by kernel_rfl)) rfl ?_
    · exact setRow_heap _ _ _ _ _ _ hR.out
    · exact RetT.mk (by rw [H1.out, H2.out]; rfl) (below_rowX hv hge _)
  case true =>
  obtain ⟨hm, hA⟩ := hcl rfl
  have hm12 := HFW.out rfl
  rw [hm] at hm12
  have HM := Lib.hid hm
  have HTR := Lib.hid (troubles_c A L m c HM (by omega) HPT W1 hA (HT.out.below hv))
  have HA := Lib.hid hA
  clear hcl hm hA HFW
  go_wp2_with fail
  refine HTR.out.mono ?_
  rintro e W2 ⟨g, k, c2, rfl, hk, _, hb⟩
  replace hv := bl_trans hv hb
  replace hR := Lib.hid (hR.out.below hb)
  replace HA := Lib.hid (HA.out.below hb)
  clear hb HTR
  by_cases ht : tro L = []
  case neg =>
    have hk0 : (0 : Int) < (k : Int) := by
      have := List.length_pos_iff.2 ht
      omega
    have H1 := Lib.hid (show rdS s = zeroS by rw [H1'.out]; simp [ht])
    have H2 := Lib.hid (show rdC s = 7 by rw [H2'.out]; simp [ht])
    clear hk ht
    go_wp2_with (refine wpList_store_row rfl 33 _ _ rfl gr #[Value.string ⟨#[]⟩, Value.string ⟨#[]⟩, Value.string ⟨#[]⟩, Value.string ⟨#[]⟩, Value.int IntKind.i64 0, Value.int IntKind.i64 0, Value.int IntKind.i64 0, Value.int IntKind.i64 0, Value.bool false] rfl rfl 33 #[Value.string ⟨#[]⟩, Value.string ⟨#[]⟩, Value.string ⟨#[]⟩, Value.string ⟨#[]⟩, Value.int IntKind.i64 0, Value.int IntKind.i64 0, Value.int IntKind.i64 0, Value.int IntKind.i64 0, Value.bool false] hR.out (by kernel_rfl) rfl (by simp [Value.oneCell']) ?_)
    refine bodyPost_ret (results_cell_row_tmp (P := Tryz.prog) rfl _ _ gr 33 #[Value.string ⟨#[]⟩, Value.string ⟨#[]⟩, Value.string ⟨#[]⟩, Value.string ⟨#[]⟩, Value.int IntKind.i64 0, Value.int IntKind.i64 0, Value.int IntKind.i64 0, Value.int IntKind.i64 0, Value.bool false] (0, 0) _ rfl ?_ Tryz.underlying33 rfl (by kernel_rfl)) rfl ?_
    · exact setRow_heap _ _ _ _ _ _ hR.out
    · exact RetT.mk (by rw [H1.out, H2.out]; rfl) (below_rowX hv hge _)
  case pos =>
  have hk0 : ¬ (0 : Int) < (k : Int) := by rw [hk, ht]; simp
  obtain rfl : k = 0 := by rw [hk, ht]; rfl
  have H1 := Lib.hid (show rdS s = foldS zeroS L by rw [H1'.out]; simp [ht])
  have H2 := Lib.hid (show rdC s = 0 by rw [H2'.out]; simp [ht])
  have HPR := Lib.hid (fun t (h : t ∈ L) => ((troGo_nil L [] 0).1 (by
    unfold tro at ht
    exact (List.append_eq_nil_iff.1 ht).1)).1 t h)
  clear hk ht H1' H2'
  obtain ⟨ad0, hA0, hab0, _⟩ := HA.out.at_ (j := 0) (by rw [flat_str, List.length_map]; exact HPOS.out)
  subst hA0
  go_upto_region 7 with fail
  obtain ⟨W3, hW3⟩ : ∃ q9, q9 = World.alloc W2 (Obj.cells #[Value.string ⟨#[]⟩, Value.string ⟨#[]⟩, Value.string ⟨#[]⟩, Value.string ⟨#[]⟩, Value.int IntKind.i64 0, Value.int IntKind.i64 0, Value.int IntKind.i64 0, Value.int IntKind.i64 0, Value.bool false] 33) := ⟨_, rfl⟩
  obtain ⟨gx, hgx⟩ : ∃ q9, q9 = W2.heap.size := ⟨_, rfl⟩
  have hX : Hid (Blk W3 gx 33 #[Value.string zeroS.upper, Value.string zeroS.color, Value.string zeroS.lining, Value.string zeroS.sole, Value.int IntKind.i64 zeroS.thick, Value.int IntKind.i64 zeroS.heel, Value.int IntKind.i64 zeroS.eyelets, Value.int IntKind.i64 zeroS.density, Value.bool zeroS.double]) := Lib.hid (by rw [hW3, hgx]; exact Blk.new _ _ _)
  have hb : Below W2.heap.size W2 W3 := by rw [hW3]; exact bl_alloc (Below.refl _ _) _
  have hgrx : gr < gx := by have := hR.out.lt; omega
  have hgex : w.heap.size ≤ gx := by have := hv.size; omega
  have hane : ad0.block ≠ gx := by omega
  rw [← hW3, ← hgx]
  replace hv := bl_trans hv hb
  replace hR := Lib.hid (hR.out.below hb)
  replace HA := Lib.hid (HA.out.below hb)
  clear hb hW3 hgx
  go_wp2_with fail
  have HY0 := Lib.hid (show zeroS = foldS zeroS (L.take 0) from rfl)
  go_loopw [27] (fun i wr => ∃ (j : Nat) (y : Style), j ≤ m ∧ i = .int .i64 j ∧ Hid (y = foldS zeroS (L.take j)) ∧ Hid (Blk wr gx 33 #[Value.string y.upper, Value.string y.color, Value.string y.lining, Value.string y.sole, Value.int IntKind.i64 y.thick, Value.int IntKind.i64 y.heel, Value.int IntKind.i64 y.eyelets, Value.int IntKind.i64 y.density, Value.bool y.double]) ∧ Hid (Blk wr gr 33 #[Value.string ⟨#[]⟩, Value.string ⟨#[]⟩, Value.string ⟨#[]⟩, Value.string ⟨#[]⟩, Value.int IntKind.i64 0, Value.int IntKind.i64 0, Value.int IntKind.i64 0, Value.int IntKind.i64 0, Value.bool false]) ∧ Hid (Arr wr (some ad0) (flat scell L)) ∧ Below w.heap.size w wr) (fun i _ => m - (intOf i).toNat)
  case atStart => exact ⟨0, zeroS, by omega, rfl, HY0, hX, hR, HA, hv⟩
  case round =>
  clear HY0 hX hR HA hv
  obtain ⟨j, y, hj, rfl, HY, hX, hR, HA, hv⟩ := hrel
  have hj0 : (0 : Int) ≤ (j : Int) := by omega
  by_cases hlt : j < m
  case pos =>
    have hj1 : (j : Int) < (m : Int) := by omega
    obtain ⟨t, ht⟩ := get_of_lt (xs := L) (k := j) (by rw [HM.out]; exact hlt)
    obtain ⟨ad, had, _, c0⟩ := scell_at HA.out ht
    injection had with had
    subst had
    have HWT := fun w h => with_c y t (HPT.out t (List.mem_of_getElem? ht)) (Lib.hid (HPR.out t (List.mem_of_getElem? ht))) w h
    have hy := fold_step (x := zeroS) ht
    rw [← HY.out] at hy
    obtain ⟨z, hz⟩ : ∃ q9, q9 = setS y (wrds t) := ⟨_, rfl⟩
    rw [← hz] at HWT hy
    replace HWT := Lib.hid HWT
    have HY2 := Lib.hid hy.symm
    clear hy hz ht
    go_wp2_with (refine wpList_load_row rfl 33 _ rfl gx rfl 33 #[Value.string y.upper, Value.string y.color, Value.string y.lining, Value.string y.sole, Value.int IntKind.i64 y.thick, Value.int IntKind.i64 y.heel, Value.int IntKind.i64 y.eyelets, Value.int IntKind.i64 y.density, Value.bool y.double] (0, 0) _ hX.out Tryz.underlying33 rfl (by kernel_rfl) ?_)
    refine (HWT.out _ (HT.out.below hv)).mono ?_
    rintro e W5 ⟨rfl, hb⟩
    replace hv := bl_trans hv hb
    replace hR := Lib.hid (hR.out.below hb)
    replace hX := Lib.hid (hX.out.below hb)
    replace HA := Lib.hid (HA.out.below hb)
    clear hb HWT
    go_wp2_with (refine wpList_store_row rfl 33 _ _ rfl gx #[Value.string z.upper, Value.string z.color, Value.string z.lining, Value.string z.sole, Value.int IntKind.i64 z.thick, Value.int IntKind.i64 z.heel, Value.int IntKind.i64 z.eyelets, Value.int IntKind.i64 z.density, Value.bool z.double] rfl rfl 33 #[Value.string y.upper, Value.string y.color, Value.string y.lining, Value.string y.sole, Value.int IntKind.i64 y.thick, Value.int IntKind.i64 y.heel, Value.int IntKind.i64 y.eyelets, Value.int IntKind.i64 y.density, Value.bool y.double] hX.out (by kernel_rfl) rfl (by simp [Value.oneCell']) ?_)
    exact ⟨⟨j + 1, z, by omega, by go_num, HY2, Lib.hid (setRow_heap _ _ _ _ _ _ hX.out), Lib.hid ((setRow_other W5 gx gr _ (by omega)).trans hR.out), Lib.hid (HA.out.grown (grown_rowX W5 gx #[Value.string z.upper, Value.string z.color, Value.string z.lining, Value.string z.sole, Value.int IntKind.i64 z.thick, Value.int IntKind.i64 z.heel, Value.int IntKind.i64 z.eyelets, Value.int IntKind.i64 z.density, Value.bool z.double]) (fun ad e h => by injection e with e; subst e; injection h with h; omega)), below_rowX hv hgex _⟩, by simp [intOf]; omega⟩
  case neg =>
  have hjm : j = m := by omega
  subst hjm
  have hj1 : ¬ (j : Int) < (j : Int) := by omega
  have HYF := Lib.hid (show y = foldS zeroS L by rw [HY.out, List.take_of_length_le (by rw [HM.out]; exact Nat.le_refl _)])
  clear HY
  go_wp2_with (first | (refine wpList_load_row rfl 33 _ rfl gx rfl 33 #[Value.string y.upper, Value.string y.color, Value.string y.lining, Value.string y.sole, Value.int IntKind.i64 y.thick, Value.int IntKind.i64 y.heel, Value.int IntKind.i64 y.eyelets, Value.int IntKind.i64 y.density, Value.bool y.double] (0, 0) _ hX.out Tryz.underlying33 rfl (by kernel_rfl) ?_) | (refine wpList_store_row rfl 33 _ _ rfl gr #[Value.string y.upper, Value.string y.color, Value.string y.lining, Value.string y.sole, Value.int IntKind.i64 y.thick, Value.int IntKind.i64 y.heel, Value.int IntKind.i64 y.eyelets, Value.int IntKind.i64 y.density, Value.bool y.double] rfl rfl 33 #[Value.string ⟨#[]⟩, Value.string ⟨#[]⟩, Value.string ⟨#[]⟩, Value.string ⟨#[]⟩, Value.int IntKind.i64 0, Value.int IntKind.i64 0, Value.int IntKind.i64 0, Value.int IntKind.i64 0, Value.bool false] hR.out (by kernel_rfl) rfl (by simp [Value.oneCell']) ?_))
  try simp only [Exit.inBlock, Exit.then]
  refine bodyPost_ret (results_cell_row_tmp (P := Tryz.prog) rfl _ _ gr 33 #[Value.string y.upper, Value.string y.color, Value.string y.lining, Value.string y.sole, Value.int IntKind.i64 y.thick, Value.int IntKind.i64 y.heel, Value.int IntKind.i64 y.eyelets, Value.int IntKind.i64 y.density, Value.bool y.double] (0, 0) _ rfl ?_ Tryz.underlying33 rfl (by kernel_rfl)) rfl ?_
  · exact setRow_heap _ _ _ _ _ _ hR.out
  · exact RetT.mk (by rw [H1.out, H2.out, HYF.out]; rfl) (below_rowX hv hge _)
end Go.Proofs.YtihgjmhhpiobbaaGreatDoor
