/- Lemmas for the law on the console: the parts StyH, CnU, StyN, LogB, LogJ, LgsP, LgsQ, LgsR. -/
import Derived.Test.YtpiehlfffjhoaaaGreatDoorQ0
import Derived.Test.YtpiehlfffjhoaaaGreatDoorQ25
import Derived.Test.YtpiehlfffjhoaaaGreatDoorQ26
import Derived.Test.YtpiehlfffjhoaaaGreatDoorQ19
import Derived.Test.YtpiehlfffjhoaaaGreatDoorQ18
import Derived.Test.YtpiehlfffjhoaaaGreatDoorQ24
import Derived.Test.YtpiehlfffjhoaaaGreatDoorQ7
import Derived.Test.YtpiehlfffjhoaaaGreatDoorQ11
import Derived.Test.YtpiehlfffjhoaaaGreatDoorQ23
import Derived.Lib.SlicesS
import Derived.Deep.RegionHeld3
namespace Go.Proofs.YtpiehlfffjhoaaaGreatDoor
open Go.RowKit
theorem clsOk_few {s : ByteArray} (h : clsOk s = true) : (splC 59 s).length ≤ 12 := by
 unfold clsOk at h
 rw [Bool.and_eq_true, decide_eq_true_eq, decide_eq_true_eq] at h
 exact h.2
def rdS (s : ByteArray) : Style := if clsOk s = true then (if tro (splC 59 s) = [] then foldS zeroS (splC 59 s) else zeroS) else zeroS
def rdC (s : ByteArray) : Int := if clsOk s = true then (if tro (splC 59 s) = [] then 0 else 7) else 5
theorem fold_step {x : Style} {cl : List ByteArray} {j : Nat} {t : ByteArray} (h : cl[j]? = some t) : foldS x (cl.take (j + 1)) = setS (foldS x (cl.take j)) (wrds t) := by
 unfold foldS
 rw [take_at h, List.foldl_append]; rfl
set_option maxRecDepth 100000 in
set_option maxHeartbeats 8000000 in
theorem ReadStyle_c (s : ByteArray) (hs : s.size ≤ 1048576) (w : World) (hT : Tabs w) : Calls Tryz.prog 81 #[.string s] w (RetT #[.agg #[.string (rdS s).upper, .string (rdS s).color, .string (rdS s).lining, .string (rdS s).sole, .int .i64 (rdS s).thick, .int .i64 (rdS s).heel, .int .i64 (rdS s).eyelets, .int .i64 (rdS s).density, .bool (rdS s).double], .int .i64 (rdC s)] w) := by
 have HT := qH hT
 clear hT
 obtain ⟨W, hW⟩ : ∃ W, W = w.alloc (Obj.cells #[.string ⟨#[]⟩, .string ⟨#[]⟩, .string ⟨#[]⟩, .string ⟨#[]⟩, .int .i64 0, .int .i64 0, .int .i64 0, .int .i64 0, .bool false] 30) := ⟨_, rfl⟩
 obtain ⟨gr, hgr⟩ : ∃ g, g = w.heap.size := ⟨_, rfl⟩
 have hv : Below w.heap.size w W := by rw [hW]; exact bl_alloc (Below.refl _ _) _
 have hR : Hid (Blk W gr 30 #[.string ⟨#[]⟩, .string ⟨#[]⟩, .string ⟨#[]⟩, .string ⟨#[]⟩, .int .i64 0, .int .i64 0, .int .i64 0, .int .i64 0, .bool false]) := qH (by rw [hW, hgr]; exact Blk.new _ _ _)
 have hge : w.heap.size ≤ gr := by omega
 have HC := clausesOf_c s hs W (HT.out.below hv)
 unfold OutCo at HC
 have HPT := qH (fun t (h : t ∈ splC 59 s) => Nat.le_trans (splC_part h) (by omega : s.size ≤ 4194304))
 have HFW := qH (fun h => clsOk_few (s := s) h)
 have h1 : rdS s = if clsOk s = true then (if tro (splC 59 s) = [] then foldS zeroS (splC 59 s) else zeroS) else zeroS := rfl
 have h2 : rdC s = if clsOk s = true then (if tro (splC 59 s) = [] then 0 else 7) else 5 := rfl
 obtain ⟨b, hb⟩ : ∃ z, z = clsOk s := ⟨_, rfl⟩
 obtain ⟨L, hL⟩ : ∃ z, z = splC 59 s := ⟨_, rfl⟩
 rw [← hb, ← hL] at HC HFW h1 h2
 rw [← hL] at HPT
 replace HC := qH HC
 have HPOS := qH (show 0 < L.length by rw [hL, splC_len]; omega)
 have HW := qH hW
 have HGR := qH hgr
 have H1' := qH h1
 have H2' := qH h2
 clear hb hL hW hgr h1 h2
 go_enter Tryz.func81, Tryz.ntmps81
 go_upto_region 1 with fail
 rw [← HW.out, ← HGR.out]
 clear HW HGR
 go_wp2_with fail
 refine HC.out.mono ?_
 rintro e W1 ⟨A, m, c, rfl, hcl, hb⟩
 replace hv := bl_trans hv hb
 replace hR := qH (hR.out.below hb)
 clear hb HC
 cases b
 case false =>
   clear hcl
   have H1 := qH (show rdS s = zeroS by rw [H1'.out]; rfl)
   have H2 := qH (show rdC s = 5 by rw [H2'.out]; rfl)
   go_wp2_with (refine wpList_store_row rfl 30 _ _ rfl gr #[.string ⟨#[]⟩, .string ⟨#[]⟩, .string ⟨#[]⟩, .string ⟨#[]⟩, .int .i64 0, .int .i64 0, .int .i64 0, .int .i64 0, .bool false] rfl rfl 30 _ hR.out (by kernel_rfl) rfl (by simp [Value.oneCell']) ?_)
   refine bodyPost_ret (results_cell_row_tmp (P := Tryz.prog) rfl _ _ gr 30 #[Value.string ⟨#[]⟩, Value.string ⟨#[]⟩, Value.string ⟨#[]⟩, Value.string ⟨#[]⟩, Value.int .i64 0, Value.int .i64 0, Value.int .i64 0, Value.int .i64 0, Value.bool false] (0, 0) _ rfl ?_ Tryz.underlying30 rfl (by kernel_rfl)) rfl ?_
   · exact setRow_heap _ _ _ _ _ _ hR.out
   · exact RetT.mk (by rw [H1.out, H2.out]; rfl) (below_rowX hv hge _)
 case true =>
 obtain ⟨hm, hA⟩ := hcl rfl
 have hm12 := HFW.out rfl
 rw [hm] at hm12
 have HM := qH hm
 have HTR := qH (troubles_c A L m c HM (by omega) HPT W1 hA (HT.out.below hv))
 have HA := qH hA
 clear hcl hm hA HFW
 go_wp2_with fail
 refine HTR.out.mono ?_
 rintro e W2 ⟨g, k, c2, rfl, hk, _, hb⟩
 replace hv := bl_trans hv hb
 replace hR := qH (hR.out.below hb)
 replace HA := qH (HA.out.below hb)
 clear hb HTR
 by_cases ht : tro L = []
 case neg =>
   have hk0 : (0 : Int) < (k : Int) := by
     have := List.length_pos_iff.2 ht
     omega
   have H1 := qH (show rdS s = zeroS by rw [H1'.out]; simp [ht])
   have H2 := qH (show rdC s = 7 by rw [H2'.out]; simp [ht])
   clear hk ht
   go_wp2_with (refine wpList_store_row rfl 30 _ _ rfl gr #[.string ⟨#[]⟩, .string ⟨#[]⟩, .string ⟨#[]⟩, .string ⟨#[]⟩, .int .i64 0, .int .i64 0, .int .i64 0, .int .i64 0, .bool false] rfl rfl 30 _ hR.out (by kernel_rfl) rfl (by simp [Value.oneCell']) ?_)
   refine bodyPost_ret (results_cell_row_tmp (P := Tryz.prog) rfl _ _ gr 30 #[Value.string ⟨#[]⟩, Value.string ⟨#[]⟩, Value.string ⟨#[]⟩, Value.string ⟨#[]⟩, Value.int .i64 0, Value.int .i64 0, Value.int .i64 0, Value.int .i64 0, Value.bool false] (0, 0) _ rfl ?_ Tryz.underlying30 rfl (by kernel_rfl)) rfl ?_
   · exact setRow_heap _ _ _ _ _ _ hR.out
   · exact RetT.mk (by rw [H1.out, H2.out]; rfl) (below_rowX hv hge _)
 case pos =>
 have hk0 : ¬ (0 : Int) < (k : Int) := by rw [hk, ht]; simp
 obtain rfl : k = 0 := by rw [hk, ht]; rfl
 have H1 := qH (show rdS s = foldS zeroS L by rw [H1'.out]; simp [ht])
 have H2 := qH (show rdC s = 0 by rw [H2'.out]; simp [ht])
 have HPR := qH (fun t (h : t ∈ L) => ((troGo_nil L [] 0).1 (by
   unfold tro at ht
   exact (List.append_eq_nil_iff.1 ht).1)).1 t h)
 clear hk ht H1' H2'
 obtain ⟨ad0, hA0, hab0, _⟩ := HA.out.at_ (j := 0) (by rw [flat_str, List.length_map]; exact HPOS.out)
 subst hA0
 go_upto_region 7 with fail
 obtain ⟨W3, hW3⟩ : ∃ q9, q9 = World.alloc W2 (Obj.cells #[.string ⟨#[]⟩, .string ⟨#[]⟩, .string ⟨#[]⟩, .string ⟨#[]⟩, .int .i64 0, .int .i64 0, .int .i64 0, .int .i64 0, .bool false] 30) := ⟨_, rfl⟩
 obtain ⟨gx, hgx⟩ : ∃ q9, q9 = W2.heap.size := ⟨_, rfl⟩
 have hX : Hid (Blk W3 gx 30 #[.string zeroS.upper, .string zeroS.color, .string zeroS.lining, .string zeroS.sole, .int .i64 zeroS.thick, .int .i64 zeroS.heel, .int .i64 zeroS.eyelets, .int .i64 zeroS.density, .bool zeroS.double]) := qH (by rw [hW3, hgx]; exact Blk.new _ _ _)
 have hb : Below W2.heap.size W2 W3 := by rw [hW3]; exact bl_alloc (Below.refl _ _) _
 have hgrx : gr < gx := by have := hR.out.lt; omega
 have hgex : w.heap.size ≤ gx := by have := hv.size; omega
 have hane : ad0.block ≠ gx := by omega
 rw [← hW3, ← hgx]
 replace hv := bl_trans hv hb
 replace hR := qH (hR.out.below hb)
 replace HA := qH (HA.out.below hb)
 clear hb hW3 hgx
 go_wp2_with fail
 have HY0 := qH (show zeroS = foldS zeroS (L.take 0) from rfl)
 go_loopw [27] (fun i wr => ∃ (j : Nat) (y : Style), j ≤ m ∧ i = .int .i64 j ∧ Hid (y = foldS zeroS (L.take j)) ∧ Hid (Blk wr gx 30 #[.string y.upper, .string y.color, .string y.lining, .string y.sole, .int .i64 y.thick, .int .i64 y.heel, .int .i64 y.eyelets, .int .i64 y.density, .bool y.double]) ∧ Hid (Blk wr gr 30 #[.string ⟨#[]⟩, .string ⟨#[]⟩, .string ⟨#[]⟩, .string ⟨#[]⟩, .int .i64 0, .int .i64 0, .int .i64 0, .int .i64 0, .bool false]) ∧ Hid (Arr wr (some ad0) (flat scell L)) ∧ Below w.heap.size w wr) (fun i _ => m - (intOf i).toNat)
 case atStart => exact ⟨0, zeroS, by omega, rfl, HY0, hX, hR, HA, hv⟩
 case round =>
 clear HY0 hX hR HA hv
 obtain ⟨j, y, hj, rfl, HY, hX, hR, HA, hv⟩ := hrel
 have hj0 : (0 : Int) ≤ (j : Int) := by omega
 by_cases hlt : j < m
 case pos =>
   have hj1 : (j : Int) < (m : Int) := by omega
   obtain ⟨t, ht⟩ := get_of_lt (xs := L) (k := j) (by rw [HM.out]; exact hlt)
   obtain ⟨ad, had, _, c0⟩ := scell_at HA.out ht
   injection had with had
   subst had
   have HWT := fun w h => with_c y t (HPT.out t (List.mem_of_getElem? ht)) (qH (HPR.out t (List.mem_of_getElem? ht))) w h
   have hy := fold_step (x := zeroS) ht
   rw [← HY.out] at hy
   obtain ⟨z, hz⟩ : ∃ q9, q9 = setS y (wrds t) := ⟨_, rfl⟩
   rw [← hz] at HWT hy
   replace HWT := qH HWT
   have HY2 := qH hy.symm
   clear hy hz ht
   go_wp2_with (refine wpList_load_row rfl 30 _ rfl gx rfl 30 _ (0, 0) _ hX.out Tryz.underlying30 rfl (by kernel_rfl) ?_)
   refine (HWT.out _ (HT.out.below hv)).mono ?_
   rintro e W5 ⟨rfl, hb⟩
   replace hv := bl_trans hv hb
   replace hR := qH (hR.out.below hb)
   replace hX := qH (hX.out.below hb)
   replace HA := qH (HA.out.below hb)
   clear hb HWT
   go_wp2_with (refine wpList_store_row rfl 30 _ _ rfl gx #[.string z.upper, .string z.color, .string z.lining, .string z.sole, .int .i64 z.thick, .int .i64 z.heel, .int .i64 z.eyelets, .int .i64 z.density, .bool z.double] rfl rfl 30 _ hX.out (by kernel_rfl) rfl (by simp [Value.oneCell']) ?_)
   exact ⟨⟨j + 1, z, by omega, by go_num, HY2, qH (setRow_heap _ _ _ _ _ _ hX.out), qH ((setRow_other W5 gx gr _ (by omega)).trans hR.out), qH (HA.out.grown (grown_rowX W5 gx #[Value.string z.upper, Value.string z.color, Value.string z.lining, Value.string z.sole, Value.int .i64 z.thick, Value.int .i64 z.heel, Value.int .i64 z.eyelets, Value.int .i64 z.density, Value.bool z.double]) (fun ad e h => by injection e with e; subst e; injection h with h; omega)), below_rowX hv hgex _⟩, by simp [intOf]; omega⟩
 case neg =>
 have hjm : j = m := by omega
 subst hjm
 have hj1 : ¬ (j : Int) < (j : Int) := by omega
 have HYF := qH (show y = foldS zeroS L by rw [HY.out, List.take_of_length_le (by rw [HM.out]; exact Nat.le_refl _)])
 clear HY
 go_wp2_with (first | (refine wpList_load_row rfl 30 _ rfl gx rfl 30 _ (0, 0) _ hX.out Tryz.underlying30 rfl (by kernel_rfl) ?_) | (refine wpList_store_row rfl 30 _ _ rfl gr #[.string y.upper, .string y.color, .string y.lining, .string y.sole, .int .i64 y.thick, .int .i64 y.heel, .int .i64 y.eyelets, .int .i64 y.density, .bool y.double] rfl rfl 30 _ hR.out (by kernel_rfl) rfl (by simp [Value.oneCell']) ?_))
 try simp only [Exit.inBlock, Exit.then]
 refine bodyPost_ret (results_cell_row_tmp (P := Tryz.prog) rfl _ _ gr 30 #[Value.string y.upper, Value.string y.color, Value.string y.lining, Value.string y.sole, Value.int .i64 y.thick, Value.int .i64 y.heel, Value.int .i64 y.eyelets, Value.int .i64 y.density, Value.bool y.double] (0, 0) _ rfl ?_ Tryz.underlying30 rfl (by kernel_rfl)) rfl ?_
 · exact setRow_heap _ _ _ _ _ _ hR.out
 · exact RetT.mk (by rw [H1.out, H2.out, HYF.out]; rfl) (below_rowX hv hge _)
structure Dk where
 f : Foot
 xs : List Last
 s : Style
 lg : ByteArray
def Dk.ok (d : Dk) : Bool := deskB d.f d.xs d.s d.lg
def zFoot : Foot := ⟨0, 0, 0, 0⟩
def zDk : Dk := ⟨zFoot, [], zeroS, ⟨#[]⟩⟩
def newDk : Dk := ⟨⟨2500, 2400, 2500, 3200⟩, [], ⟨⟨#[99, 97, 108, 102]⟩, ⟨#[98, 108, 97, 99, 107]⟩, ⟨#[]⟩, ⟨#[108, 101, 97, 116, 104, 101, 114]⟩, 40, 0, 0, 0, false⟩, ⟨#[]⟩⟩
def errT (c : Int) : ByteArray := if c = 0 then ⟨#[111, 107]⟩ else if c = 1 then ⟨#[105, 110, 118, 97, 108, 105, 100]⟩ else if c = 2 then ⟨#[114, 97, 110, 103, 101]⟩ else if c = 3 then ⟨#[110, 111, 116, 45, 102, 111, 117, 110, 100]⟩ else if c = 4 then ⟨#[101, 120, 105, 115, 116, 115]⟩ else if c = 5 then ⟨#[102, 117, 108, 108]⟩ else if c = 6 then ⟨#[115, 116, 97, 116, 101]⟩ else if c = 7 then ⟨#[115, 121, 110, 116, 97, 120]⟩ else if c = 8 then ⟨#[102, 111, 114, 109, 97, 116]⟩ else if c = 9 then ⟨#[99, 108, 97, 115, 104]⟩ else if c = 10 then ⟨#[116, 105, 103, 104, 116]⟩ else ⟨#[]⟩
def errW (c : Int) : ByteArray := ⟨#[101, 114, 114, 111, 114, 32]⟩ ++ errT c
def okW (n : Nat) : ByteArray := ⟨#[111, 107, 32]⟩ ++ decI n
def kAlter : ByteArray := ⟨#[97, 108, 116, 101, 114]⟩
def kClause : ByteArray := ⟨#[99, 108, 97, 117, 115, 101]⟩
def kEnter : ByteArray := ⟨#[101, 110, 116, 101, 114]⟩
def kFit : ByteArray := ⟨#[102, 105, 116]⟩
def kFoot : ByteArray := ⟨#[102, 111, 111, 116]⟩
def kLast : ByteArray := ⟨#[108, 97, 115, 116]⟩
def kLasts : ByteArray := ⟨#[108, 97, 115, 116, 115]⟩
def kLog : ByteArray := ⟨#[108, 111, 103]⟩
def kNeed : ByteArray := ⟨#[110, 101, 101, 100]⟩
def kRaise : ByteArray := ⟨#[114, 97, 105, 115, 101]⟩
def kStyle : ByteArray := ⟨#[115, 116, 121, 108, 101]⟩
def wordsD : List ByteArray := [kAlter, kClause, kEnter, kFit, kFoot, kLast, kLasts, kLog, kNeed, kRaise, kStyle]
def formD (w : ByteArray) : ByteArray := if w = kFoot then ⟨#[119]⟩ else if w = kNeed then ⟨#[119]⟩ else if w = kLast then ⟨#[43]⟩ else if w = kStyle then ⟨#[43]⟩ else if w = kClause then ⟨#[43]⟩ else if w = kFit then ⟨#[110, 110, 110]⟩ else if w = kAlter then ⟨#[119, 119, 119]⟩ else if w = kRaise then ⟨#[110, 110, 110, 110]⟩ else if w = kEnter then ⟨#[110, 119, 110]⟩ else ⟨#[]⟩
def restD (ws : List ByteArray) : ByteArray := joinW ⟨#[32]⟩ (ws.drop 1)
def rowD (l : List Int) : ByteArray := joinW ⟨#[32]⟩ (decL l)
def nthD (ws : List ByteArray) (k : Nat) : ByteArray := ws.getD k ⟨#[]⟩
def numD (ns : List Int) (k : Nat) : Int := ns.getD k 0
abbrev ResD := Dk × List ByteArray × Int
def noD (d : Dk) (c : Int) : ResD := (d, [], c)
def footD (d : Dk) (t : ByteArray) : ResD := match rdFo t with
 | some f => ({ d with f := f }, [footT f], 0)
 | none => noD d 7
def lastD' (d : Dk) (t : ByteArray) : ResD := match rdLa t with
 | some x => if (addP d.xs x).2 = 0 then ({ d with xs := (addP d.xs x).1 }, [deskT d.f (addP d.xs x).1.length], 0) else noD d (addP d.xs x).2
 | none => noD d 7
def lastsD (d : Dk) : ResD := (d, d.xs.map lasT ++ [okW d.xs.length], 0)
def fitD (d : Dk) (a b c : Int) : ResD := if (bstP d.xs d.f a b c).2 = 0 then (d, [((d.xs[(bstP d.xs d.f a b c).1.toNat]?).getD zLast).name], 0) else noD d (bstP d.xs d.f a b c).2
def atD (d : Dk) (nm : ByteArray) : Last := (d.xs[(namP d.xs nm).1.toNat]?).getD zLast
def needD (d : Dk) (nm : ByteArray) : ResD := if (namP d.xs nm).2 = 0 then (d, [rowD (needP (atD d nm) d.f)], 0) else noD d (namP d.xs nm).2
def alterD (d : Dk) (nm t : ByteArray) : ResD := match rdCh t with
 | none => noD d 7
 | some (k, a) => if (namP d.xs nm).2 = 0 then
     (if (aplP (atD d nm) k a).2 = 0 then ({ d with xs := d.xs.set (namP d.xs nm).1.toNat (aplP (atD d nm) k a).1 }, [ltB (aplP (atD d nm) k a).1], 0) else noD d (aplP (atD d nm) k a).2)
   else noD d (namP d.xs nm).2
def styleD (d : Dk) (t : ByteArray) : ResD := if rdC t = 0 then ({ d with s := rdS t }, [textS (rdS t)], 0) else noD d (rdC t)
def clauseD (d : Dk) (t : ByteArray) : ResD := if chgC d.s t = 0 then ({ d with s := chgS d.s t }, [textS (chgS d.s t)], 0) else noD d (chgC d.s t)
def raiseD (d : Dk) (a b c e : Int) : ResD := if (raiP a b c e).2 = 0 then (d, [rowD (raiP a b c e).1], 0) else noD d (raiP a b c e).2
def enterD (d : Dk) (a : Int) (w : ByteArray) (v : Int) : ResD := if (addV d.lg ⟨a, w, v⟩).2 = 0 then ({ d with lg := (addV d.lg ⟨a, w, v⟩).1 }, [decI (valV (addV d.lg ⟨a, w, v⟩).1 w).sum], 0) else noD d (addV d.lg ⟨a, w, v⟩).2
def logD (d : Dk) : ResD := (d, (rdL d.lg).1.map wordsB ++ [okW (rdL d.lg).1.length], 0)
def exeD (d : Dk) (ws : List ByteArray) (ns : List Int) : ResD :=
 if nthD ws 0 = kFoot then footD d (restD ws)
 else if nthD ws 0 = kLast then lastD' d (restD ws)
 else if nthD ws 0 = kLasts then lastsD d
 else if nthD ws 0 = kFit then fitD d (numD ns 0) (numD ns 1) (numD ns 2)
 else if nthD ws 0 = kNeed then needD d (nthD ws 1)
 else if nthD ws 0 = kAlter then alterD d (nthD ws 1) (nthD ws 2 ++ ⟨#[32]⟩ ++ nthD ws 3)
 else if nthD ws 0 = kStyle then styleD d (restD ws)
 else if nthD ws 0 = kClause then clauseD d (restD ws)
 else if nthD ws 0 = kRaise then raiseD d (numD ns 0) (numD ns 1) (numD ns 2) (numD ns 3)
 else if nthD ws 0 = kEnter then enterD d (numD ns 0) (nthD ws 2) (numD ns 1)
 else logD d
def numsD (ws : List ByteArray) : List UInt8 → Nat → Option (List Int)
 | [], _ => some []
 | c :: r, k => if c = 110 then (if okB (nthD ws k) = true then (numsD ws r (k + 1)).map (numV (nthD ws k) :: ·) else none) else numsD ws r (k + 1)
def arityD (ws : List ByteArray) (fm : ByteArray) : Bool := decide (fm.size + 1 ≤ ws.length) && (decide (fm = ⟨#[43]⟩) || decide (ws.length ≤ fm.size + 1))
def runD (d : Dk) (ws : List ByteArray) : ResD := match numsD ws (formD (nthD ws 0)).data.toList 1 with
 | none => (d, [errW 7], 0)
 | some ns => if (exeD d ws ns).2.2 = 0 then ((exeD d ws ns).1, (exeD d ws ns).2.1, 0) else (d, [errW (exeD d ws ns).2.2], 0)
def isD (ws : List ByteArray) : Bool := memB (nthD ws 0) wordsD && arityD ws (formD (nthD ws 0))
def cmdD (d : Dk) (line : ByteArray) : ResD :=
 if d.ok = true then (if isD (splC 32 line) = true then runD d (splC 32 line) else (zDk, [], 7)) else (zDk, [], 1)
theorem ok_parts {d : Dk} (h : d.ok = true) : footB d.f = true ∧ lasB d.xs = true ∧ styB d.s = true ∧ cdL d.lg = 0 := by
 unfold Dk.ok deskB at h
 simp only [Bool.and_eq_true, decide_eq_true_eq] at h
 exact ⟨h.1.1.1, h.1.1.2, h.1.2, h.2⟩
theorem ok_of {d : Dk} (h1 : footB d.f = true) (h2 : lasB d.xs = true) (h3 : styB d.s = true) (h4 : cdL d.lg = 0) : d.ok = true := by
 unfold Dk.ok deskB
 simp only [h1, h2, h3, h4, decide_true, Bool.and_self]
theorem rd_no {s : ByteArray} (h : clsOk s = false) : rdC s = 5 := by unfold rdC; rw [if_neg (by rw [h]; simp)]
theorem rd_bad {s : ByteArray} (h : clsOk s = true) (ht : tro (splC 59 s) ≠ []) : rdC s = 7 := by unfold rdC; rw [if_pos h, if_neg ht]
theorem rd_ok {s : ByteArray} (h : clsOk s = true) (ht : tro (splC 59 s) = []) : rdC s = 0 ∧ styB (rdS s) = true := by
 refine ⟨by unfold rdC; rw [if_pos h, if_pos ht], ?_⟩
 unfold rdS
 rw [if_pos h, if_pos ht]
 exact read_sty ht
theorem itoa_free10 (v : Int) : (10 : UInt8) ∉ Lib.itoa v := by
 have h := itoa_bare v
 have hd := (dig_all v.natAbs).1
 have key : ∀ l : List UInt8, l.all isDig = true → (10 : UInt8) ∉ l := by
   intro l hl hm
   have := List.all_eq_true.1 hl _ hm
   revert this; decide
 intro hm
 rw [← h.1] at hd
 cases hv : Lib.itoa v with
 | nil => rw [hv] at hm; cases hm
 | cons c r =>
   rw [hv] at hm hd
   simp only [bare] at hd
   split at hd
   · rename_i hc
     rcases List.mem_cons.1 hm with h1 | h1
     · rw [hc] at h1; revert h1; decide
     · exact key _ hd h1
   · exact key _ hd hm
theorem name_free10 {s : ByteArray} (h : nameB s = true) : (10 : UInt8) ∉ s.data.toList := by
 intro hm
 simp only [nameB, nameL, Bool.and_eq_true] at h
 have := List.all_eq_true.1 h.2 _ hm
 revert this; decide
theorem entB_name {x : Entry} (h : entB x = true) : nameB x.what = true := by
 simp only [entB, Bool.and_eq_true] at h
 exact h.1.2
def lin0 (s : Int) (x : Entry) : List UInt8 := [32].intercalate [Lib.itoa x.day, x.what.data.toList, Lib.itoa x.value, Lib.itoa s]
theorem lineE_data (s : Int) (x : Entry) : (lineE s x).data.toList = lin0 s x ++ [10] := by
 simp only [lineE, wordsB, decI, bytes_app]
 simp [lin0, List.intercalate]
theorem lin0_free {s : Int} {x : Entry} (h : entB x = true) : (10 : UInt8) ∉ lin0 s x := by
 have hn := name_free10 (entB_name h)
 have h1 := itoa_free10 x.day
 have h2 := itoa_free10 x.value
 have h3 := itoa_free10 s
 rw [Array.mem_toList_iff] at hn
 simp only [lin0, List.intercalate]
 simp
 exact ⟨h1, hn, h2, h3⟩
theorem nl10_app : ∀ (l r : List UInt8), (10 : UInt8) ∉ l → nl10 (l ++ 10 :: r) = l.length := by
 intro l
 induction l with
 | nil => intro r _; rw [List.nil_append, nl10_cons, if_pos rfl]; rfl
 | cons b t ih =>
   intro r h
   simp only [List.mem_cons, not_or] at h
   rw [List.cons_append, nl10_cons, if_neg (fun e => h.1 e.symm), ih r h.2, List.length_cons]
theorem linE_lin0 {s : Int} {x : Entry} (h : entB x = true) (h0 : 0 ≤ s) (h1 : s ≤ 65518) : linE (lin0 s x) = some (x, s) := by
 obtain ⟨d0, d1, v0, v1, _⟩ := entB_bd h
 have hs : spl 32 (lin0 s x) = [Lib.itoa x.day, x.what.data.toList, Lib.itoa x.value, Lib.itoa s] := by
   refine spl_inter _ (by simp) ?_
   intro p hp
   simp only [List.mem_cons, List.not_mem_nil, or_false] at hp
   rcases hp with rfl | rfl | rfl | rfl
   · exact itoa_free _
   · exact name_free (entB_name h)
   · exact itoa_free _
   · exact itoa_free _
 have e1 := okN_itoa (v := x.day) (by omega) (by omega)
 have e2 := okN_itoa (v := x.value) (by omega) (by omega)
 have e3 := okN_itoa (v := s) (by omega) (by omega)
 have hx : (⟨numL (Lib.itoa x.day), ⟨x.what.data.toList.toArray⟩, numL (Lib.itoa x.value)⟩ : Entry) = x := by
   rw [(itoa_bare _).2, (itoa_bare _).2]
 unfold linE
 rw [hs]
 simp only [e1, e2, e3, hx, h, Bool.and_self, if_true, (itoa_bare s).2]
theorem step_line {es : List Entry} {st : Int} {x : Entry} (hx : entB x = true) (hd : lastD es ≤ x.day) (r : List UInt8) : stepL ((lineE (stp st x) x).data.toList ++ r) es st = some (x, (lineE (stp st x) x).size) := by
 have hb := stp_bd st x
 have hl := lineE_data (stp st x) x
 have hz : (lineE (stp st x) x).size = (lin0 (stp st x) x).length + 1 := by rw [← bytes_len, hl]; simp
 have hn : nl10 ((lineE (stp st x) x).data.toList ++ r) = (lin0 (stp st x) x).length := by
   rw [hl, List.append_assoc]
   exact nl10_app _ r (lin0_free hx)
 unfold stepL
 rw [hn, if_pos (by rw [hl]; simp)]
 have ht : ((lineE (stp st x) x).data.toList ++ r).take (lin0 (stp st x) x).length = lin0 (stp st x) x := by rw [hl, List.append_assoc, List.take_left]
 rw [ht, linE_lin0 hx hb.1 hb.2]
 simp only []
 rw [if_pos (by exact ⟨hd, trivial⟩), hz]
theorem stepL_nil (es : List Entry) (st : Int) : stepL [] es st = none := by unfold stepL; rw [if_neg (by simp)]
theorem any_contains (out : List ByteArray) (x : ByteArray) : out.any (fun z => z.toList == x.toList) = Lib.containsS out x := by
 rw [Bool.eq_iff_iff, Lib.containsS_iff, List.any_eq_true]
 constructor
 · rintro ⟨z, hz, h⟩
   rw [bytes_beq, decide_eq_true_eq] at h
   rw [← h]; exact hz
 · intro h
   exact ⟨x, h, by simp⟩
theorem containsS_iff (out : List ByteArray) (x : ByteArray) : Lib.containsS out x = true ↔ x ∈ out := by
 rw [← any_contains, List.any_eq_true]
 constructor
 · rintro ⟨z, hz, h⟩
   rw [beq_iff_eq, bytes_eq_iff] at h
   subst h; exact hz
 · intro h
   exact ⟨x, h, by simp⟩
end Go.Proofs.YtpiehlfffjhoaaaGreatDoor
