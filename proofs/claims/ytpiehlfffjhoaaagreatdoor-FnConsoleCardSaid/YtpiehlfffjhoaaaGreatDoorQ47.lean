/- Drawn lines for the console: a list of them. -/
import Derived.Test.YtpiehlfffjhoaaaGreatDoorQ0
import Derived.Test.YtpiehlfffjhoaaaGreatDoorQ46
namespace Go.Proofs.YtpiehlfffjhoaaaGreatDoor
open Go.RowKit
def OutLs (w : World) (e : Ending) (w' : World) : Prop := ∃ (A : Option Addr) (L : List ByteArray) (n c : Nat), e = .returned (.slice A n c) ∧ L.length = n ∧ n ≤ 8 ∧ (∀ y ∈ L, lineB y = true) ∧ w'.ownsRow w.heap.size 9 1 (.slice A n c) n (flat scell L) ∧ Below w.heap.size w w'
theorem infoStrCp : (Tryz.prog.info? 9).map (fun i => (i.zero, i.size, i.bytes)) = some (some (.string ByteArray.empty), 1, 16) := by kernel_rfl
theorem grown_over2 {w0 W W2 : World} {g : Nat} {row : Option Nat} (h : w0.grownBy W (some g)) (hg : W.grownBy W2 row) (hr : ∀ k, row = some k → w0.heap.size ≤ k) : w0.grownBy W2 (some g) :=
 ⟨hg.os.trans h.os, hg.tape.trans h.tape, hg.output.trans h.output, Nat.le_trans h.size hg.size, fun i hi hne => (hg.block i (Nat.lt_of_lt_of_le hi h.size) (fun e => by have := hr i e.symm; omega)).trans (h.block i hi hne)⟩
set_option maxRecDepth 100000 in
set_option maxHeartbeats 4000000 in
theorem A2Lines_c (C : Option Addr) (nn cc : Nat) (cs : List UInt8) (hnn : Hid (cs.length = nn)) (hnb : nn ≤ 1048576) (w : World) (hA : Arr w C (cs.map bvS)) (hlt : ∀ ad, C = some ad → ad.block < w.heap.size) : Calls Tryz.prog 7 #[.slice C nn cc] w (OutLs w) := by
 obtain ⟨i0, hi0, hz0, hz1, hz2⟩ := info_parts (P := Tryz.prog) (e := 9) (z := .string ByteArray.empty) (size := 1) (bytes := 16) infoStrCp
 have HL0 := qH hlt
 have HA0 := qH hA
 clear hlt hA
 go_enter Tryz.func7, Tryz.ntmps7
 go_wp2_with fail
 refine (l00From_c C nn cc cs hnn hnb w HA0.out HL0.out).mono ?_
 rintro e W1 ⟨rfl, hS1, hb1⟩
 have HB1 := qH hb1
 have hz1' := hb1.size
 obtain ⟨g, hg⟩ : ∃ z, z = w.heap.size := ⟨_, rfl⟩
 rw [← hg] at hS1 ⊢
 have hgw0 : w.heap.size ≤ g := by omega
 have HGE := qH hg
 clear hg
 have HS1 := qH hS1
 have hgl := hS1.lt
 clear hb1 hS1
 go_upto_region 3 with fail
 obtain ⟨gp, hgp⟩ : ∃ z, z = W1.heap.size := ⟨_, rfl⟩
 obtain ⟨W2, hW2⟩ : ∃ z, z = W1.alloc (Obj.cells #[] 9) := ⟨_, rfl⟩
 have HR0 : Hid (W2.ownsRow W1.heap.size 9 1 (.slice (some ⟨gp, 0, none⟩) 0 0) 0 []) := qH (by rw [hW2, hgp]; exact own_empty W1 W1.heap.size 9 1 (Nat.le_refl _))
 have hb2 : Below W1.heap.size W1 W2 := by rw [hW2]; exact bl_alloc (Below.refl _ _) _
 have HG0 := qH (grown_of_below hb2 (some g))
 have HS2 := qH (HS1.out.below hb2)
 have hz2' := hb2.size
 rw [← hW2, ← hgp]
 clear hW2 hgp hb2
 go_wp2_with fail
 refine (pick_c g _ 9 (by omega) (by omega) _ HS2.out).mono ?_
 rintro e W3 ⟨r, rfl, r0, r1, hS3, hg3⟩
 obtain ⟨kk, rfl⟩ := Int.eq_ofNat_of_zero_le r0
 have hkk : kk ≤ 8 := by omega
 have HS3 := qH hS3
 have HG3 := qH (grown_trans HG0.out hg3)
 have HR3 := qH (HR0.out.kept hg3 (.inr (fun e => by have := own_at HR0.out g e; omega)))
 have hz3 := hg3.size
 clear hS3 hg3 HR0 HG0 HS2 r0 r1
 go_wp2_with fail
 go_loopw [4, 5] (fun v i wr => ∃ (t j kv : Nat) (L : List ByteArray) (A' : Option Addr) (c' : Nat), v = .slice A' j c' ∧ i = .int .i64 kv ∧ j + kv ≤ 8 ∧ t = j ∧ W1.heap.size ≤ wr.heap.size ∧ Hid (L.length = j) ∧ Hid (∀ y ∈ L, lineB y = true) ∧ Hid (wr.ownsRow W1.heap.size 9 1 (.slice A' j c') j (flat scell L)) ∧ Hid (Src wr g (2 + 20 * t)) ∧ Hid (W1.grownBy wr (some g))) (fun _ i _ => (intOf i).toNat)
 case atStart => exact ⟨0, 0, kk, [], _, _, rfl, rfl, by omega, rfl, by omega, qH rfl, qH (fun y hy => by cases hy), HR3, qH (HS3.out.more (by omega)), HG3⟩
 case round =>
 clear HS3 HG3 HR3 hkk
 obtain ⟨t, j, kv, L, A', c', rfl, rfl, hjk, rfl, hzr, HLL, HLB, HR, HS, HG⟩ := hrel
 by_cases hk : 0 < kv
 case neg =>
   obtain rfl : kv = 0 := by omega
   have hk0 : ¬ (0 : Int) < ((0 : Nat) : Int) := by omega
   have hB9 := bl_grown HB1.out HG.out (fun k e => by injection e with e; have := HGE.out; omega)
   have hO9 := own_base HR.out hz1'
   go_wp2_with fail
   go_returns
   exact ⟨A', L, t, c', rfl, HLL.out, by omega, HLB.out, hO9, hB9⟩
 have hk0 : (0 : Int) < (kv : Int) := by omega
 go_wp2_with fail
 refine (l28Line_c g _ (by omega) _ HS.out).mono ?_
 rintro e W4 ⟨y, rfl, hy, hS4, hg4⟩
 replace HS := qH hS4
 replace HR := qH (HR.out.kept hg4 (.inr (fun e => by have := own_at HR.out g e; omega)))
 replace HG := qH (grown_trans HG.out hg4)
 have hz4 := hg4.size
 have HY := qH hy
 clear hS4 hg4 hy
 have hat := own_at HR.out
 go_wp2_with (at_builtin; refine app_own W4 #[.string y] rfl _ _ 24 9 rfl i0 _ 1 16 Tryz.underlying24 hi0 hz0 hz1 hz2 rfl (by omega) W1.heap.size (.slice A' t c') t _ rfl rfl HR.out rfl (by simp [Value.oneCell']) (by unfold maxLen; omega) (by omega) (by omega) ?_; intro A2 c2 w2 hown2 hg5)
 have e9 : flat scell (L ++ [y]) = flat scell L ++ #[Value.string y].toList := by simp [flat, scell]
 rw [← e9] at hown2
 have hz5 := hg5.size
 have HS5 := qH (HS.out.over hg5 (fun i e => by have := hat i e; omega))
 refine ⟨⟨t + 1, t + 1, kv - 1, L ++ [y], A2, c2, rfl, by go_num, by omega, rfl, by omega, qH (by rw [List.length_append, HLL.out]; rfl), qH (fun z hz => ?_), qH hown2, qH (HS5.out.more (by omega)), qH (grown_over2 HG.out hg5 hat)⟩, by simp [intOf]; omega⟩
 rcases List.mem_append.1 hz with hz | hz
 · exact HLB.out z hz
 · obtain rfl : z = y := by simpa using hz
   exact HY.out
end Go.Proofs.YtpiehlfffjhoaaaGreatDoor
