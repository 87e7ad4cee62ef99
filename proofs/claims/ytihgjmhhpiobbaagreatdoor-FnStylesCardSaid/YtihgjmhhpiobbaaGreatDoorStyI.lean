/- Styles: the text of a style, the program's. -/
import Derived.Test.YtihgjmhhpiobbaaGreatDoorStyF
import Derived.Test.YtihgjmhhpiobbaaGreatDoorAppF
namespace Go.Proofs.YtihgjmhhpiobbaaGreatDoor
open Go.RowKit

theorem infoStrI : (Tryz.prog.info? 9).map (fun i => (i.zero, i.size, i.bytes)) = some (some (.string ByteArray.empty), 1, 16) := by kernel_rfl
theorem outT_pos (x : Style) : 0 < (outT x).length := by
  unfold outT txts
  rw [List.flatMap_cons, opt_one (by unfold txt0; exact lit_pos _ _ (lit_pos _ _ (lit_pos _ _ (by decide))))]
  simp
theorem text_len {x : Style} (hx : styB x = true) : (Lib.join ((outT x).map (·.data.toList)) [59, 32]).length ≤ 300 := by
  have h := (text_reads hx).1
  unfold textS at h
  simpa [ByteArray.size, Lib.join] using h
theorem out_step {x : Style} {j : Nat} {R : ByteArray} (h : (txts x)[j]? = some R) : ((txts x).take (j + 1)).flatMap optT = ((txts x).take j).flatMap optT ++ optT R := by
  rw [take_at h, List.flatMap_append]; simp
theorem out_len (x : Style) (j : Nat) : (((txts x).take j).flatMap optT).length ≤ j := by
  have key : ∀ L : List ByteArray, (L.flatMap optT).length ≤ L.length := by
    intro L
    induction L with
    | nil => simp
    | cons a r ih =>
      rw [List.flatMap_cons, List.length_append, List.length_cons]
      have : (optT a).length ≤ 1 := by unfold optT; split <;> simp
      omega
  exact Nat.le_trans (key _) (by rw [List.length_take]; omega)
set_option maxRecDepth 100000 in
set_option maxHeartbeats 8000000 in
theorem StyleText_c (x : Style) (hx : Hid (styB x = true)) (w : World) (hT : Tabs w) : Calls Tryz.prog 15 #[.agg #[.string x.upper, .string x.color, .string x.lining, .string x.sole, .int .i64 x.thick, .int .i64 x.heel, .int .i64 x.eyelets, .int .i64 x.density, .bool x.double]] w (Ret (.string (textS x)) w) := by
  obtain ⟨i0, hi0, hz0, hz1, hz2⟩ := info_parts (P := Tryz.prog) (e := 9) (z := .string ByteArray.empty) (size := 1) (bytes := 16) infoStrI
  have HT := Lib.hid hT
  clear hT
  have hsx : Hid (x.upper.size ≤ 4194304 ∧ x.color.size ≤ 4194304 ∧ x.lining.size ≤ 4194304 ∧ x.sole.size ≤ 4194304) := Lib.hid (by have h := (sty_small hx.out).1; omega)
  have V1 := fun w => ValidStyle_c x hsx w
  rw [hx.out] at V1
  replace V1 := Lib.hid V1
  have HCL := Lib.hid (fun t (ht : t ∈ styW) w h => clause_c x hx t ht w h)
  have HTX := Lib.hid (fun k h => clK_txt hx.out k h)
  have HLN := Lib.hid (text_len hx.out)
  obtain ⟨W, hW⟩ : ∃ W, W = w.alloc (Obj.cells #[Value.string x.upper, Value.string x.color, Value.string x.lining, Value.string x.sole, Value.int IntKind.i64 x.thick, Value.int IntKind.i64 x.heel, Value.int IntKind.i64 x.eyelets, Value.int IntKind.i64 x.density, Value.bool x.double] 33) := ⟨_, rfl⟩
  obtain ⟨gx, hgx⟩ : ∃ g, g = w.heap.size := ⟨_, rfl⟩
  have hv : Below w.heap.size w W := by rw [hW]; exact bl_alloc (Below.refl _ _) _
  have hX : Hid (Blk W gx 33 #[Value.string x.upper, Value.string x.color, Value.string x.lining, Value.string x.sole, Value.int IntKind.i64 x.thick, Value.int IntKind.i64 x.heel, Value.int IntKind.i64 x.eyelets, Value.int IntKind.i64 x.density, Value.bool x.double]) := Lib.hid (by rw [hW, hgx]; exact Blk.new _ _ _)
  have HW := Lib.hid hW
  have HGX := Lib.hid hgx
  clear hW hgx
  go_enter Tryz.func15, Tryz.ntmps15
  go_upto_region 1 with fail
  rw [← HW.out, ← HGX.out]
  clear HW HGX
  go_wp2_with (refine wpList_load_row rfl 33 _ rfl gx rfl 33 #[Value.string x.upper, Value.string x.color, Value.string x.lining, Value.string x.sole, Value.int IntKind.i64 x.thick, Value.int IntKind.i64 x.heel, Value.int IntKind.i64 x.eyelets, Value.int IntKind.i64 x.density, Value.bool x.double] (0, 0) _ hX.out Tryz.underlying33 rfl (by kernel_rfl) ?_)
  refine (V1.out _).mono ?_
  rintro e W1 ⟨rfl, hb⟩
  replace hv := bl_trans hv hb
  replace hX := Lib.hid (hX.out.below hb)
  clear hb V1
  have hlx1 : gx < W1.heap.size := hX.out.lt
  go_wp2_with fail
  have hO0 := own_empty W1 w.heap.size 9 1 hv.size
  have hb := bl_alloc (Below.refl W1.heap.size W1) (.cells #[] 9)
  refine (StyleWords_c _).mono ?_
  rintro e W2 ⟨rfl, hq⟩
  obtain ⟨gw, hgw⟩ : ∃ z, z = (W1.alloc (.cells #[] 9)).heap.size := ⟨_, rfl⟩
  have HB : Hid (Blk W2 gw 9 (styW.map Value.string).toArray) := Lib.hid (by rw [hq, hgw]; exact Blk.new _ _ _)
  have hb2 : Below (W1.alloc (.cells #[] 9)).heap.size (W1.alloc (.cells #[] 9)) W2 := by rw [hq]; exact bl_alloc (Below.refl _ _) _
  rw [← hgw]
  have HO := Lib.hid (own_below hO0 hb2)
  have hgl : W1.heap.size < gw := by rw [hgw, World.size_alloc]; omega
  replace hX := Lib.hid ((hX.out.below hb).below hb2)
  replace hv := bl_trans (bl_trans hv hb) hb2
  have HR0 := Lib.hid (show ([] : List ByteArray) = ((txts x).take 0).flatMap optT from rfl)
  obtain ⟨g0, hg0⟩ : ∃ z, z = W1.heap.size := ⟨_, rfl⟩
  rw [← hg0] at HO hgl hlx1 ⊢
  clear hb hb2 hq hgw hO0 hg0
  go_wp2_with fail
  go_loopw [3, 13] (fun v i wr => ∃ (j k g1 c1 : Nat) (ou : List ByteArray), j ≤ 6 ∧ i = .int .i64 j ∧ v = .slice (some ⟨g1, 0, none⟩) k c1 ∧ k ≤ j ∧ g1 ≠ gw ∧ Hid (ou.length = k) ∧ Hid (ou = ((txts x).take j).flatMap optT) ∧ Hid (wr.ownsRow w.heap.size 9 1 (.slice (some ⟨g1, 0, none⟩) k c1) k (flat scell ou)) ∧ Hid (Blk wr gx 33 #[Value.string x.upper, Value.string x.color, Value.string x.lining, Value.string x.sole, Value.int IntKind.i64 x.thick, Value.int IntKind.i64 x.heel, Value.int IntKind.i64 x.eyelets, Value.int IntKind.i64 x.density, Value.bool x.double]) ∧ Hid (Blk wr gw 9 (styW.map Value.string).toArray) ∧ Below w.heap.size w wr ∧ gx < g1) (fun _ i _ => 6 - (intOf i).toNat)
  case atStart => exact ⟨0, 0, g0, 0, [], by omega, rfl, rfl, by omega, by omega, Lib.hid rfl, HR0, HO, hX, HB, hv, hlx1⟩
  case round =>
  clear HO hX HB hv HR0 hgl hlx1
  obtain ⟨j, k, g1, c1, ou, hj, rfl, rfl, hkj, hne, HU, HR, HO, hX, HB, hv, hgx1⟩ := hrel
  have hj0 : (0 : Int) ≤ (j : Int) := by omega
  by_cases hlt : j < 6
  case neg =>
    have hj6 : j = 6 := by omega
    subst hj6
    have hj1 : ¬ ((6 : Nat) : Int) < 6 := by omega
    have hou : ou = outT x := by rw [HR.out]; unfold outT; rw [List.take_of_length_le (by simp [txts])]
    subst hou
    have hk0 : 0 < k := by rw [← HU.out]; exact outT_pos x
    have hgl := own_lt HO.out g1 rfl
    have hcap : k ≤ c1 := by obtain ⟨_, _, e, h, _⟩ := own_form HO.out; injection e with _ _ e3; omega
    have hjn := Tryz.strings_Join g1 0 c1 (outT x) ⟨#[59, 32]⟩ wr (fun i y hy => by
      have hi : i < (outT x).length := (List.getElem?_eq_some_iff.1 hy).1
      have h0 := HO.out.cellAt i (by rw [Nat.mul_one, ← HU.out]; exact hi)
      rw [Nat.zero_add, h0]
      have := flat_get (f := scell) (s := 1) (fun _ => rfl) (outT x) i 0 y hy (by omega)
      rw [Nat.mul_one, Nat.add_zero] at this
      exact this) hgl (by rw [HU.out]; omega) (by rw [HU.out]; exact hcap) (Nat.le_trans HLN.out (by omega))
    rw [HU.out] at hjn
    have HJ := Lib.hid hjn
    clear hjn hk0 hcap hgl
    go_wp2_with fail
    refine HJ.out.mono ?_
    rintro e W3 ⟨rfl, hb3⟩
    go_wp2_with fail
    go_returns
    exact Ret.mk rfl (bl_trans hv hb3)
  case pos =>
  have hj1 : (j : Int) < 6 := by omega
  obtain ⟨t, ht, hk⟩ := styW_nth j hlt
  have c0 : wr.cell? ⟨gw, j, none⟩ = some (.string t) := (HB.out.cell j).trans (by simp [ht])
  have HC := fun w h => HCL.out t (List.mem_of_getElem? ht) w h
  have hR := HTX.out j hlt
  rw [hk] at HC
  obtain ⟨R, hRe⟩ : ∃ z, z = clK (j : Int) x := ⟨_, rfl⟩
  rw [← hRe] at HC hR
  replace HC := Lib.hid HC
  have HS := Lib.hid (out_step hR)
  clear ht hk hR hRe
  go_wp2_with (refine wpList_load_row rfl 33 _ rfl gx rfl 33 #[Value.string x.upper, Value.string x.color, Value.string x.lining, Value.string x.sole, Value.int IntKind.i64 x.thick, Value.int IntKind.i64 x.heel, Value.int IntKind.i64 x.eyelets, Value.int IntKind.i64 x.density, Value.bool x.double] (0, 0) _ hX.out Tryz.underlying33 rfl (by kernel_rfl) ?_)
  refine (HC.out _ (HT.out.below hv)).mono ?_
  rintro e W3 ⟨rfl, hb⟩
  replace hv := bl_trans hv hb
  replace hX := Lib.hid (hX.out.below hb)
  replace HB := Lib.hid (HB.out.below hb)
  replace HO := Lib.hid (own_below HO.out hb)
  clear hb c0 HC
  have hE := empty_beq R
  by_cases h0 : R.size = 0
  · rw [decide_eq_true h0] at hE
    have HS2 := Lib.hid (show ou = ((txts x).take (j + 1)).flatMap optT by rw [HS.out, ← HR.out]; unfold optT; rw [if_pos h0, List.append_nil])
    clear h0 HS
    go_wp2_with fail
    exact ⟨⟨j + 1, k, g1, c1, ou, by omega, by go_num, rfl, by omega, hne, HU, HS2, HO, hX, HB, hv, hgx1⟩, by simp [intOf]; omega⟩
  · rw [decide_eq_false h0] at hE
    have HS2 := Lib.hid (show ou ++ [R] = ((txts x).take (j + 1)).flatMap optT by rw [HS.out, ← HR.out]; unfold optT; rw [if_neg h0])
    clear h0 HS
    go_wp2_with (at_builtin; refine app_fresh1 W3 #[.string R] rfl _ _ 51 9 rfl i0 _ 1 16 Tryz.underlying51 hi0 hz0 hz1 hz2 rfl (by omega) w.heap.size (some ⟨g1, 0, none⟩) k c1 _ rfl _ rfl rfl HO.out rfl (by simp [Value.oneCell']) (by unfold maxLen; omega) (by omega) hv.size ?_; intro g4 c4 W4 hown4 hg4 hf4)
    have hlw := HB.out.lt
    have hlx := hX.out.lt
    have hne4 : g4 ≠ gw ∧ gx < g4 := by
      rcases hf4 with e | e
      · simp only [Option.some.injEq, Addr.mk.injEq, and_true] at e; omega
      · omega
    have hX4 := hX.out.grown hg4 (by intro e; simp at e; omega)
    have HB4 := HB.out.grown hg4 (by intro e; simp at e; omega)
    have hv4 := bl_grown hv hg4 (fun k e => by simp at e; have := own_at HO.out g1 rfl; omega)
    exact ⟨⟨j + 1, k + 1, g4, c4, ou ++ [R], by omega, by go_num, rfl, by omega, hne4.1, Lib.hid (by rw [List.length_append, HU.out]; rfl), HS2, Lib.hid (by rw [flat_append, flat_one]; exact hown4), Lib.hid hX4, Lib.hid HB4, hv4, hne4.2⟩, by simp [intOf]; omega⟩
end Go.Proofs.YtihgjmhhpiobbaaGreatDoor
