/- The law on LogOf, walked. -/
import Derived.Test.YtjadfbnhokecoaaDoorLogA
import Derived.Test.YtjadfbnhokecoaaDoorLogS
namespace Go.Proofs.YtjadfbnhokecoaaDoor
open Go.RowKit

set_option maxRecDepth 100000 in
set_option maxHeartbeats 1600000 in
theorem FnExactLogOf_law (A : Option Addr) (xs : List Entry) (n c : Nat) (hn : Hid (xs.length = n)) (hmax : n ≤ 9223372036854775807) (hs : Hid (∀ x ∈ xs, x.what.size ≤ 9223372036854775807)) (w : World) (hA : Arr w A (flat Entry.cells xs)) (hT : Pow10 w) :
    Calls Tryd.prog 3 #[.slice A n c] w (Ret (.bool true) w) := by
  have HT := Lib.hid hT
  clear hT
  have hself := Lib.hid ((listBeq_iff Entry.beq_iff xs xs).2 rfl)
  have hle := szS_le Entry.sizes xs 1048576 (by omega)
  go_enter Tryd.func3, Tryd.ntmps3
  go_wp2_with fail
  refine (szEntryS_c A xs n c 1048576 hn hmax hs (by omega) (by omega) _ hA).mono ?_
  rintro e W ⟨rfl, hv⟩
  obtain ⟨q, hq'⟩ : ∃ q, q = szS Entry.sizes xs 1048576 := ⟨_, rfl⟩
  rw [← hq'] at hle ⊢
  by_cases hq : q < 0
  · clear hq'
    go_wp2_with fail
    go_returns
    exact Ret.mk rfl hv
  have hz : (n : Int) ≤ 1048576 := by rw [← hn.out]; exact szS_len (by rw [← hq']; omega) (by omega)
  clear hq'
  have HW := fun (a : Option Addr) (w : World) (h : Arr w a (flat Entry.cells xs)) => SLogOf_c a xs n n hn hz hs w h
  have HG' := fun (a : Option Addr) (w : World) (h : Arr w a (flat Entry.cells xs)) (ht : Pow10 w) => LogOf_c a xs n n hn hz hs w h ht
  obtain ⟨V, hV⟩ : ∃ V, V = logV xs := ⟨_, rfl⟩
  obtain ⟨C, hC⟩ : ∃ C, C = logC xs := ⟨_, rfl⟩
  rw [← hV, ← hC] at HW HG'
  clear hV hC
  replace HW := Lib.hid HW
  replace HG' := Lib.hid HG'
  have he : (!V.toList == V.toList) = false := by simp
  have hcc : (C != C) = false := by simp
  go_wp2_with fail
  refine (toEntryS_c A xs n c hn hz _ (hA.below hv)).mono ?_
  rintro e W ⟨g1, rfl, hown, hb⟩
  replace hv := bl_trans hv hb
  go_wp2_with fail
  refine (HW.out _ _ (Arr.own hown)).mono ?_
  rintro e W2 ⟨rfl, hb2⟩
  replace hv := bl_trans hv hb2
  clear hown hb hb2
  go_wp2_with fail
  refine (toEntryS_c A xs n c hn hz _ (hA.below hv)).mono ?_
  rintro e W3 ⟨g2, rfl, hown, hb⟩
  replace hv := bl_trans hv hb
  clear hb
  go_wp2_with fail
  refine (HG'.out _ _ (Arr.own hown) (HT.out.below hv)).mono ?_
  rintro e W4 ⟨rfl, hb⟩
  replace hv := bl_trans hv hb
  replace hown := own_below hown hb
  clear hb
  go_wp2_with fail
  refine (toEntryS_c A xs n c hn hz _ (hA.below hv)).mono ?_
  rintro e W5 ⟨g3, rfl, hown2, hb⟩
  replace hv := bl_trans hv hb
  replace hown := own_below hown hb
  clear hb
  go_wp2_with fail
  refine (eqEntryS_c _ _ xs xs n n n n hn hn hz _ (Arr.own hown) (Arr.own hown2)).mono ?_
  rintro e W6 ⟨rfl, hb⟩
  rw [hself.out]
  replace hv := bl_trans hv hb
  clear hb
  go_wp2_with fail
  go_returns
  exact Ret.mk rfl hv
end Go.Proofs.YtjadfbnhokecoaaDoor
