/- BestSole and LightestSole, the program's. -/
import Derived.Test.YtefkfkdpfecnoaaBstD
namespace Go.Proofs.Ytefkfkdpfecnoaa
open Go.RowKit

set_option maxRecDepth 100000 in
set_option maxHeartbeats 1000000 in
theorem BestSole_c (A : Option Addr) (xs : List Stuff) (n c : Nat) (hn : Hid (xs.length = n)) (hm : (n : Int) ≤ 1048576) (hs : Hid (∀ x ∈ xs, x.name.size ≤ 9223372036854775807)) (hnc : (n : Int) ≤ c) (T S : Int) (w : World) (hAl : ∀ ad, A = some ad → ad.block < w.heap.size) (hA : Arr w A (flat Stuff.cells xs)) :
    Calls Try.prog 7 #[.slice A n c, .int .i64 T, .int .i64 S] w (OutB (bestL xs T S Stuff.price) (bestC xs T S Stuff.price) w) := by
  have HV := Lib.hid (fun (B : Option Addr) (ps : List Int) (m d : Nat) (w : World) hp hm' hso h1 h2 => total_price_c A xs n c hn hm hs B ps m d hp hm' hso w h1 h2)
  obtain ⟨W1, hW1⟩ : ∃ W1, W1 = w.alloc (Obj.cells #[Value.slice none 0 0] 29) := ⟨_, rfl⟩
  obtain ⟨gr, hgr⟩ : ∃ gr, gr = w.heap.size := ⟨_, rfl⟩
  have hv : Below w.heap.size w W1 := by rw [hW1]; exact bl_alloc (Below.refl _ _) _
  have b1 : Blk W1 gr 29 #[Value.slice none 0 0] := by rw [hW1, hgr]; exact Blk.new _ _ _
  have HL := Lib.hid (leastSole_c A xs n c hn hm hs hnc T S Stuff.price 29 HV W1 (fun ad e => by have h1 := hAl ad e; have h2 := hv.size; omega) (hA.below hv))
  obtain ⟨l, hl⟩ : ∃ l, l = bestL xs T S Stuff.price := ⟨_, rfl⟩
  obtain ⟨co, hco⟩ : ∃ co, co = bestC xs T S Stuff.price := ⟨_, rfl⟩
  rw [← hl, ← hco] at HL ⊢
  clear hl hco HV hAl
  go_enter Try.func7, Try.ntmps7
  go_wp2_with fail
  rw [← hW1, ← hgr]
  have hge : w.heap.size ≤ gr := by omega
  clear hW1 hgr
  refine HL.out.mono ?_
  rintro e W ⟨B, c2, rfl, hown, hb⟩
  have hfr : ∀ g', Value.ownBlock (.slice B l.length c2) = some g' → g' ≠ gr := by
    intro g' e
    have h5 := own_at hown g' e
    have h6 := b1.lt
    omega
  have hsz : w.heap.size ≤ W1.heap.size := hv.size
  replace hv := bl_trans hv hb
  replace b1 := b1.below hb
  have k4 : W.cell? ⟨gr, 0, none⟩ = some (.slice none 0 0) := b1.cell 0
  have f4 : W.frozen? ⟨gr, 0, none⟩ = false := b1.frozen 0
  go_wp2_with fail
  refine bodyPost_ret (results_cell_row_tmp (P := Try.prog) rfl _ _ gr 29 #[Value.slice B l.length c2] (0, 0) _ rfl ?_ Try.underlying29 rfl (by kernel_rfl)) rfl ?_
  · exact b1.set_ 0 _
  · exact ⟨B, c2, rfl, own_base (own_far (p := ⟨gr, 0, none⟩) hown hfr _) hsz, bl_set hv (by exact hge) _⟩

set_option maxRecDepth 100000 in
set_option maxHeartbeats 1000000 in
theorem LightestSole_c (A : Option Addr) (xs : List Stuff) (n c : Nat) (hn : Hid (xs.length = n)) (hm : (n : Int) ≤ 1048576) (hs : Hid (∀ x ∈ xs, x.name.size ≤ 9223372036854775807)) (hnc : (n : Int) ≤ c) (T S : Int) (w : World) (hAl : ∀ ad, A = some ad → ad.block < w.heap.size) (hA : Arr w A (flat Stuff.cells xs)) :
    Calls Try.prog 9 #[.slice A n c, .int .i64 T, .int .i64 S] w (OutB (bestL xs T S Stuff.gram) (bestC xs T S Stuff.gram) w) := by
  have HV := Lib.hid (fun (B : Option Addr) (ps : List Int) (m d : Nat) (w : World) hp hm' hso h1 h2 => total_gram_c A xs n c hn hm hs B ps m d hp hm' hso w h1 h2)
  obtain ⟨W1, hW1⟩ : ∃ W1, W1 = w.alloc (Obj.cells #[Value.slice none 0 0] 29) := ⟨_, rfl⟩
  obtain ⟨gr, hgr⟩ : ∃ gr, gr = w.heap.size := ⟨_, rfl⟩
  have hv : Below w.heap.size w W1 := by rw [hW1]; exact bl_alloc (Below.refl _ _) _
  have b1 : Blk W1 gr 29 #[Value.slice none 0 0] := by rw [hW1, hgr]; exact Blk.new _ _ _
  have HL := Lib.hid (leastSole_c A xs n c hn hm hs hnc T S Stuff.gram 31 HV W1 (fun ad e => by have h1 := hAl ad e; have h2 := hv.size; omega) (hA.below hv))
  obtain ⟨l, hl⟩ : ∃ l, l = bestL xs T S Stuff.gram := ⟨_, rfl⟩
  obtain ⟨co, hco⟩ : ∃ co, co = bestC xs T S Stuff.gram := ⟨_, rfl⟩
  rw [← hl, ← hco] at HL ⊢
  clear hl hco HV hAl
  go_enter Try.func9, Try.ntmps9
  go_wp2_with fail
  rw [← hW1, ← hgr]
  have hge : w.heap.size ≤ gr := by omega
  clear hW1 hgr
  refine HL.out.mono ?_
  rintro e W ⟨B, c2, rfl, hown, hb⟩
  have hfr : ∀ g', Value.ownBlock (.slice B l.length c2) = some g' → g' ≠ gr := by
    intro g' e
    have h5 := own_at hown g' e
    have h6 := b1.lt
    omega
  have hsz : w.heap.size ≤ W1.heap.size := hv.size
  replace hv := bl_trans hv hb
  replace b1 := b1.below hb
  have k4 : W.cell? ⟨gr, 0, none⟩ = some (.slice none 0 0) := b1.cell 0
  have f4 : W.frozen? ⟨gr, 0, none⟩ = false := b1.frozen 0
  go_wp2_with fail
  refine bodyPost_ret (results_cell_row_tmp (P := Try.prog) rfl _ _ gr 29 #[Value.slice B l.length c2] (0, 0) _ rfl ?_ Try.underlying29 rfl (by kernel_rfl)) rfl ?_
  · exact b1.set_ 0 _
  · exact ⟨B, c2, rfl, own_base (own_far (p := ⟨gr, 0, none⟩) hown hfr _) hsz, bl_set hv (by exact hge) _⟩

end Go.Proofs.Ytefkfkdpfecnoaa
