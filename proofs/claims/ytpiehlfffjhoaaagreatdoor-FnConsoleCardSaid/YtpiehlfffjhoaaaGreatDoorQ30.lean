/- slices.Insert of one last into a row of one's own. -/
import Derived.Test.YtpiehlfffjhoaaaGreatDoorQ0
import Derived.Test.YtpiehlfffjhoaaaGreatDoorQ29
import Derived.Test.YtpiehlfffjhoaaaGreatDoorQ2
import Derived.Deep.RegionLaw
import Derived.Test.YtpiehlfffjhoaaaGreatDoorQ19
import Derived.Lib.Overlaps
import Derived.Laws.Externs
namespace Go.Proofs.YtpiehlfffjhoaaaGreatDoor
open Go.RowKit
theorem info_LastN : (Tryz.prog.info? 100).map (fun i => (i.zero, i.size, i.bytes)) = some (some (.agg #[.string ByteArray.empty, .int .i64 0, .int .i64 0, .int .i64 0, .int .i64 0, .int .i64 0]), 6, 56) := by kernel_rfl
theorem insN_end (xs : List Last) (n : Nat) (x : Last) (hn : xs.length = n) : flat Last.cells xs ++ x.cells = flat Last.cells (insN xs n x) := by
 unfold insN
 rw [List.take_of_length_le (by omega), List.drop_eq_nil_of_le (by omega), flat_append]
 simp [flat]
theorem last_ones (xs : List Last) : ∀ u ∈ flat Last.cells xs, u.oneCell' = true := by
 intro u hu
 simp only [flat, List.mem_flatMap] at hu
 obtain ⟨x, _, hx⟩ := hu
 simp [Last.cells] at hx
 rcases hx with h | h | h | h | h | h <;> subst h <;> rfl
theorem flat_insL (xs : List Last) (i : Nat) (x : Last) : flat Last.cells (insN xs i x) = flat Last.cells (xs.take i) ++ (x.cells ++ flat Last.cells (xs.drop i)) := by
 unfold insN
 rw [flat_append]
 rfl
theorem flat_dropN {xs : List Last} {i : Nat} (hi : i ≤ xs.length) : flat Last.cells (xs.drop i) = (flat Last.cells xs).drop (i * 6) := by
 have h : flat Last.cells xs = flat Last.cells (xs.take i) ++ flat Last.cells (xs.drop i) := by rw [← flat_append, List.take_append_drop]
 rw [h, List.drop_left' (by rw [flat_length Last.cells_length, List.length_take]; omega)]
theorem flat_takeN {xs : List Last} {i : Nat} (hi : i ≤ xs.length) : flat Last.cells (xs.take i) = (flat Last.cells xs).take (i * 6) := by
 have h : flat Last.cells xs = flat Last.cells (xs.take i) ++ flat Last.cells (xs.drop i) := by rw [← flat_append, List.take_append_drop]
 rw [h, List.take_left' (by rw [flat_length Last.cells_length, List.length_take]; omega)]
theorem two_copiesN {α : Type} (C F X : List α) (a d m : Nat) (hF : C.take m = F) (hm : m ≤ C.length) (ha : a ≤ m) (hX : X.length = d) (hr : m + d ≤ C.length) :
   let L1 := C.take (a + d) ++ F.drop a ++ C.drop (a + d + (F.drop a).length)
   let L2 := L1.take a ++ X ++ L1.drop (a + X.length)
   L2.length = C.length ∧ L2.take (m + d) = F.take a ++ (X ++ F.drop a) := by
 intro L1 L2
 have hFl : F.length = m := by rw [← hF, List.length_take]; omega
 have hDl : (F.drop a).length = m - a := by rw [List.length_drop, hFl]
 have h1 : L1.take a = F.take a := by
   have e : L1 = C.take (a + d) ++ (F.drop a ++ C.drop (a + d + (F.drop a).length)) := by simp only [L1, List.append_assoc]
   rw [e, List.take_append_of_le_length (by rw [List.length_take]; omega), List.take_take, ← hF, List.take_take]
   congr 1
   omega
 have h2 : L1.drop (a + X.length) = F.drop a ++ C.drop (m + d) := by
   have e : L1 = C.take (a + d) ++ (F.drop a ++ C.drop (a + d + (F.drop a).length)) := by simp only [L1, List.append_assoc]
   rw [e, hX, List.drop_left' (by rw [List.length_take]; omega), hDl]
   congr 2
   omega
 have h3 : L2 = (F.take a ++ (X ++ F.drop a)) ++ C.drop (m + d) := by
   simp only [L2]
   rw [h1, h2]
   simp only [List.append_assoc]
 rw [h3]
 constructor
 · simp only [List.length_append, List.length_take, List.length_drop, hFl, hX]
   omega
 · rw [List.take_left']
   simp only [List.length_append, List.length_take, List.length_drop, hFl, hX]
   omega
theorem two_copiesN_new {α : Type} (C F X : List α) (a d m : Nat) (hF : F.length = m) (hC : C.take a = F.take a) (ha : a ≤ m) (hX : X.length = d) (hr : m + d ≤ C.length) :
   let L1 := C.take a ++ X ++ C.drop (a + X.length)
   let L2 := L1.take (a + d) ++ F.drop a ++ L1.drop (a + d + (F.drop a).length)
   L1.length = C.length ∧ L2.length = C.length ∧ L2.take (m + d) = F.take a ++ (X ++ F.drop a) := by
 intro L1 L2
 have hDl : (F.drop a).length = m - a := by rw [List.length_drop, hF]
 have hL1 : L1.length = C.length := by
   simp only [L1, List.length_append, List.length_take, List.length_drop, hX]
   omega
 have h1 : L1.take (a + d) = F.take a ++ X := by
   simp only [L1]
   rw [hC, List.take_left']
   rw [List.length_append, List.length_take, hX]
   omega
 have h3 : L2 = (F.take a ++ (X ++ F.drop a)) ++ L1.drop (a + d + (F.drop a).length) := by
   simp only [L2]
   rw [h1]
   simp only [List.append_assoc]
 refine ⟨hL1, ?_, ?_⟩
 · rw [h3]
   simp only [List.length_append, List.length_take, List.length_drop, hX, hF, hL1]
   omega
 · rw [h3, List.take_left']
   simp only [List.length_append, List.length_take, List.length_drop, hX, hF]
   omega
theorem grow_newN {P : Program} (w : World) (t tn e : TypeId) (i : TypeInfo) (z : Value) (k kn : IntKind) (ht : P.underlying t = some (.slice e)) (htn : P.underlying tn = some (.int kn)) (hi : P.info? e = some i) (hz : i.zero = some z)
   (hzs : z.cells.size = i.size) (hs : 0 < i.size) (g c n : Nat) (F : List Value) (hF : F.length = c * i.size) (hcell : ∀ j v, F[j]? = some v → w.cell? ⟨g, j, none⟩ = some v) (hn : n ≤ c) (hc : (c + 1) * i.bytes ≤ 140737488355328) (hm : c + 1 ≤ maxLen) :
   ∃ G w1 CUR, (∀ ty, (Builtin.append_ #[t, tn] ty #[.slice (some ⟨g, 0, none⟩) n c, .int k ((c : Int) + 1 - (n : Int))]).run P w = .ok (.slice (some ⟨w.heap.size, 0, none⟩) (c + 1) G) w1) ∧ c + 1 ≤ G ∧ G ≤ maxLen ∧
     w1.heap[w.heap.size]? = some (.cells CUR e (0, 0)) ∧ CUR.size = G * i.size ∧ CUR.toList.take (n * i.size) = F.take (n * i.size) ∧ ∀ row, w.grownBy w1 row := by
 have hns : n * i.size ≤ c * i.size := Nat.mul_le_mul_right _ hn
 have hl : (F.take (n * i.size)).length = n * i.size := by rw [List.length_take]; omega
 have e1 : n + (c + 1 - n) = c + 1 := by omega
 have e2 : (((c + 1 - n : Nat)) : Int) = (c : Int) + 1 - (n : Int) := by omega
 have hby : (c + 1 - n) * i.bytes ≤ (c + 1) * i.bytes := Nat.mul_le_mul_right _ (by omega)
 have hr := fun ty => run_append_grow_zeros (P := P) w t tn ty e i z k kn ht htn hi hz ⟨g, 0, none⟩ n c (F.take (n * i.size)) hl
   (fun j v hj => by
     rw [Addr.add_lit, Nat.zero_add]
     rw [List.getElem?_take] at hj
     split at hj
     · exact hcell j v hj
     · cases hj)
   (c + 1 - n) (by omega) hs (by omega) (by rw [e1]; unfold maxLen at hm; omega) (by omega) (growslice_fits (by omega) (by rw [e1]; exact hc))
 simp only [e1, e2] at hr
 have hge := grownCap_ge w (c + 1) c e
 refine ⟨_, _, _, hr, hge, grownCap_le_maxLen w (c + 1) c e hm, heap_alloc_new w.drew _, ?_, ?_, fun row => ⟨rfl, rfl, rfl, by simp, fun j hj _ => heap_alloc_old w.drew _ hj⟩⟩
 · simp only [Array.size_append, List.size_toArray, size_zeroCells, hzs, hl, ← Nat.add_mul]
   congr 1
   omega
 · simp only [Array.toList_append, List.append_assoc]
   rw [List.take_left' hl]
def OutIN (base n : Nat) (v0 : Value) (cs : List Value) (w : World) (e : Ending) (w' : World) : Prop := ∃ v, e = .returned v ∧ w'.ownsRow base 100 6 v (n + 1) cs ∧ w.grownBy w' v0.ownBlock
set_option maxRecDepth 100000 in
set_option maxHeartbeats 2000000 in
theorem insertN_c (A : Option Addr) (xs : List Last) (n c i : Nat) (x : Last) (hn : Hid (xs.length = n)) (hm : n ≤ 1000) (hi : i ≤ n) (base vb : Nat) (w : World) (hown : w.ownsRow base 100 6 (.slice A n c) n (flat Last.cells xs))
   (hV : Blk w vb 100 #[.string x.name, .int .i64 x.length, .int .i64 x.ball, .int .i64 x.instep, .int .i64 x.heel, .int .i64 x.pitch]) (hvb : ∀ g, (Value.slice A n c).ownBlock = some g → g ≠ vb) (hbase : base ≤ w.heap.size) :
   Calls Tryz.prog 128 #[.slice A n c, .int .i64 i, .slice (some ⟨vb, 0, none⟩) 1 1] w (OutIN base n (.slice A n c) (flat Last.cells (insN xs i x)) w) := by
 obtain ⟨i0, hi0, hz0, hz1, hz2⟩ := info_parts (P := Tryz.prog) (e := 100) (z := .agg #[.string ByteArray.empty, .int .i64 0, .int .i64 0, .int .i64 0, .int .i64 0, .int .i64 0]) (size := 6) (bytes := 56) info_LastN
 obtain ⟨A0, c0, e0, hnc, hcm⟩ := own_form hown
 injection e0 with e1 _ e2
 subst e1 e2
 have hnc' : (n : Int) ≤ (c : Int) := by omega
 have hi' : (i : Int) ≤ (n : Int) := by omega
 have hcm' : (c : Int) ≤ 9223372036854775807 := by unfold maxLen at hcm; omega
 have hlen : (flat Last.cells xs).length = n * 6 := by rw [flat_length Last.cells_length, hn.out]
 have hVA : Arr w (some ⟨vb, 0, none⟩) x.cells := blk_arr hV
 have hones : ∀ u ∈ x.cells, u.oneCell' = true := by simp [Last.cells, Value.oneCell']
 by_cases hin : i = n
 · subst hin
   by_cases hci : c = i
   · subst hci
     go_enter Tryz.func128, Tryz.ntmps128
     go_wp2_with (at_builtin; refine app_many _ rfl _ _ 28 100 rfl i0 _ 6 56 Tryz.underlying28 hi0 hz0 hz1 hz2 rfl (by omega) base (.slice A c c) c (flat Last.cells xs) rfl hown ⟨vb, 0, none⟩ 1 1 x.cells rfl hVA rfl hones (by unfold maxLen; omega) (by omega) hbase ?_; intro A2 c2 w2 hown2 hg2)
     go_returns
     rw [insN_end xs c x hn.out] at hown2
     exact ⟨_, rfl, hown2, hg2⟩
   · have hci2 : ¬ (c = i) := hci
     go_enter Tryz.func128, Tryz.ntmps128
     go_wp2_with (at_builtin; refine app_many _ rfl _ _ 28 100 rfl i0 _ 6 56 Tryz.underlying28 hi0 hz0 hz1 hz2 rfl (by omega) base (.slice A i c) i (flat Last.cells xs) rfl hown ⟨vb, 0, none⟩ 1 1 x.cells rfl hVA rfl hones (by unfold maxLen; omega) (by omega) hbase ?_; intro A2 c2 w2 hown2 hg2)
     go_returns
     rw [insN_end xs i x hn.out] at hown2
     exact ⟨_, rfl, hown2, hg2⟩
 obtain ⟨g, rfl⟩ := own_addr hown (by omega)
 have hgvb := hvb g rfl
 have hni : ¬ (i : Int) = (n : Int) := by omega
 by_cases hroom : n + 1 ≤ c
 · have hr1 : ¬ (c : Int) < (n : Int) + 1 := by omega
   have hb2 : ¬ (c = i + 1) := by omega
   have hb4 : ¬ (c = i) := by omega
   rcases hown.2 with ⟨h9, _⟩ | ⟨g', cap, cur, hv, hbg, hgg, hnc2, hcm2, hcs, htake⟩
   · cases h9
   simp only [Value.slice.injEq, Option.some.injEq, Addr.mk.injEq, and_true] at hv
   obtain ⟨rfl, _, rfl⟩ := hv
   have hsz6 : (Tryz.prog.info? 100).map (·.size) = some 6 := by rw [hi0]; simp [hz1]
   have hfe : ∀ k, w.frozen? ⟨vb, k, none⟩ = false := fun k => hV.frozen k
   have hsa : w.shape? vb = some (100, 6) := by
     have h := hV
     unfold Blk at h
     simp [World.shape?, h]
   have hsb : w.shape? g = some (100, c * 6) := by simp [World.shape?, hgg, hcs]
   have hov : ∀ lb cb, (callFunc 197 #[.slice (some ⟨vb, 0, none⟩) 1 1, .slice (some ⟨g, (i + 1) * 6, none⟩) lb cb]).run Tryz.prog w = .ok (.value (.bool false)) w := fun lb cb => by
     rw [run_callFunc_extern Tryz.func197 (by kernel_rfl) (by kernel_rfl) (by kernel_rfl) (e := Extern.SlicesOverlaps.overlaps #[28, 28] #[4]) (by kernel_rfl),
       Lib.run_overlaps_apart w 28 4 100 Tryz.underlying28 6 Tryz.sizeOf100 ⟨vb, 0, none⟩ ⟨g, (i + 1) * 6, none⟩ 1 1 lb cb (by simpa using fun h => hgvb h.symm) 100 100 6 (c * 6) hsa hsb (by omega) (hfe 0) (hfe 6)]
     rfl
   have hfl : (flat Last.cells xs).length = n * 6 := hlen
   have hcurl : cur.toList.length = c * 6 := by simpa using hcs
   have hxl : x.cells.length = 6 := Last.cells_length x
   obtain ⟨L1, hL1⟩ : ∃ L1, L1 = cur.toList.take (i * 6 + 6) ++ (flat Last.cells xs).drop (i * 6) ++ cur.toList.drop (i * 6 + 6 + ((flat Last.cells xs).drop (i * 6)).length) := ⟨_, rfl⟩
   obtain ⟨L2, hLL2⟩ : ∃ L2, L2 = L1.take (i * 6) ++ x.cells ++ L1.drop (i * 6 + x.cells.length) := ⟨_, rfl⟩
   have h2c := two_copiesN cur.toList (flat Last.cells xs) x.cells (i * 6) 6 (n * 6) htake (by omega) (by omega) hxl (by omega)
   dsimp only at h2c
   rw [← hL1, ← hLL2] at h2c
   obtain ⟨hL2, hT2⟩ := h2c
   have hcell : ∀ k v, (flat Last.cells xs)[k]? = some v → w.cell? ⟨g, k, none⟩ = some v := fun k v hk => by
     have hlt := (List.getElem?_eq_some_iff.1 hk).1
     rw [← htake, List.getElem?_take] at hk
     simp only [World.cell?, hgg]
     split at hk
     · simpa using hk
     · cases hk
   have hD : (flat Last.cells xs).drop (i * 6) = flat Last.cells (xs.drop i) := (flat_dropN (by rw [hn.out]; exact hi)).symm
   have hDl : ((flat Last.cells xs).drop (i * 6)).length = n * 6 - i * 6 := by rw [List.length_drop, hfl]
   obtain ⟨W1, hW1⟩ : ∃ W1, W1 = w.drew.setRow g L1.toArray := ⟨_, rfl⟩
   have hg1 : W1.heap[g]? = some (.cells L1.toArray 100 (0, 0)) := by rw [hW1]; exact setRow_heap w.drew g _ _ 100 _ hgg
   have hcp1 : ∀ ty dc sc, (Builtin.copy_ #[28, 28] ty #[.slice (some ⟨g, (i + 1) * 6, none⟩) (n - i) dc, .slice (some ⟨g, i * 6, none⟩) (n + 1 - i) sc]).run Tryz.prog w.drew = .ok (goInt (Nat.min (n + 1 - i) (n - i))) W1 := fun ty dc sc => by
     rw [hW1]
     have h := run_copy_rowS w.drew 28 28 ty 100 6 g ((i + 1) * 6) (n - i) dc ⟨g, i * 6, none⟩ (n + 1 - i) sc cur 100 ((flat Last.cells xs).drop (i * 6)) Tryz.underlying28 hsz6 hgg
       (by rw [hDl]; show _ = min _ _ * 6; omega)
       (fun j v hj => by rw [Addr.add_lit]; exact hcell (i * 6 + j) v (by rwa [List.getElem?_drop] at hj))
       (by rw [hDl, hcs]; omega)
       (fun v hv => last_ones xs v (List.mem_of_mem_drop hv))
     rw [h, hL1, show (i + 1) * 6 = i * 6 + 6 by omega]
   have hcp2 : ∀ ty dc sc, (Builtin.copy_ #[28, 28] ty #[.slice (some ⟨g, i * 6, none⟩) (n + 1 - i) dc, .slice (some ⟨vb, 0, none⟩) 1 sc]).run Tryz.prog W1 = .ok (goInt (Nat.min 1 (n + 1 - i))) (W1.setRow g L2.toArray) := fun ty dc sc => by
     have h := run_copy_rowS W1 28 28 ty 100 6 g (i * 6) (n + 1 - i) dc ⟨vb, 0, none⟩ 1 sc L1.toArray 100 x.cells Tryz.underlying28 hsz6 hg1
       (by rw [hxl]; show _ = min _ _ * 6; omega)
       (fun j v hj => by
         rw [Addr.add_lit, Nat.zero_add, hW1, cell_setRow_other _ _ _ _ (fun h => hgvb h.symm)]
         rw [World.cell?_drew, hV.cell j]
         simpa [Last.cells] using hj)
       (by rw [List.size_toArray, hxl, hL1]; simp only [List.length_append, List.length_take, List.length_drop, hcurl, hfl]; omega)
       (fun v hv => hones v hv)
     rw [h, hLL2]
   have hw1 : IntKind.i64.wrap ((i : Int) + 1) = (i : Int) + 1 := by rw [IntKind.wrap_i64]; omega
   have hb1 : (0 : Int) ≤ (i : Int) + 1 := by omega
   have htn : ((i : Int) + 1).toNat = i + 1 := by omega
   have hb5 : (i : Int) + 1 ≤ (n : Int) + 1 := by omega
   have hb3 : (i : Int) ≤ (n : Int) + 1 := by omega
   have hfin : OutIN base n (.slice (some ⟨g, 0, none⟩) n c) (flat Last.cells (insN xs i x)) w (.returned (.slice (some ⟨g, 0, none⟩) (n + 1) c)) (W1.setRow g L2.toArray) := by
     refine ⟨_, rfl, ⟨?_, .inr ⟨g, c, _, rfl, hbg, setRow_heap _ g _ _ 100 _ hg1, hroom, hcm2, ?_, ?_⟩⟩, ?_⟩
     · rw [flat_length Last.cells_length, insN_len _ _ _ (by rw [hn.out]; exact hi), hn.out]
     · simpa [hcs] using hL2
     · rw [flat_insL, flat_takeN (by rw [hn.out]; exact hi), flat_dropN (by rw [hn.out]; exact hi)]
       simpa [Nat.succ_mul] using hT2
     · rw [hW1]
       exact ⟨rfl, rfl, rfl, by rw [setRow_size, setRow_size]; exact Nat.le_refl _, fun k _ hk => by
         rw [setRow_other _ g k _ (fun e => hk (by simp [Value.ownBlock, e])), setRow_other _ g k _ (fun e => hk (by simp [Value.ownBlock, e]))]
         rfl⟩
   clear hW1 hL1 hLL2 hD hDl hL2 hT2 hcell hcs htake hcurl hfl
   go_enter Tryz.func128, Tryz.ntmps128
   go_wp2_with (simp only [hov])
   go_region_law (refine step_copy_run' rfl _ _ 28 28 rfl _ _ (by simp [Act.eval, Act.put]; rfl) (by simp [Act.eval, Act.put]; rfl) (hcp1 _ _ _) ?_)
   go_wp2_with (at_builtin; refine wpList_copy_run _ rfl _ _ 28 28 rfl _ _ rfl rfl (hcp2 _ _ _) ?_)
   go_returns
   exact hfin
 · have hr1 : (c : Int) < (n : Int) + 1 := by omega
   have hcn : c = n := by omega
   subst hcn
   rcases hown.2 with ⟨h9, _⟩ | ⟨g', cap, cur, hv, hbg, hgg, hnc2, hcm2, hcs, htake⟩
   · cases h9
   simp only [Value.slice.injEq, Option.some.injEq, Addr.mk.injEq, and_true] at hv
   obtain ⟨rfl, _, rfl⟩ := hv
   have hgw : g < w.heap.size := (hown.lt g rfl).2
   have hvw : vb < w.heap.size := hV.lt
   have hsz6 : (Tryz.prog.info? 100).map (·.size) = some 6 := by rw [hi0]; simp [hz1]
   have hxl : x.cells.length = 6 := Last.cells_length x
   have hcell : ∀ k v, (flat Last.cells xs)[k]? = some v → w.cell? ⟨g, k, none⟩ = some v := fun k v hk => by
     rw [← htake, List.getElem?_take] at hk
     simp only [World.cell?, hgg]
     split at hk
     · simpa using hk
     · cases hk
   obtain ⟨G, w1, CUR, hap, hG1, hG2, hg1, hCs, hCt, hgr1⟩ := grow_newN (P := Tryz.prog) w 28 3 100 i0 _ .i64 .i64 Tryz.underlying28 Tryz.underlying3 hi0 hz0 (by rw [hz1]; rfl) (by rw [hz1]; omega) g c i (flat Last.cells xs) (by rw [hz1]; exact hlen) hcell (by omega) (by rw [hz2]; omega) (by unfold maxLen; omega)
   rw [hz1] at hCs hCt
   obtain ⟨H, hH⟩ : ∃ H, H = w.heap.size := ⟨_, rfl⟩
   have hDl : ((flat Last.cells xs).drop (i * 6)).length = c * 6 - i * 6 := by rw [List.length_drop, hlen]
   obtain ⟨L1, hL1⟩ : ∃ L1, L1 = CUR.toList.take (i * 6) ++ x.cells ++ CUR.toList.drop (i * 6 + x.cells.length) := ⟨_, rfl⟩
   obtain ⟨L2, hLL2⟩ : ∃ L2, L2 = L1.take (i * 6 + 6) ++ (flat Last.cells xs).drop (i * 6) ++ L1.drop (i * 6 + 6 + ((flat Last.cells xs).drop (i * 6)).length) := ⟨_, rfl⟩
   have hCl : CUR.toList.length = G * 6 := by simpa using hCs
   have h2c := two_copiesN_new CUR.toList (flat Last.cells xs) x.cells (i * 6) 6 (c * 6) hlen hCt (by omega) hxl (by omega)
   dsimp only at h2c
   rw [← hL1, ← hLL2] at h2c
   obtain ⟨hL1l, hL2, hT2⟩ := h2c
   rw [← hH] at hap hg1
   obtain ⟨W1, hW1⟩ : ∃ W1, W1 = w1.setRow H L1.toArray := ⟨_, rfl⟩
   have hgW1 : W1.heap[H]? = some (.cells L1.toArray 100 (0, 0)) := by rw [hW1]; exact setRow_heap w1 H _ _ 100 _ hg1
   have hcp1 : ∀ ty dc sc, (Builtin.copy_ #[28, 28] ty #[.slice (some ⟨H, i * 6, none⟩) (c + 1 - i) dc, .slice (some ⟨vb, 0, none⟩) 1 sc]).run Tryz.prog w1 = .ok (goInt (Nat.min 1 (c + 1 - i))) W1 := fun ty dc sc => by
     have h := run_copy_rowS w1 28 28 ty 100 6 H (i * 6) (c + 1 - i) dc ⟨vb, 0, none⟩ 1 sc CUR 100 x.cells Tryz.underlying28 hsz6 hg1
       (by rw [hxl]; show _ = min _ _ * 6; omega)
       (fun j v hj => by
         rw [Addr.add_lit, Nat.zero_add]
         refine (hgr1 none).cell ?_ (by simp)
         rw [hV.cell j]
         simpa [Last.cells] using hj)
       (by rw [hCs, hxl]; omega)
       (fun v hv => hones v hv)
     rw [h, hW1, hL1]
   have hcp2 : ∀ ty dc sc, (Builtin.copy_ #[28, 28] ty #[.slice (some ⟨H, (i + 1) * 6, none⟩) (c - i) dc, .slice (some ⟨g, i * 6, none⟩) (c - i) sc]).run Tryz.prog W1.drew = .ok (goInt (Nat.min (c - i) (c - i))) (W1.drew.setRow H L2.toArray) := fun ty dc sc => by
     have h := run_copy_rowS W1.drew 28 28 ty 100 6 H ((i + 1) * 6) (c - i) dc ⟨g, i * 6, none⟩ (c - i) sc L1.toArray 100 ((flat Last.cells xs).drop (i * 6)) Tryz.underlying28 hsz6 hgW1
       (by rw [hDl]; show _ = min _ _ * 6; omega)
       (fun j v hj => by
         rw [Addr.add_lit, World.cell?_drew, hW1, cell_setRow_other _ _ _ _ (by show g ≠ H; omega)]
         refine (hgr1 none).cell ?_ (by simp)
         exact hcell (i * 6 + j) v (by rwa [List.getElem?_drop] at hj))
       (by rw [hDl, List.size_toArray, hL1l, hCl]; omega)
       (fun v hv => last_ones xs v (List.mem_of_mem_drop hv))
     rw [h, hLL2, show (i + 1) * 6 = i * 6 + 6 by omega]
   have hfin : OutIN base c (.slice (some ⟨g, 0, none⟩) c c) (flat Last.cells (insN xs i x)) w (.returned (.slice (some ⟨H, 0, none⟩) (c + 1) G)) (W1.drew.setRow H L2.toArray) := by
     refine ⟨_, rfl, ⟨?_, .inr ⟨H, G, _, rfl, by omega, setRow_heap _ H _ _ 100 _ hgW1, hG1, hG2, ?_, ?_⟩⟩, ?_⟩
     · rw [flat_length Last.cells_length, insN_len _ _ _ (by rw [hn.out]; exact hi), hn.out]
     · rw [List.size_toArray, hL2, hCl]
     · rw [flat_insL, flat_takeN (by rw [hn.out]; exact hi), flat_dropN (by rw [hn.out]; exact hi)]
       simpa [Nat.succ_mul] using hT2
     · refine ⟨?_, ?_, ?_, ?_, ?_⟩
       · rw [hW1]; exact (hgr1 none).os
       · rw [hW1]; exact (hgr1 none).tape
       · rw [hW1]; exact (hgr1 none).output
       · rw [hW1, setRow_size]
         show _ ≤ (w1.setRow H L1.toArray).heap.size
         rw [setRow_size]
         exact (hgr1 none).size
       · intro k hk hk2
         rw [setRow_other _ H k _ (by omega)]
         show W1.heap[k]? = _
         rw [hW1, setRow_other _ H k _ (by omega)]
         exact (hgr1 none).block k hk (by simp)
   clear hW1 hL1 hLL2 hDl hL2 hT2 hcell hcs htake hCs hCt hCl hL1l hH
   have hw1 : IntKind.i64.wrap ((i : Int) + 1) = (i : Int) + 1 := by rw [IntKind.wrap_i64]; omega
   have hw2 : IntKind.i64.wrap ((c : Int) + 1) = (c : Int) + 1 := by rw [IntKind.wrap_i64]; omega
   have hw3 : IntKind.i64.wrap ((c : Int) + 1 - (i : Int)) = (c : Int) + 1 - (i : Int) := by rw [IntKind.wrap_i64]; omega
   have hb1 : (0 : Int) ≤ (i : Int) + 1 := by omega
   have htn : ((i : Int) + 1).toNat = i + 1 := by omega
   have hb5 : (i : Int) + 1 ≤ (c : Int) + 1 := by omega
   have hb3 : (i : Int) ≤ (c : Int) + 1 := by omega
   have hb6 : ¬ (G = i + 1) := by omega
   have hb7 : ¬ (G = i) := by omega
   have hb8 : ¬ (c = i) := by omega
   go_enter Tryz.func128, Tryz.ntmps128
   go_wp2_with (at_builtin; first | refine Lib.wpList_append_run _ rfl _ _ _ _ rfl _ _ rfl rfl _ _ (hap _) ?_ | refine wpList_copy_run _ rfl _ _ 28 28 rfl _ _ rfl rfl (hcp1 _ _ _) ?_)
   go_region_law (refine step_copy_run' rfl _ _ 28 28 rfl _ _ (by simp [Act.eval, Act.put]; rfl) (by simp [Act.eval, Act.put]; rfl) (hcp2 _ _ _) ?_)
   go_wp2_with (fail)
   go_returns
   exact hfin
end Go.Proofs.YtpiehlfffjhoaaaGreatDoor
