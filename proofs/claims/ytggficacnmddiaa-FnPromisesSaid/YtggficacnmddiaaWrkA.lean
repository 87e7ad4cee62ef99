/- The orders that are worked on, by the days on which they are promised: the program's. -/
import Derived.Test.YtggficacnmddiaaSrtF
namespace Go.Proofs.Ytggficacnmddiaa
open Go.RowKit

def idxGo : Nat → List Order → List Int
  | _, [] => []
  | k, x :: xs => if 0 < x.left then (k : Int) :: idxGo (k + 1) xs else idxGo (k + 1) xs
def idxL (xs : List Order) : List Int := idxGo 0 xs
def workL (xs : List Order) : List Int := srtI (dueK xs) (idxL xs)
theorem idxGo_mem : ∀ (xs : List Order) (k : Nat) (z : Int), z ∈ idxGo k xs → ∃ j x, z = ((k + j : Nat) : Int) ∧ xs[j]? = some x ∧ 0 < x.left
  | [], k, z, h => by simp [idxGo] at h
  | x :: xs, k, z, h => by
    simp only [idxGo] at h
    by_cases hl : 0 < x.left
    · rw [if_pos hl] at h
      rcases List.mem_cons.1 h with rfl | h
      · exact ⟨0, x, rfl, rfl, hl⟩
      · obtain ⟨j, y, h1, h2, h3⟩ := idxGo_mem xs (k + 1) z h
        exact ⟨j + 1, y, by rw [h1]; congr 1; omega, by simpa using h2, h3⟩
    · rw [if_neg hl] at h
      obtain ⟨j, y, h1, h2, h3⟩ := idxGo_mem xs (k + 1) z h
      exact ⟨j + 1, y, by rw [h1]; congr 1; omega, by simpa using h2, h3⟩
theorem idxGo_up : ∀ (xs : List Order) (k : Nat), (idxGo k xs).Pairwise (fun x y => x < y)
  | [], k => List.Pairwise.nil
  | x :: xs, k => by
    simp only [idxGo]
    split
    · refine List.pairwise_cons.2 ⟨fun z hz => ?_, idxGo_up xs (k + 1)⟩
      obtain ⟨j, y, h1, _, _⟩ := idxGo_mem xs (k + 1) z hz
      omega
    · exact idxGo_up xs (k + 1)
theorem idxGo_len : ∀ (xs : List Order) (k : Nat), (idxGo k xs).length ≤ xs.length
  | [], k => by simp [idxGo]
  | x :: xs, k => by
    have := idxGo_len xs (k + 1)
    simp only [idxGo]
    split <;> simp <;> omega
theorem idxGo_append : ∀ (xs : List Order) (k : Nat) (x : Order), idxGo k (xs ++ [x]) = idxGo k xs ++ (if 0 < x.left then [((k + xs.length : Nat) : Int)] else [])
  | [], k, x => by simp only [List.nil_append, idxGo]; split <;> simp
  | y :: ys, k, x => by
    have := idxGo_append ys (k + 1) x
    simp only [List.cons_append, idxGo, this, List.length_cons]
    rw [show k + 1 + ys.length = k + (ys.length + 1) by omega]
    split <;> simp
theorem idxL_step {xs : List Order} {k : Nat} {x : Order} (h : xs[k]? = some x) : idxL (xs.take (k + 1)) = idxL (xs.take k) ++ (if 0 < x.left then [(k : Int)] else []) := by
  have hk := (List.getElem?_eq_some_iff.1 h).1
  unfold idxL
  rw [take_at h, idxGo_append]
  congr 2
  simp; omega
theorem idxL_inR (xs : List Order) : InR xs (idxL xs) := fun z hz => by
  obtain ⟨j, x, h1, h2, _⟩ := idxGo_mem xs 0 z hz
  exact ⟨j, by rw [h1]; congr 1; omega, (List.getElem?_eq_some_iff.1 h2).1⟩
theorem idxL_nodup (xs : List Order) : (idxL xs).Nodup := (idxGo_up xs 0).imp (fun h => by omega)
theorem workL_of {xs : List Order} {l : List Int} (hp : l.Perm (idxL xs)) (hs : Lx (dueK xs) l) : l = workL xs := srtI_of hp hs (idxL_nodup xs)
theorem workL_len (xs : List Order) : (workL xs).length = (idxL xs).length := (srtI_perm _ _).length_eq

theorem info_i64W : (Try.prog.info? 2).map (fun i => (i.zero, i.size, i.bytes)) = some (some (.int .i64 0), 1, 8) := by kernel_rfl
theorem app_ownG {P : Program} {ops : Array Oper} {rest : List Oper} {o : Oper} {a : Act} {Q : Exit → Act → World → Prop} (w : World) (C : Array Value) (hgd : o.guard = none) (s x : Operand) (t e : TypeId)
    (ho : o.op = .call { callee := .builtin .append, args := #[s, x], argTypes := #[t, t] })
    (i : TypeInfo) (z : Value) (size bytes : Nat) (ht : P.underlying t = some (.slice e)) (hi : P.info? e = some i) (hz : i.zero = some z)
    (hsize : i.size = size) (hby : i.bytes = bytes) (hzs : z.cells.size = size) (hsz : 0 < size)
    (base : Nat) (v : Value) (n : Nat) (cs : List Value) (hs : a.eval s = v) (gx : Nat) (hgx : gx = w.heap.size) (hx : a.eval x = .slice (some ⟨gx, 0, none⟩) 1 1) (hown : w.ownsRow base e size v n cs)
    (hl : C.size = size) (h1 : ∀ u ∈ C.toList, u.oneCell' = true) (h63 : n + 1 ≤ maxLen) (hbytes : (n + 1) * bytes ≤ 140737488355328) (hbase : base ≤ w.heap.size)
    (h : ∀ A c w', w'.ownsRow base e size (.slice A (n + 1) c) (n + 1) (cs ++ C.toList) → w.grownBy w' v.ownBlock → wpList P ops Q rest (a.put o.dst (.slice A (n + 1) c)) w') :
    wpList P ops Q (o :: rest) a (w.alloc (.cells C e)) := by
  subst hgx
  exact app_own w C hgd s x t e ho i z size bytes ht hi hz hsize hby hzs hsz base v n cs hs hx hown hl h1 h63 hbytes hbase h

set_option maxRecDepth 100000 in
set_option maxHeartbeats 3200000 in
theorem workOrder_c (A : Option Addr) (xs : List Order) (n c : Nat) (hn : Hid (xs.length = n)) (hm : n ≤ 30) (w : World) (hA : Arr w A (flat Order.cells xs)) :
    Calls Try.prog 30 #[.slice A n c] w (OutC 2 1 (workL xs).length (flat icell (workL xs)) w) := by
  obtain ⟨i0, hi0, hz0, hz1, hz2⟩ := info_parts (P := Try.prog) (e := 2) (z := .int .i64 0) (size := 1) (bytes := 8) info_i64W
  go_enter Try.func30, Try.ntmps30
  go_wp2_with fail
  obtain ⟨W1, hW1⟩ : ∃ W1, W1 = (w.alloc (Obj.cells #[Value.slice A n c] 24)).alloc (Obj.cells #[] 2) := ⟨_, rfl⟩
  obtain ⟨gb, hgb⟩ : ∃ gb, gb = w.heap.size := ⟨_, rfl⟩
  obtain ⟨g1, hg1⟩ : ∃ g1, g1 = w.heap.size + 1 := ⟨_, rfl⟩
  have hb1 : Below w.heap.size w W1 := by rw [hW1]; exact bl_alloc (bl_alloc (Below.refl _ _) _) _
  have hB : Blk W1 gb 24 #[.slice A n c] := by rw [hW1, hgb]; exact (Blk.new _ _ _).alloc _
  have hown : W1.ownsRow (gb + 1) 2 1 (.slice (some ⟨g1, 0, none⟩) 0 0) 0 [] := by rw [hW1, hg1, hgb]; have h := own_empty (w.alloc (Obj.cells #[Value.slice A n c] 24)) (w.heap.size + 1) 2 1 (by simp); rwa [World.size_alloc] at h
  have hgbs : gb + 1 ≤ W1.heap.size := by rw [hW1, hgb]; simp
  rw [← hW1, ← hg1, ← hgb]
  have HGB := Lib.hid hgb
  clear hW1 hg1 hgb
  go_loopw [3, 9] (fun v i wr => ∃ (k j g' c' : Nat), k ≤ n ∧ j ≤ k ∧ i = .int .i64 k ∧ v = .slice (some ⟨g', 0, none⟩) j c' ∧ wr.ownsRow (gb + 1) 2 1 (.slice (some ⟨g', 0, none⟩) j c') j (flat icell (idxL (xs.take k))) ∧ Blk wr gb 24 #[.slice A n c] ∧ gb + 1 ≤ wr.heap.size ∧ Below w.heap.size w wr) (fun _ i _ => n - (intOf i).toNat)
  case atStart => exact ⟨0, 0, g1, 0, by omega, by omega, rfl, rfl, by simpa [flat, idxL, idxGo] using hown, hB, hgbs, hb1⟩
  case round =>
    clear hown hB hb1 hgbs
    obtain ⟨k, j, g', c', hk, hjk, rfl, rfl, hown, hB, hgs, hv⟩ := hrel
    by_cases hlt : k < n
    · obtain ⟨x, hx⟩ := get_of_lt (xs := xs) (k := k) (by rw [hn.out]; exact hlt)
      obtain ⟨ad, rfl, hab, c0, c1, c2, c3, c4, c5⟩ := Order.at_ (hA.below hv) hx
      have HS := Lib.hid (idxL_step hx)
      have k0 : wr.cell? ⟨gb, 0, none⟩ = some (.slice (some ad) n c) := hB.cell 0
      clear hx
      by_cases hl : 0 < x.left
      · have HS2 := Lib.hid (HS.out.trans (by rw [if_pos hl] : _ = idxL (xs.take k) ++ [(k : Int)]))
        go_wp2_with (at_builtin; refine app_ownG _ _ rfl _ _ 31 2 rfl i0 _ 1 8 Try.underlying31 hi0 hz0 hz1 hz2 rfl (by omega) _ (.slice (some ⟨g', 0, none⟩) j c') j _ rfl _ (World.size_alloc _ _).symm rfl (own_below hown (bl_alloc (Below.refl _ _) _)) rfl (by simp [Value.oneCell']) (by unfold maxLen; omega) (by omega) (by simp; omega) ?_; intro A2 c2 w2 hown2 hg2)
        have hvx := bl_alloc hv (Obj.cells #[Value.int IntKind.i64 x.id, Value.string x.customer, Value.int IntKind.i64 x.stage, Value.int IntKind.i64 x.due, Value.int IntKind.i64 x.left, Value.int IntKind.i64 x.fittings] 38)
        have hge := own_at hown g' rfl
        have hgw := HGB.out
        have hv2 := bl_grown hvx hg2 (fun k e => by have := own_at hown k e; omega)
        obtain ⟨g2, hA2⟩ := own_addr hown2 (by omega)
        subst hA2
        refine ⟨⟨k + 1, j + 1, g2, c2, by omega, by omega, by go_num, rfl, ?_, (hB.alloc _).grown hg2 (fun e => by simp [Value.ownBlock] at e; omega), ?_, hv2⟩, by simp [intOf]; omega⟩
        · rw [HS2.out, flat_append, flat_one]; exact hown2
        · have := hg2.size; simp at this; omega
      · have HS2 := Lib.hid (HS.out.trans (by rw [if_neg hl]; simp : _ = idxL (xs.take k)))
        go_wp2_with fail
        refine ⟨⟨k + 1, j, g', c', by omega, by omega, by go_num, rfl, ?_, hB.alloc _, by simp; omega, bl_alloc hv _⟩, by simp [intOf]; omega⟩
        rw [HS2.out]; exact own_below hown (bl_alloc (Below.refl _ _) _)
    · have hkn : k = n := by omega
      subst hkn
      rw [List.take_of_length_le (by have := hn.out; omega)] at hown
      have hjl : (idxL xs).length = j := by have := hown.1; rw [flat_icell_len, Nat.mul_one] at this; exact this
      have hge := own_at hown g' rfl
      have hgw := HGB.out
      have HJ := Lib.hid hjl
      have hne : gb ≠ g' := by omega
      have HG := Lib.hid hgw
      have k0 : wr.cell? ⟨gb, 0, none⟩ = some (.slice A k c) := hB.cell 0
      have hC : Cx gb A xs k c g' wr := ⟨hB, hA.below hv, hne, fun a e hx => by
        obtain ⟨ad', e', hb, _⟩ := hA (by rw [flat_length Order.cells_length]; have := List.length_pos_iff.2 hx; omega)
        rw [e] at e'; injection e' with e'; subst e'
        have := HG.out; omega, hn.out, by omega⟩
      clear hjl hgw
      have HC := Lib.hid hC
      clear hC
      go_wp2_with fail
      refine (sortStable_c (gb + 1) j c' (idxL xs) HJ (by omega) (Lib.hid (idxGo_up _ _)) (Lib.hid (idxL_inR _)) _ HC.out hown).mono ?_
      rintro e W ⟨l, ⟨hp, hs⟩, rfl, hD, hg⟩
      have hl := workL_of hp hs
      subst hl
      have HD := Lib.hid hD
      clear hp hs hD
      go_wp2_with fail
      go_returns
      refine ⟨some ⟨g', 0, none⟩, c', by rw [workL_len, HJ.out]; rfl, ?_, bl_grown hv hg (fun k e => by injection e with e; subst e; have := HG.out; omega)⟩
      rw [workL_len, HJ.out]
      exact own_base HD.out (by have := HG.out; omega)
end Go.Proofs.Ytggficacnmddiaa
