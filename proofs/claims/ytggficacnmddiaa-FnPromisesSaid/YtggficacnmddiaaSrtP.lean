/- Lists of places sorted by a key and then by the place: insertion, merging, turning; no program text. -/
import Derived.Test.YtggficacnmddiaaCore
namespace Go.Proofs.Ytggficacnmddiaa

def lexL (key : Int → Int) (x y : Int) : Prop := key x < key y ∨ (key x = key y ∧ x < y)
def Lx (key : Int → Int) (l : List Int) : Prop := l.Pairwise (lexL key)
section
variable {key : Int → Int}
theorem lexL_trans {x y z : Int} (h : lexL key x y) (k : lexL key y z) : lexL key x z := by unfold lexL at *; omega
theorem lexL_asymm {x y : Int} (h : lexL key x y) (k : lexL key y x) : False := by unfold lexL at *; omega
theorem lexL_le {x y : Int} (h : lexL key x y) : key x ≤ key y := by unfold lexL at h; omega
theorem lx_unique {l m : List Int} (h : l.Perm m) (h1 : Lx key l) (h2 : Lx key m) : l = m :=
  List.Perm.eq_of_pairwise (le := lexL key) (fun _ _ _ _ a b => (lexL_asymm a b).elim) h1 h2 h
theorem lx_append {a b : List Int} : Lx key (a ++ b) ↔ Lx key a ∧ Lx key b ∧ ∀ x ∈ a, ∀ y ∈ b, lexL key x y := List.pairwise_append
theorem lx_nil : Lx key [] := List.Pairwise.nil
theorem lx_one (x : Int) : Lx key [x] := List.pairwise_singleton _ _
theorem lx_last {l : List Int} {z : Int} (h : Lx key (l ++ [z])) : ∀ x ∈ l ++ [z], key x ≤ key z := by
  intro x hx
  rcases List.mem_append.1 hx with hx | hx
  · exact lexL_le ((lx_append.1 h).2.2 x hx z (by simp))
  · rw [List.mem_singleton.1 hx]; exact Int.le_refl _
theorem lx_head {l : List Int} {z : Int} (h : Lx key (z :: l)) : ∀ x ∈ z :: l, key z ≤ key x := by
  intro x hx
  rcases List.mem_cons.1 hx with hx | hx
  · rw [hx]; exact Int.le_refl _
  · exact lexL_le ((List.pairwise_cons.1 h).1 x hx)
/-- One that is greater than all is put behind all whose key is not greater. -/
theorem lx_insert {a b : List Int} {y : Int} (h : Lx key (a ++ b)) (hy : ∀ z ∈ a ++ b, z < y) (ha : ∀ z ∈ a, key z ≤ key y) (hb : ∀ z ∈ b, key y < key z) : Lx key (a ++ y :: b) := by
  obtain ⟨h1, h2, h3⟩ := lx_append.1 h
  refine lx_append.2 ⟨h1, List.pairwise_cons.2 ⟨fun z hz => .inl (hb z hz), h2⟩, fun x hx z hz => ?_⟩
  rcases List.mem_cons.1 hz with rfl | hz
  · have := ha x hx
    have := hy x (List.mem_append_left _ hx)
    unfold lexL; omega
  · exact h3 x hx z hz
/-- Equal keys: those of the first list are less. -/
def Crs (key : Int → Int) (a b : List Int) : Prop := ∀ x ∈ a, ∀ y ∈ b, key x = key y → x < y
/-- Two sorted lists, each parted: the four parts, merged in two pairs. -/
theorem lx_join {a1 a2 b1 b2 m1 m2 : List Int} (hc : Crs key (a1 ++ a2) (b1 ++ b2)) (ha : Lx key (a1 ++ a2)) (hb : Lx key (b1 ++ b2)) (h1 : ∀ x ∈ a1, ∀ y ∈ b2, key x ≤ key y) (h2 : ∀ x ∈ a2, ∀ y ∈ b1, key y < key x)
    (p1 : m1.Perm (a1 ++ b1)) (p2 : m2.Perm (a2 ++ b2)) (s1 : Lx key m1) (s2 : Lx key m2) : Lx key (m1 ++ m2) ∧ (m1 ++ m2).Perm ((a1 ++ a2) ++ (b1 ++ b2)) := by
  refine ⟨lx_append.2 ⟨s1, s2, fun x hx y hy => ?_⟩, ?_⟩
  · have hx' := p1.mem_iff.1 hx
    have hy' := p2.mem_iff.1 hy
    rcases List.mem_append.1 hx' with hx' | hx' <;> rcases List.mem_append.1 hy' with hy' | hy'
    · exact (lx_append.1 ha).2.2 x hx' y hy'
    · have := h1 x hx' y hy'
      have := hc x (List.mem_append_left _ hx') y (List.mem_append_right _ hy')
      unfold lexL; omega
    · exact .inl (h2 y hy' x hx')
    · exact (lx_append.1 hb).2.2 x hx' y hy'
  · refine (p1.append p2).trans ?_
    rw [List.append_assoc, List.append_assoc]
    refine List.Perm.append_left _ ?_
    rw [← List.append_assoc, ← List.append_assoc]
    exact List.Perm.append_right _ List.perm_append_comm
theorem crs_parts {a1 a2 b1 b2 : List Int} (hc : Crs key (a1 ++ a2) (b1 ++ b2)) : Crs key a1 b1 ∧ Crs key a2 b2 :=
  ⟨fun x hx y hy => hc x (List.mem_append_left _ hx) y (List.mem_append_left _ hy), fun x hx y hy => hc x (List.mem_append_right _ hx) y (List.mem_append_right _ hy)⟩
/-- from the ends to all -/
theorem cut_le {a1 a2 b1 b2 : List Int} (ha : Lx key (a1 ++ a2)) (hb : Lx key (b1 ++ b2)) (h : a1 = [] ∨ b2 = [] ∨ ∃ x y, a1.getLast? = some x ∧ b2.head? = some y ∧ key x ≤ key y) : ∀ x ∈ a1, ∀ y ∈ b2, key x ≤ key y := by
  intro x hx y hy
  rcases h with rfl | rfl | ⟨u, v, hu, hv, huv⟩
  · cases hx
  · cases hy
  · obtain ⟨l, rfl⟩ : ∃ l, a1 = l ++ [u] := List.getLast?_eq_some_iff.1 hu
    obtain ⟨r, rfl⟩ : ∃ r, b2 = v :: r := by cases b2 with
      | nil => cases hv
      | cons z r => simp only [List.head?_cons, Option.some.injEq] at hv; exact ⟨r, by rw [hv]⟩
    have h1 := lx_last (lx_append.1 ha).1 x hx
    have h2 := lx_head (lx_append.1 hb).2.1 y hy
    omega
theorem cut_lt {a1 a2 b1 b2 : List Int} (ha : Lx key (a1 ++ a2)) (hb : Lx key (b1 ++ b2)) (h : b1 = [] ∨ a2 = [] ∨ ∃ x y, b1.getLast? = some y ∧ a2.head? = some x ∧ key y < key x) : ∀ x ∈ a2, ∀ y ∈ b1, key y < key x := by
  intro x hx y hy
  rcases h with rfl | rfl | ⟨u, v, hu, hv, huv⟩
  · cases hy
  · cases hx
  · obtain ⟨l, rfl⟩ : ∃ l, b1 = l ++ [v] := List.getLast?_eq_some_iff.1 hu
    obtain ⟨r, rfl⟩ : ∃ r, a2 = u :: r := by cases a2 with
      | nil => cases hv
      | cons z r => simp only [List.head?_cons, Option.some.injEq] at hv; exact ⟨r, by rw [hv]⟩
    have h1 := lx_last (lx_append.1 hb).1 y hy
    have h2 := lx_head (lx_append.1 ha).2.1 x hx
    omega
end
/-! ### The one sorted list -/
def insI (key : Int → Int) (x : Int) : List Int → List Int
  | [] => [x]
  | y :: ys => if key x < key y ∨ (key x = key y ∧ x < y) then x :: y :: ys else y :: insI key x ys
def srtI (key : Int → Int) : List Int → List Int
  | [] => []
  | x :: xs => insI key x (srtI key xs)
theorem insI_perm (key : Int → Int) (x : Int) : ∀ l : List Int, (insI key x l).Perm (x :: l)
  | [] => List.Perm.refl _
  | y :: ys => by
    simp only [insI]
    split
    · exact List.Perm.refl _
    · exact ((insI_perm key x ys).cons y).trans (List.Perm.swap x y ys)
theorem srtI_perm (key : Int → Int) : ∀ l : List Int, (srtI key l).Perm l
  | [] => List.Perm.refl _
  | x :: xs => (insI_perm key x _).trans ((srtI_perm key xs).cons x)
theorem insI_lx {key : Int → Int} {x : Int} : ∀ {l : List Int}, Lx key l → x ∉ l → Lx key (insI key x l)
  | [], _, _ => lx_one x
  | y :: ys, h, hx => by
    obtain ⟨h1, h2⟩ := List.pairwise_cons.1 h
    simp only [List.mem_cons, not_or] at hx
    simp only [insI]
    split
    · rename_i hlt
      refine List.pairwise_cons.2 ⟨fun z hz => ?_, h⟩
      rcases List.mem_cons.1 hz with rfl | hz
      · exact hlt
      · exact lexL_trans hlt (h1 z hz)
    · rename_i hge
      refine List.pairwise_cons.2 ⟨fun z hz => ?_, insI_lx h2 hx.2⟩
      rcases List.mem_cons.1 ((insI_perm key x ys).mem_iff.1 hz) with rfl | hz
      · unfold lexL; have := hx.1; omega
      · exact h1 z hz
theorem srtI_lx {key : Int → Int} : ∀ {l : List Int}, l.Nodup → Lx key (srtI key l)
  | [], _ => lx_nil
  | x :: xs, h => by
    obtain ⟨h1, h2⟩ := List.nodup_cons.1 h
    exact insI_lx (srtI_lx h2) (fun hx => h1 ((srtI_perm key xs).mem_iff.1 hx))
theorem srtI_of {key : Int → Int} {l m : List Int} (hp : m.Perm l) (hm : Lx key m) (hn : l.Nodup) : m = srtI key l :=
  lx_unique (hp.trans (srtI_perm key l).symm) hm (srtI_lx hn)
/-! ### Cells of a list that is written out in parts -/
theorem at_mid {α : Type} (a : List α) (x : α) (b : List α) {k : Nat} (h : a.length = k) : (a ++ x :: b)[k]? = some x := by
  subst h; simp
theorem set_mid {α : Type} (a : List α) (x y : α) (b : List α) {k : Nat} (h : a.length = k) : (a ++ x :: b).set k y = a ++ y :: b := by
  subst h; simp
end Go.Proofs.Ytggficacnmddiaa
