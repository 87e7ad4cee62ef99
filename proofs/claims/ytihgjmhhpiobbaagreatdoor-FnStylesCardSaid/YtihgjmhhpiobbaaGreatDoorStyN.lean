/- What the law on styles says, in plain Lean. -/
import Derived.Test.YtihgjmhhpiobbaaGreatDoorStyH
namespace Go.Proofs.YtihgjmhhpiobbaaGreatDoor
open Go.RowKit

def jn (L : List ByteArray) : ByteArray := ⟨(Lib.join (L.map (·.data.toList)) [59]).toArray⟩
theorem joinTail_snocN (sep : List UInt8) (r : List (List UInt8)) (y : List UInt8) : Lib.joinTail sep (r ++ [y]) = Lib.joinTail sep r ++ (sep ++ y) := by
  simp [Lib.joinTail]
theorem jn_snoc {L : List ByteArray} (h : L ≠ []) (y : ByteArray) : jn (L ++ [y]) = (jn L ++ ⟨#[59]⟩) ++ y := by
  cases L with
  | nil => exact absurd rfl h
  | cons x r =>
    apply ByteArray.ext
    apply Array.ext'
    unfold jn
    simp only [List.map_append, List.map_cons, List.cons_append, List.map_nil, Lib.join_cons, joinTail_snocN, ByteArray.data_append, Array.toList_append]
    simp
theorem jn_one (y : ByteArray) : jn [y] = y := by
  unfold jn
  rw [List.map_cons, List.map_nil, Lib.join_one]
theorem jn_spl (s : ByteArray) : jn (splC 59 s) = s := by
  unfold jn splC
  rw [List.map_map]
  have e : ((fun x : ByteArray => x.data.toList) ∘ fun l : List UInt8 => (⟨l.toArray⟩ : ByteArray)) = id := by funext l; simp
  rw [e, List.map_id]
  unfold Lib.join
  rw [← spl_join]
theorem text_rd {x : Style} (hx : styB x = true) : clsOk (textS x) = true ∧ tro (splC 59 (textS x)) = [] ∧ rdS (textS x) = x ∧ rdC (textS x) = 0 ∧ (textS x).size ≤ 300 := by
  obtain ⟨h1, h2, h3, h4⟩ := text_reads hx
  have hk : clsOk (textS x) = true := by unfold clsOk; rw [decide_eq_true h1, decide_eq_true h2]; rfl
  refine ⟨hk, h3, ?_, ?_, h1⟩
  · unfold rdS; rw [if_pos hk, if_pos h3, h4]
  · unfold rdC; rw [if_pos hk, if_pos h3]
theorem rd_no {s : ByteArray} (h : clsOk s = false) : rdC s = 5 := by unfold rdC; rw [if_neg (by rw [h]; simp)]
theorem rd_bad {s : ByteArray} (h : clsOk s = true) (ht : tro (splC 59 s) ≠ []) : rdC s = 7 := by unfold rdC; rw [if_pos h, if_neg ht]
theorem rd_ok {s : ByteArray} (h : clsOk s = true) (ht : tro (splC 59 s) = []) : rdC s = 0 ∧ styB (rdS s) = true := by
  refine ⟨by unfold rdC; rw [if_pos h, if_pos ht], ?_⟩
  unfold rdS
  rw [if_pos h, if_pos ht]
  exact read_sty ht
theorem troGo_len : ∀ (cl seen : List ByteArray) (i : Nat), (troGo cl seen i).length ≤ cl.length
  | [], _, _ => by simp [troGo]
  | c :: r, seen, i => by
    have h := troGo_len r (seen ++ [hdW c]) (i + 1)
    simp only [troGo, List.length_append, List.length_cons]
    split <;> simp <;> omega
theorem tro_len (cl : List ByteArray) : (tro cl).length ≤ cl.length + 1 := by
  have h := troGo_len cl [] 0
  unfold tro lackT
  rw [List.length_append]
  split <;> simp <;> omega
theorem tro_at {cl : List ByteArray} {i : Nat} {t : TroubleP} (h : (tro cl)[i]? = some t) : 0 ≤ t.clause ∧ t.clause ≤ cl.length ∧ 1 ≤ t.code ∧ t.code ≤ 6 ∧ (t.code = 6 ↔ t.clause = cl.length) := (tro_in cl).2 t (List.mem_of_getElem? h)
theorem tro_up {cl : List ByteArray} {i : Nat} {t u : TroubleP} (ht : (tro cl)[i]? = some t) (hu : (tro cl)[i + 1]? = some u) : t.clause < u.clause := by
  obtain ⟨a, ha⟩ := List.getElem?_eq_some_iff.1 ht
  obtain ⟨b, hb⟩ := List.getElem?_eq_some_iff.1 hu
  rw [← ha, ← hb]
  exact List.pairwise_iff_getElem.1 (tro_in cl).1 i (i + 1) a b (by omega)
end Go.Proofs.YtihgjmhhpiobbaaGreatDoor
