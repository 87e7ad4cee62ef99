/- The program's clauses of a valid style are the reference's texts: plain Lean. builds. -/
import Derived.Test.YtihgjmhhpiobbaaGreatDoorStyQ
namespace Go.Proofs.YtihgjmhhpiobbaaGreatDoor
open Go.RowKit

def cl3 (x : Style) : ByteArray := if 0 < x.heel then ⟨#[104, 101, 101, 108, 32]⟩ ++ decI x.heel else ⟨#[]⟩
def cl4 (x : Style) : ByteArray := if 0 < x.eyelets then ⟨#[101, 121, 101, 108, 101, 116, 115, 32]⟩ ++ decI x.eyelets else ⟨#[]⟩
def cl5a (x : Style) : ByteArray := if 0 < x.density then ⟨#[115, 116, 105, 116, 99, 104, 32]⟩ ++ decI x.density else ⟨#[]⟩
def cl5 (x : Style) : ByteArray := if x.double = true then cl5a x ++ ⟨#[32, 100, 111, 117, 98, 108, 101]⟩ else cl5a x
theorem cl_txt {x : Style} (hx : styB x = true) : cl3 x = txt3 x ∧ cl4 x = txt4 x ∧ cl5 x = txt5 x := by
  rw [styB_parts] at hx
  obtain ⟨_, _, _, _, _, h6, h7, h8⟩ := hx
  rw [inB_iff] at h6 h7
  refine ⟨?_, ?_, ?_⟩
  · unfold cl3 txt3
    by_cases h : x.heel = 0
    · rw [if_pos h, if_neg (by omega)]
    · rw [if_neg h, if_pos (by omega)]
  · unfold cl4 txt4
    by_cases h : x.eyelets = 0
    · rw [if_pos h, if_neg (by omega)]
    · rw [if_neg h, if_pos (by omega)]
  · have hd : cl5a x = txt5a x := by
      unfold cl5a txt5a
      rw [Bool.or_eq_true, Bool.and_eq_true, decide_eq_true_eq, Bool.not_eq_true', inB_iff] at h8
      rcases h8 with ⟨h1, h2⟩ | h8
      · rw [if_neg (by omega : ¬ 0 < x.density), if_pos (show x.density = 0 ∧ x.double = false from ⟨h1, h2⟩)]
      · rw [if_pos (by omega : 0 < x.density), if_neg (show ¬ (x.density = 0 ∧ x.double = false) from fun h => by have := h.1; omega)]
    unfold cl5 txt5
    rw [hd]
end Go.Proofs.YtihgjmhhpiobbaaGreatDoor
