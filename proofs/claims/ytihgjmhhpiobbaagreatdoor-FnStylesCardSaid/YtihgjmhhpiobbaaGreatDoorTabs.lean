/- What the library's variables hold, as the walks want it. -/
import Derived.Test.YtihgjmhhpiobbaaGreatDoorDecI
namespace Go.Proofs.YtihgjmhhpiobbaaGreatDoor
open Go.RowKit

def IfaceAt (w : World) (g : Nat) : Prop := ∃ ev, w.cell? ⟨g, 0, none⟩ = some ev ∧ (ev = .nilIface ∨ ∃ te pe, ev = .iface te pe)
theorem IfaceAt.below {w w' : World} {g : Nat} (h : IfaceAt w g) (hb : Below w.heap.size w w') : IfaceAt w' g := by
  obtain ⟨ev, hc, he⟩ := h
  exact ⟨ev, bl_cell hb hc, he⟩
structure Tabs (w : World) : Prop where
  pow : Pow10 w
  len : ∃ m, w.cell? ⟨1, 0, none⟩ = some (.int .i64 m)
  syn : IfaceAt w 2
  rng : IfaceAt w 3
theorem Tabs.below {w w' : World} (h : Tabs w) (hb : Below w.heap.size w w') : Tabs w' := by
  obtain ⟨m, hm⟩ := h.len
  exact ⟨h.pow.below hb, ⟨m, bl_cell hb hm⟩, h.syn.below hb, h.rng.below hb⟩
end Go.Proofs.YtihgjmhhpiobbaaGreatDoor
