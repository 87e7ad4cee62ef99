/- A console's state that came in; the law on ValidDesk. -/
import Derived.Test.YtihgjmhhpiobbaaGreatDoorTabsR
import Derived.Test.YtihgjmhhpiobbaaGreatDoorDkV
import Derived.Test.YtihgjmhhpiobbaaGreatDoorDkS
import Derived.Test.YtihgjmhhpiobbaaGreatDoorDeskA
namespace Go.Proofs.YtihgjmhhpiobbaaGreatDoor
open Go.ChangeShapes Go.WideShapes Go.ChangeAt Go.RowKit Go.Deep Go.Joins

section
variable {H : Type} {enc : TypeId × Value → H} {P : Program} {w : World} {base : Nat} {spare : Nat → Bool} {held : Bool}
/-- the fields of a struct that reads as data -/
theorem fields_in {t : TypeId} {fs : Array Field} {fuel : Nat} {cs : List Value} {x : DataW H × List MemPlace} (hs : P.underlying t = some (.struct fs)) (h : DataW.trod enc P w base spare held fuel t cs = some x) :
    ∃ n, ∀ (i : Nat) (f : Field), fs[i]? = some f → ∃ y, DataW.trod enc P w base spare held n f.type ((cs.drop f.offset).take (P.cellsOf f.type)) = some y := by
  obtain ⟨ys, n, _, _, _, hlen, hf⟩ := DataW.trod_struct hs h
  refine ⟨n, fun i f hi => ?_⟩
  have hlt : i < ys.length := by rw [hlen]; exact (Array.getElem?_eq_some_iff.1 hi).1
  exact ⟨ys[i], (hf i f hi).trans (List.getElem?_eq_getElem hlt)⟩
end
theorem listBeq_self {α : Type} {f : α → α → Bool} (hf : ∀ x, f x x = true) : ∀ xs : List α, listBeq f xs xs = true
  | [] => rfl
  | x :: xs => by simp only [listBeq, hf, listBeq_self hf xs]; rfl
theorem array_15 {α : Type} : ∀ {a : Array α}, a.size = 15 → ∃ c0 c1 c2 c3 c4 c5 c6 c7 c8 c9 c10 c11 c12 c13 c14, a = #[c0, c1, c2, c3, c4, c5, c6, c7, c8, c9, c10, c11, c12, c13, c14]
  | ⟨[c0, c1, c2, c3, c4, c5, c6, c7, c8, c9, c10, c11, c12, c13, c14]⟩, _ => ⟨c0, c1, c2, c3, c4, c5, c6, c7, c8, c9, c10, c11, c12, c13, c14, rfl⟩
theorem cells_Desk : Tryz.prog.cellsOf 28 = 15 := by kernel_rfl
theorem cells_int : Tryz.prog.cellsOf 2 = 1 := by kernel_rfl
theorem cells_str : Tryz.prog.cellsOf 9 = 1 := by kernel_rfl
theorem cells_bl : Tryz.prog.cellsOf 4 = 1 := by kernel_rfl
theorem cells_LastS : Tryz.prog.cellsOf 24 = 1 := by kernel_rfl
def Foot.wf (x : Foot) : Prop := I64 x.length ∧ I64 x.ball ∧ I64 x.instep ∧ I64 x.heel
theorem cells_Foot : Tryz.prog.cellsOf 23 = 4 := by kernel_rfl
set_option maxRecDepth 100000 in
theorem open_Foot_in {H : Type} {enc : TypeId × Value → H} {W : World} {fuel : Nat} {c0 c1 c2 c3 : Value} {x : DataW H × List MemPlace} (hf : DataW.trod enc Tryz.prog W 0 (fun _ => true) true fuel 23 [c0, c1, c2, c3] = some x) :
    ∃ x : Foot, [c0, c1, c2, c3] = x.cells ∧ Foot.wf x := by
  obtain ⟨m, hF⟩ := fields_in Tryz.underlying23 hf
  obtain ⟨y0, h0⟩ := hF 0 _ rfl
  have t0 : DataW.trod enc Tryz.prog W 0 (fun _ => true) true m 2 [c0] = some y0 := by simpa [cells_int] using h0
  obtain ⟨z0, e0, _, q0⟩ := DataW.trod_int Tryz.underlying2 t0
  simp only [List.cons.injEq, and_true] at e0
  subst e0
  obtain ⟨y1, h1⟩ := hF 1 _ rfl
  have t1 : DataW.trod enc Tryz.prog W 0 (fun _ => true) true m 2 [c1] = some y1 := by simpa [cells_int] using h1
  obtain ⟨z1, e1, _, q1⟩ := DataW.trod_int Tryz.underlying2 t1
  simp only [List.cons.injEq, and_true] at e1
  subst e1
  obtain ⟨y2, h2⟩ := hF 2 _ rfl
  have t2 : DataW.trod enc Tryz.prog W 0 (fun _ => true) true m 2 [c2] = some y2 := by simpa [cells_int] using h2
  obtain ⟨z2, e2, _, q2⟩ := DataW.trod_int Tryz.underlying2 t2
  simp only [List.cons.injEq, and_true] at e2
  subst e2
  obtain ⟨y3, h3⟩ := hF 3 _ rfl
  have t3 : DataW.trod enc Tryz.prog W 0 (fun _ => true) true m 2 [c3] = some y3 := by simpa [cells_int] using h3
  obtain ⟨z3, e3, _, q3⟩ := DataW.trod_int Tryz.underlying2 t3
  simp only [List.cons.injEq, and_true] at e3
  subst e3
  exact ⟨⟨z0, z1, z2, z3⟩, rfl, ⟨i64_of_wf q0, i64_of_wf q1, i64_of_wf q2, i64_of_wf q3⟩⟩
def Style.wf (x : Style) : Prop := x.upper.size ≤ 9223372036854775807 ∧ x.color.size ≤ 9223372036854775807 ∧ x.lining.size ≤ 9223372036854775807 ∧ x.sole.size ≤ 9223372036854775807 ∧ I64 x.thick ∧ I64 x.heel ∧ I64 x.eyelets ∧ I64 x.density ∧ (x.double = true ∨ x.double = false)
theorem cells_Style : Tryz.prog.cellsOf 26 = 9 := by kernel_rfl
set_option maxRecDepth 100000 in
theorem open_Style_in {H : Type} {enc : TypeId × Value → H} {W : World} {fuel : Nat} {c0 c1 c2 c3 c4 c5 c6 c7 c8 : Value} {x : DataW H × List MemPlace} (hf : DataW.trod enc Tryz.prog W 0 (fun _ => true) true fuel 26 [c0, c1, c2, c3, c4, c5, c6, c7, c8] = some x) :
    ∃ x : Style, [c0, c1, c2, c3, c4, c5, c6, c7, c8] = x.cells ∧ Style.wf x := by
  obtain ⟨m, hF⟩ := fields_in Tryz.underlying26 hf
  obtain ⟨y0, h0⟩ := hF 0 _ rfl
  have t0 : DataW.trod enc Tryz.prog W 0 (fun _ => true) true m 9 [c0] = some y0 := by simpa [cells_str] using h0
  obtain ⟨z0, e0, _, q0⟩ := DataW.trod_string Tryz.underlying9 t0
  simp only [List.cons.injEq, and_true] at e0
  subst e0
  obtain ⟨y1, h1⟩ := hF 1 _ rfl
  have t1 : DataW.trod enc Tryz.prog W 0 (fun _ => true) true m 9 [c1] = some y1 := by simpa [cells_str] using h1
  obtain ⟨z1, e1, _, q1⟩ := DataW.trod_string Tryz.underlying9 t1
  simp only [List.cons.injEq, and_true] at e1
  subst e1
  obtain ⟨y2, h2⟩ := hF 2 _ rfl
  have t2 : DataW.trod enc Tryz.prog W 0 (fun _ => true) true m 9 [c2] = some y2 := by simpa [cells_str] using h2
  obtain ⟨z2, e2, _, q2⟩ := DataW.trod_string Tryz.underlying9 t2
  simp only [List.cons.injEq, and_true] at e2
  subst e2
  obtain ⟨y3, h3⟩ := hF 3 _ rfl
  have t3 : DataW.trod enc Tryz.prog W 0 (fun _ => true) true m 9 [c3] = some y3 := by simpa [cells_str] using h3
  obtain ⟨z3, e3, _, q3⟩ := DataW.trod_string Tryz.underlying9 t3
  simp only [List.cons.injEq, and_true] at e3
  subst e3
  obtain ⟨y4, h4⟩ := hF 4 _ rfl
  have t4 : DataW.trod enc Tryz.prog W 0 (fun _ => true) true m 2 [c4] = some y4 := by simpa [cells_int] using h4
  obtain ⟨z4, e4, _, q4⟩ := DataW.trod_int Tryz.underlying2 t4
  simp only [List.cons.injEq, and_true] at e4
  subst e4
  obtain ⟨y5, h5⟩ := hF 5 _ rfl
  have t5 : DataW.trod enc Tryz.prog W 0 (fun _ => true) true m 2 [c5] = some y5 := by simpa [cells_int] using h5
  obtain ⟨z5, e5, _, q5⟩ := DataW.trod_int Tryz.underlying2 t5
  simp only [List.cons.injEq, and_true] at e5
  subst e5
  obtain ⟨y6, h6⟩ := hF 6 _ rfl
  have t6 : DataW.trod enc Tryz.prog W 0 (fun _ => true) true m 2 [c6] = some y6 := by simpa [cells_int] using h6
  obtain ⟨z6, e6, _, q6⟩ := DataW.trod_int Tryz.underlying2 t6
  simp only [List.cons.injEq, and_true] at e6
  subst e6
  obtain ⟨y7, h7⟩ := hF 7 _ rfl
  have t7 : DataW.trod enc Tryz.prog W 0 (fun _ => true) true m 2 [c7] = some y7 := by simpa [cells_int] using h7
  obtain ⟨z7, e7, _, q7⟩ := DataW.trod_int Tryz.underlying2 t7
  simp only [List.cons.injEq, and_true] at e7
  subst e7
  obtain ⟨y8, h8⟩ := hF 8 _ rfl
  have t8 : DataW.trod enc Tryz.prog W 0 (fun _ => true) true m 4 [c8] = some y8 := by simpa [cells_bl] using h8
  obtain ⟨z8, e8, _⟩ := DataW.trod_bool Tryz.underlying4 t8
  simp only [List.cons.injEq, and_true] at e8
  subst e8
  exact ⟨⟨z0, z1, z2, z3, z4, z5, z6, z7, z8⟩, rfl, ⟨by have := q0; unfold maxLen at this; omega, by have := q1; unfold maxLen at this; omega, by have := q2; unfold maxLen at this; omega, by have := q3; unfold maxLen at this; omega, i64_of_wf q4, i64_of_wf q5, i64_of_wf q6, i64_of_wf q7, by cases z8 <;> simp⟩⟩
set_option maxRecDepth 100000 in
theorem open_Desk {H : Type} {enc : TypeId × Value → H} {W : World} {base : Nat} {v : Value} {d : DataW H} {p : List MemPlace} (hval : Value.okWide Tryz.prog W .any base 28 v)
    (h : DataW.Trod enc Tryz.prog W 0 (fun _ => true) true 28 v d p) :
    ∃ (f : Foot) (s : Style) (lg : ByteArray) (A : Option Addr) (xs : List Last) (n c : Nat), v = .agg #[Value.int IntKind.i64 f.length, Value.int IntKind.i64 f.ball, Value.int IntKind.i64 f.instep, Value.int IntKind.i64 f.heel, Value.slice A n c, Value.string s.upper, Value.string s.color, Value.string s.lining, Value.string s.sole, Value.int IntKind.i64 s.thick, Value.int IntKind.i64 s.heel, Value.int IntKind.i64 s.eyelets, Value.int IntKind.i64 s.density, Value.bool s.double, Value.string lg] ∧ Style.wf s ∧ lg.size ≤ 9223372036854775807 ∧ xs.length = n ∧ n ≤ 9223372036854775807 ∧ (∀ x ∈ xs, Last.wf x) ∧ Arr W A (flat Last.cells xs) := by
  obtain ⟨cs, rfl, hsz⟩ := okWide_struct Tryz.underlying28 hval
  obtain ⟨c0, c1, c2, c3, c4, c5, c6, c7, c8, c9, c10, c11, c12, c13, c14, rfl⟩ := array_15 (hsz.trans cells_Desk)
  obtain ⟨fuel, hf⟩ := h
  obtain ⟨m, hF⟩ := fields_in Tryz.underlying28 hf
  obtain ⟨y0, h0⟩ := hF 0 _ rfl
  obtain ⟨y1, h1⟩ := hF 1 _ rfl
  obtain ⟨y2, h2⟩ := hF 2 _ rfl
  obtain ⟨y3, h3⟩ := hF 3 _ rfl
  have t0 : DataW.trod enc Tryz.prog W 0 (fun _ => true) true m 23 [c0, c1, c2, c3] = some y0 := by simpa [cells_Foot, Value.cells] using h0
  have t1 : DataW.trod enc Tryz.prog W 0 (fun _ => true) true m 24 [c4] = some y1 := by simpa [cells_LastS, Value.cells] using h1
  have t2 : DataW.trod enc Tryz.prog W 0 (fun _ => true) true m 26 [c5, c6, c7, c8, c9, c10, c11, c12, c13] = some y2 := by simpa [cells_Style, Value.cells] using h2
  have t3 : DataW.trod enc Tryz.prog W 0 (fun _ => true) true m 9 [c14] = some y3 := by simpa [cells_str, Value.cells] using h3
  clear h0 h1 h2 h3 hF hf hval
  obtain ⟨f, e0, _⟩ := open_Foot_in t0
  obtain ⟨A, n, c, xs, rfl, l1, l2, l3, l4⟩ := open_LastS_in t1
  obtain ⟨s, e2, ws⟩ := open_Style_in t2
  obtain ⟨lg, e3, _, q3⟩ := DataW.trod_string Tryz.underlying9 t3
  simp only [Foot.cells, Style.cells, List.cons.injEq, and_true] at e0 e2 e3
  go_split_ands
  subst_vars
  exact ⟨f, s, lg, A, xs, _, c, rfl, ws, by unfold maxLen at q3; omega, rfl, l2, l3, l4⟩

set_option maxRecDepth 100000 in
set_option maxHeartbeats 1000000 in
theorem FnExactValidDesk_law (f : Foot) (s : Style) (lg : ByteArray) (A : Option Addr) (xs : List Last) (n c : Nat)
    (ws : Style.wf s) (wl : lg.size ≤ 9223372036854775807) (hn : Hid (xs.length = n)) (hmx : n ≤ 9223372036854775807) (hx : ∀ x ∈ xs, Last.wf x)
    (w : World) (hA : Arr w A (flat Last.cells xs)) (hT : Tabs w) : Calls Tryz.prog 3 #[.agg #[Value.int IntKind.i64 f.length, Value.int IntKind.i64 f.ball, Value.int IntKind.i64 f.instep, Value.int IntKind.i64 f.heel, Value.slice A n c, Value.string s.upper, Value.string s.color, Value.string s.lining, Value.string s.sole, Value.int IntKind.i64 s.thick, Value.int IntKind.i64 s.heel, Value.int IntKind.i64 s.eyelets, Value.int IntKind.i64 s.density, Value.bool s.double, Value.string lg]] w (Ret (.bool true) w) := by
  obtain ⟨u1, u2, u3, u4, i5, i6, i7, i8, _⟩ := ws
  have he : ∀ (f : Foot) (xs : List Last) (s : Style) (lg : ByteArray), (f.beq f && listBeq Last.beq xs xs && s.beq s && decide (lg = lg)) = true := by
    intro f xs s lg
    rw [Foot.beq_self, Style.beq_self, listBeq_self Last.beq_self]
    simp
  refine ValidDesk_gen #[Value.int IntKind.i64 f.length, Value.int IntKind.i64 f.ball, Value.int IntKind.i64 f.instep, Value.int IntKind.i64 f.heel, Value.slice A n c, Value.string s.upper, Value.string s.color, Value.string s.lining, Value.string s.sole, Value.int IntKind.i64 s.thick, Value.int IntKind.i64 s.heel, Value.int IntKind.i64 s.eyelets, Value.int IntKind.i64 s.density, Value.bool s.double, Value.string lg] (fun g => #[Value.int IntKind.i64 f.length, Value.int IntKind.i64 f.ball, Value.int IntKind.i64 f.instep, Value.int IntKind.i64 f.heel, Value.slice (some ⟨g, 0, none⟩) n n, Value.string s.upper, Value.string s.color, Value.string s.lining, Value.string s.sole, Value.int IntKind.i64 s.thick, Value.int IntKind.i64 s.heel, Value.int IntKind.i64 s.eyelets, Value.int IntKind.i64 s.density, Value.bool s.double, Value.string lg]) (flat Last.cells xs) A (smallD n s lg) (deskB f xs s lg) rfl (fun _ => rfl) (fun _ => by simp [Value.oneCell'])
    (fun left w h0 h1 h => szDeskP_c f s lg A xs n c left hn hmx (Lib.hid fun x q => (hx x q).1) u1 u2 u3 u4 wl h0 h1 w h)
    (fun hz w h => (toDesk_c f s lg A xs n c hn hz.1 w h).mono fun e w' ⟨g, q1, q2, q3⟩ => ⟨g, q1, Arr.own q2, q3⟩)
    (fun hz w g a => SValidDesk_c f s lg _ xs n n hn hz.1 (Lib.hid fun x q => (hx x q).1) (Lib.hid ⟨hz.2.2, i5, i6, i7, i8⟩) hz.2.1 w a)
    (fun hz w g a hT => ValidDesk_c f s lg _ xs n n hn hz.1 (Lib.hid fun x q => (hx x q).1) (Lib.hid ⟨hz.2.2, i5, i6, i7, i8⟩) hz.2.1 w a hT)
    (fun hz w g h a b => ?_) w hA hT
  · rw [← he f xs s lg]
    exact eqDesk_c f f s s lg lg _ _ xs xs n n n n hn hn hz.1 w a b

end Go.Proofs.YtihgjmhhpiobbaaGreatDoor
