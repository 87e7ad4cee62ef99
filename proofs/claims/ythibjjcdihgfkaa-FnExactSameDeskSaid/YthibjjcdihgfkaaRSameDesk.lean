/- The law FnExactSameDesk holds for every input: it returns true, and what came in reads as before. No condition. -/
import Derived.Test.YthibjjcdihgfkaaRow
import Derived.Test.YthibjjcdihgfkaaDeskL
import Derived.Test.YthibjjcdihgfkaaDeskA
namespace Go.Proofs.Ythibjjcdihgfkaa
open Go.ChangeShapes Go.WideShapes Go.ChangeAt Go.RowKit Go.Deep Go.Joins

section
variable {H : Type} {enc : TypeId × Value → H} {P : Program} {w : World} {base : Nat} {spare : Nat → Bool} {held : Bool}
/-- the fields of a struct that reads as data -/
theorem fields_in {t : TypeId} {fs : Array Field} {fuel : Nat} {cs : List Value} {x : DataW H × List MemPlace} (hs : P.underlying t = some (.struct fs)) (h : DataW.trod enc P w base spare held fuel t cs = some x) :
    ∃ n, ∀ (i : Nat) (f : Field), fs[i]? = some f → ∃ y, DataW.trod enc P w base spare held n f.type ((cs.drop f.offset).take (P.cellsOf f.type)) = some y := by
  obtain ⟨ys, n, _, _, _, hlen, hf⟩ := DataW.trod_struct hs h
  refine ⟨n, fun i f hi => ?_⟩
  have hlt : i < ys.length := by rw [hlen]; exact (Array.getElem?_eq_some_iff.1 hi).1
  exact ⟨ys[i], (hf i f hi).trans (List.getElem?_eq_getElem hlt)⟩
end
theorem listBeq_self {α : Type} {f : α → α → Bool} (hf : ∀ x, f x x = true) : ∀ xs : List α, listBeq f xs xs = true
  | [] => rfl
  | x :: xs => by simp only [listBeq, hf, listBeq_self hf xs]; rfl
theorem array_15 {α : Type} : ∀ {a : Array α}, a.size = 15 → ∃ c0 c1 c2 c3 c4 c5 c6 c7 c8 c9 c10 c11 c12 c13 c14, a = #[c0, c1, c2, c3, c4, c5, c6, c7, c8, c9, c10, c11, c12, c13, c14]
  | ⟨[c0, c1, c2, c3, c4, c5, c6, c7, c8, c9, c10, c11, c12, c13, c14]⟩, _ => ⟨c0, c1, c2, c3, c4, c5, c6, c7, c8, c9, c10, c11, c12, c13, c14, rfl⟩
theorem cells_Desk : Try.prog.cellsOf 28 = 15 := by kernel_rfl
theorem cells_int : Try.prog.cellsOf 2 = 1 := by kernel_rfl
theorem cells_str : Try.prog.cellsOf 9 = 1 := by kernel_rfl
theorem cells_bl : Try.prog.cellsOf 4 = 1 := by kernel_rfl
theorem cells_LastS : Try.prog.cellsOf 24 = 1 := by kernel_rfl
def Foot.wf (x : Foot) : Prop := I64 x.length ∧ I64 x.ball ∧ I64 x.instep ∧ I64 x.heel
theorem cells_Foot : Try.prog.cellsOf 23 = 4 := by kernel_rfl
set_option maxRecDepth 100000 in
theorem open_Foot_in {H : Type} {enc : TypeId × Value → H} {W : World} {fuel : Nat} {c0 c1 c2 c3 : Value} {x : DataW H × List MemPlace} (hf : DataW.trod enc Try.prog W 0 (fun _ => true) true fuel 23 [c0, c1, c2, c3] = some x) :
    ∃ x : Foot, [c0, c1, c2, c3] = x.cells ∧ Foot.wf x := by
  obtain ⟨m, hF⟩ := fields_in Try.underlying23 hf
  obtain ⟨y0, h0⟩ := hF 0 _ rfl
  have t0 : DataW.trod enc Try.prog W 0 (fun _ => true) true m 2 [c0] = some y0 := by simpa [cells_int] using h0
  obtain ⟨z0, e0, _, q0⟩ := DataW.trod_int Try.underlying2 t0
  simp only [List.cons.injEq, and_true] at e0
  subst e0
  obtain ⟨y1, h1⟩ := hF 1 _ rfl
  have t1 : DataW.trod enc Try.prog W 0 (fun _ => true) true m 2 [c1] = some y1 := by simpa [cells_int] using h1
  obtain ⟨z1, e1, _, q1⟩ := DataW.trod_int Try.underlying2 t1
  simp only [List.cons.injEq, and_true] at e1
  subst e1
  obtain ⟨y2, h2⟩ := hF 2 _ rfl
  have t2 : DataW.trod enc Try.prog W 0 (fun _ => true) true m 2 [c2] = some y2 := by simpa [cells_int] using h2
  obtain ⟨z2, e2, _, q2⟩ := DataW.trod_int Try.underlying2 t2
  simp only [List.cons.injEq, and_true] at e2
  subst e2
  obtain ⟨y3, h3⟩ := hF 3 _ rfl
  have t3 : DataW.trod enc Try.prog W 0 (fun _ => true) true m 2 [c3] = some y3 := by simpa [cells_int] using h3
  obtain ⟨z3, e3, _, q3⟩ := DataW.trod_int Try.underlying2 t3
  simp only [List.cons.injEq, and_true] at e3
  subst e3
  exact ⟨⟨z0, z1, z2, z3⟩, rfl, ⟨i64_of_wf q0, i64_of_wf q1, i64_of_wf q2, i64_of_wf q3⟩⟩
def Style.wf (x : Style) : Prop := x.upper.size ≤ 9223372036854775807 ∧ x.color.size ≤ 9223372036854775807 ∧ x.lining.size ≤ 9223372036854775807 ∧ x.sole.size ≤ 9223372036854775807 ∧ I64 x.thick ∧ I64 x.heel ∧ I64 x.eyelets ∧ I64 x.density ∧ (x.double = true ∨ x.double = false)
theorem cells_Style : Try.prog.cellsOf 26 = 9 := by kernel_rfl
set_option maxRecDepth 100000 in
theorem open_Style_in {H : Type} {enc : TypeId × Value → H} {W : World} {fuel : Nat} {c0 c1 c2 c3 c4 c5 c6 c7 c8 : Value} {x : DataW H × List MemPlace} (hf : DataW.trod enc Try.prog W 0 (fun _ => true) true fuel 26 [c0, c1, c2, c3, c4, c5, c6, c7, c8] = some x) :
    ∃ x : Style, [c0, c1, c2, c3, c4, c5, c6, c7, c8] = x.cells ∧ Style.wf x := by
  obtain ⟨m, hF⟩ := fields_in Try.underlying26 hf
  obtain ⟨y0, h0⟩ := hF 0 _ rfl
  have t0 : DataW.trod enc Try.prog W 0 (fun _ => true) true m 9 [c0] = some y0 := by simpa [cells_str] using h0
  obtain ⟨z0, e0, _, q0⟩ := DataW.trod_string Try.underlying9 t0
  simp only [List.cons.injEq, and_true] at e0
  subst e0
  obtain ⟨y1, h1⟩ := hF 1 _ rfl
  have t1 : DataW.trod enc Try.prog W 0 (fun _ => true) true m 9 [c1] = some y1 := by simpa [cells_str] using h1
  obtain ⟨z1, e1, _, q1⟩ := DataW.trod_string Try.underlying9 t1
  simp only [List.cons.injEq, and_true] at e1
  subst e1
  obtain ⟨y2, h2⟩ := hF 2 _ rfl
  have t2 : DataW.trod enc Try.prog W 0 (fun _ => true) true m 9 [c2] = some y2 := by simpa [cells_str] using h2
  obtain ⟨z2, e2, _, q2⟩ := DataW.trod_string Try.underlying9 t2
  simp only [List.cons.injEq, and_true] at e2
  subst e2
  obtain ⟨y3, h3⟩ := hF 3 _ rfl
  have t3 : DataW.trod enc Try.prog W 0 (fun _ => true) true m 9 [c3] = some y3 := by simpa [cells_str] using h3
  obtain ⟨z3, e3, _, q3⟩ := DataW.trod_string Try.underlying9 t3
  simp only [List.cons.injEq, and_true] at e3
  subst e3
  obtain ⟨y4, h4⟩ := hF 4 _ rfl
  have t4 : DataW.trod enc Try.prog W 0 (fun _ => true) true m 2 [c4] = some y4 := by simpa [cells_int] using h4
  obtain ⟨z4, e4, _, q4⟩ := DataW.trod_int Try.underlying2 t4
  simp only [List.cons.injEq, and_true] at e4
  subst e4
  obtain ⟨y5, h5⟩ := hF 5 _ rfl
  have t5 : DataW.trod enc Try.prog W 0 (fun _ => true) true m 2 [c5] = some y5 := by simpa [cells_int] using h5
  obtain ⟨z5, e5, _, q5⟩ := DataW.trod_int Try.underlying2 t5
  simp only [List.cons.injEq, and_true] at e5
  subst e5
  obtain ⟨y6, h6⟩ := hF 6 _ rfl
  have t6 : DataW.trod enc Try.prog W 0 (fun _ => true) true m 2 [c6] = some y6 := by simpa [cells_int] using h6
  obtain ⟨z6, e6, _, q6⟩ := DataW.trod_int Try.underlying2 t6
  simp only [List.cons.injEq, and_true] at e6
  subst e6
  obtain ⟨y7, h7⟩ := hF 7 _ rfl
  have t7 : DataW.trod enc Try.prog W 0 (fun _ => true) true m 2 [c7] = some y7 := by simpa [cells_int] using h7
  obtain ⟨z7, e7, _, q7⟩ := DataW.trod_int Try.underlying2 t7
  simp only [List.cons.injEq, and_true] at e7
  subst e7
  obtain ⟨y8, h8⟩ := hF 8 _ rfl
  have t8 : DataW.trod enc Try.prog W 0 (fun _ => true) true m 4 [c8] = some y8 := by simpa [cells_bl] using h8
  obtain ⟨z8, e8, _⟩ := DataW.trod_bool Try.underlying4 t8
  simp only [List.cons.injEq, and_true] at e8
  subst e8
  exact ⟨⟨z0, z1, z2, z3, z4, z5, z6, z7, z8⟩, rfl, ⟨by have := q0; unfold maxLen at this; omega, by have := q1; unfold maxLen at this; omega, by have := q2; unfold maxLen at this; omega, by have := q3; unfold maxLen at this; omega, i64_of_wf q4, i64_of_wf q5, i64_of_wf q6, i64_of_wf q7, by cases z8 <;> simp⟩⟩
set_option maxRecDepth 100000 in
theorem open_Desk {H : Type} {enc : TypeId × Value → H} {W : World} {base : Nat} {v : Value} {d : DataW H} {p : List MemPlace} (hval : Value.okWide Try.prog W .any base 28 v)
    (h : DataW.Trod enc Try.prog W 0 (fun _ => true) true 28 v d p) :
    ∃ (f : Foot) (s : Style) (lg : ByteArray) (A : Option Addr) (xs : List Last) (n c : Nat), v = .agg #[Value.int IntKind.i64 f.length, Value.int IntKind.i64 f.ball, Value.int IntKind.i64 f.instep, Value.int IntKind.i64 f.heel, Value.slice A n c, Value.string s.upper, Value.string s.color, Value.string s.lining, Value.string s.sole, Value.int IntKind.i64 s.thick, Value.int IntKind.i64 s.heel, Value.int IntKind.i64 s.eyelets, Value.int IntKind.i64 s.density, Value.bool s.double, Value.string lg] ∧ Style.wf s ∧ lg.size ≤ 9223372036854775807 ∧ xs.length = n ∧ n ≤ 9223372036854775807 ∧ (∀ x ∈ xs, Last.wf x) ∧ Arr W A (flat Last.cells xs) := by
  obtain ⟨cs, rfl, hsz⟩ := okWide_struct Try.underlying28 hval
  obtain ⟨c0, c1, c2, c3, c4, c5, c6, c7, c8, c9, c10, c11, c12, c13, c14, rfl⟩ := array_15 (hsz.trans cells_Desk)
  obtain ⟨fuel, hf⟩ := h
  obtain ⟨m, hF⟩ := fields_in Try.underlying28 hf
  obtain ⟨y0, h0⟩ := hF 0 _ rfl
  obtain ⟨y1, h1⟩ := hF 1 _ rfl
  obtain ⟨y2, h2⟩ := hF 2 _ rfl
  obtain ⟨y3, h3⟩ := hF 3 _ rfl
  have t0 : DataW.trod enc Try.prog W 0 (fun _ => true) true m 23 [c0, c1, c2, c3] = some y0 := by simpa [cells_Foot, Value.cells] using h0
  have t1 : DataW.trod enc Try.prog W 0 (fun _ => true) true m 24 [c4] = some y1 := by simpa [cells_LastS, Value.cells] using h1
  have t2 : DataW.trod enc Try.prog W 0 (fun _ => true) true m 26 [c5, c6, c7, c8, c9, c10, c11, c12, c13] = some y2 := by simpa [cells_Style, Value.cells] using h2
  have t3 : DataW.trod enc Try.prog W 0 (fun _ => true) true m 9 [c14] = some y3 := by simpa [cells_str, Value.cells] using h3
  clear h0 h1 h2 h3 hF hf hval
  obtain ⟨f, e0, _⟩ := open_Foot_in t0
  obtain ⟨A, n, c, xs, rfl, l1, l2, l3, l4⟩ := open_LastS_in t1
  obtain ⟨s, e2, ws⟩ := open_Style_in t2
  obtain ⟨lg, e3, _, q3⟩ := DataW.trod_string Try.underlying9 t3
  simp only [Foot.cells, Style.cells, List.cons.injEq, and_true] at e0 e2 e3
  go_split_ands
  subst_vars
  exact ⟨f, s, lg, A, xs, _, c, rfl, ws, by unfold maxLen at q3; omega, rfl, l2, l3, l4⟩

set_option maxRecDepth 100000 in
set_option maxHeartbeats 1000000 in
theorem FnExactSameDesk_law (f : Foot) (s : Style) (lg : ByteArray) (A : Option Addr) (xs : List Last) (n c : Nat) (f2 : Foot) (s2 : Style) (lg2 : ByteArray) (B : Option Addr) (ys : List Last) (m d : Nat)
    (ws : Style.wf s) (wl : lg.size ≤ 9223372036854775807) (hn : Hid (xs.length = n)) (hmx : n ≤ 9223372036854775807) (hx : ∀ x ∈ xs, Last.wf x)
    (ws2 : Style.wf s2) (wl2 : lg2.size ≤ 9223372036854775807) (hm : Hid (ys.length = m)) (hmx2 : m ≤ 9223372036854775807) (hx2 : ∀ x ∈ ys, Last.wf x)
    (w : World) (hA : Arr w A (flat Last.cells xs)) (hB : Arr w B (flat Last.cells ys)) : Calls Try.prog 3 #[.agg #[Value.int IntKind.i64 f.length, Value.int IntKind.i64 f.ball, Value.int IntKind.i64 f.instep, Value.int IntKind.i64 f.heel, Value.slice A n c, Value.string s.upper, Value.string s.color, Value.string s.lining, Value.string s.sole, Value.int IntKind.i64 s.thick, Value.int IntKind.i64 s.heel, Value.int IntKind.i64 s.eyelets, Value.int IntKind.i64 s.density, Value.bool s.double, Value.string lg], .agg #[Value.int IntKind.i64 f2.length, Value.int IntKind.i64 f2.ball, Value.int IntKind.i64 f2.instep, Value.int IntKind.i64 f2.heel, Value.slice B m d, Value.string s2.upper, Value.string s2.color, Value.string s2.lining, Value.string s2.sole, Value.int IntKind.i64 s2.thick, Value.int IntKind.i64 s2.heel, Value.int IntKind.i64 s2.eyelets, Value.int IntKind.i64 s2.density, Value.bool s2.double, Value.string lg2]] w (Ret (.bool true) w) := by
  obtain ⟨u1, u2, u3, u4, _⟩ := ws
  obtain ⟨v1, v2, v3, v4, _⟩ := ws2
  have he : ∀ (f : Foot) (xs : List Last) (s : Style) (lg : ByteArray), (f.beq f && listBeq Last.beq xs xs && s.beq s && decide (lg = lg)) = true := by
    intro f xs s lg
    rw [Foot.beq_self, Style.beq_self, listBeq_self Last.beq_self]
    simp
  refine sameDesk_gen #[Value.int IntKind.i64 f.length, Value.int IntKind.i64 f.ball, Value.int IntKind.i64 f.instep, Value.int IntKind.i64 f.heel, Value.slice A n c, Value.string s.upper, Value.string s.color, Value.string s.lining, Value.string s.sole, Value.int IntKind.i64 s.thick, Value.int IntKind.i64 s.heel, Value.int IntKind.i64 s.eyelets, Value.int IntKind.i64 s.density, Value.bool s.double, Value.string lg] #[Value.int IntKind.i64 f2.length, Value.int IntKind.i64 f2.ball, Value.int IntKind.i64 f2.instep, Value.int IntKind.i64 f2.heel, Value.slice B m d, Value.string s2.upper, Value.string s2.color, Value.string s2.lining, Value.string s2.sole, Value.int IntKind.i64 s2.thick, Value.int IntKind.i64 s2.heel, Value.int IntKind.i64 s2.eyelets, Value.int IntKind.i64 s2.density, Value.bool s2.double, Value.string lg2] (fun g => #[Value.int IntKind.i64 f.length, Value.int IntKind.i64 f.ball, Value.int IntKind.i64 f.instep, Value.int IntKind.i64 f.heel, Value.slice (some ⟨g, 0, none⟩) n n, Value.string s.upper, Value.string s.color, Value.string s.lining, Value.string s.sole, Value.int IntKind.i64 s.thick, Value.int IntKind.i64 s.heel, Value.int IntKind.i64 s.eyelets, Value.int IntKind.i64 s.density, Value.bool s.double, Value.string lg]) (fun g => #[Value.int IntKind.i64 f2.length, Value.int IntKind.i64 f2.ball, Value.int IntKind.i64 f2.instep, Value.int IntKind.i64 f2.heel, Value.slice (some ⟨g, 0, none⟩) m m, Value.string s2.upper, Value.string s2.color, Value.string s2.lining, Value.string s2.sole, Value.int IntKind.i64 s2.thick, Value.int IntKind.i64 s2.heel, Value.int IntKind.i64 s2.eyelets, Value.int IntKind.i64 s2.density, Value.bool s2.double, Value.string lg2]) (flat Last.cells xs) (flat Last.cells ys) A B n m (sameD f f2 xs ys s s2 lg lg2) rfl rfl (fun _ => rfl) (fun _ => rfl) (fun _ => by simp [Value.oneCell']) (fun _ => by simp [Value.oneCell'])
    (fun left w h0 h1 h => szDesk_c f s lg A xs n c left hn hmx (Lib.hid fun x q => (hx x q).1) u1 u2 u3 u4 wl h0 h1 w h)
    (fun left w h0 h1 h => szDesk_c f2 s2 lg2 B ys m d left hm hmx2 (Lib.hid fun x q => (hx2 x q).1) v1 v2 v3 v4 wl2 h0 h1 w h)
    (fun hz w h => (toDesk_c f s lg A xs n c hn hz w h).mono fun e w' ⟨g, q1, q2, q3⟩ => ⟨g, q1, Arr.own q2, q3⟩)
    (fun hz w h => (toDesk_c f2 s2 lg2 B ys m d hm hz w h).mono fun e w' ⟨g, q1, q2, q3⟩ => ⟨g, q1, Arr.own q2, q3⟩)
    (fun hz w g h a b => SSameDesk_c f f2 s s2 lg lg2 _ _ xs ys n m n m hn hm hz w a b)
    (fun hz w g h a b => SameDesk_c f f2 s s2 lg lg2 _ _ xs ys n m n m hn hm hz w a b)
    (fun hz w g h a b => ?_) (fun hz w g h a b => ?_) w hA hB
  · rw [← he f xs s lg]
    exact eqDesk_c f f s s lg lg _ _ xs xs n n n n hn hn hz w a b
  · rw [← he f2 ys s2 lg2]
    exact eqDesk_c f2 f2 s2 s2 lg2 lg2 _ _ ys ys m m m m hm hm hz w a b

set_option maxRecDepth 100000 in
theorem FnExactSameDesk_lifted (os : Os) (started : os.Started) (H : Type) (enc : TypeId × Value → H) :
    ReturnsInHanded {} Try.checked os 3 .any (Rows.fnExactSameDeskSpec.pre6 enc Try.prog Try.f3 Rows.fnExactSameDeskRow.domain false) (Rows.fnExactSameDeskSpec.post enc Try.prog Try.f3 false true false false) := by
  refine returnsInHanded_of_change (C := Try.checked) ownKnob_c started (by kernel_rfl) Try.func3
    (ChangeSpec.witness6 (enc := enc) (C := Try.checked) false ⟨#[], #[.agg #[.int .i64 0, .int .i64 0, .int .i64 0, .int .i64 0, .slice none 0 0, .string ByteArray.empty, .string ByteArray.empty, .string ByteArray.empty, .string ByteArray.empty, .int .i64 0, .int .i64 0, .int .i64 0, .int .i64 0, .bool false, .string ByteArray.empty], .agg #[.int .i64 0, .int .i64 0, .int .i64 0, .int .i64 0, .slice none 0 0, .string ByteArray.empty, .string ByteArray.empty, .string ByteArray.empty, .string ByteArray.empty, .int .i64 0, .int .i64 0, .int .i64 0, .int .i64 0, .bool false, .string ByteArray.empty]], []⟩ 8 (by kernel_rfl) (by kernel_rfl) (by kernel_rfl) (by kernel_rfl)) ?_
  intro W base args ds gs before hval0 hW _ _
  have hval : ∀ (j : Nat) t v, Try.f3.params[j]? = some t → args[j]? = some v → Value.okWide Try.prog W .any base t v := hval0
  have hW' := hW
  obtain ⟨p, q, hA0, hV, rfl, _, _⟩ := hW
  have hA : DataW.TrodAll enc Try.prog W 0 (fun _ => true) true Try.f3.params.toList args.toList ds p := hA0
  rw [Try.params3] at hA hval
  obtain ⟨rfl, rfl⟩ := trodVars_none hV
  simp only [List.append_nil] at hW'
  have hlt : ∀ x ∈ p, x.block < W.heap.size := fun x hx => by simpa using hW'.lt x hx
  have hargs : ∀ W' : World, Below W.heap.size W W' → DataW.TrodAll enc Try.prog W' 0 (fun b => decide (b < W.heap.size)) true [28, 28] args.toList ds p :=
    fun W' hb => trodAll_below laidOut_c hb _ _ _ _ (by
      intro t ht
      simp only [List.mem_cons, List.not_mem_nil, or_false] at ht
      rcases ht with rfl | rfl <;> exact ⟨by kernel_rfl, of_decide_eq_true (by kernel_rfl)⟩) hA hlt
  obtain ⟨v0, vs0, d0, ds0, p0, q0, hargs', rfl, rfl, h0, r0⟩ := trodAll_cons hA
  obtain ⟨v1, vs1, d1, ds1, p1, q1, rfl, rfl, rfl, h1, r1⟩ := trodAll_cons r0
  obtain ⟨rfl, rfl, rfl⟩ := trodAll_nil r1
  obtain rfl : args = #[v0, v1] := by cases args; simp_all
  obtain ⟨f0, s0, b0, A0, xs0, n0, c0, rfl, ws0, wl0, la0, lb0, lc0, ld0⟩ := open_Desk (hval 0 28 v0 rfl rfl) h0
  obtain ⟨f1, s1, b1, A1, xs1, n1, c1, rfl, ws1, wl1, la1, lb1, lc1, ld1⟩ := open_Desk (hval 1 28 v1 rfl rfl) h1
  refine (FnExactSameDesk_law f0 s0 b0 A0 xs0 n0 c0 f1 s1 b1 A1 xs1 n1 c1 ws0 wl0 (Lib.hid la0) lb0 lc0 ws1 wl1 (Lib.hid la1) lb1 lc1 W ld0 ld1).mono fun e W' ⟨he, hb⟩ => ?_
  subst he
  exact ⟨_, rfl, _, _, _, [], _, [], hW', trodAll_mk1 (shut_bool Try.underlying4 _), hargs _ hb, rfl, hb.frame _, fun h => by cases h⟩

theorem FnExactSameDesk_holds : Rows.FnExactSameDeskSaid :=
  OpenClaim.holds_of_wide 3 Try.f3 rfl rfl rfl rfl rfl rfl rfl ⟨rfl, rfl, rfl, rfl, rfl⟩ rfl rfl rfl rfl rfl (by kernel_rfl) Try.func3 (by kernel_rfl)
    (of_decide_eq_true (by kernel_rfl)) (by unfold Func.isWrapper; first | (rw [if_pos (by decide +kernel)]; kernel_rfl) | (rw [if_neg (by decide +kernel)]; exact ⟨rfl, rfl⟩))
    (fun os started H enc _ => FnExactSameDesk_lifted os started H enc)

end Go.Proofs.Ythibjjcdihgfkaa
