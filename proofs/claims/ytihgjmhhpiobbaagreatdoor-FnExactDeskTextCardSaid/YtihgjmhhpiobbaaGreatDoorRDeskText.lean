/- The law FnExactDeskText holds for every input, the listed tables of the library as the program's text lays them (the card ties them): it returns true, and what came in reads as before. -/
import Derived.Test.YtihgjmhhpiobbaaGreatDoorDkO
import Derived.Test.YtihgjmhhpiobbaaGreatDoorDkT
namespace Go.Proofs.YtihgjmhhpiobbaaGreatDoor
open Go.ChangeShapes Go.WideShapes Go.ChangeAt Go.RowKit Go.Deep Go.Joins

set_option maxRecDepth 100000 in
set_option maxHeartbeats 1000000 in
theorem FnExactDeskText_law (f : Foot) (s : Style) (lg : ByteArray) (A : Option Addr) (xs : List Last) (n c : Nat)
    (ws : Style.wf s) (wl : lg.size ≤ 9223372036854775807) (hn : Hid (xs.length = n)) (hmx : n ≤ 9223372036854775807) (hx : ∀ x ∈ xs, Last.wf x)
    (w : World) (hA : Arr w A (flat Last.cells xs)) (hT : Tabs w) : Calls Tryz.prog 4 #[.agg #[Value.int IntKind.i64 f.length, Value.int IntKind.i64 f.ball, Value.int IntKind.i64 f.instep, Value.int IntKind.i64 f.heel, Value.slice A n c, Value.string s.upper, Value.string s.color, Value.string s.lining, Value.string s.sole, Value.int IntKind.i64 s.thick, Value.int IntKind.i64 s.heel, Value.int IntKind.i64 s.eyelets, Value.int IntKind.i64 s.density, Value.bool s.double, Value.string lg]] w (Ret (.bool true) w) := by
  obtain ⟨u1, u2, u3, u4, i5, i6, i7, i8, _⟩ := ws
  have he : ∀ (f : Foot) (xs : List Last) (s : Style) (lg : ByteArray), (f.beq f && listBeq Last.beq xs xs && s.beq s && decide (lg = lg)) = true := by
    intro f xs s lg
    rw [Foot.beq_self, Style.beq_self, listBeq_self Last.beq_self]
    simp
  refine DeskText_gen #[Value.int IntKind.i64 f.length, Value.int IntKind.i64 f.ball, Value.int IntKind.i64 f.instep, Value.int IntKind.i64 f.heel, Value.slice A n c, Value.string s.upper, Value.string s.color, Value.string s.lining, Value.string s.sole, Value.int IntKind.i64 s.thick, Value.int IntKind.i64 s.heel, Value.int IntKind.i64 s.eyelets, Value.int IntKind.i64 s.density, Value.bool s.double, Value.string lg] (fun g => #[Value.int IntKind.i64 f.length, Value.int IntKind.i64 f.ball, Value.int IntKind.i64 f.instep, Value.int IntKind.i64 f.heel, Value.slice (some ⟨g, 0, none⟩) n n, Value.string s.upper, Value.string s.color, Value.string s.lining, Value.string s.sole, Value.int IntKind.i64 s.thick, Value.int IntKind.i64 s.heel, Value.int IntKind.i64 s.eyelets, Value.int IntKind.i64 s.density, Value.bool s.double, Value.string lg]) (flat Last.cells xs) A (smallD n s lg) (deskX f xs s lg n) rfl (fun _ => rfl) (fun _ => by simp [Value.oneCell'])
    (fun left w h0 h1 h => szDeskP_c f s lg A xs n c left hn hmx (Lib.hid fun x q => (hx x q).1) u1 u2 u3 u4 wl h0 h1 w h)
    (fun hz w h => (toDesk_c f s lg A xs n c hn hz.1 w h).mono fun e w' ⟨g, q1, q2, q3⟩ => ⟨g, q1, Arr.own q2, q3⟩)
    (fun hz w g a => SDeskText_c f s lg _ xs n n hn hz.1 (Lib.hid fun x q => (hx x q).1) (Lib.hid ⟨hz.2.2, i5, i6, i7, i8⟩) hz.2.1 w a)
    (fun hz w g a hT => DeskText_c f s lg _ xs n n hn hz.1 (Lib.hid fun x q => (hx x q).1) (Lib.hid ⟨hz.2.2, i5, i6, i7, i8⟩) hz.2.1 w a hT)
    (fun hz w g h a b => ?_) w hA hT
  · rw [← he f xs s lg]
    exact eqDesk_c f f s s lg lg _ _ xs xs n n n n hn hn hz.1 w a b

set_option maxRecDepth 100000 in
theorem FnExactDeskText_lifted (os : Os) (started : os.Started) (H : Type) (enc : TypeId × Value → H) :
    ReturnsInHanded {} Tryz.checked os 4 .any (fun w args => (Rows.fnExactDeskTextSpec.pre enc Tryz.prog Tryz.f4 [] false w args ∧ laidMetH Tryz.prog Rows.fnExactDeskTextRow.laid w) ∧ sizedMet enc Tryz.prog Tryz.f4 (OpenSpec.ofChange Rows.fnExactDeskTextSpec) false w args)
      (Rows.fnExactDeskTextSpec.post enc Tryz.prog Tryz.f4 false true false false) := by
  refine handed_and_shaped (C := Tryz.checked) (X := fun w _ => laidMetH Tryz.prog Rows.fnExactDeskTextRow.laid w) (fun _ _ _ hh h => h.of_heap hh) ownKnob_c started (by kernel_rfl) Tryz.func4
    (ChangeSpec.witness_shaped (enc := enc) (C := Tryz.checked) (os := os) (X := fun w _ => laidMetH Tryz.prog Rows.fnExactDeskTextRow.laid w) false (World.laidAll Tryz.prog os Rows.fnExactDeskTextRow.laid) #[.agg #[.int .i64 0, .int .i64 0, .int .i64 0, .int .i64 0, .slice none 0 0, .string ByteArray.empty, .string ByteArray.empty, .string ByteArray.empty, .string ByteArray.empty, .int .i64 0, .int .i64 0, .int .i64 0, .int .i64 0, .bool false, .string ByteArray.empty]] 8 (World.laidAll_os _ _ _)
      (World.shaped_of_ZipB (by kernel_rfl) (by kernel_rfl)) (by kernel_rfl) (by kernel_rfl) (by kernel_rfl)
      (by rw [MakeChecks.laidMetH_plain _ _ _ (by kernel_rfl)]; exact laidMet_laidAll _ (by kernel_rfl) (by kernel_rfl))) ?_
  intro W base args ds gs before hval0 hW hL hsh
  have hval : ∀ (j : Nat) t v, Tryz.f4.params[j]? = some t → args[j]? = some v → Value.okWide Tryz.prog W .any base t v := hval0
  have hW' := hW
  obtain ⟨p, q, hA0, hV, rfl, _, _⟩ := hW
  have hA : DataW.TrodAll enc Tryz.prog W 0 (fun _ => true) true Tryz.f4.params.toList args.toList ds p := hA0
  rw [Tryz.params4] at hA hval
  obtain ⟨rfl, rfl⟩ := trodVars_none hV
  simp only [List.append_nil] at hW'
  have hlt : ∀ x ∈ p, x.block < W.heap.size := fun x hx => by simpa using hW'.lt x hx
  have hargs : ∀ W' : World, Below W.heap.size W W' → DataW.TrodAll enc Tryz.prog W' 0 (fun b => decide (b < W.heap.size)) true [28] args.toList ds p :=
    fun W' hb => trodAll_below laidOut_c hb _ _ _ _ (by
      intro t ht
      simp only [List.mem_cons, List.not_mem_nil, or_false] at ht
      rcases ht with rfl <;> exact ⟨by kernel_rfl, of_decide_eq_true (by kernel_rfl)⟩) hA hlt
  obtain ⟨v0, vs0, d0, ds0, p0, q0, hargs', rfl, rfl, h0, r0⟩ := trodAll_cons hA
  obtain ⟨rfl, rfl, rfl⟩ := trodAll_nil r0
  obtain rfl : args = #[v0] := by cases args; simp_all
  obtain ⟨f0, s0, b0, A0, xs0, n0, c0, rfl, ws0, wl0, la0, lb0, lc0, ld0⟩ := open_Desk (hval 0 28 v0 rfl rfl) h0
  refine (FnExactDeskText_law f0 s0 b0 A0 xs0 n0 c0 ws0 wl0 (Lib.hid la0) lb0 lc0 W ld0 (tabs_of hL hsh)).mono fun e W' ⟨he, hb⟩ => ?_
  subst he
  exact ⟨_, rfl, _, _, _, [], _, [], hW', trodAll_mk1 (shut_bool Tryz.underlying4 _), hargs _ hb, rfl, hb.frame _, fun h => by cases h⟩

theorem FnExactDeskText_row : Rows.FnExactDeskTextSaid :=
  OpenClaim.holds_of_wide 4 Tryz.f4 rfl rfl rfl rfl rfl rfl rfl ⟨rfl, rfl, rfl, rfl, rfl⟩ rfl rfl rfl rfl rfl (by kernel_rfl) Tryz.func4 (by kernel_rfl)
    (of_decide_eq_true (by kernel_rfl)) (by unfold Func.isWrapper; first | (rw [if_pos (by decide +kernel)]; kernel_rfl) | (rw [if_neg (by decide +kernel)]; exact ⟨rfl, rfl⟩))
    (fun os started H enc _ => FnExactDeskText_lifted os started H enc)

theorem FnExactDeskText_holds : Rows.FnExactDeskTextCardSaid :=
  Claim7.holds_tied_plain_at .later [] [.data, .data, .data, .data, .sentinel, .sentinel, .pinned] true (true, (Rows.fnExactDeskTextCard.stood.harness).2) true
    FnExactDeskText_row (fun _ h => by cases h) (by kernel_rfl) (fun _ h => by cases h) fnExactDeskText_row_tie rfl ⟨rfl, rfl⟩ (by kernel_rfl) rfl
    (fun f fn hf hfn => by
      obtain rfl : f = 4 := Option.some.inj ((show Tryz.prog.funcNamed "loop.example/g01043/laws.FnExactDeskText" = some 4 by kernel_rfl).symm.trans hf) |>.symm
      obtain rfl : fn = Tryz.f4 := (Option.some.inj (Tryz.func4.symm.trans hfn)).symm
      exact ⟨by kernel_rfl, fun j t ht => by
        rw [Tryz.params4] at ht
        have hm : t ∈ [28] := by simpa using Array.mem_of_getElem? ht
        have hall : ([28].all fun u => !Tryz.prog.wantsStandIn u) = true := by kernel_rfl
        exact (show Tryz.prog.wantsStandIn t = false by simpa using List.all_eq_true.1 hall t hm)⟩)
    (by kernel_rfl)

end Go.Proofs.YtihgjmhhpiobbaaGreatDoor
