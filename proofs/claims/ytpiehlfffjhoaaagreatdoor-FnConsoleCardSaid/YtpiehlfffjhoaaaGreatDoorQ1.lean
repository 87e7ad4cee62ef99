/- Lemmas for the law on the console: the parts Base, App, Dec, DecN. -/
import Derived.Test.YtpiehlfffjhoaaaGreatDoorQ0
import Derived.Laws.ResultCell
import Derived.Lib.ItoaNum
namespace Go.Proofs.YtpiehlfffjhoaaaGreatDoor
open Go.RowKit
def inB (n lo hi : Int) : Bool := decide (lo ≤ n) && decide (n ≤ hi)
theorem inB_true {n lo hi : Int} (h1 : lo ≤ n) (h2 : n ≤ hi) : inB n lo hi = true := by simp [inB, h1, h2]
theorem inB_iff {n lo hi : Int} : inB n lo hi = true ↔ lo ≤ n ∧ n ≤ hi := by simp [inB]
set_option maxHeartbeats 400000 in
theorem within_c (n lo hi : Int) (w : World) : Calls Tryz.prog 68 #[.int .i64 n, .int .i64 lo, .int .i64 hi] w (RetQ (.bool (inB n lo hi)) w) := by
 go_enter Tryz.func68, Tryz.ntmps68
 go_wp2
 all_goals
   go_returns
   refine RetQ.mk (vb ?_)
   simp [inB]
   try omega
set_option maxHeartbeats 400000 in
theorem l00In_c (n lo hi : Int) (w : World) : Calls Tryz.prog 155 #[.int .i64 n, .int .i64 lo, .int .i64 hi] w (RetQ (.bool (inB n lo hi)) w) := by
 go_enter Tryz.func155, Tryz.ntmps155
 go_wp2
 all_goals
   go_returns
   refine RetQ.mk (vb ?_)
   simp [inB]
   try omega
def smallB (c : UInt8) : Bool := decide (97 ≤ c.toNat) && decide (c.toNat ≤ 122)
def digB (c : UInt8) : Bool := decide (48 ≤ c.toNat) && decide (c.toNat ≤ 57)
def okcB (c : UInt8) : Bool := smallB c || digB c || decide (c.toNat = 45)
def nameL (l : List UInt8) : Bool := decide (1 ≤ l.length) && decide (l.length ≤ 12) && l.head?.any smallB && l.all okcB
def nameB (s : ByteArray) : Bool := nameL s.data.toList
theorem byte_at {s : ByteArray} {k : Nat} (h : k < s.size) : s.data.toList[k]? = some s[k] := by
 rw [List.getElem?_eq_getElem (by simpa using h)]; rfl
theorem bytes_len (s : ByteArray) : s.data.toList.length = s.size := by simp
theorem okcB_yes {c : UInt8} (h : (97 ≤ c.toNat ∧ c.toNat ≤ 122) ∨ (48 ≤ c.toNat ∧ c.toNat ≤ 57) ∨ c.toNat = 45) : okcB c = true := by
 simp [okcB, smallB, digB]; omega
theorem okcB_no {c : UInt8} (h : ¬ ((97 ≤ c.toNat ∧ c.toNat ≤ 122) ∨ (48 ≤ c.toNat ∧ c.toNat ≤ 57) ∨ c.toNat = 45)) : okcB c = false := by
 simp [okcB, smallB, digB]; omega
theorem nameB_step {s : ByteArray} (h1 : 1 ≤ s.size) (h2 : s.size ≤ 12) (hs : smallB (s[0]'(by omega)) = true) (k : Nat) (hk : k ≤ 1) : nameB s = (s.data.toList.drop k).all okcB := by
 have hh := byte_at (s := s) (k := 0) (by omega)
 have h0 : okcB (s[0]'(by omega)) = true := by simp only [okcB, hs, Bool.true_or]
 simp only [nameB, nameL, List.head?_eq_getElem?, hh, Option.any_some, bytes_len, hs]
 rw [decide_eq_true h1, decide_eq_true h2]
 have e0 : s.data.toList = s[0]'(by omega) :: s.data.toList.drop 1 := by have := drop_at hh; simpa using this
 match k, hk with
 | 0, _ => rw [List.drop_zero]; simp
 | 1, _ => conv => lhs; rw [e0, List.all_cons, h0]
           simp
theorem nameB_long {s : ByteArray} (h : 12 < s.size ∨ s.size < 1) : nameB s = false := by
 simp only [nameB, nameL, bytes_len]
 rcases h with h | h
 · rw [decide_eq_false (by omega : ¬ s.size ≤ 12)]; simp
 · rw [decide_eq_false (by omega : ¬ 1 ≤ s.size)]; simp
theorem nameB_head {s : ByteArray} (h : 0 < s.size) (hs : smallB s[0] = false) : nameB s = false := by
 have hh := byte_at (s := s) (k := 0) h
 simp only [nameB, nameL, List.head?_eq_getElem?, hh, Option.any_some, hs]; simp
theorem smallB_yes {c : UInt8} (h : 97 ≤ c.toNat ∧ c.toNat ≤ 122) : smallB c = true := by simp [smallB, h]
theorem smallB_no {c : UInt8} (h : ¬ (97 ≤ c.toNat ∧ c.toNat ≤ 122)) : smallB c = false := by simp [smallB]; omega
set_option maxHeartbeats 800000 in
theorem IsName_c (s : ByteArray) (hs : s.size ≤ 9223372036854775807) (w : World) : Calls Tryz.prog 118 #[.string s] w (RetQ (.bool (nameB s)) w) := by
 go_enter Tryz.func118, Tryz.ntmps118
 go_wp2_with fail
 · go_returns
   exact RetQ.mk (vb (nameB_long (by omega)).symm)
 · go_returns
   exact RetQ.mk (vb (nameB_long (by omega)).symm)
 · go_returns
   exact RetQ.mk (vb (nameB_head (by omega) (smallB_no (by omega))).symm)
 · go_returns
   exact RetQ.mk (vb (nameB_head (by omega) (smallB_no (by omega))).symm)
 · have hR := qH (nameB_step (s := s) (by omega) (by omega) (smallB_yes (by omega)) 1 (by omega))
   go_loop [3] (fun i => ∃ k : Nat, 1 ≤ k ∧ k ≤ s.size ∧ i = .int .i64 k ∧ Hid (nameB s = (s.data.toList.drop k).all okcB)) (fun i => s.size - (intOf i).toNat)
   case atStart => exact ⟨1, by omega, by omega, rfl, hR⟩
   case round =>
     clear hR
     obtain ⟨k, h1, hk, rfl, hR⟩ := hrel
     by_cases hlt : k < s.size
     · have hb := byte_at hlt
       have hR2 := qH (hR.out.trans (by rw [drop_at hb, List.all_cons] : _ = (okcB s[k] && (s.data.toList.drop (k + 1)).all okcB)))
       clear hR hb
       go_wp2_with fail
       all_goals first
         | (go_returns
            have h45 : ((s[k].toNat : Int) != 45) = true := by assumption
            rw [bne_iff_ne] at h45
            refine RetQ.mk (vb ?_)
            rw [hR2.out, okcB_no (by omega)]; rfl)
         | exact ⟨⟨k + 1, by omega, by omega, by go_num, qH (hR2.out.trans (by rw [okcB_yes (by omega)]; rfl))⟩, by simp [intOf]; omega⟩
         | (have h45 : ((s[k].toNat : Int) != 45) = false := by assumption
            rw [bne_eq_false_iff_eq] at h45
            exact ⟨⟨k + 1, by omega, by omega, by go_num, qH (hR2.out.trans (by rw [okcB_yes (by omega)]; rfl))⟩, by simp [intOf]; omega⟩)
     · have hR2 := qH (hR.out.trans (by rw [List.drop_eq_nil_of_le (by rw [bytes_len]; omega)]; rfl : _ = true))
       clear hR
       go_wp2_with fail
       go_returns
       exact RetQ.mk (vb hR2.out.symm)
theorem l01Small_c (c : UInt8) (w : World) : Calls Tryz.prog 217 #[.int .u8 c.toNat] w (RetQ (.bool (smallB c)) w) := by
 go_enter Tryz.func217, Tryz.ntmps217
 go_wp2
 all_goals
   go_returns
   refine RetQ.mk (vb ?_)
   rw [Bool.eq_iff_iff]
   simp [smallB]
   try omega
theorem l01Digit_c (c : UInt8) (w : World) : Calls Tryz.prog 218 #[.int .u8 c.toNat] w (RetQ (.bool (digB c)) w) := by
 go_enter Tryz.func218, Tryz.ntmps218
 go_wp2
 all_goals
   go_returns
   refine RetQ.mk (vb ?_)
   rw [Bool.eq_iff_iff]
   simp [digB]
   try omega
set_option maxHeartbeats 800000 in
theorem SIsName_c (s : ByteArray) (hs : s.size ≤ 9223372036854775807) (w : World) : Calls Tryz.prog 153 #[.string s] w (RetQ (.bool (nameB s)) w) := by
 by_cases h0 : s.size = 0
 · have he : (s.toList == []) = true := by rw [bytes_nil]; simp only [h0]; rfl
   go_enter Tryz.func153, Tryz.ntmps153
   go_wp2
   go_returns
   exact RetQ.mk (vb (nameB_long (by omega)).symm)
 · have he : (s.toList == []) = false := by rw [bytes_nil]; exact decide_eq_false h0
   have hp : 1 ≤ s.size := by omega
   clear h0
   go_enter Tryz.func153, Tryz.ntmps153
   cases hsm : smallB (s[0]'(by omega))
   · by_cases hl : s.size ≤ 12
     · have hd : decide (12 < (s.size : Int)) = false := decide_eq_false (by omega)
       go_wp2_with (first | (go_at_call 217; refine (l01Small_c _ _).mono ?_; rintro e w' ⟨rfl, rfl⟩) | (go_at_call 218; refine (l01Digit_c _ _).mono ?_; rintro e w' ⟨rfl, rfl⟩))
       go_returns
       exact RetQ.mk (vb (nameB_head hp hsm).symm)
     · have hd : decide (12 < (s.size : Int)) = true := decide_eq_true (by omega)
       go_wp2_with (first | (go_at_call 217; refine (l01Small_c _ _).mono ?_; rintro e w' ⟨rfl, rfl⟩) | (go_at_call 218; refine (l01Digit_c _ _).mono ?_; rintro e w' ⟨rfl, rfl⟩))
       go_returns
       exact RetQ.mk (vb (nameB_long (by omega)).symm)
   · by_cases hl : s.size ≤ 12
     · have hR := qH (nameB_step (s := s) hp hl hsm 0 (by omega))
       have hd : decide (12 < (s.size : Int)) = false := decide_eq_false (by omega)
       go_wp2_with (first | (go_at_call 217; refine (l01Small_c _ _).mono ?_; rintro e w' ⟨rfl, rfl⟩) | (go_at_call 218; refine (l01Digit_c _ _).mono ?_; rintro e w' ⟨rfl, rfl⟩))
       go_loop [3] (fun i => ∃ k : Nat, k ≤ s.size ∧ i = .int .i64 k ∧ Hid (nameB s = (s.data.toList.drop k).all okcB)) (fun i => s.size - (intOf i).toNat)
       case atStart => exact ⟨0, by omega, rfl, hR⟩
       case round =>
         clear hR hsm
         obtain ⟨k, hk, rfl, hR⟩ := hrel
         by_cases hlt : k < s.size
         · have hb := byte_at hlt
           have hR2 := qH (hR.out.trans (by rw [drop_at hb, List.all_cons] : _ = (okcB s[k] && (s.data.toList.drop (k + 1)).all okcB)))
           clear hR hb
           cases h1 : smallB s[k] <;> cases h2 : digB s[k] <;> cases h3 : ((s[k].toNat : Int) != 45)
           all_goals
             go_wp2_with (first | (go_at_call 217; refine (l01Small_c _ _).mono ?_; rintro e w' ⟨rfl, rfl⟩) | (go_at_call 218; refine (l01Digit_c _ _).mono ?_; rintro e w' ⟨rfl, rfl⟩))
             first
             | (go_returns
                refine RetQ.mk (vb ?_)
                rw [hR2.out, okcB, h1, h2]
                rw [bne_iff_ne] at h3
                rw [decide_eq_false (by omega)]; rfl)
             | (refine ⟨⟨k + 1, by omega, by go_num, qH (hR2.out.trans ?_)⟩, by simp [intOf]; omega⟩
                have ho : okcB s[k] = true := by
                  rw [okcB, h1, h2]
                  try rw [bne_eq_false_iff_eq] at h3
                  simp
                  try omega
                rw [ho]; rfl)
         · have hR2 := qH (hR.out.trans (by rw [List.drop_eq_nil_of_le (by rw [bytes_len]; omega)]; rfl : _ = true))
           clear hR
           go_wp2_with fail
           go_returns
           exact RetQ.mk (vb hR2.out.symm)
     · have hd : decide (12 < (s.size : Int)) = true := decide_eq_true (by omega)
       go_wp2_with (first | (go_at_call 217; refine (l01Small_c _ _).mono ?_; rintro e w' ⟨rfl, rfl⟩) | (go_at_call 218; refine (l01Digit_c _ _).mono ?_; rintro e w' ⟨rfl, rfl⟩))
       go_returns
       exact RetQ.mk (vb (nameB_long (by omega)).symm)
theorem app_own {P : Program} {ops : Array Oper} {rest : List Oper} {o : Oper} {a : Act} {Q : Exit → Act → World → Prop} (w : World) (C : Array Value) (hgd : o.guard = none) (s x : Operand) (t e : TypeId)
   (ho : o.op = .call { callee := .builtin .append, args := #[s, x], argTypes := #[t, t] })
   (i : TypeInfo) (z : Value) (size bytes : Nat) (ht : P.underlying t = some (.slice e)) (hi : P.info? e = some i) (hz : i.zero = some z)
   (hsize : i.size = size) (hby : i.bytes = bytes) (hzs : z.cells.size = size) (hsz : 0 < size)
   (base : Nat) (v : Value) (n : Nat) (cs : List Value) (hs : a.eval s = v) (hx : a.eval x = .slice (some ⟨w.heap.size, 0, none⟩) 1 1) (hown : w.ownsRow base e size v n cs)
   (hl : C.size = size) (h1 : ∀ u ∈ C.toList, u.oneCell' = true) (h63 : n + 1 ≤ maxLen) (hbytes : (n + 1) * bytes ≤ 140737488355328) (hbase : base ≤ w.heap.size)
   (h : ∀ A c w', w'.ownsRow base e size (.slice A (n + 1) c) (n + 1) (cs ++ C.toList) → w.grownBy w' v.ownBlock → wpList P ops Q rest (a.put o.dst (.slice A (n + 1) c)) w') :
   wpList P ops Q (o :: rest) a (w.alloc (.cells C e)) := by
 refine wpList_append_own (w.alloc (.cells C e)) hgd s x t ho base e i z size bytes ht hi hz hsize hby hzs hsz v n cs hs (hown.alloc _) ⟨w.heap.size, 0, none⟩ 1 1 C.toList hx (by simp [hl]) ?_ h1 h63 hbytes (by simp; omega) ?_
 · intro j u hu
   have hadd : (⟨w.heap.size, 0, none⟩ : Addr).add j = ⟨w.heap.size, j, none⟩ := by unfold Addr.add; split <;> simp_all
   rw [hadd, World.cell?_alloc_at C e w.heap.size j rfl]
   simpa using hu
 · intro v' w' hown' hg _
   obtain ⟨A, c, rfl, _, _⟩ := own_form hown'
   exact h A c w' hown' (grown_trans (grown_alloc (World.grownBy.refl w _) _) hg)
theorem app_many {P : Program} {ops : Array Oper} {rest : List Oper} {o : Oper} {a : Act} {Q : Exit → Act → World → Prop} (w : World) (hgd : o.guard = none) (s x : Operand) (t e : TypeId)
   (ho : o.op = .call { callee := .builtin .append, args := #[s, x], argTypes := #[t, t] })
   (i : TypeInfo) (z : Value) (size bytes : Nat) (ht : P.underlying t = some (.slice e)) (hi : P.info? e = some i) (hz : i.zero = some z)
   (hsize : i.size = size) (hby : i.bytes = bytes) (hzs : z.cells.size = size) (hsz : 0 < size)
   (base : Nat) (v : Value) (n : Nat) (cs : List Value) (hs : a.eval s = v) (hown : w.ownsRow base e size v n cs)
   (ad : Addr) (m c : Nat) (C : List Value) (hx : a.eval x = .slice (some ad) m c) (hA : Arr w (some ad) C)
   (hl : C.length = m * size) (h1 : ∀ u ∈ C, u.oneCell' = true) (h63 : n + m ≤ maxLen) (hbytes : (n + m) * bytes ≤ 140737488355328) (hbase : base ≤ w.heap.size)
   (h : ∀ A c w', w'.ownsRow base e size (.slice A (n + m) c) (n + m) (cs ++ C) → w.grownBy w' v.ownBlock → wpList P ops Q rest (a.put o.dst (.slice A (n + m) c)) w') :
   wpList P ops Q (o :: rest) a w := by
 refine wpList_append_own w hgd s x t ho base e i z size bytes ht hi hz hsize hby hzs hsz v n cs hs hown ad m c C hx hl ?_ h1 h63 hbytes hbase ?_
 · intro j u hu
   obtain ⟨ad', e', _, hc⟩ := hA (by have := (List.getElem?_eq_some_iff.1 hu).1; omega)
   injection e' with e'
   subst e'
   exact hc j u hu
 · intro v' w' hown' hg _
   obtain ⟨A, c, rfl, _, _⟩ := own_form hown'
   exact h A c w' hown' hg
theorem results_cell_row_tmp {P : Program} {fn : Func} {p u : Tmp} {ty : TypeId} (h : fn.results = #[.cell p ty, .tmp u]) (tmps : Array Value) (w : World) (g : Nat) (t : TypeId) (cs : Array Value) (fr : Nat × Nat) (d : TypeDesc)
   (hp : tmps.getD p undef = .pointer (some ⟨g, 0, none⟩)) (hg : w.heap[g]? = some (.cells cs t fr))
   (hu : P.underlying ty = some d) (hd : (match d with | .struct _ | .array _ _ => true | _ => false) = true) (hi : (P.info? ty).map (·.size) = some cs.size) :
   (results fn tmps).run P w = .ok (.tuple #[.agg cs, tmps.getD u undef]) w := by
 rw [results_cell_tmp h, hp]
 simp [asAddr, run_loadVar_row w g t ty cs fr d hg hu hd hi]
def OutC (E size n : Nat) (cs : List Value) (w : World) (e : Ending) (w' : World) : Prop :=
 ∃ A c, e = .returned (.slice A n c) ∧ w'.ownsRow w.heap.size E size (.slice A n c) n cs ∧ Below w.heap.size w w'
theorem own_empty (w : World) (base : Nat) (e size : Nat) (hb : base ≤ w.heap.size) : (w.alloc (.cells #[] e)).ownsRow base e size (.slice (some ⟨w.heap.size, 0, none⟩) 0 0) 0 [] :=
 World.ownsRow_made w #[] 0 hb (by simp [maxLen]) (by simp)
theorem own_at {w : World} {base e size n : Nat} {v : Value} {cs : List Value} (h : w.ownsRow base e size v n cs) : ∀ k, v.ownBlock = some k → base ≤ k := by
 intro k hk
 rcases h.2 with ⟨hv, _⟩ | ⟨g, cap, cur, hv, hg, _⟩ <;> subst hv
 · simp [Value.ownBlock] at hk
 · have : g = k := by simpa [Value.ownBlock] using hk
   omega
def OutL (E size : Nat) (n : Nat) (cs : List Value) (code : Int) (w : World) (e : Ending) (w' : World) : Prop :=
 ∃ A c, e = .returned (.tuple #[.slice A n c, .int .i64 code]) ∧ w'.ownsRow w.heap.size E size (.slice A n c) n cs ∧ Below w.heap.size w w'
theorem OutL.nil {E size : Nat} {code : Int} {w w' : World} (hb : Below w.heap.size w w') : OutL E size 0 [] code w (.returned (.tuple #[.slice none 0 0, .int .i64 code])) w' :=
 ⟨none, 0, rfl, World.ownsRow_nil _ _ _ _, hb⟩
theorem OutL.mk {E size n : Nat} {cs cs' : List Value} {code code' : Int} {A : Option Addr} {c m : Nat} {w w' : World} (h : w'.ownsRow w.heap.size E size (.slice A m c) m cs') (hm : m = n) (hc : cs' = cs) (hcode : code' = code) (hb : Below w.heap.size w w') :
   OutL E size n cs code w (.returned (.tuple #[.slice A m c, .int .i64 code'])) w' := by
 subst hm; subst hc; subst hcode; exact ⟨A, c, rfl, h, hb⟩
theorem app_ownX {P : Program} {ops : Array Oper} {rest : List Oper} {o : Oper} {a : Act} {Q : Exit → Act → World → Prop} (w : World) (C : Array Value) (hgd : o.guard = none) (s x : Operand) (t e : TypeId)
   (ho : o.op = .call { callee := .builtin .append, args := #[s, x], argTypes := #[t, t] })
   (i : TypeInfo) (z : Value) (size bytes : Nat) (ht : P.underlying t = some (.slice e)) (hi : P.info? e = some i) (hz : i.zero = some z)
   (hsize : i.size = size) (hby : i.bytes = bytes) (hzs : z.cells.size = size) (hsz : 0 < size)
   (base : Nat) (v : Value) (n : Nat) (cs : List Value) (hs : a.eval s = v) (gx : Nat) (hgx : gx = w.heap.size) (hx : a.eval x = .slice (some ⟨gx, 0, none⟩) 1 1) (hown : w.ownsRow base e size v n cs)
   (hl : C.size = size) (h1 : ∀ u ∈ C.toList, u.oneCell' = true) (h63 : n + 1 ≤ maxLen) (hbytes : (n + 1) * bytes ≤ 140737488355328) (hbase : base ≤ w.heap.size)
   (h : ∀ A c w', w'.ownsRow base e size (.slice A (n + 1) c) (n + 1) (cs ++ C.toList) → w.grownBy w' v.ownBlock → wpList P ops Q rest (a.put o.dst (.slice A (n + 1) c)) w') :
   wpList P ops Q (o :: rest) a (w.alloc (.cells C e)) := by
 subst hgx
 exact app_own w C hgd s x t e ho i z size bytes ht hi hz hsize hby hzs hsz base v n cs hs hx hown hl h1 h63 hbytes hbase h
def u8v (b : UInt8) : Value := .int .u8 b.toNat
def decN : Nat → List UInt8 → List UInt8
 | m, acc => if h : m = 0 then acc else decN (m / 10) (UInt8.ofNat (48 + m % 10) :: acc)
termination_by m => m
decreasing_by omega
theorem decN_zero (acc : List UInt8) : decN 0 acc = acc := by rw [decN, dif_pos rfl]
theorem decN_step {m : Nat} (h : 0 < m) (acc : List UInt8) : decN m acc = decN (m / 10) (UInt8.ofNat (48 + m % 10) :: acc) := by rw [decN, dif_neg (by omega)]
theorem decN_digits : ∀ (m : Nat), 0 < m → ∀ acc, decN m acc = Lib.decDigits m ++ acc := by
 intro m
 induction m using Nat.strongRecOn with
 | ind m ih =>
   intro h acc
   rw [decN_step h]
   by_cases h10 : m < 10
   · rw [show m / 10 = 0 from by omega, decN_zero, Lib.decDigits, dif_pos h10, show m % 10 = m from by omega]; rfl
   · have e : Lib.decDigits m = Lib.decDigits (m / 10) ++ [UInt8.ofNat (48 + m % 10)] := by rw [Lib.decDigits, dif_neg h10]
     rw [ih (m / 10) (by omega) (by omega), e]; simp
theorem itoa_nat (n : Nat) : Lib.itoa (n : Int) = if n = 0 then [48] else decN n [] := by
 unfold Lib.itoa
 rw [if_neg (by omega), Int.toNat_natCast]
 by_cases h : n = 0
 · subst h; rw [if_pos rfl, Lib.decDigits, dif_pos (by omega)]; rfl
 · rw [if_neg h, decN_digits n (by omega)]; simp
theorem u8_num (m : Nat) : ((UInt8.ofNat (48 + m % 10)).toNat : Int) = 48 + ((m % 10 : Nat) : Int) := by
 rw [UInt8.toNat_ofNat']
 omega
theorem push_all : ∀ (acc : List UInt8) (r : ByteArray), (acc.map fun b : UInt8 => (b.toNat : Int)).foldl (fun r n => r.push (UInt8.ofNat n.toNat)) r = ⟨r.data ++ acc.toArray⟩
 | [], r => by simp
 | b :: bs, r => by
   simp only [List.map_cons, List.foldl_cons]
   rw [push_all bs]
   cases r with
   | mk d =>
     simp only [ByteArray.push, Int.toNat_natCast, UInt8.ofNat_toNat, ByteArray.mk.injEq]
     simp
theorem run_bytes {P : Program} (src dst e : TypeId) (hs : P.underlying src = some (.slice e)) (he : P.underlying e = some (.int .u8)) (hd : P.underlying dst = some .string) (W : World) (ad : Addr) (c : Nat) (acc : List UInt8) (hA : Arr W (some ad) (acc.map u8v)) (h0 : 0 < acc.length) :
   (convert src dst (.slice (some ad) acc.length c)).run P W = .ok (.string ⟨acc.toArray⟩) W := by
 rw [run_convert_bytes_string _ _ _ _ _ _ _ hs he hd]
 have hc : (loadCells ad acc.length).run P W = .ok ((acc.map fun b : UInt8 => (b.toNat : Int)).map (Value.int .u8)).toArray W := by
   obtain ⟨ad', e', _, hcell⟩ := hA (by simpa using h0)
   injection e' with e'
   subst e'
   have := run_loadCells_list (P := P) (w := W) ad (acc.map u8v) hcell
   have e : (acc.map (fun b : UInt8 => (b.toNat : Int))).map (Value.int .u8) = acc.map u8v := by rw [List.map_map]; rfl
   rw [e]
   simpa using this
 rw [run_bytesToString _ _ _ _ (acc.map fun b : UInt8 => (b.toNat : Int)) hc, push_all]
 simp
theorem nDig_le : ∀ (k u : Nat), u < 10 ^ (k + 1) → Lib.nDigits u ≤ k + 1 := by
 intro k
 induction k with
 | zero => intro u hu; rw [Lib.nDigits_small (by simpa using hu)]; exact Nat.le_refl _
 | succ k ih =>
   intro u hu
   by_cases hs : u < 10
   · rw [Lib.nDigits_small hs]; omega
   · rw [Lib.nDigits_big hs]
     have := ih (u / 10) (by rw [Nat.pow_succ] at hu; exact Nat.div_lt_of_lt_mul (by omega))
     omega
theorem decN_len {n : Nat} {acc : List UInt8} (hn : (n : Int) ≤ 9223372036854775808) (h : decN n [] = acc) : acc.length ≤ 19 := by
 rw [← h]
 rcases Nat.eq_zero_or_pos n with h0 | h0
 · subst h0; rw [decN_zero]; simp
 · rw [decN_digits n h0, List.append_nil, Lib.decDigits_length]
   exact nDig_le 18 n (by omega)
theorem decN_room {n m : Nat} {acc : List UInt8} (hn : (n : Int) ≤ 9223372036854775808) (hm : 0 < m) (h : decN n [] = decN m acc) : acc.length + 1 ≤ 20 := by
 have h1 : (decN n []).length ≤ 19 := by
   rcases Nat.eq_zero_or_pos n with h0 | h0
   · subst h0; rw [decN_zero]; simp
   · rw [decN_digits n h0, List.append_nil, Lib.decDigits_length]
     exact nDig_le 18 n (by omega)
 rw [h, decN_digits m hm, List.length_append] at h1
 omega
def decB (n : Nat) : ByteArray := ⟨(Lib.itoa (n : Int)).toArray⟩
theorem info_u8 : (Tryz.prog.info? 5).map (fun i => (i.zero, i.size, i.bytes)) = some (some (.int .u8 0), 1, 1) := by kernel_rfl
set_option maxRecDepth 100000 in
set_option maxHeartbeats 2000000 in
theorem l01Dec_c (n : Nat) (hn : (n : Int) ≤ 9223372036854775807) (w : World) : Calls Tryz.prog 165 #[.int .i64 n] w (Ret (.string (decB n)) w) := by
 obtain ⟨i0, hi0, hz0, hz1, hz2⟩ := info_parts (P := Tryz.prog) (e := 5) (z := .int .u8 0) (size := 1) (bytes := 1) info_u8
 go_enter Tryz.func165, Tryz.ntmps165
 go_wp2_with fail
 have hR := qH (show decN n [] = decN n [] from rfl)
 go_loopw [3, 4] (fun o k wr => ∃ (m : Nat) (acc : List UInt8) (ad : Addr) (c : Nat), k = .int .i64 m ∧ o = .slice (some ad) acc.length c ∧ wr.ownsRow w.heap.size 5 1 (.slice (some ad) acc.length c) acc.length (acc.map u8v) ∧ acc.length + m ≤ n ∧ (n = 0 ∨ 0 < m ∨ 0 < acc.length) ∧ Hid (decN n [] = decN m acc) ∧ Below w.heap.size w wr) (fun _ k _ => (intOf k).toNat)
 case atStart => exact ⟨n, [], ⟨w.heap.size, 0, none⟩, 0, rfl, rfl, own_empty w _ _ _ (Nat.le_refl _), by simp, by omega, qH rfl, bl_alloc (Below.refl _ _) _⟩
 case round =>
   obtain ⟨m, acc, ad, c, rfl, rfl, hown, hle, hor, hR, hv⟩ := hrel
   by_cases h0 : m = 0
   · subst h0
     have hne : (((0 : Nat) : Int) != 0) = false := by rfl
     have hR2 := qH (hR.out.trans (decN_zero acc))
     by_cases hl : acc.length = 0
     · have hn0 : n = 0 := by omega
       have hle0 : ((acc.length : Int) == 0) = true := by simp; exact List.length_eq_zero_iff.1 hl
       have HN := qH hn0
       clear hn0 hl
       go_wp2_with fail
       go_returns
       exact Ret.mk (by rw [decB, HN.out, itoa_nat]; rfl) hv
     · have hle0 : ((acc.length : Int) == 0) = false := by simp; intro e; exact hl (by rw [e]; rfl)
       have hrun := run_bytes (P := Tryz.prog) 22 9 5 Tryz.underlying22 Tryz.underlying5 Tryz.underlying9 wr ad c acc (Arr.own hown) (by omega)
       have hnn : ¬ (n : Int) < 0 := by omega
       have hn0 : n ≠ 0 := by omega
       have HN := qH hn0
       clear hl hn0
       go_wp2_with fail
       go_returns
       exact Ret.mk (by rw [decB, itoa_nat, if_neg HN.out, hR2.out]; rfl) hv
   · have hne : ((m : Int) != 0) = true := by rw [bne_iff_ne]; omega
     have hR2 := qH (hR.out.trans (decN_step (by omega) acc))
     have hroom := decN_room (by omega) (by omega) hR.out
     have hX := World.ownsRow_lit (base := w.heap.size) (e := 5) (size := 1) wr #[Value.int IntKind.u8 (48 + ((m % 10 : Nat) : Int))] 1 hv.size (by simp [maxLen]) (by simp)
     have HX := qH hX
     have hAr := Arr.own hown
     have hsz : w.heap.size ≤ (wr.alloc (Obj.cells #[.int IntKind.u8 (48 + ((m % 10 : Nat) : Int))] 5)).heap.size := by have := hv.size; simp; omega
     have HSZ := qH hsz
     have HAr := qH hAr
     clear hX hAr hsz
     go_wp2_with (at_builtin; go_loud (refine app_many _ rfl _ _ 22 5 rfl i0 _ 1 1 Tryz.underlying22 hi0 hz0 hz1 hz2 rfl (by omega) w.heap.size (.slice (some ⟨wr.heap.size, 0, none⟩) 1 1) 1 [.int .u8 (48 + ((m % 10 : Nat) : Int))] rfl HX.out ad acc.length c (acc.map u8v) rfl (HAr.out.alloc _) (by simp) (by intro u hu; simp only [List.mem_map] at hu; obtain ⟨b, _, rfl⟩ := hu; rfl) (by unfold maxLen; omega) (by omega) HSZ.out ?_); intro A2 c2 w2 hown2 hg2; obtain ⟨g2, hA2⟩ := own_addr hown2 (by omega); subst hA2)
     have e1 : 1 + acc.length = (UInt8.ofNat (48 + m % 10) :: acc).length := by simp; omega
     have e2 : [Value.int IntKind.u8 (48 + ((m % 10 : Nat) : Int))] ++ acc.map u8v = (UInt8.ofNat (48 + m % 10) :: acc).map u8v := by simp only [List.map_cons, u8v]; rw [u8_num]; rfl
     rw [e1, e2] at hown2
     refine ⟨⟨m / 10, UInt8.ofNat (48 + m % 10) :: acc, ⟨g2, 0, none⟩, c2, by go_num, by rw [e1], hown2, by simp; omega, by simp, hR2, ?_⟩, by simp [intOf]; omega⟩
     exact bl_grown (bl_alloc hv _) hg2 (fun k e => by
       have h1 := hv.size
       have h2 : wr.heap.size = k := by simpa [Value.ownBlock] using e
       omega)
def decI (n : Int) : ByteArray := ⟨(Lib.itoa n).toArray⟩
theorem itoa_neg (n : Nat) (h : 0 < n) : Lib.itoa (-(n : Int)) = 45 :: decN n [] := by
 unfold Lib.itoa
 rw [if_pos (by omega), decN_digits n h, show (-(n : Int)).natAbs = n from by omega]; simp
theorem tmod_neg (m : Nat) : Int.tmod (-(m : Int)) 10 = -((m % 10 : Nat) : Int) := by
 rw [Int.neg_tmod, Int.tmod_eq_emod_of_nonneg (by omega)]; rfl
theorem tdiv_neg (m : Nat) : Int.tdiv (-(m : Int)) 10 = -((m / 10 : Nat) : Int) := by
 rw [Int.neg_tdiv, Int.tdiv_eq_ediv_of_nonneg (by omega)]; rfl
set_option maxRecDepth 100000 in
set_option maxHeartbeats 2000000 in
theorem l01Dec_neg (n : Nat) (hn0 : 0 < n) (hn : (n : Int) ≤ 9223372036854775808) (w : World) : Calls Tryz.prog 165 #[.int .i64 (-(n : Int))] w (Ret (.string (decI (-(n : Int)))) w) := by
 obtain ⟨i0, hi0, hz0, hz1, hz2⟩ := info_parts (P := Tryz.prog) (e := 5) (z := .int .u8 0) (size := 1) (bytes := 1) info_u8
 go_enter Tryz.func165, Tryz.ntmps165
 go_wp2_with fail
 go_loopw [3, 4] (fun o k wr => ∃ (m : Nat) (acc : List UInt8) (ad : Addr) (c : Nat), k = .int .i64 (-(m : Int)) ∧ o = .slice (some ad) acc.length c ∧ wr.ownsRow w.heap.size 5 1 (.slice (some ad) acc.length c) acc.length (acc.map u8v) ∧ acc.length + m ≤ n ∧ (0 < m ∨ 0 < acc.length) ∧ Hid (decN n [] = decN m acc) ∧ Below w.heap.size w wr) (fun _ k _ => (-(intOf k)).toNat)
 case atStart => exact ⟨n, [], ⟨w.heap.size, 0, none⟩, 0, rfl, rfl, own_empty w _ _ _ (Nat.le_refl _), by simp, by omega, qH rfl, bl_alloc (Below.refl _ _) _⟩
 case round =>
   obtain ⟨m, acc, ad, c, rfl, rfl, hown, hle, hor, hR, hv⟩ := hrel
   by_cases h0 : m = 0
   · subst h0
     have hR2 := qH (hR.out.trans (decN_zero acc))
     have hl : acc.length ≠ 0 := by omega
     have hle0 : ((acc.length : Int) == 0) = false := by simp; intro e; exact hl (by rw [e]; rfl)
     have hrun := run_bytes (P := Tryz.prog) 22 9 5 Tryz.underlying22 Tryz.underlying5 Tryz.underlying9 wr ad c acc (Arr.own hown) (by omega)
     have hl19 := decN_len hn hR2.out
     have hadd := fun (w : World) => run_string_add_sum (P := Tryz.prog) w ⟨#[45]⟩ ⟨acc.toArray⟩ (by rw [ByteArray.size_mk', ByteArray.size_mk']; simp; omega)
     have hnn : -(n : Int) < 0 := by omega
     clear hl
     go_wp2_with fail
     go_returns
     refine Ret.mk ?_ hv
     rw [decI, itoa_neg n hn0, hR2.out]
     exact congrArg Value.string (ByteArray.mk_append_mk [45] acc)
   · have hne : (-(m : Int) != 0) = true := by rw [bne_iff_ne]; omega
     have hR2 := qH (hR.out.trans (decN_step (by omega) acc))
     have hroom := decN_room (by omega) (by omega) hR.out
     obtain ⟨r, hr⟩ : ∃ r : Nat, r = m % 10 := ⟨_, rfl⟩
     obtain ⟨q, hq⟩ : ∃ q : Nat, q = m / 10 := ⟨_, rfl⟩
     have ht : Int.tmod (-(m : Int)) 10 = -(r : Int) := by rw [hr]; exact tmod_neg m
     have hd : Int.tdiv (-(m : Int)) 10 = -(q : Int) := by rw [hq]; exact tdiv_neg m
     have hr9 : (r : Int) ≤ 9 := by omega
     have hqm : q < m := by omega
     have hqm2 : (q : Int) ≤ 1000000000000000000 := by omega
     have HQ := qH hq
     have HR' := qH hr
     clear hr hq
     rcases Nat.eq_zero_or_pos r with hr0 | hrp
     · have ht0 : Int.tmod (-(m : Int)) 10 = 0 := by rw [ht, hr0]; rfl
       have HR0 := qH hr0
       clear ht hr0
       have hX := World.ownsRow_lit (base := w.heap.size) (e := 5) (size := 1) wr #[Value.int IntKind.u8 48] 1 hv.size (by simp [maxLen]) (by simp)
       have HX := qH hX
       have hAr := Arr.own hown
       have hsz : w.heap.size ≤ (wr.alloc (Obj.cells #[.int IntKind.u8 48] 5)).heap.size := by have := hv.size; simp; omega
       have HSZ := qH hsz
       have HAr := qH hAr
       clear hX hAr hsz
       go_wp2_with (at_builtin; go_loud (refine app_many _ rfl _ _ 22 5 rfl i0 _ 1 1 Tryz.underlying22 hi0 hz0 hz1 hz2 rfl (by omega) w.heap.size (.slice (some ⟨wr.heap.size, 0, none⟩) 1 1) 1 [.int .u8 48] rfl HX.out ad acc.length c (acc.map u8v) rfl (HAr.out.alloc _) (by simp) (by intro u hu; simp only [List.mem_map] at hu; obtain ⟨b, _, rfl⟩ := hu; rfl) (by unfold maxLen; omega) (by omega) HSZ.out ?_); intro A2 c2 w2 hown2 hg2; obtain ⟨g2, hA2⟩ := own_addr hown2 (by omega); subst hA2)
       have e1 : 1 + acc.length = (UInt8.ofNat (48 + m % 10) :: acc).length := by simp; omega
       have e2 : [Value.int IntKind.u8 48] ++ acc.map u8v = (UInt8.ofNat (48 + m % 10) :: acc).map u8v := by
         have h := u8_num m
         rw [← HR'.out] at h ⊢
         simp only [List.map_cons, u8v]
         rw [h]
         rw [HR0.out]; rfl
       rw [e1, e2] at hown2
       have hqe : decN (m / 10) (UInt8.ofNat (48 + m % 10) :: acc) = decN q (UInt8.ofNat (48 + m % 10) :: acc) := by rw [HQ.out]
       refine ⟨⟨q, UInt8.ofNat (48 + m % 10) :: acc, ⟨g2, 0, none⟩, c2, by go_num, by rw [e1], hown2, by simp; omega, by simp, qH (hR2.out.trans hqe), ?_⟩, by simp [intOf]; omega⟩
       exact bl_grown (bl_alloc hv _) hg2 (fun k e => by
         have h1 := hv.size
         have h2 : wr.heap.size = k := by simpa [Value.ownBlock] using e
         omega)
     · have hrn : -(r : Int) < 0 := by omega
       have hrn2 : (r : Int) ≠ 0 := by omega
       have hX := World.ownsRow_lit (base := w.heap.size) (e := 5) (size := 1) wr #[Value.int IntKind.u8 (48 + (r : Int))] 1 hv.size (by simp [maxLen]) (by simp)
       have HX := qH hX
       have hAr := Arr.own hown
       have hsz : w.heap.size ≤ (wr.alloc (Obj.cells #[.int IntKind.u8 (48 + (r : Int))] 5)).heap.size := by have := hv.size; simp; omega
       have HSZ := qH hsz
       have HAr := qH hAr
       clear hX hAr hsz
       go_wp2_with (at_builtin; go_loud (refine app_many _ rfl _ _ 22 5 rfl i0 _ 1 1 Tryz.underlying22 hi0 hz0 hz1 hz2 rfl (by omega) w.heap.size (.slice (some ⟨wr.heap.size, 0, none⟩) 1 1) 1 [.int .u8 (48 + (r : Int))] rfl HX.out ad acc.length c (acc.map u8v) rfl (HAr.out.alloc _) (by simp) (by intro u hu; simp only [List.mem_map] at hu; obtain ⟨b, _, rfl⟩ := hu; rfl) (by unfold maxLen; omega) (by omega) HSZ.out ?_); intro A2 c2 w2 hown2 hg2; obtain ⟨g2, hA2⟩ := own_addr hown2 (by omega); subst hA2)
       have e1 : 1 + acc.length = (UInt8.ofNat (48 + m % 10) :: acc).length := by simp; omega
       have e2 : [Value.int IntKind.u8 (48 + (r : Int))] ++ acc.map u8v = (UInt8.ofNat (48 + m % 10) :: acc).map u8v := by
         have h := u8_num m
         rw [← HR'.out] at h ⊢
         simp only [List.map_cons, u8v]
         rw [h]
         rfl
       rw [e1, e2] at hown2
       have hqe : decN (m / 10) (UInt8.ofNat (48 + m % 10) :: acc) = decN q (UInt8.ofNat (48 + m % 10) :: acc) := by rw [HQ.out]
       refine ⟨⟨q, UInt8.ofNat (48 + m % 10) :: acc, ⟨g2, 0, none⟩, c2, by go_num, by rw [e1], hown2, by simp; omega, by simp, qH (hR2.out.trans hqe), ?_⟩, by simp [intOf]; omega⟩
       exact bl_grown (bl_alloc hv _) hg2 (fun k e => by
         have h1 := hv.size
         have h2 : wr.heap.size = k := by simpa [Value.ownBlock] using e
         omega)
theorem l01DecI_c (n : Int) (h0 : -9223372036854775808 ≤ n) (h1 : n ≤ 9223372036854775807) (w : World) : Calls Tryz.prog 165 #[.int .i64 n] w (Ret (.string (decI n)) w) := by
 by_cases h : 0 ≤ n
 · obtain ⟨c, rfl⟩ := Int.eq_ofNat_of_zero_le h
   exact l01Dec_c c h1 w
 · obtain ⟨c, hc⟩ : ∃ c : Nat, n = -(c : Int) := ⟨n.natAbs, by omega⟩
   subst hc
   exact l01Dec_neg c (by omega) (by omega) w
end Go.Proofs.YtpiehlfffjhoaaaGreatDoor
