/- Lemmas for the law on the console: the parts DeskW, CoM. -/
import Derived.Test.YtpiehlfffjhoaaaGreatDoorQ0
import Derived.Test.YtpiehlfffjhoaaaGreatDoorQ2
import Derived.Test.YtpiehlfffjhoaaaGreatDoorQ41
import Derived.Test.YtpiehlfffjhoaaaGreatDoorQ25
import Derived.Test.YtpiehlfffjhoaaaGreatDoorQ7
namespace Go.Proofs.YtpiehlfffjhoaaaGreatDoor
open Go.RowKit
def deskL : List ByteArray := [⟨#[97, 108, 116, 101, 114]⟩, ⟨#[99, 108, 97, 117, 115, 101]⟩, ⟨#[101, 110, 116, 101, 114]⟩, ⟨#[102, 105, 116]⟩, ⟨#[102, 111, 111, 116]⟩, ⟨#[108, 97, 115, 116]⟩, ⟨#[108, 97, 115, 116, 115]⟩, ⟨#[108, 111, 103]⟩, ⟨#[110, 101, 101, 100]⟩, ⟨#[114, 97, 105, 115, 101]⟩, ⟨#[115, 116, 121, 108, 101]⟩]
set_option maxRecDepth 100000 in
theorem DeskWords_c (w : World) : Calls Tryz.prog 31 #[] w (OutS 9 1 11 (flat scell deskL) w) := by
 have hown := World.ownsRow_lit (base := w.heap.size) (e := 9) (size := 1) w #[Value.string ⟨#[97, 108, 116, 101, 114]⟩, Value.string ⟨#[99, 108, 97, 117, 115, 101]⟩, Value.string ⟨#[101, 110, 116, 101, 114]⟩, Value.string ⟨#[102, 105, 116]⟩, Value.string ⟨#[102, 111, 111, 116]⟩, Value.string ⟨#[108, 97, 115, 116]⟩, Value.string ⟨#[108, 97, 115, 116, 115]⟩, Value.string ⟨#[108, 111, 103]⟩, Value.string ⟨#[110, 101, 101, 100]⟩, Value.string ⟨#[114, 97, 105, 115, 101]⟩, Value.string ⟨#[115, 116, 121, 108, 101]⟩] 11 (Nat.le_refl _) (by simp [maxLen]) (by simp)
 have HO := qH hown
 clear hown
 go_enter Tryz.func31, Tryz.ntmps31
 go_wp2_with fail
 go_returns
 exact ⟨w.heap.size, rfl, HO.out, bl_alloc (Below.refl _ _) _⟩
theorem jn_splC (c : UInt8) (s : ByteArray) : joinW ⟨#[c]⟩ (splC c s) = s := by
 unfold joinW splC
 rw [List.map_map]
 have e : ((fun x : ByteArray => x.data.toList) ∘ fun l : List UInt8 => (⟨l.toArray⟩ : ByteArray)) = id := by funext l; simp
 rw [e, List.map_id]
 have h := spl_join c s.data.toList
 apply ByteArray.ext
 apply Array.ext'
 show Lib.join (spl c s.data.toList) [c] = s.data.toList
 exact h.symm
theorem restD_size (s : ByteArray) : (restD (splC 32 s)).size ≤ s.size := by
 have h := jn_splC 32 s
 have e1 : ∀ L : List ByteArray, (joinW ⟨#[32]⟩ L).size = (Lib.join (L.map (·.data.toList)) [32]).length := by
   intro L
   unfold joinW
   rw [← bytes_len]
 have e2 : s.size = (joinW ⟨#[32]⟩ (splC 32 s)).size := by rw [h]
 unfold restD
 rw [e2, e1, e1]
 generalize splC 32 s = L
 cases L with
 | nil => simp
 | cons a r =>
   rw [List.drop_succ_cons, List.drop_zero, List.map_cons, Lib.join_cons, List.length_append]
   cases r with
   | nil => simp [Lib.join_nil]
   | cons b t =>
     rw [List.map_cons, Lib.join_cons, List.length_append]
     simp only [Lib.joinTail, List.map_cons, List.flatten_cons, List.length_append]
     omega
theorem splC_pos (c : UInt8) (s : ByteArray) : 0 < (splC c s).length := by
 unfold splC
 rw [List.length_map]
 exact List.length_pos_iff.2 (spl_ne c _)
def OutDc (r : ResD) (w : World) (e : Ending) (w' : World) : Prop := ∃ (A : Option Addr) (n c : Nat) (B : Option Addr) (k c' : Nat), e = .returned (.tuple #[.agg #[.int .i64 r.1.f.length, .int .i64 r.1.f.ball, .int .i64 r.1.f.instep, .int .i64 r.1.f.heel, .slice A n c, .string r.1.s.upper, .string r.1.s.color, .string r.1.s.lining, .string r.1.s.sole, .int .i64 r.1.s.thick, .int .i64 r.1.s.heel, .int .i64 r.1.s.eyelets, .int .i64 r.1.s.density, .bool r.1.s.double, .string r.1.lg], .slice B k c', .int .i64 r.2.2]) ∧ Below w.heap.size w w' ∧ r.1.xs.length = n ∧ r.2.1.length = k ∧ ∃ lo mid, w.heap.size ≤ lo ∧ Own w' lo mid 100 6 n (.slice A n c) (flat Last.cells r.1.xs) ∧ w'.ownsRow mid 9 1 (.slice B k c') k (flat scell r.2.1)
theorem OutDc.mk {r : ResD} {w W : World} {f : Foot} {xs : List Last} {s : Style} {lg : ByteArray} {L : List ByteArray} {co : Int} {A B : Option Addr} {n c k c' g4 lo mid : Nat} (hr : r = (⟨f, xs, s, lg⟩, L, co)) (hn : xs.length = n) (hk : L.length = k) (hb : Below w.heap.size w W) (hg : w.heap.size ≤ g4) (hg2 : g4 < lo)
   (h1 : Own W lo mid 100 6 n (.slice A n c) (flat Last.cells xs)) (h2 : W.ownsRow mid 9 1 (.slice B k c') k (flat scell L)) (row : Array Value) : OutDc r w (.returned (.tuple #[.agg #[.int .i64 f.length, .int .i64 f.ball, .int .i64 f.instep, .int .i64 f.heel, .slice A n c, .string s.upper, .string s.color, .string s.lining, .string s.sole, .int .i64 s.thick, .int .i64 s.heel, .int .i64 s.eyelets, .int .i64 s.density, .bool s.double, .string lg], .slice B k c', .int .i64 co])) (World.setRow W g4 row) := by
 subst hr
 have hg4 := grown_rowX W g4 row
 have hlm := h1.2.1
 refine ⟨A, n, c, B, k, c', rfl, below_rowX hb hg row, hn, hk, lo, mid, by omega, h1.grown hg4 (fun j e => by injection e with e; omega), h2.kept hg4 ?_⟩
 cases hv : (Value.slice B k c').ownBlock with
 | none => exact .inl rfl
 | some j => exact .inr (fun e => by have := own_at h2 j hv; injection e with e; omega)
theorem OutDc.of {r : ResD} {w W : World} {f : Foot} {xs : List Last} {s : Style} {lg : ByteArray} {L : List ByteArray} {co : Int} {A B : Option Addr} {n c k c' lo mid : Nat} (hr : r = (⟨f, xs, s, lg⟩, L, co)) (hn : xs.length = n) (hk : L.length = k) (hb : Below w.heap.size w W) (hg : w.heap.size ≤ lo)
   (h1 : Own W lo mid 100 6 n (.slice A n c) (flat Last.cells xs)) (h2 : W.ownsRow mid 9 1 (.slice B k c') k (flat scell L)) : OutDc r w (.returned (.tuple #[.agg #[.int .i64 f.length, .int .i64 f.ball, .int .i64 f.instep, .int .i64 f.heel, .slice A n c, .string s.upper, .string s.color, .string s.lining, .string s.sole, .int .i64 s.thick, .int .i64 s.heel, .int .i64 s.eyelets, .int .i64 s.density, .bool s.double, .string lg], .slice B k c', .int .i64 co])) W := by
 subst hr
 exact ⟨A, n, c, B, k, c', rfl, hb, hn, hk, lo, mid, hg, h1, h2⟩
theorem OutDc.zero {r : ResD} {w W : World} {co : Int} {g4 : Nat} (hr : r = (zDk, [], co)) (hb : Below w.heap.size w W) (hg : w.heap.size ≤ g4) (row : Array Value) : OutDc r w (.returned (.tuple #[.agg #[.int .i64 0, .int .i64 0, .int .i64 0, .int .i64 0, .slice none 0 0, .string ⟨#[]⟩, .string ⟨#[]⟩, .string ⟨#[]⟩, .string ⟨#[]⟩, .int .i64 0, .int .i64 0, .int .i64 0, .int .i64 0, .bool false, .string ⟨#[]⟩], .slice none 0 0, .int .i64 co])) (World.setRow W g4 row) := by
 subst hr
 have hb2 := below_rowX hb hg row
 exact ⟨none, 0, 0, none, 0, 0, rfl, hb2, rfl, rfl, (World.setRow W g4 row).heap.size, (World.setRow W g4 row).heap.size, hb2.size, ⟨World.ownsRow_nil _ _ _ _, Nat.le_refl _, Nat.le_refl _, fun k e => by cases e⟩, World.ownsRow_nil _ _ _ _⟩
theorem numsD_step {ws : List ByteArray} {l : List UInt8} {j : Nat} {b : UInt8} (h : l[j]? = some b) (k : Nat) : numsD ws (l.drop j) k = if b = 110 then (if okB (nthD ws k) = true then (numsD ws (l.drop (j + 1)) (k + 1)).map (numV (nthD ws k) :: ·) else none) else numsD ws (l.drop (j + 1)) (k + 1) := by
 rw [drop_at h, numsD]
theorem nthD_mem {ws : List ByteArray} {k : Nat} (h : k < ws.length) : nthD ws k ∈ ws := by
 unfold nthD
 rw [List.getD_eq_getElem?_getD, List.getElem?_eq_getElem h]
 exact List.getElem_mem h
theorem nthD_at {ws : List ByteArray} {k : Nat} (h : k < ws.length) : ws[k]? = some (nthD ws k) := by
 unfold nthD
 rw [List.getD_eq_getElem?_getD, List.getElem?_eq_getElem h]; rfl
theorem formD_size (t : ByteArray) : (formD t).size ≤ 4 := by
 unfold formD
 repeat' split
 all_goals decide
theorem wordsD_desk : wordsD = deskL := rfl
end Go.Proofs.YtpiehlfffjhoaaaGreatDoor
