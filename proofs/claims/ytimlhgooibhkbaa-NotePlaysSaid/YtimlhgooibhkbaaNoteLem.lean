/-
What the walks of layer 23 come to: notes as four numbers, their words and texts.
Conditions: none; no program is in sight.
-/
import Derived.Test.YtimlhgooibhkbaaAlLib
import Derived.Test.YtimlhgooibhkbaaAlVec
import Derived.Test.YtimlhgooibhkbaaNumLem
set_option linter.unusedVariables false
set_option linter.unusedSimpArgs false
namespace Go.AL
open Go.NumSpec

abbrev Note := Int × Int × Int × Int
abbrev noteL (n : Note) : List AV := [.int .i64 n.1, .int .i64 n.2.1, .int .i64 n.2.2.1, .int .i64 n.2.2.2]
abbrev noteAV (n : Note) : AV := .agg (noteL n)
def fits4 (n : Note) : Prop := fits n.1 ∧ fits n.2.1 ∧ fits n.2.2.1 ∧ fits n.2.2.2
instance (n : Note) : Decidable (fits4 n) := by unfold fits4; infer_instance
def words9 : List (List UInt8) := [[45], [98, 111, 120], [115, 116, 111, 112], [103, 111, 110, 101], [109, 97, 100, 101], [114, 117, 110], [101, 120, 105, 116], [100, 114, 111, 112], [108, 111, 115, 116]]
def wordV (k : Int) : List UInt8 := if 1 ≤ k ∧ k ≤ 8 then words9.getD k.toNat [] else [45]
theorem wordV_len (k : Int) : (wordV k).length ≤ 4 := by
  unfold wordV
  split
  · rename_i h
    have : k = 1 ∨ k = 2 ∨ k = 3 ∨ k = 4 ∨ k = 5 ∨ k = 6 ∨ k = 7 ∨ k = 8 := by omega
    rcases this with rfl | rfl | rfl | rfl | rfl | rfl | rfl | rfl <;> decide
  · decide
def noteText (n : Note) : List UInt8 := wordV n.1 ++ [32] ++ textL n.2.1 ++ [32] ++ textL n.2.2.1 ++ [32] ++ textL n.2.2.2
theorem join4 (a b c d : List UInt8) : Lib.join [a, b, c, d] [32] = a ++ [32] ++ b ++ [32] ++ c ++ [32] ++ d := by
  rw [Lib.join_cons]
  simp [Lib.joinTail]
theorem word_at {k : Int} (h : 1 ≤ k ∧ k ≤ 8) : (words9.map fun l => AV.S l)[k.toNat]? = some (.S (wordV k)) := by
  have : k = 1 ∨ k = 2 ∨ k = 3 ∨ k = 4 ∨ k = 5 ∨ k = 6 ∨ k = 7 ∨ k = 8 := by omega
  rcases this with rfl | rfl | rfl | rfl | rfl | rfl | rfl | rfl <;> rfl
theorem word_no {k : Int} (h : ¬ (1 ≤ k ∧ k ≤ 8)) : wordV k = [45] := by rw [wordV, if_neg h]
def notesL (l : List Note) : List AV := l.map noteAV
theorem notesL_len (l : List Note) : (notesL l).length = l.length := by simp [notesL]
theorem notesL_cells {l : List Note} : ∀ x, x ∈ notesL l → x.cells.length = 4 := fun x hx => by
  obtain ⟨r, _, rfl⟩ := List.mem_map.1 hx
  rfl
def headN (l : List Note) : Note := l.headD (0, 0, 0, 0)
theorem head_at {l : List Note} (h : 0 < (notesL l).length) {i : Int} (hi : i = 0) : (notesL l)[i.toNat]? = some (noteAV (headN l)) := by
  subst hi
  cases l with
  | nil => simp [notesL] at h
  | cons n l => rfl
def blindQ (l : List Note) : Bool := decide ((l.length : Int) = 1) && decide ((headN l).1 = 8)
def putQ (l : List Note) (lost : Int) (n : Note) : List Note × Int × Bool := if blindQ l then (l, lost + 1, false) else if 32 ≤ l.length then ([(8, 0, 0, 0)], lost + (l.length + 1), false) else (l ++ [n], lost, true)
def takeQ (l : List Note) : List Note × Note × Bool := match l with | [] => ([], (0, 0, 0, 0), false) | n :: l => (l, n, true)
theorem notesL_snoc (l : List Note) (n : Note) : notesL (l ++ [n]) = notesL l ++ [noteAV n] := by simp [notesL]
theorem works_putq : putQ [] 0 (6, 3, 0, 137) = ([(6, 3, 0, 137)], 0, true) := by decide
theorem works_note : noteText (6, 3, 0, 137) = [101, 120, 105, 116, 32, 51, 32, 48, 32, 49, 51, 55] := by simp [noteText, wordV, words9, textL, digL]
/-! In order, or lost -/
def ints (l : List Int) : List AV := l.map fun n => .int .i64 n
theorem ints_len (l : List Int) : (ints l).length = l.length := by simp [ints]
theorem ints_cells {l : List Int} : ∀ x, x ∈ ints l → x.cells.length = 1 := fun x hx => by
  obtain ⟨r, _, rfl⟩ := List.mem_map.1 hx
  rfl
theorem ints_snoc (l : List Int) (n : Int) : ints (l ++ [n]) = ints l ++ [.int .i64 n] := by simp [ints]
structure Ord (ql : List Note) (lost : Int) (th : List Int) (nx : Int) (bl : Bool) : Prop where
  len : ql.length ≤ 32
  pos : 0 ≤ lost
  blind : bl = true → ql = [(8, 0, 0, 0)] ∧ th = [] ∧ lost ≤ nx
  open_ : bl = false → ql = th.map (fun x => (5, x, 0, 0)) ∧ lost + ql.length ≤ nx
theorem Ord.start : Ord [] 0 [] 0 false := ⟨by simp, by omega, nofun, fun _ => by simp⟩
theorem Ord.le {ql : List Note} {lost : Int} {th : List Int} {nx : Int} {bl : Bool} (h : Ord ql lost th nx bl) : lost ≤ nx := by
  cases bl with
  | true => exact (h.blind rfl).2.2
  | false => have := (h.open_ rfl).2; omega
theorem Ord.put {ql : List Note} {lost : Int} {th : List Int} {nx : Int} {bl : Bool} (h : Ord ql lost th nx bl) :
    ((putQ ql lost (5, nx + 1, 0, 0)).2.2 = true → bl = false ∧ Ord (putQ ql lost (5, nx + 1, 0, 0)).1 (putQ ql lost (5, nx + 1, 0, 0)).2.1 (th ++ [nx + 1]) (nx + 1) false) ∧
      ((putQ ql lost (5, nx + 1, 0, 0)).2.2 = false → Ord (putQ ql lost (5, nx + 1, 0, 0)).1 (putQ ql lost (5, nx + 1, 0, 0)).2.1 [] (nx + 1) true) := by
  have h0 := h.pos
  cases bl with
  | true =>
    obtain ⟨rfl, rfl, hl⟩ := h.blind rfl
    have e : putQ [(8, 0, 0, 0)] lost (5, nx + 1, 0, 0) = ([(8, 0, 0, 0)], lost + 1, false) := rfl
    rw [e]
    exact ⟨nofun, fun _ => ⟨by simp, by dsimp only; omega, fun _ => ⟨rfl, rfl, by dsimp only; omega⟩, nofun⟩⟩
  | false =>
    obtain ⟨hq, hl⟩ := h.open_ rfl
    have hb : blindQ ql = false := by
      unfold blindQ
      rw [hq]
      cases th with
      | nil => rfl
      | cons x t => simp [headN]
    have hlen := h.len
    by_cases h32 : 32 ≤ ql.length
    · have e : putQ ql lost (5, nx + 1, 0, 0) = ([(8, 0, 0, 0)], lost + (ql.length + 1), false) := by rw [putQ, hb, if_neg (by simp), if_pos h32]
      rw [e]
      exact ⟨nofun, fun _ => ⟨by simp, by dsimp only; omega, fun _ => ⟨rfl, rfl, by dsimp only; omega⟩, nofun⟩⟩
    · have e : putQ ql lost (5, nx + 1, 0, 0) = (ql ++ [(5, nx + 1, 0, 0)], lost, true) := by rw [putQ, hb, if_neg (by simp), if_neg h32]
      rw [e]
      refine ⟨fun _ => ⟨rfl, ⟨by simp; omega, h0, nofun, fun _ => ⟨by rw [hq]; simp, by simp; omega⟩⟩⟩, nofun⟩
theorem Ord.takeBlind {ql : List Note} {lost : Int} {th : List Int} {nx : Int} (h : Ord ql lost th nx true) : takeQ ql = ([], (8, 0, 0, 0), true) ∧ th = [] ∧ Ord [] lost [] nx false := by
  obtain ⟨rfl, rfl, hl⟩ := h.blind rfl
  exact ⟨rfl, rfl, ⟨by simp, h.pos, nofun, fun _ => ⟨rfl, by simpa using hl⟩⟩⟩
theorem Ord.takeNone {ql : List Note} {lost nx : Int} (h : Ord ql lost [] nx false) : takeQ ql = ([], (0, 0, 0, 0), false) ∧ Ord [] lost [] nx false := by
  obtain ⟨rfl, hl⟩ := h.open_ rfl
  exact ⟨rfl, h⟩
theorem Ord.takeOne {ql : List Note} {lost nx x : Int} {t : List Int} (h : Ord ql lost (x :: t) nx false) : takeQ ql = (t.map (fun x => (5, x, 0, 0)), (5, x, 0, 0), true) ∧ Ord (t.map fun x => (5, x, 0, 0)) lost t nx false := by
  obtain ⟨rfl, hl⟩ := h.open_ rfl
  have := h.len
  simp at this hl
  exact ⟨rfl, ⟨by simp; omega, h.pos, nofun, fun _ => ⟨rfl, by simp; omega⟩⟩⟩
/-- What NoteOrder's loops keep. -/
structure OG where
  i : Nat
  k : Nat
  p : Own
  ql : List Note
  lost : Int
  t : Own
  th : List Int
  nx : Int
  bl : Bool
def OG.ok (g : OG) : Prop := g.p.ok (notesL g.ql) ∧ g.t.ok (ints g.th) ∧ Ord g.ql g.lost g.th g.nx g.bl ∧ 0 ≤ g.nx ∧ g.nx ≤ 40 * g.i + g.k ∧ g.i ≤ 200 ∧ g.k ≤ 40
theorem Ord.lost_le {ql : List Note} {lost nx : Int} {th : List Int} {bl : Bool} (h : Ord ql lost th nx bl) (h2 : nx ≤ 9000) : -1000000 ≤ lost ∧ lost ≤ 1000000 := by
  have := h.pos
  have := h.le
  omega
theorem ints_at {l : List Int} {x : Int} {t : List Int} (h : l = x :: t) : (ints l)[0]? = some (.int .i64 x) := by subst h; rfl
theorem Ord.take {ql : List Note} {lost nx : Int} {th : List Int} {bl : Bool} (h : Ord ql lost th nx bl) :
    (bl = true → (takeQ ql).2.2 = true ∧ (takeQ ql).2.1.1 = 8) ∧ (bl = false → (takeQ ql).2.2 = decide ((0 : Int) < ((ints th).length : Int))) ∧
      (bl = false → (takeQ ql).2.2 = true → (takeQ ql).2.1.1 = 5 ∧ (takeQ ql).2.1.2.1 = th.headD 0 ∧ (ints th)[0]? = some (.int .i64 (th.headD 0)) ∧ th ≠ []) ∧ Ord (takeQ ql).1 lost th.tail nx false := by
  cases bl with
  | true =>
    obtain ⟨e, rfl, h2⟩ := h.takeBlind
    rw [e]
    exact ⟨fun _ => ⟨rfl, rfl⟩, nofun, nofun, h2⟩
  | false =>
    cases th with
    | nil =>
      obtain ⟨e, h2⟩ := h.takeNone
      rw [e]
      exact ⟨nofun, fun _ => rfl, nofun, h2⟩
    | cons x t =>
      obtain ⟨e, h2⟩ := h.takeOne
      rw [e]
      exact ⟨nofun, fun _ => by simp [ints], fun _ _ => ⟨rfl, rfl, rfl, by simp⟩, h2⟩
theorem ints_tail (l : List Int) : ints l.tail = (ints l).drop 1 := by cases l <;> simp [ints]
/-! The plays -/
theorem putQ_bounds {l : List Note} {lost : Int} {n : Note} (h : l.length ≤ 32) : (putQ l lost n).1.length ≤ 32 ∧ lost ≤ (putQ l lost n).2.1 ∧ (putQ l lost n).2.1 ≤ lost + 33 := by
  unfold putQ
  split
  · exact ⟨h, by dsimp only; omega, by dsimp only; omega⟩
  · split
    · exact ⟨by simp, by dsimp only; omega, by dsimp only; omega⟩
    · exact ⟨by simp; omega, by dsimp only; omega, by dsimp only; omega⟩
theorem takeQ_len {l : List Note} (h : l.length ≤ 32) : (takeQ l).1.length ≤ 32 := by
  cases l with
  | nil => simp [takeQ]
  | cons n l => simp at h; simp [takeQ]; omega
structure PG where
  i : Nat
  k : Nat
  p : Own
  ql : List Note
  lost : Int
def PG.ok (g : PG) : Prop := g.p.ok (notesL g.ql) ∧ g.ql.length ≤ 32 ∧ 0 ≤ g.lost ∧ g.lost ≤ 1320 * g.i + 33 * g.k ∧ g.i ≤ 200 ∧ g.k ≤ 40
theorem notesL_one (l : List Note) : ∀ y, y ∈ notesL l → y.cells.length = 4 ∧ y.cells.all AV.one = true := fun y hy => by
  obtain ⟨r, _, rfl⟩ := List.mem_map.1 hy
  exact ⟨rfl, rfl⟩
theorem Le_put {p : Own} {xs : List AV} {y z : AV} (h : p.ok xs) : Le (.tup [.agg [ownAV p 4 xs, y], z]) (.tup [.agg [.sl xs, y], z]) := by
  refine Le.tup rfl fun i c d hc hd => ?_
  match i with
  | 0 =>
    simp at hc hd; subst hc; subst hd
    refine Le.agg rfl fun i c d hc hd => ?_
    match i with
    | 0 => simp at hc hd; subst hc; subst hd; exact Le_own h
    | 1 => simp at hc hd; subst hc; subst hd; exact Le.refl _
    | i + 2 => simp at hc
  | 1 => simp at hc hd; subst hc; subst hd; exact Le.refl _
  | i + 2 => simp at hc
end Go.AL
