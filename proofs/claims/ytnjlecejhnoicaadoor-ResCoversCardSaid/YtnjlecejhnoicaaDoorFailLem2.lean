/-
The reference's errors (a code and a path) as abstract values; joined texts, step by step.
Conditions: none; no program is in sight.
-/
import Derived.Test.YtnjlecejhnoicaaDoorFailLem
import Derived.Lib.Join
set_option linter.unusedVariables false
set_option linter.unusedSimpArgs false
namespace Go.AL
open Go.RowKit Go.NumSpec
def refV (e : Er) : AV := .agg [.int .i64 (erCode e), .sl (strsV (erPath e))]
theorem Le.fail0 : Le (.agg [.int .i64 0, .nils]) (refV none) := Le.agg rfl fun i c d hc hd => by
  match i with
  | 0 => simp at hc hd; subst hc; subst hd; exact Le.refl _
  | 1 => simp at hc hd; subst hc; subst hd; exact Le.nils
  | i + 2 => simp at hc
theorem Le.fail1 {c : Int} {p : Own} {xs : List AV} (h : p.ok xs) : Le (.agg [.int .i64 c, ownAV p 1 xs]) (.agg [.int .i64 c, .sl xs]) := Le.agg rfl fun i a d hc hd => by
  match i with
  | 0 => simp at hc hd; subst hc; subst hd; exact Le.refl _
  | 1 => simp at hc hd; subst hc; subst hd; exact Le_own h
  | i + 2 => simp at hc
def joinT (ps : List (List UInt8)) (i : Nat) : List UInt8 := Lib.join (ps.take i) [46]
theorem joinT_one {ps : List (List UInt8)} (h : 0 < ps.length) : joinT ps 1 = ps[0] := by
  cases ps with
  | nil => simp at h
  | cons p ps => simp [joinT, Lib.join_one]
theorem joinT_next {ps : List (List UInt8)} {i : Nat} (h0 : 0 < i) (h : i < ps.length) : joinT ps (i + 1) = (joinT ps i ++ [46]) ++ ps[i] := by
  cases ps with
  | nil => simp at h
  | cons p r =>
    obtain ⟨k, rfl⟩ : ∃ k, i = k + 1 := ⟨i - 1, by omega⟩
    have hk : k < r.length := by simpa using h
    simp only [joinT, List.take_succ_cons, Lib.join_cons, Lib.joinTail_take_succ [46] r k r[k] (List.getElem?_eq_getElem hk), List.getElem_cons_succ, List.append_assoc]
theorem joinT_le (ps : List (List UInt8)) (i : Nat) : (joinT ps i).length ≤ (Lib.join ps [46]).length := by
  cases ps with
  | nil => simp [joinT]
  | cons p r =>
    cases i with
    | zero => simp [joinT, Lib.join_nil]
    | succ k =>
      simp only [joinT, List.take_succ_cons, Lib.join_cons, List.length_append]
      have := Lib.joinTail_take_le [46] r k
      omega
theorem joinT_all {ps : List (List UInt8)} {i : Nat} (h : ps.length ≤ i) : joinT ps i = Lib.join ps [46] := by rw [joinT, List.take_of_length_le h]
end Go.AL
