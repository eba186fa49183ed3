/-
Errors wrapped time and again: what stays.
Conditions: none; no program is in sight.
-/
import Derived.Test.YtnjlecejhnoicaaDoorAlVec1
set_option linter.unusedVariables false
set_option linter.unusedSimpArgs false
namespace Go.AL
open Go.RowKit Go.NumSpec
theorem erIn_code (e : Er) (p : List UInt8) : erCode (erIn e p) = erCode e := by cases e <;> rfl
theorem erIn_isNone (e : Er) (p : List UInt8) : (erIn e p).isNone = e.isNone := by cases e <;> rfl
theorem fold_code : ∀ (l : List (List UInt8)) (e : Er), erCode (l.foldl erIn e) = erCode e
  | [], e => rfl
  | p :: l, e => by rw [List.foldl_cons, fold_code l, erIn_code]
theorem fold_isNone : ∀ (l : List (List UInt8)) (e : Er), (l.foldl erIn e).isNone = e.isNone
  | [], e => rfl
  | p :: l, e => by rw [List.foldl_cons, fold_isNone l, erIn_isNone]
theorem fold_path : ∀ (l : List (List UInt8)) (e : Er), (erPath (l.foldl erIn e)).length ≤ (erPath e).length + l.length
  | [], e => Nat.le_refl _
  | p :: l, e => by
    have h := fold_path l (erIn e p)
    have h2 : (erPath (erIn e p)).length ≤ (erPath e).length + 1 := by cases e <;> simp [erIn, erPath]
    rw [List.foldl_cons, List.length_cons]
    omega
theorem new_path (c : Int) (ps : List (List UInt8)) : (erPath (erNew c ps)).length ≤ ps.length := by
  by_cases h : c = 0
  · rw [erNew_none h]; simp [erPath]
  · rw [erNew_some h]; exact Nat.le_refl _
theorem fold_well (l : List (List UInt8)) (c : Int) (ps : List (List UInt8)) (h : erCode (l.foldl erIn (erNew c ps)) = 0) : l.foldl erIn (erNew c ps) = none := by
  rw [fold_code, erNew_code] at h
  have := fold_isNone l (erNew c ps)
  rw [erNew_isNone, h] at this
  cases hh : l.foldl erIn (erNew c ps) with
  | none => rfl
  | some x => rw [h] at hh; rw [hh] at this; simp at this
theorem erHas_code (e : Er) (d : Int) : erHas e d = decide (erCode e = d) := by
  cases e with
  | none => simp [erHas, erCode, eq_comm]
  | some x => rfl
theorem fold_next {l : List (List UInt8)} {i : Nat} (h : i < l.length) (e : Er) : (l.take (i + 1)).foldl erIn e = erIn ((l.take i).foldl erIn e) l[i] := by
  rw [List.take_succ_eq_append_getElem h, List.foldl_append]; rfl
end Go.AL
