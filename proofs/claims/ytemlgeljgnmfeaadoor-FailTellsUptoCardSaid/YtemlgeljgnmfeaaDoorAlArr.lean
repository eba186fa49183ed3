/-
The logic AL: arrays of ints that came in.
Conditions: none; no program is in sight.
-/
import Derived.Test.YtemlgeljgnmfeaaDoorAlRow
import Derived.Test.YtemlgeljgnmfeaaDoorFailLem
import Derived.OpenShut
set_option linter.unusedVariables false
set_option linter.unusedSimpArgs false
namespace Go.AL
open Go.RowKit Go.NumSpec Go.ChangeShapes Go.WideShapes
section
variable {P : Program} {t : TypeId}
theorem Opens.arrInts {n : Nat} {e : TypeId} (hu : P.underlying t = some (.array n e)) (he : P.underlying e = some (.int .i64)) (hc : P.cellsOf e = 1) (ht : P.cellsOf t = n) : Opens P t (List Int) intsV (fun l => l.length = n) := .mk fun enc w fuel cs x hx => by
  obtain ⟨xs, m, rfl, rfl, hl, hxl, hf⟩ := DataW.trod_array hu hx
  rw [ht] at hl
  have each : ∀ i, i < n → ∃ k, cs[i]? = some (.int .i64 k) := fun i h => by
    have h1 := hf i h
    rw [hc, Nat.mul_one] at h1
    have hi : i < cs.length := by omega
    have h2 : (cs.drop i).take 1 = [cs[i]] := by rw [List.drop_eq_getElem_cons hi]; rfl
    have hx2 : i < xs.length := by omega
    rw [h2, List.getElem?_eq_getElem hx2] at h1
    obtain ⟨y, _, hr⟩ := (Opens.i64 he).run enc w m _ _ h1
    have := (hr.2 0 _ _ rfl rfl).lit_inv
    exact ⟨y, by rw [List.getElem?_eq_getElem hi, this]⟩
  let g : Value → Int := fun v => match v with | .int _ k => k | _ => 0
  refine ⟨cs.map g, by rw [List.length_map]; exact hl, by simp [intsV], fun i c v hcc hv => ?_⟩
  have hi : i < n := by have := (List.getElem?_eq_some_iff.1 hv).1; omega
  obtain ⟨k, hk⟩ := each i hi
  rw [hk] at hv
  cases hv
  simp [intsV, hk] at hcc
  subst hcc
  exact .lit _
theorem Opens.argA {H : Type} {enc : TypeId × Value → H} {w : World} {r : Reach} {base : Nat} {α : Type} {toL : α → List AV} {ok : α → Prop} (h : Opens P t α toL ok) {n : Nat} {e : TypeId} (hu : P.underlying t = some (.array n e)) {v : Value} {d : DataW H} {ps : List MemPlace} (hval : Value.okWide P w r base t v) (ht : DataW.Trod enc P w 0 (fun _ => true) true t v d ps) : ∃ y, ok y ∧ R [] w (.agg (toL y)) v := by
  simp only [Value.okWide, hu] at hval
  obtain ⟨cs, rfl, _⟩ := hval
  exact h.argN ht
end
end Go.AL
