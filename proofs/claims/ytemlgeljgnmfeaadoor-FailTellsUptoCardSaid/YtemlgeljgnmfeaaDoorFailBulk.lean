/-
What the bulk of what came in says of texts: slices of strings that came in, joined texts' lengths.
Conditions: none; no program is in sight.
-/
import Derived.Test.YtemlgeljgnmfeaaDoorFailLem3
import Derived.Test.YtemlgeljgnmfeaaDoorAlArr
set_option linter.unusedVariables false
set_option linter.unusedSimpArgs false
namespace Go.AL
open Go.RowKit Go.NumSpec Go.ChangeShapes Go.WideShapes
def sumT (l : List (List UInt8)) : Nat := (l.map fun p => p.length + 1).sum
theorem sumT_cons (p : List UInt8) (l : List (List UInt8)) : sumT (p :: l) = p.length + 1 + sumT l := by simp [sumT]
theorem tail_len (r : List (List UInt8)) : (Lib.joinTail [46] r).length = sumT r := by
  induction r with
  | nil => rfl
  | cons y r ih =>
    have : Lib.joinTail [46] (y :: r) = ([46] ++ y) ++ Lib.joinTail [46] r := by simp [Lib.joinTail]
    rw [this, List.length_append, ih, sumT_cons]
    simp only [List.length_append, List.length_singleton]
    omega
theorem join_le (l : List (List UInt8)) : (Lib.join l [46]).length ≤ sumT l := by
  cases l with
  | nil => simp [Lib.join_nil, sumT]
  | cons x r =>
    rw [Lib.join_cons, List.length_append, tail_len, sumT_cons]
    omega
theorem sum_in (e : Er) (p : List UInt8) : sumT (erPath (erIn e p)) ≤ sumT (erPath e) + (p.length + 1) := by
  cases e with
  | none => simp [erIn, erPath, sumT]
  | some x => show sumT (p :: x.2) ≤ _; rw [sumT_cons]; show _ ≤ sumT x.2 + _; omega
theorem sum_fold : ∀ (l : List (List UInt8)) (e : Er), sumT (erPath (l.foldl erIn e)) ≤ sumT (erPath e) + sumT l
  | [], e => by simp [sumT]
  | p :: l, e => by
    have h := sum_fold l (erIn e p)
    have h2 := sum_in e p
    rw [List.foldl_cons, sumT_cons]
    omega
theorem sum_new (c : Int) (ps : List (List UInt8)) : sumT (erPath (erNew c ps)) ≤ sumT ps := by
  by_cases h : c = 0
  · rw [erNew_none h]; simp [erPath, sumT]
  · rw [erNew_some h]; exact Nat.le_refl _
theorem tells_len (c : Int) (a b : List (List UInt8)) (h : sumT a + sumT b ≤ 1048576) : (Lib.join (erPath (b.foldl erIn (erNew c a))) [46]).length ≤ 140737488355328 := by
  have h1 := join_le (erPath (b.foldl erIn (erNew c a)))
  have h2 := sum_fold b (erNew c a)
  have h3 := sum_new c a
  omega
/-- What a slice of strings reads as. -/
theorem strs_data {P : Program} {H : Type} {enc : TypeId × Value → H} {w : World} {t e : TypeId} {y : List (List UInt8)} {v : Value} {d : DataW H} {ps : List MemPlace} (hu : P.underlying t = some (.slice e)) (he : P.underlying e = some .string) (hm : P.cellsOf e = 1)
    (ht : DataW.Trod enc P w 0 (fun _ => true) true t v d ps) (hr : R [] w (.sl (strsV y)) v) : y = [] ∨ ∃ spare, d = .slice (y.map fun l => .lit (.string l)) spare := by
  obtain ⟨A, cap, rfl, hne⟩ := sl_inv hr
  by_cases h0 : y = []
  · exact .inl h0
  · right
    obtain ⟨b, off, size, f, rfl, hcap, hsz, hc, hrr⟩ := hne (by simpa [strsV] using h0)
    have hl0 : 0 < y.length := List.length_pos_iff.2 h0
    have hs1 : size = 1 := by
      have := hsz 0 (.S y[0]) (by simp [strsV, hl0])
      simpa [AV.cells] using this.symm
    subst hs1
    obtain ⟨fuel, hx⟩ := ht
    rcases DataW.trod_slice hu hx with ⟨h1, _⟩ | ⟨a, len, cap', elems, rest, n, rfl, h2, h3, _, _, _, hlen, hel, _, _⟩
    · simp [Value.cells] at h1
    · simp [Value.cells] at h2
      obtain ⟨rfl, rfl, rfl⟩ := h2
      refine ⟨rest.map (·.1), (Prod.mk.inj h3).1.trans ?_⟩
      have hyl := strsV_len y
      congr 1
      refine List.ext_getElem? fun i => ?_
      by_cases hi : i < y.length
      · have hi2 : i < elems.length := by omega
        have h5 := hel i (by omega)
        rw [hm, List.getElem?_eq_getElem hi2] at h5
        cases hcc : w.cells? 0 (Addr.add ⟨b, off, none⟩ (i * 1)) 1 with
        | none => rw [hcc] at h5; cases h5
        | some cs =>
          rw [hcc] at h5
          obtain ⟨_, k2, k3⟩ := World.cells?_some hcc
          obtain ⟨s, rfl, hs, _⟩ := DataW.trod_string he h5
          have k4 := k3 0 (by decide)
          rw [Addr.add_mid, Addr.add_mid] at k4
          have hm1 : (strsV y)[i]? = some (.S y[i]) := by simp [strsV, hi]
          have h7 := (hc i _ 0 (.S y[i]) hm1 (by simp [AV.cells])).1
          have h8 := (hrr i _ 0 (.S y[i]) hm1 (by simp [AV.cells])).lit_inv
          simp only [Nat.mul_one, Nat.add_zero, List.getElem?_cons_zero] at k4 h7 h8
          rw [h7, h8] at k4
          have hse : s = ⟨y[i].toArray⟩ := by
            have := Option.some.inj k4
            exact (Value.string.inj this).symm
          rw [List.getElem?_map, List.getElem?_map, List.getElem?_eq_getElem hi2, List.getElem?_eq_getElem hi, hs, hse]
          simp
      · rw [List.getElem?_eq_none (by simp; omega), List.getElem?_eq_none (by simp; omega)]
end Go.AL
