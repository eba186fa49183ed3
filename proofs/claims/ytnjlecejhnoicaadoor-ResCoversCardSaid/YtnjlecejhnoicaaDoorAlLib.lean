/-
The logic AL: contracts of Go's library, out of the kit's.
Conditions: those of each theorem.
-/
import Derived.Test.YtnjlecejhnoicaaDoorAlMeth
import Derived.Lib.Join
import Derived.Below
set_option linter.unusedVariables false
set_option linter.unusedSimpArgs false
namespace Go.AL
open Go.RowKit

section
variable {P : Program}
/-- A call that leaves all that was there as it was. -/
theorem Ext.below {st : St} {w w' : World} (h : Below w.heap.size w w') : Ext st w st w' :=
  ⟨h.os, h.tape, h.output, fun b hb => by simp only [World.shape?, h.block b hb], h.size, fun b hb _ => h.block b hb, fun b e size n cap hb _ off _ => World.cell?_of_block (w := w) (h.block b hb), fun _ _ _ h => h, fun b vs hb _ => h.block b hb⟩
theorem Rel.below {st : St} {w w' : World} (hr : Rel st w) (h : Below w.heap.size w w') : Rel st w' := by
  refine ⟨hr.nodup, fun b cs hb => ?_, fun b e size n cap hb => ?_, fun b vs hb => (Ext.below h).konst_rel hr hb⟩
  · obtain ⟨vs, T, k1, k2, k3⟩ := hr.cells b cs hb
    exact ⟨vs, T, by rw [h.block b (key_lt hr hb)]; exact k1, k2, fun i c v hc hv => (k3 i c v hc hv).mono (Ext.below h) hr.nodup⟩
  · obtain ⟨vs, k1, k2⟩ := hr.grow b e size n cap hb
    exact ⟨vs, by rw [h.block b (key_lt hr hb)]; exact k1, k2⟩

theorem texts_map : ∀ ls : List (List UInt8), (ls.map fun l => (⟨l.toArray⟩ : ByteArray)).map (·.data.toList) = ls
  | [] => rfl
  | l :: ls => by simp only [List.map_cons, texts_map ls]

/-- strings.Join. -/
theorem PCalls_join {f : FuncId} (he : Enters P f)
    (hnone : ∀ (a : Option Addr) (c : Nat) (sep : ByteArray) (w : World), Calls P f #[.slice a 0 c, .string sep] w fun e w' => e = .returned (.string ⟨#[]⟩) ∧ w' = w)
    (hmany : ∀ (bk o c : Nat) (xs : List ByteArray) (sep : ByteArray) (w : World), (∀ (j : Nat) x, xs[j]? = some x → w.cell? ⟨bk, o + j, none⟩ = some (.string x)) → bk < w.heap.size → xs.length ≤ 140737488355328 → xs.length ≤ c → (Lib.join (xs.map (·.data.toList)) sep.data.toList).length ≤ 140737488355328 →
      Calls P f #[.slice (some ⟨bk, o, none⟩) xs.length c, .string sep] w fun e w' => e = .returned (.string ⟨(Lib.join (xs.map (·.data.toList)) sep.data.toList).toArray⟩) ∧ Below w.heap.size w w')
    (ls : List (List UInt8)) (sep : List UInt8) (hN : ls.length ≤ 140737488355328) (hlen : (Lib.join ls sep).length ≤ 140737488355328) : PCalls P f [.sl (ls.map fun l => .S l), .S sep] (.S (Lib.join ls sep)) := fun st => by
  refine ⟨he, fun w vs hrel hs hr => ?_⟩
  obtain ⟨v0, v1, rfl⟩ : ∃ v0 v1, vs = #[v0, v1] := by
    obtain ⟨l⟩ := vs
    match l, hs with
    | [a, b], _ => exact ⟨a, b, rfl⟩
  have r0 := hr 0 _ v0 rfl rfl
  have r1 := (hr 1 _ v1 rfl rfl).lit_inv
  subst r1
  obtain ⟨A, cap, rfl, hne⟩ := sl_inv r0
  simp only [List.length_map]
  by_cases h0 : ls = []
  · subst h0
    refine (hnone A cap ⟨sep.toArray⟩ w).mono fun e w' ⟨he, hw⟩ => ⟨_, .S [], st, ?_, ⟨rfl, rfl⟩, .lit _, ?_, ?_⟩
    · rw [he]
    · rw [hw]; exact hrel
    · rw [hw]; exact .refl _ _
  · obtain ⟨b, off, size, f', rfl, hcap, hsz, hc, hrr⟩ := hne (by simpa using h0)
    have hlen0 : 0 < ls.length := List.length_pos_iff.2 h0
    have hs1 : size = 1 := by
      have := hsz 0 (.S ls[0]) (by simp [hlen0])
      simpa [AV.cells] using this.symm
    subst hs1
    have hcell : ∀ (j : Nat) l, ls[j]? = some l → w.cell? ⟨b, off + j, none⟩ = some (.string ⟨l.toArray⟩) := fun j l hj => by
      have hm : (ls.map fun l => AV.S l)[j]? = some (.S l) := by rw [List.getElem?_map, hj]; rfl
      have h1 := (hc j _ 0 (.S l) hm (by simp [AV.cells])).1
      have h2 := (hrr j _ 0 (.S l) hm (by simp [AV.cells])).lit_inv
      rw [h2] at h1
      simpa using h1
    have hb : b < w.heap.size := cell_lt (hcell 0 ls[0] (by simp [hlen0]))
    have hmap := texts_map ls
    have hm := hmany b off cap (ls.map fun l => (⟨l.toArray⟩ : ByteArray)) ⟨sep.toArray⟩ w (fun j x hx => by
      rw [List.getElem?_map, Option.map_eq_some_iff] at hx
      obtain ⟨l, hl, rfl⟩ := hx
      exact hcell j l hl) hb (by simpa using hN) (by simpa using hcap) (by rw [hmap]; exact hlen)
    rw [hmap, List.length_map] at hm
    exact hm.mono fun e w' ⟨he, hw⟩ => ⟨_, _, st, he, ⟨rfl, rfl⟩, .lit _, hrel.below hw, .below hw⟩
end
end Go.AL
