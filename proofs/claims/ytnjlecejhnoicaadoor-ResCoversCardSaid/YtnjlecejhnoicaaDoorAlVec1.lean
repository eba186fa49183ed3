/-
The logic AL: slices of one's own of one-cell elements, from nil on: what they grow to may be written in place.
Conditions: none; no program is in sight.
-/
import Derived.Test.YtnjlecejhnoicaaDoorFailLem2
set_option linter.unusedVariables false
set_option linter.unusedSimpArgs false
namespace Go.AL
open Go.RowKit Go.NumSpec
def vst (q : Vec) (xs : List AV) : St := match q with | .at b cap => [(b, .cells (vec1C cap xs))] | _ => []
section
variable {P : Program} {N : Nat} {Q : Post} {env : Env} {st : St} {o : Oper} {w : World}
theorem S_appendNilV1 {t e bytes : Nat} {x y : Operand} {z : AV} (ho : o.op = .call { callee := .builtin .append, args := #[x, y], argTypes := #[t, t] }) (hx : AEv env x .nils) (hy : AEv env y (.sl [z])) (hT : appT P t e 1 bytes = true) (hone : z.one = true) (hzc : z.cells = [z]) (hb : bytes ≤ 140737488355328) :
    Step P N o env st fun v st' => ∃ b cap, 1 ≤ cap ∧ v = vec1V b cap [z] ∧ st' = (b, .cells (vec1C cap [z])) :: st := by
  intro a w hg next Q hn
  obtain ⟨hu, ⟨i, zz, hi, hz, hsize, rfl, hzs⟩, hpos⟩ := appT_spec hT
  have e1 := (hx _ _ _ _ hg).lit_inv
  obtain ⟨b, off, cap, news, e2, hl, hnews, hone2, hR⟩ := sl_cells (size := i.size) (hy _ _ _ _ hg) (by simp) (fun i y h => by cases i with | zero => simp at h; subst h; rw [hzc, hsize]; rfl | succ i => simp at h) (by omega) (fun y hy => by simp at hy; subst hy; rw [hzc]; simp [hone])
  have hlen : news.length = 1 := by rw [hl, hsize]; rfl
  obtain ⟨u, rfl⟩ : ∃ u, news = [u] := by
    match news, hlen with
    | [u], _ => exact ⟨u, rfl⟩
  have hRu : R st w z u := by
    obtain ⟨u', h1, h2⟩ := hR 0 z 0 z rfl (by rw [hzc]; rfl)
    simp at h1
    subst h1
    exact h2
  have hrun := run_append_nil (P := P) w t o.type e i zz hu hi hz ⟨b, off, none⟩ 1 cap [u] hl hnews (by decide) (by omega) (by omega)
  have hge := grownCap_ge w 1 0 e
  generalize grownCap w 1 0 e = cp at *
  have hsz : ([u].toArray ++ Builtin.zeroCells zz.cells (cp - 1)).size = (vec1C cp [z]).length := by
    simp only [Array.size_append, List.size_toArray, size_zeroCells, hzs, vec1C, List.length_append, List.length_replicate, List.length_singleton]
    omega
  obtain ⟨k1, k2⟩ := alloc_rel (T := e) (hg.rel.drew) (ob := .cells (vec1C cp [z])) (vs := [u].toArray ++ Builtin.zeroCells zz.cells (cp - 1)) ⟨hsz, fun k c v hc hv => by
    cases k with
    | zero =>
      simp [vec1C] at hc
      rw [Array.getElem?_append_left (by simp)] at hv
      simp at hv
      subst hc; subst hv
      exact hRu.mono Ext.drew hg.rel.nodup
    | succ k =>
      rw [vec1C, List.getElem?_append_right (by simp)] at hc
      have := List.mem_of_getElem? hc
      rw [List.mem_replicate] at this
      rw [this.2]
      exact .any _⟩
  have k2 := Ext.drew.trans k2 hg.rel.nodup
  have hexec : (execOp a.eval o).run P w = .ok (.value (.slice (some ⟨w.heap.size, 0, none⟩) 1 cp)) (w.drew.alloc (.cells ([u].toArray ++ Builtin.zeroCells zz.cells (cp - 1)) e)) := by
    simp only [execOp, ho, resolve, invoke, builtin, Sem.run_bind, Sem.run_pure, Result.andThen_ok, List.map_toArray, List.map_cons, List.map_nil, e1, e2, List.length_singleton, hrun]
  unfold Oper.wp
  rw [hexec]
  exact hn _ _ _ _ ⟨w.heap.size, cp, hge, rfl, rfl⟩ (.lit _) k1 k2
/-- Memory may be left behind, or stand in another order. -/
theorem Step.sub {K K' : AV → St → Prop} (h : Step P N o env st K) (hk : ∀ x st', K x st' → ∃ st'', Sub st'' st' ∧ K' x st'') : Step P N o env st K' := fun a w hg next Q hn =>
  h a w hg next Q fun x st' v w' k hr hrel hx => by
    obtain ⟨st'', hs, hk'⟩ := hk x st' k
    exact hn x st'' v w' hk' (hr.mono (Ext.dropS hs) hrel.nodup) (hrel.dropS hs) (hx.trans (Ext.dropS hs) hg.rel.nodup)
/-- One more element, to nil or to what has grown out of it. -/
theorem S_appendV1 {t e bytes : Nat} {x y : Operand} {q : Vec} {xs : List AV} {z : AV} (pre post : St) (ho : o.op = .call { callee := .builtin .append, args := #[x, y], argTypes := #[t, t] }) (hx : AEv env x (.lit (vecV q xs.length))) (hy : AEv env y (.sl [z])) (hst : st = pre ++ (vst q xs ++ post)) (hq : q.ok xs) (hq2 : ∀ A, q ≠ .emp A) (hT : appT P t e 1 bytes = true)
    (hone : z.one = true) (hzc : z.cells = [z]) (hb : (xs.length + 1) * bytes ≤ 140737488355328) (h63 : xs.length + 1 ≤ 9223372036854775807) :
    Step P N o env st fun v st' => ∃ b' cap', (xs ++ [z]).length ≤ cap' ∧ v = vec1V b' cap' (xs ++ [z]) ∧ st' = pre ++ (vst (.at b' cap') (xs ++ [z]) ++ post) := by
  cases q with
  | emp A => exact absurd rfl (hq2 A)
  | nil =>
    have h0 : xs = [] := hq
    subst h0
    subst hst
    refine Step.sub (S_appendNilV1 ho hx hy hT hone hzc (by simpa using hb)) ?_
    rintro v st' ⟨b, cap, h1, h2, rfl⟩
    exact ⟨pre ++ ((b, .cells (vec1C cap [z])) :: post), Sub.p List.perm_middle (List.Sublist.refl _), b, cap, h1, h2, rfl⟩
  | «at» b cap => exact S_appendVec1 pre post ho hx hy hst hq hT hone hzc hb h63
/-- .. read only, from here on. -/
theorem Conv.v1 {st' : St} (h : Sub st' st) {q : Vec} {xs : List AV} (hq : q.ok xs) (hs : ∀ x, x ∈ xs → x.cells = [x]) (hm : ∀ p, p ∈ vst q xs → p ∈ st) (hn : ∀ b cap, q = .at b cap → ∀ o, (b, o) ∉ st') : Conv st st' (.lit (vecV q xs.length)) (.sl xs) := by
  cases q with
  | emp A => have h0 : xs = [] := hq; subst h0; intro w v hr h1; cases h1; exact .sl0 _ _
  | nil => have h0 : xs = [] := hq; subst h0; intro w v hr h1; cases h1; exact .sl0 _ _
  | «at» b cap => exact Conv.vec1 h hq hs (hm _ List.mem_cons_self) (hn b cap rfl)
end
end Go.AL
