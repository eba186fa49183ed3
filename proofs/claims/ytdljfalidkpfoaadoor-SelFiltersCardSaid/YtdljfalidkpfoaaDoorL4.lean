/- A part of the proof: laws of the logic and of the data, no program in sight.
Conditions: none beyond each theorem's own. -/
import Derived.Test.YtdljfalidkpfoaaDoorL3
import Derived.LaidMore
import Derived.Lib.LaidTab
/-
Two selectors made one, the program's way and the document's: the same.
Conditions: none; no program is in sight.
-/
set_option linter.unusedVariables false
set_option linter.unusedSimpArgs false
namespace Go.AL
open Go.RowKit Go.NumSpec
theorem lessK_trans {x y z : Lab} (h : lessK x y = true) (k : lessK y z = true) : lessK x z = true := bytesLess_trans h k
theorem sorted_ext : ∀ {l m : List Lab}, sortedL l → sortedL m → (∀ x, x ∈ l ↔ x ∈ m) → l = m
  | [], [], _, _, _ => rfl
  | [], y :: m, _, _, h => by have := (h y).2 List.mem_cons_self; cases this
  | x :: l, [], _, _, h => by have := (h x).1 List.mem_cons_self; cases this
  | x :: l, y :: m, hl, hm, h => by
    have hl' := List.pairwise_cons.1 hl
    have hm' := List.pairwise_cons.1 hm
    have e : x = y := by
      rcases List.mem_cons.1 ((h x).1 List.mem_cons_self) with k | k
      · exact k
      · rcases List.mem_cons.1 ((h y).2 List.mem_cons_self) with k2 | k2
        · exact k2.symm
        · exact absurd rfl (lessK_ne (lessK_trans (hm'.1 x k) (hl'.1 y k2)))
    subst e
    rw [sorted_ext hl'.2 hm'.2 fun z => ?_]
    constructor
    · intro hz
      rcases List.mem_cons.1 ((h z).1 (List.mem_cons_of_mem _ hz)) with k | k
      · subst k; exact absurd rfl (lessK_ne (hl'.1 z hz))
      · exact k
    · intro hz
      rcases List.mem_cons.1 ((h z).2 (List.mem_cons_of_mem _ hz)) with k | k
      · subst k; exact absurd rfl (lessK_ne (hm'.1 z hz))
      · exact k
theorem getL_mem {k : List UInt8} : ∀ {l : List Lab}, (getL l k).2 = true → (k, (getL l k).1) ∈ l
  | [], h => by cases h
  | x :: l, h => by
    unfold getL at h ⊢
    split
    · rename_i e; rw [← e]; exact List.mem_cons_self
    · rename_i e; rw [if_neg e] at h; exact List.mem_cons_of_mem _ (getL_mem h)
theorem getL_no {k : List UInt8} : ∀ {l : List Lab}, (getL l k).2 = false → ∀ x ∈ l, x.1 ≠ k
  | [], _, x, hx => by cases hx
  | y :: l, h, x, hx => by
    unfold getL at h
    split at h
    · cases h
    · rename_i e
      rcases List.mem_cons.1 hx with hx | hx
      · rw [hx]; exact e
      · exact getL_no h x hx
theorem ins_cons {x y : Lab} {out : List Lab} (h : lessK x y = true) : insL y (x :: out) = x :: insL y out := by simp [insL, h]
theorem ins_stop {x y : Lab} {out : List Lab} (h : ¬ lessK x y = true) : insL y (x :: out) = y :: x :: out := by simp [insL, h]
theorem ins_mem {y x : Lab} : ∀ {out : List Lab}, x ∈ insL y out ↔ x = y ∨ x ∈ out
  | [] => by simp [insL]
  | z :: out => by
    by_cases h : lessK z y = true
    · rw [ins_cons h, List.mem_cons, ins_mem (out := out), List.mem_cons]
      constructor <;> rintro (h | h | h) <;> simp [h]
    · rw [ins_stop h]; simp
theorem ins_sorted {y : Lab} : ∀ {out : List Lab}, sortedL out → (∀ x ∈ out, x.1 ≠ y.1) → sortedL (insL y out)
  | [], _, _ => by simp [insL]
  | z :: out, hs, hn => by
    have hs' := List.pairwise_cons.1 hs
    by_cases h : lessK z y = true
    · rw [ins_cons h]
      refine List.pairwise_cons.2 ⟨fun x hx => ?_, ins_sorted hs'.2 fun x hx => hn x (List.mem_cons_of_mem _ hx)⟩
      rcases ins_mem.1 hx with e | e
      · rw [e]; exact h
      · exact hs'.1 x e
    · rw [ins_stop h]
      have hy : lessK y z = true := by
        cases h2 : lessK y z with
        | true => rfl
        | false => exact absurd (neither h (by rw [h2]; simp)) (hn z List.mem_cons_self)
      refine List.pairwise_cons.2 ⟨fun x hx => ?_, hs⟩
      rcases List.mem_cons.1 hx with e | e
      · rw [e]; exact hy
      · exact lessK_trans hy (hs'.1 x e)
theorem ins_at {y : Lab} : ∀ {out : List Lab} {k : Nat}, k ≤ out.length → (∀ j (hj : j < out.length), j < k → lessK out[j] y = true) → (∀ h : k < out.length, ¬ lessK out[k] y = true) → insL y out = out.take k ++ (y :: out.drop k)
  | [], k, hk, _, _ => by 
    have : k = 0 := by simpa using hk
    subst this; rfl
  | x :: out, 0, _, _, he => by rw [ins_stop (x := x) (he (by simp))]; rfl
  | x :: out, k + 1, hk, hl, he => by
    have h0 : lessK x y = true := hl 0 (by simp) (by omega)
    rw [ins_cons h0, ins_at (k := k) (by simpa using hk) (fun j hj h => hl (j + 1) (Nat.succ_lt_succ hj) (by omega)) (fun h => he (Nat.succ_lt_succ h))]
    rfl
theorem refM_none {a : List Lab} : ∀ {b out : List Lab}, (∃ y ∈ b, (getL a y.1).2 = true ∧ (getL a y.1).1 ≠ y.2) → refM a out b = none
  | [], _, ⟨y, hy, _⟩ => by cases hy
  | z :: b, out, ⟨y, hy, hc⟩ => by
    unfold refM
    split
    · rfl
    · rename_i h
      have hy' : y ∈ b := by
        rcases List.mem_cons.1 hy with e | e
        · subst e; exact absurd hc h
        · exact e
      split
      · exact refM_none ⟨y, hy', hc⟩
      · exact refM_none ⟨y, hy', hc⟩
theorem refM_some {a : List Lab} : ∀ {b out : List Lab}, sortedL b → sortedL out → (∀ y ∈ b, (getL a y.1).2 = true → (getL a y.1).1 = y.2) → (∀ x ∈ out, ∀ y ∈ b, x.1 = y.1 → (getL a y.1).2 = true) →
    ∃ r, refM a out b = some r ∧ sortedL r ∧ ∀ x, x ∈ r ↔ x ∈ out ∨ (x ∈ b ∧ (getL a x.1).2 = false)
  | [], out, _, ho, _, _ => ⟨out, rfl, ho, fun x => by simp⟩
  | y :: b, out, hb, ho, hn, hk => by
    have hb' := List.pairwise_cons.1 hb
    have hc : ¬ ((getL a y.1).2 = true ∧ (getL a y.1).1 ≠ y.2) := fun h => h.2 (hn y List.mem_cons_self h.1)
    unfold refM
    rw [if_neg hc]
    by_cases h : (getL a y.1).2 = true
    · rw [if_pos h]
      obtain ⟨r, h1, h2, h3⟩ := refM_some (out := out) hb'.2 ho (fun z hz => hn z (List.mem_cons_of_mem _ hz)) (fun x hx z hz => hk x hx z (List.mem_cons_of_mem _ hz))
      refine ⟨r, h1, h2, fun x => ?_⟩
      rw [h3, List.mem_cons]
      constructor
      · rintro (k | ⟨k1, k2⟩)
        · exact .inl k
        · exact .inr ⟨.inr k1, k2⟩
      · rintro (k | ⟨k1 | k1, k2⟩)
        · exact .inl k
        · subst k1; rw [h] at k2; cases k2
        · exact .inr ⟨k1, k2⟩
    · rw [if_neg h]
      have hf : (getL a y.1).2 = false := by simpa using h
      obtain ⟨r, h1, h2, h3⟩ := refM_some (out := insL y out) hb'.2 (ins_sorted ho fun x hx e => by rw [hk x hx y List.mem_cons_self e] at hf; cases hf) (fun z hz => hn z (List.mem_cons_of_mem _ hz)) (fun x hx z hz e => by
        rcases ins_mem.1 hx with k | k
        · subst k; exact absurd e (lessK_ne (hb'.1 z hz))
        · exact hk x k z (List.mem_cons_of_mem _ hz) e)
      refine ⟨r, h1, h2, fun x => ?_⟩
      rw [h3, ins_mem, List.mem_cons]
      constructor
      · rintro ((k | k) | ⟨k1, k2⟩)
        · subst k; exact .inr ⟨.inl rfl, hf⟩
        · exact .inl k
        · exact .inr ⟨.inr k1, k2⟩
      · rintro (k | ⟨k1 | k1, k2⟩)
        · exact .inl (.inr k)
        · exact .inl (.inl k1)
        · exact .inr ⟨k1, k2⟩
theorem merge_sorted : ∀ (a b m : List Lab), sortedL a → sortedL b → mergeL a b = some m → sortedL m
  | [], b, m, _, hb, h => by simp [mergeL] at h; subst h; exact hb
  | y :: a, [], m, ha, _, h => by simp [mergeL] at h; subst h; exact ha
  | y :: a, z :: b, m, ha, hb, h => by
    have ha' := List.pairwise_cons.1 ha
    have hb' := List.pairwise_cons.1 hb
    rw [mergeL] at h
    split at h
    · rename_i h0
      cases hm : mergeL a (z :: b) with
      | none => rw [hm] at h; cases h
      | some m' =>
        rw [hm] at h; cases h
        refine List.pairwise_cons.2 ⟨fun x hx => ?_, merge_sorted a (z :: b) m' ha'.2 hb hm⟩
        rcases (merge_mem _ _ _ hm x).1 hx with k | k
        · exact ha'.1 x k
        · rcases List.mem_cons.1 k with k | k
          · rw [k]; exact h0
          · exact lessK_trans h0 (hb'.1 x k)
    · split at h
      · rename_i h0 h1
        cases hm : mergeL (y :: a) b with
        | none => rw [hm] at h; cases h
        | some m' =>
          rw [hm] at h; cases h
          refine List.pairwise_cons.2 ⟨fun x hx => ?_, merge_sorted (y :: a) b m' ha hb'.2 hm⟩
          rcases (merge_mem _ _ _ hm x).1 hx with k | k
          · rcases List.mem_cons.1 k with k | k
            · rw [k]; exact h1
            · exact lessK_trans h1 (ha'.1 x k)
          · exact hb'.1 x k
      · rename_i h0 h1
        split at h
        · cases h
        · have e := neither h0 h1
          cases hm : mergeL a b with
          | none => rw [hm] at h; cases h
          | some m' =>
            rw [hm] at h; cases h
            refine List.pairwise_cons.2 ⟨fun x hx => ?_, merge_sorted a b m' ha'.2 hb'.2 hm⟩
            rcases (merge_mem _ _ _ hm x).1 hx with k | k
            · exact ha'.1 x k
            · have := hb'.1 x k
              unfold lessK at this ⊢
              rw [e]; exact this
  termination_by a b => a.length + b.length
theorem refM_eq {a b : List Lab} (ha : sortedL a) (hb : sortedL b) : refM a a b = mergeL a b := by
  by_cases hc : ∃ y ∈ b, (getL a y.1).2 = true ∧ (getL a y.1).1 ≠ y.2
  · rw [refM_none hc]
    obtain ⟨y, hy, h1, h2⟩ := hc
    cases hm : mergeL a b with
    | none => rfl
    | some m =>
      have hs := merge_sorted a b m ha hb hm
      have h3 := (merge_mem a b m hm _).2 (.inl (getL_mem h1))
      have h4 := (merge_mem a b m hm y).2 (.inr hy)
      have := keys_one hs h3 h4 rfl
      exact absurd (congrArg Prod.snd this) h2
  · have hn : ∀ y ∈ b, (getL a y.1).2 = true → (getL a y.1).1 = y.2 := fun y hy h => Classical.byContradiction fun k => hc ⟨y, hy, h, k⟩
    have hg : ∀ x ∈ a, ∀ k, x.1 = k → (getL a k).2 = true := fun x hx k e => by
      cases h : (getL a k).2 with
      | true => rfl
      | false => exact absurd e (getL_no h x hx)
    obtain ⟨r, h1, h2, h3⟩ := refM_some hb ha hn (fun x hx y hy e => hg x hx _ e)
    rw [h1]
    cases hm : mergeL a b with
    | none =>
      obtain ⟨x, hx, y, hy, e1, e2⟩ := merge_clash a b hm
      have h4 := hg x hx _ e1
      have h5 := keys_one ha hx (getL_mem h4) e1
      exact absurd (by rw [h5]; exact hn y hy h4) e2
    | some m =>
      congr 1
      refine sorted_ext h2 (merge_sorted a b m ha hb hm) fun x => ?_
      rw [h3, merge_mem a b m hm x]
      constructor
      · rintro (k | k)
        · exact .inl k
        · exact .inr k.1
      · rintro (k | k)
        · exact .inl k
        · cases h : (getL a x.1).2 with
          | false => exact .inr ⟨k, rfl⟩
          | true =>
            have h6 := getL_mem h
            rw [hn x k h] at h6
            exact .inl h6
section
variable {a b out : List Lab} {i : Nat}
theorem refM_clash (hi : i < b.length) (h : (getL a (b[i]'hi).1).2 = true ∧ (getL a (b[i]'hi).1).1 ≠ (b[i]'hi).2) : refM a out (b.drop i) = none := by
  rw [List.drop_eq_getElem_cons hi, refM, if_pos h]
theorem refM_same (hi : i < b.length) (h : ¬ ((getL a (b[i]'hi).1).2 = true ∧ (getL a (b[i]'hi).1).1 ≠ (b[i]'hi).2)) (h2 : (getL a (b[i]'hi).1).2 = true) : refM a out (b.drop i) = refM a out (b.drop (i + 1)) := by
  rw [List.drop_eq_getElem_cons hi, refM, if_neg h, if_pos h2]
theorem refM_new (hi : i < b.length) (h : ¬ ((getL a (b[i]'hi).1).2 = true ∧ (getL a (b[i]'hi).1).1 ≠ (b[i]'hi).2)) (h2 : ¬ (getL a (b[i]'hi).1).2 = true) : refM a out (b.drop i) = refM a (insL (b[i]'hi) out) (b.drop (i + 1)) := by
  rw [List.drop_eq_getElem_cons hi, refM, if_neg h, if_neg h2]
theorem refM_end (hi : b.length ≤ i) : refM a out (b.drop i) = some out := by
  rw [List.drop_eq_nil_of_le hi, refM]
end
theorem ins_len (y : Lab) (out : List Lab) : (insL y out).length = out.length + 1 := by
  have := List.takeWhile_append_dropWhile (p := fun x => lessK x y) (l := out)
  have h := congrArg List.length this
  simp only [insL, List.length_append, List.length_cons] at h ⊢
  omega
end Go.AL

/-
What is known of specs, containers and labels that came in: their numbers fit.
Conditions: none; no program is in sight.
-/
set_option linter.unusedVariables false
set_option linter.unusedSimpArgs false
namespace Go.AL
open Go.RowKit Go.NumSpec
def okLab (x : Lab) : Prop := x.1.length ≤ 9223372036854775807 ∧ x.2.length ≤ 9223372036854775807
def okCtr (c : Ctr) : Prop := fits3 c.req ∧ fits3 c.lim ∧ (∀ p ∈ c.ports, fits p) ∧ fits c.probe.1 ∧ fits c.probe.2
def okSpc (s : Spc) : Prop := (∀ c ∈ s.init, okCtr c) ∧ (∀ c ∈ s.main, okCtr c) ∧ fits s.restart ∧ fits s.grace ∧ fits s.prio
end Go.AL

/-
What a row's list of laid variables says of one table of integers, wherever it stands in the list.
Conditions: none; no program is in sight.
-/
set_option linter.unusedVariables false
namespace Go.AL
theorem tabIs_of_mem {P : Program} {W : World} {name : String} {k : IntKind} {zs : List Int} {g : Nat} {t e : TypeId} {n : Nat}
    (hg : P.globalNamed name = some g) (hty : (P.globals[g]?).map (·.type) = some t) (ht : P.underlying t = some (.array n e)) (he : P.underlying e = some (.int k)) (hce : P.cellsOf e = 1) (hct : P.cellsOf t = n) :
    ∀ {l : List (String × DataW Unit)} {ps : List MemPlace}, (name, Lib.tabData k zs) ∈ l → DataW.LaidVars P W l ps → Lib.TabIs P W name k zs
  | [], _, hm, _ => nomatch hm
  | (m, d) :: r, _, hm, h => by
    obtain ⟨g', t', cs, fuel, p, q, hg', ht', hvar, hd, hr, _⟩ := h
    rcases List.mem_cons.1 hm with hm | hm
    · cases hm
      obtain rfl := Option.some.inj (hg.symm.trans hg')
      obtain rfl := Option.some.inj (hty.symm.trans ht')
      unfold Lib.TabIs
      rw [hvar, ← Lib.cells_of_tab ht he hce hct hd]
    · exact tabIs_of_mem hg hty ht he hce hct hm hr
theorem tabIs_of_laid {P : Program} {W : World} {name : String} {k : IntKind} {zs : List Int} {g : Nat} {t e : TypeId} {n : Nat}
    (hg : P.globalNamed name = some g) (hty : (P.globals[g]?).map (·.type) = some t) (ht : P.underlying t = some (.array n e)) (he : P.underlying e = some (.int k)) (hce : P.cellsOf e = 1) (hct : P.cellsOf t = n)
    {l : List (String × DataW Unit)} (hm : (name, Lib.tabData k zs) ∈ l) (h : laidMet P l W) : Lib.TabIs P W name k zs := by
  obtain ⟨ps, h1, _⟩ := h
  exact tabIs_of_mem hg hty ht he hce hct hm h1
end Go.AL

/-
Pods: which a selector picks.
Conditions: none; no program is in sight.
-/
set_option linter.unusedVariables false
set_option linter.unusedSimpArgs false
namespace Go.AL
open Go.RowKit Go.NumSpec
structure Pod where
  id : Int
  ver : Nat
  spec : Spc
  node : Int
  ports : List Int
  x : Int
  y : Int
def podL (p : Pod) : List AV := .int .i64 p.id :: .int .u64 (p.ver : Int) :: (spcL p.spec ++ [.int .i64 p.node, .sl (intsV p.ports), .int .i64 p.x, .int .i64 p.y])
def podAV (p : Pod) : AV := .agg (podL p)
abbrev podsV (l : List Pod) : List AV := l.map podAV
def lightP (p : Pod) : Prop := lightS p.spec = true ∧ p.ports.length ≤ 20
def dS : Spc := ⟨[], [], [], [], 0, 0, 0⟩
def dP : Pod := ⟨0, 0, dS, 0, [], 0, 0⟩
def pick (a : List Lab) (p : Pod) : Bool := coversL a p.spec.labels
theorem lightP_short {p : Pod} (h : lightP p) : shortS p.spec ∧ p.ports.length ≤ 1000000 := ⟨light_short h.1, by have := h.2; omega⟩
theorem lightP_labels {p : Pod} (h : lightP p) : p.spec.labels.length ≤ 1000000 := (light_short h.1).1
theorem pick_zero (a : List Lab) (l : List Pod) : (l.take 0).filter (pick a) = [] := by simp
theorem pick_yes {a : List Lab} {l : List Pod} {i : Nat} (h : i < l.length) (hp : coversL a (l[i]'h).spec.labels = true) : (l.take (i + 1)).filter (pick a) = (l.take i).filter (pick a) ++ [l[i]'h] := by
  rw [List.take_succ_eq_append_getElem h, List.filter_append]
  have : pick a l[i] = true := hp
  simp [this]
theorem pick_no {a : List Lab} {l : List Pod} {i : Nat} (h : i < l.length) (hp : ¬ coversL a (l[i]'h).spec.labels = true) : (l.take (i + 1)).filter (pick a) = (l.take i).filter (pick a) := by
  rw [List.take_succ_eq_append_getElem h, List.filter_append]
  have h9 : coversL a (l[i]'h).spec.labels = false := by simpa using hp
  have : pick a l[i] = false := h9
  simp [this]
theorem pick_all {a : List Lab} {l : List Pod} {i : Nat} (h : ¬ i < l.length) : (l.take i).filter (pick a) = l.filter (pick a) := by rw [List.take_of_length_le (by omega)]
theorem pick_len (a : List Lab) (l : List Pod) (i : Nat) : ((l.take i).filter (pick a)).length ≤ l.length := by
  have h1 := List.length_filter_le (pick a) (l.take i)
  rw [List.length_take] at h1
  omega
theorem pods_picked {a : List Lab} {l : List Pod} (h : ∀ p ∈ l, lightP p) : ∀ p ∈ l.filter (pick a), lightP p := fun p hp => h p (List.mem_filter.1 hp).1
end Go.AL
