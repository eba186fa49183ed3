/- A part of the proof: laws of the logic and of the data, no program in sight.
Conditions: none beyond each theorem's own. -/
import Derived.Test.YtfpkefhjomeeeaaGreatDoorL2
import Derived.Lib.Join
import Derived.Laws.MakeOwn
import Derived.Lib.Bytealg
import Derived.ArgAppend
import Derived.LaidMore
import Derived.Lib.LaidTab
import Derived.OpenShut
set_option linter.unusedVariables false
set_option linter.unusedSimpArgs false
namespace Go.AL
open Go.RowKit Go.NumSpec
def sameL {α : Type} (f : α → α → Bool) : List α → List α → Bool
  | [], [] => true
  | a :: l, b :: m => f a b && sameL f l m
  | _, _ => false
theorem sameL_len {α : Type} {f : α → α → Bool} : ∀ {l m : List α}, l.length ≠ m.length → sameL f l m = false
  | [], [], h => absurd rfl h
  | a :: l, b :: m, h => by unfold sameL; rw [sameL_len (l := l) (m := m) (fun e => h (by simp [e])), Bool.and_false]
  | [], b :: m, _ => rfl
  | a :: l, [], _ => rfl
theorem sameL_bad {α : Type} {f : α → α → Bool} : ∀ {l m : List α} {i : Nat} (h : i < l.length) (h' : i < m.length), f l[i] m[i] = false → sameL f l m = false
  | a :: l, b :: m, 0, _, _, h => by simp only [List.getElem_cons_zero] at h; unfold sameL; rw [h, Bool.false_and]
  | a :: l, b :: m, i + 1, h1, h2, h => by unfold sameL; rw [sameL_bad (l := l) (m := m) (i := i) (by simpa using h1) (by simpa using h2) (by simpa using h), Bool.and_false]
theorem sameL_all {α : Type} {f : α → α → Bool} : ∀ {l m : List α}, l.length = m.length → (∀ i (h : i < l.length) (h' : i < m.length), f l[i] m[i] = true) → sameL f l m = true
  | [], [], _, _ => rfl
  | a :: l, b :: m, hl, h => by
    unfold sameL
    rw [show f a b = true from h 0 (by simp) (by simp), sameL_all (l := l) (m := m) (by simpa using hl) fun i h1 h2 => h (i + 1) (Nat.succ_lt_succ h1) (Nat.succ_lt_succ h2), Bool.and_true]
theorem sameL_eq {α : Type} [DecidableEq α] {l m : List α} : sameL (fun a b => decide (a = b)) l m = decide (l = m) := by
  induction l generalizing m with
  | nil => cases m <;> simp [sameL]
  | cons a l ih => cases m <;> simp [sameL, ih]
theorem sameL_iff {α : Type} {f : α → α → Bool} (hf : ∀ a b, f a b = true ↔ a = b) : ∀ {l m : List α}, sameL f l m = true ↔ l = m
  | [], [] => by simp [sameL]
  | a :: l, b :: m => by simp [sameL, hf, sameL_iff hf (l := l) (m := m)]
  | [], b :: m => by simp [sameL]
  | a :: l, [] => by simp [sameL]
def alikeC (a b : Ctr) : Bool := decide (a.name = b.name) && (decide (a.req = b.req) && (decide (a.lim = b.lim) && (decide (a.ports = b.ports) && decide (a.probe = b.probe))))
def exactC (a b : Ctr) : Bool := alikeC a b && decide (a.image = b.image)
theorem exactC_iff {a b : Ctr} : exactC a b = true ↔ a = b := by
  cases a; cases b
  simp only [exactC, alikeC, Bool.and_eq_true, decide_eq_true_eq, Ctr.mk.injEq]
  constructor
  · rintro ⟨⟨h1, h2, h3, h4, h5⟩, h6⟩; exact ⟨h1, h6, h2, h3, h4, h5⟩
  · rintro ⟨h1, h2, h3, h4, h5, h6⟩; exact ⟨⟨h1, h3, h4, h5, h6⟩, h2⟩
theorem res_eqB {a b : Tri} : (decide (a.1 = b.1) && (decide (a.2.1 = b.2.1) && (decide (a.2.2 = b.2.2) && true))) = decide (a = b) := by
  rw [Bool.eq_iff_iff]; simp only [Bool.and_eq_true, decide_eq_true_eq, and_true]
  exact ⟨fun ⟨h1, h2, h3⟩ => Prod.ext h1 (Prod.ext h2 h3), fun h => by subst h; exact ⟨rfl, rfl, rfl⟩⟩
theorem probe_eqB {a b : Int × Int} : (decide (a.1 = b.1) && (decide (a.2 = b.2) && true)) = decide (a = b) := by
  rw [Bool.eq_iff_iff]; simp only [Bool.and_eq_true, decide_eq_true_eq, and_true]
  exact ⟨fun ⟨h1, h2⟩ => Prod.ext h1 h2, fun h => by subst h; exact ⟨rfl, rfl⟩⟩
theorem lab_eqB {a b : Lab} : (decide (a.1 = b.1) && (decide (a.2 = b.2) && true)) = decide (a = b) := by
  rw [Bool.eq_iff_iff]; simp only [Bool.and_eq_true, decide_eq_true_eq, and_true]
  exact ⟨fun ⟨h1, h2⟩ => Prod.ext h1 h2, fun h => by subst h; exact ⟨rfl, rfl⟩⟩
theorem flat_snoc {α β : Type} {f : α → List β} {l : List α} {i : Nat} (h : i < l.length) : (l.take i).flatMap f ++ f l[i] = (l.take (i + 1)).flatMap f := by
  rw [List.take_succ_eq_append_getElem h, List.flatMap_append, List.flatMap_singleton]
/-! the chapter's example -/
end Go.AL

namespace Go.AL
open Go.RowKit Go.NumSpec
theorem nameE_out {ns : List (List UInt8)} {s : List UInt8} (h : nameE ns s = none) : erNew (saysV (nameV s) 30) [[110, 97, 109, 101]] = none ∧ s ∉ ns := by
  unfold nameE at h
  split at h
  · cases h
  · rename_i hk
    exact ⟨h, fun hm => hk ⟨by rw [h]; rfl, hm⟩⟩
theorem nameE_in {ns : List (List UInt8)} {s : List UInt8} (h : erNew (saysV (nameV s) 30) [[110, 97, 109, 101]] = none) (h' : s ∉ ns) : nameE ns s = none := by
  unfold nameE; rw [if_neg fun hk => h' hk.2]; exact h
theorem portAt_out {ps l : List Int} {i : Nat} (h : portAt ps l i = none) : withinE (atT portsN (i : Int)) (l.getD i 0) 1 65535 = none ∧ l.getD i 0 ∉ ps ++ l.take i := by
  unfold portAt at h
  split at h
  · cases h
  · rename_i hk
    exact ⟨h, fun hm => hk ⟨by rw [h]; rfl, hm⟩⟩
theorem portAt_in {ps l : List Int} {i : Nat} (h : withinE (atT portsN (i : Int)) (l.getD i 0) 1 65535 = none) (h' : l.getD i 0 ∉ ps ++ l.take i) : portAt ps l i = none := by
  unfold portAt; rw [if_neg fun hk => h' hk.2]; exact h
theorem portE_out {ps l : List Int} {n : Int} (h : portE ps l n = none) : atMostE portsN (l.length : Int) 0 n = none ∧ ∀ j, j < l.length → portAt ps l j = none := by
  cases ha : atMostE portsN (l.length : Int) 0 n with
  | some x => rw [portE_bad (by rw [ha]; simp), ha] at h; cases h
  | none => rw [portE_good ha] at h; exact ⟨rfl, eachE_none h⟩
theorem portE_in {ps l : List Int} {n : Int} (ha : atMostE portsN (l.length : Int) 0 n = none) (h : ∀ j, j < l.length → portAt ps l j = none) : portE ps l n = none := by rw [portE_good ha, eachE_all h]
theorem light_out {s : Spc} (h : lightS s = true) : (s.name.length ≤ 100 ∧ s.labels.length ≤ 10 ∧ s.init.length ≤ 8 ∧ s.main.length ≤ 8) ∧ (∀ x ∈ s.labels, lightL x = true) ∧ (∀ c ∈ s.init, lightC c = true) ∧ ∀ c ∈ s.main, lightC c = true := by
  unfold lightS at h
  simp only [Bool.and_eq_true, decide_eq_true_eq, List.all_eq_true] at h
  exact ⟨h.1.1, h.1.2, h.2⟩
end Go.AL

namespace Go.AL
open Go.RowKit Go.NumSpec
def erText (e : Er) : List UInt8 := Lib.join (erPath e) [46]
theorem join_two (a b : List UInt8) : Lib.join [a, b] [46] = a ++ [46] ++ b := by
  rw [Lib.join_cons]; simp [Lib.joinTail]
theorem join_more (a : List UInt8) {l : List (List UInt8)} (h : l ≠ []) : Lib.join (a :: l) [46] = a ++ [46] ++ Lib.join l [46] := by
  cases l with
  | nil => exact absurd rfl h
  | cons b l => rw [Lib.join_cons, Lib.join_cons]; simp [Lib.joinTail]
/-- An error with a code and a path. -/
def WellE (e : Er) : Prop := ∀ c ps, e = some (c, ps) → c ≠ 0 ∧ ps ≠ []
theorem well_none : WellE none := fun c ps h => by cases h
theorem well_some {c : Int} {ps : List (List UInt8)} (h : c ≠ 0) (h' : ps ≠ []) : WellE (some (c, ps)) := fun d qs e => by cases e; exact ⟨h, h'⟩
theorem well_new {c : Int} {ps : List (List UInt8)} (h' : ps ≠ []) : WellE (erNew c ps) := by
  unfold erNew; split
  · exact well_none
  · rename_i h; exact well_some h h'
theorem well_in {e : Er} (h : WellE e) (p : List UInt8) : WellE (erIn e p) := by
  cases e with
  | none => exact well_none
  | some x => obtain ⟨c, ps⟩ := x; exact well_some (h c ps rfl).1 (by simp)
theorem well_first : ∀ {es : List Er}, (∀ e ∈ es, WellE e) → WellE (firstE es)
  | [], _ => well_none
  | none :: es, h => well_first (es := es) fun e he => h e (List.mem_cons_of_mem _ he)
  | some x :: es, h => h (some x) List.mem_cons_self
theorem well_each {n : Nat} {f : Nat → Er} (h : ∀ i, i < n → WellE (f i)) : WellE (eachE n f) := well_first fun e he => by
  obtain ⟨i, hi, rfl⟩ := List.mem_map.1 he
  exact h i (List.mem_range.1 hi)
theorem well_within (name : List UInt8) (n lo hi : Int) : WellE (withinE name n lo hi) := by
  unfold withinE; split
  · exact well_some (by decide) (by simp)
  · exact well_none
theorem well_atMost (name : List UInt8) (n lo hi : Int) : WellE (atMostE name n lo hi) := by
  unfold atMostE; split
  · exact well_some (by decide) (by simp)
  · exact well_none
theorem well_most (name : List UInt8) (n lo : Int) : WellE (mostE name n lo) := by
  unfold mostE; split
  · exact well_none
  · exact well_within _ _ _ _
theorem well_key (l : List Lab) (i : Nat) : WellE (keyE l i) := by
  unfold keyE; split
  · exact well_some (by decide) (by simp)
  · exact well_new (by simp)
theorem well_label (name : List UInt8) (l : List Lab) (i : Nat) : WellE (labelE name l i) := well_in (well_first (by
  intro e he; simp only [List.mem_cons, List.not_mem_nil, or_false] at he
  rcases he with rfl | rfl
  · exact well_key _ _
  · exact well_new (by simp))) _
theorem well_labels (name : List UInt8) (l : List Lab) : WellE (labelsE name l) := by
  cases ha : atMostE name (l.length : Int) 0 4 with
  | some x => rw [labelsE_bad (by rw [ha]; simp)]; exact well_atMost _ _ _ _
  | none => rw [labelsE_good ha]; exact well_each fun i _ => well_label _ _ _
theorem well_name (ns : List (List UInt8)) (s : List UInt8) : WellE (nameE ns s) := by
  unfold nameE; split
  · exact well_some (by decide) (by simp)
  · exact well_new (by simp)
theorem well_req (r : Tri) : WellE (reqE r) := well_in (well_first (by
  intro e he; simp only [List.mem_cons, List.not_mem_nil, or_false] at he
  rcases he with rfl | rfl | rfl <;> exact well_within _ _ _ _)) _
theorem well_lim (l r : Tri) : WellE (limE l r) := well_in (well_first (by
  intro e he; simp only [List.mem_cons, List.not_mem_nil, or_false] at he
  rcases he with rfl | rfl | rfl <;> exact well_most _ _ _)) _
theorem well_probe (p : Int × Int) (every : Int) : WellE (probeE p every) := well_in (well_first (by
  intro e he; simp only [List.mem_cons, List.not_mem_nil, or_false] at he
  rcases he with rfl | rfl <;> exact well_within _ _ _ _)) _
theorem well_portAt (ps l : List Int) (i : Nat) : WellE (portAt ps l i) := by
  unfold portAt; split
  · exact well_some (by decide) (by simp)
  · exact well_within _ _ _ _
theorem well_port (ps l : List Int) (n : Int) : WellE (portE ps l n) := by
  cases ha : atMostE portsN (l.length : Int) 0 n with
  | some x => rw [portE_bad (by rw [ha]; simp)]; exact well_atMost _ _ _ _
  | none => rw [portE_good ha]; exact well_each fun i _ => well_portAt _ _ _
theorem well_ctr (ns : List (List UInt8)) (ps : List Int) (c : Ctr) (a b : Int) : WellE (ctrE ns ps c a b) := well_first (by
  intro e he; simp only [List.mem_cons, List.not_mem_nil, or_false] at he
  rcases he with rfl | rfl | rfl | rfl | rfl | rfl
  · exact well_name _ _
  · exact well_new (by simp)
  · exact well_req _
  · exact well_lim _ _
  · exact well_port _ _ _
  · exact well_probe _ _)
theorem well_ctrs (name : List UInt8) (ns : List (List UInt8)) (ps : List Int) (l : List Ctr) (a b : Int) : WellE (ctrsE name ns ps l a b) := well_each fun i hi => by
  rw [ctrAt_at hi]; exact well_in (well_ctr _ _ _ _ _) _
theorem well_check (s : Spc) : WellE (checkE s) := by
  unfold checkE
  split
  · rename_i x h; rw [← h]
    refine well_first fun e he => ?_
    simp only [List.mem_cons, List.not_mem_nil, or_false] at he
    rcases he with rfl | rfl | rfl
    · exact well_new (by simp)
    · exact well_labels _ _
    · exact well_atMost _ _ _ _
  · split
    · rename_i x h; rw [← h]
      refine well_first fun e he => ?_
      simp only [List.mem_cons, List.not_mem_nil, or_false] at he
      rcases he with rfl | rfl
      · exact well_ctrs _ _ _ _ _ _
      · exact well_atMost _ _ _ _
    · refine well_first fun e he => ?_
      simp only [List.mem_cons, List.not_mem_nil, or_false] at he
      rcases he with rfl | rfl | rfl | rfl
      · exact well_ctrs _ _ _ _ _ _
      · exact well_within _ _ _ _
      · exact well_within _ _ _ _
      · exact well_within _ _ _ _
theorem WellE.code {e : Er} (h : WellE e) : erCode e = 0 ↔ e = none := by
  cases e with
  | none => simp [erCode]
  | some x => obtain ⟨c, ps⟩ := x; simp [erCode, (h c ps rfl).1]
theorem WellE.isNone {e : Er} (h : WellE e) : e.isNone = decide (erCode e = 0) := by
  cases e with
  | none => simp [erCode]
  | some x => obtain ⟨c, ps⟩ := x; simp [erCode, (h c ps rfl).1]
theorem WellE.text_in {e : Er} (h : WellE e) (p : List UInt8) (hn : e ≠ none) : erText (erIn e p) = p ++ [46] ++ erText e := by
  cases e with
  | none => exact absurd rfl hn
  | some x => obtain ⟨c, ps⟩ := x; exact join_more p (h c ps rfl).2
/-! numbers -/
def badN (n lo : Int) (free : Bool) : Bool := (!free || !decide (n = 0)) && (decide (n < lo) || decide (1099511627776 < n))
def numsI (n lo : Tri) (free : Bool) : Int := if badN n.1 lo.1 free = true then 0 else if badN n.2.1 lo.2.1 free = true then 1 else if badN n.2.2 lo.2.2 free = true then 2 else -1
abbrev numN : List (List UInt8) := [[99, 112, 117], [109, 101, 109], [112, 105, 100, 115]]
theorem numsI_range (n lo : Tri) (free : Bool) : -1 ≤ numsI n lo free ∧ numsI n lo free < 3 := by
  unfold numsI
  cases badN n.1 lo.1 free <;> cases badN n.2.1 lo.2.1 free <;> cases badN n.2.2 lo.2.2 free <;> decide
theorem nums_at {n lo : Tri} {free : Bool} {k : Nat} (h : k < 3) (hb : badN (at3 n k) (at3 lo k) free = true) (hn : ∀ j, j < k → badN (at3 n j) (at3 lo j) free = false) : numsI n lo free = (k : Int) := by
  unfold numsI
  match k, h with
  | 0, _ => rw [show badN n.1 lo.1 free = true from hb]; rfl
  | 1, _ => rw [show badN n.1 lo.1 free = false from hn 0 (by decide), show badN n.2.1 lo.2.1 free = true from hb]; rfl
  | 2, _ => rw [show badN n.1 lo.1 free = false from hn 0 (by decide), show badN n.2.1 lo.2.1 free = false from hn 1 (by decide), show badN n.2.2 lo.2.2 free = true from hb]; rfl
theorem nums_none {n lo : Tri} {free : Bool} (hn : ∀ j, j < 3 → badN (at3 n j) (at3 lo j) free = false) : numsI n lo free = -1 := by
  unfold numsI
  rw [show badN n.1 lo.1 free = false from hn 0 (by decide), show badN n.2.1 lo.2.1 free = false from hn 1 (by decide), show badN n.2.2 lo.2.2 free = false from hn 2 (by decide)]; rfl
theorem within_bad (name : List UInt8) (n lo : Int) : withinE name n lo 1099511627776 = if badN n lo false = true then some (1, [name]) else none := by
  unfold withinE badN
  by_cases h : n < lo ∨ 1099511627776 < n
  · rw [if_pos h, if_pos (by simpa using h)]
  · rw [if_neg h, if_neg (by simpa using h)]
theorem most_bad (name : List UInt8) (n lo : Int) : mostE name n lo = if badN n lo true = true then some (1, [name]) else none := by
  unfold mostE
  by_cases h0 : n = 0
  · rw [if_pos h0, if_neg (by simp [badN, h0])]
  · rw [if_neg h0, within_bad]
    simp [badN, h0]
theorem first3 (a b c : Bool) (p : List UInt8) : erIn (firstE [if a = true then some (1, [[99, 112, 117]]) else none, if b = true then some (1, [[109, 101, 109]]) else none, if c = true then some (1, [[112, 105, 100, 115]]) else none]) p =
    if a = true then some (1, [p, [99, 112, 117]]) else if b = true then some (1, [p, [109, 101, 109]]) else if c = true then some (1, [p, [112, 105, 100, 115]]) else none := by
  cases a <;> cases b <;> cases c <;> rfl
theorem req_nums (r : Tri) : reqE r = if 0 ≤ numsI r (0, 0, 0) false then some (1, [[114, 101, 113], numN.getD (numsI r (0, 0, 0) false).toNat []]) else none := by
  unfold reqE
  rw [within_bad, within_bad, within_bad, first3]
  unfold numsI
  cases badN r.1 (0, 0, 0).1 false <;> cases badN r.2.1 (0, 0, 0).2.1 false <;> cases badN r.2.2 (0, 0, 0).2.2 false <;> rfl
theorem lim_nums (l r : Tri) : limE l r = if 0 ≤ numsI l r true then some (1, [[108, 105, 109], numN.getD (numsI l r true).toNat []]) else none := by
  unfold limE
  rw [most_bad, most_bad, most_bad, first3]
  unfold numsI
  cases badN l.1 r.1 true <;> cases badN l.2.1 r.2.1 true <;> cases badN l.2.2 r.2.2 true <;> rfl

/-! one container -/
section
variable {ns : List (List UInt8)} {ps : List Int} {c : Ctr} {a b : Int} {x : Int × List (List UInt8)}
abbrev imgE (c : Ctr) : Er := erNew (saysV (tparts c.image).2.2 33) [[105, 109, 97, 103, 101]]
theorem one_1 (h : nameE ns c.name = some x) : ctrE ns ps c a b = some x := by unfold ctrE; rw [h]; rfl
theorem one_2 (h1 : nameE ns c.name = none) (h : imgE c = some x) : ctrE ns ps c a b = some x := by unfold ctrE; rw [h1]; show firstE [imgE c, _, _, _, _] = _; rw [h]; rfl
theorem one_3 (h1 : nameE ns c.name = none) (h2 : imgE c = none) (h : reqE c.req = some x) : ctrE ns ps c a b = some x := by unfold ctrE; rw [h1]; show firstE [imgE c, _, _, _, _] = _; rw [h2, h]; rfl
theorem one_4 (h1 : nameE ns c.name = none) (h2 : imgE c = none) (h3 : reqE c.req = none) (h : limE c.lim c.req = some x) : ctrE ns ps c a b = some x := by unfold ctrE; rw [h1]; show firstE [imgE c, _, _, _, _] = _; rw [h2, h3, h]; rfl
theorem one_5 (h1 : nameE ns c.name = none) (h2 : imgE c = none) (h3 : reqE c.req = none) (h4 : limE c.lim c.req = none) (h : portE ps c.ports a = some x) : ctrE ns ps c a b = some x := by unfold ctrE; rw [h1]; show firstE [imgE c, _, _, _, _] = _; rw [h2, h3, h4, h]; rfl
theorem one_6 (h1 : nameE ns c.name = none) (h2 : imgE c = none) (h3 : reqE c.req = none) (h4 : limE c.lim c.req = none) (h5 : portE ps c.ports a = none) : ctrE ns ps c a b = probeE c.probe b := by unfold ctrE; rw [h1]; show firstE [imgE c, _, _, _, _] = _; rw [h2, h3, h4, h5]; show firstE [probeE c.probe b] = _; cases probeE c.probe b <;> rfl
theorem nameE_bad (h : nameV c.name = false) : nameE ns c.name = some (30, [nameN]) := by
  unfold nameE; rw [if_neg (by rw [h]; simp [saysV, erNew]), h]; rfl
theorem nameE_there (h : nameV c.name = true) (h' : c.name ∈ ns) : nameE ns c.name = some (7, [nameN]) := by
  unfold nameE; rw [if_pos ⟨by rw [h]; rfl, h'⟩]
theorem nameE_ok (h : nameV c.name = true) (h' : c.name ∉ ns) : nameE ns c.name = none := nameE_in (by rw [h]; rfl) h'
theorem probe_every {p : Int × Int} {every : Int} (h : p.1 < 0 ∨ every < p.1) : probeE p every = some (1, [[112, 114, 111, 98, 101], [101, 118, 101, 114, 121]]) := by
  unfold probeE; rw [show withinE [101, 118, 101, 114, 121] p.1 0 every = some (1, [[101, 118, 101, 114, 121]]) by unfold withinE; rw [if_pos h]]; rfl
theorem probe_rest {p : Int × Int} {every : Int} (h : ¬ (p.1 < 0 ∨ every < p.1)) : probeE p every = if (p.1 = 0 ∧ p.2 ≠ 0) ∨ (p.1 ≠ 0 ∧ (p.2 < 1 ∨ 10 < p.2)) then some (1, [[112, 114, 111, 98, 101], [102, 97, 105, 108, 115]]) else none := by
  unfold probeE; rw [show withinE [101, 118, 101, 114, 121] p.1 0 every = none by unfold withinE; rw [if_neg h]]
  by_cases h0 : p.1 = 0
  · simp only [h0, if_true]
    by_cases h2 : p.2 = 0
    · rw [h2, if_neg (by simp)]; rfl
    · rw [if_pos (.inl ⟨trivial, h2⟩), show withinE [102, 97, 105, 108, 115] p.2 0 0 = some (1, [[102, 97, 105, 108, 115]]) by unfold withinE; rw [if_pos (by omega)]]; rfl
  · simp only [h0, if_false]
    by_cases h2 : p.2 < 1 ∨ 10 < p.2
    · rw [if_pos (.inr ⟨h0, h2⟩), show withinE [102, 97, 105, 108, 115] p.2 1 10 = some (1, [[102, 97, 105, 108, 115]]) by unfold withinE; rw [if_pos h2]]; rfl
    · rw [if_neg (fun hh => hh.elim (fun k => k.1.elim) fun k => h2 k.2), show withinE [102, 97, 105, 108, 115] p.2 1 10 = none by unfold withinE; rw [if_neg h2]]; rfl
end
/-- A code and a path, as values. -/
abbrev cpAV (e : Er) : AV := .tup [.int .i64 (erCode e), .S (erText e)]
theorem cp_some {e : Er} {c : Int} {ps : List (List UInt8)} {t : List UInt8} (h : e = some (c, ps)) (ht : t = Lib.join ps [46]) : AV.tup [.int .i64 c, .S t] = cpAV e := by subst h; subst ht; rfl
theorem cp_none {e : Er} (h : e = none) : AV.tup [.int .i64 0, .S []] = cpAV e := by subst h; rfl
end Go.AL

namespace Go.AL
open Go.RowKit Go.NumSpec
theorem atT_len {name : List UInt8} (h : name.length ≤ 1000000) {i : Int} (hi : fits i) : (atT name i).length ≤ 1000100 := by
  have := textL_len hi
  unfold atT
  simp only [List.length_append, List.length_cons, List.length_nil]
  omega
theorem u8_lt (a b : UInt8) : a < b ↔ a.toNat < b.toNat := UInt8.lt_iff_toNat_lt
theorem bytesLess_ge : ∀ {a b : List UInt8}, Op.bytesLess b a = false → Op.bytesLess a b = true ∨ a = b
  | [], [], _ => .inr rfl
  | [], _ :: _, _ => .inl rfl
  | _ :: _, [], h => by cases h
  | x :: a, y :: b, h => by
    unfold Op.bytesLess at h ⊢
    simp only [Bool.or_eq_false_iff, decide_eq_false_iff_not, Bool.and_eq_false_iff, beq_eq_false_iff_ne, ne_eq] at h
    simp only [Bool.or_eq_true, decide_eq_true_eq, Bool.and_eq_true, beq_iff_eq, List.cons.injEq]
    obtain ⟨h1, h2⟩ := h
    rw [u8_lt] at h1
    by_cases hxy : x = y
    · subst hxy
      rcases h2 with h2 | h2
      · exact absurd rfl h2
      · rcases bytesLess_ge h2 with k | k
        · exact .inl (.inr ⟨rfl, k⟩)
        · exact .inr ⟨rfl, k⟩
    · have : x.toNat ≠ y.toNat := fun e => hxy (UInt8.toNat_inj.1 e)
      exact .inl (.inl (by rw [u8_lt]; omega))
theorem bytesLess_lt : ∀ {a b : List UInt8}, Op.bytesLess b a = true → Op.bytesLess a b = false ∧ a ≠ b
  | [], b, h => by cases b <;> simp [Op.bytesLess] at h
  | _ :: _, [], _ => ⟨rfl, by simp⟩
  | x :: a, y :: b, h => by
    unfold Op.bytesLess at h ⊢
    simp only [Bool.or_eq_true, decide_eq_true_eq, Bool.and_eq_true, beq_iff_eq] at h
    simp only [Bool.or_eq_false_iff, decide_eq_false_iff_not, Bool.and_eq_false_iff, beq_eq_false_iff_ne, ne_eq, List.cons.injEq, not_and]
    rcases h with h | ⟨h1, h2⟩
    · rw [u8_lt] at h
      refine ⟨⟨by rw [u8_lt]; omega, .inl fun e => by subst e; omega⟩, fun e => by subst e; omega⟩
    · subst h1
      obtain ⟨k1, k2⟩ := bytesLess_lt h2
      exact ⟨⟨by rw [u8_lt]; omega, .inr k1⟩, fun _ => k2⟩
section
variable {P : Program} {N : Nat} {env : Env} {st : St} {o : Oper}
theorem S_geS {t t2 : TypeId} {x y : Operand} {l m : List UInt8} (ho : o.op = .binOp .geq t x y t2) (hx : AEv env x (.S l)) (hy : AEv env y (.S m)) : PStep P N o env st (.bool (!Op.bytesLess l m)) :=
  S_bin ho hx hy rfl fun w => by simp only [binOp, Op.stringOp, toList_S]; rfl
end
section
variable {l : List Lab} {i : Nat} {name : List UInt8}
theorem getD_lab (h : i < l.length) : l.getD i ([], []) = l[i] := by rw [List.getD_eq_getElem?_getD, List.getElem?_eq_getElem h]; rfl
theorem label_ok (h : i < l.length) (h1 : namesR 2 (l[i]'h).1 = true) (h2 : ∀ h : 0 < i, Op.bytesLess (l[i - 1]'(by omega)).1 (l[i]'(by omega)).1 = true) (h3 : valV (l[i]'h).2 = true) : labelE name l i = none := by
  have hk : keyE l i = none := by
    unfold keyE
    rw [getD_lab h, if_neg]
    · rw [h1]; rfl
    · rintro ⟨_, k1, k2⟩
      rw [getD_lab (show i - 1 < l.length by omega)] at k2
      obtain ⟨q1, q2⟩ := bytesLess_lt (h2 k1)
      rw [q1] at k2
      simp at k2
      exact q2 k2
  unfold labelE
  rw [hk, getD_lab h, h3]; rfl
theorem label_key (h : i < l.length) (h1 : namesR 2 (l[i]'h).1 = false) : labelE name l i = some (31, [atT name (i : Int), [107, 101, 121]]) := by
  have hk : keyE l i = some (31, [[107, 101, 121]]) := by
    unfold keyE
    rw [getD_lab h, if_neg (by rw [h1]; rintro ⟨k, _⟩; cases k), h1]; rfl
  unfold labelE
  rw [hk]; rfl
theorem label_order (h : i < l.length) (h1 : namesR 2 (l[i]'h).1 = true) (h0 : 0 < i) (h2 : Op.bytesLess (l[i - 1]'(by omega)).1 (l[i]'h).1 = false) : labelE name l i = some (4, [atT name (i : Int), [107, 101, 121]]) := by
  have hk : keyE l i = some (4, [[107, 101, 121]]) := by
    unfold keyE
    rw [getD_lab h, getD_lab (show i - 1 < l.length by omega), if_pos]
    refine ⟨by rw [h1]; rfl, h0, ?_⟩
    rcases bytesLess_ge h2 with k | k
    · rw [k]; rfl
    · rw [k]; simp
  unfold labelE
  rw [hk]; rfl
theorem label_val (h : i < l.length) (h1 : namesR 2 (l[i]'h).1 = true) (h2 : ∀ h : 0 < i, Op.bytesLess (l[i - 1]'(by omega)).1 (l[i]'(by omega)).1 = true) (h3 : valV (l[i]'h).2 = false) : labelE name l i = some (32, [atT name (i : Int), [118, 97, 108]]) := by
  have hk : keyE l i = none := by
    unfold keyE
    rw [getD_lab h, if_neg]
    · rw [h1]; rfl
    · rintro ⟨_, k1, k2⟩
      rw [getD_lab (show i - 1 < l.length by omega)] at k2
      obtain ⟨q1, q2⟩ := bytesLess_lt (h2 k1)
      rw [q1] at k2
      simp at k2
      exact q2 k2
  unfold labelE
  rw [hk, getD_lab h, h3]; rfl
end
section
variable {ps l : List Int} {i : Nat} {n : Int}
theorem getD_port (h : i < l.length) : l.getD i 0 = l[i] := by rw [List.getD_eq_getElem?_getD, List.getElem?_eq_getElem h]; rfl
theorem portAt_ok (h : i < l.length) (h1 : 1 ≤ l[i] ∧ l[i] ≤ 65535) (h2 : l[i] ∉ ps ++ l.take i) : portAt ps l i = none :=
  portAt_in (by unfold withinE; rw [getD_port h, if_neg (by omega)]) (by rw [getD_port h]; exact h2)
theorem portAt_range (h : i < l.length) (h1 : l[i] < 1 ∨ 65535 < l[i]) : portAt ps l i = some (1, [atT portsN (i : Int)]) := by
  unfold portAt
  rw [getD_port h, show withinE (atT portsN (i : Int)) l[i] 1 65535 = some (1, [atT portsN (i : Int)]) by unfold withinE; rw [if_pos h1], if_neg (by rintro ⟨k, _⟩; cases k)]
theorem portAt_there (h : i < l.length) (h1 : 1 ≤ l[i] ∧ l[i] ≤ 65535) (h2 : l[i] ∈ ps ++ l.take i) : portAt ps l i = some (150, [atT portsN (i : Int)]) := by
  unfold portAt
  rw [getD_port h, show withinE (atT portsN (i : Int)) l[i] 1 65535 = none by unfold withinE; rw [if_neg (by omega)], if_pos ⟨rfl, h2⟩]
theorem port_many (h : n < (l.length : Int)) : portE ps l n = some (2, [portsN]) := by
  rw [portE_bad (by unfold atMostE; rw [if_pos (.inr h)]; simp)]; unfold atMostE; rw [if_pos (.inr h)]
theorem port_at (hm : atMostE portsN (l.length : Int) 0 n = none) (h : i < l.length) {x : Int × List (List UInt8)} (hx : portAt ps l i = some x) (hn : ∀ j, j < i → portAt ps l j = none) : portE ps l n = some x := by rw [portE_good hm, eachE_at h hx hn]
end
theorem num_text (a : List UInt8) {k : Nat} (h : k < numN.length) : (a ++ [46]) ++ numN[k] = a ++ [46] ++ numN.getD k [] := by
  rw [List.getD_eq_getElem?_getD, List.getElem?_eq_getElem h]; rfl
theorem num_len {k : Nat} (h : k < numN.length) : (numN[k]'h).length ≤ 4 := by
  match k, h with
  | 0, _ => exact Nat.le_of_ble_eq_true rfl
  | 1, _ => exact Nat.le_of_ble_eq_true rfl
  | 2, _ => exact Nat.le_of_ble_eq_true rfl
end Go.AL
namespace Go.AL
open Go.RowKit Go.NumSpec
theorem seen_names (a b : List Ctr) (i : Nat) : namesTo (namesTo [] a a.length) b i = (a ++ b.take i).map Ctr.name := by
  unfold namesTo; rw [List.take_length, List.map_append]; rfl
theorem seen_ports (a b : List Ctr) (i : Nat) : portsTo (portsTo [] a a.length) b i = (a ++ b.take i).flatMap Ctr.ports := by
  unfold portsTo; rw [List.take_length, List.flatMap_append]; rfl
theorem firstE_hd {x : Int × List (List UInt8)} {es : List Er} {e : Er} (h : e = some x) : firstE (e :: es) = some x := by subst h; rfl
theorem firstE_tl {es : List Er} {e : Er} (h : e = none) : firstE (e :: es) = firstE es := by subst h; rfl
theorem cp_in {e f : Er} {p t : List UInt8} (hw : WellE f) (hn : f ≠ none) (h : e = erIn f p) (ht : t = p ++ [46] ++ erText f) : AV.tup [.int .i64 (erCode f), .S t] = cpAV e := by
  subst h
  rw [ht, ← hw.text_in p hn]
  cases f with
  | none => exact absurd rfl hn
  | some x => rfl
theorem erText_len {e : Er} {n : Nat} (h : ∀ c ps, e = some (c, ps) → (Lib.join ps [46]).length ≤ n) : (erText e).length ≤ n := by
  cases e with
  | none => simp [erText, erPath, Lib.join_nil]
  | some x => obtain ⟨c, ps⟩ := x; exact h c ps rfl
end Go.AL
namespace Go.AL
open Go.RowKit Go.NumSpec
/-- A path whose text has so many bytes at most. -/
def ShortE (n : Nat) (e : Er) : Prop := ∀ c ps, e = some (c, ps) → (Lib.join ps [46]).length ≤ n
theorem short_none (n : Nat) : ShortE n none := fun c ps h => by cases h
theorem short_one {n : Nat} {c : Int} {p : List UInt8} (h : p.length ≤ n) : ShortE n (some (c, [p])) := fun d qs e => by cases e; rw [Lib.join_one]; exact h
theorem short_new {n : Nat} {c : Int} {p : List UInt8} (h : p.length ≤ n) : ShortE n (erNew c [p]) := by
  unfold erNew; split
  · exact short_none n
  · exact short_one h
theorem ShortE.mono {n m : Nat} {e : Er} (h : ShortE n e) (k : n ≤ m) : ShortE m e := fun c ps he => Nat.le_trans (h c ps he) k
theorem short_in {n : Nat} {e : Er} (h : ShortE n e) (p : List UInt8) : ShortE (p.length + 1 + n) (erIn e p) := by
  cases e with
  | none => exact short_none _
  | some x =>
    obtain ⟨c, ps⟩ := x
    intro d qs he
    cases he
    by_cases hp : ps = []
    · subst hp; rw [Lib.join_one]; omega
    · rw [join_more p hp]
      have := h c ps rfl
      simp only [List.length_append, List.length_cons, List.length_nil]
      omega
theorem short_first {n : Nat} : ∀ {es : List Er}, (∀ e ∈ es, ShortE n e) → ShortE n (firstE es)
  | [], _ => short_none n
  | none :: es, h => short_first (es := es) fun e he => h e (List.mem_cons_of_mem _ he)
  | some x :: es, h => h (some x) List.mem_cons_self
theorem short_each {n k : Nat} {f : Nat → Er} (h : ∀ i, i < k → ShortE n (f i)) : ShortE n (eachE k f) := short_first fun e he => by
  obtain ⟨i, hi, rfl⟩ := List.mem_map.1 he
  exact h i (List.mem_range.1 hi)
theorem short_within {name : List UInt8} {n : Nat} (h : name.length ≤ n) (a lo hi : Int) : ShortE n (withinE name a lo hi) := by
  unfold withinE; split
  · exact short_one h
  · exact short_none _
theorem short_atMost {name : List UInt8} {n : Nat} (h : name.length ≤ n) (a lo hi : Int) : ShortE n (atMostE name a lo hi) := by
  unfold atMostE; split
  · exact short_one h
  · exact short_none _
theorem short_most {name : List UInt8} {n : Nat} (h : name.length ≤ n) (a lo : Int) : ShortE n (mostE name a lo) := by
  unfold mostE; split
  · exact short_none _
  · exact short_within h _ _ _
theorem short_name {n : Nat} (h : 4 ≤ n) (ns : List (List UInt8)) (s : List UInt8) : ShortE n (nameE ns s) := by
  unfold nameE; split
  · exact short_one h
  · exact short_new h
theorem short_req (r : Tri) : ShortE 8 (reqE r) := short_in (p := [114, 101, 113]) (short_first (n := 4) (by
  intro e he; simp only [List.mem_cons, List.not_mem_nil, or_false] at he
  rcases he with rfl | rfl | rfl <;> exact short_within (by decide) _ _ _))
theorem short_lim (l r : Tri) : ShortE 8 (limE l r) := short_in (p := [108, 105, 109]) (short_first (n := 4) (by
  intro e he; simp only [List.mem_cons, List.not_mem_nil, or_false] at he
  rcases he with rfl | rfl | rfl <;> exact short_most (by decide) _ _))
theorem short_probe (p : Int × Int) (every : Int) : ShortE 11 (probeE p every) := short_in (p := [112, 114, 111, 98, 101]) (short_first (n := 5) (by
  intro e he; simp only [List.mem_cons, List.not_mem_nil, or_false] at he
  rcases he with rfl | rfl <;> exact short_within (by decide) _ _ _))
theorem at_short {name : List UInt8} (h : name.length ≤ 100) {i n : Nat} (hi : i < n) (hn : n ≤ 1000000) : (atT name (i : Int)).length ≤ 200 := by
  have := textL_len (a := (i : Int)) (by unfold fits; omega)
  unfold atT
  simp only [List.length_append, List.length_cons, List.length_nil]
  omega
theorem short_port {ps l : List Int} {n : Int} (hl : l.length ≤ 1000000) : ShortE 200 (portE ps l n) := by
  cases ha : atMostE portsN (l.length : Int) 0 n with
  | some x => rw [portE_bad (by rw [ha]; simp)]; exact short_atMost (by decide) _ _ _
  | none =>
    rw [portE_good ha]
    refine short_each fun i hi => ?_
    have := at_short (name := portsN) (by decide) hi hl
    unfold portAt; split
    · exact short_one this
    · exact short_within this _ _ _
theorem short_ctr {ns : List (List UInt8)} {ps : List Int} {c : Ctr} {a b : Int} (hl : c.ports.length ≤ 1000000) : ShortE 200 (ctrE ns ps c a b) := short_first (by
  intro e he; simp only [List.mem_cons, List.not_mem_nil, or_false] at he
  rcases he with rfl | rfl | rfl | rfl | rfl | rfl
  · exact short_name (by decide) _ _
  · exact short_new (by decide)
  · exact (short_req _).mono (by decide)
  · exact (short_lim _ _).mono (by decide)
  · exact short_port hl
  · exact (short_probe _ _).mono (by decide))
theorem ShortE.text {n : Nat} {e : Er} (h : ShortE n e) : (erText e).length ≤ n := erText_len h
theorem short_ctrs {name : List UInt8} {ns : List (List UInt8)} {ps : List Int} {l : List Ctr} {a b : Int} (hn : name.length ≤ 100) (hl : l.length ≤ 1000000) (hp : ∀ c ∈ l, c.ports.length ≤ 1000000) : ShortE 500 (ctrsE name ns ps l a b) := short_each fun i hi => by
  rw [ctrAt_at hi]
  have h1 := at_short (name := name) (by omega) hi hl
  exact (short_in (short_ctr (hp _ (List.getElem_mem hi))) _).mono (by omega)
theorem short_label {name : List UInt8} {l : List Lab} {i : Nat} (h : (atT name (i : Int)).length ≤ 200) : ShortE 210 (labelE name l i) := (short_in (n := 3) (short_first (by
  intro e he; simp only [List.mem_cons, List.not_mem_nil, or_false] at he
  rcases he with rfl | rfl
  · unfold keyE; split
    · exact short_one (by decide)
    · exact short_new (by decide)
  · exact short_new (by decide))) _).mono (by omega)
theorem short_labels {name : List UInt8} {l : List Lab} (hn : name.length ≤ 100) (hl : l.length ≤ 1000000) : ShortE 210 (labelsE name l) := by
  cases ha : atMostE name (l.length : Int) 0 4 with
  | some x => rw [labelsE_bad (by rw [ha]; simp)]; exact short_atMost (by omega) _ _ _
  | none => rw [labelsE_good ha]; exact short_each fun i hi => short_label (at_short hn hi hl)
theorem short_check {s : Spc} (h1 : s.labels.length ≤ 1000000) (h2 : s.init.length ≤ 1000000) (h3 : s.main.length ≤ 1000000) (h4 : ∀ c ∈ s.init, c.ports.length ≤ 1000000) (h5 : ∀ c ∈ s.main, c.ports.length ≤ 1000000) : ShortE 500 (checkE s) := by
  unfold checkE
  split
  · rename_i x h; rw [← h]
    refine short_first fun e he => ?_
    simp only [List.mem_cons, List.not_mem_nil, or_false] at he
    rcases he with rfl | rfl | rfl
    · exact short_new (by decide)
    · exact (short_labels (by decide) h1).mono (by decide)
    · exact short_atMost (by decide) _ _ _
  · split
    · rename_i x h; rw [← h]
      refine short_first fun e he => ?_
      simp only [List.mem_cons, List.not_mem_nil, or_false] at he
      rcases he with rfl | rfl
      · exact short_ctrs (by decide) h2 h4
      · exact short_atMost (by decide) _ _ _
    · refine short_first fun e he => ?_
      simp only [List.mem_cons, List.not_mem_nil, or_false] at he
      rcases he with rfl | rfl | rfl | rfl
      · exact short_ctrs (by decide) h3 h5
      · exact short_within (by decide) _ _ _
      · exact short_within (by decide) _ _ _
      · exact short_within (by decide) _ _ _
theorem join_count (l : List (List UInt8)) : l.length ≤ (Lib.join l [46]).length + 1 := by
  cases l with
  | nil => simp
  | cons x r => rw [Lib.join_length]; simp only [List.length_cons, List.length_nil]; omega
theorem ShortE.path {n : Nat} {e : Er} (h : ShortE n e) : (erPath e).length ≤ n + 1 := by
  cases e with
  | none => simp [erPath]
  | some x => obtain ⟨c, ps⟩ := x; have h1 := h c ps rfl; have h2 := join_count ps; show ps.length ≤ _; omega
end Go.AL
namespace Go.AL
open Go.RowKit Go.NumSpec
abbrev onlyL (l : List Lab) : Spc := ⟨[], l, [], [], 0, 0, 0⟩
theorem onlyL_light {l : List Lab} (h : lightS (onlyL l) = true) : l.length ≤ 10 ∧ ∀ x ∈ l, x.1.length ≤ 100 ∧ x.2.length ≤ 100 := by
  obtain ⟨⟨_, h2, _⟩, h5, _⟩ := light_out h
  refine ⟨h2, fun x hx => ?_⟩
  have := h5 x hx
  unfold lightL at this
  exact of_decide_eq_true this
theorem check_short {s : Spc} (h : lightS s = true) : ShortE 500 (checkE s) := by
  obtain ⟨⟨h1, h2, h3, h4⟩, h5, h6, h7⟩ := light_out h
  exact short_check (by omega) (by omega) (by omega) (fun c hc => by have := (of_decide_eq_true (h6 c hc)).2.2; omega) fun c hc => by have := (of_decide_eq_true (h7 c hc)).2.2; omega
end Go.AL

namespace Go.AL
open Go.RowKit Go.NumSpec
section
variable {α : Type} {f : α → α → Bool}
theorem sameL_take_succ : ∀ {a b : List α} {i : Nat} (h : i < a.length) (h' : i < b.length), sameL f (a.take (i + 1)) (b.take (i + 1)) = (sameL f (a.take i) (b.take i) && f (a[i]'h) (b[i]'h'))
  | x :: a, y :: b, 0, _, _ => by simp [sameL]
  | x :: a, y :: b, i + 1, h, h' => by
    simp only [List.take_succ_cons, sameL, List.getElem_cons_succ]
    have := sameL_take_succ (a := a) (b := b) (i := i) (by simpa using h) (by simpa using h')
    rw [this, Bool.and_assoc]
theorem sameL_take : ∀ {a b : List α} {i : Nat}, sameL f a b = true → sameL f (a.take i) (b.take i) = true
  | [], [], i, _ => by simp [sameL]
  | x :: a, y :: b, 0, _ => rfl
  | x :: a, y :: b, i + 1, h => by
    simp only [sameL, Bool.and_eq_true] at h
    simp only [List.take_succ_cons, sameL, Bool.and_eq_true]
    exact ⟨h.1, sameL_take h.2⟩
  | [], y :: b, i, h => by cases h
  | x :: a, [], i, h => by cases h
/-- As far as one has looked. -/
def sameP (f : α → α → Bool) (a b : List α) (i : Nat) : Bool := decide (a.length = b.length) && sameL f (a.take i) (b.take i)
theorem sameP_zero (a b : List α) : sameP f a b 0 = decide (a.length = b.length) := by simp [sameP, sameL]
theorem sameP_next {a b : List α} {i : Nat} (h : sameP f a b i = true) (h1 : i < a.length) (h2 : i < b.length) : sameP f a b (i + 1) = f (a[i]'h1) (b[i]'h2) := by
  unfold sameP at h ⊢
  simp only [Bool.and_eq_true] at h
  rw [sameL_take_succ h1 h2, h.1, h.2, Bool.true_and, Bool.true_and]
theorem sameP_end {a b : List α} {i : Nat} (h : sameP f a b i = false ∨ a.length ≤ i ∨ b.length ≤ i) : sameP f a b i = sameL f a b := by
  by_cases hs : sameP f a b i = true
  · have hs' := hs
    unfold sameP at hs'
    simp only [Bool.and_eq_true, decide_eq_true_eq] at hs'
    rcases h with h | h
    · rw [hs] at h; cases h
    · rw [List.take_of_length_le (by omega), List.take_of_length_le (by omega)] at hs'
      rw [hs, hs'.2]
  · have hs : sameP f a b i = false := by simpa using hs
    rw [hs]
    unfold sameP at hs
    simp only [Bool.and_eq_false_iff, decide_eq_false_iff_not] at hs
    rcases hs with hs | hs
    · exact (sameL_len hs).symm
    · cases hx : sameL f a b with
      | false => rfl
      | true => rw [sameL_take hx] at hs; cases hs
end
def sameS (a b : Spc) : Bool := decide (a.name = b.name) && decide (a.labels = b.labels) && sameL exactC a.init b.init && sameL exactC a.main b.main && decide (a.restart = b.restart) && decide (a.grace = b.grace) && decide (a.prio = b.prio)
theorem sameS_iff {a b : Spc} : sameS a b = true ↔ a = b := by
  cases a; cases b
  simp only [sameS, Bool.and_eq_true, decide_eq_true_eq, Spc.mk.injEq, sameL_iff (fun a b => exactC_iff)]
  constructor
  · rintro ⟨⟨⟨⟨⟨⟨h1, h2⟩, h3⟩, h4⟩, h5⟩, h6⟩, h7⟩; exact ⟨h1, h2, h3, h4, h5, h6, h7⟩
  · rintro ⟨h1, h2, h3, h4, h5, h6, h7⟩; exact ⟨⟨⟨⟨⟨⟨h1, h2⟩, h3⟩, h4⟩, h5⟩, h6⟩, h7⟩
theorem exactC_order (a b : Ctr) : (decide (a.name = b.name) && (decide (a.image = b.image)) && decide (a.req = b.req) && decide (a.lim = b.lim) && decide (a.ports = b.ports) && decide (a.probe = b.probe)) = exactC a b := by
  rw [Bool.eq_iff_iff, exactC_iff]
  cases a; cases b
  simp only [Bool.and_eq_true, decide_eq_true_eq, Ctr.mk.injEq]
  constructor
  · rintro ⟨⟨⟨⟨⟨h1, h2⟩, h3⟩, h4⟩, h5⟩, h6⟩; exact ⟨h1, h2, h3, h4, h5, h6⟩
  · rintro ⟨h1, h2, h3, h4, h5, h6⟩; exact ⟨⟨⟨⟨⟨h1, h2⟩, h3⟩, h4⟩, h5⟩, h6⟩
end Go.AL
namespace Go.AL
open Go.RowKit Go.NumSpec
/-- No list of it is too long to be walked. -/
def shortS (s : Spc) : Prop := s.labels.length ≤ 1000000 ∧ s.init.length ≤ 1000000 ∧ s.main.length ≤ 1000000 ∧ (∀ c ∈ s.init, c.ports.length ≤ 1000000) ∧ ∀ c ∈ s.main, c.ports.length ≤ 1000000
theorem light_short {s : Spc} (h : lightS s = true) : shortS s := by
  obtain ⟨⟨h1, h2, h3, h4⟩, h5, h6, h7⟩ := light_out h
  exact ⟨by omega, by omega, by omega, fun c hc => by have := (of_decide_eq_true (h6 c hc)).2.2; omega, fun c hc => by have := (of_decide_eq_true (h7 c hc)).2.2; omega⟩
end Go.AL

namespace Go.AL
open Go.RowKit
section
variable {P : Program} {N : Nat} {env : Env} {st : St} {o : Oper}
theorem GCalls.of_eq {gs : List (Nat × List Value)} {f : FuncId} {args : List AV} {V V' : AV} (h : GCalls P gs f args V) (e : V = V') : GCalls P gs f args V' := e ▸ h
/-- What a call over tables wants of each argument, where it only reads. -/
inductive LendsG (st : St) (g : St) : List AV → List AV → Prop
  | nil : LendsG st g [] []
  | cons {a b : AV} {as bs : List AV} (h : Conv st g a b) (t : LendsG st g as bs) : LendsG st g (a :: as) (b :: bs)
theorem LendsG.len {g : St} {as bs : List AV} (h : LendsG st g as bs) : as.length = bs.length := by induction h <;> simp [*]
theorem LendsG.at_ {g : St} {as bs : List AV} (h : LendsG st g as bs) : ∀ (i : Nat) b, bs[i]? = some b → ∃ a, as[i]? = some a ∧ Conv st g a b := by
  induction h with
  | nil => intro i b h; simp at h
  | cons h t ih =>
    intro i b hb
    cases i with
    | zero => simp at hb; subst hb; exact ⟨_, rfl, h⟩
    | succ i => simp at hb; simpa using ih i b hb

/-- What may be written there may be written here. -/
def MutLe (st st' : St) : Prop := ∀ b off, Mut st' b off → Mut st b off
theorem MutLe.cells {s' : St} {k : Nat} {cs ds : List AV} (h : MutLe st s') : MutLe ((k, .cells cs) :: st) ((k, .cells ds) :: s') := fun b off ⟨o, ho, hop⟩ => by
  rcases List.mem_cons.1 ho with h1 | h1
  · cases h1; exact ⟨_, List.mem_cons_self, trivial⟩
  · obtain ⟨o', h2, h3⟩ := h b off ⟨o, h1, hop⟩; exact ⟨o', List.mem_cons_of_mem _ h2, h3⟩
theorem MutLe.drop {s' : St} {p : Nat × Ob} (h : MutLe st s') : MutLe (p :: st) s' := fun b off hm => let ⟨o', h2, h3⟩ := h b off hm; ⟨o', List.mem_cons_of_mem _ h2, h3⟩
theorem MutLe.refl (s : St) : MutLe s s := fun _ _ h => h
theorem MutLe.ext {st' : St} (h : MutLe st st') (w : World) : Ext st w st' w := ⟨rfl, rfl, rfl, fun _ _ => rfl, Nat.le_refl _, fun _ _ _ => rfl, fun _ _ _ _ _ _ _ _ _ => rfl, fun b off _ hm => h b off hm, fun _ _ _ _ => rfl⟩
theorem Conv.nd {st' : St} {a b : AV} (h : (st.map (·.1)).Nodup → Conv st st' a b) : Conv st st' a b := fun w v hr => h hr.nodup w v hr
theorem LendsG.agg {g : St} {as bs : List AV} (h : LendsG st g as bs) : Conv st g (.agg as) (.agg bs) := .agg h.len fun i c d hc hd => by
  obtain ⟨a, ha, hcv⟩ := h.at_ i d hd
  rw [hc] at ha; cases ha; exact hcv
/-- The slots' values as they are in another state. -/
inductive EnvConv (st st' : St) (env : Env) : Env → Prop
  | nil : EnvConv st st' env []
  | cons {i : Nat} {x y : AV} {rest : Env} (h : env.lookup i = some y) (hl : Conv st st' y x) (t : EnvConv st st' env rest) : EnvConv st st' env ((i, x) :: rest)
theorem EnvConv.spec {st' : St} {env' : Env} (h : EnvConv st st' env env') : ∀ i x, env'.lookup i = some x → ∃ y, env.lookup i = some y ∧ Conv st st' y x := by
  induction h with
  | nil => intro i x hi; simp at hi
  | @cons j u v rest h1 h2 t ih =>
    intro i x hi
    simp only [List.lookup_cons] at hi
    by_cases hij : i = j
    · subst hij
      simp only [beq_self_eq_true] at hi
      cases hi
      exact ⟨v, h1, h2⟩
    · have : (i == j) = false := by simpa using hij
      simp only [this] at hi
      exact ih i x hi
/-- One state's memory, in another one: the same, or cells whose values are seen otherwise. -/
inductive StConv (st st' : St) : St → St → Prop
  | nil : StConv st st' [] []
  | drop {p : Nat × Ob} {a b : St} (t : StConv st st' a b) : StConv st st' (p :: a) b
  | same {p : Nat × Ob} {a b : St} (t : StConv st st' a b) (h : ∀ cs, p.2 = .cells cs → ∀ c ∈ cs, Conv st st' c c) : StConv st st' (p :: a) (p :: b)
  | cells {k : Nat} {cs ds : List AV} {a b : St} (hl : ds.length = cs.length) (h : ∀ (i : Nat) c d, cs[i]? = some c → ds[i]? = some d → Conv st st' c d) (t : StConv st st' a b) : StConv st st' ((k, .cells cs) :: a) ((k, .cells ds) :: b)
  | rest (a : St) (h : ∀ c, Conv st st' c c) : StConv st st' a a
theorem StConv.keys {s s' a b : St} (h : StConv s s' a b) : List.Sublist (b.map (·.1)) (a.map (·.1)) := by
  induction h with
  | nil => exact .refl _
  | drop _ ih => exact ih.cons _
  | same _ _ ih => exact ih.cons_cons _
  | cells _ _ _ ih => exact ih.cons_cons _
  | rest _ _ => exact .refl _
theorem StConv.mem {s s' a b : St} (h : StConv s s' a b) : ∀ k o, (k, o) ∈ b → (∃ cs ds, o = .cells ds ∧ (k, .cells cs) ∈ a ∧ ds.length = cs.length ∧ ∀ (i : Nat) c d, cs[i]? = some c → ds[i]? = some d → Conv s s' c d) ∨ ((k, o) ∈ a ∧ ∀ cs, o ≠ .cells cs) := by
  induction h with
  | nil => intro k o h; cases h
  | drop _ ih =>
    intro k o h
    rcases ih k o h with ⟨cs, ds, h1, h2, h3⟩ | ⟨h1, h2⟩
    · exact .inl ⟨cs, ds, h1, List.mem_cons_of_mem _ h2, h3⟩
    · exact .inr ⟨List.mem_cons_of_mem _ h1, h2⟩
  | @same p a b t hp ih =>
    intro k o h
    rcases List.mem_cons.1 h with h | h
    · subst h
      cases o with
      | cells cs => exact .inl ⟨cs, cs, rfl, List.mem_cons_self, rfl, fun i c d hc hd => by rw [hc] at hd; cases hd; exact hp cs rfl c (List.mem_of_getElem? hc)⟩
      | grow e size n cap => exact .inr ⟨List.mem_cons_self, fun cs hh => by cases hh⟩
      | konst vs => exact .inr ⟨List.mem_cons_self, fun cs hh => by cases hh⟩
    · rcases ih k o h with ⟨cs, ds, h1, h2, h3⟩ | ⟨h1, h2⟩
      · exact .inl ⟨cs, ds, h1, List.mem_cons_of_mem _ h2, h3⟩
      · exact .inr ⟨List.mem_cons_of_mem _ h1, h2⟩
  | @cells k' cs ds a b hl hc t ih =>
    intro k o h
    rcases List.mem_cons.1 h with h | h
    · cases h; exact .inl ⟨cs, ds, rfl, List.mem_cons_self, hl, hc⟩
    · rcases ih k o h with ⟨cs, ds, h1, h2, h3⟩ | ⟨h1, h2⟩
      · exact .inl ⟨cs, ds, h1, List.mem_cons_of_mem _ h2, h3⟩
      · exact .inr ⟨List.mem_cons_of_mem _ h1, h2⟩
  | rest a hc =>
    intro k o h
    cases o with
    | cells cs => exact .inl ⟨cs, cs, rfl, h, rfl, fun i c d h1 h2 => by rw [h1] at h2; cases h2; exact hc c⟩
    | grow e size n cap => exact .inr ⟨h, fun cs hh => by cases hh⟩
    | konst vs => exact .inr ⟨h, fun cs hh => by cases hh⟩

end
end Go.AL

namespace Go.AL
open Go.RowKit
section
variable {P : Program} {N : Nat} {env : Env} {st : St} {o : Oper}
theorem make_cells (z : Value) (n : Nat) : madeCells #[z] n = (List.replicate n z).toArray := by
  unfold madeCells
  refine Array.ext_getElem? fun i => ?_
  by_cases h : i < n <;> simp [h, Nat.mod_one]
/-- n of one cell each, zero. -/
theorem S_make1 {t e bytes : Nat} {x : Operand} {n : Nat} {z : Value} (ho : o.op = .makeSlice t x x) (hx : AEv env x (.int .i64 ((n : Nat) : Int))) (hu : P.underlying t = some (.slice e))
    (hz : (P.info? e).map (fun i => (i.size, i.bytes, i.zero)) = some (1, bytes, some z)) (hz1 : z.cells = #[z]) (hb : bytes * n ≤ 281474976710656) (h63 : n ≤ 9223372036854775807) :
    Step P N o env st fun y st' => ∃ b, y = .lit (.slice (some ⟨b, 0, none⟩) n n) ∧ st' = (b, .cells (List.replicate n (.lit z))) :: st := by
  intro a w hg next Q hn
  have e1 := (hx _ _ _ _ hg).lit_inv
  obtain ⟨i, hi⟩ : ∃ i, P.info? e = some i := by cases h : P.info? e with | none => simp [h] at hz | some i => exact ⟨i, rfl⟩
  simp only [hi, Option.map_some, Option.some.injEq, Prod.mk.injEq] at hz
  obtain ⟨hz0, hzb, hzz⟩ := hz
  have hrun : (execOp a.eval o).run P w = .ok (.value (.slice (some ⟨w.heap.size, 0, none⟩) n n)) (w.alloc (.cells (List.replicate n z).toArray e)) := by
    have := run_make w t e i z hu hi hzz .i64 .i64 (n : Int) (n : Int) (by omega) (Int.le_refl _) (by rw [hzb, ← Int.natCast_mul]; generalize bytes * n = q at hb ⊢; omega) (by omega)
    rw [hz1, hz0, Int.toNat_natCast, Nat.mul_one, make_cells] at this
    simp only [execOp, ho, e1, Sem.run_bind, this, Result.andThen_ok, Sem.run_pure]
  obtain ⟨k1, k2⟩ := alloc_rel hg.rel (T := e) (ob := .cells (List.replicate n (.lit z))) (vs := (List.replicate n z).toArray) ⟨by simp, fun q c u hc hu' => by
    simp only [List.getElem?_replicate] at hc
    simp only [List.getElem?_toArray, List.getElem?_replicate] at hu'
    split at hc
    · rename_i hq; rw [if_pos hq] at hu'; cases hc; cases hu'; exact .lit _
    · cases hc⟩
  unfold Oper.wp
  rw [hrun]
  exact hn _ _ _ _ ⟨w.heap.size, rfl, rfl⟩ (.lit _) k1 k2

/-- The front of a slice of one's own. -/
theorem S_cutOH {t e : TypeId} {x hi : Operand} {b n c j : Nat} {k : IntKind} (m : Nat) (ho : o.op = .slice t x none (some hi) none) (hx : AEv env x (.lit (.slice (some ⟨b, 0, none⟩) n c))) (hh : AEv env hi (.int k ((j : Nat) : Int)))
    (hu : P.underlying t = some (.slice e)) (hm : (P.info? e).map (·.size) = some m) (h1 : j ≤ c) : PStep P N o env st (.lit (.slice (some ⟨b, 0, none⟩) j c)) :=
  .of_val fun a w hg => by
    have e1 := (hx _ _ _ _ hg).lit_inv
    have e2 := (hh _ _ _ _ hg).lit_inv
    cases hq : P.info? e with
    | none => simp [hq] at hm
    | some q =>
      have hqm : q.size = m := by simpa [hq] using hm
      refine ⟨.slice (some ⟨b, 0, none⟩) j c, ?_, .lit _⟩
      have hb : ∀ w, (Instr.sliceBounds true n c none (some (.int k (j : Int))) none).run P w = .ok (0, j, c) w := fun w => by
        unfold Instr.sliceBounds
        simp [run_sliceBound (P := P) w k (j : Int) c .sliceAcap (by omega) (by omega)]
      simp only [execOp, ho, e1, e2, Instr.sliceAt, Sem.run_bind, run_underlying hu, Result.andThen_ok, Sem.run_pure, Option.map_none, Option.map_some, hb]
      simp only [Instr.slice, Sem.run_bind, run_underlying hu, Result.andThen_ok, hb]
      simp [sizeOf, typeInfo, hq, hqm, Addr.add]
theorem run_count {s : List UInt8} {c : UInt8} (w : World) : (Extern.BytealgCount.count #[.string ⟨s.toArray⟩, .int .u8 (c.toNat : Int)]).run P w = .ok (.int .i64 (s.count c : Int)) w := by
  have hc : ((c.toNat : Int)).toNat.toUInt8 = c := by simp
  have h := Lib.run_countString (P := P) ⟨s.toArray⟩ (c.toNat : Int) w
  rw [hc] at h
  exact h
end
end Go.AL

namespace Go.AL
open Go.RowKit Go.NumSpec
abbrev headB (c : UInt8) (s : List UInt8) : List UInt8 := s.takeWhile (fun x => x != c)
abbrev restB (c : UInt8) (s : List UInt8) : List UInt8 := s.drop ((headB c s).length + 1)
theorem split_none {c : UInt8} : ∀ {s : List UInt8}, c ∉ s → partsB c s = [s]
  | [], _ => rfl
  | x :: s, h => by
    have h1 : x ≠ c := fun e => h (by rw [e]; exact List.mem_cons_self)
    have h2 := split_none (c := c) (s := s) fun hm => h (List.mem_cons_of_mem _ hm)
    simp [partsB, h2, h1]
theorem split_hit {c : UInt8} : ∀ {s : List UInt8}, c ∈ s → partsB c s = headB c s :: partsB c (restB c s)
  | [], h => by cases h
  | x :: s, h => by
    by_cases h1 : x = c
    · subst h1; simp [partsB, headB, restB]
    · have hm : c ∈ s := (List.mem_cons.1 h).resolve_left fun e => h1 e.symm
      have h2 := split_hit (c := c) (s := s) hm
      have hb : (x != c) = true := by simpa using h1
      have e1 : headB c (x :: s) = x :: headB c s := by simp [headB, hb]
      have e2 : restB c (x :: s) = restB c s := by unfold restB; rw [e1]; simp
      rw [e1, e2]
      simp [partsB, h2, h1]
theorem parts_count (c : UInt8) : ∀ s : List UInt8, (partsB c s).length = s.count c + 1
  | [] => rfl
  | x :: s => by
    have ih := parts_count c s
    by_cases h1 : x = c
    · subst h1; simp [partsB, ih]
    · cases hp : partsB c s with
      | nil => rw [hp] at ih; simp at ih
      | cons y l =>
        rw [hp] at ih
        rw [List.count_cons_of_ne (by simpa using h1)]
        simp [partsB, hp, h1] at ih ⊢
        exact ih
/-- The row while it is filled. -/
def filling (n : Nat) (done : List (List UInt8)) : List AV := strsV done ++ List.replicate (n - done.length) (AV.lit (.string ⟨#[]⟩))
theorem filling_zero (n : Nat) : filling n [] = List.replicate n (AV.lit (.string ⟨#[]⟩)) := by simp [filling, strsV]
theorem filling_set {n : Nat} {done : List (List UInt8)} {x : List UInt8} (h : done.length < n) : (filling n done).set (0 + ((done.length : Nat) : Int).toNat * 1) (.S x) = filling n (done ++ [x]) := by
  unfold filling
  have hl : (strsV done).length = done.length := by simp [strsV]
  rw [show 0 + ((done.length : Nat) : Int).toNat * 1 = done.length by simp, List.set_append_right _ _ (by omega), hl, Nat.sub_self]
  obtain ⟨k, hk⟩ : ∃ k, n - done.length = k + 1 := ⟨n - done.length - 1, by omega⟩
  rw [hk, List.replicate_succ, List.set_cons_zero, show n - (done ++ [x]).length = k by simp; omega]
  simp [strsV]
theorem filling_len {n : Nat} {done : List (List UInt8)} (h : done.length ≤ n) : (filling n done).length = n := by simp [filling, strsV]; omega
theorem filling_full {n : Nat} {done : List (List UInt8)} (h : done.length = n) : filling n done = vec1C n (strsV done) := by
  simp [filling, vec1C, strsV, h]
theorem idxV_neg {s : List UInt8} {c : UInt8} : idxV s c < 0 ↔ c ∉ s := by
  unfold idxV; split
  · rename_i h; constructor
    · intro k; omega
    · intro k; exact absurd h k
  · rename_i h; exact ⟨fun _ => h, fun _ => by omega⟩
theorem idxV_hit {s : List UInt8} {c : UInt8} (h : c ∈ s) : idxV s c = ((headB c s).length : Int) := by unfold idxV; rw [if_pos h]
theorem take_head {s : List UInt8} {c : UInt8} : s.take (headB c s).length = headB c s := by
  have h := List.takeWhile_append_dropWhile (p := fun x => x != c) (l := s)
  have h2 : (headB c s ++ s.dropWhile (fun x => x != c)).take (headB c s).length = headB c s := List.take_left' rfl
  rwa [h] at h2
theorem head_lt {s : List UInt8} {c : UInt8} (h : c ∈ s) : (headB c s).length < s.length := (tw_lt h).1
theorem count_none {s : List UInt8} {c : UInt8} (h : s.count c = 0) : c ∉ s := List.count_eq_zero.1 h
end Go.AL

namespace Go.AL
open Go.RowKit Go.NumSpec
abbrev lessK (x y : Lab) : Bool := Op.bytesLess x.1 y.1
def labT (x : Lab) : List UInt8 := (x.1 ++ [61]) ++ x.2
def selT (l : List Lab) : List UInt8 := Lib.join (l.map labT) [44]
def cutL (p : List UInt8) : Lab := ((cutV 61 p).1, (cutV 61 p).2.1)
abbrev selN : List UInt8 := [115, 101, 108]
def parseS (s : List UInt8) : List Lab × Int :=
  if s = [] then ([], 0) else if (partsB 44 s).all (fun p => (cutV 61 p).2.2) = true then
    (if erCode (labelsE selN ((partsB 44 s).map cutL)) = 0 then ((partsB 44 s).map cutL, 0) else ([], erCode (labelsE selN ((partsB 44 s).map cutL)))) else ([], 3)
theorem le_sum_mem : ∀ {l : List Nat} {x : Nat}, x ∈ l → x ≤ l.sum
  | y :: l, x, h => by
    rw [List.sum_cons]
    rcases List.mem_cons.1 h with h | h
    · omega
    · have := le_sum_mem h; omega
theorem partsB_le (c : UInt8) (s : List UInt8) : ∀ p ∈ partsB c s, p.length ≤ s.length := fun p hp => by
  have h := parts_sum c s
  have h2 : p.length + 1 ≤ ((partsB c s).map fun p => p.length + 1).sum := by
    have : p.length + 1 ∈ (partsB c s).map fun p => p.length + 1 := List.mem_map_of_mem hp
    exact le_sum_mem this
  omega
theorem parts_few (c : UInt8) (s : List UInt8) : (partsB c s).length ≤ s.length + 1 := by
  rw [parts_count]; have := List.count_le_length (a := c) (l := s); omega
abbrev d0 : Lab := ([], [])
section
variable {a b : List Lab}
end
theorem map_cons {m : Option (List Lab)} {out : List Lab} {x : Lab} : (m.map (x :: ·)).map (out ++ ·) = m.map ((out ++ [x]) ++ ·) := by cases m <;> simp
theorem parse_nil {s : List UInt8} (h : s = []) : parseS s = ([], 0) := by unfold parseS; rw [if_pos h]
theorem parse_all {s : List UInt8} (h : s ≠ []) (hc : ∀ i (hi : i < (partsB 44 s).length), (cutV 61 (partsB 44 s)[i]).2.2 = true) : parseS s = if erCode (labelsE selN ((partsB 44 s).map cutL)) = 0 then ((partsB 44 s).map cutL, 0) else ([], erCode (labelsE selN ((partsB 44 s).map cutL))) := by
  unfold parseS; rw [if_neg h, if_pos]
  rw [List.all_eq_true]
  intro p hp
  obtain ⟨i, hi, rfl⟩ := List.mem_iff_getElem.1 hp
  exact hc i hi
end Go.AL

namespace Go.AL
open Go.RowKit Go.NumSpec
theorem bytesLess_trans : ∀ {a b c : List UInt8}, Op.bytesLess a b = true → Op.bytesLess b c = true → Op.bytesLess a c = true
  | _, [], _, h, _ => by cases ‹List UInt8› <;> simp [Op.bytesLess] at h
  | _, _ :: _, [], _, h => by simp [Op.bytesLess] at h
  | [], _ :: _, _ :: _, _, _ => rfl
  | x :: a, y :: b, z :: c, h, k => by
    unfold Op.bytesLess at h k ⊢
    simp only [Bool.or_eq_true, decide_eq_true_eq, Bool.and_eq_true, beq_iff_eq] at h k ⊢
    simp only [u8_lt] at h k ⊢
    rcases h with h | ⟨rfl, h⟩
    · rcases k with k | ⟨rfl, k⟩
      · exact .inl (by omega)
      · exact .inl h
    · rcases k with k | ⟨rfl, k⟩
      · exact .inl k
      · exact .inr ⟨rfl, bytesLess_trans h k⟩
abbrev sortedL (l : List Lab) : Prop := l.Pairwise fun x y => lessK x y = true
theorem sorted_of {l : List Lab} (h : ∀ i (hi : i < l.length), 0 < i → lessK (l[i - 1]'(by omega)) l[i] = true) : sortedL l := by
  refine List.pairwise_iff_getElem.2 fun i j hi hj hij => ?_
  induction j with
  | zero => omega
  | succ j ih =>
    have h1 := h (j + 1) hj (by omega)
    simp only [Nat.add_sub_cancel] at h1
    rcases Nat.lt_or_ge i j with k | k
    · exact bytesLess_trans (ih (by omega) k) h1
    · have : i = j := by omega
      subst this; exact h1
theorem label_out {name : List UInt8} {l : List Lab} {i : Nat} (hi : i < l.length) (h : labelE name l i = none) : namesR 2 l[i].1 = true ∧ (∀ h0 : 0 < i, lessK (l[i - 1]'(by omega)) l[i] = true) ∧ valV l[i].2 = true := by
  cases h1 : namesR 2 l[i].1 with
  | false => rw [label_key hi h1] at h; cases h
  | true =>
    have h2 : ∀ h0 : 0 < i, lessK (l[i - 1]'(by omega)) l[i] = true := fun h0 => by
      cases h2 : lessK (l[i - 1]'(by omega)) l[i] with
      | true => rfl
      | false => rw [label_order hi h1 h0 h2] at h; cases h
    refine ⟨rfl, h2, ?_⟩
    cases h3 : valV l[i].2 with
    | true => rfl
    | false => rw [label_val hi h1 h2 h3] at h; cases h
theorem labels_out {name : List UInt8} {l : List Lab} (h : labelsE name l = none) : l.length ≤ 4 ∧ sortedL l ∧ ∀ x ∈ l, namesR 2 x.1 = true ∧ valV x.2 = true := by
  cases ha : atMostE name (l.length : Int) 0 4 with
  | some x => rw [labelsE_bad (by rw [ha]; simp), ha] at h; cases h
  | none =>
    rw [labelsE_good ha] at h
    have hl : l.length ≤ 4 := by
      unfold atMostE at ha
      split at ha
      · cases ha
      · omega
    have hall := eachE_none h
    refine ⟨hl, sorted_of fun i hi h0 => (label_out hi (hall i hi)).2.1 h0, fun x hx => ?_⟩
    obtain ⟨i, hi, rfl⟩ := List.mem_iff_getElem.1 hx
    exact ⟨(label_out hi (hall i hi)).1, (label_out hi (hall i hi)).2.2⟩
end Go.AL

namespace Go.AL
open Go.RowKit Go.NumSpec
theorem part_mem {c x : UInt8} : ∀ {s : List UInt8}, x ∈ s → x = c ∨ ∃ p ∈ partsB c s, x ∈ p
  | y :: s, h => by
    by_cases hy : y = c
    · subst hy
      rw [partsB, if_pos rfl]
      rcases List.mem_cons.1 h with h | h
      · exact .inl h
      · rcases part_mem (c := y) h with h | ⟨p, h1, h2⟩
        · exact .inl h
        · exact .inr ⟨p, List.mem_cons_of_mem _ h1, h2⟩
    · rw [partsB_cons hy]
      rcases List.mem_cons.1 h with h | h
      · subst h; exact .inr ⟨_, List.mem_cons_self, List.mem_cons_self⟩
      · rcases part_mem (c := c) h with h | ⟨p, h1, h2⟩
        · exact .inl h
        · cases hp : partsB c s with
          | nil => exact absurd hp (partsB_ne c s)
          | cons q qs =>
            rw [hp] at h1
            simp only [List.headD_cons, List.tail_cons]
            rcases List.mem_cons.1 h1 with h1 | h1
            · subst h1; exact .inr ⟨_, List.mem_cons_self, List.mem_cons_of_mem _ h2⟩
            · exact .inr ⟨p, List.mem_cons_of_mem _ h1, h2⟩
theorem name_chars {s : List UInt8} (h : nameV s = true) : ∀ x ∈ s, inC 1 x = true := by
  unfold nameV at h
  simp only [Bool.and_eq_true] at h
  exact List.all_eq_true.1 h.1.1.2
theorem key_chars {s : List UInt8} (h : namesR 2 s = true) : ∀ x ∈ s, x = 47 ∨ inC 1 x = true := fun x hx => by
  rw [namesR_parts, Bool.and_eq_true, List.all_eq_true] at h
  rcases part_mem (c := 47) hx with e | ⟨p, h1, h2⟩
  · exact .inl e
  · exact .inr (name_chars (h.2 p h1) x h2)
theorem key_short {s : List UInt8} (h : namesR 2 s = true) : s.length ≤ 33 := by
  rw [namesR_parts, Bool.and_eq_true, decide_eq_true_eq] at h
  have := parts_names h.2
  omega
theorem val_short {s : List UInt8} (h : valV s = true) : s.length ≤ 16 := by
  unfold valV at h
  simp only [Bool.and_eq_true, decide_eq_true_eq] at h
  omega
theorem val_chars {s : List UInt8} (h : valV s = true) : ∀ x ∈ s, inC 4 x = true := by
  unfold valV at h
  simp only [Bool.and_eq_true] at h
  exact List.all_eq_true.1 h.2
theorem no_comma {x : Lab} (h1 : namesR 2 x.1 = true) (h2 : valV x.2 = true) : (44 : UInt8) ∉ labT x := fun h => by
  unfold labT at h
  rcases List.mem_append.1 h with h | h
  · rcases List.mem_append.1 h with h | h
    · rcases key_chars h1 _ h with k | k
      · cases k
      · exact absurd k (by decide)
    · simp at h
  · exact absurd (val_chars h2 _ h) (by decide)
theorem no_equal {x : Lab} (h1 : namesR 2 x.1 = true) : (61 : UInt8) ∉ x.1 := fun h => by
  rcases key_chars h1 _ h with k | k
  · cases k
  · exact absurd k (by decide)
theorem parts_join : ∀ {l : List (List UInt8)}, l ≠ [] → (∀ p ∈ l, (44 : UInt8) ∉ p) → partsB 44 (Lib.join l [44]) = l
  | [p], _, h => by rw [Lib.join_one]; exact split_none (h p List.mem_cons_self)
  | p :: q :: l, _, h => by
    have ih := parts_join (l := q :: l) (by simp) fun x hx => h x (List.mem_cons_of_mem _ hx)
    have e : Lib.join (p :: q :: l) [44] = p ++ (44 :: Lib.join (q :: l) [44]) := by
      rw [Lib.join_cons, Lib.join_cons]; simp [Lib.joinTail]
    have hp := h p List.mem_cons_self
    have hm : (44 : UInt8) ∈ Lib.join (p :: q :: l) [44] := by rw [e]; simp
    rw [split_hit hm]
    have hh : headB 44 (Lib.join (p :: q :: l) [44]) = p := by
      rw [e]; unfold headB
      rw [List.takeWhile_append_of_pos (fun x hx => by simp; exact fun k => hp (k ▸ hx))]
      simp
    unfold restB
    rw [hh, e]
    rw [show (p ++ 44 :: Lib.join (q :: l) [44]).drop (p.length + 1) = Lib.join (q :: l) [44] by
      rw [show p ++ 44 :: Lib.join (q :: l) [44] = (p ++ [44]) ++ Lib.join (q :: l) [44] by simp]
      exact List.drop_left' (by simp)]
    rw [ih]
theorem cut_hit {c : UInt8} {p q : List UInt8} (h : c ∉ p) : cutV c (p ++ (c :: q)) = (p, q, true) := by
  have h1 : headB c (p ++ (c :: q)) = p := by
    unfold headB
    rw [List.takeWhile_append_of_pos (fun x hx => by simp; exact fun k => h (k ▸ hx))]
    simp
  unfold cutV
  rw [if_pos (by simp)]
  show (headB c _, List.drop ((headB c _).length + 1) _, true) = _
  rw [h1]
  simp
theorem cutL_lab {x : Lab} (h : (61 : UInt8) ∉ x.1) : (cutV 61 (labT x)).2.2 = true ∧ cutL (labT x) = x := by
  have e : labT x = x.1 ++ (61 :: x.2) := by simp [labT]
  unfold cutL
  rw [e, cut_hit h]
  exact ⟨rfl, rfl⟩
theorem parse_text {l : List Lab} (h : labelsE selN l = none) : parseS (selT l) = (l, 0) := by
  obtain ⟨hl, hs, hk⟩ := labels_out h
  by_cases h0 : l = []
  · subst h0; exact parse_nil rfl
  · have hp : partsB 44 (selT l) = l.map labT := parts_join (by simpa using h0) fun p hp => by
      obtain ⟨x, hx, rfl⟩ := List.mem_map.1 hp
      exact no_comma (hk x hx).1 (hk x hx).2
    have hne : selT l ≠ [] := fun e => by
      rw [e] at hp
      cases l with
      | nil => exact h0 rfl
      | cons x l =>
        simp only [partsB, List.map_cons, List.cons.injEq] at hp
        have := congrArg List.length hp.1
        simp [labT] at this
    have hm : (partsB 44 (selT l)).map cutL = l := by
      rw [hp, List.map_map]
      conv => rhs; rw [← List.map_id l]
      exact List.map_congr_left fun x hx => (cutL_lab (no_equal (hk x hx).1)).2
    rw [parse_all hne fun i hi => by
      have hx : (partsB 44 (selT l))[i] ∈ l.map labT := by
        have h9 := List.getElem_mem hi
        rw [← hp]; exact h9
      obtain ⟨y, hy, e⟩ := List.mem_map.1 hx
      have e' : (partsB 44 (selT l))[i] = labT y := e.symm
      rw [e']; exact (cutL_lab (no_equal (hk y hy).1)).1]
    rw [hm, h]; rfl
end Go.AL

namespace Go.AL
open Go.RowKit Go.NumSpec
abbrev MR : Int := 1099511627776
def labB (x : Lab) : List UInt8 := textB x.1 ++ textB x.2
def LabOk (x : Lab) : Prop := (x.1.length : Int) ≤ 33 ∧ (x.2.length : Int) ≤ 16
def labsB (l : List Lab) : List UInt8 := listB labB l
def LabsOk (l : List Lab) : Prop := (l.length : Int) ≤ 4 ∧ ∀ x ∈ l, LabOk x
def triB (r : Tri) : List UInt8 := numB r.1 ++ (numB r.2.1 ++ numB r.2.2)
def TriOk (r : Tri) : Prop := (0 ≤ r.1 ∧ r.1 ≤ MR) ∧ ((0 ≤ r.2.1 ∧ r.2.1 ≤ MR) ∧ (0 ≤ r.2.2 ∧ r.2.2 ≤ MR))
def portsB (l : List Int) : List UInt8 := listB numB l
def PortsOk (l : List Int) : Prop := (l.length : Int) ≤ 3 ∧ ∀ x ∈ l, 0 ≤ x ∧ x ≤ 65535
def ctrB (c : Ctr) : List UInt8 := textB c.name ++ (textB c.image ++ (triB c.req ++ (triB c.lim ++ (portsB c.ports ++ (numB c.probe.1 ++ numB c.probe.2)))))
def CtrOk (c : Ctr) : Prop := (c.name.length : Int) ≤ 16 ∧ ((c.image.length : Int) ≤ 33 ∧ (TriOk c.req ∧ (TriOk c.lim ∧ (PortsOk c.ports ∧ ((0 ≤ c.probe.1 ∧ c.probe.1 ≤ 1000) ∧ (0 ≤ c.probe.2 ∧ c.probe.2 ≤ 10))))))
def ctrsB (l : List Ctr) : List UInt8 := listB ctrB l
def CtrsOk (n : Int) (l : List Ctr) : Prop := (l.length : Int) ≤ n ∧ ∀ x ∈ l, CtrOk x
def spcB (s : Spc) : List UInt8 := textB s.name ++ (labsB s.labels ++ (ctrsB s.init ++ (ctrsB s.main ++ (numB s.restart ++ (numB s.grace ++ numB s.prio)))))
def SpcOk (s : Spc) : Prop := (s.name.length : Int) ≤ 16 ∧ (LabsOk s.labels ∧ (CtrsOk 3 s.init ∧ (CtrsOk 4 s.main ∧ ((0 ≤ s.restart ∧ s.restart ≤ 3) ∧ ((0 ≤ s.grace ∧ s.grace ≤ 1000) ∧ (0 ≤ s.prio ∧ s.prio ≤ 10))))))
/-! What may be is within its bounds -/
theorem atMost_none {name : List UInt8} {n lo hi : Int} (h : atMostE name n lo hi = none) : lo ≤ n ∧ n ≤ hi := by
  unfold atMostE at h
  split at h
  · cases h
  · omega
theorem new_none {b : Bool} {c : Int} {ps : List (List UInt8)} (hc : c ≠ 0) (h : erNew (saysV b c) ps = none) : b = true := by
  unfold erNew at h
  split at h
  · rename_i h1; exact (says_zero hc).1 h1
  · cases h
theorem image_len {s : List UInt8} (h : (tparts s).2.2 = true) : (s.length : Int) ≤ 33 := by
  unfold tparts at h
  split at h
  · rename_i h1
    have h2 := cutV_len h1.1
    have h3 := h1.2.1
    have h4 := h1.2.2
    unfold repoV at h3; unfold tagV at h4
    simp only [Bool.and_eq_true, decide_eq_true_eq] at h3 h4
    have := h3.1; have := h4.1.2
    omega
  · cases h
theorem req_ok {r : Tri} (h : reqE r = none) : TriOk r := by
  have h0 := erIn_none h
  exact ⟨within_none (firstE_none h0 _ List.mem_cons_self), within_none (firstE_none h0 (withinE [109, 101, 109] r.2.1 0 1099511627776) (by simp)), within_none (firstE_none h0 (withinE [112, 105, 100, 115] r.2.2 0 1099511627776) (by simp))⟩
theorem most_ok {name : List UInt8} {n lo : Int} (h0 : 0 ≤ lo) (h : mostE name n lo = none) : 0 ≤ n ∧ n ≤ MR := by
  unfold mostE at h
  split at h
  · rename_i h1; subst h1; exact ⟨by decide, by decide⟩
  · have := within_none h
    unfold MR; omega
theorem lim_ok {l r : Tri} (hr : TriOk r) (h : limE l r = none) : TriOk l := by
  have h0 := erIn_none h
  exact ⟨most_ok hr.1.1 (firstE_none h0 _ List.mem_cons_self), most_ok hr.2.1.1 (firstE_none h0 (mostE [109, 101, 109] l.2.1 r.2.1) (by simp)), most_ok hr.2.2.1 (firstE_none h0 (mostE [112, 105, 100, 115] l.2.2 r.2.2) (by simp))⟩
theorem port_ok {ps l : List Int} {n : Int} (hn : n ≤ 3) (h : portE ps l n = none) : PortsOk l := by
  obtain ⟨h1, h2⟩ := portE_out h
  refine ⟨by have := atMost_none h1; omega, fun x hx => ?_⟩
  obtain ⟨j, hj, rfl⟩ := List.mem_iff_getElem.1 hx
  have := within_none (portAt_out (h2 j hj)).1
  rw [List.getD_eq_getElem?_getD, List.getElem?_eq_getElem hj] at this
  simp only [Option.getD_some] at this
  omega
theorem ctr_ok {ns : List (List UInt8)} {ps : List Int} {c : Ctr} {a b : Int} (ha : a ≤ 3) (hb : b ≤ 1000) (h : ctrE ns ps c a b = none) : CtrOk c := by
  have h1 := new_none (by decide) (nameE_out (firstE_none h (nameE ns c.name) (by simp))).1
  have h2 := new_none (by decide) (firstE_none h (erNew (saysV (tparts c.image).2.2 33) [[105, 109, 97, 103, 101]]) (by simp))
  have h3 := req_ok (firstE_none h (reqE c.req) (by simp))
  have h4 := lim_ok h3 (firstE_none h (limE c.lim c.req) (by simp))
  have h5 := port_ok ha (firstE_none h (portE ps c.ports a) (by simp))
  have h6 := erIn_none (firstE_none h (probeE c.probe b) (by simp))
  have h7 := within_none (firstE_none h6 _ List.mem_cons_self)
  have h8 := within_none (firstE_none h6 _ (List.mem_cons_of_mem _ List.mem_cons_self))
  have h9 := nameV_len h1
  refine ⟨by omega, image_len h2, h3, h4, h5, by omega, ?_⟩
  by_cases hp : c.probe.1 = 0
  · rw [if_pos hp, if_pos hp] at h8; omega
  · rw [if_neg hp, if_neg hp] at h8; omega
theorem ctrs_ok {name : List UInt8} {ns : List (List UInt8)} {ps : List Int} {l : List Ctr} {a b : Int} (ha : a ≤ 3) (hb : b ≤ 1000) (h : ctrsE name ns ps l a b = none) : ∀ x ∈ l, CtrOk x := fun x hx => by
  obtain ⟨j, hj, rfl⟩ := List.mem_iff_getElem.1 hx
  have := erIn_none (eachE_none h j hj)
  rw [ctrAt_at hj] at this
  exact ctr_ok ha hb this
theorem check_ok {s : Spc} (h : checkE s = none) : SpcOk s := by
  obtain ⟨h1, h2, h3⟩ := check_all h
  have n1 := nameV_len (new_none (by decide) (firstE_none h1 _ List.mem_cons_self))
  have n2 := labels_out (firstE_none h1 (labelsE labelsN s.labels) (by simp))
  have n3 := atMost_none (firstE_none h1 (atMostE initN (s.init.length : Int) 0 3) (by simp))
  have n4 := ctrs_ok (by decide) (by decide) (firstE_none h2 (ctrsE initN [] [] s.init 0 0) (by simp))
  have n5 := atMost_none (firstE_none h2 (atMostE mainN (s.main.length : Int) 1 4) (by simp))
  have n6 := ctrs_ok (by decide) (by decide) (firstE_none h3 _ List.mem_cons_self)
  have n7 := within_none (firstE_none h3 (withinE [114, 101, 115, 116, 97, 114, 116] s.restart 1 3) (by simp))
  have n8 := within_none (firstE_none h3 (withinE [103, 114, 97, 99, 101] s.grace 0 1000) (by simp))
  have n9 := within_none (firstE_none h3 (withinE [112, 114, 105, 111] s.prio 0 10) (by simp))
  refine ⟨by omega, ⟨by have := n2.1; omega, fun x hx => ?_⟩, ⟨n3.2, n4⟩, ⟨n5.2, n6⟩, by omega, n8, n9⟩
  have := n2.2.2 x hx
  have k1 := key_short this.1
  have k2 := val_short this.2
  exact ⟨by omega, by omega⟩
/-! How long -/
theorem labB_len {x : Lab} (h1 : x.1.length ≤ 400) (h2 : x.2.length ≤ 400) : (labB x).length ≤ 1000 := by
  have := textB_len (s := x.1) (by omega)
  have := textB_len (s := x.2) (by omega)
  unfold labB; rw [List.length_append]; omega
theorem triB_len {r : Tri} (h : TriOk r) : (triB r).length ≤ 30 := by
  have a := numB_len (n := r.1) (by have := h.1.2; unfold MR at this; omega)
  have b := numB_len (n := r.2.1) (by have := h.2.1.2; unfold MR at this; omega)
  have c := numB_len (n := r.2.2) (by have := h.2.2.2; unfold MR at this; omega)
  unfold triB; rw [List.length_append, List.length_append]; omega
theorem portsB_len {l : List Int} (h : PortsOk l) : (portsB l).length ≤ 40 := by
  have a := flatB_len (e := numB) (B := 10) (l := l) fun x hx => numB_len (by have := (h.2 x hx).2; omega)
  have b := putL_few l.length (by have := h.1; omega)
  have := h.1
  unfold portsB listB; rw [List.length_append]; omega
theorem ctrB_len {c : Ctr} (h : CtrOk c) : (ctrB c).length ≤ 1000 := by
  obtain ⟨h1, h2, h3, h4, h5, h6, h7⟩ := h
  have a := textB_len (s := c.name) (by omega)
  have b := textB_len (s := c.image) (by omega)
  have d := triB_len h3
  have e := triB_len h4
  have f := portsB_len h5
  have g := numB_len (n := c.probe.1) (by omega)
  have k := numB_len (n := c.probe.2) (by omega)
  unfold ctrB
  simp only [List.length_append]; omega
theorem ctrB_assoc (c : Ctr) : (((((textB c.name ++ textB c.image) ++ triB c.req) ++ triB c.lim) ++ listB numB c.ports) ++ numB c.probe.1) ++ numB c.probe.2 = ctrB c := by simp [ctrB, portsB]
theorem spcB_assoc (s : Spc) : (((((textB s.name ++ listB labB s.labels) ++ ([s.init, s.main].flatMap (listB ctrB)))) ++ numB s.restart) ++ numB s.grace) ++ numB s.prio = spcB s := by simp [spcB, labsB, ctrsB]
theorem two_all {p : List Ctr → Prop} {a b : List Ctr} (ha : p a) (hb : p b) : ∀ x ∈ [a, b], p x := fun x hx => by
  simp only [List.mem_cons, List.not_mem_nil, or_false] at hx
  rcases hx with rfl | rfl
  · exact ha
  · exact hb
theorem flatB_next {α : Type} {e : α → List UInt8} {a : List UInt8} {l : List α} {i : Nat} (h : i < l.length) : a ++ (l.take (i + 1)).flatMap e = (a ++ (l.take i).flatMap e) ++ e l[i] := by
  rw [flat_next h, List.append_assoc]
theorem triB_assoc (r : Tri) : (numB r.1 ++ numB r.2.1) ++ numB r.2.2 = triB r := by simp [triB]
theorem listB_next {α : Type} {e : α → List UInt8} {l : List α} {i : Nat} (h : i < l.length) : putL l.length ++ (l.take (i + 1)).flatMap e = (putL l.length ++ (l.take i).flatMap e) ++ e l[i] := by
  rw [flat_next h, List.append_assoc]
theorem wput_nil (c : Int) (l : List UInt8) : wput c l [] = l := by unfold wput; split <;> simp
theorem listB_len {α : Type} {e : α → List UInt8} {l : List α} {B : Nat} (hl : l.length ≤ 9223372036854775807) (h : ∀ x ∈ l, (e x).length ≤ B) : (listB e l).length ≤ 10 + l.length * B := by
  have a := flatB_len h
  have b := putL_few l.length (by omega)
  unfold listB; rw [List.length_append]; omega
theorem ACalls.preQ {P : Program} {f : FuncId} {args : List AV} {foot pre F : St} {K : AV → St → Prop} (hc : ACalls P f args (foot ++ (pre ++ F)) fun x st' => ∃ foot', K x foot' ∧ st' = foot' ++ (pre ++ F)) : ACalls P f args (pre ++ (foot ++ F)) fun x st' => ∃ foot', K x foot' ∧ st' = pre ++ (foot' ++ F) := by
  have perm : ∀ (a : St), (pre ++ (a ++ F)).Perm (a ++ (pre ++ F)) := fun a => by
    rw [← List.append_assoc, ← List.append_assoc]
    exact List.Perm.append_right F List.perm_append_comm
  refine ⟨hc.enters, fun w vs hrel hs hr => ?_⟩
  have hx : Ext (pre ++ (foot ++ F)) w (foot ++ (pre ++ F)) w := Ext.sub fun p hp => (perm foot).mem_iff.2 hp
  have hrel2 : Rel (foot ++ (pre ++ F)) w := hrel.sub (fun p hp => (perm foot).mem_iff.2 hp) (((perm foot).map (·.1)).nodup_iff.1 hrel.nodup)
  refine (hc.calls w vs hrel2 hs fun i x v h1 h2 => (hr i x v h1 h2).mono hx hrel.nodup).mono ?_
  rintro e w' ⟨r, x, st', he, ⟨foot', hk, rfl⟩, hr', hrel', hext⟩
  have hy : Ext (foot' ++ (pre ++ F)) w' (pre ++ (foot' ++ F)) w' := Ext.sub fun p hp => (perm foot').mem_iff.1 hp
  exact ⟨r, x, _, he, ⟨foot', hk, rfl⟩, hr'.mono hy hrel'.nodup, hrel'.sub (fun p hp => (perm foot').mem_iff.1 hp) (((perm foot').map (·.1)).nodup_iff.2 hrel'.nodup), (hx.trans hext hrel.nodup).trans hy hrel.nodup⟩
end Go.AL

namespace Go.AL
open Go.RowKit Go.NumSpec
def spc0 : Spc := ⟨[], [], [], [], 0, 0, 0⟩
theorem spc0_light : lightS spc0 = true := by decide
theorem spcB_len {s : Spc} (h : checkE s = none) : (spcB s).length ≤ 20000 := by
  obtain ⟨h1, h2, h3, h4, h5, h6, h7⟩ := check_ok h
  have a1 := textB_len (s := s.name) (by omega)
  have a2 := listB_len (e := labB) (l := s.labels) (B := 1000) (by have := h2.1; omega) fun x hx => labB_len (by have := (h2.2 x hx).1; omega) (by have := (h2.2 x hx).2; omega)
  have a3 := listB_len (e := ctrB) (l := s.init) (B := 1000) (by have := h3.1; omega) fun x hx => ctrB_len (h3.2 x hx)
  have a4 := listB_len (e := ctrB) (l := s.main) (B := 1000) (by have := h4.1; omega) fun x hx => ctrB_len (h4.2 x hx)
  have a5 := numB_len (n := s.restart) (by omega)
  have a6 := numB_len (n := s.grace) (by omega)
  have a7 := numB_len (n := s.prio) (by omega)
  have b1 := h2.1
  have b2 := h3.1
  have b3 := h4.1
  unfold spcB labsB ctrsB
  simp only [List.length_append]; omega
end Go.AL

namespace Go.AL
open Go.RowKit Go.NumSpec
structure Cal where
  kind : Int
  uid : Int
  rev : Nat
  spec : Spc
  grace : Int
  ctr : Int
  id : Int
  most : Int
  data : List UInt8
  sel : List Lab
def calL (c : Cal) : List AV := [.int .i64 c.kind, .int .i64 c.uid, .int .u64 (c.rev : Int)] ++ (spcL c.spec ++ [.int .i64 c.grace, .int .i64 c.ctr, .int .i64 c.id, .int .i64 c.most, .S c.data, .sl (labsV c.sel)])
def calAV (c : Cal) : AV := .agg (calL c)
def cal0 (k : Int) : Cal := ⟨k, 0, 0, spc0, 0, 0, 0, 0, [], []⟩
/-- each kind's name and its fields' letters -/
def kindsT : List (List UInt8 × List UInt8) := [([], []), ([114, 117, 110], [115]), ([117, 112, 100, 97, 116, 101], [117, 114, 115]), ([107, 105, 108, 108], [117, 103]), ([111, 112, 101, 110], [117, 99]), ([119, 114, 105, 116, 101], [105, 100]), ([114, 101, 97, 100], [105, 109]), ([99, 108, 111, 115, 101], [105]), ([115, 116, 97, 116, 115], [117]), ([108, 105, 115, 116], [108]), ([103, 101, 116], [117]), ([119, 97, 116, 99, 104], [114, 108]), ([99, 97, 110, 99, 101, 108], [105])]
def kindsV : List Value := kindsT.flatMap fun x => [.string ⟨x.1.toArray⟩, .string ⟨x.2.toArray⟩]
abbrev kindA (i : Nat) : List UInt8 × List UInt8 := kindsT.getD i ([], [])
/-! Reading -/
/-! Writing -/
def fieldB (x : Cal) (f : UInt8) : List UInt8 :=
  if f = 117 then numB x.uid else if f = 114 then putL x.rev else if f = 115 then spcB x.spec else if f = 103 then numB x.grace else if f = 99 then numB x.ctr else if f = 105 then numB x.id else if f = 109 then numB x.most else if f = 100 then textB x.data else if f = 108 then labsB x.sel else []
def calB (x : Cal) : List UInt8 := numB x.kind ++ (kindA x.kind.toNat).2.flatMap (fieldB x)
def FieldOk (x : Cal) (f : UInt8) : Prop :=
  if f = 117 then 0 ≤ x.uid ∧ x.uid ≤ 1073741824 else if f = 114 then x.rev < 18446744073709551616 else if f = 115 then SpcOk x.spec else if f = 103 then 0 ≤ x.grace ∧ x.grace ≤ 1000 else if f = 99 then 0 ≤ x.ctr ∧ x.ctr ≤ 3 else if f = 105 then 0 ≤ x.id ∧ x.id ≤ 1073741824 else if f = 109 then 0 ≤ x.most ∧ x.most ≤ 32 else if f = 100 then (x.data.length : Int) ≤ 32 else if f = 108 then LabsOk x.sel else True
/-- what stays of a call, if only some fields are copied -/
def onlyA (fs : List UInt8) (x : Cal) : Cal := ⟨x.kind, if 117 ∈ fs then x.uid else 0, if 114 ∈ fs then x.rev else 0, if 115 ∈ fs then x.spec else spc0, if 103 ∈ fs then x.grace else 0, if 99 ∈ fs then x.ctr else 0, if 105 ∈ fs then x.id else 0, if 109 ∈ fs then x.most else 0, if 100 ∈ fs then x.data else [], if 108 ∈ fs then x.sel else []⟩
def KindOk (x : Cal) : Prop := 1 ≤ x.kind ∧ x.kind ≤ 12
def CalOk (x : Cal) : Prop := KindOk x ∧ (∀ f ∈ (kindA x.kind.toNat).2, FieldOk x f) ∧ onlyA (kindA x.kind.toNat).2 x = x
theorem Codec.of {α : Type} {f g : Rd α} {e d : α → List UInt8} {ok ok' : α → Prop} (h : Codec f e ok) (hf : g = f) (he : ∀ x, ok' x → ok x ∧ d x = e x) (hb : ∀ x, ok x → ok' x) : Codec g d ok' where
  back x t hx := by rw [hf, (he x hx).2]; exact h.back x t (he x hx).1
  canon s hs := by
    rw [hf] at hs ⊢
    obtain ⟨h1, h2⟩ := h.canon s hs
    have h3 := hb _ h2
    exact ⟨by rw [(he _ h3).2]; exact h1, h3⟩
  err s c hc := by rw [hf]; exact h.err s c hc
  cut x p hx hp hl := by
    rw [hf]
    rw [(he x hx).2] at hp hl
    exact h.cut x p (he x hx).1 hp hl
  len s c := by rw [hf]; exact h.len s c
theorem cal_ext {a b : Cal} (h1 : a.kind = b.kind) (h2 : a.uid = b.uid) (h3 : a.rev = b.rev) (h4 : a.spec = b.spec) (h5 : a.grace = b.grace) (h6 : a.ctr = b.ctr) (h7 : a.id = b.id) (h8 : a.most = b.most) (h9 : a.data = b.data) (h10 : a.sel = b.sel) : a = b := by
  cases a; cases b; simp only at *; subst h1 h2 h3 h4 h5 h6 h7 h8 h9 h10; rfl
/-! What may be -/
abbrev kindN : List UInt8 := [107, 105, 110, 100]
abbrev callN : List UInt8 := [99, 97, 108, 108]
def fieldE (x : Cal) (f : UInt8) : Er :=
  if f = 117 then withinE [117, 105, 100] x.uid 1 1073741824 else if f = 115 then erIn (checkE x.spec) [115, 112, 101, 99] else if f = 103 then withinE [103, 114, 97, 99, 101] x.grace 0 1000 else if f = 99 then withinE [99, 116, 114] x.ctr 0 3 else if f = 105 then withinE [105, 100] x.id 1 1073741824 else if f = 109 then withinE [109, 111, 115, 116] x.most 1 32
  else if f = 108 then labelsE [115, 101, 108] x.sel else if f = 100 then (if 32 < (x.data.length : Int) then some (2, [[100, 97, 116, 97]]) else none) else none
def cleanB (o x : Cal) : Bool := (decide (o.uid = x.uid) && decide (o.rev = x.rev) && decide (o.grace = x.grace) && decide (o.ctr = x.ctr) && decide (o.id = x.id) && decide (o.most = x.most)) && (decide (o.data = x.data) && (decide (o.sel.length = x.sel.length) && sameS o.spec x.spec))
def checkA (x : Cal) : Er := if x.kind < 1 ∨ 12 < x.kind then some (80, [kindN]) else match firstE ((kindA x.kind.toNat).2.map (fieldE x)) with | some e => some e | none => if cleanB (onlyA (kindA x.kind.toNat).2 x) x = true then none else some (4, [callN])
theorem clean_iff {fs : List UInt8} {x : Cal} : cleanB (onlyA fs x) x = true ↔ onlyA fs x = x := by
  unfold cleanB
  simp only [Bool.and_eq_true, decide_eq_true_eq, sameS_iff]
  constructor
  · rintro ⟨⟨⟨⟨⟨⟨h1, h2⟩, h3⟩, h4⟩, h5⟩, h6⟩, h7, h8, h9⟩
    refine cal_ext rfl h1 h2 h9 h3 h4 h5 h6 h7 ?_
    show (if 108 ∈ fs then x.sel else []) = x.sel
    have h8' : (if 108 ∈ fs then x.sel else []).length = x.sel.length := h8
    split
    · rfl
    · rename_i hn
      rw [if_neg hn] at h8'
      exact (List.eq_nil_of_length_eq_zero h8'.symm).symm
  · intro h
    rw [h]; simp
theorem field_ok {x : Cal} {f : UInt8} (hu : x.rev < 18446744073709551616) (h : fieldE x f = none) : FieldOk x f := by
  unfold fieldE at h; unfold FieldOk
  split at h
  · rename_i hf; rw [if_pos hf]; have := within_none h; omega
  · rename_i h117; rw [if_neg h117]
    split
    · exact hu
    · split at h
      · rename_i hf; rw [if_pos hf]; exact check_ok (erIn_none h)
      · rename_i h115; rw [if_neg h115]
        split at h
        · rename_i hf; rw [if_pos hf]; have := within_none h; omega
        · rename_i h103; rw [if_neg h103]
          split at h
          · rename_i hf; rw [if_pos hf]; have := within_none h; omega
          · rename_i h99; rw [if_neg h99]
            split at h
            · rename_i hf; rw [if_pos hf]; have := within_none h; omega
            · rename_i h105; rw [if_neg h105]
              split at h
              · rename_i hf; rw [if_pos hf]; have := within_none h; omega
              · rename_i h109; rw [if_neg h109]
                split
                · rename_i hf
                  subst hf
                  rw [if_neg (by decide), if_pos rfl] at h
                  split at h
                  · cases h
                  · omega
                · split
                  · rename_i hf
                    rw [if_pos hf] at h
                    have hl := labels_out h
                    refine ⟨by have := hl.1; omega, fun y hy => ?_⟩
                    have h9 := hl.2.2 y hy
                    have k1 := key_short h9.1
                    have k2 := val_short h9.2
                    exact ⟨by omega, by omega⟩
                  · trivial
theorem checkA_ok {x : Cal} (hu : x.rev < 18446744073709551616) (h : checkA x = none) : CalOk x ∧ ∀ f ∈ (kindA x.kind.toNat).2, fieldE x f = none := by
  unfold checkA at h
  split at h
  · cases h
  · rename_i hk
    split at h
    · cases h
    · rename_i hf
      split at h
      · rename_i hc
        have hall : ∀ f ∈ (kindA x.kind.toNat).2, fieldE x f = none := fun f hm => firstE_none hf _ (List.mem_map.2 ⟨f, hm, rfl⟩)
        exact ⟨⟨⟨by omega, by omega⟩, fun f hm => field_ok hu (hall f hm), clean_iff.1 hc⟩, hall⟩
      · cases h
/-! The walks' steps -/
def copyA (f : UInt8) (o x : Cal) : Cal :=
  if f = 117 then { o with uid := x.uid } else if f = 114 then { o with rev := x.rev } else if f = 115 then { o with spec := x.spec } else if f = 103 then { o with grace := x.grace } else if f = 99 then { o with ctr := x.ctr } else if f = 105 then { o with id := x.id } else if f = 109 then { o with most := x.most } else if f = 108 then { o with sel := x.sel } else if f = 100 then { o with data := x.data } else o
theorem copy_uid (f : UInt8) (o x : Cal) : (copyA f o x).uid = if f = 117 then x.uid else o.uid := by
  by_cases hf : f = 117
  · subst hf; rfl
  · rw [if_neg hf]; unfold copyA
    repeat (first | rfl | (split; first | rfl | (rename_i h9; exact absurd h9 hf)))
theorem copy_rev (f : UInt8) (o x : Cal) : (copyA f o x).rev = if f = 114 then x.rev else o.rev := by
  by_cases hf : f = 114
  · subst hf; rfl
  · rw [if_neg hf]; unfold copyA
    repeat (first | rfl | (split; first | rfl | (rename_i h9; exact absurd h9 hf)))
theorem copy_spec (f : UInt8) (o x : Cal) : (copyA f o x).spec = if f = 115 then x.spec else o.spec := by
  by_cases hf : f = 115
  · subst hf; rfl
  · rw [if_neg hf]; unfold copyA
    repeat (first | rfl | (split; first | rfl | (rename_i h9; exact absurd h9 hf)))
theorem copy_grace (f : UInt8) (o x : Cal) : (copyA f o x).grace = if f = 103 then x.grace else o.grace := by
  by_cases hf : f = 103
  · subst hf; rfl
  · rw [if_neg hf]; unfold copyA
    repeat (first | rfl | (split; first | rfl | (rename_i h9; exact absurd h9 hf)))
theorem copy_ctr (f : UInt8) (o x : Cal) : (copyA f o x).ctr = if f = 99 then x.ctr else o.ctr := by
  by_cases hf : f = 99
  · subst hf; rfl
  · rw [if_neg hf]; unfold copyA
    repeat (first | rfl | (split; first | rfl | (rename_i h9; exact absurd h9 hf)))
theorem copy_id (f : UInt8) (o x : Cal) : (copyA f o x).id = if f = 105 then x.id else o.id := by
  by_cases hf : f = 105
  · subst hf; rfl
  · rw [if_neg hf]; unfold copyA
    repeat (first | rfl | (split; first | rfl | (rename_i h9; exact absurd h9 hf)))
theorem copy_most (f : UInt8) (o x : Cal) : (copyA f o x).most = if f = 109 then x.most else o.most := by
  by_cases hf : f = 109
  · subst hf; rfl
  · rw [if_neg hf]; unfold copyA
    repeat (first | rfl | (split; first | rfl | (rename_i h9; exact absurd h9 hf)))
theorem copy_data (f : UInt8) (o x : Cal) : (copyA f o x).data = if f = 100 then x.data else o.data := by
  by_cases hf : f = 100
  · subst hf; rfl
  · rw [if_neg hf]; unfold copyA
    repeat (first | rfl | (split; first | rfl | (rename_i h9; exact absurd h9 hf)))
theorem copy_sel (f : UInt8) (o x : Cal) : (copyA f o x).sel = if f = 108 then x.sel else o.sel := by
  by_cases hf : f = 108
  · subst hf; rfl
  · rw [if_neg hf]; unfold copyA
    repeat (first | rfl | (split; first | rfl | (rename_i h9; exact absurd h9 hf)))
theorem copy_kind (f : UInt8) (o x : Cal) : (copyA f o x).kind = o.kind := by
  unfold copyA
  repeat (first | rfl | (split; first | rfl | skip))
theorem pick_next {α : Type} {l : List UInt8} {f L : UInt8} {v z : α} : (if L ∈ l ++ [f] then v else z) = (if f = L then v else (if L ∈ l then v else z)) := by
  by_cases hf : f = L
  · subst hf; rw [if_pos rfl, if_pos (by simp)]
  · rw [if_neg hf]
    by_cases hl : L ∈ l
    · rw [if_pos hl, if_pos (by simp [hl])]
    · rw [if_neg hl, if_neg (by simp only [List.mem_append, List.mem_singleton]; rintro (k | k); exact hl k; exact hf k.symm)]
theorem only_next {fs : List UInt8} {x : Cal} {i : Nat} (h : i < fs.length) : onlyA (fs.take (i + 1)) x = copyA fs[i] (onlyA (fs.take i) x) x := by
  rw [List.take_succ_eq_append_getElem h]
  refine cal_ext (by rw [copy_kind]; rfl) (by rw [copy_uid]; exact pick_next) (by rw [copy_rev]; exact pick_next) (by rw [copy_spec]; exact pick_next) (by rw [copy_grace]; exact pick_next) (by rw [copy_ctr]; exact pick_next) (by rw [copy_id]; exact pick_next) (by rw [copy_most]; exact pick_next) (by rw [copy_data]; exact pick_next) (by rw [copy_sel]; exact pick_next)
theorem kindsT_len : kindsT.length = 13 := rfl
theorem kind_at {i : Nat} (h : i < 13) : kindsV[2 * i]? = some (.string ⟨(kindA i).1.toArray⟩) ∧ kindsV[2 * i + 1]? = some (.string ⟨(kindA i).2.toArray⟩) := by
  match i, h with
  | 0, _ => exact ⟨rfl, rfl⟩
  | 1, _ => exact ⟨rfl, rfl⟩
  | 2, _ => exact ⟨rfl, rfl⟩
  | 3, _ => exact ⟨rfl, rfl⟩
  | 4, _ => exact ⟨rfl, rfl⟩
  | 5, _ => exact ⟨rfl, rfl⟩
  | 6, _ => exact ⟨rfl, rfl⟩
  | 7, _ => exact ⟨rfl, rfl⟩
  | 8, _ => exact ⟨rfl, rfl⟩
  | 9, _ => exact ⟨rfl, rfl⟩
  | 10, _ => exact ⟨rfl, rfl⟩
  | 11, _ => exact ⟨rfl, rfl⟩
  | 12, _ => exact ⟨rfl, rfl⟩
  | k + 13, h => omega
theorem kind_row {v : Int} (h0 : 0 ≤ v) (h : v < 13) : ((kindsV.drop (0 + v.toNat * 2)).take 2).map AV.lit = [.S (kindA v.toNat).1, .S (kindA v.toNat).2] := by
  have : ∀ i, i < 13 → ((kindsV.drop (0 + i * 2)).take 2).map AV.lit = [.S (kindA i).1, .S (kindA i).2] := fun i hi => match i, hi with
    | 0, _ => rfl
    | 1, _ => rfl
    | 2, _ => rfl
    | 3, _ => rfl
    | 4, _ => rfl
    | 5, _ => rfl
    | 6, _ => rfl
    | 7, _ => rfl
    | 8, _ => rfl
    | 9, _ => rfl
    | 10, _ => rfl
    | 11, _ => rfl
    | 12, _ => rfl
    | k + 13, h => absurd h (by omega)
  exact this _ (by omega)
theorem kindT_fields {v : Int} (h0 : 0 ≤ v) (h : v < 13) : kindsV[0 + v.toNat * 2 + 1]? = some (.string ⟨(kindA v.toNat).2.toArray⟩) := by
  rw [show 0 + v.toNat * 2 + 1 = 2 * v.toNat + 1 by omega]; exact (kind_at (by omega)).2
theorem fields_few (i : Nat) : (kindA i).2.length ≤ 3 := by
  rcases Nat.lt_or_ge i 13 with h | h
  · have : ∀ j, j < 13 → (kindA j).2.length ≤ 3 := by decide
    exact this i h
  · unfold kindA
    rw [List.getD_eq_getElem?_getD, List.getElem?_eq_none (by rw [kindsT_len]; omega)]; decide
end Go.AL

namespace Go.AL
open Go.RowKit Go.NumSpec
/-- each verb's word, how many numbers, what data -/
def verbsT : List (List UInt8 × Int × Int) := [([], 0, 0), ([99, 111, 110, 110, 101, 99, 116], 0, 0), ([98, 121, 116, 101, 115], 1, 1), ([114, 101, 97, 100], 1, 0), ([104, 97, 110, 103], 1, 0), ([116, 105, 99, 107], 0, 0), ([114, 111, 117, 110, 100], 0, 0), ([112, 105, 99, 107], 1, 0), ([102, 97, 105, 108], 1, 0), ([101, 120, 105, 116], 3, 0), ([112, 114, 111, 98, 101], 3, 0), ([103, 114, 111, 119], 5, 0), ([115, 116, 114, 97, 121], 1, 0), ([108, 105, 115, 116], 1, 0), ([103, 101, 116], 2, 0), ([115, 116, 97, 116, 115], 2, 0), ([107, 105, 108, 108], 3, 0), ([111, 112, 101, 110], 3, 0), ([119, 114, 105, 116, 101], 2, 2), ([116, 97, 107, 101], 3, 0), ([99, 108, 111, 115, 101], 2, 0), ([119, 97, 116, 99, 104], 2, 0), ([99, 97, 110, 99, 101, 108], 2, 0), ([114, 117, 110], 4, 2)]
def verbsV : List Value := verbsT.flatMap fun x => [.string ⟨x.1.toArray⟩, .int .i64 x.2.1, .int .i64 x.2.2]
abbrev v0 : List UInt8 × Int × Int := ([], 0, 0)
abbrev verbA (i : Nat) : List UInt8 × Int × Int := verbsT.getD i v0
theorem verbs_at {i : Nat} (h : i < 24) : verbsV[3 * i]? = some (.string ⟨(verbA i).1.toArray⟩) ∧ verbsV[3 * i + 1]? = some (.int .i64 (verbA i).2.1) ∧ verbsV[3 * i + 2]? = some (.int .i64 (verbA i).2.2) := by
  match i, h with
  | 0, _ => exact ⟨rfl, rfl, rfl⟩
  | 1, _ => exact ⟨rfl, rfl, rfl⟩
  | 2, _ => exact ⟨rfl, rfl, rfl⟩
  | 3, _ => exact ⟨rfl, rfl, rfl⟩
  | 4, _ => exact ⟨rfl, rfl, rfl⟩
  | 5, _ => exact ⟨rfl, rfl, rfl⟩
  | 6, _ => exact ⟨rfl, rfl, rfl⟩
  | 7, _ => exact ⟨rfl, rfl, rfl⟩
  | 8, _ => exact ⟨rfl, rfl, rfl⟩
  | 9, _ => exact ⟨rfl, rfl, rfl⟩
  | 10, _ => exact ⟨rfl, rfl, rfl⟩
  | 11, _ => exact ⟨rfl, rfl, rfl⟩
  | 12, _ => exact ⟨rfl, rfl, rfl⟩
  | 13, _ => exact ⟨rfl, rfl, rfl⟩
  | 14, _ => exact ⟨rfl, rfl, rfl⟩
  | 15, _ => exact ⟨rfl, rfl, rfl⟩
  | 16, _ => exact ⟨rfl, rfl, rfl⟩
  | 17, _ => exact ⟨rfl, rfl, rfl⟩
  | 18, _ => exact ⟨rfl, rfl, rfl⟩
  | 19, _ => exact ⟨rfl, rfl, rfl⟩
  | 20, _ => exact ⟨rfl, rfl, rfl⟩
  | 21, _ => exact ⟨rfl, rfl, rfl⟩
  | 22, _ => exact ⟨rfl, rfl, rfl⟩
  | 23, _ => exact ⟨rfl, rfl, rfl⟩
  | k + 24, h => omega
theorem verbs_num {v : Int} (h0 : 0 ≤ v) (h : v < 24) : verbsV[0 + v.toNat * 3 + 1]? = some (.int .i64 (verbA v.toNat).2.1) := by
  rw [show 0 + v.toNat * 3 + 1 = 3 * v.toNat + 1 by omega]; exact (verbs_at (by omega)).2.1
theorem verbs_data {v : Int} (h0 : 0 ≤ v) (h : v < 24) : verbsV[0 + v.toNat * 3 + 2]? = some (.int .i64 (verbA v.toNat).2.2) := by
  rw [show 0 + v.toNat * 3 + 2 = 3 * v.toNat + 2 by omega]; exact (verbs_at (by omega)).2.2
structure Ent where
  verb : Int
  n : List Int
  data : List UInt8
def entL (e : Ent) : List AV := [.int .i64 e.verb, .sl (intsV e.n), .S e.data]
def entAV (e : Ent) : AV := .agg (entL e)
def dataB (k : Int) (d : List UInt8) : Bool := if k = 1 then decide (d ≠ [] ∧ (d.length : Int) ≤ 1000) else if k = 2 then nameV d else decide (d = [])
def numQ (n : Int) : Bool := decide (0 ≤ n ∧ n ≤ 1073741824)
def rightB (e : Ent) : Bool := decide (1 ≤ e.verb ∧ e.verb < 24 ∧ (e.n.length : Int) = (verbA e.verb.toNat).2.1) && (e.n.all numQ && dataB (verbA e.verb.toNat).2.2 e.data)
theorem right_no {e : Ent} (h : (e.verb < 1 ∨ 24 ≤ e.verb) ∨ (e.n.length : Int) ≠ (verbA e.verb.toNat).2.1) : rightB e = false := by
  unfold rightB
  rw [decide_eq_false (by rintro ⟨h1, h2, h3⟩; rcases h with (h | h) | h <;> first | omega | exact h h3)]; rfl
theorem right_num {e : Ent} {i : Nat} (hi : i < e.n.length) (h : e.n[i] < 0 ∨ 1073741824 < e.n[i]) : rightB e = false := by
  have : e.n.all numQ = false := List.all_eq_false.2 ⟨_, List.getElem_mem hi, by unfold numQ; simp; omega⟩
  unfold rightB; rw [this]; simp
theorem right_yes {e : Ent} (h1 : 1 ≤ e.verb) (h2 : e.verb < 24) (h3 : (e.n.length : Int) = (verbA e.verb.toNat).2.1) (h4 : ∀ i (hi : i < e.n.length), 0 ≤ e.n[i] ∧ e.n[i] ≤ 1073741824) : rightB e = dataB (verbA e.verb.toNat).2.2 e.data := by
  have : e.n.all numQ = true := List.all_eq_true.2 fun x hx => by
    obtain ⟨i, hi, rfl⟩ := List.mem_iff_getElem.1 hx
    exact decide_eq_true (h4 i hi)
  unfold rightB; rw [decide_eq_true ⟨h1, h2, h3⟩, this]; rfl
def numbersI : List Int := verbsT.map (·.2.1)
theorem numbers_len : numbersI.length = 24 := rfl
theorem numbers_at (i : Nat) : numbersI.getD i 0 = (verbA i).2.1 := by
  unfold numbersI verbA
  simp only [List.getD_eq_getElem?_getD, List.getElem?_map]
  cases verbsT[i]? <;> rfl
theorem kind_hex {v : Int} (h1 : 1 ≤ v) (h2 : v < 24) : (verbA v.toNat).2.2 = 1 ↔ v = 2 := by
  obtain ⟨n, rfl⟩ := Int.eq_ofNat_of_zero_le (show 0 ≤ v by omega)
  have hn : n < 24 := by omega
  rw [Int.toNat_natCast]
  have : ∀ k, k < 24 → ((verbA k).2.2 = 1 ↔ (k : Int) = 2) := by decide
  exact this n hn
theorem kind_name {v : Int} (h1 : 1 ≤ v) (h2 : v < 24) : (verbA v.toNat).2.2 = 2 ↔ (v = 18 ∨ v = 23) := by
  obtain ⟨n, rfl⟩ := Int.eq_ofNat_of_zero_le (show 0 ≤ v by omega)
  have hn : n < 24 := by omega
  rw [Int.toNat_natCast]
  have : ∀ k, k < 24 → ((verbA k).2.2 = 2 ↔ ((k : Int) = 18 ∨ (k : Int) = 23)) := by decide
  exact this n hn
theorem hex_len {d : List UInt8} : (decide (1 ≤ (d.length : Int)) && decide ((d.length : Int) ≤ 1000)) = decide (d ≠ [] ∧ (d.length : Int) ≤ 1000) := by
  rw [← Bool.decide_and]
  refine decide_eq_decide.2 (and_congr ⟨fun h e9 => ?_, fun h => ?_⟩ Iff.rfl)
  · rw [e9] at h; simp at h
  · have := List.length_pos_iff.2 h; omega
def hexD (n : Nat) : UInt8 := if n < 10 then UInt8.ofNat (48 + n) else UInt8.ofNat (87 + n)
def hexV (c : UInt8) : Int := if 48 ≤ c.toNat ∧ c.toNat ≤ 57 then (c.toNat : Int) - 48 else if 97 ≤ c.toNat ∧ c.toNat ≤ 102 then (c.toNat : Int) - 87 else -1
def hex2 (c : UInt8) : List UInt8 := [hexD (c.toNat / 16), hexD (c.toNat % 16)]
def toHexL (s : List UInt8) : List UInt8 := s.flatMap hex2
theorem toHex_next {s : List UInt8} {i : Nat} (h : i < s.length) : toHexL (s.take (i + 1)) = (toHexL (s.take i) ++ [hexD (s[i].toNat / 16)]) ++ [hexD (s[i].toNat % 16)] := by
  unfold toHexL
  rw [List.take_succ_eq_append_getElem h, List.flatMap_append]
  simp [hex2]
theorem toHex_len (s : List UInt8) : (toHexL s).length = 2 * s.length := by
  unfold toHexL
  induction s with
  | nil => rfl
  | cons x s ih => rw [List.flatMap_cons, List.length_append, ih, List.length_cons]; simp [hex2]; omega
def digitsB : List UInt8 := [48, 49, 50, 51, 52, 53, 54, 55, 56, 57, 97, 98, 99, 100, 101, 102]
theorem digits_at {k : Nat} (h : k < 16) : atL digitsB (k : Int) = ((hexD k).toNat : Int) := by
  have : ∀ j : Nat, j < 16 → atL digitsB (j : Int) = ((hexD j).toNat : Int) := by decide
  exact this k h
end Go.AL

namespace Go.AL
open Go.RowKit
section
variable {P : Program} {N : Nat} {env : Env} {st : St} {o : Oper}
/-- A function's value: what it is, and what it holds. -/
abbrev AV.fn (f : FuncId) (caps : List Value) : AV := .lit (.func (.func f) #[] caps.toArray)
theorem AEv.fn (f : FuncId) : AEv env (.func f) (.fn f []) := AEv.func f
theorem S_makeFunc {f : FuncId} {xs : List Operand} {caps : List Value} (ho : o.op = .makeFunc (.func f) #[] xs.toArray) (hc : AEvs env xs (caps.map .lit)) : PStep P N o env st (.fn f caps) :=
  .of_val fun a w hg => by
    obtain ⟨hl, hr⟩ := hc.at_ hg
    have e : xs.map a.eval = caps := by
      refine List.ext_getElem? fun i => ?_
      simp only [List.getElem?_map]
      have hl' : caps.length = xs.length := by simpa using hl.symm
      cases hx : xs[i]? with
      | none =>
        have : xs.length ≤ i := by simpa using hx
        simp; omega
      | some x =>
        have hi : i < caps.length := by have := (List.getElem?_eq_some_iff.1 hx).1; omega
        have := hr i (.lit caps[i]) x (by simp [hi]) hx
        have := this.lit_inv
        simp [hi, this]
    refine ⟨.func (.func f) #[] caps.toArray, ?_, .lit _⟩
    simp [execOp, ho, Instr.makeFunc, e]

theorem S_callF {f : FuncId} {x : Operand} {caps : List Value} {xs : List Operand} {ts : Array TypeId} {args : List AV} {K : AV → St → Prop} (ho : o.op = .call { callee := .value x, args := xs.toArray, argTypes := ts }) (hx : AEv env x (.fn f caps)) (hargs : AEvs env xs args) (hc : ACalls P f (args ++ caps.map .lit) st K) : Step P N o env st K := by
  intro a w hg next Q hn
  obtain ⟨hl, hr⟩ := hargs.at_ hg
  have hf := (hx _ _ _ _ hg).lit_inv
  have hrun : (execOp a.eval o).run P w = .ok (.enter f ((xs.map a.eval) ++ caps).toArray) w := by
    simp [execOp, ho, resolve, Deferred.ofValue, hf, invoke, run_callFunc' hc.enters]
  unfold Oper.wp
  rw [hrun]
  have hl2 : args.length = xs.length := hl.symm
  refine (hc.calls w _ hg.rel (by simp [hl2]) fun i y v hy hv => ?_).mono ?_
  · simp only [List.getElem?_toArray] at hv
    rcases Nat.lt_or_ge i args.length with hi | hi
    · rw [List.getElem?_append_left hi] at hy
      rw [List.getElem?_append_left (by simp; omega)] at hv
      simp at hv
      obtain ⟨u, hu, rfl⟩ := hv
      exact hr i y u hy hu
    · rw [List.getElem?_append_right hi] at hy
      rw [List.getElem?_append_right (by simp; omega)] at hv
      simp only [List.length_map] at hv
      rw [← hl2] at hv
      simp only [List.getElem?_map, hv, Option.map_some, Option.some.injEq] at hy
      subst hy
      exact .lit v
  · rintro e w' ⟨r, y, st', rfl, k, h1, h2, h3⟩
    exact hn y st' r w' k h1 h2 h3
end
end Go.AL

namespace Go.AL
open Go.RowKit
section
variable {P : Program} {N : Nat} {env : Env} {st : St} {o : Oper} {w : World}
theorem S_loadKs {t : TypeId} {x : Operand} {b off m : Nat} {vs : List Value} (ho : o.op = .load t x) (hx : AEv env x (.ptr b off)) (hst : (b, Ob.konst vs) ∈ st) (ht : rowT P t m = true) (hm : off + m ≤ vs.length) : PStep P N o env st (.agg (((vs.drop off).take m).map AV.lit)) :=
  .of_val fun a w hg => by
    obtain ⟨d, hu, hd, hi⟩ := rowT_spec ht
    have e := eval_ptr hx hg
    have hlen : ((vs.drop off).take m).length = m := by simp; omega
    refine ⟨.agg ((vs.drop off).take m).toArray, ?_, .agg _ _ (by simp) fun i c v hc hv => ?_⟩
    · have hr : w.rangeAt b off ((vs.drop off).take m) := fun j v hv => by
        have hj : j < m := by have := (List.getElem?_eq_some_iff.1 hv).1; omega
        rw [List.getElem?_take_of_lt hj, List.getElem?_drop] at hv
        exact (hg.rel.konst b vs hst).2 _ _ hv
      simp only [execOp, ho, e, Sem.run_bind, run_loadAt_mid (P := P) w b off t _ d hr hu hd (by rw [hi, hlen]), Result.andThen_ok, Sem.run_pure]
    · rw [List.getElem?_toArray] at hv
      rw [List.getElem?_map, hv] at hc
      rw [← Option.some.inj hc]
      exact .lit _
theorem PStep.leV {V V' : AV} (h : PStep P N o env st V) (hl : Le V V') : PStep P N o env st V' := fun a w hg next Q hn => h a w hg next Q fun x st' v w' ⟨h1, h2⟩ hr hrel hx => by
  subst h1; exact hn V' st' v w' ⟨rfl, h2⟩ (hl _ _ _ hr) hrel hx
/-- .. an element of a row of rows that is a value -/
theorem S_idxRow {t e : TypeId} {len m : Nat} {x y : Operand} {cs : List AV} {k : IntKind} {i : Int} (ho : o.op = .index t x y) (hx : AEv env x (.agg cs)) (hy : AEv env y (.int k i)) (hu : P.underlying t = some (.array len e)) (ht : rowT P e m = true) (h0 : 0 ≤ i) (h1 : i < len) (hm : i.toNat * m + m ≤ cs.length) : PStep P N o env st (.agg ((cs.drop (i.toNat * m)).take m)) :=
  .of_val fun a w hg => by
    obtain ⟨vs, e1, hn, hr⟩ := agg_inv (hx _ _ _ _ hg)
    have e2 := (hy _ _ _ _ hg).lit_inv
    obtain ⟨d, hu2, hd, hi⟩ := rowT_spec ht
    have := run_part_row (P := P) (cs := vs) (k := i.toNat * m) w ht
    refine ⟨.agg (vs.extract (i.toNat * m) (i.toNat * m + m)), ?_, .agg _ _ (by simp; omega) fun j c v hc hv => ?_⟩
    · cases hq : P.info? e with
      | none => simp [hq] at hi
      | some q =>
        have hqm : q.size = m := by simpa [hq] using hi
        simp [execOp, ho, e1, e2, Instr.index, asIntOf, run_underlying hu, h0, h1, sizeOf, typeInfo, hq, hqm, this]
    · have hj : j < m := by have := (List.getElem?_eq_some_iff.1 hc).1; simp at this; omega
      rw [List.getElem?_take_of_lt hj, List.getElem?_drop] at hc
      refine hr _ c v hc ?_
      rw [Array.getElem?_extract] at hv
      split at hv
      · exact hv
      · cases hv
/-- .. an element of one cell of an array that is a value -/
theorem S_idxOne {t e : TypeId} {len : Nat} {x y : Operand} {cs : List AV} {c : AV} {k : IntKind} {i : Int} (ho : o.op = .index t x y) (hx : AEv env x (.agg cs)) (hy : AEv env y (.int k i)) (hu : P.underlying t = some (.array len e)) (ht : flatT P e = true) (hm : (P.info? e).map (·.size) = some 1) (h0 : 0 ≤ i) (h1 : i < len) (hc : cs[i.toNat]? = some c) : PStep P N o env st c :=
  .of_val fun a w hg => by
    obtain ⟨vs, e1, hn, hr⟩ := agg_inv (hx _ _ _ _ hg)
    have e2 := (hy _ _ _ _ hg).lit_inv
    have hk : i.toNat < vs.size := by have := (List.getElem?_eq_some_iff.1 hc).1; omega
    refine ⟨vs[i.toNat], ?_, hr _ _ _ hc (by simp [hk])⟩
    have := run_part_flat (P := P) w ht (show vs[i.toNat]? = some vs[i.toNat] by simp [hk])
    cases hq : P.info? e with
    | none => simp [hq] at hm
    | some q =>
      have hqm : q.size = 1 := by simpa [hq] using hm
      simp [execOp, ho, e1, e2, Instr.index, asIntOf, run_underlying hu, h0, h1, sizeOf, typeInfo, hq, hqm, this]
end
end Go.AL

namespace Go.AL
open Go.RowKit
section
variable {P : Program} {N : Nat} {Q : Post} {env : Env} {st : St} {ops : Array Oper}
def AO (P : Program) (N : Nat) (ops : Array Oper) (Q : Post) (fuel : Nat) (listed : Array Bool) (env : Env) (st : St) : Prop :=
  ∀ (st0 : St) (w0 : World) (a : Act) (w : World), (st0.map (·.1)).Nodup → Good N env st a w → Ext st0 w0 st w → wpAny P .any ops (Sat N Q st0 w0) fuel listed a w
inductive AllI (p : Nat → Prop) : List Nat → Prop
  | nil : AllI p []
  | cons {i : Nat} {l : List Nat} (h : p i) (t : AllI p l) : AllI p (i :: l)
theorem AllI.at_ {p : Nat → Prop} : ∀ {l : List Nat}, AllI p l → ∀ i ∈ l, p i
  | _, .cons h t, i, hi => by
    rcases List.mem_cons.1 hi with rfl | hi
    · exact h
    · exact t.at_ i hi
def AO1 (P : Program) (N : Nat) (ops : Array Oper) (Q : Post) (fuel : Nat) (listed : Array Bool) (env : Env) (st : St) (i : Nat) : Prop :=
  ∃ (o : Oper) (K : AV → St → Prop), ops[i]? = some o ∧ o.guard = none ∧ dstIn N o.dst = true ∧ Step P N o env st K ∧ ∀ x st', K x st' → AO P N ops Q fuel (listed.setIfInBounds i true) (putE o.dst x env) st'
theorem AO1.mk' {fuel i : Nat} {listed : Array Bool} {o : Oper} {K : AV → St → Prop} (ho : ops[i]? = some o) (hgd : o.guard = none) (hd : dstIn N o.dst = true) (hs : Step P N o env st K) (h : ∀ x st', K x st' → AO P N ops Q fuel (listed.setIfInBounds i true) (putE o.dst x env) st') : AO1 P N ops Q fuel listed env st i := ⟨o, K, ho, hgd, hd, hs, h⟩
end
end Go.AL

namespace Go.AL
open Go.RowKit Go.NumSpec
theorem u8_eq {f k : UInt8} (h : (f.toNat : Int) = (k.toNat : Int)) : f = k := UInt8.toNat_inj.1 (Int.ofNat_inj.1 h)
theorem kind_out {v : Int} (h : v < 1 ∨ 13 ≤ v) : kindA v.toNat = ([], []) := by
  rcases h with h | h
  · rw [show v.toNat = 0 by omega]; rfl
  · unfold kindA
    rw [List.getD_eq_getElem?_getD, List.getElem?_eq_none (by rw [kindsT_len]; omega)]; rfl
/-- what a call must be for the walks -/
def ShortA (x : Cal) : Prop := lightS x.spec = true ∧ x.sel.length ≤ 1000000 ∧ ∀ y ∈ x.sel, y.1.length ≤ 1000000 ∧ y.2.length ≤ 1000000
theorem cal0_short (k : Int) : ShortA (cal0 k) := ⟨spc0_light, Nat.zero_le _, fun y hy => absurd hy List.not_mem_nil⟩
/-- alike -/
def sameA (a b : Cal) : Bool := decide (a.kind = b.kind) && decide (a.uid = b.uid) && decide (a.rev = b.rev) && sameS a.spec b.spec && decide (a.grace = b.grace) && decide (a.ctr = b.ctr) && decide (a.id = b.id) && decide (a.most = b.most) && decide (a.data = b.data) && decide (a.sel = b.sel)
theorem sameA_iff {a b : Cal} : sameA a b = true ↔ a = b := by
  unfold sameA
  simp only [Bool.and_eq_true, decide_eq_true_eq, sameS_iff]
  constructor
  · rintro ⟨⟨⟨⟨⟨⟨⟨⟨⟨h1, h2⟩, h3⟩, h4⟩, h5⟩, h6⟩, h7⟩, h8⟩, h9⟩, h10⟩
    exact cal_ext h1 h2 h3 h4 h5 h6 h7 h8 h9 h10
  · intro h; subst h; simp
theorem sameA_refl (a : Cal) : sameA a a = true := sameA_iff.2 rfl
theorem field_data (x : Cal) : fieldE x 100 = if 32 < (x.data.length : Int) then some (2, [[100, 97, 116, 97]]) else none := rfl
/-! Sizes -/
theorem fieldB_len {x : Cal} {f : UInt8} (h : FieldOk x f) (hs : f = 115 → (spcB x.spec).length ≤ 20000) (hl : f = 108 → (labsB x.sel).length ≤ 20000) : (fieldB x f).length ≤ 20000 := by
  unfold fieldB; unfold FieldOk at h
  split
  · rename_i hf; rw [if_pos hf] at h
    have := numB_len (n := x.uid) (by omega); omega
  · rename_i h1; rw [if_neg h1] at h
    split
    · rename_i hf; rw [if_pos hf] at h; have := putL_few x.rev h; omega
    · rename_i h2; rw [if_neg h2] at h
      split
      · rename_i hf; exact hs hf
      · rename_i h3; rw [if_neg h3] at h
        split
        · rename_i hf; rw [if_pos hf] at h
          have := numB_len (n := x.grace) (by omega); omega
        · rename_i h4; rw [if_neg h4] at h
          split
          · rename_i hf; rw [if_pos hf] at h
            have := numB_len (n := x.ctr) (by omega); omega
          · rename_i h5; rw [if_neg h5] at h
            split
            · rename_i hf; rw [if_pos hf] at h
              have := numB_len (n := x.id) (by omega); omega
            · rename_i h6; rw [if_neg h6] at h
              split
              · rename_i hf; rw [if_pos hf] at h
                have := numB_len (n := x.most) (by omega); omega
              · rename_i h7; rw [if_neg h7] at h
                split
                · rename_i hf; rw [if_pos hf] at h
                  have := textB_len (s := x.data) (by omega); omega
                · split
                  · rename_i hf; exact hl hf
                  · exact Nat.zero_le _
theorem fieldB_few {x : Cal} {f : UInt8} (hu : x.rev < 18446744073709551616) (h : fieldE x f = none) : (fieldB x f).length ≤ 20000 := by
  refine fieldB_len (field_ok hu h) (fun hf => ?_) fun hf => ?_
  · subst hf; exact spcB_len (erIn_none h)
  · subst hf
    have hl := labels_out h
    have := listB_len (e := labB) (l := x.sel) (B := 1000) (by have := hl.1; omega) fun y hy => by
      have h9 := hl.2.2 y hy
      have k1 := key_short h9.1
      have k2 := val_short h9.2
      exact labB_len (by omega) (by omega)
    have := hl.1
    show (listB labB x.sel).length ≤ 20000
    omega
/-! What is read is light -/
end Go.AL

namespace Go.AL
open Go.RowKit Go.NumSpec
theorem only_light {fs : List UInt8} {x : Cal} (h : lightS x.spec = true) : lightS (onlyA fs x).spec = true := by
  show lightS (if 115 ∈ fs then x.spec else spc0) = true
  split
  · exact h
  · exact spc0_light
theorem check_kind {x : Cal} (h : 1 ≤ x.kind → 13 ≤ x.kind) : checkA x = some (80, [kindN]) := by
  unfold checkA; rw [if_pos (by omega)]
theorem firstA_at {l : List Er} {i : Nat} (hi : i < l.length) (hall : ∀ j (h : j < l.length), j < i → l[j] = none) (h : l[i] ≠ none) : firstE l = l[i] := by
  induction l generalizing i with
  | nil => exact absurd hi (Nat.not_lt_zero _)
  | cons a l ih =>
    cases i with
    | zero =>
      cases a with
      | none => exact absurd rfl h
      | some e => simp [firstE]
    | succ i =>
      have h0 := hall 0 (Nat.zero_lt_succ _) (Nat.zero_lt_succ _)
      simp only [List.getElem_cons_zero] at h0
      subst h0
      have h9 := ih (i := i) (by simpa using hi) (fun j hj hji => by have := hall (j + 1) (by simpa using hj) (by omega); simpa using this) (by simpa using h)
      simpa [firstE] using h9
theorem check_field {x : Cal} {i : Nat} (hk : 1 ≤ x.kind ∧ x.kind < 13) (hil : i < (kindA x.kind.toNat).2.length) (hall : ∀ j (h : j < (kindA x.kind.toNat).2.length), j < i → fieldE x ((kindA x.kind.toNat).2[j]) = none) (h : fieldE x ((kindA x.kind.toNat).2[i]) ≠ none) : checkA x = fieldE x ((kindA x.kind.toNat).2[i]) := by
  have h1 : firstE ((kindA x.kind.toNat).2.map (fieldE x)) = fieldE x ((kindA x.kind.toNat).2[i]) := by
    have h2 := firstA_at (l := (kindA x.kind.toNat).2.map (fieldE x)) (i := i) (by rw [List.length_map]; exact hil) (fun j hj hji => by rw [List.getElem_map]; exact hall j (by rw [List.length_map] at hj; exact hj) hji) (by rw [List.getElem_map]; exact h)
    rw [h2, List.getElem_map]
  unfold checkA
  rw [if_neg (by omega), h1]
  cases he : fieldE x ((kindA x.kind.toNat).2[i]) with
  | none => exact absurd he h
  | some e => rfl
theorem firstA_nones {l : List Er} (h : ∀ e ∈ l, e = none) : firstE l = none := by
  induction l with
  | nil => rfl
  | cons a l ih =>
    have h0 := h a List.mem_cons_self
    subst h0
    simpa [firstE] using ih fun e he => h e (List.mem_cons_of_mem _ he)
theorem check_rest {x : Cal} (hk : 1 ≤ x.kind ∧ x.kind < 13) (hf : ∀ f ∈ (kindA x.kind.toNat).2, fieldE x f = none) : checkA x = if cleanB (onlyA (kindA x.kind.toNat).2 x) x = true then none else some (4, [callN]) := by
  unfold checkA
  rw [if_neg (by omega), firstA_nones (l := (kindA x.kind.toNat).2.map (fieldE x)) fun e he => by
    obtain ⟨f, hm, rfl⟩ := List.mem_map.1 he
    exact hf f hm]
theorem check_unclean {x : Cal} (hk : 1 ≤ x.kind ∧ x.kind < 13) (hf : ∀ f ∈ (kindA x.kind.toNat).2, fieldE x f = none) (h : cleanB (onlyA (kindA x.kind.toNat).2 x) x = false) : checkA x = some (4, [callN]) := by
  rw [check_rest hk hf, if_neg (by rw [h]; simp)]
theorem check_clean {x : Cal} (hk : 1 ≤ x.kind ∧ x.kind < 13) (hf : ∀ f ∈ (kindA x.kind.toNat).2, fieldE x f = none) (h : cleanB (onlyA (kindA x.kind.toNat).2 x) x = true) : checkA x = none := by
  rw [check_rest hk hf, if_pos h]
/-! What is read -/
end Go.AL

namespace Go.AL
open Go.RowKit Go.NumSpec
theorem well_field (x : Cal) (f : UInt8) : WellE (fieldE x f) := by
  unfold fieldE
  repeat' split
  all_goals first | exact well_within _ _ _ _ | exact well_in (well_check _) _ | exact well_labels _ _ | exact well_none | exact well_some (by decide) (by simp)
theorem well_A (x : Cal) : WellE (checkA x) := by
  unfold checkA
  split
  · exact well_some (by decide) (by simp)
  · split
    · rename_i e h
      rw [← h]
      refine well_first fun e he => ?_
      obtain ⟨f, _, rfl⟩ := List.mem_map.1 he
      exact well_field x f
    · split
      · exact well_none
      · exact well_some (by decide) (by simp)
theorem check_code {x : Cal} (h : erCode (checkA x) = 0) : checkA x = none := (well_A x).code.1 h
end Go.AL

namespace Go.AL
open Go.RowKit Go.NumSpec
end Go.AL

namespace Go.AL
open Go.RowKit Go.NumSpec
abbrev uidN : List UInt8 := [117, 105, 100]
abbrev revN : List UInt8 := [114, 101, 118]
abbrev spcN : List UInt8 := [115, 112, 101, 99]
abbrev grcN : List UInt8 := [103, 114, 97, 99, 101]
abbrev cnN : List UInt8 := [99, 116, 114]
abbrev idN : List UInt8 := [105, 100]
abbrev mstN : List UInt8 := [109, 111, 115, 116]
abbrev datN : List UInt8 := [100, 97, 116, 97]
abbrev slN : List UInt8 := [115, 101, 108]
def fname (f : UInt8) : List UInt8 := if f = 117 then uidN else if f = 114 then revN else if f = 115 then spcN else if f = 103 then grcN else if f = 99 then cnN else if f = 105 then idN else if f = 109 then mstN else if f = 100 then datN else if f = 108 then slN else []
abbrev fieldsN (k : Nat) : List (List UInt8) := (kindA k).2.map fname
def boundsA (x : Cal) (w : List UInt8) : Int × Int × Int := if w = uidN then (x.uid, 1, 1073741824) else if w = idN then (x.id, 1, 1073741824) else if w = grcN then (x.grace, 0, 1000) else if w = cnN then (x.ctr, 0, 3) else if w = mstN then (x.most, 1, 32) else (0, 0, 0)
/-- the nine letters -/
def Letter (f : UInt8) : Prop := f = 117 ∨ f = 114 ∨ f = 115 ∨ f = 103 ∨ f = 99 ∨ f = 105 ∨ f = 109 ∨ f = 100 ∨ f = 108
theorem kind_letters (k : Nat) : ∀ f ∈ (kindA k).2, Letter f := by
  rcases Nat.lt_or_ge k 13 with h | h
  · have : ∀ j, j < 13 → ∀ f ∈ (kindA j).2, f = 117 ∨ f = 114 ∨ f = 115 ∨ f = 103 ∨ f = 99 ∨ f = 105 ∨ f = 109 ∨ f = 100 ∨ f = 108 := by decide +kernel
    exact this k h
  · unfold kindA
    rw [List.getD_eq_getElem?_getD, List.getElem?_eq_none (by rw [kindsT_len]; omega)]
    intro f hf; exact absurd hf List.not_mem_nil
theorem fname_in {f : UInt8} (h : Letter f) {g : UInt8} (hg : Letter g) : fname f = fname g ↔ f = g := by
  constructor
  · rcases h with rfl | rfl | rfl | rfl | rfl | rfl | rfl | rfl | rfl <;> rcases hg with rfl | rfl | rfl | rfl | rfl | rfl | rfl | rfl | rfl <;> first | exact fun _ => rfl | (intro h; exact absurd h (by decide))
  · rintro rfl; rfl
theorem has_at (k : Nat) {g : UInt8} (hg : Letter g) : decide (fname g ∈ fieldsN k) = decide (g ∈ (kindA k).2) := by
  refine decide_eq_decide.2 ⟨fun h => ?_, fun h => List.mem_map.2 ⟨g, h, rfl⟩⟩
  obtain ⟨f, hf, he⟩ := List.mem_map.1 h
  rw [← (fname_in (kind_letters k f hf) hg).1 he]; exact hf
theorem chk_out {x : Cal} {f : UInt8} (hf : Letter f) (h : (boundsA x (fname f)).1 < (boundsA x (fname f)).2.1 ∨ (boundsA x (fname f)).2.2 < (boundsA x (fname f)).1) : fieldE x f = some (1, [fname f]) := by
  rcases hf with rfl | rfl | rfl | rfl | rfl | rfl | rfl | rfl | rfl
  all_goals first
    | exact if_pos h
    | (exfalso; have h' : (0 : Int) < 0 ∨ (0 : Int) < 0 := h; omega)
theorem chk_data {x : Cal} {f : UInt8} (hf : Letter f) (h : fname f = datN) (hl : 32 < (x.data.length : Int)) : fieldE x f = some (2, [fname f]) := by
  obtain rfl := (fname_in hf (g := 100) (by unfold Letter; simp)).1 h
  exact if_pos hl
theorem chk_spec {f : UInt8} (hf : Letter f) (h : fname f = spcN) : f = 115 := (fname_in hf (g := 115) (by unfold Letter; simp)).1 h
theorem chk_sel {f : UInt8} (hf : Letter f) (h : fname f = slN) : f = 108 := (fname_in hf (g := 108) (by unfold Letter; simp)).1 h
theorem chk_none {x : Cal} {f : UInt8} (hf : Letter f) (h1 : ¬ ((boundsA x (fname f)).1 < (boundsA x (fname f)).2.1 ∨ (boundsA x (fname f)).2.2 < (boundsA x (fname f)).1)) (h2 : ¬ (fname f = datN ∧ 32 < (x.data.length : Int))) (h3 : fname f = spcN → checkE x.spec = none) (h4 : fname f = slN → labelsE slN x.sel = none) : fieldE x f = none := by
  rcases hf with rfl | rfl | rfl | rfl | rfl | rfl | rfl | rfl | rfl
  · exact if_neg h1
  · rfl
  · show erIn (checkE x.spec) _ = none
    rw [h3 rfl]; rfl
  · exact if_neg h1
  · exact if_neg h1
  · exact if_neg h1
  · exact if_neg h1
  · exact if_neg fun h => h2 ⟨rfl, h⟩
  · exact h4 rfl
theorem pick_iff {α : Type} {L : UInt8} {fs : List UInt8} {v z : α} : (if L ∈ fs then v else z) = v ↔ (L ∈ fs ∨ v = z) := by
  by_cases h : L ∈ fs
  · simp [h]
  · simp only [h, if_false, false_or]; exact eq_comm
theorem only_iff {fs : List UInt8} {x : Cal} : onlyA fs x = x ↔ (117 ∈ fs ∨ x.uid = 0) ∧ (114 ∈ fs ∨ x.rev = 0) ∧ (115 ∈ fs ∨ x.spec = spc0) ∧ (103 ∈ fs ∨ x.grace = 0) ∧ (99 ∈ fs ∨ x.ctr = 0) ∧ (105 ∈ fs ∨ x.id = 0) ∧ (109 ∈ fs ∨ x.most = 0) ∧ (100 ∈ fs ∨ x.data = []) ∧ (108 ∈ fs ∨ x.sel = []) := by
  constructor
  · intro h
    exact ⟨pick_iff.1 (congrArg Cal.uid h), pick_iff.1 (congrArg Cal.rev h), pick_iff.1 (congrArg Cal.spec h), pick_iff.1 (congrArg Cal.grace h), pick_iff.1 (congrArg Cal.ctr h), pick_iff.1 (congrArg Cal.id h), pick_iff.1 (congrArg Cal.most h), pick_iff.1 (congrArg Cal.data h), pick_iff.1 (congrArg Cal.sel h)⟩
  · rintro ⟨h1, h2, h3, h4, h5, h6, h7, h8, h9⟩
    exact cal_ext rfl (pick_iff.2 h1) (pick_iff.2 h2) (pick_iff.2 h3) (pick_iff.2 h4) (pick_iff.2 h5) (pick_iff.2 h6) (pick_iff.2 h7) (pick_iff.2 h8) (pick_iff.2 h9)
def emptyB (s : Spc) : Bool := decide (s.name = []) && decide ((s.labels.length : Int) = 0) && decide ((s.init.length : Int) = 0) && decide ((s.main.length : Int) = 0) && decide (s.restart = 0) && decide (s.grace = 0) && decide (s.prio = 0)
theorem empty_iff {s : Spc} : emptyB s = true ↔ s = spc0 := by
  unfold emptyB
  simp only [Bool.and_eq_true, decide_eq_true_eq]
  constructor
  · rintro ⟨⟨⟨⟨⟨⟨h1, h2⟩, h3⟩, h4⟩, h5⟩, h6⟩, h7⟩
    cases s
    simp only at *
    have e2 := List.eq_nil_of_length_eq_zero (Int.ofNat_inj.1 h2)
    have e3 := List.eq_nil_of_length_eq_zero (Int.ofNat_inj.1 h3)
    have e4 := List.eq_nil_of_length_eq_zero (Int.ofNat_inj.1 h4)
    subst h1 e2 e3 e4 h5 h6 h7; rfl
  · intro h; subst h; simp [spc0]
theorem fieldsN_few (k : Nat) : (fieldsN k).length ≤ 3 := by
  rw [List.length_map]; exact fields_few k
theorem empty_prop {s : Spc} : ((((((s.name = [] ∧ (s.labels.length : Int) = 0) ∧ (s.init.length : Int) = 0) ∧ (s.main.length : Int) = 0) ∧ s.restart = 0) ∧ s.grace = 0) ∧ s.prio = 0) ↔ s = spc0 := by
  rw [← empty_iff]; unfold emptyB
  simp only [Bool.and_eq_true, decide_eq_true_eq]
theorem ref_clean {fs : List UInt8} {x : Cal} : cleanB (onlyA fs x) x = true ↔ ((((((((117 ∈ fs ∨ x.uid = 0) ∧ (114 ∈ fs ∨ (x.rev : Int) = 0)) ∧ (115 ∈ fs ∨ (((((x.spec.name = [] ∧ (x.spec.labels.length : Int) = 0) ∧ (x.spec.init.length : Int) = 0) ∧ (x.spec.main.length : Int) = 0) ∧ x.spec.restart = 0) ∧ x.spec.grace = 0) ∧ x.spec.prio = 0)) ∧ (103 ∈ fs ∨ x.grace = 0)) ∧ (99 ∈ fs ∨ x.ctr = 0)) ∧ (105 ∈ fs ∨ x.id = 0)) ∧ (109 ∈ fs ∨ x.most = 0)) ∧ (100 ∈ fs ∨ x.data = [])) ∧ (108 ∈ fs ∨ ¬ 0 < (x.sel.length : Int)) := by
  rw [clean_iff, only_iff, empty_prop]
  have e1 : (x.rev : Int) = 0 ↔ x.rev = 0 := by omega
  have e2 : ¬ 0 < (x.sel.length : Int) ↔ x.sel = [] := by rw [← List.length_eq_zero_iff]; omega
  rw [e1, e2]
  constructor
  · rintro ⟨h1, h2, h3, h4, h5, h6, h7, h8, h9⟩; exact ⟨⟨⟨⟨⟨⟨⟨⟨h1, h2⟩, h3⟩, h4⟩, h5⟩, h6⟩, h7⟩, h8⟩, h9⟩
  · rintro ⟨⟨⟨⟨⟨⟨⟨⟨h1, h2⟩, h3⟩, h4⟩, h5⟩, h6⟩, h7⟩, h8⟩, h9⟩; exact ⟨h1, h2, h3, h4, h5, h6, h7, h8, h9⟩
theorem not_clean {b : Bool} {p : Prop} (h : b = true ↔ p) (hn : ¬ p) : b = false := by
  cases b with
  | false => rfl
  | true => exact absurd (h.1 rfl) hn
end Go.AL

namespace Go.AL
open Go.RowKit Go.NumSpec
/-- the length that a frame's head tells -/
def frN : List UInt8 → Nat
  | a :: b :: _ => a.toNat + b.toNat * 256
  | _ => 0
/-- the next text of bytes: it, the code, what is left, and whether it is closed then -/
def nextS (s : List UInt8) : List UInt8 × Int × List UInt8 × Bool :=
  if s.length < 2 then ([], 6, s, false)
  else if 2048 < frN s then ([], 2, [], true)
  else if s.length < 2 + frN s then ([], 6, s, false)
  else ((s.drop 2).take (frN s), 0, s.drop (2 + frN s), false)
theorem nextS_text {s : List UInt8} (h : ¬ s.length < 2) (h2 : ¬ 2048 < frN s) (h3 : ¬ s.length < 2 + frN s) : nextS s = ((s.drop 2).take (frN s), 0, s.drop (2 + frN s), false) := by unfold nextS; rw [if_neg h, if_neg h2, if_neg h3]
/-- what holds of what a feeding leaves -/
structure FedOk (n : Nat) (w : List (List UInt8)) (r : List UInt8 × Bool × List (List UInt8) × Int) : Prop where
  len : r.1.length ≤ n
  few : r.2.2.1.length ≤ 32
  more : w.length ≤ r.2.2.1.length
  code : (r.2.2.2 = 0 ∧ r.2.1 = false) ∨ (r.2.2.2 = 2 ∧ r.2.1 = true)
/-- a text's frame -/
def frameB (x : List UInt8) : List UInt8 := UInt8.ofNat x.length :: UInt8.ofNat (x.length / 256) :: x
def framesB (l : List (List UInt8)) : List UInt8 := l.flatMap frameB
theorem frameB_len (x : List UInt8) : (frameB x).length = x.length + 2 := rfl
theorem frN_frame {x t : List UInt8} (h : x.length ≤ 2048) : frN (frameB x ++ t) = x.length := by
  show (UInt8.ofNat x.length).toNat + (UInt8.ofNat (x.length / 256)).toNat * 256 = x.length
  rw [UInt8.toNat_ofNat', UInt8.toNat_ofNat']; omega
theorem next_frame {x t : List UInt8} (h : x.length ≤ 2048) : nextS (frameB x ++ t) = (x, 0, t, false) := by
  have hl : (frameB x ++ t).length = x.length + 2 + t.length := by rw [List.length_append, frameB_len]
  rw [nextS_text (by omega) (by rw [frN_frame h]; omega) (by rw [frN_frame h]; omega), frN_frame h]
  have h1 : (frameB x ++ t).drop 2 = x ++ t := rfl
  have h2 : (frameB x ++ t).drop (2 + x.length) = t := by rw [← List.drop_drop, h1, List.drop_left]
  rw [h2, h1, List.take_left]
theorem frames_end {l : List (List UInt8)} (hx : ∀ x ∈ l, x.length ≤ 2048) (h : (nextS (framesB l)).2.1 = 6) : l = [] := by
  cases l with
  | nil => rfl
  | cons x l =>
    have h1 : framesB (x :: l) = frameB x ++ framesB l := rfl
    rw [h1, next_frame (hx x List.mem_cons_self)] at h; cases h
/-- what came so far of all frames -/
structure Came (l : List (List UInt8)) (s all : List UInt8) (w : List (List UInt8)) : Prop where
  few : w.length ≤ l.length
  took : w = l.take w.length
  left : s ++ all = framesB (l.drop w.length)
  stuck : (nextS s).2.1 = 6
theorem Came.done {l : List (List UInt8)} {s : List UInt8} {w : List (List UInt8)} (h : Came l s [] w) (hx : ∀ x ∈ l, x.length ≤ 200) : w = l ∧ s = [] := by
  have hl := h.left
  rw [List.append_nil] at hl
  have hs := h.stuck
  rw [hl] at hs
  have he := frames_end (fun x hxx => by have := hx x (List.mem_of_mem_drop hxx); omega) hs
  have hf := h.few
  have hlen : l.length ≤ w.length := by have := congrArg List.length he; rw [List.length_drop] at this; simp at this; omega
  refine ⟨?_, by rw [hl, he]; rfl⟩
  rw [h.took, List.take_of_length_le hlen]
theorem shr_eight (n : Nat) : (n : Int) / 2 ^ Int.toNat 8 = ((n / 256 : Nat) : Int) := by
  rw [show (2 : Int) ^ Int.toNat 8 = 256 from rfl]; omega
theorem wrap_len (n : Nat) : IntKind.u8.wrap (n : Int) = ((UInt8.ofNat n).toNat : Int) := by
  rw [wrap_u8', UInt8.toNat_ofNat']; omega
end Go.AL

namespace Go.AL
open Go.RowKit

section
variable {P : Program} {N : Nat} {env : Env} {st : St} {o : Oper} {w : World}
theorem S_appendRow0 {t e size bytes b k cap : Nat} {x y : Operand} {xs ys : List AV} (n : Nat) (ho : o.op = .call { callee := .builtin .append, args := #[x, y], argTypes := #[t, t] }) (hx : AEv env x (.row b (k * size) cap xs)) (hy : AEv env y (.sl ys)) (hst : st[n]? = some (b, .grow e size (k + xs.length) (k + cap))) (hT : appT P t e size bytes = true) (hne : ys ≠ [])
    (hsx : ∀ x, x ∈ xs → x.cells.length = size) (hs : ∀ y, y ∈ ys → y.cells.length = size ∧ y.cells.all AV.one = true) (hb : (xs.length + ys.length) * bytes ≤ 140737488355328) (h63 : xs.length + ys.length ≤ 9223372036854775807) (hk0 : k = 0) :
    Step P N o env st fun z st' => ∃ b' k' cap', k' = 0 ∧ z = .row b' (k' * size) cap' (xs ++ ys) ∧ st' = st.set n (b', .grow e size (k' + (xs ++ ys).length) (k' + cap')) := by
  intro a w hg next Q hn
  have hnd := hg.rel.nodup
  obtain ⟨hu, ⟨i, z, hi, hz, rfl, rfl, hzs⟩, hpos⟩ := appT_spec hT
  obtain ⟨b2, off, cap2, news, e2, hl, hnews, hone, hR⟩ := sl_cells (hy _ _ _ _ hg) hne (fun i y h => (hs y (List.mem_of_getElem? h)).1) hpos (fun y hy => (hs y hy).2)
  obtain ⟨vs, g1, g2, g3, g4⟩ := hg.rel.grow b e _ _ _ (mem_at hst)
  have hlen : 0 < ys.length := List.length_pos_iff.2 hne
  have hall : ∀ (i' : Nat) x, (xs ++ ys)[i']? = some x → x.cells.length = i.size := fun i' x h => by
    rcases List.mem_append.1 (List.mem_of_getElem? h) with h | h
    · exact hsx x h
    · exact (hs x h).1
  have hold : ∃ (f : Nat → Value), (a.eval x = .slice (some ⟨b, k * i.size, none⟩) xs.length cap) ∧ ∀ (i' : Nat) x (j : Nat) c, xs[i']? = some x → x.cells[j]? = some c → vs[k * i.size + (i' * i.size + j)]? = some (f (i' * i.size + j)) ∧ R st w c (f (i' * i.size + j)) := by
    have h := hx _ _ _ _ hg
    generalize a.eval x = v at h
    cases h with
    | row _ _ _ _ sz f h1 h2 h3 h4 =>
      refine ⟨f, rfl, fun i' x j c hx' hc => ?_⟩
      have hsz : sz = i.size := by
        have k1 := h2 i' x hx'
        have k2 := hsx x (List.mem_of_getElem? hx')
        omega
      subst hsz
      have k1 := (h3 i' x j c hx' hc).1
      simp only [World.cell?, g1, Nat.add_assoc] at k1
      exact ⟨by simpa using k1, h4 i' x j c hx' hc⟩
  obtain ⟨f, e1, hf⟩ := hold
  have hcells : ∀ (ws : Array Value) (q : Nat), (∀ m : Nat, m < xs.length * i.size → ws[q + m]? = vs[k * i.size + m]?) → (∀ m u, news[m]? = some u → ws[q + (xs.length * i.size + m)]? = some u) →
      ∀ (i' : Nat) x (j : Nat) c, (xs ++ ys)[i']? = some x → x.cells[j]? = some c → ∃ u, ws[q + (i' * i.size + j)]? = some u ∧ R st w c u := fun ws q h1 h2 i' x j c hx' hc => by
    have hj : j < i.size := by have := (List.getElem?_eq_some_iff.1 hc).1; rw [hall i' x hx'] at this; exact this
    rcases Nat.lt_or_ge i' xs.length with h | h
    · rw [List.getElem?_append_left h] at hx'
      obtain ⟨k1, k2⟩ := hf i' x j c hx' hc
      have : (i' + 1) * i.size ≤ xs.length * i.size := Nat.mul_le_mul_right _ h
      rw [Nat.add_mul, Nat.one_mul] at this
      exact ⟨_, by rw [h1 _ (by omega)]; exact k1, k2⟩
    · rw [List.getElem?_append_right h] at hx'
      obtain ⟨u, k1, k2⟩ := hR _ x j c hx' hc
      have := h2 _ u k1
      rw [← Nat.add_assoc (xs.length * i.size), ← Nat.add_mul, show xs.length + (i' - xs.length) = i' by omega] at this
      exact ⟨u, this, k2⟩
  have hused : k * i.size + xs.length * i.size + news.length = (k + (xs.length + ys.length)) * i.size := by rw [hl]; simp only [Nat.add_mul]; omega
  by_cases hroom : xs.length + ys.length ≤ cap
  · have hfit : k * i.size + xs.length * i.size + news.length ≤ vs.size := by rw [hused, g2]; exact Nat.mul_le_mul_right _ (by omega)
    have hcl : ∀ j, j < news.length → (w.cell? ⟨b, k * i.size + xs.length * i.size + j, none⟩).isSome = true := fun j hj => by simp [World.cell?, g1]; omega
    have hfz : ∀ j, j < news.length → w.frozen? ⟨b, k * i.size + xs.length * i.size + j, none⟩ = false := fun j hj => by simp [World.frozen?, g1]
    have hrun := run_append_room_cells (P := P) w t o.type e i hu hi b (k * i.size) xs.length cap ⟨b2, off, none⟩ ys.length cap2 news hl hnews hone hroom hcl hfz
    obtain ⟨⟨ws, j1, j2, j3⟩, j4, j5, j6, j7, j8⟩ := setCells_heap b news (k * i.size + xs.length * i.size) w vs e g1 hfit
    obtain ⟨k1, k2⟩ := grow_rel hg.rel hst (k' := k + (xs ++ ys).length) (by simp) (by simp; omega) g1 j1 (by rw [j2, g2]) (fun m hm => by rw [j3 m, if_neg (by rw [Nat.add_mul] at hm; omega)]) j4 j5 j6 j7 j8
    have hexec : (execOp a.eval o).run P w = .ok (.value (.slice (some ⟨b, k * i.size, none⟩) (xs.length + ys.length) cap)) (w.setCells b (k * i.size + xs.length * i.size) news) := by
      simp only [execOp, ho, resolve, invoke, builtin, Sem.run_bind, Sem.run_pure, Result.andThen_ok, List.map_toArray, List.map_cons, List.map_nil, e1, e2, hrun]
    unfold Oper.wp
    rw [hexec]
    refine hn _ _ _ _ ⟨b, k, cap, hk0, rfl, rfl⟩ ?_ k1 k2
    have hmem : (b, Ob.grow e i.size (k + (xs ++ ys).length) (k + cap)) ∈ st.set n (b, .grow e i.size (k + (xs ++ ys).length) (k + cap)) := List.mem_iff_getElem?.2 ⟨n, by simp [(List.getElem?_eq_some_iff.1 hst).1]⟩
    have := row_of hmem k1 j1 (by simpa using hroom) hall fun i' x j c hx' hc => by
      obtain ⟨u, h1, h2⟩ := hcells ws (k * i.size) (fun m hm => by rw [j3, if_neg (by omega)]) (fun m u hm => by
        have hml : m < news.length := (List.getElem?_eq_some_iff.1 hm).1
        rw [j3, if_pos ⟨by omega, by omega⟩, show k * i.size + (xs.length * i.size + m) - (k * i.size + xs.length * i.size) = m by omega]
        exact hm) i' x j c hx' hc
      exact ⟨u, h1, h2.mono k2 hnd⟩
    simpa using this
  · have hlv : k * i.size + xs.length * i.size ≤ vs.size := by rw [g2, ← Nat.add_mul]; exact Nat.mul_le_mul_right _ g3
    have ht : ((vs.toList.drop (k * i.size)).take (xs.length * i.size)).length = xs.length * i.size := by simp; omega
    have holds : ∀ (j : Nat) u, ((vs.toList.drop (k * i.size)).take (xs.length * i.size))[j]? = some u → w.cell? ((⟨b, k * i.size, none⟩ : Addr).add j) = some u := fun j u hu => by
      have hj : j < xs.length * i.size := by have := (List.getElem?_eq_some_iff.1 hu).1; rw [ht] at this; exact this
      rw [List.getElem?_take_of_lt hj, List.getElem?_drop] at hu
      rw [Addr.add_mid]
      simp only [World.cell?, g1]
      simpa using hu
    have hrun := run_append_grow (P := P) w t o.type e i z hu hi hz ⟨b, k * i.size, none⟩ xs.length cap ((vs.toList.drop (k * i.size)).take (xs.length * i.size)) ht holds ⟨b2, off, none⟩ ys.length cap2 news hl hnews (by omega) (by omega) (growslice_fits (by omega) hb)
    have hge := grownCap_ge w (xs.length + ys.length) cap e
    have hle := grownCap_le_maxLen w (xs.length + ys.length) cap e (by simp only [maxLen]; omega)
    let ws : Array Value := ((vs.toList.drop (k * i.size)).take (xs.length * i.size)).toArray ++ news.toArray ++ Builtin.zeroCells z.cells (grownCap w (xs.length + ys.length) cap e - (xs.length + ys.length))
    have hws1 : ∀ m : Nat, m < xs.length * i.size → ws[0 + m]? = vs[k * i.size + m]? := fun m hm => by
      simp only [ws, Nat.zero_add]
      rw [Array.getElem?_append_left (by simp only [Array.size_append, List.size_toArray, ht]; omega), Array.getElem?_append_left (by simp only [List.size_toArray, ht]; exact hm), List.getElem?_toArray, List.getElem?_take_of_lt hm, List.getElem?_drop]
      simp
    have hws2 : ∀ (m : Nat) u, news[m]? = some u → ws[0 + (xs.length * i.size + m)]? = some u := fun m u hm => by
      have hml : m < news.length := (List.getElem?_eq_some_iff.1 hm).1
      simp only [ws, Nat.zero_add]
      rw [Array.getElem?_append_left (by simp only [Array.size_append, List.size_toArray, ht]; omega), Array.getElem?_append_right (by simp only [List.size_toArray, ht]; omega)]
      simp only [List.size_toArray, ht, Nat.add_sub_cancel_left, List.getElem?_toArray]
      exact hm
    have hwsz : ws.size = grownCap w (xs.length + ys.length) cap e * i.size := by
      simp only [ws, Array.size_append, List.size_toArray, ht, size_zeroCells, hzs, hl, ← Nat.add_mul]
      congr 1; omega
    obtain ⟨k1, k2⟩ := alloc_grow (e := e) (k := 0 + (xs ++ ys).length) (cap := 0 + grownCap w (xs.length + ys.length) cap e) hg.rel (by rw [hwsz, Nat.zero_add]) (by simpa using hge) (by simpa using hle)
    have hexec : (execOp a.eval o).run P w = .ok (.value (.slice (some ⟨w.heap.size, 0, none⟩) (xs.length + ys.length) (grownCap w (xs.length + ys.length) cap e))) (w.drew.alloc (.cells ws e)) := by
      simp only [execOp, ho, resolve, invoke, builtin, Sem.run_bind, Sem.run_pure, Result.andThen_ok, List.map_toArray, List.map_cons, List.map_nil, e1, e2, hrun]
      rfl
    have hlt : n < st.length := (List.getElem?_eq_some_iff.1 hst).1
    have hsub : ∀ p, p ∈ st.set n (w.heap.size, .grow e i.size (0 + (xs ++ ys).length) (0 + grownCap w (xs.length + ys.length) cap e)) → p ∈ ((w.heap.size, .grow e i.size (0 + (xs ++ ys).length) (0 + grownCap w (xs.length + ys.length) cap e)) :: st : St) := fun p hp => by
      rcases List.mem_or_eq_of_mem_set hp with h | h
      · exact List.mem_cons_of_mem _ h
      · rw [h]; exact List.mem_cons_self
    have hfresh : ∀ o', (w.heap.size, o') ∉ st := fun o' h => by have := key_lt hg.rel h; omega
    have hnd2 : ((st.set n (w.heap.size, Ob.grow e i.size (0 + (xs ++ ys).length) (0 + grownCap w (xs.length + ys.length) cap e))).map (·.1)).Nodup := by
      rw [List.map_set]
      exact nodup_set hnd fun h => by
        obtain ⟨p, hp, hp'⟩ := List.mem_map.1 h
        have hp2 : p.1 = w.heap.size := hp'
        refine hfresh p.2 ?_
        rw [← hp2]
        exact hp
    have k1' := k1.sub hsub hnd2
    have k2' := k2.trans (Ext.sub (w := w.drew.alloc (.cells ws e)) hsub) hnd
    unfold Oper.wp
    rw [hexec]
    refine hn _ _ _ _ ⟨w.heap.size, 0, grownCap w (xs.length + ys.length) cap e, rfl, rfl, rfl⟩ ?_ k1' k2'
    have hmem : (w.heap.size, Ob.grow e i.size (0 + (xs ++ ys).length) (0 + grownCap w (xs.length + ys.length) cap e)) ∈ st.set n (w.heap.size, .grow e i.size (0 + (xs ++ ys).length) (0 + grownCap w (xs.length + ys.length) cap e)) := List.mem_iff_getElem?.2 ⟨n, by simp [hlt]⟩
    have := row_of (k := 0) hmem k1' (heap_alloc_new w.drew _) (by simpa using hge) hall fun i' x j c hx' hc => by
      obtain ⟨u, h1, h2⟩ := hcells ws (0 * i.size) (fun m hm => by rw [Nat.zero_mul]; exact hws1 m hm) (fun m u hm => by rw [Nat.zero_mul]; exact hws2 m u hm) i' x j c hx' hc
      exact ⟨u, h1, h2.mono k2' hnd⟩
    simpa using this

theorem S_appendOwn0 {t e size bytes : Nat} {x y : Operand} {p : Own} {xs ys : List AV} (pre post : St) (ho : o.op = .call { callee := .builtin .append, args := #[x, y], argTypes := #[t, t] }) (hx : AEv env x (ownAV p size xs)) (hy : AEv env y (.sl ys)) (hst : st = pre ++ (ownSt p e size xs ++ post)) (h : p.ok xs) (hT : appT P t e size bytes = true) (hne : ys ≠ [])
    (hsx : ∀ x, x ∈ xs → x.cells.length = size) (hs : ∀ y, y ∈ ys → y.cells.length = size ∧ y.cells.all AV.one = true) (hb : (xs.length + ys.length) * bytes ≤ 140737488355328) (h63 : xs.length + ys.length ≤ 9223372036854775807) (hp0 : ∀ b k cap, p = .row b k cap → k = 0) :
    Step P N o env st fun z st' => ∃ b k cap, k = 0 ∧ (xs ++ ys).length ≤ cap ∧ z = ownAV (.row b k cap) size (xs ++ ys) ∧ st' = pre ++ (ownSt (.row b k cap) e size (xs ++ ys) ++ post) := by
  subst hst
  have fresh : ∀ (q : Own), ownSt q e size [] = [] → xs = [] → Step P N o env (pre ++ ([] ++ post)) (fun z st' => ∃ b cap, z = .row b 0 cap ys ∧ st' = (b, .grow e size ys.length cap) :: (pre ++ ([] ++ post))) → Step P N o env (pre ++ ([] ++ post)) fun z st' => ∃ b k cap, k = 0 ∧ (xs ++ ys).length ≤ cap ∧ z = ownAV (.row b k cap) size (xs ++ ys) ∧ st' = pre ++ (ownSt (.row b k cap) e size (xs ++ ys) ++ post) := fun q hq hxs hstep => by
    subst hxs
    intro a w hg next Q hn
    refine hstep a w hg next Q ?_
    rintro z st' v w' ⟨b, cap, rfl, rfl⟩ hr hrel hxx
    have hsub : ∀ q, q ∈ pre ++ ([(b, Ob.grow e size ys.length cap)] ++ post) → q ∈ ((b, Ob.grow e size ys.length cap) :: (pre ++ ([] ++ post)) : St) := fun q hq => by
      simp at hq ⊢
      rcases hq with h | h | h
      · exact .inr (.inl h)
      · exact .inl h
      · exact .inr (.inr h)
    have hnd : ((pre ++ ([(b, Ob.grow e size ys.length cap)] ++ post)).map (·.1)).Nodup := by
      have h1 := hrel.nodup
      have hp : (pre ++ ([(b, Ob.grow e size ys.length cap)] ++ post)).Perm ((b, Ob.grow e size ys.length cap) :: (pre ++ ([] ++ post))) := by
        simp only [List.nil_append, List.singleton_append]
        exact List.perm_middle
      exact (hp.map (·.1)).nodup_iff.2 h1
    refine hn (.row b 0 cap ys) _ v w' ⟨b, 0, cap, rfl, by simpa using (row_inv hr).2, ?_, ?_⟩ ?_ (hrel.sub hsub hnd) (hxx.trans (Ext.sub hsub) hg.rel.nodup)
    · simp [ownAV]
    · simp [ownSt]
    · exact hr.mono (Ext.sub hsub) hrel.nodup
  cases p with
  | nil =>
    have : xs = [] := h
    subst this
    exact fresh .nil rfl rfl (S_appendNil ho hx hy hT hne hs (by simpa using hb) (by simpa using h63))
  | emp A =>
    have : xs = [] := h
    subst this
    exact fresh (.emp A) rfl rfl (S_appendEmp ho hx hy hT hne hs (by simpa using hb) (by simpa using h63))
  | row b0 k0 cap0 =>
    intro a w hg next Q hn
    refine S_appendRow0 pre.length ho hx hy (by simp [ownSt]) hT hne hsx hs hb h63 (hp0 _ _ _ rfl) a w hg next Q ?_
    rintro z st' v w' ⟨b, k, cap, hk, rfl, rfl⟩ hr hrel hxx
    have e1 : (pre ++ (ownSt (.row b0 k0 cap0) e size xs ++ post)).set pre.length (b, .grow e size (k + (xs ++ ys).length) (k + cap)) = pre ++ (ownSt (.row b k cap) e size (xs ++ ys) ++ post) := by
      simp [ownSt, List.set_append_right]
    rw [e1] at hr hrel hxx
    exact hn _ _ v w' ⟨b, k, cap, hk, (row_inv hr).2, rfl, rfl⟩ hr hrel hxx
theorem S_appendByte {t e : TypeId} {x y : Operand} {q : Buf} {l : List UInt8} {c : UInt8} (pre post : St) (ho : o.op = .call { callee := .builtin .append, args := #[x, y], argTypes := #[t, t] }) (hx : AEv env x (bufAV q l)) (hy : AEv env y (.sl [byteV c])) (hst : st = pre ++ (bufSt q e l ++ post)) (hq : q.ok l)
    (hT : appT P t e 1 1 = true) (hb : l.length + 1 ≤ 140737488355328) :
    Step P N o env st fun z st' => ∃ q' : Buf, q'.ok (l ++ [c]) ∧ z = bufAV q' (l ++ [c]) ∧ st' = pre ++ (bufSt q' e (l ++ [c]) ++ post) := by
  have hs : ∀ y, y ∈ [byteV c] → y.cells.length = 1 ∧ y.cells.all AV.one = true := fun y hy => by rw [List.mem_singleton.1 hy]; exact ⟨rfl, rfl⟩
  have hsx : ∀ x, x ∈ bytesV l → x.cells.length = 1 := fun x hx => by
    obtain ⟨b, _, rfl⟩ := List.mem_map.1 hx; rfl
  have hl : (bytesV l).length = l.length := bytesV_len l
  have go : ∀ p : Own, ownAV p 1 (bytesV l) = bufAV q l → ownSt p e 1 (bytesV l) = bufSt q e l → p.ok (bytesV l) → (∀ b k cap, p = .row b k cap → k = 0) → Step P N o env st fun z st' => ∃ q' : Buf, q'.ok (l ++ [c]) ∧ z = bufAV q' (l ++ [c]) ∧ st' = pre ++ (bufSt q' e (l ++ [c]) ++ post) := fun p h1 h2 h3 h4 => by
    have h := S_appendOwn0 (P := P) (N := N) (env := env) (st := st) (xs := bytesV l) (ys := [byteV c]) (size := 1) (bytes := 1) (p := p) pre post ho (by rw [h1]; exact hx) hy (by rw [h2]; exact hst) h3 hT (by simp) hsx hs (by rw [hl]; simpa using hb) (by rw [hl, List.length_singleton]; omega) h4
    intro a w hg next Q hn
    refine h a w hg next Q fun z st' v w' hk => hn z st' v w' ?_
    obtain ⟨b, k, cap, rfl, h5, rfl, rfl⟩ := hk
    have e1 : bytesV (l ++ [c]) = bytesV l ++ [byteV c] := by simp [bytesV]
    refine ⟨.at b cap, ⟨by rw [← bytesV_len, e1]; exact h5, ?_⟩, ?_, ?_⟩
    · have := h5; simp at this; omega
    · simp [bufAV, ownAV, e1]
    · simp [bufSt, ownSt, bytesV_len]
  cases q with
  | nil => have h0 : l = [] := hq; subst h0; exact go .nil rfl rfl rfl (fun _ _ _ h => by cases h)
  | «at» b cap => exact go (.row b 0 cap) (by simp [bufAV, ownAV]) (by simp [bufSt, ownSt, bytesV_len]) (by have := hq.1; simpa [Own.ok, bytesV_len] using this) (fun _ _ _ h => by cases h; rfl)
end
end Go.AL

namespace Go.AL
open Go.RowKit Go.NumSpec
end Go.AL

namespace Go.AL
open Go.RowKit Go.NumSpec
theorem joinP (c : UInt8) : ∀ s : List UInt8, Lib.join (partsB c s) [c] = s
  | [] => by simp [partsB, Lib.join_one]
  | x :: s => by
    have ih := joinP c s
    by_cases hx : x = c
    · subst hx
      rw [partsB, if_pos rfl]
      cases hp : partsB x s with
      | nil => exact absurd hp (partsB_ne x s)
      | cons q qs => rw [hp] at ih; rw [Lib.join_cons]; rw [Lib.join_cons] at ih; simp [Lib.joinTail] at ih ⊢; exact ih
    · rw [partsB_cons hx]
      cases hp : partsB c s with
      | nil => exact absurd hp (partsB_ne c s)
      | cons q qs => rw [hp] at ih; rw [Lib.join_cons]; rw [Lib.join_cons] at ih; simp [Lib.joinTail] at ih ⊢; exact ih
/-! The verb of a word -/
def findV (w : List UInt8) : Nat := ((List.range 24).find? (fun i => decide (0 < i ∧ (verbA i).1 = w))).getD 0
theorem find_hit {w : List UInt8} {i : Nat} (h0 : 0 < i) (hi : i < 24) (hw : (verbA i).1 = w) : findV w = i := by
  subst hw
  have : ∀ j, j < 24 → 0 < j → findV (verbA j).1 = j := by decide +kernel
  exact this i hi h0
theorem find_none {w : List UInt8} (h : ∀ j, j < 24 → 0 < j → (verbA j).1 ≠ w) : findV w = 0 := by
  unfold findV
  rw [List.find?_eq_none.2 fun j hj => by
    simp only [decide_eq_true_eq]
    rintro ⟨h0, h1⟩
    exact h j (List.mem_range.1 hj) h0 h1]
  rfl
theorem find_lt (w : List UInt8) : findV w < 24 := by
  unfold findV
  cases h : (List.range 24).find? (fun i => decide (0 < i ∧ (verbA i).1 = w)) with
  | none => decide
  | some i => exact List.mem_range.1 (List.mem_of_find?_eq_some h)
theorem find_word {w : List UInt8} (h : findV w ≠ 0) : (verbA (findV w)).1 = w := by
  unfold findV at h ⊢
  cases h1 : (List.range 24).find? (fun i => decide (0 < i ∧ (verbA i).1 = w)) with
  | none => rw [h1] at h; exact absurd rfl h
  | some i => have := List.find?_some h1; simp only [decide_eq_true_eq] at this; exact this.2
/-! Digits -/
theorem idx_digits (c : UInt8) : idxV digitsB c = hexV c := by
  have : ∀ n : Nat, n < 256 → idxV digitsB (UInt8.ofNat n) = hexV (UInt8.ofNat n) := by decide +kernel
  have h := this c.toNat c.toNat_lt
  rwa [UInt8.ofNat_toNat] at h
theorem hexV_D {n : Nat} (h : n < 16) : hexV (hexD n) = n := by
  have : ∀ n : Nat, n < 16 → hexV (hexD n) = n := by decide
  exact this n h
theorem hexV_some {c : UInt8} (h : 0 ≤ hexV c) : hexV c < 16 ∧ c = hexD (hexV c).toNat := by
  have : ∀ n : Nat, n < 256 → 0 ≤ hexV (UInt8.ofNat n) → hexV (UInt8.ofNat n) < 16 ∧ UInt8.ofNat n = hexD (hexV (UInt8.ofNat n)).toNat := by decide +kernel
  have h1 := this c.toNat c.toNat_lt
  rw [UInt8.ofNat_toNat] at h1
  exact h1 h
theorem toHex_cons (c : UInt8) (s : List UInt8) : toHexL (c :: s) = hexD (c.toNat / 16) :: hexD (c.toNat % 16) :: toHexL s := rfl
theorem toHex_snoc (s : List UInt8) (c : UInt8) : toHexL (s ++ [c]) = (toHexL s ++ [hexD (c.toNat / 16)]) ++ [hexD (c.toNat % 16)] := by
  unfold toHexL; rw [List.flatMap_append]; simp [hex2]
theorem hexD_inj {a b : Nat} (ha : a < 16) (hb : b < 16) (h : hexD a = hexD b) : a = b := by
  have h1 := hexV_D ha; rw [h, hexV_D hb] at h1; omega
theorem toHex_inj : ∀ {a b : List UInt8}, toHexL a = toHexL b → a = b
  | [], [], _ => rfl
  | [], y :: b, h => by rw [toHex_cons] at h; exact absurd h (by simp [toHexL])
  | x :: a, [], h => by rw [toHex_cons] at h; exact absurd h (by simp [toHexL])
  | x :: a, y :: b, h => by
    rw [toHex_cons, toHex_cons] at h
    have hx := x.toNat_lt
    have hy := y.toNat_lt
    have h1 := hexD_inj (by omega) (by omega) (List.cons.inj h).1
    have h2 := hexD_inj (by omega) (by omega) (List.cons.inj (List.cons.inj h).2).1
    rw [toHex_inj (List.cons.inj (List.cons.inj h).2).2, UInt8.toNat_inj.1 (show x.toNat = y.toNat by omega)]
theorem toHex_at : ∀ {d s : List UInt8}, toHexL d = s → ∀ {i : Nat} (hi : i < s.length), 0 ≤ hexV s[i]
  | d, s, h, i, hi => by
    have hm : s[i] ∈ toHexL d := by rw [h]; exact List.getElem_mem hi
    obtain ⟨c, _, hx⟩ := List.mem_flatMap.1 hm
    have hc := c.toNat_lt
    simp only [hex2, List.mem_cons, List.not_mem_nil, or_false] at hx
    rcases hx with e | e
    · rw [e, hexV_D (by omega)]; omega
    · rw [e, hexV_D (by omega)]; omega
theorem hex_byte {x y : Int} (hx : 0 ≤ x) (hx2 : x < 16) (hy : 0 ≤ y) (hy2 : y < 16) : (UInt8.ofNat (16 * x + y).toNat).toNat / 16 = x.toNat ∧ (UInt8.ofNat (16 * x + y).toNat).toNat % 16 = y.toNat := by
  have : (UInt8.ofNat (16 * x + y).toNat).toNat = (16 * x + y).toNat := by rw [UInt8.toNat_ofNat']; omega
  rw [this]; omega
/-- two digits more -/
theorem hex_more {b s : List UInt8} (hi : 2 * b.length + 1 < s.length) (hb : toHexL b = s.take (2 * b.length)) (hx : 0 ≤ hexV s[2 * b.length]) (hy : 0 ≤ hexV s[2 * b.length + 1]) :
    toHexL (b ++ [UInt8.ofNat (16 * hexV s[2 * b.length] + hexV s[2 * b.length + 1]).toNat]) = s.take (2 * (b.length + 1)) := by
  have h1 := hexV_some hx
  have h2 := hexV_some hy
  obtain ⟨e1, e2⟩ := hex_byte hx h1.1 hy h2.1
  rw [toHex_snoc, e1, e2, ← h1.2, ← h2.2, hb, show 2 * (b.length + 1) = 2 * b.length + 1 + 1 by omega, List.take_succ_eq_append_getElem hi, List.take_succ_eq_append_getElem (show 2 * b.length < s.length by omega)]
open Classical in
noncomputable def ofHexV (s : List UInt8) : List UInt8 × Bool := if h : ∃ d, toHexL d = s then (h.choose, true) else ([], false)
theorem ofHex_yes {d s : List UInt8} (h : toHexL d = s) : ofHexV s = (d, true) := by
  have he : ∃ d, toHexL d = s := ⟨d, h⟩
  unfold ofHexV
  rw [dif_pos he, toHex_inj (he.choose_spec.trans h.symm)]
theorem ofHex_no {s : List UInt8} (h : ∀ d, toHexL d ≠ s) : ofHexV s = ([], false) := by
  unfold ofHexV
  rw [dif_neg fun ⟨d, k⟩ => h d k]
/-! Lines -/
def dataP (k : Int) (d : List UInt8) : List (List UInt8) := if k = 1 then [toHexL d] else if k = 2 then [d] else []
def partsE (e : Ent) : List (List UInt8) := (verbA e.verb.toNat).1 :: (e.n.map textL ++ dataP (verbA e.verb.toNat).2.2 e.data)
def lineE (e : Ent) : List UInt8 := Lib.join (partsE e) [32]
def lineV (e : Ent) : List UInt8 := if rightB e = true then lineE e else []
theorem right_spec {e : Ent} (h : rightB e = true) : 1 ≤ e.verb ∧ e.verb < 24 ∧ (e.n.length : Int) = (verbA e.verb.toNat).2.1 ∧ (∀ x ∈ e.n, 0 ≤ x ∧ x ≤ 1073741824) ∧ dataB (verbA e.verb.toNat).2.2 e.data = true := by
  unfold rightB at h
  simp only [Bool.and_eq_true, decide_eq_true_eq] at h
  refine ⟨h.1.1, h.1.2.1, h.1.2.2, fun x hx => ?_, h.2.2⟩
  have := List.all_eq_true.1 h.2.1 x hx
  simpa [numQ] using this
theorem verb_facts {n : Nat} (h : n < 24) : (32 : UInt8) ∉ (verbA n).1 ∧ (10 : UInt8) ∉ (verbA n).1 ∧ (verbA n).1.length ≤ 7 ∧ 0 ≤ (verbA n).2.1 ∧ (verbA n).2.1 ≤ 5 ∧ ((verbA n).2.2 = 0 ∨ (verbA n).2.2 = 1 ∨ (verbA n).2.2 = 2) ∧ (1 ≤ n → (verbA n).1 ≠ [] ∧ ∀ t, (verbA n).1 ≠ 35 :: t) := by
  have : ∀ n, n < 24 → (32 : UInt8) ∉ (verbA n).1 ∧ (10 : UInt8) ∉ (verbA n).1 ∧ (verbA n).1.length ≤ 7 ∧ 0 ≤ (verbA n).2.1 ∧ (verbA n).2.1 ≤ 5 ∧ ((verbA n).2.2 = 0 ∨ (verbA n).2.2 = 1 ∨ (verbA n).2.2 = 2) ∧ (1 ≤ n → (verbA n).1 ≠ [] ∧ (verbA n).1.headD 0 ≠ 35) := by decide +kernel
  obtain ⟨h1, h2, h3, h4, h5, h6, h7⟩ := this n h
  exact ⟨h1, h2, h3, h4, h5, h6, fun k => ⟨(h7 k).1, fun t e => (h7 k).2 (by rw [e]; rfl)⟩⟩
theorem parts_line {e : Ent} {s : List UInt8} (h : partsE e = partsB 32 s) : lineE e = s := by unfold lineE; rw [h, joinP]
theorem map_text_inj : ∀ {a b : List Int}, a.map textL = b.map textL → a = b
  | [], [], _ => rfl
  | [], _ :: _, h => by cases h
  | _ :: _, [], h => by cases h
  | x :: a, y :: b, h => by
    rw [textL_inj (List.cons.inj h).1, map_text_inj (List.cons.inj h).2]
theorem parts_verb {a : Ent} (ha : rightB a = true) {w : List UInt8} {l : List (List UInt8)} (h : partsE a = w :: l) : findV w = a.verb.toNat ∧ l = a.n.map textL ++ dataP (verbA a.verb.toNat).2.2 a.data := by
  obtain ⟨h1, h2, h3, h4, h5⟩ := right_spec ha
  have e := List.cons.inj h
  exact ⟨find_hit (by omega) (by omega) e.1, e.2.symm⟩
theorem partsE_inj {a b : Ent} (ha : rightB a = true) (hb : rightB b = true) (h : partsE a = partsE b) : a = b := by
  obtain ⟨a1, a2, a3, a4, a5⟩ := right_spec ha
  obtain ⟨b1, b2, b3, b4, b5⟩ := right_spec hb
  have hv := (parts_verb ha (w := (verbA b.verb.toNat).1) h).1
  rw [(parts_verb hb (w := (verbA b.verb.toNat).1) rfl).1] at hv
  have ev : a.verb = b.verb := by omega
  have e := (List.cons.inj h).2
  rw [ev] at e a3 a5
  obtain ⟨e1, e2⟩ := List.append_inj e (by simp; omega)
  have en := map_text_inj e1
  have ed : a.data = b.data := by
    unfold dataP at e2; unfold dataB at a5 b5
    split at e2
    · exact toHex_inj (List.cons.inj e2).1
    · rename_i k1
      rw [if_neg k1] at a5 b5
      split at e2
      · exact (List.cons.inj e2).1
      · rename_i k2
        rw [if_neg k2] at a5 b5
        rw [of_decide_eq_true a5, of_decide_eq_true b5]
  cases a; cases b; simp only at ev en ed; rw [ev, en, ed]
open Classical in
noncomputable def parseE (s : List UInt8) : Option Ent := if h : ∃ e, rightB e = true ∧ partsE e = partsB 32 s then some h.choose else none
theorem parseE_yes {e : Ent} {s : List UInt8} (h1 : rightB e = true) (h2 : partsE e = partsB 32 s) : parseE s = some e := by
  have he : ∃ e, rightB e = true ∧ partsE e = partsB 32 s := ⟨e, h1, h2⟩
  unfold parseE
  rw [dif_pos he, partsE_inj he.choose_spec.1 h1 (he.choose_spec.2.trans h2.symm)]
theorem parseE_none {s : List UInt8} (h : ∀ e, rightB e = true → partsE e = partsB 32 s → False) : parseE s = none := by
  unfold parseE
  rw [dif_neg fun ⟨e, h1, h2⟩ => h e h1 h2]
def ent0 : Ent := ⟨0, [], []⟩
noncomputable def dataV (k : Int) (l : List (List UInt8)) : List UInt8 × Bool := if k = 0 then ([], decide (l = [])) else if l.length ≠ 1 then ([], false) else if k = 1 then ofHexV (l.headD []) else (l.headD [], true)
/-- what data says is its last part -/
theorem data_yes {k : Int} {l : List (List UInt8)} {d : List UInt8} (hk : k = 0 ∨ k = 1 ∨ k = 2) (h : dataV k l = (d, true)) : dataP k d = l := by
  unfold dataV at h; unfold dataP
  rcases hk with rfl | rfl | rfl
  · rw [if_pos rfl] at h
    have := of_decide_eq_true (Prod.mk.inj h).2
    rw [this]; simp
  · rw [if_neg (by decide)] at h
    split at h
    · simp at h
    · rename_i hl
      rw [if_pos rfl] at h
      obtain ⟨x, rfl⟩ := List.length_eq_one_iff.1 (by simpa using hl)
      simp only [List.headD_cons] at h
      unfold ofHexV at h
      split at h
      · rename_i he
        rw [if_pos rfl, ← (Prod.mk.inj h).1, he.choose_spec]
      · simp at h
  · rw [if_neg (by decide)] at h
    split at h
    · simp at h
    · rename_i hl
      rw [if_neg (by decide)] at h
      obtain ⟨x, rfl⟩ := List.length_eq_one_iff.1 (by simpa using hl)
      simp only [List.headD_cons] at h
      rw [if_neg (by decide), if_pos rfl, (Prod.mk.inj h).1]
theorem data_back {k : Int} {l : List (List UInt8)} {d : List UInt8} (hk : k = 0 ∨ k = 1 ∨ k = 2) (hd : dataB k d = true) (h : dataP k d = l) : dataV k l = (d, true) := by
  subst h
  unfold dataV dataP
  rcases hk with rfl | rfl | rfl
  · unfold dataB at hd
    rw [if_neg (by decide), if_neg (by decide)] at hd
    simp [of_decide_eq_true hd]
  · have := ofHex_yes (d := d) rfl
    simp [this]
  · simp
/-- a part that fails: no entry has that line -/
theorem parse_noverb {s w : List UInt8} {l : List (List UInt8)} (hs : partsB 32 s = w :: l) (h : findV w = 0) : parseE s = none := parseE_none fun e h1 h2 => by
  have := (parts_verb h1 (h2.trans hs)).1
  obtain ⟨h1, h2, h3, h4, h5⟩ := right_spec h1
  omega
theorem parse_few {s w : List UInt8} {l : List (List UInt8)} (hs : partsB 32 s = w :: l) (h : (l.length : Int) < (verbA (findV w)).2.1) : parseE s = none := parseE_none fun e h1 h2 => by
  obtain ⟨e1, e2⟩ := parts_verb h1 (h2.trans hs)
  obtain ⟨h1, h2, h3, h4, h5⟩ := right_spec h1
  rw [e1] at h
  have := congrArg List.length e2
  simp at this
  omega
theorem parse_nonum {s w : List UInt8} {l : List (List UInt8)} {i : Nat} (hs : partsB 32 s = w :: l) (hi : (i : Int) < (verbA (findV w)).2.1) (hl : i < l.length) (h : (parseV l[i] 1073741824).2 = false) : parseE s = none := parseE_none fun e h1 h2 => by
  obtain ⟨e1, e2⟩ := parts_verb h1 (h2.trans hs)
  obtain ⟨h1, h2, h3, h4, h5⟩ := right_spec h1
  rw [e1] at hi
  have hin : i < e.n.length := by omega
  have e3 : l[i] = textL e.n[i] := by
    subst e2
    rw [List.getElem_append_left (by simpa using hin), List.getElem_map]
  have hr := h4 _ (List.getElem_mem hin)
  rw [e3, Go.NumSpec.parse_text ⟨by omega, by omega⟩ hr.2, if_pos hr.1] at h
  simp at h
/-- the numbers that were read -/
def numsOf (l : List (List UInt8)) : List Int := l.map fun w => (parseV w 1073741824).1
theorem parseV_text {w : List UInt8} {m : Int} (h : (parseV w m).2 = true) : textL (parseV w m).1 = w ∧ 0 ≤ (parseV w m).1 ∧ (parseV w m).1 ≤ m := by
  unfold parseV at h ⊢
  split at h
  · rename_i k
    rw [if_pos k]
    refine ⟨?_, by simp, k.2.2⟩
    unfold textL
    rw [if_neg (by simp)]
    simpa using k.1.symm
  · cases h
theorem nums_text : ∀ {l : List (List UInt8)}, (∀ i (h : i < l.length), (parseV l[i] 1073741824).2 = true) → (numsOf l).map textL = l
  | [], _ => rfl
  | w :: l, h => by
    have h1 := (parseV_text (h 0 (by simp))).1
    have h2 := nums_text (l := l) fun i hi => h (i + 1) (by simpa using hi)
    unfold numsOf at h2 ⊢
    simp only [List.map_cons]
    rw [h2]
    exact congrArg (· :: l) h1
noncomputable def candE (w : List UInt8) (l : List (List UInt8)) : Ent := ⟨findV w, numsOf (l.take (verbA (findV w)).2.1.toNat), (dataV (verbA (findV w)).2.2 (l.drop (verbA (findV w)).2.1.toNat)).1⟩
theorem cand_parts {w : List UInt8} {l : List (List UInt8)} (h0 : findV w ≠ 0) (hl : (verbA (findV w)).2.1 ≤ (l.length : Int)) (hn : ∀ i (h : i < l.length), (i : Int) < (verbA (findV w)).2.1 → (parseV l[i] 1073741824).2 = true) (hd : (dataV (verbA (findV w)).2.2 (l.drop (verbA (findV w)).2.1.toNat)).2 = true) : partsE (candE w l) = w :: l := by
  have hv := verb_facts (find_lt w)
  have h1 := nums_text (l := l.take (verbA (findV w)).2.1.toNat) fun i hi => by
    have hi2 : i < l.length := by simp at hi; omega
    rw [List.getElem_take]
    rw [List.length_take] at hi
    exact hn i hi2 (by omega)
  have h2 := data_yes (k := (verbA (findV w)).2.2) (l := l.drop (verbA (findV w)).2.1.toNat) (d := (candE w l).data) hv.2.2.2.2.2.1 (Prod.ext rfl hd)
  unfold partsE
  show (verbA ((findV w : Nat) : Int).toNat).1 :: ((numsOf (l.take (verbA (findV w)).2.1.toNat)).map textL ++ dataP (verbA ((findV w : Nat) : Int).toNat).2.2 (candE w l).data) = _
  rw [Int.toNat_natCast, h1, h2, find_word h0, List.take_append_drop]
/-- the reading of a line, once all its parts are read -/
theorem parse_cand {s w : List UInt8} {l : List (List UInt8)} (hs : partsB 32 s = w :: l) (h0 : findV w ≠ 0) (hl : (verbA (findV w)).2.1 ≤ (l.length : Int)) (hn : ∀ i (h : i < l.length), (i : Int) < (verbA (findV w)).2.1 → (parseV l[i] 1073741824).2 = true) :
    parseE s = if (dataV (verbA (findV w)).2.2 (l.drop (verbA (findV w)).2.1.toNat)).2 = true ∧ rightB (candE w l) = true then some (candE w l) else none := by
  have hv := verb_facts (find_lt w)
  split
  · rename_i h
    exact parseE_yes h.2 ((cand_parts h0 hl hn h.1).trans hs.symm)
  · rename_i h
    refine parseE_none fun e h1 h2 => h ?_
    obtain ⟨e1, e2⟩ := parts_verb h1 (h2.trans hs)
    obtain ⟨k1, k2, k3, k4, k5⟩ := right_spec h1
    have hd : (dataV (verbA (findV w)).2.2 (l.drop (verbA (findV w)).2.1.toNat)).2 = true := by
      have e3 : l.drop (verbA (findV w)).2.1.toNat = dataP (verbA e.verb.toNat).2.2 e.data := by
        rw [e2, e1]; exact List.drop_left' (by rw [List.length_map]; omega)
      rw [e3, e1, data_back (e1 ▸ hv.2.2.2.2.2.1) k5 rfl]
    refine ⟨hd, ?_⟩
    have hp := (cand_parts h0 hl hn hd).trans (hs.symm.trans h2.symm)
    have hn2 : (candE w l).n = e.n := by
      have e3 := (List.cons.inj hp).2
      rw [show (candE w l).verb.toNat = e.verb.toNat by show ((findV w : Nat) : Int).toNat = _; omega] at e3
      exact map_text_inj (List.append_inj e3 (by
        show ((numsOf (l.take _)).map textL).length = _
        have hlen := congrArg List.length e2
        rw [List.length_append, List.length_map] at hlen
        unfold numsOf
        rw [List.length_map, List.length_map, List.length_map, List.length_take, e1]; omega)).1
    have hd2 : (candE w l).data = e.data := by
      have e3 : l.drop (verbA (findV w)).2.1.toNat = dataP (verbA e.verb.toNat).2.2 e.data := by
        rw [e2, e1]; exact List.drop_left' (by rw [List.length_map]; omega)
      show (dataV (verbA (findV w)).2.2 (l.drop (verbA (findV w)).2.1.toNat)).1 = _
      rw [e3, e1, data_back (e1 ▸ hv.2.2.2.2.2.1) k5 rfl]
    have hv2 : (candE w l).verb = e.verb := by show ((findV w : Nat) : Int) = _; omega
    have : candE w l = e := by
      cases e; cases hc : candE w l; rw [hc] at hn2 hd2 hv2; simp only at hn2 hd2 hv2; rw [hn2, hd2, hv2]
    rw [this]; exact h1
/-! Texts -/
def skipB (l : List UInt8) : Bool := decide (l = []) || decide (l.headD 0 = 35)
noncomputable def badB (l : List UInt8) : Bool := !skipB l && (parseE l).isNone
noncomputable def entsOf (ls : List (List UInt8)) : List Ent := ls.filterMap fun l => if skipB l = true then none else parseE l
noncomputable def badLn (ls : List (List UInt8)) : Nat := match ls.findIdx? badB with | some i => i + 1 | none => 0
noncomputable def readV (s : List UInt8) : List Ent × Nat := if badLn (partsB 10 s) = 0 then (entsOf (partsB 10 s), 0) else ([], badLn (partsB 10 s))
theorem bad_hit {ls : List (List UInt8)} {i : Nat} (hi : i < ls.length) (h : badB ls[i] = true) (hb : ∀ j (hj : j < ls.length), j < i → badB ls[j] = false) : badLn ls = i + 1 := by
  unfold badLn
  rw [List.findIdx?_eq_some_iff_getElem.2 ⟨hi, h, fun j hj => by simpa using hb j (by omega) hj⟩]
theorem bad_none {ls : List (List UInt8)} (hb : ∀ j (hj : j < ls.length), badB ls[j] = false) : badLn ls = 0 := by
  unfold badLn
  rw [List.findIdx?_eq_none_iff.2 fun x hx => by
    obtain ⟨j, hj, rfl⟩ := List.mem_iff_getElem.1 hx
    exact hb j hj]
theorem ents_skip {ls : List (List UInt8)} {i : Nat} (hi : i < ls.length) (h : skipB ls[i] = true) : entsOf (ls.take (i + 1)) = entsOf (ls.take i) := by
  unfold entsOf
  rw [List.take_succ_eq_append_getElem hi, List.filterMap_append]
  simp [h]
theorem ents_next {ls : List (List UInt8)} {i : Nat} (hi : i < ls.length) (h : ¬ skipB ls[i] = true) {e : Ent} (he : parseE ls[i] = some e) : entsOf (ls.take (i + 1)) = entsOf (ls.take i) ++ [e] := by
  unfold entsOf
  rw [List.take_succ_eq_append_getElem hi, List.filterMap_append]
  simp [h, he]
end Go.AL

namespace Go.AL
open Go.RowKit Go.NumSpec
/-! Entries' texts -/
theorem join_len (c : List UInt8) : ∀ l : List (List UInt8), (Lib.join l c).length ≤ (l.map fun p => p.length + c.length).sum
  | [] => by simp [Lib.join_nil]
  | [p] => by rw [Lib.join_one]; simp
  | p :: q :: l => by
    have ih := join_len c (q :: l)
    have e : Lib.join (p :: q :: l) c = p ++ (c ++ Lib.join (q :: l) c) := by
      rw [Lib.join_cons, Lib.join_cons]; simp [Lib.joinTail]
    rw [e, List.map_cons, List.sum_cons]
    simp only [List.length_append]
    omega
theorem sum_le {l : List (List UInt8)} {n : Nat} (h : ∀ p ∈ l, p.length ≤ n) : (l.map fun p => p.length + 1).sum ≤ l.length * (n + 1) := by
  induction l with
  | nil => simp
  | cons p l ih =>
    have h1 := ih fun q hq => h q (List.mem_cons_of_mem _ hq)
    have h2 := h p List.mem_cons_self
    rw [List.map_cons, List.sum_cons, List.length_cons, Nat.add_mul]; omega
theorem data_len {e : Ent} (h : rightB e = true) : e.data.length ≤ 1000 := by
  have h5 := (right_spec h).2.2.2.2
  unfold dataB at h5
  split at h5
  · have := (of_decide_eq_true h5).2; omega
  · split at h5
    · have := nameV_len h5; omega
    · rw [of_decide_eq_true h5]; simp
theorem n_len {e : Ent} (h : rightB e = true) : e.n.length ≤ 5 := by
  obtain ⟨h1, h2, h3, h4, h5⟩ := right_spec h
  have := verb_facts (n := e.verb.toNat) (by omega)
  omega
theorem parts_short {e : Ent} (h : rightB e = true) : (∀ p ∈ partsE e, p.length ≤ 2000) ∧ (partsE e).length ≤ 7 := by
  obtain ⟨h1, h2, h3, h4, h5⟩ := right_spec h
  have hv := verb_facts (n := e.verb.toNat) (by omega)
  have hn := n_len h
  have hd := data_len h
  refine ⟨fun p hp => ?_, ?_⟩
  · rcases List.mem_cons.1 hp with rfl | hp
    · have := hv.2.2.1; omega
    rcases List.mem_append.1 hp with hp | hp
    · obtain ⟨n, hn, rfl⟩ := List.mem_map.1 hp
      have := h4 n hn
      have := textL_len (a := n) ⟨by omega, by omega⟩
      omega
    · unfold dataP at hp
      split at hp
      · rw [List.mem_singleton.1 hp, toHex_len]; omega
      · split at hp
        · rw [List.mem_singleton.1 hp]; omega
        · cases hp
  · unfold partsE dataP
    rw [List.length_cons, List.length_append, List.length_map]
    split
    · simp; omega
    · split <;> simp <;> omega
theorem line_len {e : Ent} (h : rightB e = true) : (lineE e).length ≤ 14007 := by
  obtain ⟨h1, h2⟩ := parts_short h
  have h3 := join_len [32] (partsE e)
  have h4 := sum_le h1
  have h5 : (partsE e).length * (2000 + 1) ≤ 7 * 2001 := Nat.mul_le_mul_right _ h2
  unfold lineE
  simp only [List.length_singleton] at h3
  omega
theorem ents_len (ls : List (List UInt8)) : (entsOf ls).length ≤ ls.length := List.length_filterMap_le _ _
theorem badLn_none {ls : List (List UInt8)} (h : ∀ p ∈ ls, badB p = false) : badLn ls = 0 := bad_none fun j hj => h _ (List.getElem_mem hj)
theorem verbs_row {v : Int} (h0 : 0 ≤ v) (h : v < 24) : ((verbsV.drop (0 + v.toNat * 3)).take 3).map AV.lit = [.S (verbA v.toNat).1, .int .i64 (verbA v.toNat).2.1, .int .i64 (verbA v.toNat).2.2] := by
  have : ∀ i, i < 24 → ((verbsV.drop (0 + i * 3)).take 3).map AV.lit = [.S (verbA i).1, .int .i64 (verbA i).2.1, .int .i64 (verbA i).2.2] := fun i hi => match i, hi with
  | 0, _ => rfl
  | 1, _ => rfl
  | 2, _ => rfl
  | 3, _ => rfl
  | 4, _ => rfl
  | 5, _ => rfl
  | 6, _ => rfl
  | 7, _ => rfl
  | 8, _ => rfl
  | 9, _ => rfl
  | 10, _ => rfl
  | 11, _ => rfl
  | 12, _ => rfl
  | 13, _ => rfl
  | 14, _ => rfl
  | 15, _ => rfl
  | 16, _ => rfl
  | 17, _ => rfl
  | 18, _ => rfl
  | 19, _ => rfl
  | 20, _ => rfl
  | 21, _ => rfl
  | 22, _ => rfl
  | 23, _ => rfl
  | k + 24, h => absurd h (by omega)
  exact this _ (by omega)
theorem verbs_cell {v : Int} (h0 : 0 ≤ v) (h : v < 24) : ((((verbsV.drop 0).take 72).map AV.lit).drop (v.toNat * 3)).take 3 = [.S (verbA v.toNat).1, .int .i64 (verbA v.toNat).2.1, .int .i64 (verbA v.toNat).2.2] := by
  have e : (verbsV.drop 0).take 72 = verbsV := rfl
  rw [e, ← List.map_drop, ← List.map_take, ← verbs_row h0 h, Nat.zero_add]
theorem bits_15 {n : Nat} (h : n < 256) : bits .and .u8 (n : Int) 15 = ((n % 16 : Nat) : Int) := by
  have : ∀ n : Nat, n < 256 → bits .and .u8 (n : Int) 15 = ((n % 16 : Nat) : Int) := by decide +kernel
  exact this n h
theorem bits_16 {x y : Nat} (hx : x < 16) (hy : y < 16) : bits .or .i64 ((16 * x : Nat) : Int) (y : Int) = ((16 * x + y : Nat) : Int) := by
  have : ∀ x : Nat, x < 16 → ∀ y : Nat, y < 16 → bits .or .i64 ((16 * x : Nat) : Int) (y : Int) = ((16 * x + y : Nat) : Int) := by decide +kernel
  exact this x hx y hy
/-- an entry's line as far as its numbers were put -/
def partsN (e : Ent) (i : Nat) : List (List UInt8) := (verbA e.verb.toNat).1 :: (e.n.take i).map textL
theorem partsN_next {e : Ent} {i : Nat} (h : i < e.n.length) : partsN e (i + 1) = partsN e i ++ [textL e.n[i]] := by
  unfold partsN
  rw [List.take_succ_eq_append_getElem h, List.map_append]; rfl
theorem partsN_all {e : Ent} {i : Nat} (h : e.n.length ≤ i) : partsE e = partsN e i ++ dataP (verbA e.verb.toNat).2.2 e.data := by
  unfold partsN partsE
  rw [List.take_of_length_le h]; rfl
theorem partsN_len (e : Ent) (i : Nat) : (partsN e i).length ≤ e.n.length + 1 := by
  unfold partsN
  rw [List.length_cons, List.length_map, List.length_take]; omega
def entP (o : Option Ent) : AV := .tup [entAV (o.getD ent0), .int .i64 (if o.isSome then 0 else 460)]
theorem nums_next {l : List (List UInt8)} {i : Nat} (h : i < l.length) : numsOf (l.take (i + 1)) = numsOf (l.take i) ++ [(parseV l[i] 1073741824).1] := by
  unfold numsOf
  rw [List.take_succ_eq_append_getElem h, List.map_append]; rfl
theorem nums_len (l : List (List UInt8)) : (numsOf l).length = l.length := by simp [numsOf]
theorem skip_yes {l : List UInt8} (h : l = [] ∨ atL l 0 = 35) : skipB l = true := by
  unfold skipB
  rcases h with h | h
  · simp [h]
  · cases l with
    | nil => simp
    | cons x t =>
      have : x = 35 := UInt8.toNat_inj.1 (by simp [atL] at h; have : (35 : UInt8).toNat = 35 := rfl; omega)
      simp [this]
theorem skip_no {l : List UInt8} (h : l ≠ []) (h2 : atL l 0 ≠ 35) : ¬ skipB l = true := by
  unfold skipB
  cases l with
  | nil => exact absurd rfl h
  | cons x t =>
    have : x ≠ 35 := fun e => h2 (by rw [e]; rfl)
    simp [this]
theorem ents_nextD {ls : List (List UInt8)} {i : Nat} (hi : i < ls.length) (h : ¬ skipB ls[i] = true) (he : (parseE ls[i]).isSome = true) : entsOf (ls.take (i + 1)) = entsOf (ls.take i) ++ [(parseE ls[i]).getD ent0] := by
  obtain ⟨e, he⟩ := Option.isSome_iff_exists.1 he
  rw [ents_next hi h he, he]; rfl
theorem bad_skip {l : List UInt8} (h : skipB l = true) : badB l = false := by simp [badB, h]
theorem bad_some {l : List UInt8} (h : (parseE l).isSome = true) : badB l = false := by
  obtain ⟨e, he⟩ := Option.isSome_iff_exists.1 h
  simp [badB, he]
theorem bad_yes {l : List UInt8} (h : ¬ skipB l = true) (h2 : (parseE l).isSome = false) : badB l = true := by
  unfold badB
  rw [Option.isNone_iff_eq_none.2 (by simpa using h2)]; simpa using h
theorem code_some {o : Option Ent} (h : (if o.isSome then (0 : Int) else 460) = 0) : o.isSome = true := by
  cases o <;> simp_all
theorem code_none {o : Option Ent} (h : (if o.isSome then (0 : Int) else 460) ≠ 0) : o.isSome = false := by
  cases o <;> simp_all
theorem right_fits {e : Ent} (h : rightB e = true) : ∀ x ∈ e.n, Go.NumSpec.fits x := fun x hx => by
  have := (right_spec h).2.2.2.1 x hx
  unfold Go.NumSpec.fits; omega
def lineEr (k : Nat) : Er := if k = 0 then none else erNew 460 [[108, 105, 110, 101, 32] ++ textL (k : Int)]
end Go.AL

namespace Go.AL
open Go.RowKit Go.NumSpec
end Go.AL

namespace Go.AL
open Go.RowKit Go.NumSpec
theorem textL_one {n : Nat} (h : n < 10) : textL (n : Int) = [UInt8.ofNat (48 + n)] := by
  unfold textL
  rw [if_neg (by omega), digL, if_pos (by omega), Int.natAbs_natCast]
theorem works_parts : partsE ⟨14, [1, 5], []⟩ = [[103, 101, 116], [49], [53]] := by
  have h1 := textL_one (n := 1) (by decide)
  have h2 := textL_one (n := 5) (by decide)
  show (verbA 14).1 :: ([textL ((1 : Nat) : Int), textL ((5 : Nat) : Int)] ++ dataP (verbA 14).2.2 []) = _
  rw [h1, h2]; rfl
theorem works_get : parseE [103, 101, 116, 32, 49, 32, 53] = some ⟨14, [1, 5], []⟩ := parseE_yes (by decide) (works_parts.trans (by decide))
theorem works_line : lineV ⟨14, [1, 5], []⟩ = [103, 101, 116, 32, 49, 32, 53] := by
  unfold lineV
  rw [if_pos (by decide)]
  exact parts_line (works_parts.trans (by decide))
theorem works_tick : parseE [116, 105, 99, 107] = some ⟨5, [], []⟩ := parseE_yes (by decide) (by decide)
theorem works_round : parseE [114, 111, 117, 110, 100] = some ⟨6, [], []⟩ := parseE_yes (by decide) (by decide)
theorem works_txt : readV [35, 32, 97, 10, 10, 116, 105, 99, 107, 10, 114, 111, 117, 110, 100, 10] = ([⟨5, [], []⟩, ⟨6, [], []⟩], 0) := by
  have hp : partsB 10 [35, 32, 97, 10, 10, 116, 105, 99, 107, 10, 114, 111, 117, 110, 100, 10] = [[35, 32, 97], [], [116, 105, 99, 107], [114, 111, 117, 110, 100], []] := by decide
  have s1 : skipB [35, 32, 97] = true := by decide
  have s2 : skipB [] = true := by decide
  have s3 : skipB [116, 105, 99, 107] = false := by decide
  have s4 : skipB [114, 111, 117, 110, 100] = false := by decide
  unfold readV
  rw [hp, badLn_none fun p hp => ?_, if_pos rfl]
  · simp only [entsOf, List.filterMap_cons, List.filterMap_nil, s1, s2, s3, s4, works_tick, works_round, if_true, Bool.false_eq_true, if_false]
  · simp only [List.mem_cons, List.not_mem_nil, or_false] at hp
    rcases hp with rfl | rfl | rfl | rfl | rfl
    · exact bad_skip s1
    · exact bad_skip s2
    · exact bad_some (by rw [works_tick]; rfl)
    · exact bad_some (by rw [works_round]; rfl)
    · exact bad_skip s2
end Go.AL

namespace Go.AL
open Go.RowKit Go.NumSpec
abbrev nE (e : Ent) (i : Nat) : Int := e.n.getD i 0
def runC (e : Ent) : Ctr := ⟨[109, 97, 105, 110], [97, 112, 112, 58, 49], (nE e 2, nE e 3, 0), (0, 0, 0), [], (0, 0)⟩
def runS (e : Ent) : Spc := ⟨e.data, [], [], [runC e], nE e 1, 0, 0⟩
def callE (e : Ent) : Cal :=
  if e.verb = 13 then cal0 9 else if e.verb = 14 then { cal0 10 with uid := nE e 1 } else if e.verb = 15 then { cal0 8 with uid := nE e 1 }
  else if e.verb = 16 then { cal0 3 with uid := nE e 1, grace := nE e 2 } else if e.verb = 17 then { cal0 4 with uid := nE e 1, ctr := nE e 2 }
  else if e.verb = 18 then { cal0 5 with id := nE e 1, data := e.data } else if e.verb = 19 then { cal0 6 with id := nE e 1, most := nE e 2 }
  else if e.verb = 20 then { cal0 7 with id := nE e 1 } else if e.verb = 21 then { cal0 11 with rev := (nE e 1).toNat } else if e.verb = 22 then { cal0 12 with id := nE e 1 }
  else { cal0 1 with spec := runS e }
def okE (e : Ent) : Bool := rightB e && decide (13 ≤ e.verb)
def callA (e : Ent) : Cal := if okE e = true then callE e else cal0 0
theorem okE_spec {e : Ent} (h : okE e = true) : rightB e = true ∧ 13 ≤ e.verb ∧ e.verb < 24 := by
  unfold okE at h
  simp only [Bool.and_eq_true, decide_eq_true_eq] at h
  exact ⟨h.1, h.2, (right_spec h.1).2.1⟩
theorem nE_bnd {e : Ent} (h : rightB e = true) (i : Nat) : 0 ≤ nE e i ∧ nE e i ≤ 1073741824 := by
  have h1 := (right_spec h).2.2.2.1
  show 0 ≤ e.n.getD i 0 ∧ e.n.getD i 0 ≤ 1073741824
  rw [List.getD_eq_getElem?_getD]
  rcases Nat.lt_or_ge i e.n.length with hi | hi
  · rw [List.getElem?_eq_getElem hi]; exact h1 _ (List.getElem_mem hi)
  · rw [List.getElem?_eq_none hi]; simp
theorem run_data {e : Ent} (h : okE e = true) (hv : e.verb = 23) : e.data.length ≤ 16 := by
  have h1 := (right_spec (okE_spec h).1).2.2.2.2
  rw [hv] at h1
  have h2 : nameV e.data = true := h1
  unfold nameV at h2
  simp only [Bool.and_eq_true, decide_eq_true_eq] at h2
  omega
theorem runS_light {e : Ent} (h : e.data.length ≤ 16) : lightS (runS e) = true := by
  unfold lightS runS runC
  simp [lightC]
  omega
theorem callA_short (e : Ent) : ShortA (callA e) := by
  unfold callA
  split
  · rename_i h
    have hs := okE_spec h
    unfold callE
    repeat' split
    all_goals first
      | exact cal0_short _
      | exact ⟨spc0_light, Nat.zero_le _, fun y hy => absurd hy List.not_mem_nil⟩
      | exact ⟨runS_light (run_data h (by omega)), Nat.zero_le _, fun y hy => absurd hy List.not_mem_nil⟩
  · exact cal0_short _
theorem callA_rev (e : Ent) : (callA e).rev < 18446744073709551616 := by
  unfold callA
  split
  · rename_i h
    have hb := nE_bnd (okE_spec h).1 1
    unfold callE
    repeat' split
    all_goals first
      | (show (0 : Nat) < _; decide)
      | (show (nE e 1).toNat < _; omega)
  · show (0 : Nat) < _; decide
def fineE (e : Ent) : Bool := okE e && (checkA (callA e)).isNone && decide ((calB (callA e)).length ≤ 2048)
def frameE (e : Ent) : List UInt8 := if fineE e = true then frameB (calB (callA e)) else []
theorem fine_no {e : Ent} (h : fineE e = false) : frameE e = [] := if_neg (by rw [h]; decide)
theorem fine_yes {e : Ent} (h : fineE e = true) : frameE e = frameB (calB (callA e)) ∧ okE e = true ∧ checkA (callA e) = none ∧ (calB (callA e)).length ≤ 2048 := by
  refine ⟨if_pos h, ?_⟩
  unfold fineE at h
  simp only [Bool.and_eq_true, decide_eq_true_eq, Option.isNone_iff_eq_none] at h
  exact ⟨h.1.1, h.1.2, h.2⟩
/-- a frame of any text -/
def putF (t : List UInt8) : List UInt8 × Int := if 2048 < t.length then ([], 2) else (frameB t, 0)
theorem putF_long {t : List UInt8} (h : 2048 < t.length) : putF t = ([], 2) := if_pos h
theorem putF_good {t : List UInt8} (h : ¬ 2048 < t.length) : putF t = (frameB t, 0) := if_neg h
end Go.AL

namespace Go.AL
open Go.RowKit Go.NumSpec
theorem bounds_num {x : Cal} {f : UInt8} (hf : Letter f) (h1 : ¬ fname f = revN) (h2 : ¬ fname f = spcN) (h3 : ¬ fname f = datN) (h4 : ¬ fname f = slN) (h : fieldE x f = none) : 0 ≤ (boundsA x (fname f)).1 ∧ (boundsA x (fname f)).1 ≤ 1073741824 ∧ fieldB x f = numB (boundsA x (fname f)).1 := by
  rcases hf with rfl | rfl | rfl | rfl | rfl | rfl | rfl | rfl | rfl
  · have h9 : withinE uidN x.uid 1 1073741824 = none := h
    have := within_none h9
    exact ⟨by show 0 ≤ x.uid; omega, by show x.uid ≤ _; omega, rfl⟩
  · exact absurd rfl h1
  · exact absurd rfl h2
  · have h9 : withinE grcN x.grace 0 1000 = none := h
    have := within_none h9
    exact ⟨by show 0 ≤ x.grace; omega, by show x.grace ≤ _; omega, rfl⟩
  · have h9 : withinE cnN x.ctr 0 3 = none := h
    have := within_none h9
    exact ⟨by show 0 ≤ x.ctr; omega, by show x.ctr ≤ _; omega, rfl⟩
  · have h9 : withinE idN x.id 1 1073741824 = none := h
    have := within_none h9
    exact ⟨by show 0 ≤ x.id; omega, by show x.id ≤ _; omega, rfl⟩
  · have h9 : withinE mstN x.most 1 32 = none := h
    have := within_none h9
    exact ⟨by show 0 ≤ x.most; omega, by show x.most ≤ _; omega, rfl⟩
  · exact absurd rfl h3
  · exact absurd rfl h4
end Go.AL

namespace Go.AL
open Go.RowKit Go.NumSpec
theorem callE_spec (e : Ent) : (callE e).spec = spc0 ∨ (callE e).spec = runS e ∧ (callE e).kind = 1 := by
  unfold callE
  repeat' split
  all_goals first | exact .inl rfl | exact .inr ⟨rfl, rfl⟩
theorem callE_sel (e : Ent) : (callE e).sel = [] := by
  unfold callE
  repeat' split
  all_goals rfl
theorem callA_spec (e : Ent) : (callA e).spec = spc0 ∨ (callA e).spec = runS e ∧ (callA e).kind = 1 := by
  unfold callA
  split
  · exact callE_spec e
  · exact .inl rfl
theorem callA_sel (e : Ent) : (callA e).sel = [] := by
  unfold callA
  split
  · exact callE_sel e
  · rfl
theorem callA_lights (e : Ent) : lightS (callA e).spec = true := by
  by_cases h : okE e = true
  · unfold callA
    rw [if_pos h]
    by_cases hv : e.verb = 23
    · rcases callE_spec e with h1 | ⟨h1, _⟩
      · rw [h1]; rfl
      · rw [h1]; exact runS_light (run_data h hv)
    · have hs := okE_spec h
      have : (callE e).spec = spc0 := by
        unfold callE
        repeat' split
        all_goals first | rfl | omega
      rw [this]; rfl
  · unfold callA; rw [if_neg h]; rfl
theorem callA_lightl (e : Ent) : lightS (onlyL (callA e).sel) = true := by rw [callA_sel]; rfl
theorem spc0_len : (spcB spc0).length ≤ 50 := by decide +kernel
theorem runS_len {e : Ent} (h : checkE (runS e) = none) : (spcB (runS e)).length ≤ 1100 := by
  obtain ⟨h1, h2, h3, h4, h5, h6, h7⟩ := check_ok h
  have a1 := textB_len (s := (runS e).name) (by omega)
  have a4 : (ctrB (runC e)).length ≤ 1000 := ctrB_len (h4.2 _ List.mem_cons_self)
  have a5 := numB_len (n := (runS e).restart) (by omega)
  have a6 := numB_len (n := (runS e).grace) (by omega)
  have a7 := numB_len (n := (runS e).prio) (by omega)
  have a2 : (labsB (runS e).labels).length ≤ 10 := by show (labsB []).length ≤ 10; decide +kernel
  have a3 : (ctrsB (runS e).init).length ≤ 10 := by show (ctrsB []).length ≤ 10; decide +kernel
  have a8 : (ctrsB (runS e).main).length ≤ 1010 := by
    show (putL 1 ++ [runC e].flatMap ctrB).length ≤ 1010
    rw [List.length_append, List.flatMap_cons, List.flatMap_nil, List.append_nil]
    have : (putL 1).length ≤ 10 := by decide +kernel
    omega
  unfold spcB
  simp only [List.length_append]
  omega
theorem callB_len {e : Ent} (hk : checkA (callA e) = none) : (calB (callA e)).length ≤ 2048 := by
  obtain ⟨hcal, hff⟩ := checkA_ok (callA_rev e) hk
  have hk1 := hcal.1.1
  have hk2 := hcal.1.2
  have n0 := numB_len (n := (callA e).kind) (by omega)
  have hsp := callA_spec e
  have hse := callA_sel e
  have hu := callA_rev e
  generalize callA e = x at *
  have hall : ∀ f ∈ (kindA x.kind.toNat).2, (fieldB x f).length ≤ if x.kind = 1 then 1100 else 50 := fun f hf => by
    have hfe := hff f hf
    have hfo := field_ok hu hfe
    have h10 : ∀ n : Nat, n ≤ 50 → n ≤ if x.kind = 1 then 1100 else 50 := fun n h => by split <;> omega
    unfold fieldB
    unfold FieldOk at hfo
    split
    · rename_i h; rw [if_pos h] at hfo; exact h10 _ (by have := numB_len (n := x.uid) (by omega); omega)
    · rename_i h; rw [if_neg h] at hfo
      split
      · exact h10 _ (by have := putL_few x.rev hu; omega)
      · rename_i h; rw [if_neg h] at hfo
        split
        · rename_i h; subst h
          rcases hsp with h1 | ⟨h1, h2⟩
          · rw [h1]; exact h10 _ spc0_len
          · rw [if_pos h2, h1]
            exact runS_len (by rw [← h1]; exact erIn_none hfe)
        · rename_i h; rw [if_neg h] at hfo
          split
          · rename_i h; rw [if_pos h] at hfo; exact h10 _ (by have := numB_len (n := x.grace) (by omega); omega)
          · rename_i h; rw [if_neg h] at hfo
            split
            · rename_i h; rw [if_pos h] at hfo; exact h10 _ (by have := numB_len (n := x.ctr) (by omega); omega)
            · rename_i h; rw [if_neg h] at hfo
              split
              · rename_i h; rw [if_pos h] at hfo; exact h10 _ (by have := numB_len (n := x.id) (by omega); omega)
              · rename_i h; rw [if_neg h] at hfo
                split
                · rename_i h; rw [if_pos h] at hfo; exact h10 _ (by have := numB_len (n := x.most) (by omega); omega)
                · rename_i h; rw [if_neg h] at hfo
                  split
                  · rename_i h; rw [if_pos h] at hfo; exact h10 _ (by have := textB_len (s := x.data) (by omega); omega)
                  · split
                    · rw [hse]; exact h10 _ (by decide +kernel)
                    · exact h10 _ (by decide)
  have h1 := flatB_len hall
  have h2 := fields_few x.kind.toNat
  unfold calB
  rw [List.length_append]
  by_cases hk : x.kind = 1
  · rw [if_pos hk] at h1
    have h3 : (kindA x.kind.toNat).2.length = 1 := by rw [hk]; decide +kernel
    rw [h3] at h1
    omega
  · rw [if_neg hk] at h1
    have := Nat.mul_le_mul_right 50 h2
    omega
theorem fineE_eq (e : Ent) : fineE e = (okE e && (checkA (callA e)).isNone) := by
  unfold fineE
  by_cases hk : checkA (callA e) = none
  · rw [decide_eq_true (callB_len hk), Bool.and_true]
  · have : (checkA (callA e)).isNone = false := by cases h : checkA (callA e) with
      | none => exact absurd h hk
      | some x => rfl
    rw [this]; simp
/-- The kind of an entry's call. -/
def kindsE : List Int := [9, 10, 8, 3, 4, 5, 6, 7, 11, 12, 1]
def kindZ (e : Ent) : Int := kindsE.getD (e.verb - 13).toNat 0
theorem kinds_at {e : Ent} (h : 13 ≤ e.verb) (h' : e.verb < 24) : (intsV kindsE)[(e.verb - 13).toNat]? = some (.int .i64 (kindZ e)) := by
  have hi : (e.verb - 13).toNat < kindsE.length := by show _ < 11; omega
  unfold intsV kindZ
  rw [List.getElem?_map, List.getElem?_eq_getElem hi, List.getD_eq_getElem?_getD, List.getElem?_eq_getElem hi]
  rfl
theorem nE_no {e : Ent} {i : Nat} (h : e.n.length ≤ i) : nE e i = 0 := by
  show e.n.getD i 0 = 0
  rw [List.getD_eq_getElem?_getD, List.getElem?_eq_none h]; rfl
theorem frame_ref {t : List UInt8} (h : t.length ≤ 2048) : [UInt8.ofNat (t.length % 256), UInt8.ofNat (t.length / 256)] ++ t = frameB t := by
  have : UInt8.ofNat (t.length % 256) = UInt8.ofNat t.length := by
    apply UInt8.toNat_inj.1
    simp [UInt8.toNat_ofNat']
  unfold frameB
  rw [this]; rfl
end Go.AL

namespace Go.AL
open Go.RowKit Go.NumSpec
end Go.AL

namespace Go.AL
theorem tabIs_of_mem {P : Program} {W : World} {name : String} {k : IntKind} {zs : List Int} {g : Nat} {t e : TypeId} {n : Nat}
    (hg : P.globalNamed name = some g) (hty : (P.globals[g]?).map (·.type) = some t) (ht : P.underlying t = some (.array n e)) (he : P.underlying e = some (.int k)) (hce : P.cellsOf e = 1) (hct : P.cellsOf t = n) :
    ∀ {l : List (String × DataW Unit)} {ps : List MemPlace}, (name, Lib.tabData k zs) ∈ l → DataW.LaidVars P W l ps → Lib.TabIs P W name k zs
  | [], _, hm, _ => nomatch hm
  | (m, d) :: r, _, hm, h => by
    obtain ⟨g', t', cs, fuel, p, q, hg', ht', hvar, hd, hr, _⟩ := h
    rcases List.mem_cons.1 hm with hm | hm
    · cases hm
      obtain rfl := Option.some.inj (hg.symm.trans hg')
      obtain rfl := Option.some.inj (hty.symm.trans ht')
      unfold Lib.TabIs
      rw [hvar, ← Lib.cells_of_tab ht he hce hct hd]
    · exact tabIs_of_mem hg hty ht he hce hct hm hr
theorem tabIs_of_laid {P : Program} {W : World} {name : String} {k : IntKind} {zs : List Int} {g : Nat} {t e : TypeId} {n : Nat}
    (hg : P.globalNamed name = some g) (hty : (P.globals[g]?).map (·.type) = some t) (ht : P.underlying t = some (.array n e)) (he : P.underlying e = some (.int k)) (hce : P.cellsOf e = 1) (hct : P.cellsOf t = n)
    {l : List (String × DataW Unit)} (hm : (name, Lib.tabData k zs) ∈ l) (h : laidMet P l W) : Lib.TabIs P W name k zs := by
  obtain ⟨ps, h1, _⟩ := h
  exact tabIs_of_mem hg hty ht he hce hct hm h1
end Go.AL

namespace Go.AL
theorem laid_mem {P : Program} {W : World} {name : String} {d : DataW Unit} : ∀ {l : List (String × DataW Unit)} {ps : List MemPlace}, (name, d) ∈ l → DataW.LaidVars P W l ps →
    ∃ g t cs fuel p, P.globalNamed name = some g ∧ (P.globals[g]?).map (·.type) = some t ∧ W.var? P name = some cs ∧ DataW.trod (fun _ => ()) P W 0 (fun _ => true) false fuel t cs.toList = some (d, p)
  | [], _, hm, _ => nomatch hm
  | (m, d') :: r, _, hm, h => by
    obtain ⟨g', t', cs, fuel, p, q, hg', ht', hvar, hd, hr, _⟩ := h
    rcases List.mem_cons.1 hm with hm | hm
    · cases hm
      exact ⟨g', t', cs, fuel, p, hg', ht', hvar, hd⟩
    · exact laid_mem hm hr
section
variable {H : Type} {enc : TypeId × Value → H} {P : Program} {w : World} {base : Nat} {sp : Nat → Bool} {held : Bool} {fuel : Nat} {t e : TypeId}
theorem row3_cells {f0 f1 f2 : Field} {xs : List Value} {a : List UInt8} {b c : Int} {p : List MemPlace} (he : P.underlying e = some (.struct #[f0, f1, f2])) (hc : P.cellsOf e = 3) (o0 : f0.offset = 0) (o1 : f1.offset = 1) (o2 : f2.offset = 2)
    (c0 : P.cellsOf f0.type = 1) (c1 : P.cellsOf f1.type = 1) (c2 : P.cellsOf f2.type = 1) (t0 : P.underlying f0.type = some .string) (t1 : P.underlying f1.type = some (.int .i64)) (t2 : P.underlying f2.type = some (.int .i64))
    (h : DataW.trod enc P w base sp held fuel e xs = some (.agg [.lit (.string a), .lit (.int .i64 b), .lit (.int .i64 c)], p)) : xs = [.string ⟨a.toArray⟩, .int .i64 b, .int .i64 c] := by
  obtain ⟨ys, n, _, hx, hl, hlen, hf⟩ := DataW.trod_struct he h
  match ys, hlen with
  | [y0, y1, y2], _ =>
    simp only [Prod.mk.injEq, DataW.agg.injEq, List.map_cons, List.map_nil, List.cons.injEq, and_true] at hx
    have h0 : DataW.trod enc P w base sp held n f0.type ((xs.drop f0.offset).take (P.cellsOf f0.type)) = some y0 := by simpa using hf 0 f0 rfl
    have h1 : DataW.trod enc P w base sp held n f1.type ((xs.drop f1.offset).take (P.cellsOf f1.type)) = some y1 := by simpa using hf 1 f1 rfl
    have h2 : DataW.trod enc P w base sp held n f2.type ((xs.drop f2.offset).take (P.cellsOf f2.type)) = some y2 := by simpa using hf 2 f2 rfl
    rw [o0, c0] at h0; rw [o1, c1] at h1; rw [o2, c2] at h2
    obtain ⟨s, k0, k1, _⟩ := DataW.trod_string t0 h0
    obtain ⟨z1, k2, k3, _⟩ := DataW.trod_int t1 h1
    obtain ⟨z2, k4, k5, _⟩ := DataW.trod_int t2 h2
    have hl3 : xs.length = 3 := by rw [hl, hc]
    match xs, hl3 with
    | [x0, x1, x2], _ =>
      simp at k0 k2 k4
      subst k0 k2 k4
      rw [k1, k3, k5] at hx
      simp at hx
      obtain ⟨⟨ha, hb, hc⟩, _⟩ := hx
      subst hb hc
      rw [ha]
theorem verbs_cells {f0 f1 f2 : Field} {cs : List Value} {p : List MemPlace} (ht : P.underlying t = some (.array 24 e)) (hct : P.cellsOf t = 72) (he : P.underlying e = some (.struct #[f0, f1, f2])) (hc : P.cellsOf e = 3) (o0 : f0.offset = 0) (o1 : f1.offset = 1) (o2 : f2.offset = 2)
    (c0 : P.cellsOf f0.type = 1) (c1 : P.cellsOf f1.type = 1) (c2 : P.cellsOf f2.type = 1) (t0 : P.underlying f0.type = some .string) (t1 : P.underlying f1.type = some (.int .i64)) (t2 : P.underlying f2.type = some (.int .i64))
    (h : DataW.trod enc P w base sp held fuel t cs = some (.agg (verbsT.map fun x => .agg [.lit (.string x.1), .lit (.int .i64 x.2.1), .lit (.int .i64 x.2.2)]), p)) : ∀ (j : Nat) u, verbsV[j]? = some u → cs[j]? = some u := by
  obtain ⟨xs, m, _, hx, hl, hlen, hf⟩ := DataW.trod_array ht h
  have hx1 : xs.map (·.1) = verbsT.map fun x => .agg [.lit (.string x.1), .lit (.int .i64 x.2.1), .lit (.int .i64 x.2.2)] := by
    have := congrArg Prod.fst hx
    simpa using this.symm
  have hrow : ∀ i, i < 24 → (cs.drop (i * 3)).take 3 = [.string ⟨(verbA i).1.toArray⟩, .int .i64 (verbA i).2.1, .int .i64 (verbA i).2.2] := fun i hi => by
    have h1 := hf i hi
    rw [hc] at h1
    have hi2 : i < xs.length := by omega
    rw [List.getElem?_eq_getElem hi2] at h1
    have h2 : (xs[i]).1 = .agg [.lit (.string (verbA i).1), .lit (.int .i64 (verbA i).2.1), .lit (.int .i64 (verbA i).2.2)] := by
      have h3 := congrArg (·[i]?) hx1
      simp only [List.getElem?_map, List.getElem?_eq_getElem hi2, List.getElem?_eq_getElem (show i < verbsT.length from hi), Option.map_some, Option.some.injEq] at h3
      rw [h3]
      have e9 : verbA i = verbsT[i]'(show i < verbsT.length from hi) := by unfold verbA; rw [List.getD_eq_getElem?_getD, List.getElem?_eq_getElem (show i < verbsT.length from hi)]; rfl
      rw [e9]
    refine row3_cells (p := (xs[i]).2) he hc o0 o1 o2 c0 c1 c2 t0 t1 t2 (h1.trans ?_)
    rw [← h2]
  intro j u hu
  have hj : j < 72 := (List.getElem?_eq_some_iff.1 hu).1
  have hr := hrow (j / 3) (by omega)
  have hv := verbs_at (i := j / 3) (by omega)
  have e1 : cs[j]? = ((cs.drop (j / 3 * 3)).take 3)[j % 3]? := by
    rw [List.getElem?_take_of_lt (by omega), List.getElem?_drop]
    congr 1; omega
  rw [e1, hr, ← hu]
  have h3 : j % 3 = 0 ∨ j % 3 = 1 ∨ j % 3 = 2 := by omega
  rcases h3 with h3 | h3 | h3
  · rw [h3, show j = 3 * (j / 3) by omega, hv.1]; rw [show (3 * (j / 3)) / 3 = j / 3 by omega]; rfl
  · rw [h3, show j = 3 * (j / 3) + 1 by omega, hv.2.1]; rw [show (3 * (j / 3) + 1) / 3 = j / 3 by omega]; rfl
  · rw [h3, show j = 3 * (j / 3) + 2 by omega, hv.2.2]; rw [show (3 * (j / 3) + 2) / 3 = j / 3 by omega]; rfl
end
end Go.AL

namespace Go.AL
section
variable {H : Type} {enc : TypeId × Value → H} {P : Program} {w : World} {base : Nat} {sp : Nat → Bool} {held : Bool} {fuel : Nat} {t e : TypeId}
theorem row2_cells {f0 f1 : Field} {xs : List Value} {a b : List UInt8} {p : List MemPlace} (he : P.underlying e = some (.struct #[f0, f1])) (hc : P.cellsOf e = 2) (o0 : f0.offset = 0) (o1 : f1.offset = 1) (c0 : P.cellsOf f0.type = 1) (c1 : P.cellsOf f1.type = 1) (t0 : P.underlying f0.type = some .string) (t1 : P.underlying f1.type = some .string)
    (h : DataW.trod enc P w base sp held fuel e xs = some (.agg [.lit (.string a), .lit (.string b)], p)) : xs = [.string ⟨a.toArray⟩, .string ⟨b.toArray⟩] := by
  obtain ⟨ys, n, _, hx, hl, hlen, hf⟩ := DataW.trod_struct he h
  match ys, hlen with
  | [y0, y1], _ =>
    simp only [Prod.mk.injEq, DataW.agg.injEq, List.map_cons, List.map_nil, List.cons.injEq, and_true] at hx
    have h0 : DataW.trod enc P w base sp held n f0.type ((xs.drop f0.offset).take (P.cellsOf f0.type)) = some y0 := by simpa using hf 0 f0 rfl
    have h1 : DataW.trod enc P w base sp held n f1.type ((xs.drop f1.offset).take (P.cellsOf f1.type)) = some y1 := by simpa using hf 1 f1 rfl
    rw [o0, c0] at h0; rw [o1, c1] at h1
    obtain ⟨s, k0, k1, _⟩ := DataW.trod_string t0 h0
    obtain ⟨s2, k2, k3, _⟩ := DataW.trod_string t1 h1
    have hl2 : xs.length = 2 := by rw [hl, hc]
    match xs, hl2 with
    | [x0, x1], _ =>
      simp at k0 k2
      subst k0 k2
      rw [k1, k3] at hx
      simp at hx
      obtain ⟨⟨ha, hb⟩, _⟩ := hx
      rw [ha, hb]
theorem kinds_cells {f0 f1 : Field} {cs : List Value} {p : List MemPlace} (ht : P.underlying t = some (.array 13 e)) (hct : P.cellsOf t = 26) (he : P.underlying e = some (.struct #[f0, f1])) (hc : P.cellsOf e = 2) (o0 : f0.offset = 0) (o1 : f1.offset = 1) (c0 : P.cellsOf f0.type = 1) (c1 : P.cellsOf f1.type = 1) (t0 : P.underlying f0.type = some .string) (t1 : P.underlying f1.type = some .string)
    (h : DataW.trod enc P w base sp held fuel t cs = some (.agg (kindsT.map fun x => .agg [.lit (.string x.1), .lit (.string x.2)]), p)) : ∀ (j : Nat) u, kindsV[j]? = some u → cs[j]? = some u := by
  obtain ⟨xs, m, _, hx, hl, hlen, hf⟩ := DataW.trod_array ht h
  have hx1 : xs.map (·.1) = kindsT.map fun x => .agg [.lit (.string x.1), .lit (.string x.2)] := by
    have := congrArg Prod.fst hx
    simpa using this.symm
  have hrow : ∀ i, i < 13 → (cs.drop (i * 2)).take 2 = [.string ⟨(kindA i).1.toArray⟩, .string ⟨(kindA i).2.toArray⟩] := fun i hi => by
    have h1 := hf i hi
    rw [hc] at h1
    have hi2 : i < xs.length := by omega
    rw [List.getElem?_eq_getElem hi2] at h1
    have h2 : (xs[i]).1 = .agg [.lit (.string (kindA i).1), .lit (.string (kindA i).2)] := by
      have h3 := congrArg (·[i]?) hx1
      simp only [List.getElem?_map, List.getElem?_eq_getElem hi2, List.getElem?_eq_getElem (show i < kindsT.length from hi), Option.map_some, Option.some.injEq] at h3
      rw [h3]
      have e9 : kindA i = kindsT[i]'(show i < kindsT.length from hi) := by unfold kindA; rw [List.getD_eq_getElem?_getD, List.getElem?_eq_getElem (show i < kindsT.length from hi)]; rfl
      rw [e9]
    refine row2_cells (p := (xs[i]).2) he hc o0 o1 c0 c1 t0 t1 (h1.trans ?_)
    rw [← h2]
  intro j u hu
  have hj : j < 26 := (List.getElem?_eq_some_iff.1 hu).1
  have hr := hrow (j / 2) (by omega)
  have hv := kind_at (i := j / 2) (by omega)
  have e1 : cs[j]? = ((cs.drop (j / 2 * 2)).take 2)[j % 2]? := by
    rw [List.getElem?_take_of_lt (by omega), List.getElem?_drop]
    congr 1; omega
  rw [e1, hr, ← hu]
  have h3 : j % 2 = 0 ∨ j % 2 = 1 := by omega
  rcases h3 with h3 | h3
  · rw [h3, show j = 2 * (j / 2) by omega, hv.1]; rw [show (2 * (j / 2)) / 2 = j / 2 by omega]; rfl
  · rw [h3, show j = 2 * (j / 2) + 1 by omega, hv.2]; rw [show (2 * (j / 2) + 1) / 2 = j / 2 by omega]; rfl
end
end Go.AL
