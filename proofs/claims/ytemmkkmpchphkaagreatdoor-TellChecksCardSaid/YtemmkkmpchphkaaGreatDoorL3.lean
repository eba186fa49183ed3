/- A part of the proof: laws of the logic and of the data, no program in sight.
Conditions: none beyond each theorem's own. -/
import Derived.Test.YtemmkkmpchphkaaGreatDoorL2
import Derived.Lib.Join
import Derived.Laws.MakeOwn
import Derived.Lib.Bytealg
import Derived.LaidMore
import Derived.Lib.LaidTab
set_option linter.unusedVariables false
set_option linter.unusedSimpArgs false
namespace Go.AL
open Go.RowKit Go.NumSpec
abbrev nameN : List UInt8 := [110, 97, 109, 101]
abbrev labelsN : List UInt8 := [108, 97, 98, 101, 108, 115]
abbrev initN : List UInt8 := [105, 110, 105, 116]
abbrev mainN : List UInt8 := [109, 97, 105, 110]
abbrev check1 (s : Spc) : List Er := [erNew (saysV (nameV s.name) 30) [nameN], labelsE labelsN s.labels, atMostE initN (s.init.length : Int) 0 3]
abbrev check2 (s : Spc) : List Er := [ctrsE initN [] [] s.init 0 0, atMostE mainN (s.main.length : Int) 1 4]
abbrev check3 (s : Spc) : List Er := [ctrsE mainN (namesTo [] s.init s.init.length) (portsTo [] s.init s.init.length) s.main 3 1000, withinE [114, 101, 115, 116, 97, 114, 116] s.restart 1 3, withinE [103, 114, 97, 99, 101] s.grace 0 1000, withinE [112, 114, 105, 111] s.prio 0 10]
def checkE (s : Spc) : Er := match firstE (check1 s) with | some x => some x | none => match firstE (check2 s) with | some x => some x | none => firstE (check3 s)
theorem check_bad1 {s : Spc} {x : Int × List (List UInt8)} (h : firstE (check1 s) = some x) : checkE s = some x := by unfold checkE; rw [h]
theorem check_bad2 {s : Spc} {x : Int × List (List UInt8)} (h : firstE (check1 s) = none) (h2 : firstE (check2 s) = some x) : checkE s = some x := by unfold checkE; rw [h, h2]
theorem check_good {s : Spc} (h : firstE (check1 s) = none) (h2 : firstE (check2 s) = none) : checkE s = firstE (check3 s) := by unfold checkE; rw [h, h2]
theorem check_all {s : Spc} (h : checkE s = none) : firstE (check1 s) = none ∧ firstE (check2 s) = none ∧ firstE (check3 s) = none := by
  unfold checkE at h
  cases h1 : firstE (check1 s) with
  | some x => rw [h1] at h; cases h
  | none =>
    rw [h1] at h
    cases h2 : firstE (check2 s) with
    | some x => rw [h2] at h; cases h
    | none => rw [h2] at h; exact ⟨rfl, rfl, h⟩
theorem lightS_out {s : Spc} (h : lightS s = true) : s.name.length ≤ 100 ∧ s.labels.length ≤ 10 ∧ s.init.length ≤ 8 ∧ s.main.length ≤ 8 ∧ (∀ x ∈ s.labels, x.1.length ≤ 1000000 ∧ x.2.length ≤ 1000000) ∧ (∀ c ∈ s.init, lightC c = true) ∧ ∀ c ∈ s.main, lightC c = true := by
  unfold lightS at h
  simp only [Bool.and_eq_true, decide_eq_true_eq, List.all_eq_true] at h
  obtain ⟨⟨⟨h1, h2, h3, h4⟩, h5⟩, h6, h7⟩ := h
  refine ⟨h1, h2, h3, h4, fun x hx => ?_, h6, h7⟩
  have := h5 x hx
  unfold lightL at this
  rw [decide_eq_true_eq] at this
  omega

theorem check_seen {s : Spc} (h : firstE (check1 s) = none) (hc : ∀ c ∈ s.init, lightC c = true) : (namesTo [] s.init s.init.length).length ≤ 100 ∧ (portsTo [] s.init s.init.length).length ≤ 100 := by
  have h3 := firstE_none h (atMostE initN (s.init.length : Int) 0 3) (List.mem_cons_of_mem _ (List.mem_cons_of_mem _ List.mem_cons_self))
  have h3 : s.init.length ≤ 3 := by
    unfold atMostE at h3
    split at h3
    · cases h3
    · omega
  have h1 := flat_le (l := s.init) fun c h => (of_decide_eq_true (hc c h)).2.2
  unfold namesTo portsTo
  rw [List.take_length, List.length_append, List.length_append, List.length_map]
  simp only [List.length_nil]
  omega

/-! ### What a pod asks for covers all -/
def leR (a b : Tri) : Prop := a.1 ≤ b.1 ∧ a.2.1 ≤ b.2.1 ∧ a.2.2 ≤ b.2.2
theorem leR.refl (a : Tri) : leR a a := ⟨Int.le_refl _, Int.le_refl _, Int.le_refl _⟩
theorem leR.trans {a b c : Tri} (h : leR a b) (k : leR b c) : leR a c := ⟨Int.le_trans h.1 k.1, Int.le_trans h.2.1 k.2.1, Int.le_trans h.2.2 k.2.2⟩
theorem within_none {name : List UInt8} {n lo hi : Int} (h : withinE name n lo hi = none) : lo ≤ n ∧ n ≤ hi := by
  unfold withinE at h
  split at h
  · cases h
  · omega
theorem erIn_none {e : Er} {p : List UInt8} (h : erIn e p = none) : e = none := by cases e with | none => rfl | some x => cases h
end Go.AL

namespace Go.AL
open Go.RowKit Go.NumSpec
def sameL {α : Type} (f : α → α → Bool) : List α → List α → Bool
  | [], [] => true
  | a :: l, b :: m => f a b && sameL f l m
  | _, _ => false
theorem sameL_len {α : Type} {f : α → α → Bool} : ∀ {l m : List α}, l.length ≠ m.length → sameL f l m = false
  | [], [], h => absurd rfl h
  | a :: l, b :: m, h => by unfold sameL; rw [sameL_len (l := l) (m := m) (fun e => h (by simp [e])), Bool.and_false]
  | [], b :: m, _ => rfl
  | a :: l, [], _ => rfl
theorem sameL_bad {α : Type} {f : α → α → Bool} : ∀ {l m : List α} {i : Nat} (h : i < l.length) (h' : i < m.length), f l[i] m[i] = false → sameL f l m = false
  | a :: l, b :: m, 0, _, _, h => by simp only [List.getElem_cons_zero] at h; unfold sameL; rw [h, Bool.false_and]
  | a :: l, b :: m, i + 1, h1, h2, h => by unfold sameL; rw [sameL_bad (l := l) (m := m) (i := i) (by simpa using h1) (by simpa using h2) (by simpa using h), Bool.and_false]
theorem sameL_all {α : Type} {f : α → α → Bool} : ∀ {l m : List α}, l.length = m.length → (∀ i (h : i < l.length) (h' : i < m.length), f l[i] m[i] = true) → sameL f l m = true
  | [], [], _, _ => rfl
  | a :: l, b :: m, hl, h => by
    unfold sameL
    rw [show f a b = true from h 0 (by simp) (by simp), sameL_all (l := l) (m := m) (by simpa using hl) fun i h1 h2 => h (i + 1) (Nat.succ_lt_succ h1) (Nat.succ_lt_succ h2), Bool.and_true]
theorem sameL_eq {α : Type} [DecidableEq α] {l m : List α} : sameL (fun a b => decide (a = b)) l m = decide (l = m) := by
  induction l generalizing m with
  | nil => cases m <;> simp [sameL]
  | cons a l ih => cases m <;> simp [sameL, ih]
theorem sameL_iff {α : Type} {f : α → α → Bool} (hf : ∀ a b, f a b = true ↔ a = b) : ∀ {l m : List α}, sameL f l m = true ↔ l = m
  | [], [] => by simp [sameL]
  | a :: l, b :: m => by simp [sameL, hf, sameL_iff hf (l := l) (m := m)]
  | [], b :: m => by simp [sameL]
  | a :: l, [] => by simp [sameL]
def alikeC (a b : Ctr) : Bool := decide (a.name = b.name) && (decide (a.req = b.req) && (decide (a.lim = b.lim) && (decide (a.ports = b.ports) && decide (a.probe = b.probe))))
def exactC (a b : Ctr) : Bool := alikeC a b && decide (a.image = b.image)
theorem exactC_iff {a b : Ctr} : exactC a b = true ↔ a = b := by
  cases a; cases b
  simp only [exactC, alikeC, Bool.and_eq_true, decide_eq_true_eq, Ctr.mk.injEq]
  constructor
  · rintro ⟨⟨h1, h2, h3, h4, h5⟩, h6⟩; exact ⟨h1, h6, h2, h3, h4, h5⟩
  · rintro ⟨h1, h2, h3, h4, h5, h6⟩; exact ⟨⟨h1, h3, h4, h5, h6⟩, h2⟩
theorem res_eqB {a b : Tri} : (decide (a.1 = b.1) && (decide (a.2.1 = b.2.1) && (decide (a.2.2 = b.2.2) && true))) = decide (a = b) := by
  rw [Bool.eq_iff_iff]; simp only [Bool.and_eq_true, decide_eq_true_eq, and_true]
  exact ⟨fun ⟨h1, h2, h3⟩ => Prod.ext h1 (Prod.ext h2 h3), fun h => by subst h; exact ⟨rfl, rfl, rfl⟩⟩
theorem probe_eqB {a b : Int × Int} : (decide (a.1 = b.1) && (decide (a.2 = b.2) && true)) = decide (a = b) := by
  rw [Bool.eq_iff_iff]; simp only [Bool.and_eq_true, decide_eq_true_eq, and_true]
  exact ⟨fun ⟨h1, h2⟩ => Prod.ext h1 h2, fun h => by subst h; exact ⟨rfl, rfl⟩⟩
theorem lab_eqB {a b : Lab} : (decide (a.1 = b.1) && (decide (a.2 = b.2) && true)) = decide (a = b) := by
  rw [Bool.eq_iff_iff]; simp only [Bool.and_eq_true, decide_eq_true_eq, and_true]
  exact ⟨fun ⟨h1, h2⟩ => Prod.ext h1 h2, fun h => by subst h; exact ⟨rfl, rfl⟩⟩
theorem flat_snoc {α β : Type} {f : α → List β} {l : List α} {i : Nat} (h : i < l.length) : (l.take i).flatMap f ++ f l[i] = (l.take (i + 1)).flatMap f := by
  rw [List.take_succ_eq_append_getElem h, List.flatMap_append, List.flatMap_singleton]
/-! the chapter's example -/
end Go.AL

namespace Go.AL
open Go.RowKit Go.NumSpec
theorem nameE_out {ns : List (List UInt8)} {s : List UInt8} (h : nameE ns s = none) : erNew (saysV (nameV s) 30) [[110, 97, 109, 101]] = none ∧ s ∉ ns := by
  unfold nameE at h
  split at h
  · cases h
  · rename_i hk
    exact ⟨h, fun hm => hk ⟨by rw [h]; rfl, hm⟩⟩
theorem nameE_in {ns : List (List UInt8)} {s : List UInt8} (h : erNew (saysV (nameV s) 30) [[110, 97, 109, 101]] = none) (h' : s ∉ ns) : nameE ns s = none := by
  unfold nameE; rw [if_neg fun hk => h' hk.2]; exact h
theorem portAt_out {ps l : List Int} {i : Nat} (h : portAt ps l i = none) : withinE (atT portsN (i : Int)) (l.getD i 0) 1 65535 = none ∧ l.getD i 0 ∉ ps ++ l.take i := by
  unfold portAt at h
  split at h
  · cases h
  · rename_i hk
    exact ⟨h, fun hm => hk ⟨by rw [h]; rfl, hm⟩⟩
theorem portAt_in {ps l : List Int} {i : Nat} (h : withinE (atT portsN (i : Int)) (l.getD i 0) 1 65535 = none) (h' : l.getD i 0 ∉ ps ++ l.take i) : portAt ps l i = none := by
  unfold portAt; rw [if_neg fun hk => h' hk.2]; exact h
theorem portE_out {ps l : List Int} {n : Int} (h : portE ps l n = none) : atMostE portsN (l.length : Int) 0 n = none ∧ ∀ j, j < l.length → portAt ps l j = none := by
  cases ha : atMostE portsN (l.length : Int) 0 n with
  | some x => rw [portE_bad (by rw [ha]; simp), ha] at h; cases h
  | none => rw [portE_good ha] at h; exact ⟨rfl, eachE_none h⟩
theorem portE_in {ps l : List Int} {n : Int} (ha : atMostE portsN (l.length : Int) 0 n = none) (h : ∀ j, j < l.length → portAt ps l j = none) : portE ps l n = none := by rw [portE_good ha, eachE_all h]
theorem light_out {s : Spc} (h : lightS s = true) : (s.name.length ≤ 100 ∧ s.labels.length ≤ 10 ∧ s.init.length ≤ 8 ∧ s.main.length ≤ 8) ∧ (∀ x ∈ s.labels, lightL x = true) ∧ (∀ c ∈ s.init, lightC c = true) ∧ ∀ c ∈ s.main, lightC c = true := by
  unfold lightS at h
  simp only [Bool.and_eq_true, decide_eq_true_eq, List.all_eq_true] at h
  exact ⟨h.1.1, h.1.2, h.2⟩
end Go.AL

namespace Go.AL
open Go.RowKit Go.NumSpec
def erText (e : Er) : List UInt8 := Lib.join (erPath e) [46]
theorem join_two (a b : List UInt8) : Lib.join [a, b] [46] = a ++ [46] ++ b := by
  rw [Lib.join_cons]; simp [Lib.joinTail]
theorem join_more (a : List UInt8) {l : List (List UInt8)} (h : l ≠ []) : Lib.join (a :: l) [46] = a ++ [46] ++ Lib.join l [46] := by
  cases l with
  | nil => exact absurd rfl h
  | cons b l => rw [Lib.join_cons, Lib.join_cons]; simp [Lib.joinTail]
/-- An error with a code and a path. -/
def WellE (e : Er) : Prop := ∀ c ps, e = some (c, ps) → c ≠ 0 ∧ ps ≠ []
theorem well_none : WellE none := fun c ps h => by cases h
theorem well_some {c : Int} {ps : List (List UInt8)} (h : c ≠ 0) (h' : ps ≠ []) : WellE (some (c, ps)) := fun d qs e => by cases e; exact ⟨h, h'⟩
theorem well_new {c : Int} {ps : List (List UInt8)} (h' : ps ≠ []) : WellE (erNew c ps) := by
  unfold erNew; split
  · exact well_none
  · rename_i h; exact well_some h h'
theorem well_in {e : Er} (h : WellE e) (p : List UInt8) : WellE (erIn e p) := by
  cases e with
  | none => exact well_none
  | some x => obtain ⟨c, ps⟩ := x; exact well_some (h c ps rfl).1 (by simp)
theorem well_first : ∀ {es : List Er}, (∀ e ∈ es, WellE e) → WellE (firstE es)
  | [], _ => well_none
  | none :: es, h => well_first (es := es) fun e he => h e (List.mem_cons_of_mem _ he)
  | some x :: es, h => h (some x) List.mem_cons_self
theorem well_each {n : Nat} {f : Nat → Er} (h : ∀ i, i < n → WellE (f i)) : WellE (eachE n f) := well_first fun e he => by
  obtain ⟨i, hi, rfl⟩ := List.mem_map.1 he
  exact h i (List.mem_range.1 hi)
theorem well_within (name : List UInt8) (n lo hi : Int) : WellE (withinE name n lo hi) := by
  unfold withinE; split
  · exact well_some (by decide) (by simp)
  · exact well_none
theorem well_atMost (name : List UInt8) (n lo hi : Int) : WellE (atMostE name n lo hi) := by
  unfold atMostE; split
  · exact well_some (by decide) (by simp)
  · exact well_none
theorem well_most (name : List UInt8) (n lo : Int) : WellE (mostE name n lo) := by
  unfold mostE; split
  · exact well_none
  · exact well_within _ _ _ _
theorem well_key (l : List Lab) (i : Nat) : WellE (keyE l i) := by
  unfold keyE; split
  · exact well_some (by decide) (by simp)
  · exact well_new (by simp)
theorem well_label (name : List UInt8) (l : List Lab) (i : Nat) : WellE (labelE name l i) := well_in (well_first (by
  intro e he; simp only [List.mem_cons, List.not_mem_nil, or_false] at he
  rcases he with rfl | rfl
  · exact well_key _ _
  · exact well_new (by simp))) _
theorem well_labels (name : List UInt8) (l : List Lab) : WellE (labelsE name l) := by
  cases ha : atMostE name (l.length : Int) 0 4 with
  | some x => rw [labelsE_bad (by rw [ha]; simp)]; exact well_atMost _ _ _ _
  | none => rw [labelsE_good ha]; exact well_each fun i _ => well_label _ _ _
theorem well_name (ns : List (List UInt8)) (s : List UInt8) : WellE (nameE ns s) := by
  unfold nameE; split
  · exact well_some (by decide) (by simp)
  · exact well_new (by simp)
theorem well_req (r : Tri) : WellE (reqE r) := well_in (well_first (by
  intro e he; simp only [List.mem_cons, List.not_mem_nil, or_false] at he
  rcases he with rfl | rfl | rfl <;> exact well_within _ _ _ _)) _
theorem well_lim (l r : Tri) : WellE (limE l r) := well_in (well_first (by
  intro e he; simp only [List.mem_cons, List.not_mem_nil, or_false] at he
  rcases he with rfl | rfl | rfl <;> exact well_most _ _ _)) _
theorem well_probe (p : Int × Int) (every : Int) : WellE (probeE p every) := well_in (well_first (by
  intro e he; simp only [List.mem_cons, List.not_mem_nil, or_false] at he
  rcases he with rfl | rfl <;> exact well_within _ _ _ _)) _
theorem well_portAt (ps l : List Int) (i : Nat) : WellE (portAt ps l i) := by
  unfold portAt; split
  · exact well_some (by decide) (by simp)
  · exact well_within _ _ _ _
theorem well_port (ps l : List Int) (n : Int) : WellE (portE ps l n) := by
  cases ha : atMostE portsN (l.length : Int) 0 n with
  | some x => rw [portE_bad (by rw [ha]; simp)]; exact well_atMost _ _ _ _
  | none => rw [portE_good ha]; exact well_each fun i _ => well_portAt _ _ _
theorem well_ctr (ns : List (List UInt8)) (ps : List Int) (c : Ctr) (a b : Int) : WellE (ctrE ns ps c a b) := well_first (by
  intro e he; simp only [List.mem_cons, List.not_mem_nil, or_false] at he
  rcases he with rfl | rfl | rfl | rfl | rfl | rfl
  · exact well_name _ _
  · exact well_new (by simp)
  · exact well_req _
  · exact well_lim _ _
  · exact well_port _ _ _
  · exact well_probe _ _)
theorem well_ctrs (name : List UInt8) (ns : List (List UInt8)) (ps : List Int) (l : List Ctr) (a b : Int) : WellE (ctrsE name ns ps l a b) := well_each fun i hi => by
  rw [ctrAt_at hi]; exact well_in (well_ctr _ _ _ _ _) _
theorem well_check (s : Spc) : WellE (checkE s) := by
  unfold checkE
  split
  · rename_i x h; rw [← h]
    refine well_first fun e he => ?_
    simp only [List.mem_cons, List.not_mem_nil, or_false] at he
    rcases he with rfl | rfl | rfl
    · exact well_new (by simp)
    · exact well_labels _ _
    · exact well_atMost _ _ _ _
  · split
    · rename_i x h; rw [← h]
      refine well_first fun e he => ?_
      simp only [List.mem_cons, List.not_mem_nil, or_false] at he
      rcases he with rfl | rfl
      · exact well_ctrs _ _ _ _ _ _
      · exact well_atMost _ _ _ _
    · refine well_first fun e he => ?_
      simp only [List.mem_cons, List.not_mem_nil, or_false] at he
      rcases he with rfl | rfl | rfl | rfl
      · exact well_ctrs _ _ _ _ _ _
      · exact well_within _ _ _ _
      · exact well_within _ _ _ _
      · exact well_within _ _ _ _
theorem WellE.code {e : Er} (h : WellE e) : erCode e = 0 ↔ e = none := by
  cases e with
  | none => simp [erCode]
  | some x => obtain ⟨c, ps⟩ := x; simp [erCode, (h c ps rfl).1]
theorem WellE.isNone {e : Er} (h : WellE e) : e.isNone = decide (erCode e = 0) := by
  cases e with
  | none => simp [erCode]
  | some x => obtain ⟨c, ps⟩ := x; simp [erCode, (h c ps rfl).1]
theorem WellE.text_in {e : Er} (h : WellE e) (p : List UInt8) (hn : e ≠ none) : erText (erIn e p) = p ++ [46] ++ erText e := by
  cases e with
  | none => exact absurd rfl hn
  | some x => obtain ⟨c, ps⟩ := x; exact join_more p (h c ps rfl).2
/-! numbers -/
def badN (n lo : Int) (free : Bool) : Bool := (!free || !decide (n = 0)) && (decide (n < lo) || decide (1099511627776 < n))
def numsI (n lo : Tri) (free : Bool) : Int := if badN n.1 lo.1 free = true then 0 else if badN n.2.1 lo.2.1 free = true then 1 else if badN n.2.2 lo.2.2 free = true then 2 else -1
abbrev numN : List (List UInt8) := [[99, 112, 117], [109, 101, 109], [112, 105, 100, 115]]
theorem numsI_range (n lo : Tri) (free : Bool) : -1 ≤ numsI n lo free ∧ numsI n lo free < 3 := by
  unfold numsI
  cases badN n.1 lo.1 free <;> cases badN n.2.1 lo.2.1 free <;> cases badN n.2.2 lo.2.2 free <;> decide
theorem nums_at {n lo : Tri} {free : Bool} {k : Nat} (h : k < 3) (hb : badN (at3 n k) (at3 lo k) free = true) (hn : ∀ j, j < k → badN (at3 n j) (at3 lo j) free = false) : numsI n lo free = (k : Int) := by
  unfold numsI
  match k, h with
  | 0, _ => rw [show badN n.1 lo.1 free = true from hb]; rfl
  | 1, _ => rw [show badN n.1 lo.1 free = false from hn 0 (by decide), show badN n.2.1 lo.2.1 free = true from hb]; rfl
  | 2, _ => rw [show badN n.1 lo.1 free = false from hn 0 (by decide), show badN n.2.1 lo.2.1 free = false from hn 1 (by decide), show badN n.2.2 lo.2.2 free = true from hb]; rfl
theorem nums_none {n lo : Tri} {free : Bool} (hn : ∀ j, j < 3 → badN (at3 n j) (at3 lo j) free = false) : numsI n lo free = -1 := by
  unfold numsI
  rw [show badN n.1 lo.1 free = false from hn 0 (by decide), show badN n.2.1 lo.2.1 free = false from hn 1 (by decide), show badN n.2.2 lo.2.2 free = false from hn 2 (by decide)]; rfl
theorem within_bad (name : List UInt8) (n lo : Int) : withinE name n lo 1099511627776 = if badN n lo false = true then some (1, [name]) else none := by
  unfold withinE badN
  by_cases h : n < lo ∨ 1099511627776 < n
  · rw [if_pos h, if_pos (by simpa using h)]
  · rw [if_neg h, if_neg (by simpa using h)]
theorem most_bad (name : List UInt8) (n lo : Int) : mostE name n lo = if badN n lo true = true then some (1, [name]) else none := by
  unfold mostE
  by_cases h0 : n = 0
  · rw [if_pos h0, if_neg (by simp [badN, h0])]
  · rw [if_neg h0, within_bad]
    simp [badN, h0]
theorem first3 (a b c : Bool) (p : List UInt8) : erIn (firstE [if a = true then some (1, [[99, 112, 117]]) else none, if b = true then some (1, [[109, 101, 109]]) else none, if c = true then some (1, [[112, 105, 100, 115]]) else none]) p =
    if a = true then some (1, [p, [99, 112, 117]]) else if b = true then some (1, [p, [109, 101, 109]]) else if c = true then some (1, [p, [112, 105, 100, 115]]) else none := by
  cases a <;> cases b <;> cases c <;> rfl
theorem req_nums (r : Tri) : reqE r = if 0 ≤ numsI r (0, 0, 0) false then some (1, [[114, 101, 113], numN.getD (numsI r (0, 0, 0) false).toNat []]) else none := by
  unfold reqE
  rw [within_bad, within_bad, within_bad, first3]
  unfold numsI
  cases badN r.1 (0, 0, 0).1 false <;> cases badN r.2.1 (0, 0, 0).2.1 false <;> cases badN r.2.2 (0, 0, 0).2.2 false <;> rfl
theorem lim_nums (l r : Tri) : limE l r = if 0 ≤ numsI l r true then some (1, [[108, 105, 109], numN.getD (numsI l r true).toNat []]) else none := by
  unfold limE
  rw [most_bad, most_bad, most_bad, first3]
  unfold numsI
  cases badN l.1 r.1 true <;> cases badN l.2.1 r.2.1 true <;> cases badN l.2.2 r.2.2 true <;> rfl

/-! one container -/
section
variable {ns : List (List UInt8)} {ps : List Int} {c : Ctr} {a b : Int} {x : Int × List (List UInt8)}
abbrev imgE (c : Ctr) : Er := erNew (saysV (tparts c.image).2.2 33) [[105, 109, 97, 103, 101]]
theorem one_1 (h : nameE ns c.name = some x) : ctrE ns ps c a b = some x := by unfold ctrE; rw [h]; rfl
theorem one_2 (h1 : nameE ns c.name = none) (h : imgE c = some x) : ctrE ns ps c a b = some x := by unfold ctrE; rw [h1]; show firstE [imgE c, _, _, _, _] = _; rw [h]; rfl
theorem one_3 (h1 : nameE ns c.name = none) (h2 : imgE c = none) (h : reqE c.req = some x) : ctrE ns ps c a b = some x := by unfold ctrE; rw [h1]; show firstE [imgE c, _, _, _, _] = _; rw [h2, h]; rfl
theorem one_4 (h1 : nameE ns c.name = none) (h2 : imgE c = none) (h3 : reqE c.req = none) (h : limE c.lim c.req = some x) : ctrE ns ps c a b = some x := by unfold ctrE; rw [h1]; show firstE [imgE c, _, _, _, _] = _; rw [h2, h3, h]; rfl
theorem one_5 (h1 : nameE ns c.name = none) (h2 : imgE c = none) (h3 : reqE c.req = none) (h4 : limE c.lim c.req = none) (h : portE ps c.ports a = some x) : ctrE ns ps c a b = some x := by unfold ctrE; rw [h1]; show firstE [imgE c, _, _, _, _] = _; rw [h2, h3, h4, h]; rfl
theorem one_6 (h1 : nameE ns c.name = none) (h2 : imgE c = none) (h3 : reqE c.req = none) (h4 : limE c.lim c.req = none) (h5 : portE ps c.ports a = none) : ctrE ns ps c a b = probeE c.probe b := by unfold ctrE; rw [h1]; show firstE [imgE c, _, _, _, _] = _; rw [h2, h3, h4, h5]; show firstE [probeE c.probe b] = _; cases probeE c.probe b <;> rfl
theorem nameE_bad (h : nameV c.name = false) : nameE ns c.name = some (30, [nameN]) := by
  unfold nameE; rw [if_neg (by rw [h]; simp [saysV, erNew]), h]; rfl
theorem nameE_there (h : nameV c.name = true) (h' : c.name ∈ ns) : nameE ns c.name = some (7, [nameN]) := by
  unfold nameE; rw [if_pos ⟨by rw [h]; rfl, h'⟩]
theorem nameE_ok (h : nameV c.name = true) (h' : c.name ∉ ns) : nameE ns c.name = none := nameE_in (by rw [h]; rfl) h'
theorem probe_every {p : Int × Int} {every : Int} (h : p.1 < 0 ∨ every < p.1) : probeE p every = some (1, [[112, 114, 111, 98, 101], [101, 118, 101, 114, 121]]) := by
  unfold probeE; rw [show withinE [101, 118, 101, 114, 121] p.1 0 every = some (1, [[101, 118, 101, 114, 121]]) by unfold withinE; rw [if_pos h]]; rfl
theorem probe_rest {p : Int × Int} {every : Int} (h : ¬ (p.1 < 0 ∨ every < p.1)) : probeE p every = if (p.1 = 0 ∧ p.2 ≠ 0) ∨ (p.1 ≠ 0 ∧ (p.2 < 1 ∨ 10 < p.2)) then some (1, [[112, 114, 111, 98, 101], [102, 97, 105, 108, 115]]) else none := by
  unfold probeE; rw [show withinE [101, 118, 101, 114, 121] p.1 0 every = none by unfold withinE; rw [if_neg h]]
  by_cases h0 : p.1 = 0
  · simp only [h0, if_true]
    by_cases h2 : p.2 = 0
    · rw [h2, if_neg (by simp)]; rfl
    · rw [if_pos (.inl ⟨trivial, h2⟩), show withinE [102, 97, 105, 108, 115] p.2 0 0 = some (1, [[102, 97, 105, 108, 115]]) by unfold withinE; rw [if_pos (by omega)]]; rfl
  · simp only [h0, if_false]
    by_cases h2 : p.2 < 1 ∨ 10 < p.2
    · rw [if_pos (.inr ⟨h0, h2⟩), show withinE [102, 97, 105, 108, 115] p.2 1 10 = some (1, [[102, 97, 105, 108, 115]]) by unfold withinE; rw [if_pos h2]]; rfl
    · rw [if_neg (fun hh => hh.elim (fun k => k.1.elim) fun k => h2 k.2), show withinE [102, 97, 105, 108, 115] p.2 1 10 = none by unfold withinE; rw [if_neg h2]]; rfl
end
/-- A code and a path, as values. -/
abbrev cpAV (e : Er) : AV := .tup [.int .i64 (erCode e), .S (erText e)]
theorem cp_some {e : Er} {c : Int} {ps : List (List UInt8)} {t : List UInt8} (h : e = some (c, ps)) (ht : t = Lib.join ps [46]) : AV.tup [.int .i64 c, .S t] = cpAV e := by subst h; subst ht; rfl
theorem cp_none {e : Er} (h : e = none) : AV.tup [.int .i64 0, .S []] = cpAV e := by subst h; rfl
end Go.AL

namespace Go.AL
open Go.RowKit Go.NumSpec
theorem atT_len {name : List UInt8} (h : name.length ≤ 1000000) {i : Int} (hi : fits i) : (atT name i).length ≤ 1000100 := by
  have := textL_len hi
  unfold atT
  simp only [List.length_append, List.length_cons, List.length_nil]
  omega
theorem u8_lt (a b : UInt8) : a < b ↔ a.toNat < b.toNat := UInt8.lt_iff_toNat_lt
theorem bytesLess_ge : ∀ {a b : List UInt8}, Op.bytesLess b a = false → Op.bytesLess a b = true ∨ a = b
  | [], [], _ => .inr rfl
  | [], _ :: _, _ => .inl rfl
  | _ :: _, [], h => by cases h
  | x :: a, y :: b, h => by
    unfold Op.bytesLess at h ⊢
    simp only [Bool.or_eq_false_iff, decide_eq_false_iff_not, Bool.and_eq_false_iff, beq_eq_false_iff_ne, ne_eq] at h
    simp only [Bool.or_eq_true, decide_eq_true_eq, Bool.and_eq_true, beq_iff_eq, List.cons.injEq]
    obtain ⟨h1, h2⟩ := h
    rw [u8_lt] at h1
    by_cases hxy : x = y
    · subst hxy
      rcases h2 with h2 | h2
      · exact absurd rfl h2
      · rcases bytesLess_ge h2 with k | k
        · exact .inl (.inr ⟨rfl, k⟩)
        · exact .inr ⟨rfl, k⟩
    · have : x.toNat ≠ y.toNat := fun e => hxy (UInt8.toNat_inj.1 e)
      exact .inl (.inl (by rw [u8_lt]; omega))
theorem bytesLess_lt : ∀ {a b : List UInt8}, Op.bytesLess b a = true → Op.bytesLess a b = false ∧ a ≠ b
  | [], b, h => by cases b <;> simp [Op.bytesLess] at h
  | _ :: _, [], _ => ⟨rfl, by simp⟩
  | x :: a, y :: b, h => by
    unfold Op.bytesLess at h ⊢
    simp only [Bool.or_eq_true, decide_eq_true_eq, Bool.and_eq_true, beq_iff_eq] at h
    simp only [Bool.or_eq_false_iff, decide_eq_false_iff_not, Bool.and_eq_false_iff, beq_eq_false_iff_ne, ne_eq, List.cons.injEq, not_and]
    rcases h with h | ⟨h1, h2⟩
    · rw [u8_lt] at h
      refine ⟨⟨by rw [u8_lt]; omega, .inl fun e => by subst e; omega⟩, fun e => by subst e; omega⟩
    · subst h1
      obtain ⟨k1, k2⟩ := bytesLess_lt h2
      exact ⟨⟨by rw [u8_lt]; omega, .inr k1⟩, fun _ => k2⟩
section
variable {P : Program} {N : Nat} {env : Env} {st : St} {o : Oper}
theorem S_geS {t t2 : TypeId} {x y : Operand} {l m : List UInt8} (ho : o.op = .binOp .geq t x y t2) (hx : AEv env x (.S l)) (hy : AEv env y (.S m)) : PStep P N o env st (.bool (!Op.bytesLess l m)) :=
  S_bin ho hx hy rfl fun w => by simp only [binOp, Op.stringOp, toList_S]; rfl
end
section
variable {l : List Lab} {i : Nat} {name : List UInt8}
theorem getD_lab (h : i < l.length) : l.getD i ([], []) = l[i] := by rw [List.getD_eq_getElem?_getD, List.getElem?_eq_getElem h]; rfl
theorem label_ok (h : i < l.length) (h1 : namesR 2 (l[i]'h).1 = true) (h2 : ∀ h : 0 < i, Op.bytesLess (l[i - 1]'(by omega)).1 (l[i]'(by omega)).1 = true) (h3 : valV (l[i]'h).2 = true) : labelE name l i = none := by
  have hk : keyE l i = none := by
    unfold keyE
    rw [getD_lab h, if_neg]
    · rw [h1]; rfl
    · rintro ⟨_, k1, k2⟩
      rw [getD_lab (show i - 1 < l.length by omega)] at k2
      obtain ⟨q1, q2⟩ := bytesLess_lt (h2 k1)
      rw [q1] at k2
      simp at k2
      exact q2 k2
  unfold labelE
  rw [hk, getD_lab h, h3]; rfl
theorem label_key (h : i < l.length) (h1 : namesR 2 (l[i]'h).1 = false) : labelE name l i = some (31, [atT name (i : Int), [107, 101, 121]]) := by
  have hk : keyE l i = some (31, [[107, 101, 121]]) := by
    unfold keyE
    rw [getD_lab h, if_neg (by rw [h1]; rintro ⟨k, _⟩; cases k), h1]; rfl
  unfold labelE
  rw [hk]; rfl
theorem label_order (h : i < l.length) (h1 : namesR 2 (l[i]'h).1 = true) (h0 : 0 < i) (h2 : Op.bytesLess (l[i - 1]'(by omega)).1 (l[i]'h).1 = false) : labelE name l i = some (4, [atT name (i : Int), [107, 101, 121]]) := by
  have hk : keyE l i = some (4, [[107, 101, 121]]) := by
    unfold keyE
    rw [getD_lab h, getD_lab (show i - 1 < l.length by omega), if_pos]
    refine ⟨by rw [h1]; rfl, h0, ?_⟩
    rcases bytesLess_ge h2 with k | k
    · rw [k]; rfl
    · rw [k]; simp
  unfold labelE
  rw [hk]; rfl
theorem label_val (h : i < l.length) (h1 : namesR 2 (l[i]'h).1 = true) (h2 : ∀ h : 0 < i, Op.bytesLess (l[i - 1]'(by omega)).1 (l[i]'(by omega)).1 = true) (h3 : valV (l[i]'h).2 = false) : labelE name l i = some (32, [atT name (i : Int), [118, 97, 108]]) := by
  have hk : keyE l i = none := by
    unfold keyE
    rw [getD_lab h, if_neg]
    · rw [h1]; rfl
    · rintro ⟨_, k1, k2⟩
      rw [getD_lab (show i - 1 < l.length by omega)] at k2
      obtain ⟨q1, q2⟩ := bytesLess_lt (h2 k1)
      rw [q1] at k2
      simp at k2
      exact q2 k2
  unfold labelE
  rw [hk, getD_lab h, h3]; rfl
end
section
variable {ps l : List Int} {i : Nat} {n : Int}
theorem getD_port (h : i < l.length) : l.getD i 0 = l[i] := by rw [List.getD_eq_getElem?_getD, List.getElem?_eq_getElem h]; rfl
theorem portAt_ok (h : i < l.length) (h1 : 1 ≤ l[i] ∧ l[i] ≤ 65535) (h2 : l[i] ∉ ps ++ l.take i) : portAt ps l i = none :=
  portAt_in (by unfold withinE; rw [getD_port h, if_neg (by omega)]) (by rw [getD_port h]; exact h2)
theorem portAt_range (h : i < l.length) (h1 : l[i] < 1 ∨ 65535 < l[i]) : portAt ps l i = some (1, [atT portsN (i : Int)]) := by
  unfold portAt
  rw [getD_port h, show withinE (atT portsN (i : Int)) l[i] 1 65535 = some (1, [atT portsN (i : Int)]) by unfold withinE; rw [if_pos h1], if_neg (by rintro ⟨k, _⟩; cases k)]
theorem portAt_there (h : i < l.length) (h1 : 1 ≤ l[i] ∧ l[i] ≤ 65535) (h2 : l[i] ∈ ps ++ l.take i) : portAt ps l i = some (150, [atT portsN (i : Int)]) := by
  unfold portAt
  rw [getD_port h, show withinE (atT portsN (i : Int)) l[i] 1 65535 = none by unfold withinE; rw [if_neg (by omega)], if_pos ⟨rfl, h2⟩]
theorem port_many (h : n < (l.length : Int)) : portE ps l n = some (2, [portsN]) := by
  rw [portE_bad (by unfold atMostE; rw [if_pos (.inr h)]; simp)]; unfold atMostE; rw [if_pos (.inr h)]
theorem port_at (hm : atMostE portsN (l.length : Int) 0 n = none) (h : i < l.length) {x : Int × List (List UInt8)} (hx : portAt ps l i = some x) (hn : ∀ j, j < i → portAt ps l j = none) : portE ps l n = some x := by rw [portE_good hm, eachE_at h hx hn]
end
theorem num_text (a : List UInt8) {k : Nat} (h : k < numN.length) : (a ++ [46]) ++ numN[k] = a ++ [46] ++ numN.getD k [] := by
  rw [List.getD_eq_getElem?_getD, List.getElem?_eq_getElem h]; rfl
theorem num_len {k : Nat} (h : k < numN.length) : (numN[k]'h).length ≤ 4 := by
  match k, h with
  | 0, _ => exact Nat.le_of_ble_eq_true rfl
  | 1, _ => exact Nat.le_of_ble_eq_true rfl
  | 2, _ => exact Nat.le_of_ble_eq_true rfl
end Go.AL
namespace Go.AL
open Go.RowKit Go.NumSpec
theorem seen_names (a b : List Ctr) (i : Nat) : namesTo (namesTo [] a a.length) b i = (a ++ b.take i).map Ctr.name := by
  unfold namesTo; rw [List.take_length, List.map_append]; rfl
theorem seen_ports (a b : List Ctr) (i : Nat) : portsTo (portsTo [] a a.length) b i = (a ++ b.take i).flatMap Ctr.ports := by
  unfold portsTo; rw [List.take_length, List.flatMap_append]; rfl
theorem firstE_hd {x : Int × List (List UInt8)} {es : List Er} {e : Er} (h : e = some x) : firstE (e :: es) = some x := by subst h; rfl
theorem firstE_tl {es : List Er} {e : Er} (h : e = none) : firstE (e :: es) = firstE es := by subst h; rfl
theorem cp_in {e f : Er} {p t : List UInt8} (hw : WellE f) (hn : f ≠ none) (h : e = erIn f p) (ht : t = p ++ [46] ++ erText f) : AV.tup [.int .i64 (erCode f), .S t] = cpAV e := by
  subst h
  rw [ht, ← hw.text_in p hn]
  cases f with
  | none => exact absurd rfl hn
  | some x => rfl
theorem erText_len {e : Er} {n : Nat} (h : ∀ c ps, e = some (c, ps) → (Lib.join ps [46]).length ≤ n) : (erText e).length ≤ n := by
  cases e with
  | none => simp [erText, erPath, Lib.join_nil]
  | some x => obtain ⟨c, ps⟩ := x; exact h c ps rfl
end Go.AL
namespace Go.AL
open Go.RowKit Go.NumSpec
/-- A path whose text has so many bytes at most. -/
def ShortE (n : Nat) (e : Er) : Prop := ∀ c ps, e = some (c, ps) → (Lib.join ps [46]).length ≤ n
theorem short_none (n : Nat) : ShortE n none := fun c ps h => by cases h
theorem short_one {n : Nat} {c : Int} {p : List UInt8} (h : p.length ≤ n) : ShortE n (some (c, [p])) := fun d qs e => by cases e; rw [Lib.join_one]; exact h
theorem short_new {n : Nat} {c : Int} {p : List UInt8} (h : p.length ≤ n) : ShortE n (erNew c [p]) := by
  unfold erNew; split
  · exact short_none n
  · exact short_one h
theorem ShortE.mono {n m : Nat} {e : Er} (h : ShortE n e) (k : n ≤ m) : ShortE m e := fun c ps he => Nat.le_trans (h c ps he) k
theorem short_in {n : Nat} {e : Er} (h : ShortE n e) (p : List UInt8) : ShortE (p.length + 1 + n) (erIn e p) := by
  cases e with
  | none => exact short_none _
  | some x =>
    obtain ⟨c, ps⟩ := x
    intro d qs he
    cases he
    by_cases hp : ps = []
    · subst hp; rw [Lib.join_one]; omega
    · rw [join_more p hp]
      have := h c ps rfl
      simp only [List.length_append, List.length_cons, List.length_nil]
      omega
theorem short_first {n : Nat} : ∀ {es : List Er}, (∀ e ∈ es, ShortE n e) → ShortE n (firstE es)
  | [], _ => short_none n
  | none :: es, h => short_first (es := es) fun e he => h e (List.mem_cons_of_mem _ he)
  | some x :: es, h => h (some x) List.mem_cons_self
theorem short_each {n k : Nat} {f : Nat → Er} (h : ∀ i, i < k → ShortE n (f i)) : ShortE n (eachE k f) := short_first fun e he => by
  obtain ⟨i, hi, rfl⟩ := List.mem_map.1 he
  exact h i (List.mem_range.1 hi)
theorem short_within {name : List UInt8} {n : Nat} (h : name.length ≤ n) (a lo hi : Int) : ShortE n (withinE name a lo hi) := by
  unfold withinE; split
  · exact short_one h
  · exact short_none _
theorem short_atMost {name : List UInt8} {n : Nat} (h : name.length ≤ n) (a lo hi : Int) : ShortE n (atMostE name a lo hi) := by
  unfold atMostE; split
  · exact short_one h
  · exact short_none _
theorem short_most {name : List UInt8} {n : Nat} (h : name.length ≤ n) (a lo : Int) : ShortE n (mostE name a lo) := by
  unfold mostE; split
  · exact short_none _
  · exact short_within h _ _ _
theorem short_name {n : Nat} (h : 4 ≤ n) (ns : List (List UInt8)) (s : List UInt8) : ShortE n (nameE ns s) := by
  unfold nameE; split
  · exact short_one h
  · exact short_new h
theorem short_req (r : Tri) : ShortE 8 (reqE r) := short_in (p := [114, 101, 113]) (short_first (n := 4) (by
  intro e he; simp only [List.mem_cons, List.not_mem_nil, or_false] at he
  rcases he with rfl | rfl | rfl <;> exact short_within (by decide) _ _ _))
theorem short_lim (l r : Tri) : ShortE 8 (limE l r) := short_in (p := [108, 105, 109]) (short_first (n := 4) (by
  intro e he; simp only [List.mem_cons, List.not_mem_nil, or_false] at he
  rcases he with rfl | rfl | rfl <;> exact short_most (by decide) _ _))
theorem short_probe (p : Int × Int) (every : Int) : ShortE 11 (probeE p every) := short_in (p := [112, 114, 111, 98, 101]) (short_first (n := 5) (by
  intro e he; simp only [List.mem_cons, List.not_mem_nil, or_false] at he
  rcases he with rfl | rfl <;> exact short_within (by decide) _ _ _))
theorem at_short {name : List UInt8} (h : name.length ≤ 100) {i n : Nat} (hi : i < n) (hn : n ≤ 1000000) : (atT name (i : Int)).length ≤ 200 := by
  have := textL_len (a := (i : Int)) (by unfold fits; omega)
  unfold atT
  simp only [List.length_append, List.length_cons, List.length_nil]
  omega
theorem short_port {ps l : List Int} {n : Int} (hl : l.length ≤ 1000000) : ShortE 200 (portE ps l n) := by
  cases ha : atMostE portsN (l.length : Int) 0 n with
  | some x => rw [portE_bad (by rw [ha]; simp)]; exact short_atMost (by decide) _ _ _
  | none =>
    rw [portE_good ha]
    refine short_each fun i hi => ?_
    have := at_short (name := portsN) (by decide) hi hl
    unfold portAt; split
    · exact short_one this
    · exact short_within this _ _ _
theorem short_ctr {ns : List (List UInt8)} {ps : List Int} {c : Ctr} {a b : Int} (hl : c.ports.length ≤ 1000000) : ShortE 200 (ctrE ns ps c a b) := short_first (by
  intro e he; simp only [List.mem_cons, List.not_mem_nil, or_false] at he
  rcases he with rfl | rfl | rfl | rfl | rfl | rfl
  · exact short_name (by decide) _ _
  · exact short_new (by decide)
  · exact (short_req _).mono (by decide)
  · exact (short_lim _ _).mono (by decide)
  · exact short_port hl
  · exact (short_probe _ _).mono (by decide))
theorem ShortE.text {n : Nat} {e : Er} (h : ShortE n e) : (erText e).length ≤ n := erText_len h
theorem join_count (l : List (List UInt8)) : l.length ≤ (Lib.join l [46]).length + 1 := by
  cases l with
  | nil => simp
  | cons x r => rw [Lib.join_length]; simp only [List.length_cons, List.length_nil]; omega
theorem ShortE.path {n : Nat} {e : Er} (h : ShortE n e) : (erPath e).length ≤ n + 1 := by
  cases e with
  | none => simp [erPath]
  | some x => obtain ⟨c, ps⟩ := x; have h1 := h c ps rfl; have h2 := join_count ps; show ps.length ≤ _; omega
end Go.AL
namespace Go.AL
open Go.RowKit Go.NumSpec
end Go.AL

namespace Go.AL
open Go.RowKit Go.NumSpec
section
variable {α : Type} {f : α → α → Bool}
theorem sameL_take_succ : ∀ {a b : List α} {i : Nat} (h : i < a.length) (h' : i < b.length), sameL f (a.take (i + 1)) (b.take (i + 1)) = (sameL f (a.take i) (b.take i) && f (a[i]'h) (b[i]'h'))
  | x :: a, y :: b, 0, _, _ => by simp [sameL]
  | x :: a, y :: b, i + 1, h, h' => by
    simp only [List.take_succ_cons, sameL, List.getElem_cons_succ]
    have := sameL_take_succ (a := a) (b := b) (i := i) (by simpa using h) (by simpa using h')
    rw [this, Bool.and_assoc]
theorem sameL_take : ∀ {a b : List α} {i : Nat}, sameL f a b = true → sameL f (a.take i) (b.take i) = true
  | [], [], i, _ => by simp [sameL]
  | x :: a, y :: b, 0, _ => rfl
  | x :: a, y :: b, i + 1, h => by
    simp only [sameL, Bool.and_eq_true] at h
    simp only [List.take_succ_cons, sameL, Bool.and_eq_true]
    exact ⟨h.1, sameL_take h.2⟩
  | [], y :: b, i, h => by cases h
  | x :: a, [], i, h => by cases h
/-- As far as one has looked. -/
def sameP (f : α → α → Bool) (a b : List α) (i : Nat) : Bool := decide (a.length = b.length) && sameL f (a.take i) (b.take i)
theorem sameP_zero (a b : List α) : sameP f a b 0 = decide (a.length = b.length) := by simp [sameP, sameL]
theorem sameP_next {a b : List α} {i : Nat} (h : sameP f a b i = true) (h1 : i < a.length) (h2 : i < b.length) : sameP f a b (i + 1) = f (a[i]'h1) (b[i]'h2) := by
  unfold sameP at h ⊢
  simp only [Bool.and_eq_true] at h
  rw [sameL_take_succ h1 h2, h.1, h.2, Bool.true_and, Bool.true_and]
theorem sameP_end {a b : List α} {i : Nat} (h : sameP f a b i = false ∨ a.length ≤ i ∨ b.length ≤ i) : sameP f a b i = sameL f a b := by
  by_cases hs : sameP f a b i = true
  · have hs' := hs
    unfold sameP at hs'
    simp only [Bool.and_eq_true, decide_eq_true_eq] at hs'
    rcases h with h | h
    · rw [hs] at h; cases h
    · rw [List.take_of_length_le (by omega), List.take_of_length_le (by omega)] at hs'
      rw [hs, hs'.2]
  · have hs : sameP f a b i = false := by simpa using hs
    rw [hs]
    unfold sameP at hs
    simp only [Bool.and_eq_false_iff, decide_eq_false_iff_not] at hs
    rcases hs with hs | hs
    · exact (sameL_len hs).symm
    · cases hx : sameL f a b with
      | false => rfl
      | true => rw [sameL_take hx] at hs; cases hs
end
def sameS (a b : Spc) : Bool := decide (a.name = b.name) && decide (a.labels = b.labels) && sameL exactC a.init b.init && sameL exactC a.main b.main && decide (a.restart = b.restart) && decide (a.grace = b.grace) && decide (a.prio = b.prio)
theorem sameS_iff {a b : Spc} : sameS a b = true ↔ a = b := by
  cases a; cases b
  simp only [sameS, Bool.and_eq_true, decide_eq_true_eq, Spc.mk.injEq, sameL_iff (fun a b => exactC_iff)]
  constructor
  · rintro ⟨⟨⟨⟨⟨⟨h1, h2⟩, h3⟩, h4⟩, h5⟩, h6⟩, h7⟩; exact ⟨h1, h2, h3, h4, h5, h6, h7⟩
  · rintro ⟨h1, h2, h3, h4, h5, h6, h7⟩; exact ⟨⟨⟨⟨⟨⟨h1, h2⟩, h3⟩, h4⟩, h5⟩, h6⟩, h7⟩
theorem exactC_order (a b : Ctr) : (decide (a.name = b.name) && (decide (a.image = b.image)) && decide (a.req = b.req) && decide (a.lim = b.lim) && decide (a.ports = b.ports) && decide (a.probe = b.probe)) = exactC a b := by
  rw [Bool.eq_iff_iff, exactC_iff]
  cases a; cases b
  simp only [Bool.and_eq_true, decide_eq_true_eq, Ctr.mk.injEq]
  constructor
  · rintro ⟨⟨⟨⟨⟨h1, h2⟩, h3⟩, h4⟩, h5⟩, h6⟩; exact ⟨h1, h2, h3, h4, h5, h6⟩
  · rintro ⟨h1, h2, h3, h4, h5, h6⟩; exact ⟨⟨⟨⟨⟨h1, h2⟩, h3⟩, h4⟩, h5⟩, h6⟩
end Go.AL
namespace Go.AL
open Go.RowKit Go.NumSpec
/-- No list of it is too long to be walked. -/
def shortS (s : Spc) : Prop := s.labels.length ≤ 1000000 ∧ s.init.length ≤ 1000000 ∧ s.main.length ≤ 1000000 ∧ (∀ c ∈ s.init, c.ports.length ≤ 1000000) ∧ ∀ c ∈ s.main, c.ports.length ≤ 1000000
theorem light_short {s : Spc} (h : lightS s = true) : shortS s := by
  obtain ⟨⟨h1, h2, h3, h4⟩, h5, h6, h7⟩ := light_out h
  exact ⟨by omega, by omega, by omega, fun c hc => by have := (of_decide_eq_true (h6 c hc)).2.2; omega, fun c hc => by have := (of_decide_eq_true (h7 c hc)).2.2; omega⟩
end Go.AL

namespace Go.AL
open Go.NumSpec

theorem Le_buf {q : Buf} {l : List UInt8} (h : q.ok l) : Le (bufAV q l) (.sl (bytesV l)) := by
  cases q with
  | nil => have : l = [] := h; subst this; exact Le.nils
  | «at» b cap => exact Le.row _ _ _ _
def failC (c d : Int) : Int := if c = 0 then d else c
def wput (c : Int) (l s : List UInt8) : List UInt8 := if c = 0 then l ++ s else l
theorem wput_err {c : Int} (h : c ≠ 0) (l s : List UInt8) : wput c l s = l := by rw [wput, if_neg h]
theorem wput_len (c : Int) (l s : List UInt8) : (wput c l s).length ≤ l.length + s.length := by unfold wput; split <;> simp
theorem wput_wput (c : Int) (l s t : List UInt8) : wput c (wput c l s) t = wput c l (s ++ t) := by unfold wput; split <;> simp
def lacksV (s : List UInt8) : Bool := (s.take 10).all (fun c => decide (128 ≤ c.toNat)) && decide (s.length < 10)
def bigR (s : List UInt8) (c : Int) : Nat × List UInt8 × Int := if c ≠ 0 then (0, s, c) else if lacksV s = true then (0, s, 40) else if (takeV s).2 = 0 then (0, s, 3) else ((takeV s).1, s.drop (takeV s).2, 0)
def numR (s : List UInt8) (c most : Int) : Int × List UInt8 × Int :=
  if (bigR s c).2.2 = 0 ∧ max most 0 < (bigR s c).1 then (0, s, 2) else if (bigR s c).2.2 ≠ 0 then (0, (bigR s c).2.1, (bigR s c).2.2) else ((bigR s c).1, (bigR s c).2.1, 0)
def wtextR (s : List UInt8) (c most : Int) : List UInt8 × List UInt8 × Int :=
  if (numR s c most).2.2 = 0 ∧ ((numR s c most).2.1.length : Int) < (numR s c most).1 then ([], (numR s c most).2.1, 40) else if (numR s c most).2.2 ≠ 0 then ([], (numR s c most).2.1, (numR s c most).2.2)
  else ((numR s c most).2.1.take (numR s c most).1.toNat, (numR s c most).2.1.drop (numR s c most).1.toNat, 0)
def endR (s : List UInt8) (c : Int) : Int := if s ≠ [] then failC c 3 else c
theorem bigR_lt (s : List UInt8) (c : Int) : (bigR s c).1 < 18446744073709551616 := by
  unfold bigR
  split
  · show 0 < _; omega
  · split
    · show 0 < _; omega
    · split
      · show 0 < _; omega
      · exact take_fits s
theorem bigR_len (s : List UInt8) (c : Int) : (bigR s c).2.1.length ≤ s.length := by
  unfold bigR
  split
  · exact Nat.le_refl _
  · split
    · exact Nat.le_refl _
    · split
      · exact Nat.le_refl _
      · simp
theorem numR_len (s : List UInt8) (c most : Int) : (numR s c most).2.1.length ≤ s.length := by
  have := bigR_len s c
  unfold numR
  split
  · exact Nat.le_refl _
  · split <;> exact this
theorem numR_nonneg (s : List UInt8) (c most : Int) : 0 ≤ (numR s c most).1 := by
  unfold numR
  split
  · show (0 : Int) ≤ 0; omega
  · split
    · show (0 : Int) ≤ 0; omega
    · exact Int.natCast_nonneg _
theorem numR_err {s : List UInt8} {c most : Int} (h : (numR s c most).2.2 ≠ 0) : (numR s c most).1 = 0 := by
  unfold numR at h ⊢
  split
  · rfl
  · rename_i h1
    rw [if_neg h1] at h
    split
    · rfl
    · rename_i h2
      rw [if_neg h2] at h
      exact absurd rfl h
theorem numR_le {s : List UInt8} {c most : Int} : (numR s c most).1 ≤ max most 0 := by
  unfold numR
  split
  · dsimp only; omega
  · rename_i h1
    split
    · dsimp only; omega
    · rename_i h2
      have : (bigR s c).2.2 = 0 := Decidable.of_not_not h2
      simp only [this, true_and] at h1
      dsimp only
      omega
theorem lacks_false {s : List UInt8} {k : Nat} (hk : k < s.length) (hk10 : k < 10) (h : (s.getD k 0).toNat < 128) : lacksV s = false := by
  unfold lacksV
  have hx : (s.take 10).all (fun c => decide (128 ≤ c.toNat)) = false := by
    rw [List.all_eq_false]
    refine ⟨s[k], ?_, ?_⟩
    · rw [List.mem_take_iff_getElem]
      exact ⟨k, by omega, rfl⟩
    · rw [List.getD_eq_getElem?_getD, List.getElem?_eq_getElem hk, Option.getD_some] at h
      simp; omega
  rw [hx]; rfl
theorem lacks_end {s : List UInt8} {k : Nat} (h : ∀ i : Nat, i < k → 128 ≤ (s.getD i 0).toNat) (hk : (k : Int) = min (s.length : Int) 10) : lacksV s = decide ((s.length : Int) < 10) := by
  unfold lacksV
  have hx : (s.take 10).all (fun c => decide (128 ≤ c.toNat)) = true := by
    rw [List.all_eq_true]
    intro x hx
    rw [List.mem_take_iff_getElem] at hx
    obtain ⟨i, hi, rfl⟩ := hx
    have := h i (by omega)
    rw [List.getD_eq_getElem?_getD, List.getElem?_eq_getElem (by omega), Option.getD_some] at this
    simp; omega
  rw [hx, Bool.true_and]
  exact decide_eq_decide.2 (by omega)
theorem bigR_err {s : List UInt8} {c : Int} (h : c ≠ 0) : bigR s c = (0, s, c) := by rw [bigR, if_pos h]
theorem bigR_lack {s : List UInt8} (h : lacksV s = true) : bigR s 0 = (0, s, 40) := by rw [bigR, if_neg (by simp), if_pos h]
theorem bigR_form {s : List UInt8} (h : lacksV s = false) (k : (takeV s).2 = 0) : bigR s 0 = (0, s, 3) := by rw [bigR, if_neg (by simp), if_neg (by simp [h]), if_pos k]
theorem bigR_ok {s : List UInt8} (h : lacksV s = false) (k : (takeV s).2 ≠ 0) : bigR s 0 = ((takeV s).1, s.drop (takeV s).2, 0) := by rw [bigR, if_neg (by simp), if_neg (by simp [h]), if_neg k]
/-! What was written is read again -/
theorem form_big {l : List UInt8} {c : UInt8} (h : NumSpec.Form l c) : c.toNat < 128 := h.last
theorem lacks_put (n : Nat) (t : List UInt8) (hn : n < 18446744073709551616) : lacksV (putL n ++ t) = false := by
  have hp := putL_few n hn
  obtain ⟨l, c, h1, h2, h3⟩ := putL_form n
  have hc := form_big h2
  rw [h1] at hp ⊢
  simp only [List.length_append, List.length_singleton] at hp
  refine lacks_false (k := l.length) (by simp) (by omega) ?_
  simp [List.getD_eq_getElem?_getD]
  exact hc
theorem bigR_put (n : Nat) (t : List UInt8) (hn : n < 18446744073709551616) : bigR (putL n ++ t) 0 = (n, t, 0) := by
  have h := take_put n t hn
  have hp := putL_pos n
  rw [bigR_ok (lacks_put n t hn) (by rw [h]; dsimp only; omega), h]
  simp
theorem numR_put (n : Nat) (t : List UInt8) (most : Int) (hn : (n : Int) ≤ max most 0) (h63 : n < 18446744073709551616) : numR (putL n ++ t) 0 most = ((n : Int), t, 0) := by
  unfold numR
  rw [bigR_put n t h63]
  dsimp only
  rw [if_neg (by omega), if_neg (by simp)]
theorem wtextR_put (s t : List UInt8) (most : Int) (hn : (s.length : Int) ≤ max most 0) (h63 : s.length < 18446744073709551616) : wtextR (putL s.length ++ (s ++ t)) 0 most = (s, t, 0) := by
  unfold wtextR
  rw [numR_put s.length (s ++ t) most hn h63]
  dsimp only
  rw [if_neg (by simp; omega), if_neg (by simp)]
  simp
/-! The chapter's example -/
/-! What is written -/
abbrev Act4 := Int × Int × Nat × List UInt8
structure WG where
  i : Nat
  u : Bool
  q : Buf
  lw : List UInt8
  c : Int
  want : List UInt8
def WG.ok (g : WG) : Prop := g.q.ok g.lw ∧ (g.c = 0 → g.lw = g.want) ∧ g.lw.length ≤ 310 * g.i ∧ g.want.length ≤ 310 * g.i ∧ g.i ≤ 60
/-! Written and read -/
def enc (a : Act4) : List UInt8 := if a.1 = 0 then putL (max a.2.1 0).toNat else if a.1 = 1 then putL a.2.2.1 else if a.1 = 2 then putL a.2.2.2.length ++ a.2.2.2 else [if decide (0 < a.2.1) then 1 else 0]
/-! Just the bytes -/
theorem canon_big {s : List UInt8} (h : (bigR s 0).2.2 = 0) : s = putL (bigR s 0).1 ++ (bigR s 0).2.1 := by
  cases hl : lacksV s with
  | true => rw [bigR_lack hl] at h; exact absurd h (by show ¬ (40 : Int) = 0; decide)
  | false =>
    by_cases hk : (takeV s).2 = 0
    · rw [bigR_form hl hk] at h; exact absurd h (by show ¬ (3 : Int) = 0; decide)
    · rw [bigR_ok hl hk]
      rcases put_take s with h1 | ⟨h1, h2, h3, h4⟩
      · rw [h1] at hk; exact absurd rfl hk
      · dsimp only
        rw [h3, List.take_append_drop]
theorem canon_num {s : List UInt8} {most : Int} (h : (numR s 0 most).2.2 = 0) : s = putL (numR s 0 most).1.toNat ++ (numR s 0 most).2.1 := by
  unfold numR at h ⊢
  split at h
  · exact absurd h (by show ¬ (2 : Int) = 0; decide)
  · rename_i h1
    rw [if_neg h1]
    split at h
    · rename_i h2; exact absurd h h2
    · rename_i h2
      rw [if_neg h2]
      have := canon_big (s := s) (Decidable.of_not_not h2)
      simpa using this
theorem wtextR_ok {s : List UInt8} {c most : Int} (h : (wtextR s c most).2.2 = 0) : (numR s c most).2.2 = 0 ∧ (numR s c most).1 ≤ ((numR s c most).2.1.length : Int) ∧ wtextR s c most = ((numR s c most).2.1.take (numR s c most).1.toNat, (numR s c most).2.1.drop (numR s c most).1.toNat, 0) := by
  unfold wtextR at h ⊢
  split at h
  · exact absurd h (by show ¬ (40 : Int) = 0; decide)
  · rename_i h1
    rw [if_neg h1]
    split at h
    · rename_i h2; exact absurd h h2
    · rename_i h2
      rw [if_neg h2]
      have h3 := Decidable.of_not_not h2
      exact ⟨h3, by simp only [h3, true_and] at h1; omega, rfl⟩
theorem canon_text {s : List UInt8} {most : Int} (h : (wtextR s 0 most).2.2 = 0) : s = putL (wtextR s 0 most).1.length ++ ((wtextR s 0 most).1 ++ (wtextR s 0 most).2.1) := by
  obtain ⟨h1, h2, h3⟩ := wtextR_ok h
  have h4 := canon_num (most := most) h1
  have h5 := numR_nonneg s 0 most
  rw [h3]
  dsimp only
  rw [List.take_append_drop, List.length_take, show min (numR s 0 most).1.toNat (numR s 0 most).2.1.length = (numR s 0 most).1.toNat by omega]
  exact h4
theorem numR_errR {s : List UInt8} {c : Int} (h : c ≠ 0) (most : Int) : numR s c most = (0, s, c) := by
  unfold numR
  rw [bigR_err h]
  dsimp only
  rw [if_neg (fun k => h k.1), if_pos h]
theorem wtextR_errR {s : List UInt8} {c : Int} (h : c ≠ 0) (most : Int) : wtextR s c most = ([], s, c) := by
  unfold wtextR
  rw [numR_errR h]
  dsimp only
  rw [if_neg (fun k => h k.1), if_pos h]
structure CG where
  i : Nat
  u : Bool
  q : Buf
  lw : List UInt8
  s : List UInt8
  c : Int
end Go.AL

namespace Go.AL
open Go.RowKit Go.NumSpec
abbrev Rd (α : Type) := List UInt8 → Int → α × List UInt8 × Int
structure Codec {α : Type} (f : Rd α) (e : α → List UInt8) (ok : α → Prop) : Prop where
  back : ∀ x t, ok x → f (e x ++ t) 0 = (x, t, 0)
  canon : ∀ s, (f s 0).2.2 = 0 → s = e (f s 0).1 ++ (f s 0).2.1 ∧ ok (f s 0).1
  err : ∀ s c, c ≠ 0 → (f s c).2.1 = s ∧ (f s c).2.2 = c
  cut : ∀ x p, ok x → p <+: e x → p.length < (e x).length → (f p 0).2.2 = 40
  len : ∀ s c, (f s c).2.1.length ≤ s.length
def numRd (most : Int) : Rd Int := fun s c => numR s c most
def textRd (most : Int) : Rd (List UInt8) := fun s c => wtextR s c most
def numB (n : Int) : List UInt8 := putL n.toNat
def textB (s : List UInt8) : List UInt8 := putL s.length ++ s
theorem lacks_cut {n : Nat} (hn : n < 18446744073709551616) {p : List UInt8} (hp : p <+: putL n) (hl : p.length < (putL n).length) : lacksV p = true := by
  obtain ⟨l, c, h1, h2, h3⟩ := putL_form n
  have hf := putL_few n hn
  have hm : ∀ x ∈ p, 128 ≤ x.toNat := by
    rw [h1] at hp hl hf
    simp only [List.length_append, List.length_singleton] at hl hf
    have hpl : p <+: l := by
      obtain ⟨t, ht⟩ := hp
      have := List.append_inj (s₁ := l.take p.length) (t₁ := l.drop p.length ++ [c]) (s₂ := p) (t₂ := t) (by rw [← List.append_assoc, List.take_append_drop]; exact ht.symm) (by rw [List.length_take]; omega)
      exact ⟨l.drop p.length, by rw [← this.1, List.length_take, show min p.length l.length = p.length by omega, List.take_append_drop]⟩
    exact fun x hx => h2.more x (hpl.subset hx)
  unfold lacksV
  rw [Bool.and_eq_true]
  refine ⟨List.all_eq_true.2 fun x hx => decide_eq_true (hm x (List.mem_of_mem_take hx)), decide_eq_true (by omega)⟩
theorem num_cut {n : Nat} (hn : n < 18446744073709551616) {p : List UInt8} {most : Int} (hp : p <+: putL n) (hl : p.length < (putL n).length) : numR p 0 most = (0, p, 40) := by
  unfold numR
  rw [bigR_lack (lacks_cut hn hp hl)]
  dsimp only
  rw [if_neg (by simp), if_pos (by decide)]
theorem numC {most : Int} (h0 : 0 ≤ most) (h63 : most ≤ 9223372036854775807) : Codec (numRd most) numB (fun n => 0 ≤ n ∧ n ≤ most) where
  back x t hx := by
    have := numR_put x.toNat t most (by omega) (by omega)
    unfold numRd numB; rw [this, Int.toNat_of_nonneg hx.1]
  canon s hs := ⟨canon_num (most := most) hs, numR_nonneg s 0 most, by have := numR_le (s := s) (c := 0) (most := most); unfold numRd; omega⟩
  err s c hc := by unfold numRd; rw [numR_errR hc]; exact ⟨rfl, rfl⟩
  cut x p hx hp hl := by unfold numRd; rw [num_cut (n := x.toNat) (by omega) hp hl]
  len s c := numR_len s c most
theorem wtextR_rest (s : List UInt8) (c most : Int) : (wtextR s c most).2.1.length ≤ s.length := by
  have := numR_len s c most
  unfold wtextR
  split
  · exact this
  · split
    · exact this
    · simp; omega
theorem textC {most : Int} (h0 : 0 ≤ most) (h63 : most ≤ 9223372036854775807) : Codec (textRd most) textB (fun s => (s.length : Int) ≤ most) where
  back x t hx := by
    unfold textRd textB; rw [List.append_assoc]
    exact wtextR_put x t most (by omega) (by omega)
  canon s hs := by
    have h1 := canon_text (most := most) hs
    obtain ⟨h2, h3, h4⟩ := wtextR_ok (s := s) (c := 0) (most := most) hs
    refine ⟨?_, ?_⟩
    · unfold textRd textB; rw [List.append_assoc]; exact h1
    · have h5 := numR_le (s := s) (c := 0) (most := most)
      have h6 := numR_nonneg s 0 most
      unfold textRd; rw [h4]; dsimp only; rw [List.length_take]; omega
  err s c hc := by unfold textRd; rw [wtextR_errR hc]; exact ⟨rfl, rfl⟩
  cut x p hx hp hl := by
    unfold textRd
    unfold textB at hp hl
    rw [List.length_append] at hl
    rcases Nat.lt_or_ge p.length (putL x.length).length with h | h
    · have hpp : p <+: putL x.length := List.prefix_of_prefix_length_le hp (List.prefix_append _ _) (by omega)
      unfold wtextR
      rw [num_cut (n := x.length) (by omega) hpp h]
      dsimp only
      rw [if_neg (by simp), if_pos (by decide)]
    · obtain ⟨q, hq⟩ := List.prefix_of_prefix_length_le (List.prefix_append (putL x.length) x) hp h
      have hql : q.length < x.length := by have := congrArg List.length hq; rw [List.length_append] at this; omega
      rw [← hq]
      unfold wtextR
      rw [numR_put x.length q most (by omega) (by omega)]
      dsimp only
      rw [if_pos ⟨rfl, by omega⟩]
  len s c := wtextR_rest s c most
def seqR {α β : Type} (f : Rd α) (g : Rd β) : Rd (α × β) := fun s c => (((f s c).1, (g (f s c).2.1 (f s c).2.2).1), (g (f s c).2.1 (f s c).2.2).2.1, (g (f s c).2.1 (f s c).2.2).2.2)
theorem seqC {α β : Type} {f : Rd α} {g : Rd β} {e : α → List UInt8} {d : β → List UInt8} {ok : α → Prop} {ok' : β → Prop} (hf : Codec f e ok) (hg : Codec g d ok') : Codec (seqR f g) (fun x => e x.1 ++ d x.2) (fun x => ok x.1 ∧ ok' x.2) where
  back x t hx := by
    unfold seqR
    rw [List.append_assoc, hf.back x.1 _ hx.1]
    dsimp only
    rw [hg.back x.2 t hx.2]
  canon s hs := by
    unfold seqR at hs ⊢
    dsimp only at hs ⊢
    by_cases hc : (f s 0).2.2 = 0
    · rw [hc] at hs ⊢
      obtain ⟨h1, h2⟩ := hf.canon s hc
      obtain ⟨h3, h4⟩ := hg.canon _ hs
      exact ⟨by conv => lhs; rw [h1, h3]
                simp, h2, h4⟩
    · have := (hg.err (f s 0).2.1 _ hc).2
      rw [this] at hs; exact absurd hs hc
  err s c hc := by
    unfold seqR
    dsimp only
    obtain ⟨h1, h2⟩ := hf.err s c hc
    rw [h1, h2]
    exact hg.err s c hc
  cut x p hx hp hl := by
    unfold seqR
    dsimp only
    rw [List.length_append] at hl
    rcases Nat.lt_or_ge p.length (e x.1).length with h | h
    · have hpp : p <+: e x.1 := List.prefix_of_prefix_length_le hp (List.prefix_append _ _) (by omega)
      have h1 := hf.cut x.1 p hx.1 hpp h
      rw [h1]
      exact (hg.err _ 40 (by decide)).2
    · obtain ⟨q, hq⟩ := List.prefix_of_prefix_length_le (List.prefix_append (e x.1) (d x.2)) hp h
      have hql : q.length < (d x.2).length := by have := congrArg List.length hq; rw [List.length_append] at this; omega
      rw [← hq] at hp ⊢
      rw [hf.back x.1 q hx.1]
      dsimp only
      exact hg.cut x.2 q hx.2 ((List.prefix_append_right_inj _).1 hp) hql
  len s c := Nat.le_trans (hg.len _ _) (hf.len _ _)
def mapR {α β : Type} (h : α → β) (f : Rd α) : Rd β := fun s c => (h (f s c).1, (f s c).2.1, (f s c).2.2)
theorem mapC {α β : Type} {h : α → β} {k : β → α} {f : Rd α} {e : α → List UInt8} {ok : α → Prop} (hkh : ∀ x, k (h x) = x) (hhk : ∀ y, h (k y) = y) (hf : Codec f e ok) : Codec (mapR h f) (fun y => e (k y)) (fun y => ok (k y)) where
  back x t hx := by unfold mapR; rw [hf.back (k x) t hx]; dsimp only; rw [hhk]
  canon s hs := by
    unfold mapR; dsimp only; rw [hkh]
    exact hf.canon s hs
  err s c hc := hf.err s c hc
  cut x p hx hp hl := hf.cut (k x) p hx hp hl
  len s c := hf.len s c
def takeN {α : Type} (f : Rd α) : Nat → Rd (List α)
  | 0, s, c => ([], s, c)
  | k + 1, s, c => if (f s c).2.2 ≠ 0 then ([], (f s c).2.1, (f s c).2.2) else (if (takeN f k (f s c).2.1 (f s c).2.2).2.2 ≠ 0 then [] else (f s c).1 :: (takeN f k (f s c).2.1 (f s c).2.2).1, (takeN f k (f s c).2.1 (f s c).2.2).2.1, (takeN f k (f s c).2.1 (f s c).2.2).2.2)
def allR {α : Type} (f : Rd α) (most : Int) : Rd (List α) := fun s c => takeN f (numR s c most).1.toNat (numR s c most).2.1 (numR s c most).2.2
def listB {α : Type} (e : α → List UInt8) (l : List α) : List UInt8 := putL l.length ++ l.flatMap e
section
variable {α : Type} {f : Rd α} {e : α → List UInt8} {ok : α → Prop}
theorem takeN_nil {n : Nat} {s : List UInt8} {c : Int} (h : (takeN f n s c).2.2 ≠ 0) : (takeN f n s c).1 = [] := by
  cases n with
  | zero => rfl
  | succ k =>
    unfold takeN at h ⊢
    split
    · rfl
    · rename_i h1
      rw [if_neg h1] at h
      dsimp only at h ⊢
      rw [if_pos h]
theorem takeN_back (hf : Codec f e ok) : ∀ (l : List α) (t : List UInt8), (∀ x ∈ l, ok x) → takeN f l.length (l.flatMap e ++ t) 0 = (l, t, 0)
  | [], t, _ => rfl
  | x :: l, t, h => by
    have ih := takeN_back hf l t fun y hy => h y (List.mem_cons_of_mem _ hy)
    have hx := hf.back x (l.flatMap e ++ t) (h x List.mem_cons_self)
    rw [List.flatMap_cons, List.append_assoc, List.length_cons]
    unfold takeN
    rw [hx]
    dsimp only
    rw [if_neg (by simp), ih]
    simp
theorem takeN_err (hf : Codec f e ok) (n : Nat) (s : List UInt8) {c : Int} (hc : c ≠ 0) : (takeN f n s c).2.1 = s ∧ (takeN f n s c).2.2 = c := by
  cases n with
  | zero => exact ⟨rfl, rfl⟩
  | succ k =>
    obtain ⟨h1, h2⟩ := hf.err s c hc
    unfold takeN
    rw [h2, if_pos hc]
    exact ⟨h1, rfl⟩
theorem takeN_canon (hf : Codec f e ok) : ∀ (n : Nat) (s : List UInt8), (takeN f n s 0).2.2 = 0 → s = (takeN f n s 0).1.flatMap e ++ (takeN f n s 0).2.1 ∧ (takeN f n s 0).1.length = n ∧ ∀ x ∈ (takeN f n s 0).1, ok x
  | 0, s, _ => ⟨rfl, rfl, fun x hx => by cases hx⟩
  | k + 1, s, h => by
    by_cases h1 : (f s 0).2.2 = 0
    · have e1 : takeN f (k + 1) s 0 = (if (takeN f k (f s 0).2.1 0).2.2 ≠ 0 then [] else (f s 0).1 :: (takeN f k (f s 0).2.1 0).1, (takeN f k (f s 0).2.1 0).2.1, (takeN f k (f s 0).2.1 0).2.2) := by
        rw [takeN, h1, if_neg (by simp)]
      rw [e1] at h ⊢
      dsimp only at h ⊢
      obtain ⟨h2, h3⟩ := hf.canon s h1
      obtain ⟨h4, h5, h6⟩ := takeN_canon hf k (f s 0).2.1 h
      rw [if_neg (by rw [h]; simp)]
      refine ⟨?_, by rw [List.length_cons, h5], fun x hx => ?_⟩
      · conv => lhs; rw [h2, h4]
        simp
      · rcases List.mem_cons.1 hx with rfl | hx
        · exact h3
        · exact h6 x hx
    · rw [takeN, if_pos h1] at h
      exact absurd h h1
theorem takeN_len (hf : Codec f e ok) : ∀ (n : Nat) (s : List UInt8) (c : Int), (takeN f n s c).2.1.length ≤ s.length
  | 0, s, c => Nat.le_refl _
  | k + 1, s, c => by
    have h1 := hf.len s c
    have h2 := takeN_len hf k (f s c).2.1 (f s c).2.2
    unfold takeN
    split
    · exact h1
    · exact Nat.le_trans h2 h1
theorem takeN_cut (hf : Codec f e ok) : ∀ (l : List α) (p : List UInt8), (∀ x ∈ l, ok x) → p <+: l.flatMap e → p.length < (l.flatMap e).length → (takeN f l.length p 0).2.2 = 40
  | [], p, _, _, h => absurd h (by simp)
  | x :: l, p, h, hp, hl => by
    have hx := h x List.mem_cons_self
    rw [List.flatMap_cons] at hp hl
    rw [List.length_append] at hl
    rw [List.length_cons]
    unfold takeN
    rcases Nat.lt_or_ge p.length (e x).length with h1 | h1
    · have hpp : p <+: e x := List.prefix_of_prefix_length_le hp (List.prefix_append _ _) (by omega)
      have h2 := hf.cut x p hx hpp h1
      rw [h2, if_pos (by decide)]
    · obtain ⟨q, hq⟩ := List.prefix_of_prefix_length_le (List.prefix_append (e x) (l.flatMap e)) hp h1
      have hql : q.length < (l.flatMap e).length := by have := congrArg List.length hq; rw [List.length_append] at this; omega
      rw [← hq] at hp ⊢
      rw [hf.back x q hx]
      dsimp only
      rw [if_neg (by simp)]
      exact takeN_cut hf l q (fun y hy => h y (List.mem_cons_of_mem _ hy)) ((List.prefix_append_right_inj _).1 hp) hql
theorem listC (hf : Codec f e ok) {most : Int} (h0 : 0 ≤ most) (h63 : most ≤ 9223372036854775807) : Codec (allR f most) (listB e) (fun l => (l.length : Int) ≤ most ∧ ∀ x ∈ l, ok x) where
  back l t h := by
    unfold allR listB
    rw [List.append_assoc, numR_put l.length (l.flatMap e ++ t) most (by omega) (by omega)]
    dsimp only
    rw [Int.toNat_natCast]
    exact takeN_back hf l t h.2
  canon s hs := by
    unfold allR at hs ⊢
    by_cases h1 : (numR s 0 most).2.2 = 0
    · rw [h1] at hs ⊢
      have h2 := canon_num (most := most) h1
      have h3 := numR_le (s := s) (c := 0) (most := most)
      have h4 := numR_nonneg s 0 most
      obtain ⟨h5, h6, h7⟩ := takeN_canon hf _ _ hs
      refine ⟨?_, by omega, h7⟩
      unfold listB
      rw [h6]
      conv => lhs; rw [h2, h5]
      simp
    · exact absurd ((takeN_err hf _ _ h1).2.symm.trans hs) h1
  err s c hc := by
    unfold allR
    rw [numR_errR hc]
    exact takeN_err hf _ _ hc
  cut l p h hp hl := by
    unfold allR
    unfold listB at hp hl
    rw [List.length_append] at hl
    rcases Nat.lt_or_ge p.length (putL l.length).length with h1 | h1
    · have hpp : p <+: putL l.length := List.prefix_of_prefix_length_le hp (List.prefix_append _ _) (by omega)
      rw [num_cut (n := l.length) (by omega) hpp h1]
      exact (takeN_err hf _ _ (show (40 : Int) ≠ 0 by decide)).2
    · obtain ⟨q, hq⟩ := List.prefix_of_prefix_length_le (List.prefix_append (putL l.length) (l.flatMap e)) hp h1
      have hql : q.length < (l.flatMap e).length := by have := congrArg List.length hq; rw [List.length_append] at this; omega
      rw [← hq] at hp ⊢
      rw [numR_put l.length q most (by omega) (by omega)]
      dsimp only
      rw [Int.toNat_natCast]
      exact takeN_cut hf l q h.2 ((List.prefix_append_right_inj _).1 hp) hql
  len s c := Nat.le_trans (takeN_len hf _ _ _) (numR_len s c most)
/-- how far a list is read -/
def TI (f : Rd α) (n : Nat) (s1 : List UInt8) (c1 : Int) (i : Nat) (out : List α) (s : List UInt8) (c : Int) : Prop :=
  i ≤ n ∧ out.length ≤ i ∧ (c ≠ 0 → out = []) ∧ takeN f n s1 c1 = (if (takeN f (n - i) s c).2.2 ≠ 0 then [] else out ++ (takeN f (n - i) s c).1, (takeN f (n - i) s c).2.1, (takeN f (n - i) s c).2.2)
theorem ti_start (n : Nat) (s : List UInt8) (c : Int) : TI f n s c 0 [] s c := by
  refine ⟨Nat.zero_le _, Nat.le_refl _, fun _ => rfl, ?_⟩
  rw [Nat.sub_zero]
  by_cases h : (takeN f n s c).2.2 = 0
  · rw [if_neg (by simp [h]), List.nil_append]
  · rw [if_pos h]
    have := takeN_nil (f := f) (n := n) (s := s) (c := c) h
    rw [← this]
theorem ti_bad {n i : Nat} {s1 s : List UInt8} {c1 c : Int} {out : List α} (h : TI f n s1 c1 i out s c) (hi : i < n) (hb : (f s c).2.2 ≠ 0) : takeN f n s1 c1 = ([], (f s c).2.1, (f s c).2.2) := by
  obtain ⟨h1, h2, h3, h4⟩ := h
  obtain ⟨k, hk⟩ : ∃ k, n - i = k + 1 := ⟨n - i - 1, by omega⟩
  rw [h4, hk, takeN, if_pos hb]
  dsimp only
  rw [if_pos hb]
theorem ti_next {n i : Nat} {s1 s : List UInt8} {c1 c : Int} {out : List α} (h : TI f n s1 c1 i out s c) (hi : i < n) (hb : (f s c).2.2 = 0) : TI f n s1 c1 (i + 1) (out ++ [(f s c).1]) (f s c).2.1 (f s c).2.2 := by
  obtain ⟨h1, h2, h3, h4⟩ := h
  refine ⟨by omega, by rw [List.length_append, List.length_singleton]; omega, fun k => absurd hb k, ?_⟩
  obtain ⟨k, hk⟩ : ∃ k, n - i = k + 1 := ⟨n - i - 1, by omega⟩
  have e1 : takeN f (k + 1) s c = (if (takeN f k (f s c).2.1 (f s c).2.2).2.2 ≠ 0 then [] else (f s c).1 :: (takeN f k (f s c).2.1 (f s c).2.2).1, (takeN f k (f s c).2.1 (f s c).2.2).2.1, (takeN f k (f s c).2.1 (f s c).2.2).2.2) := by
    rw [takeN]; exact if_neg (by simp [hb])
  rw [h4, hk, e1, show n - (i + 1) = k by omega]
  dsimp only
  split
  · rfl
  · simp
theorem ti_end {n i : Nat} {s1 s : List UInt8} {c1 c : Int} {out : List α} (h : TI f n s1 c1 i out s c) (hi : n ≤ i) : takeN f n s1 c1 = (out, s, c) := by
  obtain ⟨h1, h2, h3, h4⟩ := h
  rw [h4, show n - i = 0 by omega]
  show (if c ≠ 0 then [] else out ++ [], s, c) = _
  by_cases hc : c = 0
  · rw [if_neg (by simp [hc]), List.append_nil]
  · rw [if_pos hc, h3 hc]
theorem takeN_few (n : Nat) (s : List UInt8) (c : Int) : (takeN f n s c).1.length ≤ n := by
  induction n generalizing s c with
  | zero => exact Nat.le_refl _
  | succ k ih =>
    unfold takeN
    split
    · exact Nat.zero_le _
    · dsimp only
      split
      · exact Nat.zero_le _
      · rw [List.length_cons]; have := ih (f s c).2.1 (f s c).2.2; omega
theorem allR_few {most : Int} (h0 : 0 ≤ most) (s : List UInt8) (c : Int) : ((allR f most s c).1.length : Int) ≤ most := by
  have h1 := takeN_few (f := f) (numR s c most).1.toNat (numR s c most).2.1 (numR s c most).2.2
  have h2 := numR_le (s := s) (c := c) (most := most)
  have h3 := numR_nonneg s c most
  unfold allR; omega
theorem takeN_all {p : α → Prop} (hp : ∀ s c, p (f s c).1) (n : Nat) (s : List UInt8) (c : Int) : ∀ x ∈ (takeN f n s c).1, p x := by
  induction n generalizing s c with
  | zero => intro x hx; cases hx
  | succ k ih =>
    unfold takeN
    split
    · intro x hx; cases hx
    · dsimp only
      split
      · intro x hx; cases hx
      · intro x hx
        rcases List.mem_cons.1 hx with rfl | hx
        · exact hp s c
        · exact ih _ _ x hx
end
theorem flat_next {α : Type} {e : α → List UInt8} {l : List α} {i : Nat} (h : i < l.length) : (l.take (i + 1)).flatMap e = (l.take i).flatMap e ++ e l[i] := by
  rw [List.take_succ_eq_append_getElem h, List.flatMap_append]; simp
theorem flatB_len {α : Type} {e : α → List UInt8} {B : Nat} : ∀ {l : List α}, (∀ x ∈ l, (e x).length ≤ B) → (l.flatMap e).length ≤ l.length * B
  | [], _ => by simp
  | x :: l, h => by
    have h1 := h x List.mem_cons_self
    have h2 := flatB_len (e := e) (B := B) (l := l) fun y hy => h y (List.mem_cons_of_mem _ hy)
    rw [List.flatMap_cons, List.length_append, List.length_cons, Nat.add_mul]; omega
theorem wtextR_short (s : List UInt8) (c : Int) {most : Int} (h0 : 0 ≤ most) : ((wtextR s c most).1.length : Int) ≤ most := by
  have h5 := numR_le (s := s) (c := c) (most := most)
  have h6 := numR_nonneg s c most
  unfold wtextR
  split
  · simpa using h0
  · split
    · simpa using h0
    · dsimp only; rw [List.length_take]; omega
theorem numB_len {n : Int} (h : n ≤ 9223372036854775807) : (numB n).length ≤ 10 := putL_few n.toNat (by omega)
theorem textB_len {s : List UInt8} (h : s.length ≤ 9223372036854775807) : (textB s).length ≤ s.length + 10 := by
  have := putL_few s.length (by omega)
  unfold textB; rw [List.length_append]; omega
end Go.AL

namespace Go.AL
open Go.RowKit
section
variable {P : Program} {N : Nat} {env : Env} {st : St} {o : Oper}
/-- A literal slice that may be written. -/
theorem S_buildV {t e : TypeId} {n : Nat} {parts : List (Nat × Operand)} {ys : List AV} (m : Nat) (ho : o.op = .buildSlice t n parts.toArray) (hxs : AEvs env (parts.map (·.2)) ys) (hp : parts.map (·.1) = List.range n) (hu : P.underlying t = some (.slice e))
    (hz : (P.info? e).map (fun i => (i.size, i.zero.map (·.cells.size))) = some (m, some m)) (hm : ∀ y ∈ ys, y.flat = true ∧ y.cells.length = m) (hpos : 0 < m) (hn : 0 < n) (hsm : n * m ≤ 2 ^ 24) :
    Step P N o env st fun z st' => ∃ b, z = .lit (.slice (some ⟨b, 0, none⟩) n n) ∧ st' = (b, .cells (ys.flatMap AV.cells)) :: st := by
  intro a w hg next Q hnx
  obtain ⟨hl, hr⟩ := hxs.at_ hg
  have hpl : parts.length = n := by have := congrArg List.length hp; simpa using this
  have hyl : ys.length = n := by have := hl; simp at this; omega
  obtain ⟨i, hi⟩ : ∃ i, P.info? e = some i := by cases h : P.info? e with | none => simp [h] at hz | some i => exact ⟨i, rfl⟩
  have hz1 : i.size = m := by simp [hi] at hz; exact hz.1
  obtain ⟨z, hzz⟩ : ∃ z, i.zero = some z := by cases h : i.zero with | none => simp [hi, h] at hz | some z => exact ⟨z, rfl⟩
  let vs := parts.map fun p => a.eval p.2
  have hvs : vs.length = n := by simp [vs, hpl]
  have hpe : (parts.map fun p => (p.1, a.eval p.2)) = (vs.zipIdx 0).map fun x => (x.2, x.1) := by
    refine List.ext_getElem? fun k => ?_
    simp only [List.getElem?_map, List.getElem?_zipIdx, vs]
    cases hk : parts[k]? with
    | none => simp
    | some p =>
      have h1 := congrArg (fun l => l[k]?) hp
      have hkn : k < n := by have := (List.getElem?_eq_some_iff.1 hk).1; omega
      simp [hk, hkn] at h1
      simp [h1]
  have hr' : ∀ (k : Nat) y v, ys[k]? = some y → vs[k]? = some v → R st w y v := fun k y v hy hv => by
    simp only [vs, List.getElem?_map] at hv
    cases hk : parts[k]? with
    | none => simp [hk] at hv
    | some p =>
      simp [hk] at hv
      subst hv
      exact hr k y p.2 hy (by simp [hk])
  have hvm : ∀ v ∈ vs, v.cells.size = m := fun v hv => by
    obtain ⟨k, hk⟩ := List.mem_iff_getElem?.1 hv
    have hlt : k < ys.length := by have := (List.getElem?_eq_some_iff.1 hk).1; omega
    have hy := hm ys[k] (List.getElem_mem hlt)
    rw [((hr' k ys[k] v (List.getElem?_eq_getElem hlt) hk).cells hy.1).1, hy.2]
  have hnm : n * m ≠ 0 := Nat.mul_ne_zero (by omega) (by omega)
  have hfill := Go.Great.fill_whole hpos vs ((Array.range (n * i.size)).map (z.cells[· % z.cells.size]!)) hvm (by simp [hvs, hz1])
  let ws : Array Value := (vs.flatMap fun v => v.cells.toList).toArray
  have hwsz : ∀ l : List Value, (∀ v ∈ l, v.cells.size = m) → (l.flatMap fun v => v.cells.toList).length = l.length * m := fun l => by
    induction l with
    | nil => intro _; simp
    | cons v l ih =>
      intro h
      rw [List.flatMap_cons, List.length_append, ih fun x hx => h x (List.mem_cons_of_mem _ hx), List.length_cons, Nat.add_mul, Array.length_toList, h v List.mem_cons_self]
      omega
  have hws : ∀ (l : List Value), (∀ v ∈ l, v.cells.size = m) → ∀ (k j : Nat) v u, l[k]? = some v → v.cells[j]? = some u → (l.flatMap fun v => v.cells.toList)[k * m + j]? = some u := fun l => by
    induction l with
    | nil => intro _ k j v u h; simp at h
    | cons v l ih =>
      intro h k j x u hx hu'
      rw [List.flatMap_cons]
      have hv := h v List.mem_cons_self
      cases k with
      | zero =>
        simp at hx; subst hx
        have hj : j < v.cells.toList.length := by have := (Array.getElem?_eq_some_iff.1 hu').1; simpa using this
        rw [Nat.zero_mul, Nat.zero_add, List.getElem?_append_left hj]
        simpa using hu'
      | succ k =>
        have := ih (fun y hy => h y (List.mem_cons_of_mem _ hy)) k j x u (by simpa using hx) hu'
        rw [List.getElem?_append_right (by rw [Array.length_toList, hv, Nat.add_mul]; omega), Array.length_toList, hv, Nat.add_mul, Nat.one_mul, show k * m + m + j - m = k * m + j by omega]
        exact this
  have hsz : ws.size = n * m := by simp only [ws, List.size_toArray]; rw [hwsz vs hvm, hvs]
  have hrun : (execOp a.eval o).run P w = .ok (.value (.slice (some ⟨w.heap.size, 0, none⟩) n n)) (w.alloc (.cells ws e)) := by
    have := run_buildSlice (P := P) w t e n ((parts.map fun p => (p.1, a.eval p.2)).toArray) _ i z hu hi hzz (by rw [hz1]; omega) (by rw [hz1]; exact hnm) (by rw [List.toList_toArray, hpe, hz1]; rw [hz1] at hfill; exact hfill)
    simp only [execOp, ho, Sem.run_bind, List.map_toArray]
    rw [this]
    simp [ws]
  have hfl : (ys.flatMap AV.cells).length = n * m := by rw [flat_len fun y hy => (hm y hy).2, hyl]
  obtain ⟨k1, k2⟩ := alloc_rel hg.rel (T := e) (ob := .cells (ys.flatMap AV.cells)) (vs := ws) ⟨by rw [hsz, hfl], fun q c u hc hu' => by
    obtain ⟨k, y, j, hy, hcj, rfl⟩ := flat_get (fun y hy => (hm y hy).2) hc
    have hlt : k < vs.length := by have := (List.getElem?_eq_some_iff.1 hy).1; omega
    have hv := List.getElem?_eq_getElem hlt
    obtain ⟨c1, c2⟩ := (hr' k y vs[k] hy hv).cells (hm y (List.mem_of_getElem? hy)).1
    have hj : j < (vs[k]).cells.size := by rw [c1]; exact (List.getElem?_eq_some_iff.1 hcj).1
    have h1 := hws vs hvm k j vs[k] ((vs[k]).cells[j]) hv (by simp [hj])
    have h2 : u = (vs[k]).cells[j] := by
      have h3 : (vs.flatMap fun v => v.cells.toList)[k * m + j]? = some u := by simpa [ws] using hu'
      rw [h1] at h3
      exact (Option.some.inj h3).symm
    rw [h2]
    exact c2 j c _ hcj (by simp [hj])⟩
  unfold Oper.wp
  rw [hrun]
  exact hnx _ _ _ _ ⟨w.heap.size, rfl, rfl⟩ (.lit _) k1 k2

theorem GCalls.of_eq {gs : List (Nat × List Value)} {f : FuncId} {args : List AV} {V V' : AV} (h : GCalls P gs f args V) (e : V = V') : GCalls P gs f args V' := e ▸ h
/-- What a call over tables wants of each argument, where it only reads. -/
inductive LendsG (st : St) (g : St) : List AV → List AV → Prop
  | nil : LendsG st g [] []
  | cons {a b : AV} {as bs : List AV} (h : Conv st g a b) (t : LendsG st g as bs) : LendsG st g (a :: as) (b :: bs)
theorem LendsG.len {g : St} {as bs : List AV} (h : LendsG st g as bs) : as.length = bs.length := by induction h <;> simp [*]
theorem LendsG.at_ {g : St} {as bs : List AV} (h : LendsG st g as bs) : ∀ (i : Nat) b, bs[i]? = some b → ∃ a, as[i]? = some a ∧ Conv st g a b := by
  induction h with
  | nil => intro i b h; simp at h
  | cons h t ih =>
    intro i b hb
    cases i with
    | zero => simp at hb; subst hb; exact ⟨_, rfl, h⟩
    | succ i => simp at hb; simpa using ih i b hb

/-- What may be written there may be written here. -/
def MutLe (st st' : St) : Prop := ∀ b off, Mut st' b off → Mut st b off
theorem MutLe.cells {s' : St} {k : Nat} {cs ds : List AV} (h : MutLe st s') : MutLe ((k, .cells cs) :: st) ((k, .cells ds) :: s') := fun b off ⟨o, ho, hop⟩ => by
  rcases List.mem_cons.1 ho with h1 | h1
  · cases h1; exact ⟨_, List.mem_cons_self, trivial⟩
  · obtain ⟨o', h2, h3⟩ := h b off ⟨o, h1, hop⟩; exact ⟨o', List.mem_cons_of_mem _ h2, h3⟩
theorem MutLe.drop {s' : St} {p : Nat × Ob} (h : MutLe st s') : MutLe (p :: st) s' := fun b off hm => let ⟨o', h2, h3⟩ := h b off hm; ⟨o', List.mem_cons_of_mem _ h2, h3⟩
theorem MutLe.refl (s : St) : MutLe s s := fun _ _ h => h
theorem MutLe.ext {st' : St} (h : MutLe st st') (w : World) : Ext st w st' w := ⟨rfl, rfl, rfl, fun _ _ => rfl, Nat.le_refl _, fun _ _ _ => rfl, fun _ _ _ _ _ _ _ _ _ => rfl, fun b off _ hm => h b off hm, fun _ _ _ _ => rfl⟩
theorem LendsG.agg {g : St} {as bs : List AV} (h : LendsG st g as bs) : Conv st g (.agg as) (.agg bs) := .agg h.len fun i c d hc hd => by
  obtain ⟨a, ha, hcv⟩ := h.at_ i d hd
  rw [hc] at ha; cases ha; exact hcv
/-- The slots' values as they are in another state. -/
inductive EnvConv (st st' : St) (env : Env) : Env → Prop
  | nil : EnvConv st st' env []
  | cons {i : Nat} {x y : AV} {rest : Env} (h : env.lookup i = some y) (hl : Conv st st' y x) (t : EnvConv st st' env rest) : EnvConv st st' env ((i, x) :: rest)
theorem EnvConv.spec {st' : St} {env' : Env} (h : EnvConv st st' env env') : ∀ i x, env'.lookup i = some x → ∃ y, env.lookup i = some y ∧ Conv st st' y x := by
  induction h with
  | nil => intro i x hi; simp at hi
  | @cons j u v rest h1 h2 t ih =>
    intro i x hi
    simp only [List.lookup_cons] at hi
    by_cases hij : i = j
    · subst hij
      simp only [beq_self_eq_true] at hi
      cases hi
      exact ⟨v, h1, h2⟩
    · have : (i == j) = false := by simpa using hij
      simp only [this] at hi
      exact ih i x hi
/-- One state's memory, in another one: the same, or cells whose values are seen otherwise. -/
inductive StConv (st st' : St) : St → St → Prop
  | nil : StConv st st' [] []
  | drop {p : Nat × Ob} {a b : St} (t : StConv st st' a b) : StConv st st' (p :: a) b
  | same {p : Nat × Ob} {a b : St} (t : StConv st st' a b) (h : ∀ cs, p.2 = .cells cs → ∀ c ∈ cs, Conv st st' c c) : StConv st st' (p :: a) (p :: b)
  | cells {k : Nat} {cs ds : List AV} {a b : St} (hl : ds.length = cs.length) (h : ∀ (i : Nat) c d, cs[i]? = some c → ds[i]? = some d → Conv st st' c d) (t : StConv st st' a b) : StConv st st' ((k, .cells cs) :: a) ((k, .cells ds) :: b)
  | rest (a : St) (h : ∀ c, Conv st st' c c) : StConv st st' a a
theorem StConv.keys {s s' a b : St} (h : StConv s s' a b) : List.Sublist (b.map (·.1)) (a.map (·.1)) := by
  induction h with
  | nil => exact .refl _
  | drop _ ih => exact ih.cons _
  | same _ _ ih => exact ih.cons_cons _
  | cells _ _ _ ih => exact ih.cons_cons _
  | rest _ _ => exact .refl _
theorem StConv.mem {s s' a b : St} (h : StConv s s' a b) : ∀ k o, (k, o) ∈ b → (∃ cs ds, o = .cells ds ∧ (k, .cells cs) ∈ a ∧ ds.length = cs.length ∧ ∀ (i : Nat) c d, cs[i]? = some c → ds[i]? = some d → Conv s s' c d) ∨ ((k, o) ∈ a ∧ ∀ cs, o ≠ .cells cs) := by
  induction h with
  | nil => intro k o h; cases h
  | drop _ ih =>
    intro k o h
    rcases ih k o h with ⟨cs, ds, h1, h2, h3⟩ | ⟨h1, h2⟩
    · exact .inl ⟨cs, ds, h1, List.mem_cons_of_mem _ h2, h3⟩
    · exact .inr ⟨List.mem_cons_of_mem _ h1, h2⟩
  | @same p a b t hp ih =>
    intro k o h
    rcases List.mem_cons.1 h with h | h
    · subst h
      cases o with
      | cells cs => exact .inl ⟨cs, cs, rfl, List.mem_cons_self, rfl, fun i c d hc hd => by rw [hc] at hd; cases hd; exact hp cs rfl c (List.mem_of_getElem? hc)⟩
      | grow e size n cap => exact .inr ⟨List.mem_cons_self, fun cs hh => by cases hh⟩
      | konst vs => exact .inr ⟨List.mem_cons_self, fun cs hh => by cases hh⟩
    · rcases ih k o h with ⟨cs, ds, h1, h2, h3⟩ | ⟨h1, h2⟩
      · exact .inl ⟨cs, ds, h1, List.mem_cons_of_mem _ h2, h3⟩
      · exact .inr ⟨List.mem_cons_of_mem _ h1, h2⟩
  | @cells k' cs ds a b hl hc t ih =>
    intro k o h
    rcases List.mem_cons.1 h with h | h
    · cases h; exact .inl ⟨cs, ds, rfl, List.mem_cons_self, hl, hc⟩
    · rcases ih k o h with ⟨cs, ds, h1, h2, h3⟩ | ⟨h1, h2⟩
      · exact .inl ⟨cs, ds, h1, List.mem_cons_of_mem _ h2, h3⟩
      · exact .inr ⟨List.mem_cons_of_mem _ h1, h2⟩
  | rest a hc =>
    intro k o h
    cases o with
    | cells cs => exact .inl ⟨cs, cs, rfl, h, rfl, fun i c d h1 h2 => by rw [h1] at h2; cases h2; exact hc c⟩
    | grow e size n cap => exact .inr ⟨h, fun cs hh => by cases hh⟩
    | konst vs => exact .inr ⟨h, fun cs hh => by cases hh⟩

end
end Go.AL

namespace Go.AL
open Go.RowKit
section
variable {P : Program} {N : Nat} {env : Env} {st : St} {o : Oper}
end
end Go.AL

namespace Go.AL
open Go.RowKit Go.NumSpec
end Go.AL

namespace Go.AL
open Go.RowKit Go.NumSpec
def coversL (a b : List Lab) : Bool := a.all fun x => decide (x ∈ b)
abbrev lessK (x y : Lab) : Bool := Op.bytesLess x.1 y.1
abbrev d0 : Lab := ([], [])
section
variable {a b : List Lab}
end
theorem map_cons {m : Option (List Lab)} {out : List Lab} {x : Lab} : (m.map (x :: ·)).map (out ++ ·) = m.map ((out ++ [x]) ++ ·) := by cases m <;> simp
end Go.AL

namespace Go.AL
open Go.RowKit Go.NumSpec
theorem bytesLess_trans : ∀ {a b c : List UInt8}, Op.bytesLess a b = true → Op.bytesLess b c = true → Op.bytesLess a c = true
  | _, [], _, h, _ => by cases ‹List UInt8› <;> simp [Op.bytesLess] at h
  | _, _ :: _, [], _, h => by simp [Op.bytesLess] at h
  | [], _ :: _, _ :: _, _, _ => rfl
  | x :: a, y :: b, z :: c, h, k => by
    unfold Op.bytesLess at h k ⊢
    simp only [Bool.or_eq_true, decide_eq_true_eq, Bool.and_eq_true, beq_iff_eq] at h k ⊢
    simp only [u8_lt] at h k ⊢
    rcases h with h | ⟨rfl, h⟩
    · rcases k with k | ⟨rfl, k⟩
      · exact .inl (by omega)
      · exact .inl h
    · rcases k with k | ⟨rfl, k⟩
      · exact .inl k
      · exact .inr ⟨rfl, bytesLess_trans h k⟩
abbrev sortedL (l : List Lab) : Prop := l.Pairwise fun x y => lessK x y = true
theorem sorted_of {l : List Lab} (h : ∀ i (hi : i < l.length), 0 < i → lessK (l[i - 1]'(by omega)) l[i] = true) : sortedL l := by
  refine List.pairwise_iff_getElem.2 fun i j hi hj hij => ?_
  induction j with
  | zero => omega
  | succ j ih =>
    have h1 := h (j + 1) hj (by omega)
    simp only [Nat.add_sub_cancel] at h1
    rcases Nat.lt_or_ge i j with k | k
    · exact bytesLess_trans (ih (by omega) k) h1
    · have : i = j := by omega
      subst this; exact h1
theorem label_out {name : List UInt8} {l : List Lab} {i : Nat} (hi : i < l.length) (h : labelE name l i = none) : namesR 2 l[i].1 = true ∧ (∀ h0 : 0 < i, lessK (l[i - 1]'(by omega)) l[i] = true) ∧ valV l[i].2 = true := by
  cases h1 : namesR 2 l[i].1 with
  | false => rw [label_key hi h1] at h; cases h
  | true =>
    have h2 : ∀ h0 : 0 < i, lessK (l[i - 1]'(by omega)) l[i] = true := fun h0 => by
      cases h2 : lessK (l[i - 1]'(by omega)) l[i] with
      | true => rfl
      | false => rw [label_order hi h1 h0 h2] at h; cases h
    refine ⟨rfl, h2, ?_⟩
    cases h3 : valV l[i].2 with
    | true => rfl
    | false => rw [label_val hi h1 h2 h3] at h; cases h
theorem labels_out {name : List UInt8} {l : List Lab} (h : labelsE name l = none) : l.length ≤ 4 ∧ sortedL l ∧ ∀ x ∈ l, namesR 2 x.1 = true ∧ valV x.2 = true := by
  cases ha : atMostE name (l.length : Int) 0 4 with
  | some x => rw [labelsE_bad (by rw [ha]; simp), ha] at h; cases h
  | none =>
    rw [labelsE_good ha] at h
    have hl : l.length ≤ 4 := by
      unfold atMostE at ha
      split at ha
      · cases ha
      · omega
    have hall := eachE_none h
    refine ⟨hl, sorted_of fun i hi h0 => (label_out hi (hall i hi)).2.1 h0, fun x hx => ?_⟩
    obtain ⟨i, hi, rfl⟩ := List.mem_iff_getElem.1 hx
    exact ⟨(label_out hi (hall i hi)).1, (label_out hi (hall i hi)).2.2⟩
end Go.AL

namespace Go.AL
open Go.RowKit Go.NumSpec
theorem key_short {s : List UInt8} (h : namesR 2 s = true) : s.length ≤ 33 := by
  rw [namesR_parts, Bool.and_eq_true, decide_eq_true_eq] at h
  have := parts_names h.2
  omega
theorem val_short {s : List UInt8} (h : valV s = true) : s.length ≤ 16 := by
  unfold valV at h
  simp only [Bool.and_eq_true, decide_eq_true_eq] at h
  omega
end Go.AL

namespace Go.AL
open Go.RowKit Go.NumSpec
abbrev MR : Int := 1099511627776
def labRd : Rd Lab := seqR (textRd 33) (textRd 16)
def labB (x : Lab) : List UInt8 := textB x.1 ++ textB x.2
def LabOk (x : Lab) : Prop := (x.1.length : Int) ≤ 33 ∧ (x.2.length : Int) ≤ 16
theorem labC : Codec labRd labB LabOk := seqC (textC (by decide) (by decide)) (textC (by decide) (by decide))
def labsRd : Rd (List Lab) := allR labRd 4
def labsB (l : List Lab) : List UInt8 := listB labB l
def LabsOk (l : List Lab) : Prop := (l.length : Int) ≤ 4 ∧ ∀ x ∈ l, LabOk x
theorem labsC : Codec labsRd labsB LabsOk := listC labC (by decide) (by decide)
def triRd : Rd Tri := seqR (numRd MR) (seqR (numRd MR) (numRd MR))
def triB (r : Tri) : List UInt8 := numB r.1 ++ (numB r.2.1 ++ numB r.2.2)
def TriOk (r : Tri) : Prop := (0 ≤ r.1 ∧ r.1 ≤ MR) ∧ ((0 ≤ r.2.1 ∧ r.2.1 ≤ MR) ∧ (0 ≤ r.2.2 ∧ r.2.2 ≤ MR))
theorem triC : Codec triRd triB TriOk := seqC (numC (by decide) (by decide)) (seqC (numC (by decide) (by decide)) (numC (by decide) (by decide)))
def portsRd : Rd (List Int) := allR (numRd 65535) 3
def portsB (l : List Int) : List UInt8 := listB numB l
def PortsOk (l : List Int) : Prop := (l.length : Int) ≤ 3 ∧ ∀ x ∈ l, 0 ≤ x ∧ x ≤ 65535
theorem portsC : Codec portsRd portsB PortsOk := listC (numC (by decide) (by decide)) (by decide) (by decide)
abbrev CtrT := List UInt8 × (List UInt8 × (Tri × (Tri × (List Int × (Int × Int)))))
def ctrOf (x : CtrT) : Ctr := ⟨x.1, x.2.1, x.2.2.1, x.2.2.2.1, x.2.2.2.2.1, x.2.2.2.2.2⟩
def ctrTo (c : Ctr) : CtrT := (c.name, (c.image, (c.req, (c.lim, (c.ports, c.probe)))))
def ctrRd : Rd Ctr := mapR ctrOf (seqR (textRd 16) (seqR (textRd 33) (seqR triRd (seqR triRd (seqR portsRd (seqR (numRd 1000) (numRd 10)))))))
def ctrB (c : Ctr) : List UInt8 := textB c.name ++ (textB c.image ++ (triB c.req ++ (triB c.lim ++ (portsB c.ports ++ (numB c.probe.1 ++ numB c.probe.2)))))
def CtrOk (c : Ctr) : Prop := (c.name.length : Int) ≤ 16 ∧ ((c.image.length : Int) ≤ 33 ∧ (TriOk c.req ∧ (TriOk c.lim ∧ (PortsOk c.ports ∧ ((0 ≤ c.probe.1 ∧ c.probe.1 ≤ 1000) ∧ (0 ≤ c.probe.2 ∧ c.probe.2 ≤ 10))))))
theorem ctrC : Codec ctrRd ctrB CtrOk :=
  mapC (h := ctrOf) (k := ctrTo) (fun _ => rfl) (fun _ => rfl) (seqC (textC (by decide) (by decide)) (seqC (textC (by decide) (by decide)) (seqC triC (seqC triC (seqC portsC (seqC (numC (by decide) (by decide)) (numC (by decide) (by decide))))))))
def ctrsB (l : List Ctr) : List UInt8 := listB ctrB l
def CtrsOk (n : Int) (l : List Ctr) : Prop := (l.length : Int) ≤ n ∧ ∀ x ∈ l, CtrOk x
abbrev SpcT := List UInt8 × (List Lab × (List Ctr × (List Ctr × (Int × (Int × Int)))))
def spcOf (x : SpcT) : Spc := ⟨x.1, x.2.1, x.2.2.1, x.2.2.2.1, x.2.2.2.2.1, x.2.2.2.2.2.1, x.2.2.2.2.2.2⟩
def spcTo (s : Spc) : SpcT := (s.name, (s.labels, (s.init, (s.main, (s.restart, (s.grace, s.prio))))))
def spcRd : Rd Spc := mapR spcOf (seqR (textRd 16) (seqR labsRd (seqR (allR ctrRd 3) (seqR (allR ctrRd 4) (seqR (numRd 3) (seqR (numRd 1000) (numRd 10)))))))
def spcB (s : Spc) : List UInt8 := textB s.name ++ (labsB s.labels ++ (ctrsB s.init ++ (ctrsB s.main ++ (numB s.restart ++ (numB s.grace ++ numB s.prio)))))
def SpcOk (s : Spc) : Prop := (s.name.length : Int) ≤ 16 ∧ (LabsOk s.labels ∧ (CtrsOk 3 s.init ∧ (CtrsOk 4 s.main ∧ ((0 ≤ s.restart ∧ s.restart ≤ 3) ∧ ((0 ≤ s.grace ∧ s.grace ≤ 1000) ∧ (0 ≤ s.prio ∧ s.prio ≤ 10))))))
theorem spcC : Codec spcRd spcB SpcOk :=
  mapC (h := spcOf) (k := spcTo) (fun _ => rfl) (fun _ => rfl) (seqC (textC (by decide) (by decide)) (seqC labsC (seqC (listC ctrC (by decide) (by decide)) (seqC (listC ctrC (by decide) (by decide)) (seqC (numC (by decide) (by decide)) (seqC (numC (by decide) (by decide)) (numC (by decide) (by decide))))))))
/-! What may be is within its bounds -/
theorem atMost_none {name : List UInt8} {n lo hi : Int} (h : atMostE name n lo hi = none) : lo ≤ n ∧ n ≤ hi := by
  unfold atMostE at h
  split at h
  · cases h
  · omega
theorem new_none {b : Bool} {c : Int} {ps : List (List UInt8)} (hc : c ≠ 0) (h : erNew (saysV b c) ps = none) : b = true := by
  unfold erNew at h
  split at h
  · rename_i h1; exact (says_zero hc).1 h1
  · cases h
theorem image_len {s : List UInt8} (h : (tparts s).2.2 = true) : (s.length : Int) ≤ 33 := by
  unfold tparts at h
  split at h
  · rename_i h1
    have h2 := cutV_len h1.1
    have h3 := h1.2.1
    have h4 := h1.2.2
    unfold repoV at h3; unfold tagV at h4
    simp only [Bool.and_eq_true, decide_eq_true_eq] at h3 h4
    have := h3.1; have := h4.1.2
    omega
  · cases h
theorem req_ok {r : Tri} (h : reqE r = none) : TriOk r := by
  have h0 := erIn_none h
  exact ⟨within_none (firstE_none h0 _ List.mem_cons_self), within_none (firstE_none h0 (withinE [109, 101, 109] r.2.1 0 1099511627776) (by simp)), within_none (firstE_none h0 (withinE [112, 105, 100, 115] r.2.2 0 1099511627776) (by simp))⟩
theorem most_ok {name : List UInt8} {n lo : Int} (h0 : 0 ≤ lo) (h : mostE name n lo = none) : 0 ≤ n ∧ n ≤ MR := by
  unfold mostE at h
  split at h
  · rename_i h1; subst h1; exact ⟨by decide, by decide⟩
  · have := within_none h
    unfold MR; omega
theorem lim_ok {l r : Tri} (hr : TriOk r) (h : limE l r = none) : TriOk l := by
  have h0 := erIn_none h
  exact ⟨most_ok hr.1.1 (firstE_none h0 _ List.mem_cons_self), most_ok hr.2.1.1 (firstE_none h0 (mostE [109, 101, 109] l.2.1 r.2.1) (by simp)), most_ok hr.2.2.1 (firstE_none h0 (mostE [112, 105, 100, 115] l.2.2 r.2.2) (by simp))⟩
theorem port_ok {ps l : List Int} {n : Int} (hn : n ≤ 3) (h : portE ps l n = none) : PortsOk l := by
  obtain ⟨h1, h2⟩ := portE_out h
  refine ⟨by have := atMost_none h1; omega, fun x hx => ?_⟩
  obtain ⟨j, hj, rfl⟩ := List.mem_iff_getElem.1 hx
  have := within_none (portAt_out (h2 j hj)).1
  rw [List.getD_eq_getElem?_getD, List.getElem?_eq_getElem hj] at this
  simp only [Option.getD_some] at this
  omega
theorem ctr_ok {ns : List (List UInt8)} {ps : List Int} {c : Ctr} {a b : Int} (ha : a ≤ 3) (hb : b ≤ 1000) (h : ctrE ns ps c a b = none) : CtrOk c := by
  have h1 := new_none (by decide) (nameE_out (firstE_none h (nameE ns c.name) (by simp))).1
  have h2 := new_none (by decide) (firstE_none h (erNew (saysV (tparts c.image).2.2 33) [[105, 109, 97, 103, 101]]) (by simp))
  have h3 := req_ok (firstE_none h (reqE c.req) (by simp))
  have h4 := lim_ok h3 (firstE_none h (limE c.lim c.req) (by simp))
  have h5 := port_ok ha (firstE_none h (portE ps c.ports a) (by simp))
  have h6 := erIn_none (firstE_none h (probeE c.probe b) (by simp))
  have h7 := within_none (firstE_none h6 _ List.mem_cons_self)
  have h8 := within_none (firstE_none h6 _ (List.mem_cons_of_mem _ List.mem_cons_self))
  have h9 := nameV_len h1
  refine ⟨by omega, image_len h2, h3, h4, h5, by omega, ?_⟩
  by_cases hp : c.probe.1 = 0
  · rw [if_pos hp, if_pos hp] at h8; omega
  · rw [if_neg hp, if_neg hp] at h8; omega
theorem ctrs_ok {name : List UInt8} {ns : List (List UInt8)} {ps : List Int} {l : List Ctr} {a b : Int} (ha : a ≤ 3) (hb : b ≤ 1000) (h : ctrsE name ns ps l a b = none) : ∀ x ∈ l, CtrOk x := fun x hx => by
  obtain ⟨j, hj, rfl⟩ := List.mem_iff_getElem.1 hx
  have := erIn_none (eachE_none h j hj)
  rw [ctrAt_at hj] at this
  exact ctr_ok ha hb this
theorem check_ok {s : Spc} (h : checkE s = none) : SpcOk s := by
  obtain ⟨h1, h2, h3⟩ := check_all h
  have n1 := nameV_len (new_none (by decide) (firstE_none h1 _ List.mem_cons_self))
  have n2 := labels_out (firstE_none h1 (labelsE labelsN s.labels) (by simp))
  have n3 := atMost_none (firstE_none h1 (atMostE initN (s.init.length : Int) 0 3) (by simp))
  have n4 := ctrs_ok (by decide) (by decide) (firstE_none h2 (ctrsE initN [] [] s.init 0 0) (by simp))
  have n5 := atMost_none (firstE_none h2 (atMostE mainN (s.main.length : Int) 1 4) (by simp))
  have n6 := ctrs_ok (by decide) (by decide) (firstE_none h3 _ List.mem_cons_self)
  have n7 := within_none (firstE_none h3 (withinE [114, 101, 115, 116, 97, 114, 116] s.restart 1 3) (by simp))
  have n8 := within_none (firstE_none h3 (withinE [103, 114, 97, 99, 101] s.grace 0 1000) (by simp))
  have n9 := within_none (firstE_none h3 (withinE [112, 114, 105, 111] s.prio 0 10) (by simp))
  refine ⟨by omega, ⟨by have := n2.1; omega, fun x hx => ?_⟩, ⟨n3.2, n4⟩, ⟨n5.2, n6⟩, by omega, n8, n9⟩
  have := n2.2.2 x hx
  have k1 := key_short this.1
  have k2 := val_short this.2
  exact ⟨by omega, by omega⟩
/-! How long -/
theorem labB_len {x : Lab} (h1 : x.1.length ≤ 400) (h2 : x.2.length ≤ 400) : (labB x).length ≤ 1000 := by
  have := textB_len (s := x.1) (by omega)
  have := textB_len (s := x.2) (by omega)
  unfold labB; rw [List.length_append]; omega
theorem triB_len {r : Tri} (h : TriOk r) : (triB r).length ≤ 30 := by
  have a := numB_len (n := r.1) (by have := h.1.2; unfold MR at this; omega)
  have b := numB_len (n := r.2.1) (by have := h.2.1.2; unfold MR at this; omega)
  have c := numB_len (n := r.2.2) (by have := h.2.2.2; unfold MR at this; omega)
  unfold triB; rw [List.length_append, List.length_append]; omega
theorem portsB_len {l : List Int} (h : PortsOk l) : (portsB l).length ≤ 40 := by
  have a := flatB_len (e := numB) (B := 10) (l := l) fun x hx => numB_len (by have := (h.2 x hx).2; omega)
  have b := putL_few l.length (by have := h.1; omega)
  have := h.1
  unfold portsB listB; rw [List.length_append]; omega
theorem ctrB_len {c : Ctr} (h : CtrOk c) : (ctrB c).length ≤ 1000 := by
  obtain ⟨h1, h2, h3, h4, h5, h6, h7⟩ := h
  have a := textB_len (s := c.name) (by omega)
  have b := textB_len (s := c.image) (by omega)
  have d := triB_len h3
  have e := triB_len h4
  have f := portsB_len h5
  have g := numB_len (n := c.probe.1) (by omega)
  have k := numB_len (n := c.probe.2) (by omega)
  unfold ctrB
  simp only [List.length_append]; omega
theorem ctrB_assoc (c : Ctr) : (((((textB c.name ++ textB c.image) ++ triB c.req) ++ triB c.lim) ++ listB numB c.ports) ++ numB c.probe.1) ++ numB c.probe.2 = ctrB c := by simp [ctrB, portsB]
theorem spcB_assoc (s : Spc) : (((((textB s.name ++ listB labB s.labels) ++ ([s.init, s.main].flatMap (listB ctrB)))) ++ numB s.restart) ++ numB s.grace) ++ numB s.prio = spcB s := by simp [spcB, labsB, ctrsB]
theorem two_all {p : List Ctr → Prop} {a b : List Ctr} (ha : p a) (hb : p b) : ∀ x ∈ [a, b], p x := fun x hx => by
  simp only [List.mem_cons, List.not_mem_nil, or_false] at hx
  rcases hx with rfl | rfl
  · exact ha
  · exact hb
theorem flatB_next {α : Type} {e : α → List UInt8} {a : List UInt8} {l : List α} {i : Nat} (h : i < l.length) : a ++ (l.take (i + 1)).flatMap e = (a ++ (l.take i).flatMap e) ++ e l[i] := by
  rw [flat_next h, List.append_assoc]
theorem triB_assoc (r : Tri) : (numB r.1 ++ numB r.2.1) ++ numB r.2.2 = triB r := by simp [triB]
theorem listB_next {α : Type} {e : α → List UInt8} {l : List α} {i : Nat} (h : i < l.length) : putL l.length ++ (l.take (i + 1)).flatMap e = (putL l.length ++ (l.take i).flatMap e) ++ e l[i] := by
  rw [flat_next h, List.append_assoc]
theorem listB_len {α : Type} {e : α → List UInt8} {l : List α} {B : Nat} (hl : l.length ≤ 9223372036854775807) (h : ∀ x ∈ l, (e x).length ≤ B) : (listB e l).length ≤ 10 + l.length * B := by
  have a := flatB_len h
  have b := putL_few l.length (by omega)
  unfold listB; rw [List.length_append]; omega
theorem ACalls.preQ {P : Program} {f : FuncId} {args : List AV} {foot pre F : St} {K : AV → St → Prop} (hc : ACalls P f args (foot ++ (pre ++ F)) fun x st' => ∃ foot', K x foot' ∧ st' = foot' ++ (pre ++ F)) : ACalls P f args (pre ++ (foot ++ F)) fun x st' => ∃ foot', K x foot' ∧ st' = pre ++ (foot' ++ F) := by
  have perm : ∀ (a : St), (pre ++ (a ++ F)).Perm (a ++ (pre ++ F)) := fun a => by
    rw [← List.append_assoc, ← List.append_assoc]
    exact List.Perm.append_right F List.perm_append_comm
  refine ⟨hc.enters, fun w vs hrel hs hr => ?_⟩
  have hx : Ext (pre ++ (foot ++ F)) w (foot ++ (pre ++ F)) w := Ext.sub fun p hp => (perm foot).mem_iff.2 hp
  have hrel2 : Rel (foot ++ (pre ++ F)) w := hrel.sub (fun p hp => (perm foot).mem_iff.2 hp) (((perm foot).map (·.1)).nodup_iff.1 hrel.nodup)
  refine (hc.calls w vs hrel2 hs fun i x v h1 h2 => (hr i x v h1 h2).mono hx hrel.nodup).mono ?_
  rintro e w' ⟨r, x, st', he, ⟨foot', hk, rfl⟩, hr', hrel', hext⟩
  have hy : Ext (foot' ++ (pre ++ F)) w' (pre ++ (foot' ++ F)) w' := Ext.sub fun p hp => (perm foot').mem_iff.1 hp
  exact ⟨r, x, _, he, ⟨foot', hk, rfl⟩, hr'.mono hy hrel'.nodup, hrel'.sub (fun p hp => (perm foot').mem_iff.1 hp) (((perm foot').map (·.1)).nodup_iff.2 hrel'.nodup), (hx.trans hext hrel.nodup).trans hy hrel.nodup⟩
end Go.AL

namespace Go.AL
open Go.RowKit
section
variable {P : Program} {N : Nat} {env : Env} {st : St} {o : Oper}
/-- A function's value: what it is, and what it holds. -/
abbrev AV.fn (f : FuncId) (caps : List Value) : AV := .lit (.func (.func f) #[] caps.toArray)
theorem AEv.fn (f : FuncId) : AEv env (.func f) (.fn f []) := AEv.func f
theorem S_makeFunc {f : FuncId} {xs : List Operand} {caps : List Value} (ho : o.op = .makeFunc (.func f) #[] xs.toArray) (hc : AEvs env xs (caps.map .lit)) : PStep P N o env st (.fn f caps) :=
  .of_val fun a w hg => by
    obtain ⟨hl, hr⟩ := hc.at_ hg
    have e : xs.map a.eval = caps := by
      refine List.ext_getElem? fun i => ?_
      simp only [List.getElem?_map]
      have hl' : caps.length = xs.length := by simpa using hl.symm
      cases hx : xs[i]? with
      | none =>
        have : xs.length ≤ i := by simpa using hx
        simp; omega
      | some x =>
        have hi : i < caps.length := by have := (List.getElem?_eq_some_iff.1 hx).1; omega
        have := hr i (.lit caps[i]) x (by simp [hi]) hx
        have := this.lit_inv
        simp [hi, this]
    refine ⟨.func (.func f) #[] caps.toArray, ?_, .lit _⟩
    simp [execOp, ho, Instr.makeFunc, e]

theorem S_callF {f : FuncId} {x : Operand} {caps : List Value} {xs : List Operand} {ts : Array TypeId} {args : List AV} {K : AV → St → Prop} (ho : o.op = .call { callee := .value x, args := xs.toArray, argTypes := ts }) (hx : AEv env x (.fn f caps)) (hargs : AEvs env xs args) (hc : ACalls P f (args ++ caps.map .lit) st K) : Step P N o env st K := by
  intro a w hg next Q hn
  obtain ⟨hl, hr⟩ := hargs.at_ hg
  have hf := (hx _ _ _ _ hg).lit_inv
  have hrun : (execOp a.eval o).run P w = .ok (.enter f ((xs.map a.eval) ++ caps).toArray) w := by
    simp [execOp, ho, resolve, Deferred.ofValue, hf, invoke, run_callFunc' hc.enters]
  unfold Oper.wp
  rw [hrun]
  have hl2 : args.length = xs.length := hl.symm
  refine (hc.calls w _ hg.rel (by simp [hl2]) fun i y v hy hv => ?_).mono ?_
  · simp only [List.getElem?_toArray] at hv
    rcases Nat.lt_or_ge i args.length with hi | hi
    · rw [List.getElem?_append_left hi] at hy
      rw [List.getElem?_append_left (by simp; omega)] at hv
      simp at hv
      obtain ⟨u, hu, rfl⟩ := hv
      exact hr i y u hy hu
    · rw [List.getElem?_append_right hi] at hy
      rw [List.getElem?_append_right (by simp; omega)] at hv
      simp only [List.length_map] at hv
      rw [← hl2] at hv
      simp only [List.getElem?_map, hv, Option.map_some, Option.some.injEq] at hy
      subst hy
      exact .lit v
  · rintro e w' ⟨r, y, st', rfl, k, h1, h2, h3⟩
    exact hn y st' r w' k h1 h2 h3
end
end Go.AL

namespace Go.AL
open Go.RowKit
section
variable {P : Program} {N : Nat} {env : Env} {st : St} {o : Oper} {w : World}
/-- .. an element of one cell of an array that is a value -/
theorem S_idxOne {t e : TypeId} {len : Nat} {x y : Operand} {cs : List AV} {c : AV} {k : IntKind} {i : Int} (ho : o.op = .index t x y) (hx : AEv env x (.agg cs)) (hy : AEv env y (.int k i)) (hu : P.underlying t = some (.array len e)) (ht : flatT P e = true) (hm : (P.info? e).map (·.size) = some 1) (h0 : 0 ≤ i) (h1 : i < len) (hc : cs[i.toNat]? = some c) : PStep P N o env st c :=
  .of_val fun a w hg => by
    obtain ⟨vs, e1, hn, hr⟩ := agg_inv (hx _ _ _ _ hg)
    have e2 := (hy _ _ _ _ hg).lit_inv
    have hk : i.toNat < vs.size := by have := (List.getElem?_eq_some_iff.1 hc).1; omega
    refine ⟨vs[i.toNat], ?_, hr _ _ _ hc (by simp [hk])⟩
    have := run_part_flat (P := P) w ht (show vs[i.toNat]? = some vs[i.toNat] by simp [hk])
    cases hq : P.info? e with
    | none => simp [hq] at hm
    | some q =>
      have hqm : q.size = 1 := by simpa [hq] using hm
      simp [execOp, ho, e1, e2, Instr.index, asIntOf, run_underlying hu, h0, h1, sizeOf, typeInfo, hq, hqm, this]
end
end Go.AL

namespace Go.AL
open Go.RowKit
section
variable {P : Program} {N : Nat} {Q : Post} {env : Env} {st : St} {ops : Array Oper}
theorem AC_mono {c : Code} {Q' : Post} (h : AC P N c Q' env st) (hq : ∀ e env' st', Q' e env' st' → Q e env' st') : AC P N c Q env st := fun a w hg =>
  wp_mono (h a w hg) fun e a' w' ⟨env', st', h1, h2, h3⟩ => ⟨env', st', hq _ _ _ h1, h2, h3⟩
def AO (P : Program) (N : Nat) (ops : Array Oper) (Q : Post) (fuel : Nat) (listed : Array Bool) (env : Env) (st : St) : Prop :=
  ∀ (st0 : St) (w0 : World) (a : Act) (w : World), (st0.map (·.1)).Nodup → Good N env st a w → Ext st0 w0 st w → wpAny P .any ops (Sat N Q st0 w0) fuel listed a w
inductive AllI (p : Nat → Prop) : List Nat → Prop
  | nil : AllI p []
  | cons {i : Nat} {l : List Nat} (h : p i) (t : AllI p l) : AllI p (i :: l)
theorem AllI.at_ {p : Nat → Prop} : ∀ {l : List Nat}, AllI p l → ∀ i ∈ l, p i
  | _, .cons h t, i, hi => by
    rcases List.mem_cons.1 hi with rfl | hi
    · exact h
    · exact t.at_ i hi
def AO1 (P : Program) (N : Nat) (ops : Array Oper) (Q : Post) (fuel : Nat) (listed : Array Bool) (env : Env) (st : St) (i : Nat) : Prop :=
  ∃ (o : Oper) (K : AV → St → Prop), ops[i]? = some o ∧ o.guard = none ∧ dstIn N o.dst = true ∧ Step P N o env st K ∧ ∀ x st', K x st' → AO P N ops Q fuel (listed.setIfInBounds i true) (putE o.dst x env) st'
theorem AO1.mk' {fuel i : Nat} {listed : Array Bool} {o : Oper} {K : AV → St → Prop} (ho : ops[i]? = some o) (hgd : o.guard = none) (hd : dstIn N o.dst = true) (hs : Step P N o env st K) (h : ∀ x st', K x st' → AO P N ops Q fuel (listed.setIfInBounds i true) (putE o.dst x env) st') : AO1 P N ops Q fuel listed env st i := ⟨o, K, ho, hgd, hd, hs, h⟩
theorem AO_step {fuel : Nat} {listed : Array Bool} {rs : List Nat} (hr : Region.ready .any ops listed = rs) (hne : rs.isEmpty = false) (h : AllI (AO1 P N ops Q fuel listed env st) rs) : AO P N ops Q (fuel + 1) listed env st := by
  intro st0 w0 a w hn hg hx
  refine ⟨fun k => ?_, fun i hi => ?_⟩
  · rw [hr] at k; rw [k] at hne; cases hne
  · rw [hr] at hi
    obtain ⟨o, K, ho, hgd, hd, hs, hk⟩ := h.at_ i hi
    unfold wpOp
    rw [ho]
    dsimp only
    rw [if_pos (by simp [Region.wanted, hgd])]
    exact .inl (hs a w hg _ _ fun x st' v w' hkx hr' hrel hext => hk x st' hkx st0 w0 _ _ hn (hg.put (dstIn_spec hd) hr' hrel hext) (hx.trans hext hn))
theorem AO_fin {fuel : Nat} {listed : Array Bool} (hr : Region.ready .any ops listed = []) (h : Q .normal env st) : AO P N ops Q fuel listed env st := by
  intro st0 w0 a w hn hg hx
  have hs : Sat N Q st0 w0 .normal a w := ⟨env, st, h, hg, hx⟩
  cases fuel with
  | zero => exact ⟨hr, hs⟩
  | succ fuel => exact ⟨fun _ => hs, fun i hi => by rw [hr] at hi; cases hi⟩
/-- Every order comes to K. -/
theorem AC_ords {id : Nat} {l : List Oper} (K : Env → St → Prop) (hm : P.follows .mixedOrders = true) (h : AO P N l.toArray (fun e env' st' => e = .normal ∧ K env' st') l.toArray.size (Array.replicate l.toArray.size false) env st) (hk : ∀ env' st', K env' st' → Q .normal env' st') : AC P N (.region id l.toArray true) Q env st := by
  refine AC_mono (Q' := fun e env' st' => e = .normal ∧ K env' st') (fun a0 w0 hg => ?_) fun e env' st' ⟨h1, h2⟩ => by rw [h1]; exact hk env' st' h2
  have hn := hg.rel.nodup
  have hdrew : Ext st w0 st { w0 with drawn := w0.drawn + 1 } := ⟨rfl, rfl, rfl, fun _ _ => rfl, Nat.le_refl _, fun _ _ _ => rfl, fun _ _ _ _ _ _ _ _ _ => rfl, fun _ _ _ h => h, fun _ _ _ _ => rfl⟩
  have hrel : Rel st { w0 with drawn := w0.drawn + 1 } := ⟨hn, fun b cs hbm => let ⟨vs, T, k1, k2, k3⟩ := hg.rel.cells b cs hbm; ⟨vs, T, k1, k2, fun i c v hc hv => (k3 i c v hc hv).mono hdrew hn⟩, hg.rel.grow, hg.rel.konst⟩
  refine wp_region_any hm (h st w0 a0 _ hn ⟨hg.size, hg.defers, fun t x hx => ?_, hrel⟩ hdrew)
  obtain ⟨v, hv, hr⟩ := hg.env t x hx
  exact ⟨v, hv, hr.mono hdrew hn⟩
end
end Go.AL

namespace Go.AL
open Go.RowKit Go.NumSpec
def spc0 : Spc := ⟨[], [], [], [], 0, 0, 0⟩
theorem labRd_short (s : List UInt8) (c : Int) : (labRd s c).1.1.length ≤ 33 ∧ (labRd s c).1.2.length ≤ 16 := by
  have h1 := wtextR_short s c (most := 33) (by decide)
  have h2 := wtextR_short (wtextR s c 33).2.1 (wtextR s c 33).2.2 (most := 16) (by decide)
  exact ⟨by show (wtextR s c 33).1.length ≤ 33; omega, by show (wtextR (wtextR s c 33).2.1 (wtextR s c 33).2.2 16).1.length ≤ 16; omega⟩
theorem ctrRd_light (s : List UInt8) (c : Int) : lightC (ctrRd s c).1 = true := by
  have h1 := wtextR_short s c (most := 16) (by decide)
  have h2 := wtextR_short (wtextR s c 16).2.1 (wtextR s c 16).2.2 (most := 33) (by decide)
  have h3 : (((ctrRd s c).1.ports.length : Nat) : Int) ≤ 3 := allR_few (f := numRd 65535) (most := 3) (by decide) _ _
  unfold lightC
  refine decide_eq_true ⟨?_, ?_, by omega⟩
  · show (wtextR s c 16).1.length ≤ 100; omega
  · show (wtextR (wtextR s c 16).2.1 (wtextR s c 16).2.2 33).1.length ≤ 100; omega
theorem allR_all {α : Type} {f : Rd α} {p : α → Prop} (hp : ∀ s c, p (f s c).1) (most : Int) (s : List UInt8) (c : Int) : ∀ x ∈ (allR f most s c).1, p x := takeN_all hp _ _ _
theorem light_inP {s : Spc} (h1 : s.name.length ≤ 100) (h2 : s.labels.length ≤ 10) (h3 : s.init.length ≤ 8) (h4 : s.main.length ≤ 8) (h5 : ∀ x ∈ s.labels, x.1.length ≤ 100 ∧ x.2.length ≤ 100) (h6 : ∀ x ∈ s.init, lightC x = true) (h7 : ∀ x ∈ s.main, lightC x = true) : lightS s = true := by
  unfold lightS
  simp only [Bool.and_eq_true, decide_eq_true_eq, List.all_eq_true]
  exact ⟨⟨⟨h1, h2, h3, h4⟩, fun x hx => by unfold lightL; exact decide_eq_true (h5 x hx)⟩, h6, h7⟩
theorem spcRd_light (s : List UInt8) (c : Int) : lightS (spcRd s c).1 = true := by
  have h1 := wtextR_short s c (most := 16) (by decide)
  have h2 : (((spcRd s c).1.labels.length : Nat) : Int) ≤ 4 := allR_few (f := labRd) (most := 4) (by decide) _ _
  have h3 : (((spcRd s c).1.init.length : Nat) : Int) ≤ 3 := allR_few (f := ctrRd) (most := 3) (by decide) _ _
  have h4 : (((spcRd s c).1.main.length : Nat) : Int) ≤ 4 := allR_few (f := ctrRd) (most := 4) (by decide) _ _
  have h5 : ∀ x ∈ (spcRd s c).1.labels, x.1.length ≤ 33 ∧ x.2.length ≤ 16 := allR_all (f := labRd) labRd_short 4 _ _
  have h6 : ∀ x ∈ (spcRd s c).1.init, lightC x = true := allR_all (f := ctrRd) ctrRd_light 3 _ _
  have h7 : ∀ x ∈ (spcRd s c).1.main, lightC x = true := allR_all (f := ctrRd) ctrRd_light 4 _ _
  refine light_inP ?_ (by omega) (by omega) (by omega) (fun x hx => by have := h5 x hx; omega) h6 h7
  show (wtextR s c 16).1.length ≤ 100; omega
theorem spc0_light : lightS spc0 = true := by decide
theorem spcB_len {s : Spc} (h : checkE s = none) : (spcB s).length ≤ 20000 := by
  obtain ⟨h1, h2, h3, h4, h5, h6, h7⟩ := check_ok h
  have a1 := textB_len (s := s.name) (by omega)
  have a2 := listB_len (e := labB) (l := s.labels) (B := 1000) (by have := h2.1; omega) fun x hx => labB_len (by have := (h2.2 x hx).1; omega) (by have := (h2.2 x hx).2; omega)
  have a3 := listB_len (e := ctrB) (l := s.init) (B := 1000) (by have := h3.1; omega) fun x hx => ctrB_len (h3.2 x hx)
  have a4 := listB_len (e := ctrB) (l := s.main) (B := 1000) (by have := h4.1; omega) fun x hx => ctrB_len (h4.2 x hx)
  have a5 := numB_len (n := s.restart) (by omega)
  have a6 := numB_len (n := s.grace) (by omega)
  have a7 := numB_len (n := s.prio) (by omega)
  have b1 := h2.1
  have b2 := h3.1
  have b3 := h4.1
  unfold spcB labsB ctrsB
  simp only [List.length_append]; omega
end Go.AL

namespace Go.AL
open Go.RowKit Go.NumSpec
structure Cal where
  kind : Int
  uid : Int
  rev : Nat
  spec : Spc
  grace : Int
  ctr : Int
  id : Int
  most : Int
  data : List UInt8
  sel : List Lab
/-! Reading -/
def bigRd : Rd Nat := fun s c => bigR s c
theorem bigC : Codec bigRd putL (fun n => n < 18446744073709551616) where
  back x t hx := bigR_put x t hx
  canon s hs := ⟨canon_big hs, bigR_lt s 0⟩
  err s c hc := by unfold bigRd; rw [bigR_err hc]; exact ⟨rfl, rfl⟩
  cut x p hx hp hl := by unfold bigRd; rw [bigR_lack (lacks_cut hx hp hl)]
  len s c := bigR_len s c
/-! Writing -/
theorem mapC2 {α β : Type} {h : α → β} {k : β → α} {f : Rd α} {e : α → List UInt8} {ok : α → Prop} (hkh : ∀ x, k (h x) = x) (hf : Codec f e ok) : Codec (mapR h f) (fun y => e (k y)) (fun y => ok (k y) ∧ h (k y) = y) where
  back x t hx := by unfold mapR; rw [hf.back (k x) t hx.1]; dsimp only; rw [hx.2]
  canon s hs := by
    unfold mapR; dsimp only; rw [hkh]
    exact ⟨(hf.canon s hs).1, (hf.canon s hs).2, rfl⟩
  err s c hc := hf.err s c hc
  cut x p hx hp hl := hf.cut (k x) p hx.1 hp hl
  len s c := hf.len s c
abbrev uC := numC (most := 1073741824) (by decide) (by decide)
theorem Codec.of {α : Type} {f g : Rd α} {e d : α → List UInt8} {ok ok' : α → Prop} (h : Codec f e ok) (hf : g = f) (he : ∀ x, ok' x → ok x ∧ d x = e x) (hb : ∀ x, ok x → ok' x) : Codec g d ok' where
  back x t hx := by rw [hf, (he x hx).2]; exact h.back x t (he x hx).1
  canon s hs := by
    rw [hf] at hs ⊢
    obtain ⟨h1, h2⟩ := h.canon s hs
    have h3 := hb _ h2
    exact ⟨by rw [(he _ h3).2]; exact h1, h3⟩
  err s c hc := by rw [hf]; exact h.err s c hc
  cut x p hx hp hl := by
    rw [hf]
    rw [(he x hx).2] at hp hl
    exact h.cut x p (he x hx).1 hp hl
  len s c := by rw [hf]; exact h.len s c
/-! What may be -/
/-! The walks' steps -/
end Go.AL

namespace Go.AL
open Go.RowKit Go.NumSpec
/-! Sizes -/
/-! What is read is light -/
end Go.AL

namespace Go.AL
open Go.RowKit Go.NumSpec
end Go.AL

namespace Go.AL
open Go.RowKit Go.NumSpec
section
variable {a b out : List Lab} {i : Nat}
end
end Go.AL

namespace Go.AL
open Go.RowKit Go.NumSpec
structure Pod where
  id : Int
  ver : Nat
  spec : Spc
  node : Int
  ports : List Int
  x : Int
  y : Int
def podL (p : Pod) : List AV := .int .i64 p.id :: .int .u64 (p.ver : Int) :: (spcL p.spec ++ [.int .i64 p.node, .sl (intsV p.ports), .int .i64 p.x, .int .i64 p.y])
def podAV (p : Pod) : AV := .agg (podL p)
abbrev podsV (l : List Pod) : List AV := l.map podAV
def pick (a : List Lab) (p : Pod) : Bool := coversL a p.spec.labels
end Go.AL

namespace Go.AL
open Go.RowKit Go.NumSpec
def depR {α β : Type} (f : Rd α) (g : α → Rd β) : Rd (α × β) := fun s c => (((f s c).1, (g (f s c).1 (f s c).2.1 (f s c).2.2).1), (g (f s c).1 (f s c).2.1 (f s c).2.2).2.1, (g (f s c).1 (f s c).2.1 (f s c).2.2).2.2)
theorem depC {α β : Type} {f : Rd α} {g : α → Rd β} {e : α → List UInt8} {d : α → β → List UInt8} {ok : α → Prop} {ok' : α → β → Prop} (hf : Codec f e ok) (hg : ∀ x, Codec (g x) (d x) (ok' x)) : Codec (depR f g) (fun x => e x.1 ++ d x.1 x.2) (fun x => ok x.1 ∧ ok' x.1 x.2) where
  back x t hx := by
    unfold depR
    rw [List.append_assoc, hf.back x.1 _ hx.1]
    dsimp only
    rw [(hg x.1).back x.2 t hx.2]
  canon s hs := by
    unfold depR at hs ⊢
    dsimp only at hs ⊢
    by_cases hc : (f s 0).2.2 = 0
    · rw [hc] at hs ⊢
      obtain ⟨h1, h2⟩ := hf.canon s hc
      obtain ⟨h3, h4⟩ := (hg _).canon _ hs
      exact ⟨by conv => lhs; rw [h1, h3]
                simp, h2, h4⟩
    · have := ((hg (f s 0).1).err (f s 0).2.1 _ hc).2
      rw [this] at hs; exact absurd hs hc
  err s c hc := by
    unfold depR
    dsimp only
    obtain ⟨h1, h2⟩ := hf.err s c hc
    rw [h1, h2]
    exact (hg _).err s c hc
  cut x p hx hp hl := by
    unfold depR
    dsimp only
    rw [List.length_append] at hl
    rcases Nat.lt_or_ge p.length (e x.1).length with h | h
    · have hpp : p <+: e x.1 := List.prefix_of_prefix_length_le hp (List.prefix_append _ _) (by omega)
      have h1 := hf.cut x.1 p hx.1 hpp h
      rw [h1]
      exact ((hg _).err _ 40 (by decide)).2
    · obtain ⟨q, hq⟩ := List.prefix_of_prefix_length_le (List.prefix_append (e x.1) (d x.1 x.2)) hp h
      have hql : q.length < (d x.1 x.2).length := by have := congrArg List.length hq; rw [List.length_append] at this; omega
      rw [← hq] at hp ⊢
      rw [hf.back x.1 q hx.1]
      dsimp only
      exact (hg _).cut x.2 q hx.2 ((List.prefix_append_right_inj _).1 hp) hql
  len s c := Nat.le_trans ((hg _).len _ _) (hf.len _ _)
theorem mapC3 {α β : Type} {h : α → β} {k : β → α} {f : Rd α} {e : α → List UInt8} {ok : α → Prop} (hkh : ∀ x, ok x → k (h x) = x) (hf : Codec f e ok) : Codec (mapR h f) (fun y => e (k y)) (fun y => ok (k y) ∧ h (k y) = y) where
  back x t hx := by unfold mapR; rw [hf.back (k x) t hx.1]; dsimp only; rw [hx.2]
  canon s hs := by
    unfold mapR; dsimp only
    obtain ⟨h1, h2⟩ := hf.canon s hs
    rw [hkh _ h2]
    exact ⟨h1, h2, rfl⟩
  err s c hc := hf.err s c hc
  cut x p hx hp hl := hf.cut (k x) p hx.1 hp hl
  len s c := hf.len s c
/-- nothing is read -/
theorem stayC {α : Type} (z : α) : Codec (fun s c => (z, s, c) : Rd α) (fun _ => []) (fun x => x = z) where
  back x t hx := by rw [hx]; rfl
  canon s hs := ⟨rfl, rfl⟩
  err s c hc := ⟨rfl, rfl⟩
  cut x p hx hp hl := absurd hl (by simp)
  len s c := Nat.le_refl _
/-- so many times -/
def repR {α : Type} (f : Rd α) : Nat → Rd (List α)
  | 0 => fun s c => ([], s, c)
  | n + 1 => mapR (fun p : α × List α => p.1 :: p.2) (seqR f (repR f n))
theorem repC {α : Type} {f : Rd α} {e : α → List UInt8} {ok : α → Prop} (hf : Codec f e ok) : ∀ n, Codec (repR f n) (fun l => l.flatMap e) (fun l => l.length = n ∧ ∀ x ∈ l, ok x)
  | 0 => (stayC ([] : List α)).of rfl (fun x hx => ⟨List.eq_nil_of_length_eq_zero hx.1, by rw [List.eq_nil_of_length_eq_zero hx.1]; rfl⟩) (fun x hx => by rw [hx]; exact ⟨rfl, fun y hy => absurd hy List.not_mem_nil⟩)
  | n + 1 => by
    have g := seqC hf (repC hf n)
    refine ⟨fun l t hl => ?_, fun s hs => ?_, fun s c hc => g.err s c hc, fun l p hl hp hlt => ?_, fun s c => g.len s c⟩
    · cases l with
      | nil => exact absurd hl.1 (by simp)
      | cons a l =>
        have h1 := g.back (a, l) t ⟨hl.2 a List.mem_cons_self, by simpa using hl.1, fun x hx => hl.2 x (List.mem_cons_of_mem _ hx)⟩
        show mapR _ _ _ _ = _
        unfold mapR
        rw [show (a :: l).flatMap e ++ t = (e a ++ l.flatMap e) ++ t by simp]
        rw [h1]
    · obtain ⟨h1, h2, h3, h4⟩ := g.canon s hs
      refine ⟨h1.trans (by simp [repR, mapR]), ?_, ?_⟩
      · show (_ :: _).length = n + 1
        rw [List.length_cons]; exact congrArg (· + 1) h3
      · intro x hx
        rcases List.mem_cons.1 hx with rfl | hx
        · exact h2
        · exact h4 x hx
    · cases l with
      | nil => exact absurd hl.1 (by simp)
      | cons a l => exact g.cut (a, l) p ⟨hl.2 a List.mem_cons_self, by simpa using hl.1, fun x hx => hl.2 x (List.mem_cons_of_mem _ hx)⟩ (by simpa using hp) (by simpa using hlt)
/-- a count, then so many -/
def cntR {α : Type} (f : Rd α) (most : Int) : Rd (List α) := mapR (fun p : Int × List α => p.2) (depR (numRd most) fun n => repR f n.toNat)
theorem cntC {α : Type} {f : Rd α} {e : α → List UInt8} {ok : α → Prop} (hf : Codec f e ok) {most : Int} (h0 : 0 ≤ most) (h1 : most ≤ 9223372036854775807) : Codec (cntR f most) (listB e) (fun l => (l.length : Int) ≤ most ∧ ∀ x ∈ l, ok x) := by
  have g := depC (numC h0 h1) (fun n => repC hf n.toNat)
  refine (mapC3 (h := fun p : Int × List α => p.2) (k := fun l => ((l.length : Int), l)) (fun p hp => Prod.ext (by have := hp.2.1; have := hp.1.1; show (p.2.length : Int) = p.1; omega) rfl) g).of rfl (fun l hl => ⟨⟨⟨⟨by omega, hl.1⟩, ⟨by simp, hl.2⟩⟩, rfl⟩, by unfold listB numB; simp⟩) (fun l hl => ⟨hl.1.1.2, hl.1.2.2⟩)
end Go.AL

namespace Go.AL
open Go.RowKit Go.NumSpec
/-! A pod: SelLem6's Pod, whose node is the phase, whose ports are the restarts, whose x and y are the mark and the grace -/
def pod0 : Pod := ⟨0, 0, spc0, 0, [], 0, 0⟩
def podMk (p : (Int × (Nat × (Spc × Int))) × (List Int × (Int × Int))) : Pod := ⟨p.1.1, p.1.2.1, p.1.2.2.1, p.1.2.2.2, p.2.1, p.2.2.1, p.2.2.2⟩
def podUn (p : Pod) : (Int × (Nat × (Spc × Int))) × (List Int × (Int × Int)) := ((p.id, (p.ver, (p.spec, p.node))), (p.ports, (p.x, p.y)))
abbrev uidRd : Rd Int := numRd 1073741824
def podRd : Rd Pod := mapR podMk (depR (seqR uidRd (seqR bigRd (seqR spcRd (numRd 4)))) fun a => seqR (repR uidRd a.2.2.1.main.length) (seqR (numRd 2) (numRd 1000)))
def podB (p : Pod) : List UInt8 := (numB p.id ++ (putL p.ver ++ (spcB p.spec ++ numB p.node))) ++ (p.ports.flatMap numB ++ (numB p.x ++ numB p.y))
def PodOk (p : Pod) : Prop := ((0 ≤ p.id ∧ p.id ≤ 1073741824) ∧ (p.ver < 18446744073709551616 ∧ (SpcOk p.spec ∧ (0 ≤ p.node ∧ p.node ≤ 4)))) ∧ ((p.ports.length = p.spec.main.length ∧ ∀ n ∈ p.ports, 0 ≤ n ∧ n ≤ 1073741824) ∧ ((0 ≤ p.x ∧ p.x ≤ 2) ∧ (0 ≤ p.y ∧ p.y ≤ 1000)))
theorem podC : Codec podRd podB PodOk :=
  mapC (h := podMk) (k := podUn) (fun _ => rfl) (fun _ => rfl) (depC (seqC uC (seqC bigC (seqC spcC (numC (most := 4) (by decide) (by decide))))) fun a => seqC (repC uC a.2.2.1.main.length) (seqC (numC (most := 2) (by decide) (by decide)) (numC (most := 1000) (by decide) (by decide))))
/-! A reply -/
structure Rep where
  code : Int
  uid : Int
  id : Int
  rev : Nat
  data : List UInt8
  pods : List Pod
  use : List Tri
def rep0 : Rep := ⟨0, 0, 0, 0, [], [], []⟩
def repL (r : Rep) : List AV := [.int .i64 r.code, .int .i64 r.uid, .int .i64 r.id, .int .u64 (r.rev : Int), .S r.data, .sl (podsV r.pods), .sl (r.use.map resAV)]
def replyRd : Rd Rep := mapR (fun p : Int × (Int × (Int × (Nat × (List UInt8 × (List Pod × List Tri))))) => (⟨p.1, p.2.1, p.2.2.1, p.2.2.2.1, p.2.2.2.2.1, p.2.2.2.2.2.1, p.2.2.2.2.2.2⟩ : Rep)) (seqR (numRd 999) (seqR uidRd (seqR uidRd (seqR bigRd (seqR (textRd 32) (seqR (cntR podRd 16) (cntR triRd 4)))))))
def replyB (r : Rep) : List UInt8 := numB r.code ++ (numB r.uid ++ (numB r.id ++ (putL r.rev ++ (textB r.data ++ (listB podB r.pods ++ listB triB r.use)))))
def RepOk (r : Rep) : Prop := (0 ≤ r.code ∧ r.code ≤ 999) ∧ ((0 ≤ r.uid ∧ r.uid ≤ 1073741824) ∧ ((0 ≤ r.id ∧ r.id ≤ 1073741824) ∧ (r.rev < 18446744073709551616 ∧ ((r.data.length : Int) ≤ 32 ∧ (((r.pods.length : Int) ≤ 16 ∧ ∀ p ∈ r.pods, PodOk p) ∧ ((r.use.length : Int) ≤ 4 ∧ ∀ u ∈ r.use, TriOk u))))))
theorem replyC : Codec replyRd replyB RepOk :=
  mapC (k := fun r : Rep => (r.code, (r.uid, (r.id, (r.rev, (r.data, (r.pods, r.use))))))) (fun _ => rfl) (fun _ => rfl) (seqC (numC (most := 999) (by decide) (by decide)) (seqC uC (seqC uC (seqC bigC (seqC (textC (most := 32) (by decide) (by decide)) (seqC (cntC podC (by decide) (by decide)) (cntC triC (by decide) (by decide))))))))
/-! An event -/
structure Evt where
  kind : Int
  rev : Nat
  pod : Pod
def evt0 : Evt := ⟨0, 0, pod0⟩
def evtL (e : Evt) : List AV := .int .i64 e.kind :: .int .u64 (e.rev : Int) :: podL e.pod
def wholeB (k : Int) : Bool := decide (1 ≤ k ∧ k ≤ 3)
def restP (k : Int) : Rd Pod := if wholeB k = true then podRd else fun s c => (pod0, s, c)
def restPB (k : Int) (p : Pod) : List UInt8 := if wholeB k = true then podB p else []
def restPOk (k : Int) (p : Pod) : Prop := if wholeB k = true then PodOk p else p = pod0
theorem restPC (k : Int) : Codec (restP k) (restPB k) (restPOk k) := by
  unfold restP
  cases h : wholeB k with
  | true => exact podC.of (by simp) (fun x hx => by unfold restPOk at hx; unfold restPB; rw [h] at hx ⊢; exact ⟨by simpa using hx, by simp⟩) (fun x hx => by unfold restPOk; rw [h]; simpa using hx)
  | false => exact (stayC pod0).of (by simp) (fun x hx => by unfold restPOk at hx; unfold restPB; rw [h] at hx ⊢; exact ⟨by simpa using hx, by simp⟩) (fun x hx => by unfold restPOk; rw [h]; simpa using hx)
def evtRd : Rd Evt := mapR (fun p : (Int × Nat) × Pod => (⟨p.1.1, p.1.2, p.2⟩ : Evt)) (depR (seqR (numRd 5) bigRd) fun a => restP a.1)
def evtB (e : Evt) : List UInt8 := (numB e.kind ++ putL e.rev) ++ restPB e.kind e.pod
def EvtOk (e : Evt) : Prop := ((0 ≤ e.kind ∧ e.kind ≤ 5) ∧ e.rev < 18446744073709551616) ∧ restPOk e.kind e.pod
theorem evtC : Codec evtRd evtB EvtOk :=
  mapC (k := fun e : Evt => ((e.kind, e.rev), e.pod)) (fun _ => rfl) (fun _ => rfl) (depC (seqC (numC (most := 5) (by decide) (by decide)) bigC) fun a => restPC a.1)
/-! A message -/
structure Msg where
  kind : Int
  num : Int
  reply : Rep
  event : Evt
def msg0 : Msg := ⟨0, 0, rep0, evt0⟩
def msgL (m : Msg) : List AV := .int .i64 m.kind :: .int .i64 m.num :: (repL m.reply ++ evtL m.event)
def msgAV (m : Msg) : AV := .agg (msgL m)
def bodyR (k : Int) : Rd (Rep × Evt) := if k = 1 then mapR (fun r => (r, evt0)) replyRd else if k = 2 then mapR (fun e => (rep0, e)) evtRd else fun s c => ((rep0, evt0), s, c)
def bodyB (k : Int) (b : Rep × Evt) : List UInt8 := if k = 1 then replyB b.1 else if k = 2 then evtB b.2 else []
def BodyOk (k : Int) (b : Rep × Evt) : Prop := if k = 1 then RepOk b.1 ∧ b.2 = evt0 else if k = 2 then b.1 = rep0 ∧ EvtOk b.2 else b = (rep0, evt0)
theorem bodyC (k : Int) : Codec (bodyR k) (bodyB k) (BodyOk k) := by
  by_cases h1 : k = 1
  · subst h1
    exact (mapC2 (h := fun r => (r, evt0)) (k := fun b : Rep × Evt => b.1) (fun _ => rfl) replyC).of rfl (fun b hb => by
      obtain ⟨h2, h3⟩ : RepOk b.1 ∧ b.2 = evt0 := hb
      exact ⟨⟨h2, by rw [← h3]⟩, rfl⟩) (fun b hb => (⟨hb.1, (congrArg Prod.snd hb.2).symm⟩ : RepOk b.1 ∧ b.2 = evt0))
  · by_cases h2 : k = 2
    · subst h2
      exact (mapC2 (h := fun e => (rep0, e)) (k := fun b : Rep × Evt => b.2) (fun _ => rfl) evtC).of rfl (fun b hb => by
        obtain ⟨h2, h3⟩ : b.1 = rep0 ∧ EvtOk b.2 := hb
        exact ⟨⟨h3, by rw [← h2]⟩, rfl⟩) (fun b hb => (⟨(congrArg Prod.fst hb.2).symm, hb.1⟩ : b.1 = rep0 ∧ EvtOk b.2))
    · refine (stayC (rep0, evt0)).of (by unfold bodyR; rw [if_neg h1, if_neg h2]) (fun b hb => ?_) (fun b hb => ?_)
      · unfold BodyOk at hb; unfold bodyB
        rw [if_neg h1, if_neg h2] at hb ⊢; exact ⟨hb, rfl⟩
      · unfold BodyOk
        rw [if_neg h1, if_neg h2]; exact hb
def msgRd : Rd Msg := mapR (fun p : (Int × Int) × (Rep × Evt) => (⟨p.1.1, p.1.2, p.2.1, p.2.2⟩ : Msg)) (depR (seqR (numRd 2) uidRd) fun a => bodyR a.1)
def msgB (m : Msg) : List UInt8 := (numB m.kind ++ numB m.num) ++ bodyB m.kind (m.reply, m.event)
def MsgOk (m : Msg) : Prop := ((0 ≤ m.kind ∧ m.kind ≤ 2) ∧ (0 ≤ m.num ∧ m.num ≤ 1073741824)) ∧ BodyOk m.kind (m.reply, m.event)
theorem msgC : Codec msgRd msgB MsgOk :=
  mapC (k := fun m : Msg => ((m.kind, m.num), (m.reply, m.event))) (fun _ => rfl) (fun _ => rfl) (depC (seqC (numC (most := 2) (by decide) (by decide)) uC) fun a => bodyC a.1)
/-! What may be -/
def podMay (p : Pod) : Bool := p.ports.all (fun n => decide (0 ≤ n ∧ n ≤ 1073741824)) && (decide (1 ≤ p.id ∧ p.id ≤ 1073741824) && (checkE p.spec).isNone && decide (1 ≤ p.node ∧ p.node ≤ 4) && decide (p.ports.length = p.spec.main.length) && decide (0 ≤ p.x ∧ p.x ≤ 2) && decide (0 ≤ p.y ∧ p.y ≤ 1000))
theorem podMay_ok {p : Pod} (hv : p.ver < 18446744073709551616) (h : podMay p = true) : PodOk p ∧ checkE p.spec = none := by
  unfold podMay at h
  simp only [Bool.and_eq_true, decide_eq_true_eq, List.all_eq_true, Option.isNone_iff_eq_none] at h
  obtain ⟨h1, ⟨⟨⟨⟨h2, h3⟩, h4⟩, h5⟩, h6⟩, h7⟩ := h
  exact ⟨⟨⟨⟨by omega, h2.2⟩, hv, check_ok h3, ⟨by omega, h4.2⟩⟩, ⟨h5, h1⟩, h6, h7⟩, h3⟩
end Go.AL

namespace Go.AL
open Go.RowKit Go.NumSpec
def bareP (p : Pod) : Bool := decide (p.id = 0) && decide (p.ver = 0) && sameS p.spec spc0 && decide (p.node = 0) && decide ((p.ports.length : Int) = 0) && decide (p.x = 0) && decide (p.y = 0)
theorem bareP_iff {p : Pod} : bareP p = true ↔ p = pod0 := by
  unfold bareP
  simp only [Bool.and_eq_true, decide_eq_true_eq, sameS_iff]
  constructor
  · rintro ⟨⟨⟨⟨⟨⟨h1, h2⟩, h3⟩, h4⟩, h5⟩, h6⟩, h7⟩
    cases p
    simp only at *
    have e5 := List.eq_nil_of_length_eq_zero (Int.ofNat_inj.1 h5)
    subst h1 h2 h3 h4 e5 h6 h7; rfl
  · intro h; subst h; simp [pod0]
def eventMay (e : Evt) : Bool := if wholeB e.kind = true then podMay e.pod else (decide (e.kind = 4) || decide (e.kind = 5)) && bareP e.pod
def resMay (r : Tri) : Bool := decide (0 ≤ r.1 ∧ r.1 ≤ 1099511627776) && decide (0 ≤ r.2.1 ∧ r.2.1 ≤ 1099511627776) && decide (0 ≤ r.2.2 ∧ r.2.2 ≤ 1099511627776)
def replyMay (r : Rep) : Bool := decide (0 ≤ r.code ∧ r.code ≤ 999) && decide (0 ≤ r.uid ∧ r.uid ≤ 1073741824) && decide (0 ≤ r.id ∧ r.id ≤ 1073741824) && decide ((r.data.length : Int) ≤ 32) && decide ((r.pods.length : Int) ≤ 16) && decide ((r.use.length : Int) ≤ 4) && r.pods.all podMay && r.use.all resMay
def silentB (r : Rep) : Bool := decide (r.code = 0) && decide (r.uid = 0) && decide (r.id = 0) && decide (r.rev = 0) && decide (r.data = []) && decide ((r.pods.length : Int) = 0) && decide ((r.use.length : Int) = 0)
theorem silent_iff {r : Rep} : silentB r = true ↔ r = rep0 := by
  unfold silentB
  simp only [Bool.and_eq_true, decide_eq_true_eq]
  constructor
  · rintro ⟨⟨⟨⟨⟨⟨h1, h2⟩, h3⟩, h4⟩, h5⟩, h6⟩, h7⟩
    cases r
    simp only at *
    have e6 := List.eq_nil_of_length_eq_zero (Int.ofNat_inj.1 h6)
    have e7 := List.eq_nil_of_length_eq_zero (Int.ofNat_inj.1 h7)
    subst h1 h2 h3 h4 h5 e6 e7; rfl
  · intro h; subst h; simp [rep0]
def msgMay (m : Msg) : Bool := decide (1 ≤ m.num ∧ m.num ≤ 1073741824) && (if m.kind = 1 then replyMay m.reply && decide (m.event.kind = 0) && decide (m.event.rev = 0) && bareP m.event.pod else if m.kind = 2 then silentB m.reply && eventMay m.event else false)
def checkM (m : Msg) : Int := if msgMay m = true then 0 else 4
/-- the revisions of a message are those of Go -/
def PodU (p : Pod) : Prop := p.ver < 18446744073709551616
def MsgU (m : Msg) : Prop := m.reply.rev < 18446744073709551616 ∧ (∀ p ∈ m.reply.pods, PodU p) ∧ m.event.rev < 18446744073709551616 ∧ PodU m.event.pod
theorem resMay_ok {r : Tri} (h : resMay r = true) : TriOk r := by
  unfold resMay at h
  simp only [Bool.and_eq_true, decide_eq_true_eq] at h
  exact ⟨h.1.1, h.1.2, h.2⟩
theorem replyMay_ok {r : Rep} (hv : r.rev < 18446744073709551616) (hp : ∀ p ∈ r.pods, PodU p) (h : replyMay r = true) : RepOk r := by
  unfold replyMay at h
  simp only [Bool.and_eq_true, decide_eq_true_eq, List.all_eq_true] at h
  obtain ⟨⟨⟨⟨⟨⟨⟨h1, h2⟩, h3⟩, h4⟩, h5⟩, h6⟩, h7⟩, h8⟩ := h
  exact ⟨h1, h2, h3, hv, h4, ⟨h5, fun p hm => (podMay_ok (hp p hm) (h7 p hm)).1⟩, ⟨h6, fun u hu => resMay_ok (h8 u hu)⟩⟩
theorem eventMay_ok {e : Evt} (hv : e.rev < 18446744073709551616) (hp : PodU e.pod) (h : eventMay e = true) : EvtOk e := by
  unfold eventMay at h
  split at h
  · rename_i hw
    have hk : 1 ≤ e.kind ∧ e.kind ≤ 3 := by unfold wholeB at hw; exact of_decide_eq_true hw
    exact ⟨⟨⟨by omega, by omega⟩, hv⟩, by unfold restPOk; rw [if_pos hw]; exact (podMay_ok hp h).1⟩
  · rename_i hw
    simp only [Bool.and_eq_true, Bool.or_eq_true, decide_eq_true_eq] at h
    refine ⟨⟨⟨by rcases h.1 with h | h <;> omega, by rcases h.1 with h | h <;> omega⟩, hv⟩, ?_⟩
    unfold restPOk; rw [if_neg hw]; exact bareP_iff.1 h.2
theorem evt_zero {e : Evt} (h1 : e.kind = 0) (h2 : e.rev = 0) (h3 : bareP e.pod = true) : e = evt0 := by
  have h4 := bareP_iff.1 h3
  cases e; simp only at *; subst h1 h2 h4; rfl
theorem msgMay_ok {m : Msg} (hu : MsgU m) (h : msgMay m = true) : MsgOk m ∧ (m.kind = 1 ∨ m.kind = 2) := by
  unfold msgMay at h
  rw [Bool.and_eq_true, decide_eq_true_eq] at h
  obtain ⟨h1, h⟩ := h
  by_cases hk : m.kind = 1
  · rw [if_pos hk] at h
    simp only [Bool.and_eq_true, decide_eq_true_eq] at h
    refine ⟨⟨⟨⟨by omega, by omega⟩, ⟨by omega, h1.2⟩⟩, ?_⟩, .inl hk⟩
    unfold BodyOk; rw [if_pos hk]
    exact ⟨replyMay_ok hu.1 hu.2.1 h.1.1.1, evt_zero h.1.1.2 h.1.2 h.2⟩
  · rw [if_neg hk] at h
    by_cases hk2 : m.kind = 2
    · rw [if_pos hk2, Bool.and_eq_true] at h
      refine ⟨⟨⟨⟨by omega, by omega⟩, ⟨by omega, h1.2⟩⟩, ?_⟩, .inr hk2⟩
      unfold BodyOk; rw [if_neg hk, if_pos hk2]
      exact ⟨silent_iff.1 h.1, eventMay_ok hu.2.2.1 hu.2.2.2 h.2⟩
    · rw [if_neg hk2] at h; cases h
theorem checkM_zero {m : Msg} : checkM m = 0 ↔ msgMay m = true := by
  unfold checkM; split
  · rename_i h; simp [h]
  · rename_i h; simp [h]
/-- the message of bytes, and the code -/
def ofMC (s : List UInt8) : Int := if endR (msgRd s 0).2.1 (msgRd s 0).2.2 = 0 then checkM (msgRd s 0).1 else endR (msgRd s 0).2.1 (msgRd s 0).2.2
def ofM (s : List UInt8) : Msg := if ofMC s = 0 then (msgRd s 0).1 else msg0
theorem ofM_bytes {m : Msg} (hu : MsgU m) (h : msgMay m = true) : ofMC (msgB m) = 0 ∧ ofM (msgB m) = m := by
  have h1 := msgC.back m [] (msgMay_ok hu h).1
  rw [List.append_nil] at h1
  have h2 : ofMC (msgB m) = 0 := by
    unfold ofMC; rw [h1]; dsimp only
    rw [show endR [] 0 = 0 from rfl, if_pos rfl]; exact checkM_zero.2 h
  exact ⟨h2, by unfold ofM; rw [if_pos h2, h1]⟩
end Go.AL

namespace Go.AL
open Go.RowKit Go.NumSpec
section
variable {α β : Type} {f : Rd α}
end
end Go.AL

namespace Go.AL
open Go.RowKit Go.NumSpec
theorem Codec.stays {α : Type} {f : Rd α} {e : α → List UInt8} {ok : α → Prop} (h : Codec f e ok) : ∀ s c, c ≠ 0 → (f s c).2 = (s, c) := fun s c hc => Prod.ext (h.err s c hc).1 (h.err s c hc).2
/-! Likeness -/
def samePd (a b : Pod) : Bool := decide (a.id = b.id) && decide (a.ver = b.ver) && sameS a.spec b.spec && decide (a.node = b.node) && decide (a.ports = b.ports) && decide (a.x = b.x) && decide (a.y = b.y)
theorem samePd_iff {a b : Pod} : samePd a b = true ↔ a = b := by
  cases a; cases b
  simp only [samePd, Bool.and_eq_true, decide_eq_true_eq, sameS_iff, Pod.mk.injEq]
  constructor
  · rintro ⟨⟨⟨⟨⟨⟨h1, h2⟩, h3⟩, h4⟩, h5⟩, h6⟩, h7⟩; exact ⟨h1, h2, h3, h4, h5, h6, h7⟩
  · rintro ⟨h1, h2, h3, h4, h5, h6, h7⟩; exact ⟨⟨⟨⟨⟨⟨h1, h2⟩, h3⟩, h4⟩, h5⟩, h6⟩, h7⟩
end Go.AL

namespace Go.AL
open Go.RowKit Go.NumSpec
def lightPd (p : Pod) : Bool := lightS p.spec && decide ((p.ports.length : Int) ≤ 20)
def lightM (m : Msg) : Bool := (decide ((m.reply.data.length : Int) ≤ 300) && decide ((m.reply.pods.length : Int) ≤ 20) && decide ((m.reply.use.length : Int) ≤ 20) && lightPd m.event.pod) && m.reply.pods.all lightPd
/-- a pod that the walks take -/
def ShortP (p : Pod) : Prop := lightS p.spec = true ∧ p.ports.length ≤ 1000
def ShortRp (r : Rep) : Prop := r.data.length ≤ 1000 ∧ r.pods.length ≤ 1000 ∧ r.use.length ≤ 1000 ∧ ∀ p ∈ r.pods, ShortP p
def ShortM (m : Msg) : Prop := ShortRp m.reply ∧ ShortP m.event.pod
theorem lightPd_short {p : Pod} (h : lightPd p = true) : ShortP p := by
  unfold lightPd at h
  rw [Bool.and_eq_true, decide_eq_true_eq] at h
  exact ⟨h.1, by have := h.2; omega⟩
theorem lightM_short {m : Msg} (h : lightM m = true) : ShortM m := by
  unfold lightM at h
  simp only [Bool.and_eq_true, decide_eq_true_eq, List.all_eq_true] at h
  obtain ⟨⟨⟨⟨h1, h2⟩, h3⟩, h4⟩, h5⟩ := h
  exact ⟨⟨by omega, by omega, by omega, fun p hp => lightPd_short (h5 p hp)⟩, lightPd_short h4⟩
theorem pod0_short : ShortP pod0 := ⟨spc0_light, Nat.zero_le _⟩
theorem rep0_short : ShortRp rep0 := ⟨Nat.zero_le _, Nat.zero_le _, Nat.zero_le _, fun p hp => absurd hp List.not_mem_nil⟩
theorem msg0_short : ShortM msg0 := ⟨rep0_short, pod0_short⟩
theorem repR_len {α : Type} (f : Rd α) : ∀ (n : Nat) (s : List UInt8) (c : Int), (repR f n s c).1.length = n
  | 0, _, _ => rfl
  | n + 1, s, c => congrArg (· + 1) (repR_len f n _ _)
theorem repR_all {α : Type} {f : Rd α} {p : α → Prop} (h : ∀ s c, p (f s c).1) : ∀ (n : Nat) (s : List UInt8) (c : Int), ∀ x ∈ (repR f n s c).1, p x
  | 0, _, _, x, hx => absurd hx List.not_mem_nil
  | n + 1, s, c, x, hx => by
    have hx' : x ∈ (f s c).1 :: (repR f n (f s c).2.1 (f s c).2.2).1 := hx
    rcases List.mem_cons.1 hx' with rfl | hx'
    · exact h s c
    · exact repR_all h n _ _ x hx'
theorem cntR_few {α : Type} {f : Rd α} {most : Int} (h0 : 0 ≤ most) (s : List UInt8) (c : Int) : ((cntR f most s c).1.length : Int) ≤ most := by
  have h1 : (cntR f most s c).1.length = (numR s c most).1.toNat := repR_len f _ _ _
  have h2 := numR_nonneg s c most
  have h3 := numR_le (s := s) (c := c) (most := most)
  rw [h1]; omega
theorem podRd_short (s : List UInt8) (c : Int) : ShortP (podRd s c).1 := by
  have hl : lightS (podRd s c).1.spec = true := spcRd_light _ _
  refine ⟨hl, ?_⟩
  have h1 : (podRd s c).1.ports.length = (podRd s c).1.spec.main.length := repR_len _ _ _ _
  rw [h1]
  have h2 := (light_out hl).1.2.2.2
  omega
theorem replyRd_short (s : List UInt8) (c : Int) : ShortRp (replyRd s c).1 := by
  have h1 := fun s c => wtextR_short s c (most := 32) (by decide)
  have h2 := fun s c => cntR_few (f := podRd) (most := 16) (by decide) s c
  have h3 := fun s c => cntR_few (f := triRd) (most := 4) (by decide) s c
  refine ⟨?_, ?_, ?_, ?_⟩
  · exact Nat.le_trans (Int.ofNat_le.1 (h1 _ _)) (by decide)
  · exact Nat.le_trans (Int.ofNat_le.1 (h2 _ _)) (by decide)
  · exact Nat.le_trans (Int.ofNat_le.1 (h3 _ _)) (by decide)
  · exact repR_all (fun s c => podRd_short s c) _ _ _
theorem evtRd_short (s : List UInt8) (c : Int) : ShortP (evtRd s c).1.pod := by
  show ShortP (restP _ _ _).1
  unfold restP
  split
  · exact podRd_short _ _
  · exact pod0_short
theorem msgRd_short (s : List UInt8) (c : Int) : ShortM (msgRd s c).1 := by
  show ShortRp (bodyR _ _ _).1.1 ∧ ShortP (bodyR _ _ _).1.2.pod
  unfold bodyR
  split
  · exact ⟨replyRd_short _ _, pod0_short⟩
  · split
    · exact ⟨rep0_short, evtRd_short _ _⟩
    · exact ⟨rep0_short, pod0_short⟩
theorem pod0_u : PodU pod0 := by unfold PodU pod0; decide
end Go.AL

namespace Go.AL
open Go.RowKit Go.NumSpec
abbrev v0 : List UInt8 × Int × Int := ([], 0, 0)
structure Ent where
  verb : Int
  n : List Int
  data : List UInt8
end Go.AL

namespace Go.AL
open Go.RowKit Go.NumSpec
/-! The verb of a word -/
/-! Digits -/
/-! Lines -/
/-! Texts -/
end Go.AL

namespace Go.AL
open Go.RowKit Go.NumSpec
/-! Entries' texts -/
end Go.AL

namespace Go.AL
open Go.RowKit Go.NumSpec
theorem joinTail_snoc (c : List UInt8) (p : List UInt8) (l : List (List UInt8)) : Lib.joinTail c (l ++ [p]) = Lib.joinTail c l ++ (c ++ p) := by simp [Lib.joinTail]
theorem join_snoc {c p : List UInt8} {l : List (List UInt8)} (h : l ≠ []) : Lib.join (l ++ [p]) c = (Lib.join l c ++ c) ++ p := by
  cases l with
  | nil => exact absurd rfl h
  | cons q l => rw [List.cons_append, Lib.join_cons, Lib.join_cons, joinTail_snoc]; simp
end Go.AL

namespace Go.AL
open Go.RowKit Go.NumSpec
/-! The line -/
def saidL (l : List (List UInt8)) (name : List UInt8) (n : Int) : List (List UInt8) := if n = 0 then l else l ++ [name ++ [61] ++ textL n]
abbrev replyN : List UInt8 := [114, 101, 112, 108, 121]
abbrev eventN : List UInt8 := [101, 118, 101, 110, 116]
def wordsE : List (List UInt8) := [[45], [97, 100, 100], [109, 111, 100], [100, 101, 108], [109, 97, 114, 107], [111, 118, 101, 114]]
def wordE (k : Int) : List UInt8 := wordsE.getD (if k < 1 ∨ 6 ≤ k then 0 else k.toNat) []
def revL (l : List (List UInt8)) (n : Nat) : List (List UInt8) := if 0 < n then l ++ [[114, 101, 118, 61] ++ digL n] else l
def dataL (l : List (List UInt8)) (d : List UInt8) : List (List UInt8) := if d = [] then l else l ++ [[100, 97, 116, 97, 61] ++ d]
def replyLn (num : Int) (r : Rep) : List (List UInt8) := saidL (saidL (dataL (revL (saidL (saidL [replyN, textL num, textL r.code] [117, 105, 100] r.uid) [105, 100] r.id) r.rev) r.data) [112, 111, 100, 115] (r.pods.length : Int)) [117, 115, 101] (r.use.length : Int)
def eventLn (num : Int) (e : Evt) : List (List UInt8) := [eventN, textL num, wordE e.kind, digL e.rev] ++ (if wholeB e.kind = true then [e.pod.spec.name] else [])
def lineM (m : Msg) : List UInt8 := if m.kind = 1 then Lib.join (replyLn m.num m.reply) [32] else if m.kind = 2 then Lib.join (eventLn m.num m.event) [32] else []
/-! The document's line: texts one behind another -/
def saidS (s name : List UInt8) (n : Int) : List UInt8 := if n = 0 then s else s ++ ([32] ++ (name ++ [61])) ++ textL n
theorem said_ne {l : List (List UInt8)} (h : l ≠ []) (name : List UInt8) (n : Int) : saidL l name n ≠ [] := by unfold saidL; split <;> simp [h]
theorem rev_ne {l : List (List UInt8)} (h : l ≠ []) (n : Nat) : revL l n ≠ [] := by unfold revL; split <;> simp [h]
theorem data_ne {l : List (List UInt8)} (h : l ≠ []) (d : List UInt8) : dataL l d ≠ [] := by unfold dataL; split <;> simp [h]
theorem said_join {l : List (List UInt8)} (h : l ≠ []) (name : List UInt8) (n : Int) : Lib.join (saidL l name n) [32] = saidS (Lib.join l [32]) name n := by
  unfold saidL saidS; split
  · rfl
  · rw [join_snoc h]; simp
theorem rev_join {l : List (List UInt8)} (h : l ≠ []) (n : Nat) : Lib.join (revL l n) [32] = if n = 0 then Lib.join l [32] else Lib.join l [32] ++ [32, 114, 101, 118, 61] ++ digL n := by
  unfold revL; split
  · rw [if_neg (by omega), join_snoc h]; simp
  · rw [if_pos (by omega)]
theorem data_join {l : List (List UInt8)} (h : l ≠ []) (d : List UInt8) : Lib.join (dataL l d) [32] = if d = [] then Lib.join l [32] else Lib.join l [32] ++ [32, 100, 97, 116, 97, 61] ++ d := by
  unfold dataL; split
  · rfl
  · rw [join_snoc h]; simp
end Go.AL

namespace Go.AL
open Go.RowKit Go.NumSpec
def revS (s : List UInt8) (n : Nat) : List UInt8 := if n = 0 then s else s ++ [32, 114, 101, 118, 61] ++ digL n
def dataS (s d : List UInt8) : List UInt8 := if d = [] then s else s ++ [32, 100, 97, 116, 97, 61] ++ d
def replyS (num : Int) (r : Rep) : List UInt8 := saidS (saidS (dataS (revS (saidS (saidS (((replyN ++ [32]) ++ textL num) ++ [32] ++ textL r.code) [117, 105, 100] r.uid) [105, 100] r.id) r.rev) r.data) [112, 111, 100, 115] (r.pods.length : Int)) [117, 115, 101] (r.use.length : Int)
theorem reply_line (num : Int) (r : Rep) : Lib.join (replyLn num r) [32] = replyS num r := by
  unfold replyLn replyS
  have h0 : ([replyN, textL num, textL r.code] : List (List UInt8)) ≠ [] := by simp
  have h1 := said_ne h0 [117, 105, 100] r.uid
  have h2 := said_ne h1 [105, 100] r.id
  have h3 := rev_ne h2 r.rev
  have h4 := data_ne h3 r.data
  have h5 := said_ne h4 [112, 111, 100, 115] (r.pods.length : Int)
  rw [said_join h5, said_join h4, data_join h3, rev_join h2, said_join h1, said_join h0]
  have e0 : Lib.join [replyN, textL num, textL r.code] [32] = ((replyN ++ [32]) ++ textL num) ++ [32] ++ textL r.code := by
    rw [Lib.join_cons]; simp [Lib.joinTail]
  rw [e0]; rfl
def eventS (num : Int) (e : Evt) : List UInt8 := ((((eventN ++ [32]) ++ textL num) ++ [32] ++ wordE e.kind) ++ [32] ++ digL e.rev) ++ (if wholeB e.kind = true then [32] ++ e.pod.spec.name else [])
theorem event_line (num : Int) (e : Evt) : Lib.join (eventLn num e) [32] = eventS num e := by
  unfold eventLn eventS
  split
  · rw [join_snoc (by simp), Lib.join_cons]; simp [Lib.joinTail]
  · rw [List.append_nil, Lib.join_cons]; simp [Lib.joinTail]
/-! The document's check of a pod -/
def refPodB (p : Pod) : Bool := (decide (1 ≤ p.id ∧ p.id ≤ 1073741824) && (checkE p.spec).isNone && decide (1 ≤ p.node ∧ p.node ≤ 4) && decide (p.ports.length = p.spec.main.length) && decide (0 ≤ p.x ∧ p.x ≤ 2) && decide (0 ≤ p.y ∧ p.y ≤ 1000)) && p.ports.all (fun n => decide (0 ≤ n ∧ n ≤ 1073741824))
theorem refPod_eq (p : Pod) : refPodB p = podMay p := by unfold refPodB podMay; rw [Bool.and_comm]
end Go.AL

namespace Go.AL
open Go.RowKit Go.NumSpec
def idxB {α : Type} (f : α → Bool) (l : List α) : Int := if l.any f then (l.findIdx f : Int) else -1
theorem idxB_hit {α : Type} {f : α → Bool} {l : List α} {i : Nat} (hi : i < l.length) (h : f l[i] = true) (hn : ∀ j (hj : j < l.length), j < i → f l[j] = false) : idxB f l = i := by
  have h1 : l.any f = true := List.any_eq_true.2 ⟨_, List.getElem_mem hi, h⟩
  have h2 : l.findIdx f = i := by
    have h3 : l.findIdx f ≤ i := by
      rcases Nat.lt_or_ge i (l.findIdx f) with h4 | h4
      · have := List.not_of_lt_findIdx h4
        rw [h] at this; simp at this
      · exact h4
    rcases Nat.lt_or_ge (l.findIdx f) i with h4 | h4
    · have h5 : l.findIdx f < l.length := by omega
      have h6 := hn _ h5 h4
      have h7 : f (l[l.findIdx f]'h5) = true := List.findIdx_getElem
      rw [h6] at h7; cases h7
    · omega
  unfold idxB; rw [if_pos h1, h2]
theorem idxB_none {α : Type} {f : α → Bool} {l : List α} (hn : ∀ j (hj : j < l.length), f l[j] = false) : idxB f l = -1 := by
  have h1 : l.any f = false := List.any_eq_false.2 fun x hx => by
    obtain ⟨j, hj, rfl⟩ := List.getElem_of_mem hx
    rw [hn j hj]; simp
  unfold idxB; rw [h1]; rfl
theorem idxB_ge {α : Type} (f : α → Bool) (l : List α) : decide (0 ≤ idxB f l) = l.any f := by
  unfold idxB
  cases l.any f with
  | true => exact decide_eq_true (by rw [if_pos rfl]; omega)
  | false => exact decide_eq_false (by rw [if_neg (by decide)]; decide)
theorem not_any {α : Type} (f : α → Bool) (l : List α) : (!l.any fun x => !f x) = l.all f := by
  rw [Bool.eq_iff_iff]; simp
end Go.AL

namespace Go.AL
open Go.RowKit Go.NumSpec
theorem podB_assoc (p : Pod) : ((((((numB p.id ++ putL p.ver) ++ spcB p.spec) ++ numB p.node) ++ p.ports.flatMap numB) ++ numB p.x) ++ numB p.y) = podB p := by simp [podB]
theorem podB_len {p : Pod} (hp : PodOk p) (hk : checkE p.spec = none) : (podB p).length ≤ 21000 := by
  obtain ⟨⟨hp1, hp2, hp3, hp4⟩, ⟨hp5, hp6⟩, hp7, hp8⟩ := hp
  obtain ⟨_, _, _, hk4, _⟩ := check_ok hk
  have hk41 := hk4.1
  have n1 := numB_len (n := p.id) (by omega)
  have n2 := putL_few p.ver hp2
  have n3 := spcB_len hk
  have n4 := numB_len (n := p.node) (by omega)
  have n5 := numB_len (n := p.x) (by omega)
  have n6 := numB_len (n := p.y) (by omega)
  have n7 := flatB_len (e := numB) (B := 10) (l := p.ports) fun n hn => numB_len (by have := (hp6 n hn).2; omega)
  rw [← podB_assoc]
  simp only [List.length_append]
  omega
theorem triB_app (a : List UInt8) (r : Tri) : ((a ++ numB r.1) ++ numB r.2.1) ++ numB r.2.2 = a ++ triB r := by simp [triB]
theorem replyB_assoc (r : Rep) : (((((((numB r.code ++ numB r.uid) ++ numB r.id) ++ putL r.rev) ++ textB r.data) ++ numB (r.pods.length : Int)) ++ r.pods.flatMap podB) ++ numB (r.use.length : Int)) ++ r.use.flatMap triB = replyB r := by simp [replyB, listB, numB]
theorem replyMay_check {r : Rep} (h : replyMay r = true) : ∀ p ∈ r.pods, checkE p.spec = none := by
  intro p hp
  unfold replyMay at h
  simp only [Bool.and_eq_true, List.all_eq_true] at h
  have h2 := h.1.2 p hp
  unfold podMay at h2
  simp only [Bool.and_eq_true, Option.isNone_iff_eq_none] at h2
  exact h2.2.1.1.1.1.2
theorem msgB_reply {m : Msg} (h : m.kind = 1) : (numB m.kind ++ numB m.num) ++ replyB m.reply = msgB m := by unfold msgB bodyB; rw [if_pos h]
theorem msgB_whole {m : Msg} (h : m.kind = 2) (hw : wholeB m.event.kind = true) : ((((numB m.kind ++ numB m.num) ++ numB m.event.kind) ++ putL m.event.rev) ++ podB m.event.pod) = msgB m := by
  unfold msgB bodyB evtB restPB; rw [if_neg (by omega), if_pos h, if_pos hw]; simp
theorem msgB_mark {m : Msg} (h : m.kind = 2) (hw : ¬ wholeB m.event.kind = true) : (((numB m.kind ++ numB m.num) ++ numB m.event.kind) ++ putL m.event.rev) = msgB m := by
  unfold msgB bodyB evtB restPB; rw [if_neg (by omega), if_pos h, if_neg hw]; simp
theorem msg_reply {m : Msg} (hu : MsgU m) (h : msgMay m = true) (hk : m.kind = 1) : RepOk m.reply ∧ ∀ p ∈ m.reply.pods, checkE p.spec = none := by
  unfold msgMay at h
  rw [if_pos hk] at h
  simp only [Bool.and_eq_true] at h
  exact ⟨replyMay_ok hu.1 hu.2.1 h.2.1.1.1, replyMay_check h.2.1.1.1⟩
theorem msg_event {m : Msg} (hu : MsgU m) (h : msgMay m = true) (hk : m.kind = 2) : (0 ≤ m.event.kind ∧ m.event.kind ≤ 5) ∧ m.event.rev < 18446744073709551616 ∧ (wholeB m.event.kind = true → PodOk m.event.pod ∧ checkE m.event.pod.spec = none) := by
  unfold msgMay at h
  rw [if_neg (by omega), if_pos hk] at h
  simp only [Bool.and_eq_true] at h
  have h2 := eventMay_ok hu.2.2.1 hu.2.2.2 h.2.2
  refine ⟨h2.1.1, h2.1.2, fun hw => ?_⟩
  have h3 := h.2.2
  unfold eventMay at h3
  rw [if_pos hw] at h3
  exact podMay_ok hu.2.2.2 h3
theorem msg_kinds {m : Msg} (hu : MsgU m) (h : checkM m = 0) : msgMay m = true ∧ (1 ≤ m.kind ∧ m.kind ≤ 2) ∧ (0 ≤ m.num ∧ m.num ≤ 1073741824) := by
  have h1 := checkM_zero.1 h
  obtain ⟨h2, h3⟩ := msgMay_ok hu h1
  exact ⟨h1, by omega, h2.1.2⟩
/-- one more time -/
theorem repR_snoc {α : Type} (f : Rd α) : ∀ (n : Nat) (s : List UInt8) (c : Int), repR f (n + 1) s c = ((repR f n s c).1 ++ [(f (repR f n s c).2.1 (repR f n s c).2.2).1], (f (repR f n s c).2.1 (repR f n s c).2.2).2.1, (f (repR f n s c).2.1 (repR f n s c).2.2).2.2)
  | 0, s, c => rfl
  | n + 1, s, c => by
    have h := repR_snoc f n (f s c).2.1 (f s c).2.2
    show mapR _ (seqR f (repR f (n + 1))) s c = _
    unfold mapR seqR
    dsimp only
    rw [h]
    rfl
end Go.AL

namespace Go.AL
open Go.RowKit Go.NumSpec
section
variable {s : List UInt8} {r1 r2 : Int × List UInt8 × Int}
theorem msgRd_body (h1 : numR s 0 2 = r1) (h2 : numR r1.2.1 r1.2.2 1073741824 = r2) : msgRd s 0 = (⟨r1.1, r2.1, (bodyR r1.1 r2.2.1 r2.2.2).1.1, (bodyR r1.1 r2.2.1 r2.2.2).1.2⟩, (bodyR r1.1 r2.2.1 r2.2.2).2.1, (bodyR r1.1 r2.2.1 r2.2.2).2.2) := by
  subst h1 h2; rfl
theorem msgRd_reply (h1 : numR s 0 2 = r1) (h2 : numR r1.2.1 r1.2.2 1073741824 = r2) (hk : r1.1 = 1) : msgRd s 0 = (⟨r1.1, r2.1, (replyRd r2.2.1 r2.2.2).1, evt0⟩, (replyRd r2.2.1 r2.2.2).2.1, (replyRd r2.2.1 r2.2.2).2.2) := by
  rw [msgRd_body h1 h2]; unfold bodyR; rw [if_pos hk]; rfl
theorem msgRd_none (h1 : numR s 0 2 = r1) (h2 : numR r1.2.1 r1.2.2 1073741824 = r2) (hk : ¬ r1.1 = 1) (hk2 : ¬ r1.1 = 2) : msgRd s 0 = (⟨r1.1, r2.1, rep0, evt0⟩, r2.2.1, r2.2.2) := by
  rw [msgRd_body h1 h2]; unfold bodyR; rw [if_neg hk, if_neg hk2]
theorem msgRd_whole {r3 : Int × List UInt8 × Int} {r4 : Nat × List UInt8 × Int} (h1 : numR s 0 2 = r1) (h2 : numR r1.2.1 r1.2.2 1073741824 = r2) (hk : r1.1 = 2) (h3 : numR r2.2.1 r2.2.2 5 = r3) (h4 : bigR r3.2.1 r3.2.2 = r4) (hw : wholeB r3.1 = true) :
    msgRd s 0 = (⟨r1.1, r2.1, rep0, ⟨r3.1, r4.1, (podRd r4.2.1 r4.2.2).1⟩⟩, (podRd r4.2.1 r4.2.2).2.1, (podRd r4.2.1 r4.2.2).2.2) := by
  have e : evtRd r2.2.1 r2.2.2 = (⟨r3.1, r4.1, (podRd r4.2.1 r4.2.2).1⟩, (podRd r4.2.1 r4.2.2).2.1, (podRd r4.2.1 r4.2.2).2.2) := by
    have e2 : restP (numR r2.2.1 r2.2.2 5).1 = podRd := by unfold restP; rw [h3, if_pos hw]
    subst h3 h4
    show mapR _ (depR _ _) _ _ = _
    unfold mapR depR
    dsimp only
    show (Evt.mk _ _ (restP (numR r2.2.1 r2.2.2 5).1 _ _).1, (restP (numR r2.2.1 r2.2.2 5).1 _ _).2.1, (restP (numR r2.2.1 r2.2.2 5).1 _ _).2.2) = _
    rw [e2]; rfl
  rw [msgRd_body h1 h2]; unfold bodyR; rw [if_neg (by omega), if_pos hk]
  show (Msg.mk _ _ rep0 (evtRd r2.2.1 r2.2.2).1, (evtRd r2.2.1 r2.2.2).2.1, (evtRd r2.2.1 r2.2.2).2.2) = _
  rw [e]
theorem msgRd_mark {r3 : Int × List UInt8 × Int} {r4 : Nat × List UInt8 × Int} (h1 : numR s 0 2 = r1) (h2 : numR r1.2.1 r1.2.2 1073741824 = r2) (hk : r1.1 = 2) (h3 : numR r2.2.1 r2.2.2 5 = r3) (h4 : bigR r3.2.1 r3.2.2 = r4) (hw : ¬ wholeB r3.1 = true) :
    msgRd s 0 = (⟨r1.1, r2.1, rep0, ⟨r3.1, r4.1, pod0⟩⟩, r4.2.1, r4.2.2) := by
  have e : evtRd r2.2.1 r2.2.2 = (⟨r3.1, r4.1, pod0⟩, r4.2.1, r4.2.2) := by
    have e2 : restP (numR r2.2.1 r2.2.2 5).1 = fun s c => (pod0, s, c) := by unfold restP; rw [h3, if_neg hw]
    subst h3 h4
    show (Evt.mk _ _ (restP (numR r2.2.1 r2.2.2 5).1 _ _).1, (restP (numR r2.2.1 r2.2.2 5).1 _ _).2.1, (restP (numR r2.2.1 r2.2.2 5).1 _ _).2.2) = _
    rw [e2]; rfl
  rw [msgRd_body h1 h2]; unfold bodyR; rw [if_neg (by omega), if_pos hk]
  show (Msg.mk _ _ rep0 (evtRd r2.2.1 r2.2.2).1, (evtRd r2.2.1 r2.2.2).2.1, (evtRd r2.2.1 r2.2.2).2.2) = _
  rw [e]
end
theorem ofMC_end {s : List UInt8} (h : endR (msgRd s 0).2.1 (msgRd s 0).2.2 = 0) : ofMC s = checkM (msgRd s 0).1 := if_pos h
theorem ofMC_bad {s : List UInt8} (h : ¬ endR (msgRd s 0).2.1 (msgRd s 0).2.2 = 0) : ofMC s = endR (msgRd s 0).2.1 (msgRd s 0).2.2 := if_neg h
theorem ofM_bad {s : List UInt8} (h : ¬ ofMC s = 0) : ofM s = msg0 := if_neg h
theorem ofM_good {s : List UInt8} (h : ofMC s = 0) : ofM s = (msgRd s 0).1 := if_pos h
end Go.AL

namespace Go.AL
open Go.RowKit Go.NumSpec
theorem Le.tr {a b c : AV} (h1 : Le a b) (h2 : Le b c) : Le a c := fun st w v h => h2 st w v (h1 st w v h)
/-- the numbers that a line tells are numbers of the program -/
def MsgF (m : Msg) : Prop := fits m.num ∧ fits m.reply.code ∧ fits m.reply.uid ∧ fits m.reply.id
theorem saidS_len {s name : List UInt8} {n : Int} (h : fits n) : (saidS s name n).length ≤ s.length + name.length + 22 := by
  have h2 := textL_len h
  unfold saidS
  split
  · omega
  · simp only [List.length_append, List.length_cons, List.length_nil]; omega
theorem revS_len {s : List UInt8} {n : Nat} (h : n < 18446744073709551616) : (revS s n).length ≤ s.length + 25 := by
  have h2 := digL_20 h
  unfold revS
  split
  · omega
  · simp only [List.length_append, List.length_cons, List.length_nil]; omega
theorem dataS_len {s d : List UInt8} : (dataS s d).length ≤ s.length + 6 + d.length := by
  unfold dataS
  split
  · omega
  · simp only [List.length_append, List.length_cons, List.length_nil]; omega
theorem wordE_len (k : Int) : (wordE k).length ≤ 5 := by
  unfold wordE
  split
  · decide
  · rename_i h
    have h1 : ∀ j < 6, (wordsE.getD j []).length ≤ 5 := by decide
    exact h1 _ (by omega)
theorem replyLn_join {m : Msg} (hs : ShortM m) (hu : MsgU m) (hf : MsgF m) : (Lib.join (replyLn m.num m.reply) [32]).length ≤ 3000 := by
  rw [reply_line]
  obtain ⟨h1, h2, h3, h4⟩ := hf
  have hp : fits ((m.reply.pods.length : Nat) : Int) := by have := hs.1.2.1; unfold fits; omega
  have hq : fits ((m.reply.use.length : Nat) : Int) := by have := hs.1.2.2.1; unfold fits; omega
  have hd := hs.1.1
  have t1 := textL_len h1
  have t2 := textL_len h2
  unfold replyS
  refine Nat.le_trans (saidS_len hq) ?_
  have a1 := saidS_len (s := dataS (revS (saidS (saidS (((replyN ++ [32]) ++ textL m.num) ++ [32] ++ textL m.reply.code) [117, 105, 100] m.reply.uid) [105, 100] m.reply.id) m.reply.rev) m.reply.data) (name := [112, 111, 100, 115]) hp
  have a2 := dataS_len (s := revS (saidS (saidS (((replyN ++ [32]) ++ textL m.num) ++ [32] ++ textL m.reply.code) [117, 105, 100] m.reply.uid) [105, 100] m.reply.id) m.reply.rev) (d := m.reply.data)
  have a3 := revS_len (s := saidS (saidS (((replyN ++ [32]) ++ textL m.num) ++ [32] ++ textL m.reply.code) [117, 105, 100] m.reply.uid) [105, 100] m.reply.id) hu.1
  have a4 := saidS_len (s := saidS (((replyN ++ [32]) ++ textL m.num) ++ [32] ++ textL m.reply.code) [117, 105, 100] m.reply.uid) (name := [105, 100]) h4
  have a5 := saidS_len (s := ((replyN ++ [32]) ++ textL m.num) ++ [32] ++ textL m.reply.code) (name := [117, 105, 100]) h3
  have a6 : (((replyN ++ [32]) ++ textL m.num) ++ [32] ++ textL m.reply.code).length = 5 + 1 + (textL m.num).length + 1 + (textL m.reply.code).length := by
    simp only [List.length_append, List.length_cons, List.length_nil]
  simp only [List.length_cons, List.length_nil] at a1 a4 a5 ⊢
  omega
theorem eventLn_join {m : Msg} (hs : ShortM m) (hu : MsgU m) (hf : MsgF m) : (Lib.join (eventLn m.num m.event) [32]).length ≤ 3000 := by
  rw [event_line]
  have t1 := textL_len hf.1
  have t2 := digL_20 hu.2.2.1
  have t3 := wordE_len m.event.kind
  have t4 := (lightS_out hs.2.1).1
  unfold eventS
  split <;> simp only [List.length_append, List.length_cons, List.length_nil] <;> omega
theorem word_zero {k : Int} (h : k < 1 ∨ 6 ≤ k) : wordE k = [45] := by unfold wordE; rw [if_pos h]; rfl
theorem word_cell {k : Int} (h1 : 1 ≤ k) (h6 : k < 6) : [AV.S [45], AV.S [97, 100, 100], AV.S [109, 111, 100], AV.S [100, 101, 108], AV.S [109, 97, 114, 107], AV.S [111, 118, 101, 114]][0 + k.toNat * 1]? = some (AV.S (wordE k)) := by
  unfold wordE; rw [if_neg (by omega)]
  obtain rfl | rfl | rfl | rfl | rfl : k = 1 ∨ k = 2 ∨ k = 3 ∨ k = 4 ∨ k = 5 := by omega
  all_goals rfl
theorem said_some {l : List (List UInt8)} {name : List UInt8} {n : Int} (h : ¬ n = 0) : saidL l name n = l ++ [name ++ [61] ++ textL n] := if_neg h
theorem said_none {l : List (List UInt8)} {name : List UInt8} {n : Int} (h : n = 0) : saidL l name n = l := if_pos h
theorem said_more (l : List (List UInt8)) (name : List UInt8) (n : Int) : (saidL l name n).length ≤ l.length + 1 := by
  unfold saidL; split <;> simp
theorem rev_some {l : List (List UInt8)} {n : Nat} (h : 0 < n) : revL l n = l ++ [[114, 101, 118, 61] ++ digL n] := if_pos h
theorem rev_none {l : List (List UInt8)} {n : Nat} (h : ¬ 0 < n) : revL l n = l := if_neg h
theorem data_some {l : List (List UInt8)} {d : List UInt8} (h : ¬ d = []) : dataL l d = l ++ [[100, 97, 116, 97, 61] ++ d] := if_neg h
theorem data_none {l : List (List UInt8)} {d : List UInt8} (h : d = []) : dataL l d = l := if_pos h
theorem rev_more (l : List (List UInt8)) (n : Nat) : (revL l n).length ≤ l.length + 1 := by unfold revL; split <;> simp
theorem data_more (l : List (List UInt8)) (d : List UInt8) : (dataL l d).length ≤ l.length + 1 := by unfold dataL; split <;> simp
end Go.AL

namespace Go.AL
open Go.RowKit Go.NumSpec
def wM : Msg := ⟨1, 3, { rep0 with code := 6 }, evt0⟩
theorem wM_short : ShortM wM := ⟨⟨Nat.zero_le _, Nat.zero_le _, Nat.zero_le _, fun p hp => absurd hp List.not_mem_nil⟩, pod0_short⟩
theorem wM_u : MsgU wM := ⟨by decide, fun p hp => absurd hp List.not_mem_nil, by decide, pod0_u⟩
theorem wM_f : MsgF wM := ⟨by unfold fits; decide, by unfold fits; decide, by unfold fits; decide, by unfold fits; decide⟩
theorem wM_may : msgMay wM = true := by decide +kernel
theorem wM_check : checkM wM = 0 := checkM_zero.2 wM_may
theorem wM_msgB : msgB wM = [1, 3, 6, 0, 0, 0, 0, 0, 0] := by decide +kernel
theorem wM_line : lineM wM = [114, 101, 112, 108, 121, 32, 51, 32, 54] := by decide +kernel
theorem wM_bytes : AV.tup [.S (if checkM wM = 0 then msgB wM else []), .int .i64 (checkM wM)] = .tup [.S [1, 3, 6, 0, 0, 0, 0, 0, 0], .int .i64 0] := by
  rw [if_pos wM_check, wM_check, wM_msgB]
theorem ofM_of {m : Msg} (hu : MsgU m) (h : checkM m = 0) : (ofM (msgB m), ofMC (msgB m)) = (m, 0) := by
  have h1 := ofM_bytes hu (checkM_zero.1 h)
  rw [h1.1, h1.2]
theorem wM_of : (ofM [1, 3, 6, 0, 0, 0, 0, 0, 0], ofMC [1, 3, 6, 0, 0, 0, 0, 0, 0]) = (wM, 0) := by
  have h := ofM_of wM_u wM_check
  rw [wM_msgB] at h; exact h
theorem msg0_check : checkM msg0 = 4 := by decide +kernel
theorem lightPd_all {l : List Pod} (h : ∀ j (hj : j < l.length), lightPd l[j] = true) : l.all lightPd = true := List.all_eq_true.2 fun x hx => by
  obtain ⟨j, hj, rfl⟩ := List.getElem_of_mem hx
  exact h j hj
end Go.AL

namespace Go.AL
open Go.RowKit Go.NumSpec
section
variable {s : List UInt8} {c : Int}
end
/-! The message of bytes, as the document has it -/
section
variable {s : List UInt8} {r1 r2 : Int × List UInt8 × Int}
end
/-! Its checks -/
theorem all_stop {α : Type} {f : α → Bool} {l : List α} {i : Nat} {b : Bool} (h : (b && (l.take i).all f) = false ∨ l.length ≤ i) : (b && (l.take i).all f) = (b && l.all f) := by
  rcases h with h | h
  · rw [h]
    cases b with
    | false => rfl
    | true =>
      rw [Bool.true_and] at h ⊢
      obtain ⟨x, hx, hf⟩ := List.all_eq_false.1 h
      exact (List.all_eq_false.2 ⟨x, List.mem_of_mem_take hx, hf⟩).symm
  · rw [List.take_of_length_le h]
theorem all_next {α : Type} {f : α → Bool} {l : List α} {i : Nat} {b : Bool} (h : (b && (l.take i).all f) = true) (hi : i < l.length) : (b && (l.take (i + 1)).all f) = f l[i] := by
  rw [List.take_succ_eq_append_getElem hi, List.all_append]
  rw [Bool.and_eq_true] at h
  rw [h.1, h.2]; simp
theorem all_snoc {f : Int → Bool} {l : List Int} {i : Nat} {b : Bool} (hi : i < l.length) : ((b && (l.take i).all f) && f (l.getD i 0)) = (b && (l.take (i + 1)).all f) := by
  rw [List.take_succ_eq_append_getElem hi, List.all_append, List.getD_eq_getElem?_getD, List.getElem?_eq_getElem hi]
  simp [Bool.and_assoc]
def okM (m : Msg) : Bool := ((((((((decide (m.kind = 1) && decide (m.event.kind = 0)) && decide (m.event.rev = 0)) && bareP m.event.pod) && decide (0 ≤ m.reply.code ∧ m.reply.code ≤ 999)) && decide (0 ≤ m.reply.uid ∧ m.reply.uid ≤ 1073741824)) && decide (0 ≤ m.reply.id ∧ m.reply.id ≤ 1073741824)) && decide ((m.reply.data.length : Int) ≤ 32)) && decide ((m.reply.pods.length : Int) ≤ 16)) && decide ((m.reply.use.length : Int) ≤ 4)
theorem msg_out {m : Msg} (h : ¬ (1 ≤ m.num ∧ m.num ≤ 1073741824)) : msgMay m = false := by
  unfold msgMay; rw [decide_eq_false h]; rfl
theorem msg_two {m : Msg} (h : 1 ≤ m.num ∧ m.num ≤ 1073741824) (hk : m.kind = 2) : msgMay m = (silentB m.reply && eventMay m.event) := by
  unfold msgMay; rw [decide_eq_true h, if_neg (by omega), if_pos hk]; rfl
theorem msg_one {m : Msg} (h : 1 ≤ m.num ∧ m.num ≤ 1073741824) (hk : ¬ m.kind = 2) : msgMay m = ((okM m && m.reply.pods.all podMay) && m.reply.use.all resMay) := by
  unfold msgMay okM replyMay
  rw [decide_eq_true h, Bool.true_and]
  by_cases h1 : m.kind = 1
  · rw [if_pos h1, decide_eq_true h1, Bool.true_and]
    ac_rfl
  · rw [if_neg h1, if_neg hk, decide_eq_false h1]; simp
end Go.AL

namespace Go.AL
open Go.RowKit Go.NumSpec
/-! What is read -/
end Go.AL

namespace Go.AL
open Go.RowKit Go.NumSpec
end Go.AL

namespace Go.AL
open Go.RowKit Go.NumSpec
end Go.AL

namespace Go.AL
open Go.RowKit Go.NumSpec
def emptyB (s : Spc) : Bool := decide (s.name = []) && decide ((s.labels.length : Int) = 0) && decide ((s.init.length : Int) = 0) && decide ((s.main.length : Int) = 0) && decide (s.restart = 0) && decide (s.grace = 0) && decide (s.prio = 0)
theorem empty_iff {s : Spc} : emptyB s = true ↔ s = spc0 := by
  unfold emptyB
  simp only [Bool.and_eq_true, decide_eq_true_eq]
  constructor
  · rintro ⟨⟨⟨⟨⟨⟨h1, h2⟩, h3⟩, h4⟩, h5⟩, h6⟩, h7⟩
    cases s
    simp only at *
    have e2 := List.eq_nil_of_length_eq_zero (Int.ofNat_inj.1 h2)
    have e3 := List.eq_nil_of_length_eq_zero (Int.ofNat_inj.1 h3)
    have e4 := List.eq_nil_of_length_eq_zero (Int.ofNat_inj.1 h4)
    subst h1 e2 e3 e4 h5 h6 h7; rfl
  · intro h; subst h; simp [spc0]
end Go.AL

namespace Go.AL
open Go.RowKit
/-- What is in no memory. -/
def Stay (x : AV) : Prop := ∀ st w st2 w2 v, R st w x v → R st2 w2 x v
theorem Stay.lit (v : Value) : Stay (.lit v) := fun st w st2 w2 u h => by cases h; exact .lit v
theorem Stay.any : Stay .any := fun st w st2 w2 u h => .any u
theorem Stay.agg {cs : List AV} (h : ∀ c ∈ cs, Stay c) : Stay (.agg cs) := fun st w st2 w2 u hr => by
  cases hr with
  | agg _ vs hn k => exact .agg cs vs hn fun i c v hc hv => h c (List.mem_of_getElem? hc) _ _ _ _ _ (k i c v hc hv)
def StaySt (s : St) : Prop := ∀ b o, (b, o) ∈ s → ∃ cs, o = .cells cs ∧ ∀ c ∈ cs, Stay c
theorem StaySt.nil : StaySt [] := fun b o h => by cases h
theorem StaySt.append {a b : St} (h : StaySt a) (k : StaySt b) : StaySt (a ++ b) := fun x o hx => (List.mem_append.1 hx).elim (h x o) (k x o)
theorem StaySt.vec {q : Vec} {size : Nat} {xs : List AV} (h : ∀ x ∈ xs, ∀ c ∈ x.cells, Stay c) : StaySt (vecSt q size xs) := fun b o hb => by
  cases q with
  | «at» b' cap =>
    simp only [vecSt, List.mem_singleton] at hb
    cases hb
    refine ⟨_, rfl, fun c hc => ?_⟩
    unfold vecCells at hc
    rcases List.mem_append.1 hc with h1 | h1
    · obtain ⟨x, h2, h3⟩ := List.mem_flatMap.1 h1; exact h x h2 c h3
    · rw [(List.mem_replicate.1 h1).2]; exact .any
  | nil => cases hb
  | emp A => cases hb
/-- What may be spoilt: a slice into cells, or nothing. -/
def Spoil (m : Nat) (x : AV) (foot : St) : Prop := (∃ b off n cap cs, x = .lit (.slice (some ⟨b, off, none⟩) n cap) ∧ off + n * m ≤ cs.length ∧ n ≤ 1000000 ∧ foot = [(b, .cells cs)]) ∨ (∃ A cap, x = .lit (.slice A 0 cap) ∧ foot = [])
section
variable {P : Program} {N : Nat} {env : Env} {st : St} {o : Oper}
/-- A call over tables that reads what may still be written, and makes memory anew. -/
theorem S_gcallF {gs : List (Nat × List Value)} {f : FuncId} {xs : List Operand} {ts : Array TypeId} {as args : List AV} {J : AV → St → Prop} (hG : ∀ p, p ∈ Gs gs → p ∈ st) (hnd : ((Gs gs).map (·.1)).Nodup) (ho : o.op = .call { callee := .value (.func f), args := xs.toArray, argTypes := ts }) (hargs : AEvs env xs as) (hl : LendsG st (Gs gs) as args)
    (hc : ACalls P f args (Gs gs) fun x st' => ∃ new, st' = new ++ Gs gs ∧ StaySt new ∧ Stay x ∧ J x new) : Step P N o env st fun x st' => ∃ new, st' = new ++ st ∧ J x new := by
  intro a w hg next Q hn
  obtain ⟨hlen, hr⟩ := hargs.at_ hg
  have hrun : (execOp a.eval o).run P w = .ok (.enter f (xs.map a.eval).toArray) w := by
    simp [execOp, ho, resolve, Deferred.ofValue, Act.eval, invoke, run_callFunc' hc.enters]
  unfold Oper.wp
  rw [hrun]
  refine (hc.calls w _ (hg.rel.sub hG hnd) (by have := hl.len; simp; omega) fun i x u hx hv => ?_).mono ?_
  · simp at hv
    obtain ⟨y, hy, rfl⟩ := hv
    obtain ⟨z, hz, hcv⟩ := hl.at_ i x hx
    exact hcv w _ hg.rel (hr i z y hz hy)
  · rintro e w' ⟨r, x, st', rfl, ⟨new, rfl, hst, hx, hj⟩, h1, h2, h3⟩
    have hfresh : ∀ b ob, (b, ob) ∈ new → w.heap.size ≤ b := fun b ob hb => Nat.le_of_not_lt fun hlt => by
      obtain ⟨cs, rfl, _⟩ := hst b ob hb
      exact Gs_mut (h3.opens b 0 hlt ⟨_, List.mem_append_left _ hb, trivial⟩)
    have hold : ∀ b ob, (b, ob) ∈ st → b < w.heap.size := fun b ob hb => key_lt hg.rel hb
    have hk : ∀ b ob, (b, ob) ∈ st → (∀ vs, ob ≠ .konst vs) → ∀ o', (b, o') ∉ Gs gs := fun b ob ho hne o' ho' => by
      obtain rfl := key_unique hg.rel.nodup ho (hG _ ho')
      obtain ⟨p, _, hp⟩ := List.mem_map.1 ho'
      cases hp
      exact hne _ rfl
    have hext : Ext st w (new ++ st) w' := by
      refine ⟨h3.os, h3.tape, h3.output, h3.shape, h3.size, fun b hb hn => h3.keep b hb fun o ho => hn o (hG _ ho), fun b e size n cap hb hg' off _ => World.cell?_of_block (w := w) (h3.keep b hb (hk b _ hg' fun vs hh => by cases hh)), fun b off hb hm => ?_, fun b vs hb hg' => ?_⟩
      · obtain ⟨ob, h4, h5⟩ := hm
        rcases List.mem_append.1 h4 with h6 | h6
        · have := hfresh b ob h6; omega
        · exact ⟨ob, h6, h5⟩
      · by_cases hin : ∃ ob, (b, ob) ∈ Gs gs
        · obtain ⟨ob, ho⟩ := hin
          obtain rfl := key_unique hg.rel.nodup hg' (hG _ ho)
          exact h3.konst b vs hb ho
        · exact h3.keep b hb fun ob ho => hin ⟨ob, ho⟩
    have hkeep : ∀ b ob, (b, ob) ∈ st → (∀ vs, ob ≠ .konst vs) → w'.heap[b]? = w.heap[b]? := fun b ob ho hne => h3.keep b (hold b ob ho) (hk b ob ho hne)
    have hrel : Rel (new ++ st) w' := by
      refine ⟨?_, fun b cs hb => ?_, fun b e size n cap hb => ?_, fun b vs hb => ?_⟩
      · rw [List.map_append, List.nodup_append]
        have hn1 := h2.nodup
        rw [List.map_append, List.nodup_append] at hn1
        refine ⟨hn1.1, hg.rel.nodup, fun b hb b' hb' => ?_⟩
        obtain ⟨⟨k1, o1⟩, h4, rfl⟩ := List.mem_map.1 hb
        obtain ⟨⟨k2, o2⟩, h5, rfl⟩ := List.mem_map.1 hb'
        have := hfresh k1 o1 h4
        have := hold k2 o2 h5
        dsimp only
        omega
      · rcases List.mem_append.1 hb with h4 | h4
        · obtain ⟨cs', he, hs⟩ := hst b _ h4
          cases he
          obtain ⟨vs, T, k1, k2, k3⟩ := h2.cells b cs (List.mem_append_left _ h4)
          exact ⟨vs, T, k1, k2, fun i c v hc hv => hs c (List.mem_of_getElem? hc) _ _ _ _ _ (k3 i c v hc hv)⟩
        · obtain ⟨vs, T, k1, k2, k3⟩ := hg.rel.cells b cs h4
          exact ⟨vs, T, by rw [hkeep b _ h4 fun vs hh => by cases hh]; exact k1, k2, fun i c v hc hv => (k3 i c v hc hv).mono hext hg.rel.nodup⟩
      · rcases List.mem_append.1 hb with h4 | h4
        · obtain ⟨cs', he, hs⟩ := hst b _ h4; cases he
        · obtain ⟨vs, k1, k2⟩ := hg.rel.grow b e size n cap h4
          exact ⟨vs, by rw [hkeep b _ h4 fun vs hh => by cases hh]; exact k1, k2⟩
      · rcases List.mem_append.1 hb with h4 | h4
        · obtain ⟨cs', he, hs⟩ := hst b _ h4; cases he
        · exact hext.konst_rel hg.rel h4
    exact hn _ _ _ _ ⟨new, rfl, hj⟩ (hx _ _ _ _ _ h1) hrel hext
end
/-- One's own vector, and what its cells point to, seen where it is no longer written. -/
theorem Conv.vecD {st st' : St} {q : Vec} {size : Nat} {xs ys : List AV} (hq : q.ok xs) (hl : xs.length = ys.length) (hs : ∀ x, x ∈ xs → x.cells.length = size) (hs' : ∀ y, y ∈ ys → y.cells.length = size) (hm : ∀ p, p ∈ vecSt q size xs → p ∈ st) (hn : ∀ b cap, q = .at b cap → ∀ o, (b, o) ∉ st')
    (hc : ∀ (i : Nat) x y (j : Nat) c d, xs[i]? = some x → ys[i]? = some y → x.cells[j]? = some c → y.cells[j]? = some d → Conv st st' c d) : Conv st st' (.lit (vecV q xs.length)) (.sl ys) := fun w v hr h1 => by
  cases h1
  cases q with
  | nil => have : xs = [] := hq; subst this; cases ys with
    | nil => exact .sl0 _ _
    | cons y ys => simp at hl
  | emp A => have : xs = [] := hq; subst this; cases ys with
    | nil => exact .sl0 _ _
    | cons y ys => simp at hl
  | «at» b cap =>
    obtain ⟨vs, T, g1, g2, g3⟩ := hr.cells b (vecCells size cap xs) (hm _ List.mem_cons_self)
    have hcell : ∀ (i : Nat) y (j : Nat) d, ys[i]? = some y → y.cells[j]? = some d → ∃ u, vs[i * size + j]? = some u ∧ R st' w d u := fun i y j d hy hd => by
      have hi : i < xs.length := by have := (List.getElem?_eq_some_iff.1 hy).1; omega
      have hx := List.getElem?_eq_getElem hi
      have hj : j < (xs[i]).cells.length := by rw [hs _ (List.getElem_mem hi), ← hs' y (List.mem_of_getElem? hy)]; exact (List.getElem?_eq_some_iff.1 hd).1
      have hcc := List.getElem?_eq_getElem hj
      have h2 := flat_at hs hx hcc
      have h3 : (vecCells size cap xs)[i * size + j]? = some ((xs[i]).cells[j]) := by unfold vecCells; rw [List.getElem?_append_left (List.getElem?_eq_some_iff.1 h2).1]; exact h2
      have hlt : i * size + j < vs.size := by rw [g2]; exact (List.getElem?_eq_some_iff.1 h3).1
      exact ⟨vs[i * size + j], by simp [hlt], hc i _ y j _ d hx hy hcc hd w _ hr (g3 _ _ _ h3 (by simp [hlt]))⟩
    have e : (Value.slice (some ⟨b, 0, none⟩) xs.length cap) = .slice (some ⟨b, 0, none⟩) ys.length cap := by rw [hl]
    show R st' w (.sl ys) (.slice (some ⟨b, 0, none⟩) xs.length cap)
    rw [e]
    refine .sl ys b 0 cap size (fun k => (vs[k]?).getD undef) (by rw [← hl]; exact hq) (fun i x hx => hs' x (List.mem_of_getElem? hx)) (fun i x j c hx hc => ?_) fun i x j c hx hc => ?_
    · obtain ⟨u, k1, k2⟩ := hcell i x j c hx hc
      refine ⟨by simp only [World.cell?, g1, Option.isSome_none, Bool.false_eq_true, if_false, Nat.zero_add, k1, Option.getD_some], fun ⟨o, ho, _⟩ => hn b cap rfl o ho⟩
    · obtain ⟨u, k1, k2⟩ := hcell i x j c hx hc
      rw [k1]
      exact k2
/-- A cell of a vector's element is written. -/
theorem flat_set {size : Nat} : ∀ {xs : List AV} {i j : Nat} {c : AV} {ds : List AV}, (∀ x, x ∈ xs → x.cells.length = size) → xs[i]? = some (.agg ds) → j < size → (xs.flatMap AV.cells).set (i * size + j) c = (xs.set i (.agg (ds.set j c))).flatMap AV.cells := fun {xs} => by
  induction xs with
  | nil => intro i j c ds _ h; simp at h
  | cons x xs ih =>
    intro i j c ds hs hi hj
    have hx := hs x List.mem_cons_self
    cases i with
    | zero =>
      simp only [List.getElem?_cons_zero, Option.some.injEq] at hi
      subst hi
      simp only [List.set_cons_zero, List.flatMap_cons, AV.cells, Nat.zero_mul, Nat.zero_add] at hx ⊢
      rw [List.set_append_left _ _ (by omega)]
    | succ i =>
      simp only [List.getElem?_cons_succ] at hi
      rw [List.set_cons_succ, List.flatMap_cons, List.flatMap_cons, List.set_append_right _ _ (by rw [hx, Nat.add_mul]; omega), hx, show (i + 1) * size + j - size = i * size + j by rw [Nat.add_mul]; omega, ih (fun y hy => hs y (List.mem_cons_of_mem _ hy)) hi hj]
theorem vecCells_set {size cap : Nat} {xs : List AV} {i j : Nat} {c : AV} {ds : List AV} (hs : ∀ x, x ∈ xs → x.cells.length = size) (hi : xs[i]? = some (.agg ds)) (hj : j < size) : (vecCells size cap xs).set (i * size + j) c = vecCells size cap (xs.set i (.agg (ds.set j c))) := by
  have hil : i < xs.length := (List.getElem?_eq_some_iff.1 hi).1
  unfold vecCells
  rw [List.set_append_left _ _ (by
    rw [flat_len hs]
    have h1 : (i + 1) * size ≤ xs.length * size := Nat.mul_le_mul_right _ hil
    rw [Nat.add_mul] at h1
    omega), flat_set hs hi hj, List.length_set]
theorem vecCells_get {size cap : Nat} {xs : List AV} {i j : Nat} {x c : AV} (hs : ∀ x, x ∈ xs → x.cells.length = size) (hi : xs[i]? = some x) (hj : x.cells[j]? = some c) : (vecCells size cap xs)[i * size + j]? = some c := by
  have h2 := flat_at hs hi hj
  unfold vecCells
  rw [List.getElem?_append_left (List.getElem?_eq_some_iff.1 h2).1]; exact h2
theorem vecV_one (q : Vec) (n : Nat) : (AV.lit (vecV q n)).one = true := by cases q <;> rfl
theorem Vec.ok_len {q : Vec} {xs ys : List AV} (h : q.ok xs) (hl : xs.length = ys.length) : q.ok ys := by
  cases q with
  | «at» b cap => exact (hl ▸ h : ys.length ≤ cap)
  | nil => have h0 : xs = [] := h; subst h0; cases ys with | nil => exact rfl | cons y ys => simp at hl
  | emp A => have h0 : xs = [] := h; subst h0; cases ys with | nil => exact rfl | cons y ys => simp at hl
theorem perm_swap3 (A B R : St) : (B ++ (A ++ R)).Perm (A ++ (B ++ R)) := by
  rw [← List.append_assoc, ← List.append_assoc]
  exact List.perm_append_comm.append_right R
theorem Spoil.vec {q : Vec} {m : Nat} {xs : List AV} (hq : q.ok xs) (hs : ∀ x, x ∈ xs → x.cells.length = m) (hl : xs.length ≤ 1000000) : Spoil m (.lit (vecV q xs.length)) (vecSt q m xs) := by
  cases q with
  | «at» b cap => exact .inl ⟨b, 0, xs.length, cap, _, rfl, by rw [Nat.zero_add]; exact vecCells_len hs, hl, rfl⟩
  | nil => have h0 : xs = [] := hq; subst h0; exact .inr ⟨none, 0, rfl, rfl⟩
  | emp A => have h0 : xs = [] := hq; subst h0; exact .inr ⟨some A, 0, rfl, rfl⟩
end Go.AL

namespace Go.AL
open Go.RowKit Go.NumSpec
structure CO where
  c : Ctr
  p : Vec
def coL (x : CO) : List AV := [.S x.c.name, .S x.c.image, .int .i64 x.c.req.1, .int .i64 x.c.req.2.1, .int .i64 x.c.req.2.2, .int .i64 x.c.lim.1, .int .i64 x.c.lim.2.1, .int .i64 x.c.lim.2.2, .lit (vecV x.p (intsV x.c.ports).length), .int .i64 x.c.probe.1, .int .i64 x.c.probe.2]
def coAV (x : CO) : AV := .agg (coL x)
def cosV (l : List CO) : List AV := l.map coAV
def coSt : List CO → St
  | [] => []
  | x :: l => vecSt x.p 1 (intsV x.c.ports) ++ coSt l
def coOk (l : List CO) : Prop := ∀ x ∈ l, x.p.ok (intsV x.c.ports)
structure SO where
  name : List UInt8
  labels : List Lab
  lq : Vec
  is : List CO
  iq : Vec
  ms : List CO
  mq : Vec
  restart : Int
  grace : Int
  prio : Int
def SO.s (o : SO) : Spc := ⟨o.name, o.labels, o.is.map CO.c, o.ms.map CO.c, o.restart, o.grace, o.prio⟩
def soL (o : SO) : List AV := [.S o.name, .lit (vecV o.lq (labsV o.labels).length), .lit (vecV o.iq (cosV o.is).length), .lit (vecV o.mq (cosV o.ms).length), .int .i64 o.restart, .int .i64 o.grace, .int .i64 o.prio]
def ctrsSt (q : Vec) (l : List CO) : St := vecSt q 11 (cosV l) ++ coSt l
def soSt (o : SO) : St := ctrsSt o.mq o.ms ++ (ctrsSt o.iq o.is ++ vecSt o.lq 2 (labsV o.labels))
structure soOk (o : SO) : Prop where
  lq : o.lq.ok (labsV o.labels)
  iq : o.iq.ok (cosV o.is)
  mq : o.mq.ok (cosV o.ms)
  is : coOk o.is
  ms : coOk o.ms
theorem cosV_len (l : List CO) : (cosV l).length = l.length := by simp [cosV]
theorem ctrsV_len' (l : List Ctr) : (ctrsV l).length = l.length := by simp [ctrsV]
theorem cosV_size (l : List CO) : ∀ x, x ∈ cosV l → x.cells.length = 11 := fun x hx => by obtain ⟨r, _, rfl⟩ := List.mem_map.1 hx; rfl
theorem ctrsV_size (l : List Ctr) : ∀ x, x ∈ ctrsV l → x.cells.length = 11 := fun x hx => by obtain ⟨r, _, rfl⟩ := List.mem_map.1 hx; rfl
theorem labsV_size (l : List Lab) : ∀ x, x ∈ labsV l → x.cells.length = 2 := fun x hx => by obtain ⟨r, _, rfl⟩ := List.mem_map.1 hx; rfl
theorem intsV_size (l : List Int) : ∀ x, x ∈ intsV l → x.cells.length = 1 := fun x hx => by obtain ⟨r, _, rfl⟩ := List.mem_map.1 hx; rfl
theorem coSt_mem {x : CO} : ∀ {l : List CO}, x ∈ l → ∀ p, p ∈ vecSt x.p 1 (intsV x.c.ports) → p ∈ coSt l
  | y :: l, h, p, hp => by
    rcases List.mem_cons.1 h with rfl | h
    · exact List.mem_append_left _ hp
    · exact List.mem_append_right _ (coSt_mem h p hp)
theorem coSt_append : ∀ (a b : List CO), coSt (a ++ b) = coSt a ++ coSt b
  | [], b => rfl
  | x :: a, b => by rw [List.cons_append, coSt, coSt, coSt_append a b, List.append_assoc]
theorem coSt_reverse : ∀ (a : List CO), (coSt a.reverse).Perm (coSt a)
  | [] => .refl _
  | x :: a => by
    rw [List.reverse_cons, coSt_append, coSt, coSt, coSt, List.append_nil]
    exact List.perm_append_comm.trans ((coSt_reverse a).append_left _)
/-! what only reads sees -/
section
variable {st st' : St}
theorem ints_conv {q : Vec} {l : List Int} (hq : q.ok (intsV l)) (hm : ∀ p, p ∈ vecSt q 1 (intsV l) → p ∈ st) (hn : ∀ b ob, (b, ob) ∈ vecSt q 1 (intsV l) → ∀ o, (b, o) ∉ st') : Conv st st' (.lit (vecV q (intsV l).length)) (.sl (intsV l)) :=
  Conv.vecD hq rfl (intsV_size l) (intsV_size l) hm (fun b cap h o => by subst h; exact hn b _ List.mem_cons_self o) fun i x y j c d hx hy hc hd => by
    rw [hx] at hy; cases hy
    rw [hc] at hd; cases hd
    obtain ⟨n, _, rfl⟩ := List.mem_map.1 (List.mem_of_getElem? hx)
    match j, hc with
    | 0, hc => simp [AV.cells] at hc; subst hc; exact Conv.lits _
theorem labs_conv {q : Vec} {l : List Lab} (hq : q.ok (labsV l)) (hm : ∀ p, p ∈ vecSt q 2 (labsV l) → p ∈ st) (hn : ∀ b ob, (b, ob) ∈ vecSt q 2 (labsV l) → ∀ o, (b, o) ∉ st') : Conv st st' (.lit (vecV q (labsV l).length)) (.sl (labsV l)) :=
  Conv.vecD hq rfl (labsV_size l) (labsV_size l) hm (fun b cap h o => by subst h; exact hn b _ List.mem_cons_self o) fun i x y j c d hx hy hc hd => by
    rw [hx] at hy; cases hy
    rw [hc] at hd; cases hd
    obtain ⟨n, _, rfl⟩ := List.mem_map.1 (List.mem_of_getElem? hx)
    match j, hc with
    | 0, hc => simp [AV.cells, labAV] at hc; subst hc; exact Conv.lits _
    | 1, hc => simp [AV.cells, labAV] at hc; subst hc; exact Conv.lits _
theorem co_lends {x : CO} (hx : x.p.ok (intsV x.c.ports)) (hm : ∀ p, p ∈ vecSt x.p 1 (intsV x.c.ports) → p ∈ st) (hn : ∀ b ob, (b, ob) ∈ vecSt x.p 1 (intsV x.c.ports) → ∀ o, (b, o) ∉ st') : LendsG st st' (coL x) (ctrL x.c) :=
  .cons (Conv.lits _) (.cons (Conv.lits _) (.cons (Conv.lits _) (.cons (Conv.lits _) (.cons (Conv.lits _) (.cons (Conv.lits _) (.cons (Conv.lits _) (.cons (Conv.lits _) (.cons (ints_conv hx hm hn) (.cons (Conv.lits _) (.cons (Conv.lits _) .nil))))))))))
theorem ctrs_conv {q : Vec} {l : List CO} (hq : q.ok (cosV l)) (hk : coOk l) (hm : ∀ p, p ∈ ctrsSt q l → p ∈ st) (hn : ∀ b ob, (b, ob) ∈ ctrsSt q l → ∀ o, (b, o) ∉ st') : Conv st st' (.lit (vecV q (cosV l).length)) (.sl (ctrsV (l.map CO.c))) :=
  Conv.vecD hq (by simp [cosV, ctrsV]) (cosV_size l) (ctrsV_size _) (fun p hp => hm p (List.mem_append_left _ hp)) (fun b cap h o => by subst h; exact hn b _ (List.mem_append_left _ List.mem_cons_self) o) fun i x y j c d hx hy hc hd => by
    simp only [cosV, List.getElem?_map, Option.map_eq_some_iff] at hx
    obtain ⟨r, hr, rfl⟩ := hx
    simp only [ctrsV, List.getElem?_map, hr, Option.map_some, Option.some.injEq] at hy
    subst hy
    have hmem := List.mem_of_getElem? hr
    obtain ⟨a, h1, h2⟩ := (co_lends (hk r hmem) (fun p hp => hm p (List.mem_append_right _ (coSt_mem hmem p hp))) fun b ob hb => hn b ob (List.mem_append_right _ (coSt_mem hmem _ hb))).at_ j d hd
    have : (coL r)[j]? = some c := hc
    rw [this] at h1; cases h1
    exact h2
theorem so_lends {o : SO} (ho : soOk o) (hm : ∀ p, p ∈ soSt o → p ∈ st) (hn : ∀ b ob, (b, ob) ∈ soSt o → ∀ o', (b, o') ∉ st') : LendsG st st' (soL o) (spcL o.s) :=
  .cons (Conv.lits _) (.cons (labs_conv ho.lq (fun p hp => hm p (List.mem_append_right _ (List.mem_append_right _ hp))) fun b ob hb => hn b ob (List.mem_append_right _ (List.mem_append_right _ hb)))
    (.cons (ctrs_conv ho.iq ho.is (fun p hp => hm p (List.mem_append_right _ (List.mem_append_left _ hp))) fun b ob hb => hn b ob (List.mem_append_right _ (List.mem_append_left _ hb)))
    (.cons (ctrs_conv ho.mq ho.ms (fun p hp => hm p (List.mem_append_left _ hp)) fun b ob hb => hn b ob (List.mem_append_left _ hb)) (.cons (Conv.lits _) (.cons (Conv.lits _) (.cons (Conv.lits _) .nil))))))
end
/-! what is in no memory -/
theorem coSt_stay : ∀ (l : List CO), StaySt (coSt l)
  | [] => StaySt.nil
  | x :: l => StaySt.append (StaySt.vec fun y hy c hc => by obtain ⟨n, _, rfl⟩ := List.mem_map.1 hy; simp [AV.cells] at hc; subst hc; exact Stay.lit _) (coSt_stay l)
theorem coL_stay (x : CO) : ∀ c ∈ coL x, Stay c := fun c hc => by
  simp only [coL, List.mem_cons, List.not_mem_nil, or_false] at hc
  rcases hc with rfl | rfl | rfl | rfl | rfl | rfl | rfl | rfl | rfl | rfl | rfl <;> exact Stay.lit _
theorem ctrsSt_stay (q : Vec) (l : List CO) : StaySt (ctrsSt q l) := StaySt.append (StaySt.vec fun y hy c hc => by obtain ⟨n, _, rfl⟩ := List.mem_map.1 hy; exact coL_stay n c hc) (coSt_stay l)
theorem soSt_stay (o : SO) : StaySt (soSt o) := StaySt.append (ctrsSt_stay _ _) (StaySt.append (ctrsSt_stay _ _) (StaySt.vec fun y hy c hc => by
  obtain ⟨n, _, rfl⟩ := List.mem_map.1 hy
  simp only [labAV, AV.cells, List.mem_cons, List.not_mem_nil, or_false] at hc
  rcases hc with rfl | rfl <;> exact Stay.lit _))
theorem soL_stay (o : SO) : ∀ c ∈ soL o, Stay c := fun c hc => by
  simp only [soL, List.mem_cons, List.not_mem_nil, or_false] at hc
  rcases hc with rfl | rfl | rfl | rfl | rfl | rfl | rfl <;> exact Stay.lit _
theorem StaySt.cellsOf {s : St} (h : StaySt s) {b : Nat} {ob : Ob} (hb : (b, ob) ∈ s) : ∃ cs, ob = .cells cs := let ⟨cs, e, _⟩ := h b ob hb; ⟨cs, e⟩
/-! the walk of clones -/
def halfV (rs : List CO) (l : List Ctr) : List AV := cosV rs.reverse ++ ctrsV (l.drop rs.length)
theorem halfV_size (rs : List CO) (l : List Ctr) : ∀ x, x ∈ halfV rs l → x.cells.length = 11 := fun x hx => (List.mem_append.1 hx).elim (cosV_size _ x) (ctrsV_size _ x)
theorem halfV_len {rs : List CO} {l : List Ctr} (h : rs.length ≤ l.length) : (halfV rs l).length = l.length := by simp [halfV, cosV, ctrsV]; omega
theorem halfV_at {rs : List CO} {l : List Ctr} (h : rs.length < l.length) : (halfV rs l)[rs.length]? = some (.agg (ctrL (l[rs.length]'h))) := by
  unfold halfV
  rw [List.getElem?_append_right (by simp [cosV])]
  simp only [cosV, ctrsV, List.length_map, List.length_reverse, Nat.sub_self, List.getElem?_map, List.getElem?_drop, Nat.add_zero, List.getElem?_eq_getElem h, Option.map_some]
  rfl
theorem halfV_step {rs : List CO} {l : List Ctr} (h : rs.length < l.length) (p : Vec) : (halfV rs l).set rs.length (.agg ((ctrL (l[rs.length]'h)).set 8 (.lit (vecV p (intsV (l[rs.length]'h).ports).length)))) = halfV (⟨l[rs.length]'h, p⟩ :: rs) l := by
  unfold halfV
  rw [List.set_append_right _ _ (by simp [cosV])]
  have e : (cosV rs.reverse).length = rs.length := by simp [cosV]
  rw [e, Nat.sub_self, List.drop_eq_getElem_cons h, ctrsV, List.map_cons, List.set_cons_zero]
  simp only [List.reverse_cons, cosV, List.map_append, List.map_cons, List.map_nil, List.append_assoc, List.cons_append, List.nil_append, List.length_cons, ctrsV]
  rfl
theorem halfV_full {rs : List CO} {l : List Ctr} (h : rs.length = l.length) : halfV rs l = cosV rs.reverse := by
  unfold halfV; rw [h, List.drop_length]; simp [ctrsV]
/-! what is spoilt -/
def spoilC (n : List UInt8) (x : CO) : CO := ⟨{ x.c with name := n }, x.p⟩
def spoilL (n : List UInt8) (k : Nat) (l : List CO) : List CO := (l.take k).map (spoilC n) ++ l.drop k
theorem spoilL_zero (n : List UInt8) (l : List CO) : spoilL n 0 l = l := by simp [spoilL]
theorem spoilL_len {n : List UInt8} {k : Nat} {l : List CO} : (spoilL n k l).length = l.length := by simp [spoilL]; omega
theorem spoilL_at {n : List UInt8} {k : Nat} {l : List CO} (h : k < l.length) : (cosV (spoilL n k l))[k]? = some (.agg (coL (l[k]'h))) := by
  unfold spoilL cosV
  rw [List.map_append, List.getElem?_append_right (by simp; omega)]
  simp [List.length_take, Nat.min_eq_left (Nat.le_of_lt h), List.getElem?_drop, List.getElem?_eq_getElem h]
  rfl
theorem spoilL_step {n : List UInt8} {k : Nat} {l : List CO} (h : k < l.length) : (cosV (spoilL n k l)).set k (.agg ((coL (l[k]'h)).set 0 (.S n))) = cosV (spoilL n (k + 1) l) := by
  unfold spoilL cosV
  rw [List.map_append, List.set_append_right _ _ (by simp; omega)]
  have e : (List.map coAV (List.map (spoilC n) (List.take k l))).length = k := by simp; omega
  have e2 : List.take (k + 1) l = List.take k l ++ [l[k]] := by rw [List.take_succ_eq_append_getElem h]
  rw [e, Nat.sub_self, e2, List.drop_eq_getElem_cons h, List.map_cons, List.set_cons_zero]
  simp only [List.map_append, List.map_cons, List.map_nil, List.append_assoc, List.cons_append, List.nil_append]
  rfl
theorem soL_one (o : SO) : (soL o).all AV.one = true := by
  simp only [soL, List.all_cons, List.all_nil, vecV_one, Bool.and_true, Bool.true_and]
  rfl
theorem clones_next {rs : List CO} {l : List Ctr} (h : rs.length < l.length) (p : Vec) (b cap : Nat) (F : St) : Sub (vecSt (.at b cap) 11 (halfV (⟨l[rs.length]'h, p⟩ :: rs) l) ++ (coSt (⟨l[rs.length]'h, p⟩ :: rs) ++ F)) ((b, .cells ((vecCells 11 cap (halfV rs l)).set (0 + (rs.length : Int).toNat * 11 + 8) (.lit (vecV p (intsV (l[rs.length]'h).ports).length)))) :: (vecSt p 1 (intsV (l[rs.length]'h).ports) ++ (coSt rs ++ F))) := by
  rw [Int.toNat_natCast, Nat.zero_add, vecCells_set (halfV_size rs l) (halfV_at h) (by decide), halfV_step h p, coSt, List.append_assoc]
  exact Sub.l (List.Sublist.refl _)
theorem clones_end {rs : List CO} {l : List Ctr} (h : rs.length = l.length) (q : Vec) (F : St) : Sub (ctrsSt q rs.reverse ++ F) (vecSt q 11 (halfV rs l) ++ (coSt rs ++ F)) := by
  rw [halfV_full h, ctrsSt, List.append_assoc]
  exact Sub.p (((coSt_reverse rs).append_right F).append_left _) (List.Sublist.refl _)
theorem clones_ok {rs : List CO} {l : List Ctr} (h : rs.length = l.length) {q : Vec} (hq : q.ok (ctrsV l)) : q.ok (cosV rs.reverse) := Vec.ok_len hq (by simp [cosV, ctrsV, h])
theorem clones_len {rs : List CO} {l : List Ctr} (h : rs.length = l.length) (q : Vec) : AV.lit (vecV q (ctrsV l).length) = .lit (vecV q (cosV rs.reverse).length) := by rw [ctrsV_len', cosV_len, List.length_reverse, h]
theorem so_start (x : Nat × Ob) (lq iq mq : Vec) (lb : List Lab) (is ms : List CO) (F : St) : Sub (x :: (vecSt lq 2 (labsV lb) ++ (ctrsSt iq is ++ (ctrsSt mq ms ++ F)))) (x :: ((ctrsSt mq ms ++ (ctrsSt iq is ++ vecSt lq 2 (labsV lb))) ++ F)) := by
  refine Sub.p (List.Perm.cons _ ?_) (List.Sublist.refl _)
  rw [List.append_assoc, List.append_assoc]
  refine (perm_swap3 (ctrsSt iq is) (vecSt lq 2 (labsV lb)) _).trans ?_
  refine (List.Perm.append_left _ (perm_swap3 (ctrsSt mq ms) (vecSt lq 2 (labsV lb)) F)).trans ?_
  exact perm_swap3 (ctrsSt mq ms) (ctrsSt iq is) _
theorem spoil_start (x : Nat × Ob) (Z : St) (q : Vec) (n : List UInt8) (l : List CO) (R : St) : Sub (x :: (vecSt q 11 (cosV (spoilL n 0 l)) ++ (Z ++ (coSt (l.drop 0) ++ R)))) (x :: (Z ++ (ctrsSt q l ++ R))) := by
  rw [spoilL_zero, List.drop_zero, ctrsSt, List.append_assoc]
  exact Sub.p (List.Perm.cons _ (perm_swap3 Z _ _)) (List.Sublist.refl _)
theorem spoil_mid (x : Nat × Ob) (V Z D : St) (q : Vec) (n : List UInt8) (l : List CO) (R : St) : Sub (x :: (vecSt q 11 (cosV (spoilL n 0 l)) ++ ((V ++ (Z ++ D)) ++ (coSt (l.drop 0) ++ R)))) (x :: (V ++ (Z ++ (D ++ (ctrsSt q l ++ R))))) := by
  have := spoil_start x (V ++ (Z ++ D)) q n l R
  have e : x :: (V ++ (Z ++ D) ++ (ctrsSt q l ++ R)) = x :: (V ++ (Z ++ (D ++ (ctrsSt q l ++ R)))) := by simp
  rwa [e] at this
theorem coSt_drop {l : List CO} {k : Nat} (h : k < l.length) : coSt (l.drop k) = vecSt (l[k]'h).p 1 (intsV (l[k]'h).c.ports) ++ coSt (l.drop (k + 1)) := by
  rw [List.drop_eq_getElem_cons h]; rfl
theorem spoil_next {l : List CO} {k : Nat} (h : k < l.length) (x : Nat × Ob) (b cap : Nat) (n : List UInt8) (Z Z2 R : St) : Sub (x :: (vecSt (.at b cap) 11 (cosV (spoilL n (k + 1) l)) ++ ((Z ++ Z2) ++ (coSt (l.drop (k + 1)) ++ R)))) (x :: (b, .cells ((vecCells 11 cap (cosV (spoilL n k l))).set (0 + (k : Int).toNat * 11 + 0) (.S n))) :: (Z ++ (Z2 ++ (coSt (l.drop (k + 1)) ++ R)))) := by
  rw [Int.toNat_natCast, Nat.zero_add, vecCells_set (cosV_size _) (spoilL_at h) (by decide), spoilL_step h, List.append_assoc]
  exact Sub.l (List.Sublist.refl _)
theorem spoil_end (x : Nat × Ob) (V Z D F : St) : x :: (V ++ (Z ++ (D ++ F))) = (x :: (V ++ (Z ++ D))) ++ F := by simp
theorem vec_cells_ne {q : Vec} {xs : List AV} (h : q.ok xs) (hn : 0 < xs.length) : ∃ b cap, q = .at b cap ∧ xs.length ≤ cap := Vec.at_of h (by intro h0; rw [h0] at hn; exact absurd hn (by decide))
end Go.AL

namespace Go.AL
open Go.RowKit Go.NumSpec
theorem light_counts {s : Spc} (h : lightS s = true) : s.labels.length ≤ 10 ∧ s.init.length ≤ 8 ∧ s.main.length ≤ 8 := by
  obtain ⟨⟨h1, h2, h3, h4⟩, h5, h6, h7⟩ := light_out h
  exact ⟨by omega, by omega, by omega⟩
theorem light_ports {s : Spc} (h : lightS s = true) : (∀ c ∈ s.init, c.ports.length ≤ 1000) ∧ ∀ c ∈ s.main, c.ports.length ≤ 1000 := by
  obtain ⟨⟨h1, h2, h3, h4⟩, h5, h6, h7⟩ := light_out h
  exact ⟨fun c hc => by have := (of_decide_eq_true (h6 c hc)).2.2; omega, fun c hc => by have := (of_decide_eq_true (h7 c hc)).2.2; omega⟩
end Go.AL

namespace Go.AL
open Go.RowKit Go.NumSpec
structure PO where
  p : Pod
  o : SO
  q : Vec
def poL (r : PO) : List AV := .int .i64 r.p.id :: .int .u64 (r.p.ver : Int) :: (soL r.o ++ [.int .i64 r.p.node, .lit (vecV r.q (intsV r.p.ports).length), .int .i64 r.p.x, .int .i64 r.p.y])
def poSt (r : PO) : St := vecSt r.q 1 (intsV r.p.ports) ++ soSt r.o
structure poOk (r : PO) : Prop where
  o : soOk r.o
  s : r.o.s = r.p.spec
  q : r.q.ok (intsV r.p.ports)
theorem LendsG.append {st g : St} {as bs cs ds : List AV} (h : LendsG st g as bs) (k : LendsG st g cs ds) : LendsG st g (as ++ cs) (bs ++ ds) := by
  induction h with
  | nil => exact k
  | cons h t ih => exact .cons h ih
theorem po_lends {st st' : St} {r : PO} (hr : poOk r) (hm : ∀ p, p ∈ poSt r → p ∈ st) (hn : ∀ b ob, (b, ob) ∈ poSt r → ∀ o', (b, o') ∉ st') : LendsG st st' (poL r) (podL r.p) := by
  have h1 := so_lends (st' := st') hr.o (fun p hp => hm p (List.mem_append_right _ hp)) fun b ob hb => hn b ob (List.mem_append_right _ hb)
  rw [hr.s] at h1
  exact .cons (Conv.lits _) (.cons (Conv.lits _) (h1.append (.cons (Conv.lits _) (.cons (ints_conv hr.q (fun p hp => hm p (List.mem_append_left _ hp)) fun b ob hb => hn b ob (List.mem_append_left _ hb)) (.cons (Conv.lits _) (.cons (Conv.lits _) .nil))))))
theorem po_conv0 {st : St} {r : PO} (hr : poOk r) (hm : ∀ p, p ∈ poSt r → p ∈ st) : Conv st [] (.agg (poL r)) (podAV r.p) := (po_lends hr hm fun _ _ _ _ h => List.not_mem_nil h).agg
theorem poSt_stay (r : PO) : StaySt (poSt r) := StaySt.append (StaySt.vec fun y hy c hc => by obtain ⟨n, _, rfl⟩ := List.mem_map.1 hy; simp [AV.cells] at hc; subst hc; exact Stay.lit _) (soSt_stay _)
theorem poL_stay (r : PO) : ∀ c ∈ poL r, Stay c := fun c hc => by
  simp only [poL, List.mem_cons, List.mem_append, List.not_mem_nil, or_false] at hc
  rcases hc with rfl | rfl | h | rfl | rfl | rfl | rfl
  · exact Stay.lit _
  · exact Stay.lit _
  · exact soL_stay _ c h
  all_goals exact Stay.lit _
theorem poL_one (r : PO) : (poL r).all AV.one = true := by
  simp only [poL, List.all_cons, List.all_append, soL_one, List.all_nil, vecV_one, Bool.and_true, Bool.true_and]
  rfl
theorem samePd_refl (p : Pod) : samePd p p = true := samePd_iff.2 rfl
theorem spoil_pod_next (x : Nat × Ob) (A B F : St) : Sub ((x :: (A ++ B)) ++ F) (x :: (A ++ (B ++ F))) := Sub.l (by simp)
theorem pod_sub (x6 x5 x9 : Nat × Ob) (P1 P2 R : St) : Sub (x9 :: (P1 ++ (x6 :: (P2 ++ R)))) (x9 :: (x6 :: (P2 ++ (x5 :: (P1 ++ R))))) :=
  Sub.p (List.Perm.cons _ (perm_swap3 (x6 :: P2) P1 R)) (.cons_cons _ (.cons_cons _ ((List.sublist_cons_self _ _).append_left _)))
section
variable {P : Program} {N : Nat} {Q : Post} {env : Env} {st : St}
theorem AL_sub {ops : Array Oper} {l : List Oper} {st1 : St} (hs : Sub st1 st) (h : AL P N ops l Q env st1) : AL P N ops l Q env st := fun a w hg => by
  have hx := Ext.dropS (w := w) hs
  exact wpList_mono (fun e a w h => h.later hx hg.rel.nodup) _ _ _ (h a w ⟨hg.size, hg.defers, fun i x hi => let ⟨v, h1, h2⟩ := hg.env i x hi; ⟨v, h1, h2.mono hx hg.rel.nodup⟩, hg.rel.dropS hs⟩)
end
end Go.AL

namespace Go.AL
open Go.RowKit Go.NumSpec
def okLab (x : Lab) : Prop := x.1.length ≤ 9223372036854775807 ∧ x.2.length ≤ 9223372036854775807
def okCtr (c : Ctr) : Prop := fits3 c.req ∧ fits3 c.lim ∧ (∀ p ∈ c.ports, fits p) ∧ fits c.probe.1 ∧ fits c.probe.2
def okSpc (s : Spc) : Prop := (∀ c ∈ s.init, okCtr c) ∧ (∀ c ∈ s.main, okCtr c) ∧ fits s.restart ∧ fits s.grace ∧ fits s.prio
end Go.AL

namespace Go.AL
theorem tabIs_of_mem {P : Program} {W : World} {name : String} {k : IntKind} {zs : List Int} {g : Nat} {t e : TypeId} {n : Nat}
    (hg : P.globalNamed name = some g) (hty : (P.globals[g]?).map (·.type) = some t) (ht : P.underlying t = some (.array n e)) (he : P.underlying e = some (.int k)) (hce : P.cellsOf e = 1) (hct : P.cellsOf t = n) :
    ∀ {l : List (String × DataW Unit)} {ps : List MemPlace}, (name, Lib.tabData k zs) ∈ l → DataW.LaidVars P W l ps → Lib.TabIs P W name k zs
  | [], _, hm, _ => nomatch hm
  | (m, d) :: r, _, hm, h => by
    obtain ⟨g', t', cs, fuel, p, q, hg', ht', hvar, hd, hr, _⟩ := h
    rcases List.mem_cons.1 hm with hm | hm
    · cases hm
      obtain rfl := Option.some.inj (hg.symm.trans hg')
      obtain rfl := Option.some.inj (hty.symm.trans ht')
      unfold Lib.TabIs
      rw [hvar, ← Lib.cells_of_tab ht he hce hct hd]
    · exact tabIs_of_mem hg hty ht he hce hct hm hr
theorem tabIs_of_laid {P : Program} {W : World} {name : String} {k : IntKind} {zs : List Int} {g : Nat} {t e : TypeId} {n : Nat}
    (hg : P.globalNamed name = some g) (hty : (P.globals[g]?).map (·.type) = some t) (ht : P.underlying t = some (.array n e)) (he : P.underlying e = some (.int k)) (hce : P.cellsOf e = 1) (hct : P.cellsOf t = n)
    {l : List (String × DataW Unit)} (hm : (name, Lib.tabData k zs) ∈ l) (h : laidMet P l W) : Lib.TabIs P W name k zs := by
  obtain ⟨ps, h1, _⟩ := h
  exact tabIs_of_mem hg hty ht he hce hct hm h1
end Go.AL
