/- A part of the proof: laws of the logic and of the data, no program in sight.
Conditions: none beyond each theorem's own. -/
import Derived.Test.YtcbnokpgklmndaaGreatDoorL2
import Derived.Lib.Join
import Derived.Laws.MakeOwn
import Derived.Lib.Bytealg
import Derived.LaidMore
import Derived.Lib.LaidTab
import Derived.OpenShut
/-
The document's codes and paths of specs, against the errors of package spec.
Conditions: none; no program is in sight.
-/
set_option linter.unusedVariables false
set_option linter.unusedSimpArgs false
namespace Go.AL
open Go.RowKit Go.NumSpec
def erText (e : Er) : List UInt8 := Lib.join (erPath e) [46]
theorem join_two (a b : List UInt8) : Lib.join [a, b] [46] = a ++ [46] ++ b := by
  rw [Lib.join_cons]; simp [Lib.joinTail]
theorem join_more (a : List UInt8) {l : List (List UInt8)} (h : l ≠ []) : Lib.join (a :: l) [46] = a ++ [46] ++ Lib.join l [46] := by
  cases l with
  | nil => exact absurd rfl h
  | cons b l => rw [Lib.join_cons, Lib.join_cons]; simp [Lib.joinTail]
/-- An error with a code and a path. -/
def WellE (e : Er) : Prop := ∀ c ps, e = some (c, ps) → c ≠ 0 ∧ ps ≠ []
theorem well_none : WellE none := fun c ps h => by cases h
theorem well_some {c : Int} {ps : List (List UInt8)} (h : c ≠ 0) (h' : ps ≠ []) : WellE (some (c, ps)) := fun d qs e => by cases e; exact ⟨h, h'⟩
theorem well_new {c : Int} {ps : List (List UInt8)} (h' : ps ≠ []) : WellE (erNew c ps) := by
  unfold erNew; split
  · exact well_none
  · rename_i h; exact well_some h h'
theorem well_in {e : Er} (h : WellE e) (p : List UInt8) : WellE (erIn e p) := by
  cases e with
  | none => exact well_none
  | some x => obtain ⟨c, ps⟩ := x; exact well_some (h c ps rfl).1 (by simp)
theorem well_first : ∀ {es : List Er}, (∀ e ∈ es, WellE e) → WellE (firstE es)
  | [], _ => well_none
  | none :: es, h => well_first (es := es) fun e he => h e (List.mem_cons_of_mem _ he)
  | some x :: es, h => h (some x) List.mem_cons_self
theorem well_each {n : Nat} {f : Nat → Er} (h : ∀ i, i < n → WellE (f i)) : WellE (eachE n f) := well_first fun e he => by
  obtain ⟨i, hi, rfl⟩ := List.mem_map.1 he
  exact h i (List.mem_range.1 hi)
theorem well_within (name : List UInt8) (n lo hi : Int) : WellE (withinE name n lo hi) := by
  unfold withinE; split
  · exact well_some (by decide) (by simp)
  · exact well_none
theorem well_atMost (name : List UInt8) (n lo hi : Int) : WellE (atMostE name n lo hi) := by
  unfold atMostE; split
  · exact well_some (by decide) (by simp)
  · exact well_none
theorem well_most (name : List UInt8) (n lo : Int) : WellE (mostE name n lo) := by
  unfold mostE; split
  · exact well_none
  · exact well_within _ _ _ _
theorem well_key (l : List Lab) (i : Nat) : WellE (keyE l i) := by
  unfold keyE; split
  · exact well_some (by decide) (by simp)
  · exact well_new (by simp)
theorem well_label (name : List UInt8) (l : List Lab) (i : Nat) : WellE (labelE name l i) := well_in (well_first (by
  intro e he; simp only [List.mem_cons, List.not_mem_nil, or_false] at he
  rcases he with rfl | rfl
  · exact well_key _ _
  · exact well_new (by simp))) _
theorem well_labels (name : List UInt8) (l : List Lab) : WellE (labelsE name l) := by
  cases ha : atMostE name (l.length : Int) 0 4 with
  | some x => rw [labelsE_bad (by rw [ha]; simp)]; exact well_atMost _ _ _ _
  | none => rw [labelsE_good ha]; exact well_each fun i _ => well_label _ _ _
theorem well_name (ns : List (List UInt8)) (s : List UInt8) : WellE (nameE ns s) := by
  unfold nameE; split
  · exact well_some (by decide) (by simp)
  · exact well_new (by simp)
theorem well_req (r : Tri) : WellE (reqE r) := well_in (well_first (by
  intro e he; simp only [List.mem_cons, List.not_mem_nil, or_false] at he
  rcases he with rfl | rfl | rfl <;> exact well_within _ _ _ _)) _
theorem well_lim (l r : Tri) : WellE (limE l r) := well_in (well_first (by
  intro e he; simp only [List.mem_cons, List.not_mem_nil, or_false] at he
  rcases he with rfl | rfl | rfl <;> exact well_most _ _ _)) _
theorem well_probe (p : Int × Int) (every : Int) : WellE (probeE p every) := well_in (well_first (by
  intro e he; simp only [List.mem_cons, List.not_mem_nil, or_false] at he
  rcases he with rfl | rfl <;> exact well_within _ _ _ _)) _
theorem well_portAt (ps l : List Int) (i : Nat) : WellE (portAt ps l i) := by
  unfold portAt; split
  · exact well_some (by decide) (by simp)
  · exact well_within _ _ _ _
theorem well_port (ps l : List Int) (n : Int) : WellE (portE ps l n) := by
  cases ha : atMostE portsN (l.length : Int) 0 n with
  | some x => rw [portE_bad (by rw [ha]; simp)]; exact well_atMost _ _ _ _
  | none => rw [portE_good ha]; exact well_each fun i _ => well_portAt _ _ _
theorem well_ctr (ns : List (List UInt8)) (ps : List Int) (c : Ctr) (a b : Int) : WellE (ctrE ns ps c a b) := well_first (by
  intro e he; simp only [List.mem_cons, List.not_mem_nil, or_false] at he
  rcases he with rfl | rfl | rfl | rfl | rfl | rfl
  · exact well_name _ _
  · exact well_new (by simp)
  · exact well_req _
  · exact well_lim _ _
  · exact well_port _ _ _
  · exact well_probe _ _)
theorem well_ctrs (name : List UInt8) (ns : List (List UInt8)) (ps : List Int) (l : List Ctr) (a b : Int) : WellE (ctrsE name ns ps l a b) := well_each fun i hi => by
  rw [ctrAt_at hi]; exact well_in (well_ctr _ _ _ _ _) _
theorem well_check (s : Spc) : WellE (checkE s) := by
  unfold checkE
  split
  · rename_i x h; rw [← h]
    refine well_first fun e he => ?_
    simp only [List.mem_cons, List.not_mem_nil, or_false] at he
    rcases he with rfl | rfl | rfl
    · exact well_new (by simp)
    · exact well_labels _ _
    · exact well_atMost _ _ _ _
  · split
    · rename_i x h; rw [← h]
      refine well_first fun e he => ?_
      simp only [List.mem_cons, List.not_mem_nil, or_false] at he
      rcases he with rfl | rfl
      · exact well_ctrs _ _ _ _ _ _
      · exact well_atMost _ _ _ _
    · refine well_first fun e he => ?_
      simp only [List.mem_cons, List.not_mem_nil, or_false] at he
      rcases he with rfl | rfl | rfl | rfl
      · exact well_ctrs _ _ _ _ _ _
      · exact well_within _ _ _ _
      · exact well_within _ _ _ _
      · exact well_within _ _ _ _
theorem WellE.code {e : Er} (h : WellE e) : erCode e = 0 ↔ e = none := by
  cases e with
  | none => simp [erCode]
  | some x => obtain ⟨c, ps⟩ := x; simp [erCode, (h c ps rfl).1]
theorem WellE.isNone {e : Er} (h : WellE e) : e.isNone = decide (erCode e = 0) := by
  cases e with
  | none => simp [erCode]
  | some x => obtain ⟨c, ps⟩ := x; simp [erCode, (h c ps rfl).1]
theorem WellE.text_in {e : Er} (h : WellE e) (p : List UInt8) (hn : e ≠ none) : erText (erIn e p) = p ++ [46] ++ erText e := by
  cases e with
  | none => exact absurd rfl hn
  | some x => obtain ⟨c, ps⟩ := x; exact join_more p (h c ps rfl).2
/-! numbers -/
def badN (n lo : Int) (free : Bool) : Bool := (!free || !decide (n = 0)) && (decide (n < lo) || decide (1099511627776 < n))
def numsI (n lo : Tri) (free : Bool) : Int := if badN n.1 lo.1 free = true then 0 else if badN n.2.1 lo.2.1 free = true then 1 else if badN n.2.2 lo.2.2 free = true then 2 else -1
abbrev numN : List (List UInt8) := [[99, 112, 117], [109, 101, 109], [112, 105, 100, 115]]
theorem numsI_range (n lo : Tri) (free : Bool) : -1 ≤ numsI n lo free ∧ numsI n lo free < 3 := by
  unfold numsI
  cases badN n.1 lo.1 free <;> cases badN n.2.1 lo.2.1 free <;> cases badN n.2.2 lo.2.2 free <;> decide
theorem nums_at {n lo : Tri} {free : Bool} {k : Nat} (h : k < 3) (hb : badN (at3 n k) (at3 lo k) free = true) (hn : ∀ j, j < k → badN (at3 n j) (at3 lo j) free = false) : numsI n lo free = (k : Int) := by
  unfold numsI
  match k, h with
  | 0, _ => rw [show badN n.1 lo.1 free = true from hb]; rfl
  | 1, _ => rw [show badN n.1 lo.1 free = false from hn 0 (by decide), show badN n.2.1 lo.2.1 free = true from hb]; rfl
  | 2, _ => rw [show badN n.1 lo.1 free = false from hn 0 (by decide), show badN n.2.1 lo.2.1 free = false from hn 1 (by decide), show badN n.2.2 lo.2.2 free = true from hb]; rfl
theorem nums_none {n lo : Tri} {free : Bool} (hn : ∀ j, j < 3 → badN (at3 n j) (at3 lo j) free = false) : numsI n lo free = -1 := by
  unfold numsI
  rw [show badN n.1 lo.1 free = false from hn 0 (by decide), show badN n.2.1 lo.2.1 free = false from hn 1 (by decide), show badN n.2.2 lo.2.2 free = false from hn 2 (by decide)]; rfl
theorem within_bad (name : List UInt8) (n lo : Int) : withinE name n lo 1099511627776 = if badN n lo false = true then some (1, [name]) else none := by
  unfold withinE badN
  by_cases h : n < lo ∨ 1099511627776 < n
  · rw [if_pos h, if_pos (by simpa using h)]
  · rw [if_neg h, if_neg (by simpa using h)]
theorem most_bad (name : List UInt8) (n lo : Int) : mostE name n lo = if badN n lo true = true then some (1, [name]) else none := by
  unfold mostE
  by_cases h0 : n = 0
  · rw [if_pos h0, if_neg (by simp [badN, h0])]
  · rw [if_neg h0, within_bad]
    simp [badN, h0]
theorem first3 (a b c : Bool) (p : List UInt8) : erIn (firstE [if a = true then some (1, [[99, 112, 117]]) else none, if b = true then some (1, [[109, 101, 109]]) else none, if c = true then some (1, [[112, 105, 100, 115]]) else none]) p =
    if a = true then some (1, [p, [99, 112, 117]]) else if b = true then some (1, [p, [109, 101, 109]]) else if c = true then some (1, [p, [112, 105, 100, 115]]) else none := by
  cases a <;> cases b <;> cases c <;> rfl
theorem req_nums (r : Tri) : reqE r = if 0 ≤ numsI r (0, 0, 0) false then some (1, [[114, 101, 113], numN.getD (numsI r (0, 0, 0) false).toNat []]) else none := by
  unfold reqE
  rw [within_bad, within_bad, within_bad, first3]
  unfold numsI
  cases badN r.1 (0, 0, 0).1 false <;> cases badN r.2.1 (0, 0, 0).2.1 false <;> cases badN r.2.2 (0, 0, 0).2.2 false <;> rfl
theorem lim_nums (l r : Tri) : limE l r = if 0 ≤ numsI l r true then some (1, [[108, 105, 109], numN.getD (numsI l r true).toNat []]) else none := by
  unfold limE
  rw [most_bad, most_bad, most_bad, first3]
  unfold numsI
  cases badN l.1 r.1 true <;> cases badN l.2.1 r.2.1 true <;> cases badN l.2.2 r.2.2 true <;> rfl

/-! one container -/
section
variable {ns : List (List UInt8)} {ps : List Int} {c : Ctr} {a b : Int} {x : Int × List (List UInt8)}
abbrev imgE (c : Ctr) : Er := erNew (saysV (tparts c.image).2.2 33) [[105, 109, 97, 103, 101]]
theorem one_1 (h : nameE ns c.name = some x) : ctrE ns ps c a b = some x := by unfold ctrE; rw [h]; rfl
theorem one_2 (h1 : nameE ns c.name = none) (h : imgE c = some x) : ctrE ns ps c a b = some x := by unfold ctrE; rw [h1]; show firstE [imgE c, _, _, _, _] = _; rw [h]; rfl
theorem one_3 (h1 : nameE ns c.name = none) (h2 : imgE c = none) (h : reqE c.req = some x) : ctrE ns ps c a b = some x := by unfold ctrE; rw [h1]; show firstE [imgE c, _, _, _, _] = _; rw [h2, h]; rfl
theorem one_4 (h1 : nameE ns c.name = none) (h2 : imgE c = none) (h3 : reqE c.req = none) (h : limE c.lim c.req = some x) : ctrE ns ps c a b = some x := by unfold ctrE; rw [h1]; show firstE [imgE c, _, _, _, _] = _; rw [h2, h3, h]; rfl
theorem one_5 (h1 : nameE ns c.name = none) (h2 : imgE c = none) (h3 : reqE c.req = none) (h4 : limE c.lim c.req = none) (h : portE ps c.ports a = some x) : ctrE ns ps c a b = some x := by unfold ctrE; rw [h1]; show firstE [imgE c, _, _, _, _] = _; rw [h2, h3, h4, h]; rfl
theorem one_6 (h1 : nameE ns c.name = none) (h2 : imgE c = none) (h3 : reqE c.req = none) (h4 : limE c.lim c.req = none) (h5 : portE ps c.ports a = none) : ctrE ns ps c a b = probeE c.probe b := by unfold ctrE; rw [h1]; show firstE [imgE c, _, _, _, _] = _; rw [h2, h3, h4, h5]; show firstE [probeE c.probe b] = _; cases probeE c.probe b <;> rfl
theorem nameE_bad (h : nameV c.name = false) : nameE ns c.name = some (30, [nameN]) := by
  unfold nameE; rw [if_neg (by rw [h]; simp [saysV, erNew]), h]; rfl
theorem nameE_there (h : nameV c.name = true) (h' : c.name ∈ ns) : nameE ns c.name = some (7, [nameN]) := by
  unfold nameE; rw [if_pos ⟨by rw [h]; rfl, h'⟩]
theorem nameE_ok (h : nameV c.name = true) (h' : c.name ∉ ns) : nameE ns c.name = none := nameE_in (by rw [h]; rfl) h'
theorem probe_every {p : Int × Int} {every : Int} (h : p.1 < 0 ∨ every < p.1) : probeE p every = some (1, [[112, 114, 111, 98, 101], [101, 118, 101, 114, 121]]) := by
  unfold probeE; rw [show withinE [101, 118, 101, 114, 121] p.1 0 every = some (1, [[101, 118, 101, 114, 121]]) by unfold withinE; rw [if_pos h]]; rfl
theorem probe_rest {p : Int × Int} {every : Int} (h : ¬ (p.1 < 0 ∨ every < p.1)) : probeE p every = if (p.1 = 0 ∧ p.2 ≠ 0) ∨ (p.1 ≠ 0 ∧ (p.2 < 1 ∨ 10 < p.2)) then some (1, [[112, 114, 111, 98, 101], [102, 97, 105, 108, 115]]) else none := by
  unfold probeE; rw [show withinE [101, 118, 101, 114, 121] p.1 0 every = none by unfold withinE; rw [if_neg h]]
  by_cases h0 : p.1 = 0
  · simp only [h0, if_true]
    by_cases h2 : p.2 = 0
    · rw [h2, if_neg (by simp)]; rfl
    · rw [if_pos (.inl ⟨trivial, h2⟩), show withinE [102, 97, 105, 108, 115] p.2 0 0 = some (1, [[102, 97, 105, 108, 115]]) by unfold withinE; rw [if_pos (by omega)]]; rfl
  · simp only [h0, if_false]
    by_cases h2 : p.2 < 1 ∨ 10 < p.2
    · rw [if_pos (.inr ⟨h0, h2⟩), show withinE [102, 97, 105, 108, 115] p.2 1 10 = some (1, [[102, 97, 105, 108, 115]]) by unfold withinE; rw [if_pos h2]]; rfl
    · rw [if_neg (fun hh => hh.elim (fun k => k.1.elim) fun k => h2 k.2), show withinE [102, 97, 105, 108, 115] p.2 1 10 = none by unfold withinE; rw [if_neg h2]]; rfl
end
/-- A code and a path, as values. -/
abbrev cpAV (e : Er) : AV := .tup [.int .i64 (erCode e), .S (erText e)]
theorem cp_some {e : Er} {c : Int} {ps : List (List UInt8)} {t : List UInt8} (h : e = some (c, ps)) (ht : t = Lib.join ps [46]) : AV.tup [.int .i64 c, .S t] = cpAV e := by subst h; subst ht; rfl
theorem cp_none {e : Er} (h : e = none) : AV.tup [.int .i64 0, .S []] = cpAV e := by subst h; rfl
end Go.AL

/-
The document's codes and paths of specs: one label, one port.
Conditions: none; no program is in sight.
-/
set_option linter.unusedVariables false
set_option linter.unusedSimpArgs false
namespace Go.AL
open Go.RowKit Go.NumSpec
theorem atT_len {name : List UInt8} (h : name.length ≤ 1000000) {i : Int} (hi : fits i) : (atT name i).length ≤ 1000100 := by
  have := textL_len hi
  unfold atT
  simp only [List.length_append, List.length_cons, List.length_nil]
  omega
theorem u8_lt (a b : UInt8) : a < b ↔ a.toNat < b.toNat := UInt8.lt_iff_toNat_lt
theorem bytesLess_ge : ∀ {a b : List UInt8}, Op.bytesLess b a = false → Op.bytesLess a b = true ∨ a = b
  | [], [], _ => .inr rfl
  | [], _ :: _, _ => .inl rfl
  | _ :: _, [], h => by cases h
  | x :: a, y :: b, h => by
    unfold Op.bytesLess at h ⊢
    simp only [Bool.or_eq_false_iff, decide_eq_false_iff_not, Bool.and_eq_false_iff, beq_eq_false_iff_ne, ne_eq] at h
    simp only [Bool.or_eq_true, decide_eq_true_eq, Bool.and_eq_true, beq_iff_eq, List.cons.injEq]
    obtain ⟨h1, h2⟩ := h
    rw [u8_lt] at h1
    by_cases hxy : x = y
    · subst hxy
      rcases h2 with h2 | h2
      · exact absurd rfl h2
      · rcases bytesLess_ge h2 with k | k
        · exact .inl (.inr ⟨rfl, k⟩)
        · exact .inr ⟨rfl, k⟩
    · have : x.toNat ≠ y.toNat := fun e => hxy (UInt8.toNat_inj.1 e)
      exact .inl (.inl (by rw [u8_lt]; omega))
theorem bytesLess_lt : ∀ {a b : List UInt8}, Op.bytesLess b a = true → Op.bytesLess a b = false ∧ a ≠ b
  | [], b, h => by cases b <;> simp [Op.bytesLess] at h
  | _ :: _, [], _ => ⟨rfl, by simp⟩
  | x :: a, y :: b, h => by
    unfold Op.bytesLess at h ⊢
    simp only [Bool.or_eq_true, decide_eq_true_eq, Bool.and_eq_true, beq_iff_eq] at h
    simp only [Bool.or_eq_false_iff, decide_eq_false_iff_not, Bool.and_eq_false_iff, beq_eq_false_iff_ne, ne_eq, List.cons.injEq, not_and]
    rcases h with h | ⟨h1, h2⟩
    · rw [u8_lt] at h
      refine ⟨⟨by rw [u8_lt]; omega, .inl fun e => by subst e; omega⟩, fun e => by subst e; omega⟩
    · subst h1
      obtain ⟨k1, k2⟩ := bytesLess_lt h2
      exact ⟨⟨by rw [u8_lt]; omega, .inr k1⟩, fun _ => k2⟩
section
variable {P : Program} {N : Nat} {env : Env} {st : St} {o : Oper}
theorem S_geS {t t2 : TypeId} {x y : Operand} {l m : List UInt8} (ho : o.op = .binOp .geq t x y t2) (hx : AEv env x (.S l)) (hy : AEv env y (.S m)) : PStep P N o env st (.bool (!Op.bytesLess l m)) :=
  S_bin ho hx hy rfl fun w => by simp only [binOp, Op.stringOp, toList_S]; rfl
end
section
variable {l : List Lab} {i : Nat} {name : List UInt8}
theorem getD_lab (h : i < l.length) : l.getD i ([], []) = l[i] := by rw [List.getD_eq_getElem?_getD, List.getElem?_eq_getElem h]; rfl
theorem label_ok (h : i < l.length) (h1 : namesR 2 (l[i]'h).1 = true) (h2 : ∀ h : 0 < i, Op.bytesLess (l[i - 1]'(by omega)).1 (l[i]'(by omega)).1 = true) (h3 : valV (l[i]'h).2 = true) : labelE name l i = none := by
  have hk : keyE l i = none := by
    unfold keyE
    rw [getD_lab h, if_neg]
    · rw [h1]; rfl
    · rintro ⟨_, k1, k2⟩
      rw [getD_lab (show i - 1 < l.length by omega)] at k2
      obtain ⟨q1, q2⟩ := bytesLess_lt (h2 k1)
      rw [q1] at k2
      simp at k2
      exact q2 k2
  unfold labelE
  rw [hk, getD_lab h, h3]; rfl
theorem label_key (h : i < l.length) (h1 : namesR 2 (l[i]'h).1 = false) : labelE name l i = some (31, [atT name (i : Int), [107, 101, 121]]) := by
  have hk : keyE l i = some (31, [[107, 101, 121]]) := by
    unfold keyE
    rw [getD_lab h, if_neg (by rw [h1]; rintro ⟨k, _⟩; cases k), h1]; rfl
  unfold labelE
  rw [hk]; rfl
theorem label_order (h : i < l.length) (h1 : namesR 2 (l[i]'h).1 = true) (h0 : 0 < i) (h2 : Op.bytesLess (l[i - 1]'(by omega)).1 (l[i]'h).1 = false) : labelE name l i = some (4, [atT name (i : Int), [107, 101, 121]]) := by
  have hk : keyE l i = some (4, [[107, 101, 121]]) := by
    unfold keyE
    rw [getD_lab h, getD_lab (show i - 1 < l.length by omega), if_pos]
    refine ⟨by rw [h1]; rfl, h0, ?_⟩
    rcases bytesLess_ge h2 with k | k
    · rw [k]; rfl
    · rw [k]; simp
  unfold labelE
  rw [hk]; rfl
theorem label_val (h : i < l.length) (h1 : namesR 2 (l[i]'h).1 = true) (h2 : ∀ h : 0 < i, Op.bytesLess (l[i - 1]'(by omega)).1 (l[i]'(by omega)).1 = true) (h3 : valV (l[i]'h).2 = false) : labelE name l i = some (32, [atT name (i : Int), [118, 97, 108]]) := by
  have hk : keyE l i = none := by
    unfold keyE
    rw [getD_lab h, if_neg]
    · rw [h1]; rfl
    · rintro ⟨_, k1, k2⟩
      rw [getD_lab (show i - 1 < l.length by omega)] at k2
      obtain ⟨q1, q2⟩ := bytesLess_lt (h2 k1)
      rw [q1] at k2
      simp at k2
      exact q2 k2
  unfold labelE
  rw [hk, getD_lab h, h3]; rfl
end
section
variable {ps l : List Int} {i : Nat} {n : Int}
theorem getD_port (h : i < l.length) : l.getD i 0 = l[i] := by rw [List.getD_eq_getElem?_getD, List.getElem?_eq_getElem h]; rfl
theorem portAt_ok (h : i < l.length) (h1 : 1 ≤ l[i] ∧ l[i] ≤ 65535) (h2 : l[i] ∉ ps ++ l.take i) : portAt ps l i = none :=
  portAt_in (by unfold withinE; rw [getD_port h, if_neg (by omega)]) (by rw [getD_port h]; exact h2)
theorem portAt_range (h : i < l.length) (h1 : l[i] < 1 ∨ 65535 < l[i]) : portAt ps l i = some (1, [atT portsN (i : Int)]) := by
  unfold portAt
  rw [getD_port h, show withinE (atT portsN (i : Int)) l[i] 1 65535 = some (1, [atT portsN (i : Int)]) by unfold withinE; rw [if_pos h1], if_neg (by rintro ⟨k, _⟩; cases k)]
theorem portAt_there (h : i < l.length) (h1 : 1 ≤ l[i] ∧ l[i] ≤ 65535) (h2 : l[i] ∈ ps ++ l.take i) : portAt ps l i = some (150, [atT portsN (i : Int)]) := by
  unfold portAt
  rw [getD_port h, show withinE (atT portsN (i : Int)) l[i] 1 65535 = none by unfold withinE; rw [if_neg (by omega)], if_pos ⟨rfl, h2⟩]
theorem port_many (h : n < (l.length : Int)) : portE ps l n = some (2, [portsN]) := by
  rw [portE_bad (by unfold atMostE; rw [if_pos (.inr h)]; simp)]; unfold atMostE; rw [if_pos (.inr h)]
theorem port_at (hm : atMostE portsN (l.length : Int) 0 n = none) (h : i < l.length) {x : Int × List (List UInt8)} (hx : portAt ps l i = some x) (hn : ∀ j, j < i → portAt ps l j = none) : portE ps l n = some x := by rw [portE_good hm, eachE_at h hx hn]
end
theorem num_text (a : List UInt8) {k : Nat} (h : k < numN.length) : (a ++ [46]) ++ numN[k] = a ++ [46] ++ numN.getD k [] := by
  rw [List.getD_eq_getElem?_getD, List.getElem?_eq_getElem h]; rfl
theorem num_len {k : Nat} (h : k < numN.length) : (numN[k]'h).length ≤ 4 := by
  match k, h with
  | 0, _ => exact Nat.le_of_ble_eq_true rfl
  | 1, _ => exact Nat.le_of_ble_eq_true rfl
  | 2, _ => exact Nat.le_of_ble_eq_true rfl
end Go.AL
namespace Go.AL
open Go.RowKit Go.NumSpec
theorem seen_names (a b : List Ctr) (i : Nat) : namesTo (namesTo [] a a.length) b i = (a ++ b.take i).map Ctr.name := by
  unfold namesTo; rw [List.take_length, List.map_append]; rfl
theorem seen_ports (a b : List Ctr) (i : Nat) : portsTo (portsTo [] a a.length) b i = (a ++ b.take i).flatMap Ctr.ports := by
  unfold portsTo; rw [List.take_length, List.flatMap_append]; rfl
theorem firstE_hd {x : Int × List (List UInt8)} {es : List Er} {e : Er} (h : e = some x) : firstE (e :: es) = some x := by subst h; rfl
theorem firstE_tl {es : List Er} {e : Er} (h : e = none) : firstE (e :: es) = firstE es := by subst h; rfl
theorem cp_in {e f : Er} {p t : List UInt8} (hw : WellE f) (hn : f ≠ none) (h : e = erIn f p) (ht : t = p ++ [46] ++ erText f) : AV.tup [.int .i64 (erCode f), .S t] = cpAV e := by
  subst h
  rw [ht, ← hw.text_in p hn]
  cases f with
  | none => exact absurd rfl hn
  | some x => rfl
theorem erText_len {e : Er} {n : Nat} (h : ∀ c ps, e = some (c, ps) → (Lib.join ps [46]).length ≤ n) : (erText e).length ≤ n := by
  cases e with
  | none => simp [erText, erPath, Lib.join_nil]
  | some x => obtain ⟨c, ps⟩ := x; exact h c ps rfl
end Go.AL
namespace Go.AL
open Go.RowKit Go.NumSpec
/-- A path whose text has so many bytes at most. -/
def ShortE (n : Nat) (e : Er) : Prop := ∀ c ps, e = some (c, ps) → (Lib.join ps [46]).length ≤ n
theorem short_none (n : Nat) : ShortE n none := fun c ps h => by cases h
theorem short_one {n : Nat} {c : Int} {p : List UInt8} (h : p.length ≤ n) : ShortE n (some (c, [p])) := fun d qs e => by cases e; rw [Lib.join_one]; exact h
theorem short_new {n : Nat} {c : Int} {p : List UInt8} (h : p.length ≤ n) : ShortE n (erNew c [p]) := by
  unfold erNew; split
  · exact short_none n
  · exact short_one h
theorem ShortE.mono {n m : Nat} {e : Er} (h : ShortE n e) (k : n ≤ m) : ShortE m e := fun c ps he => Nat.le_trans (h c ps he) k
theorem short_in {n : Nat} {e : Er} (h : ShortE n e) (p : List UInt8) : ShortE (p.length + 1 + n) (erIn e p) := by
  cases e with
  | none => exact short_none _
  | some x =>
    obtain ⟨c, ps⟩ := x
    intro d qs he
    cases he
    by_cases hp : ps = []
    · subst hp; rw [Lib.join_one]; omega
    · rw [join_more p hp]
      have := h c ps rfl
      simp only [List.length_append, List.length_cons, List.length_nil]
      omega
theorem short_first {n : Nat} : ∀ {es : List Er}, (∀ e ∈ es, ShortE n e) → ShortE n (firstE es)
  | [], _ => short_none n
  | none :: es, h => short_first (es := es) fun e he => h e (List.mem_cons_of_mem _ he)
  | some x :: es, h => h (some x) List.mem_cons_self
theorem short_each {n k : Nat} {f : Nat → Er} (h : ∀ i, i < k → ShortE n (f i)) : ShortE n (eachE k f) := short_first fun e he => by
  obtain ⟨i, hi, rfl⟩ := List.mem_map.1 he
  exact h i (List.mem_range.1 hi)
theorem short_within {name : List UInt8} {n : Nat} (h : name.length ≤ n) (a lo hi : Int) : ShortE n (withinE name a lo hi) := by
  unfold withinE; split
  · exact short_one h
  · exact short_none _
theorem short_atMost {name : List UInt8} {n : Nat} (h : name.length ≤ n) (a lo hi : Int) : ShortE n (atMostE name a lo hi) := by
  unfold atMostE; split
  · exact short_one h
  · exact short_none _
theorem short_most {name : List UInt8} {n : Nat} (h : name.length ≤ n) (a lo : Int) : ShortE n (mostE name a lo) := by
  unfold mostE; split
  · exact short_none _
  · exact short_within h _ _ _
theorem short_name {n : Nat} (h : 4 ≤ n) (ns : List (List UInt8)) (s : List UInt8) : ShortE n (nameE ns s) := by
  unfold nameE; split
  · exact short_one h
  · exact short_new h
theorem short_req (r : Tri) : ShortE 8 (reqE r) := short_in (p := [114, 101, 113]) (short_first (n := 4) (by
  intro e he; simp only [List.mem_cons, List.not_mem_nil, or_false] at he
  rcases he with rfl | rfl | rfl <;> exact short_within (by decide) _ _ _))
theorem short_lim (l r : Tri) : ShortE 8 (limE l r) := short_in (p := [108, 105, 109]) (short_first (n := 4) (by
  intro e he; simp only [List.mem_cons, List.not_mem_nil, or_false] at he
  rcases he with rfl | rfl | rfl <;> exact short_most (by decide) _ _))
theorem short_probe (p : Int × Int) (every : Int) : ShortE 11 (probeE p every) := short_in (p := [112, 114, 111, 98, 101]) (short_first (n := 5) (by
  intro e he; simp only [List.mem_cons, List.not_mem_nil, or_false] at he
  rcases he with rfl | rfl <;> exact short_within (by decide) _ _ _))
theorem at_short {name : List UInt8} (h : name.length ≤ 100) {i n : Nat} (hi : i < n) (hn : n ≤ 1000000) : (atT name (i : Int)).length ≤ 200 := by
  have := textL_len (a := (i : Int)) (by unfold fits; omega)
  unfold atT
  simp only [List.length_append, List.length_cons, List.length_nil]
  omega
theorem short_port {ps l : List Int} {n : Int} (hl : l.length ≤ 1000000) : ShortE 200 (portE ps l n) := by
  cases ha : atMostE portsN (l.length : Int) 0 n with
  | some x => rw [portE_bad (by rw [ha]; simp)]; exact short_atMost (by decide) _ _ _
  | none =>
    rw [portE_good ha]
    refine short_each fun i hi => ?_
    have := at_short (name := portsN) (by decide) hi hl
    unfold portAt; split
    · exact short_one this
    · exact short_within this _ _ _
theorem short_ctr {ns : List (List UInt8)} {ps : List Int} {c : Ctr} {a b : Int} (hl : c.ports.length ≤ 1000000) : ShortE 200 (ctrE ns ps c a b) := short_first (by
  intro e he; simp only [List.mem_cons, List.not_mem_nil, or_false] at he
  rcases he with rfl | rfl | rfl | rfl | rfl | rfl
  · exact short_name (by decide) _ _
  · exact short_new (by decide)
  · exact (short_req _).mono (by decide)
  · exact (short_lim _ _).mono (by decide)
  · exact short_port hl
  · exact (short_probe _ _).mono (by decide))
theorem ShortE.text {n : Nat} {e : Er} (h : ShortE n e) : (erText e).length ≤ n := erText_len h
theorem short_ctrs {name : List UInt8} {ns : List (List UInt8)} {ps : List Int} {l : List Ctr} {a b : Int} (hn : name.length ≤ 100) (hl : l.length ≤ 1000000) (hp : ∀ c ∈ l, c.ports.length ≤ 1000000) : ShortE 500 (ctrsE name ns ps l a b) := short_each fun i hi => by
  rw [ctrAt_at hi]
  have h1 := at_short (name := name) (by omega) hi hl
  exact (short_in (short_ctr (hp _ (List.getElem_mem hi))) _).mono (by omega)
theorem short_label {name : List UInt8} {l : List Lab} {i : Nat} (h : (atT name (i : Int)).length ≤ 200) : ShortE 210 (labelE name l i) := (short_in (n := 3) (short_first (by
  intro e he; simp only [List.mem_cons, List.not_mem_nil, or_false] at he
  rcases he with rfl | rfl
  · unfold keyE; split
    · exact short_one (by decide)
    · exact short_new (by decide)
  · exact short_new (by decide))) _).mono (by omega)
theorem short_labels {name : List UInt8} {l : List Lab} (hn : name.length ≤ 100) (hl : l.length ≤ 1000000) : ShortE 210 (labelsE name l) := by
  cases ha : atMostE name (l.length : Int) 0 4 with
  | some x => rw [labelsE_bad (by rw [ha]; simp)]; exact short_atMost (by omega) _ _ _
  | none => rw [labelsE_good ha]; exact short_each fun i hi => short_label (at_short hn hi hl)
theorem short_check {s : Spc} (h1 : s.labels.length ≤ 1000000) (h2 : s.init.length ≤ 1000000) (h3 : s.main.length ≤ 1000000) (h4 : ∀ c ∈ s.init, c.ports.length ≤ 1000000) (h5 : ∀ c ∈ s.main, c.ports.length ≤ 1000000) : ShortE 500 (checkE s) := by
  unfold checkE
  split
  · rename_i x h; rw [← h]
    refine short_first fun e he => ?_
    simp only [List.mem_cons, List.not_mem_nil, or_false] at he
    rcases he with rfl | rfl | rfl
    · exact short_new (by decide)
    · exact (short_labels (by decide) h1).mono (by decide)
    · exact short_atMost (by decide) _ _ _
  · split
    · rename_i x h; rw [← h]
      refine short_first fun e he => ?_
      simp only [List.mem_cons, List.not_mem_nil, or_false] at he
      rcases he with rfl | rfl
      · exact short_ctrs (by decide) h2 h4
      · exact short_atMost (by decide) _ _ _
    · refine short_first fun e he => ?_
      simp only [List.mem_cons, List.not_mem_nil, or_false] at he
      rcases he with rfl | rfl | rfl | rfl
      · exact short_ctrs (by decide) h3 h5
      · exact short_within (by decide) _ _ _
      · exact short_within (by decide) _ _ _
      · exact short_within (by decide) _ _ _
theorem join_count (l : List (List UInt8)) : l.length ≤ (Lib.join l [46]).length + 1 := by
  cases l with
  | nil => simp
  | cons x r => rw [Lib.join_length]; simp only [List.length_cons, List.length_nil]; omega
theorem ShortE.path {n : Nat} {e : Er} (h : ShortE n e) : (erPath e).length ≤ n + 1 := by
  cases e with
  | none => simp [erPath]
  | some x => obtain ⟨c, ps⟩ := x; have h1 := h c ps rfl; have h2 := join_count ps; show ps.length ≤ _; omega
end Go.AL
namespace Go.AL
open Go.RowKit Go.NumSpec
abbrev onlyL (l : List Lab) : Spc := ⟨[], l, [], [], 0, 0, 0⟩
theorem onlyL_light {l : List Lab} (h : lightS (onlyL l) = true) : l.length ≤ 10 ∧ ∀ x ∈ l, x.1.length ≤ 100 ∧ x.2.length ≤ 100 := by
  obtain ⟨⟨_, h2, _⟩, h5, _⟩ := light_out h
  refine ⟨h2, fun x hx => ?_⟩
  have := h5 x hx
  unfold lightL at this
  exact of_decide_eq_true this
theorem check_short {s : Spc} (h : lightS s = true) : ShortE 500 (checkE s) := by
  obtain ⟨⟨h1, h2, h3, h4⟩, h5, h6, h7⟩ := light_out h
  exact short_check (by omega) (by omega) (by omega) (fun c hc => by have := (of_decide_eq_true (h6 c hc)).2.2; omega) fun c hc => by have := (of_decide_eq_true (h7 c hc)).2.2; omega
end Go.AL

/-
When lists, containers and specs are the same.
Conditions: none; no program is in sight.
-/
set_option linter.unusedVariables false
set_option linter.unusedSimpArgs false
namespace Go.AL
open Go.RowKit Go.NumSpec
section
variable {α : Type} {f : α → α → Bool}
end
def sameS (a b : Spc) : Bool := decide (a.name = b.name) && decide (a.labels = b.labels) && sameL exactC a.init b.init && sameL exactC a.main b.main && decide (a.restart = b.restart) && decide (a.grace = b.grace) && decide (a.prio = b.prio)
theorem sameS_iff {a b : Spc} : sameS a b = true ↔ a = b := by
  cases a; cases b
  simp only [sameS, Bool.and_eq_true, decide_eq_true_eq, Spc.mk.injEq, sameL_iff (fun a b => exactC_iff)]
  constructor
  · rintro ⟨⟨⟨⟨⟨⟨h1, h2⟩, h3⟩, h4⟩, h5⟩, h6⟩, h7⟩; exact ⟨h1, h2, h3, h4, h5, h6, h7⟩
  · rintro ⟨h1, h2, h3, h4, h5, h6, h7⟩; exact ⟨⟨⟨⟨⟨⟨h1, h2⟩, h3⟩, h4⟩, h5⟩, h6⟩, h7⟩
end Go.AL
namespace Go.AL
open Go.RowKit Go.NumSpec
/-- No list of it is too long to be walked. -/
def shortS (s : Spc) : Prop := s.labels.length ≤ 1000000 ∧ s.init.length ≤ 1000000 ∧ s.main.length ≤ 1000000 ∧ (∀ c ∈ s.init, c.ports.length ≤ 1000000) ∧ ∀ c ∈ s.main, c.ports.length ≤ 1000000
theorem light_short {s : Spc} (h : lightS s = true) : shortS s := by
  obtain ⟨⟨h1, h2, h3, h4⟩, h5, h6, h7⟩ := light_out h
  exact ⟨by omega, by omega, by omega, fun c hc => by have := (of_decide_eq_true (h6 c hc)).2.2; omega, fun c hc => by have := (of_decide_eq_true (h7 c hc)).2.2; omega⟩
end Go.AL

/-
The logic AL: loops and meetings where most of what was known stays known; slices read as lists of one's own values.
Conditions: none; no program is in sight.
-/
set_option linter.unusedVariables false
set_option linter.unusedSimpArgs false
namespace Go.AL
open Go.RowKit
section
variable {P : Program} {N : Nat} {Q : Post} {env : Env} {st : St}
theorem EnvLe.app {e a b : Env} (h : EnvLe e a) (k : EnvLe e b) : EnvLe e (a ++ b) := by
  induction h with
  | nil => exact k
  | cons h1 h2 _ ih => exact .cons h1 h2 ih

theorem AC_loopK {G : Type} {c : Code} (K : Env) (I : G → Prop) (vars : G → Env) (stI : G → St) (m : G → Nat) (g0 : G) (hI : I g0) (hst : Sub (stI g0) st) (hK : EnvLe env K) (henv : EnvLe env (vars g0))
    (round : ∀ g, I g → AC P N c (thenP (fun env' st' => ∃ g', I g' ∧ m g' < m g ∧ Sub (stI g') st' ∧ EnvLe env' (vars g') ∧ EnvLe env' K) Q) (vars g ++ K) (stI g)) : AC P N (.loop c) Q env st :=
  AC_loopS I (fun g => vars g ++ K) stI m g0 hI hst (henv.app hK) fun g hg => (round g hg).mono fun e env' st' hq => by
    cases e with
    | normal => obtain ⟨g', h1, h2, h3, h4, h5⟩ := hq; exact ⟨g', h1, h2, h3, h4.app h5⟩
    | _ => exact hq

theorem AC_joinK {G : Type} {x y : Code} (K : Env) (I : G → Prop) (vars : G → Env) (stI : G → St) (hK : EnvLe env K) (h : AC P N x (thenP (fun env' st' => ∃ g, I g ∧ Sub (stI g) st' ∧ EnvLe env' (vars g) ∧ EnvLe env' K) Q) env st)
    (hy : ∀ g, I g → AC P N y Q (vars g ++ K) (stI g)) : AC P N (.seq x y) Q env st :=
  AC_joinS I (fun g => vars g ++ K) stI (h.mono fun e env' st' hq => by
    cases e with
    | normal => obtain ⟨g', h1, h3, h4, h5⟩ := hq; exact ⟨g', h1, h3, h4.app h5⟩
    | _ => exact hq) hy
end

section
variable {P : Program} {N : Nat} {env : Env} {st : St} {o : Oper}
theorem map_at {α : Type} {f : α → AV} {l : List α} {i : Nat} (h : i < l.length) : (l.map f)[i]? = some (f (l[i]'h)) := by simp [h]

theorem S_elemN {α : Type} {f : α → AV} {l : List α} {t e : TypeId} {x y : Operand} {k : IntKind} {i : Nat} (m : Nat) (ho : o.op = .indexAddr t x y) (hx : AEv env x (.sl (l.map f))) (hy : AEv env y (.int k ((i : Nat) : Int)))
    (hu : P.underlying t = some (.slice e)) (hm : (P.info? e).map (·.size) = some m) (h : i < l.length) (hcm : ∀ a, (f a).cells.length = m) : PStep P N o env st (.ip (f (l[i]'h)).cells) :=
  S_elem m ho hx hy hu hm (by omega) (by rw [Int.toNat_natCast]; exact map_at h) (hcm _)

theorem S_lenM {α : Type} {f : α → AV} {l : List α} {t e : TypeId} {x : Operand} (ho : o.op = .call { callee := .builtin .len, args := #[x], argTypes := #[t] }) (hx : AEv env x (.sl (l.map f))) (hu : P.underlying t = some (.slice e)) : PStep P N o env st (.int .i64 (l.length : Int)) := by
  have h := S_len (P := P) (N := N) (st := st) ho hx hu
  rwa [List.length_map] at h

theorem S_cutM {α : Type} {f : α → AV} {l : List α} {t e : TypeId} {x : Operand} {lo hi : Option Operand} {i j : Nat} (m : Nat) (ho : o.op = .slice t x lo hi none) (hx : AEv env x (.sl (l.map f)))
    (hl : match lo with | none => i = 0 | some l => ∃ k, AEv env l (.int k i)) (hh : match hi with | none => j = l.length | some l => ∃ k, AEv env l (.int k j))
    (hu : P.underlying t = some (.slice e)) (hm : (P.info? e).map (·.size) = some m) (hs : ∀ a, (f a).cells.length = m) (h1 : i ≤ j) (h2 : j ≤ l.length) : PStep P N o env st (.sl (((l.take j).drop i).map f)) := by
  have h := S_cut (P := P) (N := N) (st := st) (i := i) (j := j) m ho hx hl (by cases hi with | none => simpa using hh | some _ => exact hh) hu hm (fun x hx => by obtain ⟨a, _, rfl⟩ := List.mem_map.1 hx; exact hs a) h1 (by simpa using h2)
  rwa [← List.map_take, ← List.map_drop] at h

theorem S_cutHM {α : Type} {f : α → AV} {l : List α} {t e : TypeId} {x hi : Operand} {k : IntKind} {j : Nat} (m : Nat) (ho : o.op = .slice t x none (some hi) none) (hx : AEv env x (.sl (l.map f))) (hh : AEv env hi (.int k ((j : Nat) : Int)))
    (hu : P.underlying t = some (.slice e)) (hm : (P.info? e).map (·.size) = some m) (hs : ∀ a, (f a).cells.length = m) (h1 : j ≤ l.length) : PStep P N o env st (.sl ((l.take j).map f)) :=
  S_cutM (P := P) (N := N) (st := st) (i := 0) (j := j) m ho hx rfl ⟨k, hh⟩ hu hm hs (Nat.zero_le _) h1
/-- One's own slice of values grows by some. -/
theorem S_appendM {α : Type} {f : α → AV} {l l2 : List α} {t e size bytes : Nat} {x y : Operand} {p : Own} (pre post : St) (ho : o.op = .call { callee := .builtin .append, args := #[x, y], argTypes := #[t, t] }) (hx : AEv env x (ownAV p size (l.map f))) (hy : AEv env y (.sl (l2.map f))) (hst : st = pre ++ (ownSt p e size (l.map f) ++ post)) (h : p.ok (l.map f)) (hT : appT P t e size bytes = true) (hne : l2 ≠ [])
    (hs : ∀ a, (f a).cells.length = size ∧ (f a).cells.all AV.one = true) (hb : (l.length + l2.length) * bytes ≤ 140737488355328) (h63 : l.length + l2.length ≤ 9223372036854775807) :
    Step P N o env st fun z st' => ∃ b k cap, Own.ok (.row b k cap) ((l ++ l2).map f) ∧ z = ownAV (.row b k cap) size ((l ++ l2).map f) ∧ st' = pre ++ (ownSt (.row b k cap) e size ((l ++ l2).map f) ++ post) := by
  have h := S_appendOwn (P := P) (N := N) (env := env) (xs := l.map f) (ys := l2.map f) pre post ho hx hy hst h hT (by simpa using hne) (fun x hx => by obtain ⟨a, _, rfl⟩ := List.mem_map.1 hx; exact (hs a).1) (fun x hx => by obtain ⟨a, _, rfl⟩ := List.mem_map.1 hx; exact hs a) (by simpa using hb) (by simpa using h63)
  intro a w hg next Q hn
  refine h a w hg next Q fun z st' v w' hk => ?_
  obtain ⟨b, k, cap, h1, h2, h3⟩ := hk
  refine hn z st' v w' ⟨b, k, cap, ?_, ?_, ?_⟩
  · rw [List.map_append]; exact h1
  · rw [List.map_append]; exact h2
  · rw [List.map_append]; exact h3
theorem S_storeW {t : TypeId} {x y : Operand} {b : Nat} {cs ds : List AV} (n : Nat) (ho : o.op = .store t x y) (hx : AEv env x (.ptr b 0)) (hy : AEv env y (.agg ds)) (hst : st[n]? = some (b, .cells cs)) (hl : ds.length = cs.length) (hone : ds.all AV.one = true)
    (hi : (P.info? t).map (·.size) = some ds.length) : Step P N o env st fun x st' => x = .any ∧ st' = st.set n (b, .cells ds) := by
  have h := S_storeN (P := P) (N := N) n ho hx hy hst (by omega) hone hi
  have e : putAt cs 0 ds = ds := by
    unfold putAt
    rw [List.take_zero, List.nil_append, Nat.zero_add, List.drop_of_length_le (by omega), List.append_nil]
  rwa [e] at h
theorem take_snoc {α : Type} {l : List α} {i : Nat} (h : i < l.length) : l.take i ++ [l[i]'h] = l.take (i + 1) := (List.take_succ_eq_append_getElem h).symm

/-- One's own slice takes the next of another list's values. -/
theorem S_appendT {α : Type} {f : α → AV} {l : List α} {i : Nat} {t e size bytes : Nat} {x y : Operand} {p : Own} (h1 : i < l.length) (pre post : St) (ho : o.op = .call { callee := .builtin .append, args := #[x, y], argTypes := #[t, t] }) (hx : AEv env x (ownAV p size ((l.take i).map f))) (hy : AEv env y (.sl [f (l[i]'h1)])) (hst : st = pre ++ (ownSt p e size ((l.take i).map f) ++ post)) (h : p.ok ((l.take i).map f)) (hT : appT P t e size bytes = true)
    (hs : ∀ a, (f a).cells.length = size ∧ (f a).cells.all AV.one = true) (hb : (i + 1) * bytes ≤ 140737488355328) (h63 : i + 1 ≤ 9223372036854775807) :
    Step P N o env st fun z st' => ∃ b k cap, Own.ok (.row b k cap) ((l.take (i + 1)).map f) ∧ z = ownAV (.row b k cap) size ((l.take (i + 1)).map f) ∧ st' = pre ++ (ownSt (.row b k cap) e size ((l.take (i + 1)).map f) ++ post) := by
  have hl : (l.take i).length = i := by rw [List.length_take]; omega
  have h := S_appendM (P := P) (N := N) (env := env) (l := l.take i) (l2 := [l[i]'h1]) pre post ho hx hy hst h hT (by simp) hs (by rw [hl]; exact hb) (by rw [hl]; exact h63)
  rwa [take_snoc h1] at h
end
end Go.AL

/-
The logic AL: memory that is read by a call while it may still be written; memory that is written no more; literals that may be written.
Conditions: none; no program is in sight.
-/
set_option linter.unusedVariables false
set_option linter.unusedSimpArgs false
namespace Go.AL
open Go.RowKit
section
variable {P : Program} {N : Nat} {env : Env} {st : St} {o : Oper}
theorem GCalls.of_eq {gs : List (Nat × List Value)} {f : FuncId} {args : List AV} {V V' : AV} (h : GCalls P gs f args V) (e : V = V') : GCalls P gs f args V' := e ▸ h
/-- What a call over tables wants of each argument, where it only reads. -/
inductive LendsG (st : St) (g : St) : List AV → List AV → Prop
  | nil : LendsG st g [] []
  | cons {a b : AV} {as bs : List AV} (h : Conv st g a b) (t : LendsG st g as bs) : LendsG st g (a :: as) (b :: bs)
theorem LendsG.len {g : St} {as bs : List AV} (h : LendsG st g as bs) : as.length = bs.length := by induction h <;> simp [*]
theorem LendsG.at_ {g : St} {as bs : List AV} (h : LendsG st g as bs) : ∀ (i : Nat) b, bs[i]? = some b → ∃ a, as[i]? = some a ∧ Conv st g a b := by
  induction h with
  | nil => intro i b h; simp at h
  | cons h t ih =>
    intro i b hb
    cases i with
    | zero => simp at hb; subst hb; exact ⟨_, rfl, h⟩
    | succ i => simp at hb; simpa using ih i b hb

/-- What may be written there may be written here. -/
def MutLe (st st' : St) : Prop := ∀ b off, Mut st' b off → Mut st b off
theorem MutLe.cells {s' : St} {k : Nat} {cs ds : List AV} (h : MutLe st s') : MutLe ((k, .cells cs) :: st) ((k, .cells ds) :: s') := fun b off ⟨o, ho, hop⟩ => by
  rcases List.mem_cons.1 ho with h1 | h1
  · cases h1; exact ⟨_, List.mem_cons_self, trivial⟩
  · obtain ⟨o', h2, h3⟩ := h b off ⟨o, h1, hop⟩; exact ⟨o', List.mem_cons_of_mem _ h2, h3⟩
theorem MutLe.drop {s' : St} {p : Nat × Ob} (h : MutLe st s') : MutLe (p :: st) s' := fun b off hm => let ⟨o', h2, h3⟩ := h b off hm; ⟨o', List.mem_cons_of_mem _ h2, h3⟩
theorem MutLe.refl (s : St) : MutLe s s := fun _ _ h => h
theorem MutLe.ext {st' : St} (h : MutLe st st') (w : World) : Ext st w st' w := ⟨rfl, rfl, rfl, fun _ _ => rfl, Nat.le_refl _, fun _ _ _ => rfl, fun _ _ _ _ _ _ _ _ _ => rfl, fun b off _ hm => h b off hm, fun _ _ _ _ => rfl⟩
theorem LendsG.agg {g : St} {as bs : List AV} (h : LendsG st g as bs) : Conv st g (.agg as) (.agg bs) := .agg h.len fun i c d hc hd => by
  obtain ⟨a, ha, hcv⟩ := h.at_ i d hd
  rw [hc] at ha; cases ha; exact hcv
/-- The slots' values as they are in another state. -/
inductive EnvConv (st st' : St) (env : Env) : Env → Prop
  | nil : EnvConv st st' env []
  | cons {i : Nat} {x y : AV} {rest : Env} (h : env.lookup i = some y) (hl : Conv st st' y x) (t : EnvConv st st' env rest) : EnvConv st st' env ((i, x) :: rest)
theorem EnvConv.spec {st' : St} {env' : Env} (h : EnvConv st st' env env') : ∀ i x, env'.lookup i = some x → ∃ y, env.lookup i = some y ∧ Conv st st' y x := by
  induction h with
  | nil => intro i x hi; simp at hi
  | @cons j u v rest h1 h2 t ih =>
    intro i x hi
    simp only [List.lookup_cons] at hi
    by_cases hij : i = j
    · subst hij
      simp only [beq_self_eq_true] at hi
      cases hi
      exact ⟨v, h1, h2⟩
    · have : (i == j) = false := by simpa using hij
      simp only [this] at hi
      exact ih i x hi
/-- One state's memory, in another one: the same, or cells whose values are seen otherwise. -/
inductive StConv (st st' : St) : St → St → Prop
  | nil : StConv st st' [] []
  | drop {p : Nat × Ob} {a b : St} (t : StConv st st' a b) : StConv st st' (p :: a) b
  | same {p : Nat × Ob} {a b : St} (t : StConv st st' a b) (h : ∀ cs, p.2 = .cells cs → ∀ c ∈ cs, Conv st st' c c) : StConv st st' (p :: a) (p :: b)
  | cells {k : Nat} {cs ds : List AV} {a b : St} (hl : ds.length = cs.length) (h : ∀ (i : Nat) c d, cs[i]? = some c → ds[i]? = some d → Conv st st' c d) (t : StConv st st' a b) : StConv st st' ((k, .cells cs) :: a) ((k, .cells ds) :: b)
  | rest (a : St) (h : ∀ c, Conv st st' c c) : StConv st st' a a
theorem StConv.keys {s s' a b : St} (h : StConv s s' a b) : List.Sublist (b.map (·.1)) (a.map (·.1)) := by
  induction h with
  | nil => exact .refl _
  | drop _ ih => exact ih.cons _
  | same _ _ ih => exact ih.cons_cons _
  | cells _ _ _ ih => exact ih.cons_cons _
  | rest _ _ => exact .refl _
theorem StConv.mem {s s' a b : St} (h : StConv s s' a b) : ∀ k o, (k, o) ∈ b → (∃ cs ds, o = .cells ds ∧ (k, .cells cs) ∈ a ∧ ds.length = cs.length ∧ ∀ (i : Nat) c d, cs[i]? = some c → ds[i]? = some d → Conv s s' c d) ∨ ((k, o) ∈ a ∧ ∀ cs, o ≠ .cells cs) := by
  induction h with
  | nil => intro k o h; cases h
  | drop _ ih =>
    intro k o h
    rcases ih k o h with ⟨cs, ds, h1, h2, h3⟩ | ⟨h1, h2⟩
    · exact .inl ⟨cs, ds, h1, List.mem_cons_of_mem _ h2, h3⟩
    · exact .inr ⟨List.mem_cons_of_mem _ h1, h2⟩
  | @same p a b t hp ih =>
    intro k o h
    rcases List.mem_cons.1 h with h | h
    · subst h
      cases o with
      | cells cs => exact .inl ⟨cs, cs, rfl, List.mem_cons_self, rfl, fun i c d hc hd => by rw [hc] at hd; cases hd; exact hp cs rfl c (List.mem_of_getElem? hc)⟩
      | grow e size n cap => exact .inr ⟨List.mem_cons_self, fun cs hh => by cases hh⟩
      | konst vs => exact .inr ⟨List.mem_cons_self, fun cs hh => by cases hh⟩
    · rcases ih k o h with ⟨cs, ds, h1, h2, h3⟩ | ⟨h1, h2⟩
      · exact .inl ⟨cs, ds, h1, List.mem_cons_of_mem _ h2, h3⟩
      · exact .inr ⟨List.mem_cons_of_mem _ h1, h2⟩
  | @cells k' cs ds a b hl hc t ih =>
    intro k o h
    rcases List.mem_cons.1 h with h | h
    · cases h; exact .inl ⟨cs, ds, rfl, List.mem_cons_self, hl, hc⟩
    · rcases ih k o h with ⟨cs, ds, h1, h2, h3⟩ | ⟨h1, h2⟩
      · exact .inl ⟨cs, ds, h1, List.mem_cons_of_mem _ h2, h3⟩
      · exact .inr ⟨List.mem_cons_of_mem _ h1, h2⟩
  | rest a hc =>
    intro k o h
    cases o with
    | cells cs => exact .inl ⟨cs, cs, rfl, h, rfl, fun i c d h1 h2 => by rw [h1] at h2; cases h2; exact hc c⟩
    | grow e size n cap => exact .inr ⟨h, fun cs hh => by cases hh⟩
    | konst vs => exact .inr ⟨h, fun cs hh => by cases hh⟩

end
end Go.AL

/-
The logic AL: slices that are made; a slice's front; how often a byte stands in a text.
Conditions: none; no program is in sight.
-/
set_option linter.unusedVariables false
set_option linter.unusedSimpArgs false
namespace Go.AL
open Go.RowKit
section
variable {P : Program} {N : Nat} {env : Env} {st : St} {o : Oper}
end
end Go.AL

/-
A text parted at a byte.
Conditions: none; no program is in sight.
-/
set_option linter.unusedVariables false
set_option linter.unusedSimpArgs false
namespace Go.AL
open Go.RowKit Go.NumSpec
end Go.AL

/-
Labels: which are among others, which fit, which stand behind a key; two selectors made one.
Conditions: none; no program is in sight.
-/
set_option linter.unusedVariables false
set_option linter.unusedSimpArgs false
namespace Go.AL
open Go.RowKit Go.NumSpec
abbrev lessK (x y : Lab) : Bool := Op.bytesLess x.1 y.1
abbrev d0 : Lab := ([], [])
section
variable {a b : List Lab}
end
theorem map_cons {m : Option (List Lab)} {out : List Lab} {x : Lab} : (m.map (x :: ·)).map (out ++ ·) = m.map ((out ++ [x]) ++ ·) := by cases m <;> simp
end Go.AL

/-
Selectors: labels in order; two made one: what fits it.
Conditions: none; no program is in sight.
-/
set_option linter.unusedVariables false
set_option linter.unusedSimpArgs false
namespace Go.AL
open Go.RowKit Go.NumSpec
theorem bytesLess_trans : ∀ {a b c : List UInt8}, Op.bytesLess a b = true → Op.bytesLess b c = true → Op.bytesLess a c = true
  | _, [], _, h, _ => by cases ‹List UInt8› <;> simp [Op.bytesLess] at h
  | _, _ :: _, [], _, h => by simp [Op.bytesLess] at h
  | [], _ :: _, _ :: _, _, _ => rfl
  | x :: a, y :: b, z :: c, h, k => by
    unfold Op.bytesLess at h k ⊢
    simp only [Bool.or_eq_true, decide_eq_true_eq, Bool.and_eq_true, beq_iff_eq] at h k ⊢
    simp only [u8_lt] at h k ⊢
    rcases h with h | ⟨rfl, h⟩
    · rcases k with k | ⟨rfl, k⟩
      · exact .inl (by omega)
      · exact .inl h
    · rcases k with k | ⟨rfl, k⟩
      · exact .inl k
      · exact .inr ⟨rfl, bytesLess_trans h k⟩
abbrev sortedL (l : List Lab) : Prop := l.Pairwise fun x y => lessK x y = true
theorem sorted_of {l : List Lab} (h : ∀ i (hi : i < l.length), 0 < i → lessK (l[i - 1]'(by omega)) l[i] = true) : sortedL l := by
  refine List.pairwise_iff_getElem.2 fun i j hi hj hij => ?_
  induction j with
  | zero => omega
  | succ j ih =>
    have h1 := h (j + 1) hj (by omega)
    simp only [Nat.add_sub_cancel] at h1
    rcases Nat.lt_or_ge i j with k | k
    · exact bytesLess_trans (ih (by omega) k) h1
    · have : i = j := by omega
      subst this; exact h1
theorem label_out {name : List UInt8} {l : List Lab} {i : Nat} (hi : i < l.length) (h : labelE name l i = none) : namesR 2 l[i].1 = true ∧ (∀ h0 : 0 < i, lessK (l[i - 1]'(by omega)) l[i] = true) ∧ valV l[i].2 = true := by
  cases h1 : namesR 2 l[i].1 with
  | false => rw [label_key hi h1] at h; cases h
  | true =>
    have h2 : ∀ h0 : 0 < i, lessK (l[i - 1]'(by omega)) l[i] = true := fun h0 => by
      cases h2 : lessK (l[i - 1]'(by omega)) l[i] with
      | true => rfl
      | false => rw [label_order hi h1 h0 h2] at h; cases h
    refine ⟨rfl, h2, ?_⟩
    cases h3 : valV l[i].2 with
    | true => rfl
    | false => rw [label_val hi h1 h2 h3] at h; cases h
theorem labels_out {name : List UInt8} {l : List Lab} (h : labelsE name l = none) : l.length ≤ 4 ∧ sortedL l ∧ ∀ x ∈ l, namesR 2 x.1 = true ∧ valV x.2 = true := by
  cases ha : atMostE name (l.length : Int) 0 4 with
  | some x => rw [labelsE_bad (by rw [ha]; simp), ha] at h; cases h
  | none =>
    rw [labelsE_good ha] at h
    have hl : l.length ≤ 4 := by
      unfold atMostE at ha
      split at ha
      · cases ha
      · omega
    have hall := eachE_none h
    refine ⟨hl, sorted_of fun i hi h0 => (label_out hi (hall i hi)).2.1 h0, fun x hx => ?_⟩
    obtain ⟨i, hi, rfl⟩ := List.mem_iff_getElem.1 hx
    exact ⟨(label_out hi (hall i hi)).1, (label_out hi (hall i hi)).2.2⟩
end Go.AL

/-
A selector's text, and the selector of a text.
Conditions: none; no program is in sight.
-/
set_option linter.unusedVariables false
set_option linter.unusedSimpArgs false
namespace Go.AL
open Go.RowKit Go.NumSpec
theorem key_short {s : List UInt8} (h : namesR 2 s = true) : s.length ≤ 33 := by
  rw [namesR_parts, Bool.and_eq_true, decide_eq_true_eq] at h
  have := parts_names h.2
  omega
theorem val_short {s : List UInt8} (h : valV s = true) : s.length ≤ 16 := by
  unfold valV at h
  simp only [Bool.and_eq_true, decide_eq_true_eq] at h
  omega
end Go.AL

/-
Specs as bytes.
Conditions: none; no program is in sight.
-/
set_option linter.unusedVariables false
set_option linter.unusedSimpArgs false
namespace Go.AL
open Go.RowKit Go.NumSpec
abbrev MR : Int := 1099511627776
def labRd : Rd Lab := seqR (textRd 33) (textRd 16)
def labB (x : Lab) : List UInt8 := textB x.1 ++ textB x.2
def LabOk (x : Lab) : Prop := (x.1.length : Int) ≤ 33 ∧ (x.2.length : Int) ≤ 16
theorem labC : Codec labRd labB LabOk := seqC (textC (by decide) (by decide)) (textC (by decide) (by decide))
def labsRd : Rd (List Lab) := allR labRd 4
def labsB (l : List Lab) : List UInt8 := listB labB l
def LabsOk (l : List Lab) : Prop := (l.length : Int) ≤ 4 ∧ ∀ x ∈ l, LabOk x
theorem labsC : Codec labsRd labsB LabsOk := listC labC (by decide) (by decide)
def triRd : Rd Tri := seqR (numRd MR) (seqR (numRd MR) (numRd MR))
def triB (r : Tri) : List UInt8 := numB r.1 ++ (numB r.2.1 ++ numB r.2.2)
def TriOk (r : Tri) : Prop := (0 ≤ r.1 ∧ r.1 ≤ MR) ∧ ((0 ≤ r.2.1 ∧ r.2.1 ≤ MR) ∧ (0 ≤ r.2.2 ∧ r.2.2 ≤ MR))
theorem triC : Codec triRd triB TriOk := seqC (numC (by decide) (by decide)) (seqC (numC (by decide) (by decide)) (numC (by decide) (by decide)))
def portsRd : Rd (List Int) := allR (numRd 65535) 3
def portsB (l : List Int) : List UInt8 := listB numB l
def PortsOk (l : List Int) : Prop := (l.length : Int) ≤ 3 ∧ ∀ x ∈ l, 0 ≤ x ∧ x ≤ 65535
theorem portsC : Codec portsRd portsB PortsOk := listC (numC (by decide) (by decide)) (by decide) (by decide)
abbrev CtrT := List UInt8 × (List UInt8 × (Tri × (Tri × (List Int × (Int × Int)))))
def ctrOf (x : CtrT) : Ctr := ⟨x.1, x.2.1, x.2.2.1, x.2.2.2.1, x.2.2.2.2.1, x.2.2.2.2.2⟩
def ctrTo (c : Ctr) : CtrT := (c.name, (c.image, (c.req, (c.lim, (c.ports, c.probe)))))
def ctrRd : Rd Ctr := mapR ctrOf (seqR (textRd 16) (seqR (textRd 33) (seqR triRd (seqR triRd (seqR portsRd (seqR (numRd 1000) (numRd 10)))))))
def ctrB (c : Ctr) : List UInt8 := textB c.name ++ (textB c.image ++ (triB c.req ++ (triB c.lim ++ (portsB c.ports ++ (numB c.probe.1 ++ numB c.probe.2)))))
def CtrOk (c : Ctr) : Prop := (c.name.length : Int) ≤ 16 ∧ ((c.image.length : Int) ≤ 33 ∧ (TriOk c.req ∧ (TriOk c.lim ∧ (PortsOk c.ports ∧ ((0 ≤ c.probe.1 ∧ c.probe.1 ≤ 1000) ∧ (0 ≤ c.probe.2 ∧ c.probe.2 ≤ 10))))))
theorem ctrC : Codec ctrRd ctrB CtrOk :=
  mapC (h := ctrOf) (k := ctrTo) (fun _ => rfl) (fun _ => rfl) (seqC (textC (by decide) (by decide)) (seqC (textC (by decide) (by decide)) (seqC triC (seqC triC (seqC portsC (seqC (numC (by decide) (by decide)) (numC (by decide) (by decide))))))))
def ctrsB (l : List Ctr) : List UInt8 := listB ctrB l
def CtrsOk (n : Int) (l : List Ctr) : Prop := (l.length : Int) ≤ n ∧ ∀ x ∈ l, CtrOk x
abbrev SpcT := List UInt8 × (List Lab × (List Ctr × (List Ctr × (Int × (Int × Int)))))
def spcOf (x : SpcT) : Spc := ⟨x.1, x.2.1, x.2.2.1, x.2.2.2.1, x.2.2.2.2.1, x.2.2.2.2.2.1, x.2.2.2.2.2.2⟩
def spcTo (s : Spc) : SpcT := (s.name, (s.labels, (s.init, (s.main, (s.restart, (s.grace, s.prio))))))
def spcRd : Rd Spc := mapR spcOf (seqR (textRd 16) (seqR labsRd (seqR (allR ctrRd 3) (seqR (allR ctrRd 4) (seqR (numRd 3) (seqR (numRd 1000) (numRd 10)))))))
def spcB (s : Spc) : List UInt8 := textB s.name ++ (labsB s.labels ++ (ctrsB s.init ++ (ctrsB s.main ++ (numB s.restart ++ (numB s.grace ++ numB s.prio)))))
def SpcOk (s : Spc) : Prop := (s.name.length : Int) ≤ 16 ∧ (LabsOk s.labels ∧ (CtrsOk 3 s.init ∧ (CtrsOk 4 s.main ∧ ((0 ≤ s.restart ∧ s.restart ≤ 3) ∧ ((0 ≤ s.grace ∧ s.grace ≤ 1000) ∧ (0 ≤ s.prio ∧ s.prio ≤ 10))))))
theorem spcC : Codec spcRd spcB SpcOk :=
  mapC (h := spcOf) (k := spcTo) (fun _ => rfl) (fun _ => rfl) (seqC (textC (by decide) (by decide)) (seqC labsC (seqC (listC ctrC (by decide) (by decide)) (seqC (listC ctrC (by decide) (by decide)) (seqC (numC (by decide) (by decide)) (seqC (numC (by decide) (by decide)) (numC (by decide) (by decide))))))))
/-! What may be is within its bounds -/
theorem atMost_none {name : List UInt8} {n lo hi : Int} (h : atMostE name n lo hi = none) : lo ≤ n ∧ n ≤ hi := by
  unfold atMostE at h
  split at h
  · cases h
  · omega
theorem new_none {b : Bool} {c : Int} {ps : List (List UInt8)} (hc : c ≠ 0) (h : erNew (saysV b c) ps = none) : b = true := by
  unfold erNew at h
  split at h
  · rename_i h1; exact (says_zero hc).1 h1
  · cases h
theorem image_len {s : List UInt8} (h : (tparts s).2.2 = true) : (s.length : Int) ≤ 33 := by
  unfold tparts at h
  split at h
  · rename_i h1
    have h2 := cutV_len h1.1
    have h3 := h1.2.1
    have h4 := h1.2.2
    unfold repoV at h3; unfold tagV at h4
    simp only [Bool.and_eq_true, decide_eq_true_eq] at h3 h4
    have := h3.1; have := h4.1.2
    omega
  · cases h
theorem req_ok {r : Tri} (h : reqE r = none) : TriOk r := by
  have h0 := erIn_none h
  exact ⟨within_none (firstE_none h0 _ List.mem_cons_self), within_none (firstE_none h0 (withinE [109, 101, 109] r.2.1 0 1099511627776) (by simp)), within_none (firstE_none h0 (withinE [112, 105, 100, 115] r.2.2 0 1099511627776) (by simp))⟩
theorem most_ok {name : List UInt8} {n lo : Int} (h0 : 0 ≤ lo) (h : mostE name n lo = none) : 0 ≤ n ∧ n ≤ MR := by
  unfold mostE at h
  split at h
  · rename_i h1; subst h1; exact ⟨by decide, by decide⟩
  · have := within_none h
    unfold MR; omega
theorem lim_ok {l r : Tri} (hr : TriOk r) (h : limE l r = none) : TriOk l := by
  have h0 := erIn_none h
  exact ⟨most_ok hr.1.1 (firstE_none h0 _ List.mem_cons_self), most_ok hr.2.1.1 (firstE_none h0 (mostE [109, 101, 109] l.2.1 r.2.1) (by simp)), most_ok hr.2.2.1 (firstE_none h0 (mostE [112, 105, 100, 115] l.2.2 r.2.2) (by simp))⟩
theorem port_ok {ps l : List Int} {n : Int} (hn : n ≤ 3) (h : portE ps l n = none) : PortsOk l := by
  obtain ⟨h1, h2⟩ := portE_out h
  refine ⟨by have := atMost_none h1; omega, fun x hx => ?_⟩
  obtain ⟨j, hj, rfl⟩ := List.mem_iff_getElem.1 hx
  have := within_none (portAt_out (h2 j hj)).1
  rw [List.getD_eq_getElem?_getD, List.getElem?_eq_getElem hj] at this
  simp only [Option.getD_some] at this
  omega
theorem ctr_ok {ns : List (List UInt8)} {ps : List Int} {c : Ctr} {a b : Int} (ha : a ≤ 3) (hb : b ≤ 1000) (h : ctrE ns ps c a b = none) : CtrOk c := by
  have h1 := new_none (by decide) (nameE_out (firstE_none h (nameE ns c.name) (by simp))).1
  have h2 := new_none (by decide) (firstE_none h (erNew (saysV (tparts c.image).2.2 33) [[105, 109, 97, 103, 101]]) (by simp))
  have h3 := req_ok (firstE_none h (reqE c.req) (by simp))
  have h4 := lim_ok h3 (firstE_none h (limE c.lim c.req) (by simp))
  have h5 := port_ok ha (firstE_none h (portE ps c.ports a) (by simp))
  have h6 := erIn_none (firstE_none h (probeE c.probe b) (by simp))
  have h7 := within_none (firstE_none h6 _ List.mem_cons_self)
  have h8 := within_none (firstE_none h6 _ (List.mem_cons_of_mem _ List.mem_cons_self))
  have h9 := nameV_len h1
  refine ⟨by omega, image_len h2, h3, h4, h5, by omega, ?_⟩
  by_cases hp : c.probe.1 = 0
  · rw [if_pos hp, if_pos hp] at h8; omega
  · rw [if_neg hp, if_neg hp] at h8; omega
theorem ctrs_ok {name : List UInt8} {ns : List (List UInt8)} {ps : List Int} {l : List Ctr} {a b : Int} (ha : a ≤ 3) (hb : b ≤ 1000) (h : ctrsE name ns ps l a b = none) : ∀ x ∈ l, CtrOk x := fun x hx => by
  obtain ⟨j, hj, rfl⟩ := List.mem_iff_getElem.1 hx
  have := erIn_none (eachE_none h j hj)
  rw [ctrAt_at hj] at this
  exact ctr_ok ha hb this
theorem check_ok {s : Spc} (h : checkE s = none) : SpcOk s := by
  obtain ⟨h1, h2, h3⟩ := check_all h
  have n1 := nameV_len (new_none (by decide) (firstE_none h1 _ List.mem_cons_self))
  have n2 := labels_out (firstE_none h1 (labelsE labelsN s.labels) (by simp))
  have n3 := atMost_none (firstE_none h1 (atMostE initN (s.init.length : Int) 0 3) (by simp))
  have n4 := ctrs_ok (by decide) (by decide) (firstE_none h2 (ctrsE initN [] [] s.init 0 0) (by simp))
  have n5 := atMost_none (firstE_none h2 (atMostE mainN (s.main.length : Int) 1 4) (by simp))
  have n6 := ctrs_ok (by decide) (by decide) (firstE_none h3 _ List.mem_cons_self)
  have n7 := within_none (firstE_none h3 (withinE [114, 101, 115, 116, 97, 114, 116] s.restart 1 3) (by simp))
  have n8 := within_none (firstE_none h3 (withinE [103, 114, 97, 99, 101] s.grace 0 1000) (by simp))
  have n9 := within_none (firstE_none h3 (withinE [112, 114, 105, 111] s.prio 0 10) (by simp))
  refine ⟨by omega, ⟨by have := n2.1; omega, fun x hx => ?_⟩, ⟨n3.2, n4⟩, ⟨n5.2, n6⟩, by omega, n8, n9⟩
  have := n2.2.2 x hx
  have k1 := key_short this.1
  have k2 := val_short this.2
  exact ⟨by omega, by omega⟩
/-! How long -/
theorem labB_len {x : Lab} (h1 : x.1.length ≤ 400) (h2 : x.2.length ≤ 400) : (labB x).length ≤ 1000 := by
  have := textB_len (s := x.1) (by omega)
  have := textB_len (s := x.2) (by omega)
  unfold labB; rw [List.length_append]; omega
theorem triB_len {r : Tri} (h : TriOk r) : (triB r).length ≤ 30 := by
  have a := numB_len (n := r.1) (by have := h.1.2; unfold MR at this; omega)
  have b := numB_len (n := r.2.1) (by have := h.2.1.2; unfold MR at this; omega)
  have c := numB_len (n := r.2.2) (by have := h.2.2.2; unfold MR at this; omega)
  unfold triB; rw [List.length_append, List.length_append]; omega
theorem portsB_len {l : List Int} (h : PortsOk l) : (portsB l).length ≤ 40 := by
  have a := flatB_len (e := numB) (B := 10) (l := l) fun x hx => numB_len (by have := (h.2 x hx).2; omega)
  have b := putL_few l.length (by have := h.1; omega)
  have := h.1
  unfold portsB listB; rw [List.length_append]; omega
theorem ctrB_len {c : Ctr} (h : CtrOk c) : (ctrB c).length ≤ 1000 := by
  obtain ⟨h1, h2, h3, h4, h5, h6, h7⟩ := h
  have a := textB_len (s := c.name) (by omega)
  have b := textB_len (s := c.image) (by omega)
  have d := triB_len h3
  have e := triB_len h4
  have f := portsB_len h5
  have g := numB_len (n := c.probe.1) (by omega)
  have k := numB_len (n := c.probe.2) (by omega)
  unfold ctrB
  simp only [List.length_append]; omega
theorem ctrB_assoc (c : Ctr) : (((((textB c.name ++ textB c.image) ++ triB c.req) ++ triB c.lim) ++ listB numB c.ports) ++ numB c.probe.1) ++ numB c.probe.2 = ctrB c := by simp [ctrB, portsB]
theorem spcB_assoc (s : Spc) : (((((textB s.name ++ listB labB s.labels) ++ ([s.init, s.main].flatMap (listB ctrB)))) ++ numB s.restart) ++ numB s.grace) ++ numB s.prio = spcB s := by simp [spcB, labsB, ctrsB]
theorem two_all {p : List Ctr → Prop} {a b : List Ctr} (ha : p a) (hb : p b) : ∀ x ∈ [a, b], p x := fun x hx => by
  simp only [List.mem_cons, List.not_mem_nil, or_false] at hx
  rcases hx with rfl | rfl
  · exact ha
  · exact hb
theorem flatB_next {α : Type} {e : α → List UInt8} {a : List UInt8} {l : List α} {i : Nat} (h : i < l.length) : a ++ (l.take (i + 1)).flatMap e = (a ++ (l.take i).flatMap e) ++ e l[i] := by
  rw [flat_next h, List.append_assoc]
theorem triB_assoc (r : Tri) : (numB r.1 ++ numB r.2.1) ++ numB r.2.2 = triB r := by simp [triB]
theorem listB_next {α : Type} {e : α → List UInt8} {l : List α} {i : Nat} (h : i < l.length) : putL l.length ++ (l.take (i + 1)).flatMap e = (putL l.length ++ (l.take i).flatMap e) ++ e l[i] := by
  rw [flat_next h, List.append_assoc]
theorem wput_nil (c : Int) (l : List UInt8) : wput c l [] = l := by unfold wput; split <;> simp
theorem listB_len {α : Type} {e : α → List UInt8} {l : List α} {B : Nat} (hl : l.length ≤ 9223372036854775807) (h : ∀ x ∈ l, (e x).length ≤ B) : (listB e l).length ≤ 10 + l.length * B := by
  have a := flatB_len h
  have b := putL_few l.length (by omega)
  unfold listB; rw [List.length_append]; omega
theorem ACalls.preQ {P : Program} {f : FuncId} {args : List AV} {foot pre F : St} {K : AV → St → Prop} (hc : ACalls P f args (foot ++ (pre ++ F)) fun x st' => ∃ foot', K x foot' ∧ st' = foot' ++ (pre ++ F)) : ACalls P f args (pre ++ (foot ++ F)) fun x st' => ∃ foot', K x foot' ∧ st' = pre ++ (foot' ++ F) := by
  have perm : ∀ (a : St), (pre ++ (a ++ F)).Perm (a ++ (pre ++ F)) := fun a => by
    rw [← List.append_assoc, ← List.append_assoc]
    exact List.Perm.append_right F List.perm_append_comm
  refine ⟨hc.enters, fun w vs hrel hs hr => ?_⟩
  have hx : Ext (pre ++ (foot ++ F)) w (foot ++ (pre ++ F)) w := Ext.sub fun p hp => (perm foot).mem_iff.2 hp
  have hrel2 : Rel (foot ++ (pre ++ F)) w := hrel.sub (fun p hp => (perm foot).mem_iff.2 hp) (((perm foot).map (·.1)).nodup_iff.1 hrel.nodup)
  refine (hc.calls w vs hrel2 hs fun i x v h1 h2 => (hr i x v h1 h2).mono hx hrel.nodup).mono ?_
  rintro e w' ⟨r, x, st', he, ⟨foot', hk, rfl⟩, hr', hrel', hext⟩
  have hy : Ext (foot' ++ (pre ++ F)) w' (pre ++ (foot' ++ F)) w' := Ext.sub fun p hp => (perm foot').mem_iff.1 hp
  exact ⟨r, x, _, he, ⟨foot', hk, rfl⟩, hr'.mono hy hrel'.nodup, hrel'.sub (fun p hp => (perm foot').mem_iff.1 hp) (((perm foot').map (·.1)).nodup_iff.2 hrel'.nodup), (hx.trans hext hrel.nodup).trans hy hrel.nodup⟩
end Go.AL

/-
Specs that are read.
Conditions: none; no program is in sight.
-/
set_option linter.unusedVariables false
set_option linter.unusedSimpArgs false
namespace Go.AL
open Go.RowKit Go.NumSpec
def spc0 : Spc := ⟨[], [], [], [], 0, 0, 0⟩
theorem labRd_short (s : List UInt8) (c : Int) : (labRd s c).1.1.length ≤ 33 ∧ (labRd s c).1.2.length ≤ 16 := by
  have h1 := wtextR_short s c (most := 33) (by decide)
  have h2 := wtextR_short (wtextR s c 33).2.1 (wtextR s c 33).2.2 (most := 16) (by decide)
  exact ⟨by show (wtextR s c 33).1.length ≤ 33; omega, by show (wtextR (wtextR s c 33).2.1 (wtextR s c 33).2.2 16).1.length ≤ 16; omega⟩
theorem ctrRd_light (s : List UInt8) (c : Int) : lightC (ctrRd s c).1 = true := by
  have h1 := wtextR_short s c (most := 16) (by decide)
  have h2 := wtextR_short (wtextR s c 16).2.1 (wtextR s c 16).2.2 (most := 33) (by decide)
  have h3 : (((ctrRd s c).1.ports.length : Nat) : Int) ≤ 3 := allR_few (f := numRd 65535) (most := 3) (by decide) _ _
  unfold lightC
  refine decide_eq_true ⟨?_, ?_, by omega⟩
  · show (wtextR s c 16).1.length ≤ 100; omega
  · show (wtextR (wtextR s c 16).2.1 (wtextR s c 16).2.2 33).1.length ≤ 100; omega
theorem allR_all {α : Type} {f : Rd α} {p : α → Prop} (hp : ∀ s c, p (f s c).1) (most : Int) (s : List UInt8) (c : Int) : ∀ x ∈ (allR f most s c).1, p x := takeN_all hp _ _ _
theorem light_inP {s : Spc} (h1 : s.name.length ≤ 100) (h2 : s.labels.length ≤ 10) (h3 : s.init.length ≤ 8) (h4 : s.main.length ≤ 8) (h5 : ∀ x ∈ s.labels, x.1.length ≤ 100 ∧ x.2.length ≤ 100) (h6 : ∀ x ∈ s.init, lightC x = true) (h7 : ∀ x ∈ s.main, lightC x = true) : lightS s = true := by
  unfold lightS
  simp only [Bool.and_eq_true, decide_eq_true_eq, List.all_eq_true]
  exact ⟨⟨⟨h1, h2, h3, h4⟩, fun x hx => by unfold lightL; exact decide_eq_true (h5 x hx)⟩, h6, h7⟩
theorem spcRd_light (s : List UInt8) (c : Int) : lightS (spcRd s c).1 = true := by
  have h1 := wtextR_short s c (most := 16) (by decide)
  have h2 : (((spcRd s c).1.labels.length : Nat) : Int) ≤ 4 := allR_few (f := labRd) (most := 4) (by decide) _ _
  have h3 : (((spcRd s c).1.init.length : Nat) : Int) ≤ 3 := allR_few (f := ctrRd) (most := 3) (by decide) _ _
  have h4 : (((spcRd s c).1.main.length : Nat) : Int) ≤ 4 := allR_few (f := ctrRd) (most := 4) (by decide) _ _
  have h5 : ∀ x ∈ (spcRd s c).1.labels, x.1.length ≤ 33 ∧ x.2.length ≤ 16 := allR_all (f := labRd) labRd_short 4 _ _
  have h6 : ∀ x ∈ (spcRd s c).1.init, lightC x = true := allR_all (f := ctrRd) ctrRd_light 3 _ _
  have h7 : ∀ x ∈ (spcRd s c).1.main, lightC x = true := allR_all (f := ctrRd) ctrRd_light 4 _ _
  refine light_inP ?_ (by omega) (by omega) (by omega) (fun x hx => by have := h5 x hx; omega) h6 h7
  show (wtextR s c 16).1.length ≤ 100; omega
abbrev wireN : List UInt8 := [119, 105, 114, 101]
theorem spc0_light : lightS spc0 = true := by decide
theorem spcB_len {s : Spc} (h : checkE s = none) : (spcB s).length ≤ 20000 := by
  obtain ⟨h1, h2, h3, h4, h5, h6, h7⟩ := check_ok h
  have a1 := textB_len (s := s.name) (by omega)
  have a2 := listB_len (e := labB) (l := s.labels) (B := 1000) (by have := h2.1; omega) fun x hx => labB_len (by have := (h2.2 x hx).1; omega) (by have := (h2.2 x hx).2; omega)
  have a3 := listB_len (e := ctrB) (l := s.init) (B := 1000) (by have := h3.1; omega) fun x hx => ctrB_len (h3.2 x hx)
  have a4 := listB_len (e := ctrB) (l := s.main) (B := 1000) (by have := h4.1; omega) fun x hx => ctrB_len (h4.2 x hx)
  have a5 := numB_len (n := s.restart) (by omega)
  have a6 := numB_len (n := s.grace) (by omega)
  have a7 := numB_len (n := s.prio) (by omega)
  have b1 := h2.1
  have b2 := h3.1
  have b3 := h4.1
  unfold spcB labsB ctrsB
  simp only [List.length_append]; omega
end Go.AL

/-
Calls as bytes.
Conditions: none; no program is in sight.
-/
set_option linter.unusedVariables false
set_option linter.unusedSimpArgs false
namespace Go.AL
open Go.RowKit Go.NumSpec
structure Cal where
  kind : Int
  uid : Int
  rev : Nat
  spec : Spc
  grace : Int
  ctr : Int
  id : Int
  most : Int
  data : List UInt8
  sel : List Lab
def calL (c : Cal) : List AV := [.int .i64 c.kind, .int .i64 c.uid, .int .u64 (c.rev : Int)] ++ (spcL c.spec ++ [.int .i64 c.grace, .int .i64 c.ctr, .int .i64 c.id, .int .i64 c.most, .S c.data, .sl (labsV c.sel)])
def calAV (c : Cal) : AV := .agg (calL c)
def cal0 (k : Int) : Cal := ⟨k, 0, 0, spc0, 0, 0, 0, 0, [], []⟩
/-- each kind's name and its fields' letters -/
def kindsT : List (List UInt8 × List UInt8) := [([], []), ([114, 117, 110], [115]), ([117, 112, 100, 97, 116, 101], [117, 114, 115]), ([107, 105, 108, 108], [117, 103]), ([111, 112, 101, 110], [117, 99]), ([119, 114, 105, 116, 101], [105, 100]), ([114, 101, 97, 100], [105, 109]), ([99, 108, 111, 115, 101], [105]), ([115, 116, 97, 116, 115], [117]), ([108, 105, 115, 116], [108]), ([103, 101, 116], [117]), ([119, 97, 116, 99, 104], [114, 108]), ([99, 97, 110, 99, 101, 108], [105])]
def kindsV : List Value := kindsT.flatMap fun x => [.string ⟨x.1.toArray⟩, .string ⟨x.2.toArray⟩]
abbrev kindA (i : Nat) : List UInt8 × List UInt8 := kindsT.getD i ([], [])
/-! Reading -/
def bigRd : Rd Nat := fun s c => bigR s c
theorem bigC : Codec bigRd putL (fun n => n < 18446744073709551616) where
  back x t hx := bigR_put x t hx
  canon s hs := ⟨canon_big hs, bigR_lt s 0⟩
  err s c hc := by unfold bigRd; rw [bigR_err hc]; exact ⟨rfl, rfl⟩
  cut x p hx hp hl := by unfold bigRd; rw [bigR_lack (lacks_cut hx hp hl)]
  len s c := bigR_len s c
def oneR (f : UInt8) (x : Cal) : Rd Cal :=
  if f = 117 then mapR (fun n => { x with uid := n }) (numRd 1073741824) else if f = 114 then mapR (fun n => { x with rev := n }) bigRd else if f = 115 then mapR (fun v => { x with spec := v }) spcRd else if f = 103 then mapR (fun n => { x with grace := n }) (numRd 1000)
  else if f = 99 then mapR (fun n => { x with ctr := n }) (numRd 3) else if f = 105 then mapR (fun n => { x with id := n }) (numRd 1073741824) else if f = 109 then mapR (fun n => { x with most := n }) (numRd 32) else if f = 100 then mapR (fun v => { x with data := v }) (textRd 32) else if f = 108 then mapR (fun v => { x with sel := v }) labsRd else fun s c => (x, s, c)
def rdF : List UInt8 → Cal → Rd Cal
  | [], x, s, c => (x, s, c)
  | f :: fs, x, s, c => rdF fs (oneR f x s c).1 (oneR f x s c).2.1 (oneR f x s c).2.2
def calRd : Rd Cal := fun s c => rdF (kindA (numR s c 12).1.toNat).2 (cal0 (numR s c 12).1) (numR s c 12).2.1 (numR s c 12).2.2
/-! Writing -/
def fieldB (x : Cal) (f : UInt8) : List UInt8 :=
  if f = 117 then numB x.uid else if f = 114 then putL x.rev else if f = 115 then spcB x.spec else if f = 103 then numB x.grace else if f = 99 then numB x.ctr else if f = 105 then numB x.id else if f = 109 then numB x.most else if f = 100 then textB x.data else if f = 108 then labsB x.sel else []
def calB (x : Cal) : List UInt8 := numB x.kind ++ (kindA x.kind.toNat).2.flatMap (fieldB x)
def FieldOk (x : Cal) (f : UInt8) : Prop :=
  if f = 117 then 0 ≤ x.uid ∧ x.uid ≤ 1073741824 else if f = 114 then x.rev < 18446744073709551616 else if f = 115 then SpcOk x.spec else if f = 103 then 0 ≤ x.grace ∧ x.grace ≤ 1000 else if f = 99 then 0 ≤ x.ctr ∧ x.ctr ≤ 3 else if f = 105 then 0 ≤ x.id ∧ x.id ≤ 1073741824 else if f = 109 then 0 ≤ x.most ∧ x.most ≤ 32 else if f = 100 then (x.data.length : Int) ≤ 32 else if f = 108 then LabsOk x.sel else True
/-- what stays of a call, if only some fields are copied -/
def onlyA (fs : List UInt8) (x : Cal) : Cal := ⟨x.kind, if 117 ∈ fs then x.uid else 0, if 114 ∈ fs then x.rev else 0, if 115 ∈ fs then x.spec else spc0, if 103 ∈ fs then x.grace else 0, if 99 ∈ fs then x.ctr else 0, if 105 ∈ fs then x.id else 0, if 109 ∈ fs then x.most else 0, if 100 ∈ fs then x.data else [], if 108 ∈ fs then x.sel else []⟩
def KindOk (x : Cal) : Prop := 1 ≤ x.kind ∧ x.kind ≤ 12
def CalOk (x : Cal) : Prop := KindOk x ∧ (∀ f ∈ (kindA x.kind.toNat).2, FieldOk x f) ∧ onlyA (kindA x.kind.toNat).2 x = x
theorem mapC2 {α β : Type} {h : α → β} {k : β → α} {f : Rd α} {e : α → List UInt8} {ok : α → Prop} (hkh : ∀ x, k (h x) = x) (hf : Codec f e ok) : Codec (mapR h f) (fun y => e (k y)) (fun y => ok (k y) ∧ h (k y) = y) where
  back x t hx := by unfold mapR; rw [hf.back (k x) t hx.1]; dsimp only; rw [hx.2]
  canon s hs := by
    unfold mapR; dsimp only; rw [hkh]
    exact ⟨(hf.canon s hs).1, (hf.canon s hs).2, rfl⟩
  err s c hc := hf.err s c hc
  cut x p hx hp hl := hf.cut (k x) p hx.1 hp hl
  len s c := hf.len s c
abbrev uC := numC (most := 1073741824) (by decide) (by decide)
theorem Codec.of {α : Type} {f g : Rd α} {e d : α → List UInt8} {ok ok' : α → Prop} (h : Codec f e ok) (hf : g = f) (he : ∀ x, ok' x → ok x ∧ d x = e x) (hb : ∀ x, ok x → ok' x) : Codec g d ok' where
  back x t hx := by rw [hf, (he x hx).2]; exact h.back x t (he x hx).1
  canon s hs := by
    rw [hf] at hs ⊢
    obtain ⟨h1, h2⟩ := h.canon s hs
    have h3 := hb _ h2
    exact ⟨by rw [(he _ h3).2]; exact h1, h3⟩
  err s c hc := by rw [hf]; exact h.err s c hc
  cut x p hx hp hl := by
    rw [hf]
    rw [(he x hx).2] at hp hl
    exact h.cut x p (he x hx).1 hp hl
  len s c := by rw [hf]; exact h.len s c
/-- the fields of one kind -/
def KOk (k : Int) (x : Cal) : Prop := x.kind = k ∧ (∀ f ∈ (kindA k.toNat).2, FieldOk x f) ∧ onlyA (kindA k.toNat).2 x = x
def KB (k : Int) (x : Cal) : List UInt8 := (kindA k.toNat).2.flatMap (fieldB x)
def KR (k : Int) : Rd Cal := rdF (kindA k.toNat).2 (cal0 k)
theorem cal_ext {a b : Cal} (h1 : a.kind = b.kind) (h2 : a.uid = b.uid) (h3 : a.rev = b.rev) (h4 : a.spec = b.spec) (h5 : a.grace = b.grace) (h6 : a.ctr = b.ctr) (h7 : a.id = b.id) (h8 : a.most = b.most) (h9 : a.data = b.data) (h10 : a.sel = b.sel) : a = b := by
  cases a; cases b; simp only at *; subst h1 h2 h3 h4 h5 h6 h7 h8 h9 h10; rfl
theorem kF1 : (kindA (1 : Int).toNat).2 = [115] := rfl
theorem kC1 : Codec (KR 1) (KB 1) (KOk 1) := (mapC2 (h := fun v => { cal0 1 with spec := v }) (k := fun x => x.spec) (fun _ => rfl) spcC).of rfl
  (fun x hx => by
    obtain ⟨h1, h2, h3⟩ := hx
    rw [kF1] at h2 h3
    refine ⟨⟨h2 115 (by decide), ?_⟩, by unfold KB; rw [kF1]; simp [fieldB]⟩
    conv => rhs; rw [← h3]
    unfold onlyA; rw [h1]; rfl)
  (fun x hx => by
    obtain ⟨h1, h2⟩ := hx
    refine ⟨by rw [← h2]; rfl, fun f hf => ?_, by rw [kF1, ← h2]; rfl⟩
    rw [kF1] at hf
    simp only [List.mem_cons, List.not_mem_nil, or_false] at hf
    rcases hf with rfl
    · exact h1)
theorem kF2 : (kindA (2 : Int).toNat).2 = [117, 114, 115] := rfl
theorem kC2 : Codec (KR 2) (KB 2) (KOk 2) := (mapC2 (h := fun v => { cal0 2 with uid := v.1, rev := v.2.1, spec := v.2.2 }) (k := fun x => (x.uid, (x.rev, x.spec))) (fun _ => rfl) (seqC uC (seqC bigC spcC))).of rfl
  (fun x hx => by
    obtain ⟨h1, h2, h3⟩ := hx
    rw [kF2] at h2 h3
    refine ⟨⟨⟨h2 117 (by decide), h2 114 (by decide), h2 115 (by decide)⟩, ?_⟩, by unfold KB; rw [kF2]; simp [fieldB]⟩
    conv => rhs; rw [← h3]
    unfold onlyA; rw [h1]; rfl)
  (fun x hx => by
    obtain ⟨h1, h2⟩ := hx
    refine ⟨by rw [← h2]; rfl, fun f hf => ?_, by rw [kF2, ← h2]; rfl⟩
    rw [kF2] at hf
    simp only [List.mem_cons, List.not_mem_nil, or_false] at hf
    rcases hf with rfl | rfl | rfl
    · exact h1.1
    · exact h1.2.1
    · exact h1.2.2)
theorem kF3 : (kindA (3 : Int).toNat).2 = [117, 103] := rfl
theorem kC3 : Codec (KR 3) (KB 3) (KOk 3) := (mapC2 (h := fun v => { cal0 3 with uid := v.1, grace := v.2 }) (k := fun x => (x.uid, x.grace)) (fun _ => rfl) (seqC uC (numC (most := 1000) (by decide) (by decide)))).of rfl
  (fun x hx => by
    obtain ⟨h1, h2, h3⟩ := hx
    rw [kF3] at h2 h3
    refine ⟨⟨⟨h2 117 (by decide), h2 103 (by decide)⟩, ?_⟩, by unfold KB; rw [kF3]; simp [fieldB]⟩
    conv => rhs; rw [← h3]
    unfold onlyA; rw [h1]; rfl)
  (fun x hx => by
    obtain ⟨h1, h2⟩ := hx
    refine ⟨by rw [← h2]; rfl, fun f hf => ?_, by rw [kF3, ← h2]; rfl⟩
    rw [kF3] at hf
    simp only [List.mem_cons, List.not_mem_nil, or_false] at hf
    rcases hf with rfl | rfl
    · exact h1.1
    · exact h1.2)
theorem kF4 : (kindA (4 : Int).toNat).2 = [117, 99] := rfl
theorem kC4 : Codec (KR 4) (KB 4) (KOk 4) := (mapC2 (h := fun v => { cal0 4 with uid := v.1, ctr := v.2 }) (k := fun x => (x.uid, x.ctr)) (fun _ => rfl) (seqC uC (numC (most := 3) (by decide) (by decide)))).of rfl
  (fun x hx => by
    obtain ⟨h1, h2, h3⟩ := hx
    rw [kF4] at h2 h3
    refine ⟨⟨⟨h2 117 (by decide), h2 99 (by decide)⟩, ?_⟩, by unfold KB; rw [kF4]; simp [fieldB]⟩
    conv => rhs; rw [← h3]
    unfold onlyA; rw [h1]; rfl)
  (fun x hx => by
    obtain ⟨h1, h2⟩ := hx
    refine ⟨by rw [← h2]; rfl, fun f hf => ?_, by rw [kF4, ← h2]; rfl⟩
    rw [kF4] at hf
    simp only [List.mem_cons, List.not_mem_nil, or_false] at hf
    rcases hf with rfl | rfl
    · exact h1.1
    · exact h1.2)
theorem kF5 : (kindA (5 : Int).toNat).2 = [105, 100] := rfl
theorem kC5 : Codec (KR 5) (KB 5) (KOk 5) := (mapC2 (h := fun v => { cal0 5 with id := v.1, data := v.2 }) (k := fun x => (x.id, x.data)) (fun _ => rfl) (seqC uC (textC (most := 32) (by decide) (by decide)))).of rfl
  (fun x hx => by
    obtain ⟨h1, h2, h3⟩ := hx
    rw [kF5] at h2 h3
    refine ⟨⟨⟨h2 105 (by decide), h2 100 (by decide)⟩, ?_⟩, by unfold KB; rw [kF5]; simp [fieldB]⟩
    conv => rhs; rw [← h3]
    unfold onlyA; rw [h1]; rfl)
  (fun x hx => by
    obtain ⟨h1, h2⟩ := hx
    refine ⟨by rw [← h2]; rfl, fun f hf => ?_, by rw [kF5, ← h2]; rfl⟩
    rw [kF5] at hf
    simp only [List.mem_cons, List.not_mem_nil, or_false] at hf
    rcases hf with rfl | rfl
    · exact h1.1
    · exact h1.2)
theorem kF6 : (kindA (6 : Int).toNat).2 = [105, 109] := rfl
theorem kC6 : Codec (KR 6) (KB 6) (KOk 6) := (mapC2 (h := fun v => { cal0 6 with id := v.1, most := v.2 }) (k := fun x => (x.id, x.most)) (fun _ => rfl) (seqC uC (numC (most := 32) (by decide) (by decide)))).of rfl
  (fun x hx => by
    obtain ⟨h1, h2, h3⟩ := hx
    rw [kF6] at h2 h3
    refine ⟨⟨⟨h2 105 (by decide), h2 109 (by decide)⟩, ?_⟩, by unfold KB; rw [kF6]; simp [fieldB]⟩
    conv => rhs; rw [← h3]
    unfold onlyA; rw [h1]; rfl)
  (fun x hx => by
    obtain ⟨h1, h2⟩ := hx
    refine ⟨by rw [← h2]; rfl, fun f hf => ?_, by rw [kF6, ← h2]; rfl⟩
    rw [kF6] at hf
    simp only [List.mem_cons, List.not_mem_nil, or_false] at hf
    rcases hf with rfl | rfl
    · exact h1.1
    · exact h1.2)
theorem kF7 : (kindA (7 : Int).toNat).2 = [105] := rfl
theorem kC7 : Codec (KR 7) (KB 7) (KOk 7) := (mapC2 (h := fun v => { cal0 7 with id := v }) (k := fun x => x.id) (fun _ => rfl) uC).of rfl
  (fun x hx => by
    obtain ⟨h1, h2, h3⟩ := hx
    rw [kF7] at h2 h3
    refine ⟨⟨h2 105 (by decide), ?_⟩, by unfold KB; rw [kF7]; simp [fieldB]⟩
    conv => rhs; rw [← h3]
    unfold onlyA; rw [h1]; rfl)
  (fun x hx => by
    obtain ⟨h1, h2⟩ := hx
    refine ⟨by rw [← h2]; rfl, fun f hf => ?_, by rw [kF7, ← h2]; rfl⟩
    rw [kF7] at hf
    simp only [List.mem_cons, List.not_mem_nil, or_false] at hf
    rcases hf with rfl
    · exact h1)
theorem kF8 : (kindA (8 : Int).toNat).2 = [117] := rfl
theorem kC8 : Codec (KR 8) (KB 8) (KOk 8) := (mapC2 (h := fun v => { cal0 8 with uid := v }) (k := fun x => x.uid) (fun _ => rfl) uC).of rfl
  (fun x hx => by
    obtain ⟨h1, h2, h3⟩ := hx
    rw [kF8] at h2 h3
    refine ⟨⟨h2 117 (by decide), ?_⟩, by unfold KB; rw [kF8]; simp [fieldB]⟩
    conv => rhs; rw [← h3]
    unfold onlyA; rw [h1]; rfl)
  (fun x hx => by
    obtain ⟨h1, h2⟩ := hx
    refine ⟨by rw [← h2]; rfl, fun f hf => ?_, by rw [kF8, ← h2]; rfl⟩
    rw [kF8] at hf
    simp only [List.mem_cons, List.not_mem_nil, or_false] at hf
    rcases hf with rfl
    · exact h1)
theorem kF9 : (kindA (9 : Int).toNat).2 = [108] := rfl
theorem kC9 : Codec (KR 9) (KB 9) (KOk 9) := (mapC2 (h := fun v => { cal0 9 with sel := v }) (k := fun x => x.sel) (fun _ => rfl) labsC).of rfl
  (fun x hx => by
    obtain ⟨h1, h2, h3⟩ := hx
    rw [kF9] at h2 h3
    refine ⟨⟨h2 108 (by decide), ?_⟩, by unfold KB; rw [kF9]; simp [fieldB]⟩
    conv => rhs; rw [← h3]
    unfold onlyA; rw [h1]; rfl)
  (fun x hx => by
    obtain ⟨h1, h2⟩ := hx
    refine ⟨by rw [← h2]; rfl, fun f hf => ?_, by rw [kF9, ← h2]; rfl⟩
    rw [kF9] at hf
    simp only [List.mem_cons, List.not_mem_nil, or_false] at hf
    rcases hf with rfl
    · exact h1)
theorem kF10 : (kindA (10 : Int).toNat).2 = [117] := rfl
theorem kC10 : Codec (KR 10) (KB 10) (KOk 10) := (mapC2 (h := fun v => { cal0 10 with uid := v }) (k := fun x => x.uid) (fun _ => rfl) uC).of rfl
  (fun x hx => by
    obtain ⟨h1, h2, h3⟩ := hx
    rw [kF10] at h2 h3
    refine ⟨⟨h2 117 (by decide), ?_⟩, by unfold KB; rw [kF10]; simp [fieldB]⟩
    conv => rhs; rw [← h3]
    unfold onlyA; rw [h1]; rfl)
  (fun x hx => by
    obtain ⟨h1, h2⟩ := hx
    refine ⟨by rw [← h2]; rfl, fun f hf => ?_, by rw [kF10, ← h2]; rfl⟩
    rw [kF10] at hf
    simp only [List.mem_cons, List.not_mem_nil, or_false] at hf
    rcases hf with rfl
    · exact h1)
theorem kF11 : (kindA (11 : Int).toNat).2 = [114, 108] := rfl
theorem kC11 : Codec (KR 11) (KB 11) (KOk 11) := (mapC2 (h := fun v => { cal0 11 with rev := v.1, sel := v.2 }) (k := fun x => (x.rev, x.sel)) (fun _ => rfl) (seqC bigC labsC)).of rfl
  (fun x hx => by
    obtain ⟨h1, h2, h3⟩ := hx
    rw [kF11] at h2 h3
    refine ⟨⟨⟨h2 114 (by decide), h2 108 (by decide)⟩, ?_⟩, by unfold KB; rw [kF11]; simp [fieldB]⟩
    conv => rhs; rw [← h3]
    unfold onlyA; rw [h1]; rfl)
  (fun x hx => by
    obtain ⟨h1, h2⟩ := hx
    refine ⟨by rw [← h2]; rfl, fun f hf => ?_, by rw [kF11, ← h2]; rfl⟩
    rw [kF11] at hf
    simp only [List.mem_cons, List.not_mem_nil, or_false] at hf
    rcases hf with rfl | rfl
    · exact h1.1
    · exact h1.2)
theorem kF12 : (kindA (12 : Int).toNat).2 = [105] := rfl
theorem kC12 : Codec (KR 12) (KB 12) (KOk 12) := (mapC2 (h := fun v => { cal0 12 with id := v }) (k := fun x => x.id) (fun _ => rfl) uC).of rfl
  (fun x hx => by
    obtain ⟨h1, h2, h3⟩ := hx
    rw [kF12] at h2 h3
    refine ⟨⟨h2 105 (by decide), ?_⟩, by unfold KB; rw [kF12]; simp [fieldB]⟩
    conv => rhs; rw [← h3]
    unfold onlyA; rw [h1]; rfl)
  (fun x hx => by
    obtain ⟨h1, h2⟩ := hx
    refine ⟨by rw [← h2]; rfl, fun f hf => ?_, by rw [kF12, ← h2]; rfl⟩
    rw [kF12] at hf
    simp only [List.mem_cons, List.not_mem_nil, or_false] at hf
    rcases hf with rfl
    · exact h1)
theorem kC {k : Int} (h1 : 1 ≤ k) (h2 : k ≤ 12) : Codec (KR k) (KB k) (KOk k) := by
  have h : k = 1 ∨ k = 2 ∨ k = 3 ∨ k = 4 ∨ k = 5 ∨ k = 6 ∨ k = 7 ∨ k = 8 ∨ k = 9 ∨ k = 10 ∨ k = 11 ∨ k = 12 := by omega
  rcases h with rfl | rfl | rfl | rfl | rfl | rfl | rfl | rfl | rfl | rfl | rfl | rfl
  · exact kC1
  · exact kC2
  · exact kC3
  · exact kC4
  · exact kC5
  · exact kC6
  · exact kC7
  · exact kC8
  · exact kC9
  · exact kC10
  · exact kC11
  · exact kC12
theorem cal_ok {x : Cal} (h : CalOk x) : KOk x.kind x := ⟨rfl, h.2.1, h.2.2⟩
theorem cal_back {x : Cal} (h : CalOk x) (t : List UInt8) : calRd (calB x ++ t) 0 = (x, t, 0) := by
  have h1 := (numC (most := 12) (by decide) (by decide)).back x.kind (KB x.kind x ++ t) ⟨by have := h.1.1; omega, h.1.2⟩
  have h2 := (kC h.1.1 h.1.2).back x t (cal_ok h)
  have h1' : numR (calB x ++ t) 0 12 = (x.kind, KB x.kind x ++ t, 0) := by
    unfold calB; rw [List.append_assoc]; exact h1
  unfold calRd
  rw [h1']
  exact h2
/-! What may be -/
abbrev kindN : List UInt8 := [107, 105, 110, 100]
abbrev callN : List UInt8 := [99, 97, 108, 108]
def fieldE (x : Cal) (f : UInt8) : Er :=
  if f = 117 then withinE [117, 105, 100] x.uid 1 1073741824 else if f = 115 then erIn (checkE x.spec) [115, 112, 101, 99] else if f = 103 then withinE [103, 114, 97, 99, 101] x.grace 0 1000 else if f = 99 then withinE [99, 116, 114] x.ctr 0 3 else if f = 105 then withinE [105, 100] x.id 1 1073741824 else if f = 109 then withinE [109, 111, 115, 116] x.most 1 32
  else if f = 108 then labelsE [115, 101, 108] x.sel else if f = 100 then (if 32 < (x.data.length : Int) then some (2, [[100, 97, 116, 97]]) else none) else none
def cleanB (o x : Cal) : Bool := (decide (o.uid = x.uid) && decide (o.rev = x.rev) && decide (o.grace = x.grace) && decide (o.ctr = x.ctr) && decide (o.id = x.id) && decide (o.most = x.most)) && (decide (o.data = x.data) && (decide (o.sel.length = x.sel.length) && sameS o.spec x.spec))
def checkA (x : Cal) : Er := if x.kind < 1 ∨ 12 < x.kind then some (80, [kindN]) else match firstE ((kindA x.kind.toNat).2.map (fieldE x)) with | some e => some e | none => if cleanB (onlyA (kindA x.kind.toNat).2 x) x = true then none else some (4, [callN])
theorem clean_iff {fs : List UInt8} {x : Cal} : cleanB (onlyA fs x) x = true ↔ onlyA fs x = x := by
  unfold cleanB
  simp only [Bool.and_eq_true, decide_eq_true_eq, sameS_iff]
  constructor
  · rintro ⟨⟨⟨⟨⟨⟨h1, h2⟩, h3⟩, h4⟩, h5⟩, h6⟩, h7, h8, h9⟩
    refine cal_ext rfl h1 h2 h9 h3 h4 h5 h6 h7 ?_
    show (if 108 ∈ fs then x.sel else []) = x.sel
    have h8' : (if 108 ∈ fs then x.sel else []).length = x.sel.length := h8
    split
    · rfl
    · rename_i hn
      rw [if_neg hn] at h8'
      exact (List.eq_nil_of_length_eq_zero h8'.symm).symm
  · intro h
    rw [h]; simp
theorem field_ok {x : Cal} {f : UInt8} (hu : x.rev < 18446744073709551616) (h : fieldE x f = none) : FieldOk x f := by
  unfold fieldE at h; unfold FieldOk
  split at h
  · rename_i hf; rw [if_pos hf]; have := within_none h; omega
  · rename_i h117; rw [if_neg h117]
    split
    · exact hu
    · split at h
      · rename_i hf; rw [if_pos hf]; exact check_ok (erIn_none h)
      · rename_i h115; rw [if_neg h115]
        split at h
        · rename_i hf; rw [if_pos hf]; have := within_none h; omega
        · rename_i h103; rw [if_neg h103]
          split at h
          · rename_i hf; rw [if_pos hf]; have := within_none h; omega
          · rename_i h99; rw [if_neg h99]
            split at h
            · rename_i hf; rw [if_pos hf]; have := within_none h; omega
            · rename_i h105; rw [if_neg h105]
              split at h
              · rename_i hf; rw [if_pos hf]; have := within_none h; omega
              · rename_i h109; rw [if_neg h109]
                split
                · rename_i hf
                  subst hf
                  rw [if_neg (by decide), if_pos rfl] at h
                  split at h
                  · cases h
                  · omega
                · split
                  · rename_i hf
                    rw [if_pos hf] at h
                    have hl := labels_out h
                    refine ⟨by have := hl.1; omega, fun y hy => ?_⟩
                    have h9 := hl.2.2 y hy
                    have k1 := key_short h9.1
                    have k2 := val_short h9.2
                    exact ⟨by omega, by omega⟩
                  · trivial
theorem checkA_ok {x : Cal} (hu : x.rev < 18446744073709551616) (h : checkA x = none) : CalOk x ∧ ∀ f ∈ (kindA x.kind.toNat).2, fieldE x f = none := by
  unfold checkA at h
  split at h
  · cases h
  · rename_i hk
    split at h
    · cases h
    · rename_i hf
      split at h
      · rename_i hc
        have hall : ∀ f ∈ (kindA x.kind.toNat).2, fieldE x f = none := fun f hm => firstE_none hf _ (List.mem_map.2 ⟨f, hm, rfl⟩)
        exact ⟨⟨⟨by omega, by omega⟩, fun f hm => field_ok hu (hall f hm), clean_iff.1 hc⟩, hall⟩
      · cases h
/-- the call of bytes, or the error -/
def wireA (s : List UInt8) : Er := if (calRd s 0).2.2 = 0 ∧ 0 < (calRd s 0).1.kind then erNew (endR (calRd s 0).2.1 (calRd s 0).2.2) [wireN] else erNew (calRd s 0).2.2 [wireN]
def ofAE (s : List UInt8) : Er := firstE [wireA s, checkA (calRd s 0).1]
def ofA (s : List UInt8) : Cal := if ofAE s = none then (calRd s 0).1 else cal0 0
theorem firstE_two {a b : Er} : firstE [a, b] = none ↔ a = none ∧ b = none := by cases a <;> cases b <;> simp [firstE]
theorem ofA_some {s : List UInt8} (h : ofAE s ≠ none) : ofA s = cal0 0 := by unfold ofA; rw [if_neg h]
theorem askOf_bytes {x : Cal} (hu : x.rev < 18446744073709551616) (h : checkA x = none) : ofAE (calB x) = none ∧ ofA (calB x) = x := by
  have hc := (checkA_ok hu h).1
  have h1 := cal_back hc []
  rw [List.append_nil] at h1
  have h2 : ofAE (calB x) = none := by
    refine firstE_two.2 ⟨?_, by rw [h1]; exact h⟩
    unfold wireA; rw [h1]; dsimp only
    rw [if_pos ⟨rfl, by have := hc.1.1; omega⟩]; rfl
  exact ⟨h2, by unfold ofA; rw [if_pos h2, h1]⟩
/-! The walks' steps -/
def copyA (f : UInt8) (o x : Cal) : Cal :=
  if f = 117 then { o with uid := x.uid } else if f = 114 then { o with rev := x.rev } else if f = 115 then { o with spec := x.spec } else if f = 103 then { o with grace := x.grace } else if f = 99 then { o with ctr := x.ctr } else if f = 105 then { o with id := x.id } else if f = 109 then { o with most := x.most } else if f = 108 then { o with sel := x.sel } else if f = 100 then { o with data := x.data } else o
theorem copy_uid (f : UInt8) (o x : Cal) : (copyA f o x).uid = if f = 117 then x.uid else o.uid := by
  by_cases hf : f = 117
  · subst hf; rfl
  · rw [if_neg hf]; unfold copyA
    repeat (first | rfl | (split; first | rfl | (rename_i h9; exact absurd h9 hf)))
theorem copy_rev (f : UInt8) (o x : Cal) : (copyA f o x).rev = if f = 114 then x.rev else o.rev := by
  by_cases hf : f = 114
  · subst hf; rfl
  · rw [if_neg hf]; unfold copyA
    repeat (first | rfl | (split; first | rfl | (rename_i h9; exact absurd h9 hf)))
theorem copy_spec (f : UInt8) (o x : Cal) : (copyA f o x).spec = if f = 115 then x.spec else o.spec := by
  by_cases hf : f = 115
  · subst hf; rfl
  · rw [if_neg hf]; unfold copyA
    repeat (first | rfl | (split; first | rfl | (rename_i h9; exact absurd h9 hf)))
theorem copy_grace (f : UInt8) (o x : Cal) : (copyA f o x).grace = if f = 103 then x.grace else o.grace := by
  by_cases hf : f = 103
  · subst hf; rfl
  · rw [if_neg hf]; unfold copyA
    repeat (first | rfl | (split; first | rfl | (rename_i h9; exact absurd h9 hf)))
theorem copy_ctr (f : UInt8) (o x : Cal) : (copyA f o x).ctr = if f = 99 then x.ctr else o.ctr := by
  by_cases hf : f = 99
  · subst hf; rfl
  · rw [if_neg hf]; unfold copyA
    repeat (first | rfl | (split; first | rfl | (rename_i h9; exact absurd h9 hf)))
theorem copy_id (f : UInt8) (o x : Cal) : (copyA f o x).id = if f = 105 then x.id else o.id := by
  by_cases hf : f = 105
  · subst hf; rfl
  · rw [if_neg hf]; unfold copyA
    repeat (first | rfl | (split; first | rfl | (rename_i h9; exact absurd h9 hf)))
theorem copy_most (f : UInt8) (o x : Cal) : (copyA f o x).most = if f = 109 then x.most else o.most := by
  by_cases hf : f = 109
  · subst hf; rfl
  · rw [if_neg hf]; unfold copyA
    repeat (first | rfl | (split; first | rfl | (rename_i h9; exact absurd h9 hf)))
theorem copy_data (f : UInt8) (o x : Cal) : (copyA f o x).data = if f = 100 then x.data else o.data := by
  by_cases hf : f = 100
  · subst hf; rfl
  · rw [if_neg hf]; unfold copyA
    repeat (first | rfl | (split; first | rfl | (rename_i h9; exact absurd h9 hf)))
theorem copy_sel (f : UInt8) (o x : Cal) : (copyA f o x).sel = if f = 108 then x.sel else o.sel := by
  by_cases hf : f = 108
  · subst hf; rfl
  · rw [if_neg hf]; unfold copyA
    repeat (first | rfl | (split; first | rfl | (rename_i h9; exact absurd h9 hf)))
theorem copy_kind (f : UInt8) (o x : Cal) : (copyA f o x).kind = o.kind := by
  unfold copyA
  repeat (first | rfl | (split; first | rfl | skip))
theorem pick_next {α : Type} {l : List UInt8} {f L : UInt8} {v z : α} : (if L ∈ l ++ [f] then v else z) = (if f = L then v else (if L ∈ l then v else z)) := by
  by_cases hf : f = L
  · subst hf; rw [if_pos rfl, if_pos (by simp)]
  · rw [if_neg hf]
    by_cases hl : L ∈ l
    · rw [if_pos hl, if_pos (by simp [hl])]
    · rw [if_neg hl, if_neg (by simp only [List.mem_append, List.mem_singleton]; rintro (k | k); exact hl k; exact hf k.symm)]
theorem only_next {fs : List UInt8} {x : Cal} {i : Nat} (h : i < fs.length) : onlyA (fs.take (i + 1)) x = copyA fs[i] (onlyA (fs.take i) x) x := by
  rw [List.take_succ_eq_append_getElem h]
  refine cal_ext (by rw [copy_kind]; rfl) (by rw [copy_uid]; exact pick_next) (by rw [copy_rev]; exact pick_next) (by rw [copy_spec]; exact pick_next) (by rw [copy_grace]; exact pick_next) (by rw [copy_ctr]; exact pick_next) (by rw [copy_id]; exact pick_next) (by rw [copy_most]; exact pick_next) (by rw [copy_data]; exact pick_next) (by rw [copy_sel]; exact pick_next)
theorem kindsT_len : kindsT.length = 13 := rfl
theorem kind_at {i : Nat} (h : i < 13) : kindsV[2 * i]? = some (.string ⟨(kindA i).1.toArray⟩) ∧ kindsV[2 * i + 1]? = some (.string ⟨(kindA i).2.toArray⟩) := by
  match i, h with
  | 0, _ => exact ⟨rfl, rfl⟩
  | 1, _ => exact ⟨rfl, rfl⟩
  | 2, _ => exact ⟨rfl, rfl⟩
  | 3, _ => exact ⟨rfl, rfl⟩
  | 4, _ => exact ⟨rfl, rfl⟩
  | 5, _ => exact ⟨rfl, rfl⟩
  | 6, _ => exact ⟨rfl, rfl⟩
  | 7, _ => exact ⟨rfl, rfl⟩
  | 8, _ => exact ⟨rfl, rfl⟩
  | 9, _ => exact ⟨rfl, rfl⟩
  | 10, _ => exact ⟨rfl, rfl⟩
  | 11, _ => exact ⟨rfl, rfl⟩
  | 12, _ => exact ⟨rfl, rfl⟩
  | k + 13, h => omega
theorem kind_row {v : Int} (h0 : 0 ≤ v) (h : v < 13) : ((kindsV.drop (0 + v.toNat * 2)).take 2).map AV.lit = [.S (kindA v.toNat).1, .S (kindA v.toNat).2] := by
  have : ∀ i, i < 13 → ((kindsV.drop (0 + i * 2)).take 2).map AV.lit = [.S (kindA i).1, .S (kindA i).2] := fun i hi => match i, hi with
    | 0, _ => rfl
    | 1, _ => rfl
    | 2, _ => rfl
    | 3, _ => rfl
    | 4, _ => rfl
    | 5, _ => rfl
    | 6, _ => rfl
    | 7, _ => rfl
    | 8, _ => rfl
    | 9, _ => rfl
    | 10, _ => rfl
    | 11, _ => rfl
    | 12, _ => rfl
    | k + 13, h => absurd h (by omega)
  exact this _ (by omega)
theorem kindT_fields {v : Int} (h0 : 0 ≤ v) (h : v < 13) : kindsV[0 + v.toNat * 2 + 1]? = some (.string ⟨(kindA v.toNat).2.toArray⟩) := by
  rw [show 0 + v.toNat * 2 + 1 = 2 * v.toNat + 1 by omega]; exact (kind_at (by omega)).2
theorem fields_few (i : Nat) : (kindA i).2.length ≤ 3 := by
  rcases Nat.lt_or_ge i 13 with h | h
  · have : ∀ j, j < 13 → (kindA j).2.length ≤ 3 := by decide
    exact this i h
  · unfold kindA
    rw [List.getD_eq_getElem?_getD, List.getElem?_eq_none (by rw [kindsT_len]; omega)]; decide
end Go.AL

/-
The logic AL: function values: a function's name, a closure over variables of one's own, and calls of them.
Conditions: none; no program is in sight.
-/
set_option linter.unusedVariables false
set_option linter.unusedSimpArgs false
namespace Go.AL
open Go.RowKit
section
variable {P : Program} {N : Nat} {env : Env} {st : St} {o : Oper}
/-- A function's value: what it is, and what it holds. -/
abbrev AV.fn (f : FuncId) (caps : List Value) : AV := .lit (.func (.func f) #[] caps.toArray)
theorem AEv.fn (f : FuncId) : AEv env (.func f) (.fn f []) := AEv.func f
theorem S_makeFunc {f : FuncId} {xs : List Operand} {caps : List Value} (ho : o.op = .makeFunc (.func f) #[] xs.toArray) (hc : AEvs env xs (caps.map .lit)) : PStep P N o env st (.fn f caps) :=
  .of_val fun a w hg => by
    obtain ⟨hl, hr⟩ := hc.at_ hg
    have e : xs.map a.eval = caps := by
      refine List.ext_getElem? fun i => ?_
      simp only [List.getElem?_map]
      have hl' : caps.length = xs.length := by simpa using hl.symm
      cases hx : xs[i]? with
      | none =>
        have : xs.length ≤ i := by simpa using hx
        simp; omega
      | some x =>
        have hi : i < caps.length := by have := (List.getElem?_eq_some_iff.1 hx).1; omega
        have := hr i (.lit caps[i]) x (by simp [hi]) hx
        have := this.lit_inv
        simp [hi, this]
    refine ⟨.func (.func f) #[] caps.toArray, ?_, .lit _⟩
    simp [execOp, ho, Instr.makeFunc, e]

theorem S_callF {f : FuncId} {x : Operand} {caps : List Value} {xs : List Operand} {ts : Array TypeId} {args : List AV} {K : AV → St → Prop} (ho : o.op = .call { callee := .value x, args := xs.toArray, argTypes := ts }) (hx : AEv env x (.fn f caps)) (hargs : AEvs env xs args) (hc : ACalls P f (args ++ caps.map .lit) st K) : Step P N o env st K := by
  intro a w hg next Q hn
  obtain ⟨hl, hr⟩ := hargs.at_ hg
  have hf := (hx _ _ _ _ hg).lit_inv
  have hrun : (execOp a.eval o).run P w = .ok (.enter f ((xs.map a.eval) ++ caps).toArray) w := by
    simp [execOp, ho, resolve, Deferred.ofValue, hf, invoke, run_callFunc' hc.enters]
  unfold Oper.wp
  rw [hrun]
  have hl2 : args.length = xs.length := hl.symm
  refine (hc.calls w _ hg.rel (by simp [hl2]) fun i y v hy hv => ?_).mono ?_
  · simp only [List.getElem?_toArray] at hv
    rcases Nat.lt_or_ge i args.length with hi | hi
    · rw [List.getElem?_append_left hi] at hy
      rw [List.getElem?_append_left (by simp; omega)] at hv
      simp at hv
      obtain ⟨u, hu, rfl⟩ := hv
      exact hr i y u hy hu
    · rw [List.getElem?_append_right hi] at hy
      rw [List.getElem?_append_right (by simp; omega)] at hv
      simp only [List.length_map] at hv
      rw [← hl2] at hv
      simp only [List.getElem?_map, hv, Option.map_some, Option.some.injEq] at hy
      subst hy
      exact .lit v
  · rintro e w' ⟨r, y, st', rfl, k, h1, h2, h3⟩
    exact hn y st' r w' k h1 h2 h3
end
end Go.AL

/-
The logic AL: load of several cells of a table.
Conditions: none; no program is in sight.
-/
set_option linter.unusedVariables false
set_option linter.unusedSimpArgs false
namespace Go.AL
open Go.RowKit
section
variable {P : Program} {N : Nat} {env : Env} {st : St} {o : Oper} {w : World}
theorem S_loadKs {t : TypeId} {x : Operand} {b off m : Nat} {vs : List Value} (ho : o.op = .load t x) (hx : AEv env x (.ptr b off)) (hst : (b, Ob.konst vs) ∈ st) (ht : rowT P t m = true) (hm : off + m ≤ vs.length) : PStep P N o env st (.agg (((vs.drop off).take m).map AV.lit)) :=
  .of_val fun a w hg => by
    obtain ⟨d, hu, hd, hi⟩ := rowT_spec ht
    have e := eval_ptr hx hg
    have hlen : ((vs.drop off).take m).length = m := by simp; omega
    refine ⟨.agg ((vs.drop off).take m).toArray, ?_, .agg _ _ (by simp) fun i c v hc hv => ?_⟩
    · have hr : w.rangeAt b off ((vs.drop off).take m) := fun j v hv => by
        have hj : j < m := by have := (List.getElem?_eq_some_iff.1 hv).1; omega
        rw [List.getElem?_take_of_lt hj, List.getElem?_drop] at hv
        exact (hg.rel.konst b vs hst).2 _ _ hv
      simp only [execOp, ho, e, Sem.run_bind, run_loadAt_mid (P := P) w b off t _ d hr hu hd (by rw [hi, hlen]), Result.andThen_ok, Sem.run_pure]
    · rw [List.getElem?_toArray] at hv
      rw [List.getElem?_map, hv] at hc
      rw [← Option.some.inj hc]
      exact .lit _
/-- .. an element of one cell of an array that is a value -/
theorem S_idxOne {t e : TypeId} {len : Nat} {x y : Operand} {cs : List AV} {c : AV} {k : IntKind} {i : Int} (ho : o.op = .index t x y) (hx : AEv env x (.agg cs)) (hy : AEv env y (.int k i)) (hu : P.underlying t = some (.array len e)) (ht : flatT P e = true) (hm : (P.info? e).map (·.size) = some 1) (h0 : 0 ≤ i) (h1 : i < len) (hc : cs[i.toNat]? = some c) : PStep P N o env st c :=
  .of_val fun a w hg => by
    obtain ⟨vs, e1, hn, hr⟩ := agg_inv (hx _ _ _ _ hg)
    have e2 := (hy _ _ _ _ hg).lit_inv
    have hk : i.toNat < vs.size := by have := (List.getElem?_eq_some_iff.1 hc).1; omega
    refine ⟨vs[i.toNat], ?_, hr _ _ _ hc (by simp [hk])⟩
    have := run_part_flat (P := P) w ht (show vs[i.toNat]? = some vs[i.toNat] by simp [hk])
    cases hq : P.info? e with
    | none => simp [hq] at hm
    | some q =>
      have hqm : q.size = 1 := by simpa [hq] using hm
      simp [execOp, ho, e1, e2, Instr.index, asIntOf, run_underlying hu, h0, h1, sizeOf, typeInfo, hq, hqm, this]
end
end Go.AL

/-
The logic AL: a region that draws its order, every order walked by itself.
Conditions: none; no program is in sight.
-/
set_option linter.unusedVariables false
set_option linter.unusedSimpArgs false
namespace Go.AL
open Go.RowKit
section
variable {P : Program} {N : Nat} {Q : Post} {env : Env} {st : St} {ops : Array Oper}
theorem AC_mono {c : Code} {Q' : Post} (h : AC P N c Q' env st) (hq : ∀ e env' st', Q' e env' st' → Q e env' st') : AC P N c Q env st := fun a w hg =>
  wp_mono (h a w hg) fun e a' w' ⟨env', st', h1, h2, h3⟩ => ⟨env', st', hq _ _ _ h1, h2, h3⟩
def AO (P : Program) (N : Nat) (ops : Array Oper) (Q : Post) (fuel : Nat) (listed : Array Bool) (env : Env) (st : St) : Prop :=
  ∀ (st0 : St) (w0 : World) (a : Act) (w : World), (st0.map (·.1)).Nodup → Good N env st a w → Ext st0 w0 st w → wpAny P .any ops (Sat N Q st0 w0) fuel listed a w
inductive AllI (p : Nat → Prop) : List Nat → Prop
  | nil : AllI p []
  | cons {i : Nat} {l : List Nat} (h : p i) (t : AllI p l) : AllI p (i :: l)
theorem AllI.at_ {p : Nat → Prop} : ∀ {l : List Nat}, AllI p l → ∀ i ∈ l, p i
  | _, .cons h t, i, hi => by
    rcases List.mem_cons.1 hi with rfl | hi
    · exact h
    · exact t.at_ i hi
def AO1 (P : Program) (N : Nat) (ops : Array Oper) (Q : Post) (fuel : Nat) (listed : Array Bool) (env : Env) (st : St) (i : Nat) : Prop :=
  ∃ (o : Oper) (K : AV → St → Prop), ops[i]? = some o ∧ o.guard = none ∧ dstIn N o.dst = true ∧ Step P N o env st K ∧ ∀ x st', K x st' → AO P N ops Q fuel (listed.setIfInBounds i true) (putE o.dst x env) st'
theorem AO1.mk' {fuel i : Nat} {listed : Array Bool} {o : Oper} {K : AV → St → Prop} (ho : ops[i]? = some o) (hgd : o.guard = none) (hd : dstIn N o.dst = true) (hs : Step P N o env st K) (h : ∀ x st', K x st' → AO P N ops Q fuel (listed.setIfInBounds i true) (putE o.dst x env) st') : AO1 P N ops Q fuel listed env st i := ⟨o, K, ho, hgd, hd, hs, h⟩
theorem AO_step {fuel : Nat} {listed : Array Bool} {rs : List Nat} (hr : Region.ready .any ops listed = rs) (hne : rs.isEmpty = false) (h : AllI (AO1 P N ops Q fuel listed env st) rs) : AO P N ops Q (fuel + 1) listed env st := by
  intro st0 w0 a w hn hg hx
  refine ⟨fun k => ?_, fun i hi => ?_⟩
  · rw [hr] at k; rw [k] at hne; cases hne
  · rw [hr] at hi
    obtain ⟨o, K, ho, hgd, hd, hs, hk⟩ := h.at_ i hi
    unfold wpOp
    rw [ho]
    dsimp only
    rw [if_pos (by simp [Region.wanted, hgd])]
    exact .inl (hs a w hg _ _ fun x st' v w' hkx hr' hrel hext => hk x st' hkx st0 w0 _ _ hn (hg.put (dstIn_spec hd) hr' hrel hext) (hx.trans hext hn))
theorem AO_fin {fuel : Nat} {listed : Array Bool} (hr : Region.ready .any ops listed = []) (h : Q .normal env st) : AO P N ops Q fuel listed env st := by
  intro st0 w0 a w hn hg hx
  have hs : Sat N Q st0 w0 .normal a w := ⟨env, st, h, hg, hx⟩
  cases fuel with
  | zero => exact ⟨hr, hs⟩
  | succ fuel => exact ⟨fun _ => hs, fun i hi => by rw [hr] at hi; cases hi⟩
/-- Every order comes to K. -/
theorem AC_ords {id : Nat} {l : List Oper} (K : Env → St → Prop) (hm : P.follows .mixedOrders = true) (h : AO P N l.toArray (fun e env' st' => e = .normal ∧ K env' st') l.toArray.size (Array.replicate l.toArray.size false) env st) (hk : ∀ env' st', K env' st' → Q .normal env' st') : AC P N (.region id l.toArray true) Q env st := by
  refine AC_mono (Q' := fun e env' st' => e = .normal ∧ K env' st') (fun a0 w0 hg => ?_) fun e env' st' ⟨h1, h2⟩ => by rw [h1]; exact hk env' st' h2
  have hn := hg.rel.nodup
  have hdrew : Ext st w0 st { w0 with drawn := w0.drawn + 1 } := ⟨rfl, rfl, rfl, fun _ _ => rfl, Nat.le_refl _, fun _ _ _ => rfl, fun _ _ _ _ _ _ _ _ _ => rfl, fun _ _ _ h => h, fun _ _ _ _ => rfl⟩
  have hrel : Rel st { w0 with drawn := w0.drawn + 1 } := ⟨hn, fun b cs hbm => let ⟨vs, T, k1, k2, k3⟩ := hg.rel.cells b cs hbm; ⟨vs, T, k1, k2, fun i c v hc hv => (k3 i c v hc hv).mono hdrew hn⟩, hg.rel.grow, hg.rel.konst⟩
  refine wp_region_any hm (h st w0 a0 _ hn ⟨hg.size, hg.defers, fun t x hx => ?_, hrel⟩ hdrew)
  obtain ⟨v, hv, hr⟩ := hg.env t x hx
  exact ⟨v, hv, hr.mono hdrew hn⟩
end
end Go.AL

/-
The walks' steps over calls.
Conditions: none; no program is in sight.
-/
set_option linter.unusedVariables false
set_option linter.unusedSimpArgs false
namespace Go.AL
open Go.RowKit Go.NumSpec
theorem u8_eq {f k : UInt8} (h : (f.toNat : Int) = (k.toNat : Int)) : f = k := UInt8.toNat_inj.1 (Int.ofNat_inj.1 h)
theorem kind_out {v : Int} (h : v < 1 ∨ 13 ≤ v) : kindA v.toNat = ([], []) := by
  rcases h with h | h
  · rw [show v.toNat = 0 by omega]; rfl
  · unfold kindA
    rw [List.getD_eq_getElem?_getD, List.getElem?_eq_none (by rw [kindsT_len]; omega)]; rfl
/-- a call that the laws take -/
def lightA (x : Cal) : Bool := lightS x.spec && lightS (onlyL x.sel) && decide ((x.data.length : Int) < 300)
theorem lightA_spec {x : Cal} (h : lightA x = true) : lightS x.spec = true := by
  unfold lightA at h; simp only [Bool.and_eq_true] at h; exact h.1.1
theorem lightA_sel {x : Cal} (h : lightA x = true) : x.sel.length ≤ 10 ∧ ∀ y ∈ x.sel, y.1.length ≤ 100 ∧ y.2.length ≤ 100 := by
  unfold lightA at h; simp only [Bool.and_eq_true] at h; exact onlyL_light h.1.2
/-- what a call must be for the walks -/
def ShortA (x : Cal) : Prop := lightS x.spec = true ∧ x.sel.length ≤ 1000000 ∧ ∀ y ∈ x.sel, y.1.length ≤ 1000000 ∧ y.2.length ≤ 1000000
theorem lightA_short {x : Cal} (h : lightA x = true) : ShortA x := ⟨lightA_spec h, by have := (lightA_sel h).1; omega, fun y hy => ⟨by have := ((lightA_sel h).2 y hy).1; omega, by have := ((lightA_sel h).2 y hy).2; omega⟩⟩
theorem cal0_short (k : Int) : ShortA (cal0 k) := ⟨spc0_light, Nat.zero_le _, fun y hy => absurd hy List.not_mem_nil⟩
theorem field_data (x : Cal) : fieldE x 100 = if 32 < (x.data.length : Int) then some (2, [[100, 97, 116, 97]]) else none := rfl
/-! Sizes -/
theorem fieldB_len {x : Cal} {f : UInt8} (h : FieldOk x f) (hs : f = 115 → (spcB x.spec).length ≤ 20000) (hl : f = 108 → (labsB x.sel).length ≤ 20000) : (fieldB x f).length ≤ 20000 := by
  unfold fieldB; unfold FieldOk at h
  split
  · rename_i hf; rw [if_pos hf] at h
    have := numB_len (n := x.uid) (by omega); omega
  · rename_i h1; rw [if_neg h1] at h
    split
    · rename_i hf; rw [if_pos hf] at h; have := putL_few x.rev h; omega
    · rename_i h2; rw [if_neg h2] at h
      split
      · rename_i hf; exact hs hf
      · rename_i h3; rw [if_neg h3] at h
        split
        · rename_i hf; rw [if_pos hf] at h
          have := numB_len (n := x.grace) (by omega); omega
        · rename_i h4; rw [if_neg h4] at h
          split
          · rename_i hf; rw [if_pos hf] at h
            have := numB_len (n := x.ctr) (by omega); omega
          · rename_i h5; rw [if_neg h5] at h
            split
            · rename_i hf; rw [if_pos hf] at h
              have := numB_len (n := x.id) (by omega); omega
            · rename_i h6; rw [if_neg h6] at h
              split
              · rename_i hf; rw [if_pos hf] at h
                have := numB_len (n := x.most) (by omega); omega
              · rename_i h7; rw [if_neg h7] at h
                split
                · rename_i hf; rw [if_pos hf] at h
                  have := textB_len (s := x.data) (by omega); omega
                · split
                  · rename_i hf; exact hl hf
                  · exact Nat.zero_le _
theorem fieldB_few {x : Cal} {f : UInt8} (hu : x.rev < 18446744073709551616) (h : fieldE x f = none) : (fieldB x f).length ≤ 20000 := by
  refine fieldB_len (field_ok hu h) (fun hf => ?_) fun hf => ?_
  · subst hf; exact spcB_len (erIn_none h)
  · subst hf
    have hl := labels_out h
    have := listB_len (e := labB) (l := x.sel) (B := 1000) (by have := hl.1; omega) fun y hy => by
      have h9 := hl.2.2 y hy
      have k1 := key_short h9.1
      have k2 := val_short h9.2
      exact labB_len (by omega) (by omega)
    have := hl.1
    show (listB labB x.sel).length ≤ 20000
    omega
/-! What is read is light -/
theorem rdF_snoc (fs : List UInt8) (f : UInt8) (x : Cal) (s : List UInt8) (c : Int) : rdF (fs ++ [f]) x s c = oneR f (rdF fs x s c).1 (rdF fs x s c).2.1 (rdF fs x s c).2.2 := by
  induction fs generalizing x s c with
  | nil => rfl
  | cons g fs ih => exact ih _ _ _
theorem rdF_take {fs : List UInt8} {i : Nat} (h : i < fs.length) (x : Cal) (s : List UInt8) (c : Int) : rdF (fs.take (i + 1)) x s c = oneR fs[i] (rdF (fs.take i) x s c).1 (rdF (fs.take i) x s c).2.1 (rdF (fs.take i) x s c).2.2 := by
  rw [List.take_succ_eq_append_getElem h, rdF_snoc]
theorem labsRd_short (s : List UInt8) (c : Int) : (labsRd s c).1.length ≤ 1000000 ∧ ∀ y ∈ (labsRd s c).1, y.1.length ≤ 1000000 ∧ y.2.length ≤ 1000000 := by
  have h2 : (((labsRd s c).1.length : Nat) : Int) ≤ 4 := allR_few (f := labRd) (most := 4) (by decide) _ _
  have h5 : ∀ x ∈ (labsRd s c).1, x.1.length ≤ 33 ∧ x.2.length ≤ 16 := allR_all (f := labRd) labRd_short 4 _ _
  exact ⟨by omega, fun y hy => ⟨by have := (h5 y hy).1; omega, by have := (h5 y hy).2; omega⟩⟩
theorem oneR_short (f : UInt8) (x : Cal) (s : List UInt8) (c : Int) (h : ShortA x) : ShortA (oneR f x s c).1 := by
  unfold oneR
  by_cases h1 : f = 117
  · rw [if_pos h1]; exact h
  · rw [if_neg h1]
    by_cases h2 : f = 114
    · rw [if_pos h2]; exact h
    · rw [if_neg h2]
      by_cases h3 : f = 115
      · rw [if_pos h3]; exact ⟨spcRd_light s c, h.2⟩
      · rw [if_neg h3]
        by_cases h4 : f = 103
        · rw [if_pos h4]; exact h
        · rw [if_neg h4]
          by_cases h5 : f = 99
          · rw [if_pos h5]; exact h
          · rw [if_neg h5]
            by_cases h6 : f = 105
            · rw [if_pos h6]; exact h
            · rw [if_neg h6]
              by_cases h7 : f = 109
              · rw [if_pos h7]; exact h
              · rw [if_neg h7]
                by_cases h8 : f = 100
                · rw [if_pos h8]; exact h
                · rw [if_neg h8]
                  by_cases h9 : f = 108
                  · rw [if_pos h9]; exact ⟨h.1, labsRd_short s c⟩
                  · rw [if_neg h9]; exact h
theorem rdF_short (fs : List UInt8) (x : Cal) (s : List UInt8) (c : Int) (h : ShortA x) : ShortA (rdF fs x s c).1 := by
  induction fs generalizing x s c with
  | nil => exact h
  | cons f fs ih => exact ih _ _ _ (oneR_short f x s c h)
theorem calRd_short (s : List UInt8) : ShortA (calRd s 0).1 := rdF_short _ _ _ _ (cal0_short _)
end Go.AL

/-
Calls: the check, step by step.
Conditions: none; no program is in sight.
-/
set_option linter.unusedVariables false
set_option linter.unusedSimpArgs false
namespace Go.AL
open Go.RowKit Go.NumSpec
theorem only_light {fs : List UInt8} {x : Cal} (h : lightS x.spec = true) : lightS (onlyA fs x).spec = true := by
  show lightS (if 115 ∈ fs then x.spec else spc0) = true
  split
  · exact h
  · exact spc0_light
theorem check_kind {x : Cal} (h : 1 ≤ x.kind → 13 ≤ x.kind) : checkA x = some (80, [kindN]) := by
  unfold checkA; rw [if_pos (by omega)]
theorem firstA_at {l : List Er} {i : Nat} (hi : i < l.length) (hall : ∀ j (h : j < l.length), j < i → l[j] = none) (h : l[i] ≠ none) : firstE l = l[i] := by
  induction l generalizing i with
  | nil => exact absurd hi (Nat.not_lt_zero _)
  | cons a l ih =>
    cases i with
    | zero =>
      cases a with
      | none => exact absurd rfl h
      | some e => simp [firstE]
    | succ i =>
      have h0 := hall 0 (Nat.zero_lt_succ _) (Nat.zero_lt_succ _)
      simp only [List.getElem_cons_zero] at h0
      subst h0
      have h9 := ih (i := i) (by simpa using hi) (fun j hj hji => by have := hall (j + 1) (by simpa using hj) (by omega); simpa using this) (by simpa using h)
      simpa [firstE] using h9
theorem check_field {x : Cal} {i : Nat} (hk : 1 ≤ x.kind ∧ x.kind < 13) (hil : i < (kindA x.kind.toNat).2.length) (hall : ∀ j (h : j < (kindA x.kind.toNat).2.length), j < i → fieldE x ((kindA x.kind.toNat).2[j]) = none) (h : fieldE x ((kindA x.kind.toNat).2[i]) ≠ none) : checkA x = fieldE x ((kindA x.kind.toNat).2[i]) := by
  have h1 : firstE ((kindA x.kind.toNat).2.map (fieldE x)) = fieldE x ((kindA x.kind.toNat).2[i]) := by
    have h2 := firstA_at (l := (kindA x.kind.toNat).2.map (fieldE x)) (i := i) (by rw [List.length_map]; exact hil) (fun j hj hji => by rw [List.getElem_map]; exact hall j (by rw [List.length_map] at hj; exact hj) hji) (by rw [List.getElem_map]; exact h)
    rw [h2, List.getElem_map]
  unfold checkA
  rw [if_neg (by omega), h1]
  cases he : fieldE x ((kindA x.kind.toNat).2[i]) with
  | none => exact absurd he h
  | some e => rfl
theorem firstA_nones {l : List Er} (h : ∀ e ∈ l, e = none) : firstE l = none := by
  induction l with
  | nil => rfl
  | cons a l ih =>
    have h0 := h a List.mem_cons_self
    subst h0
    simpa [firstE] using ih fun e he => h e (List.mem_cons_of_mem _ he)
theorem check_rest {x : Cal} (hk : 1 ≤ x.kind ∧ x.kind < 13) (hf : ∀ f ∈ (kindA x.kind.toNat).2, fieldE x f = none) : checkA x = if cleanB (onlyA (kindA x.kind.toNat).2 x) x = true then none else some (4, [callN]) := by
  unfold checkA
  rw [if_neg (by omega), firstA_nones (l := (kindA x.kind.toNat).2.map (fieldE x)) fun e he => by
    obtain ⟨f, hm, rfl⟩ := List.mem_map.1 he
    exact hf f hm]
theorem check_unclean {x : Cal} (hk : 1 ≤ x.kind ∧ x.kind < 13) (hf : ∀ f ∈ (kindA x.kind.toNat).2, fieldE x f = none) (h : cleanB (onlyA (kindA x.kind.toNat).2 x) x = false) : checkA x = some (4, [callN]) := by
  rw [check_rest hk hf, if_neg (by rw [h]; simp)]
theorem check_clean {x : Cal} (hk : 1 ≤ x.kind ∧ x.kind < 13) (hf : ∀ f ∈ (kindA x.kind.toNat).2, fieldE x f = none) (h : cleanB (onlyA (kindA x.kind.toNat).2 x) x = true) : checkA x = none := by
  rw [check_rest hk hf, if_pos h]
/-! What is read -/
theorem calRd_at (s : List UInt8) : calRd s 0 = rdF (kindA (numR s 0 12).1.toNat).2 (cal0 (numR s 0 12).1) (numR s 0 12).2.1 (numR s 0 12).2.2 := rfl
theorem er0_iff {c : Int} {p : List (List UInt8)} : erNew c p = none ↔ c = 0 := by
  unfold erNew; split
  · rename_i h; simp [h]
  · rename_i h; simp [h]
theorem wire_end {s : List UInt8} (h1 : (erNew (calRd s 0).2.2 [wireN]).isNone = true) (h2 : 0 < (calRd s 0).1.kind) : wireA s = erNew (endR (calRd s 0).2.1 (calRd s 0).2.2) [wireN] := by
  unfold wireA
  rw [if_pos ⟨er0_iff.1 (Option.isNone_iff_eq_none.1 h1), h2⟩]
theorem wire_code {s : List UInt8} (h : (erNew (calRd s 0).2.2 [wireN]).isNone = false ∨ ¬ 0 < (calRd s 0).1.kind) : wireA s = erNew (calRd s 0).2.2 [wireN] := by
  unfold wireA
  rw [if_neg]
  rintro ⟨h1, h2⟩
  rcases h with h | h
  · rw [er0_iff.2 h1] at h; simp at h
  · exact h h2
end Go.AL

/-
Calls: what the laws say of them.
Conditions: none; no program is in sight.
-/
set_option linter.unusedVariables false
set_option linter.unusedSimpArgs false
namespace Go.AL
open Go.RowKit Go.NumSpec
def wA : Cal := { cal0 12 with id := 5 }
theorem wA_check : checkA wA = none := by decide +kernel
theorem wA_short : ShortA wA := ⟨spc0_light, Nat.zero_le _, fun y hy => absurd hy List.not_mem_nil⟩
theorem wA_calB : calB wA = [12, 5] := by decide +kernel
theorem wA_bytes : AV.tup [.S (if checkA wA = none then calB wA else []), .int .i64 (erCode (checkA wA))] = .tup [.S [12, 5], .int .i64 0] := by
  rw [if_pos wA_check, wA_check, wA_calB]; rfl
theorem wA_of : (ofA [12, 5], ofAE [12, 5]) = (wA, none) := by
  have h := askOf_bytes (x := wA) (by decide) wA_check
  rw [wA_calB] at h
  rw [h.1, h.2]
theorem zero_ofE : ofAE [0] = some (80, [kindN]) := by decide +kernel
theorem zero_of : (ofA [0], ofAE [0]) = (cal0 0, some (80, [kindN])) := by
  rw [ofA_some (by rw [zero_ofE]; simp), zero_ofE]
theorem well_field (x : Cal) (f : UInt8) : WellE (fieldE x f) := by
  unfold fieldE
  repeat' split
  all_goals first | exact well_within _ _ _ _ | exact well_in (well_check _) _ | exact well_labels _ _ | exact well_none | exact well_some (by decide) (by simp)
theorem well_A (x : Cal) : WellE (checkA x) := by
  unfold checkA
  split
  · exact well_some (by decide) (by simp)
  · split
    · rename_i e h
      rw [← h]
      refine well_first fun e he => ?_
      obtain ⟨f, _, rfl⟩ := List.mem_map.1 he
      exact well_field x f
    · split
      · exact well_none
      · exact well_some (by decide) (by simp)
theorem check_code {x : Cal} (h : erCode (checkA x) = 0) : checkA x = none := (well_A x).code.1 h
end Go.AL

/-
Kinds' names.
Conditions: none; no program is in sight.
-/
set_option linter.unusedVariables false
set_option linter.unusedSimpArgs false
namespace Go.AL
open Go.RowKit Go.NumSpec
end Go.AL

/-
Calls: the reference's check.
Conditions: none; no program is in sight.
-/
set_option linter.unusedVariables false
set_option linter.unusedSimpArgs false
namespace Go.AL
open Go.RowKit Go.NumSpec
abbrev uidN : List UInt8 := [117, 105, 100]
abbrev revN : List UInt8 := [114, 101, 118]
abbrev spcN : List UInt8 := [115, 112, 101, 99]
abbrev grcN : List UInt8 := [103, 114, 97, 99, 101]
abbrev cnN : List UInt8 := [99, 116, 114]
abbrev idN : List UInt8 := [105, 100]
abbrev mstN : List UInt8 := [109, 111, 115, 116]
abbrev datN : List UInt8 := [100, 97, 116, 97]
abbrev slN : List UInt8 := [115, 101, 108]
def fname (f : UInt8) : List UInt8 := if f = 117 then uidN else if f = 114 then revN else if f = 115 then spcN else if f = 103 then grcN else if f = 99 then cnN else if f = 105 then idN else if f = 109 then mstN else if f = 100 then datN else if f = 108 then slN else []
abbrev fieldsN (k : Nat) : List (List UInt8) := (kindA k).2.map fname
def boundsA (x : Cal) (w : List UInt8) : Int × Int × Int := if w = uidN then (x.uid, 1, 1073741824) else if w = idN then (x.id, 1, 1073741824) else if w = grcN then (x.grace, 0, 1000) else if w = cnN then (x.ctr, 0, 3) else if w = mstN then (x.most, 1, 32) else (0, 0, 0)
/-- the nine letters -/
def Letter (f : UInt8) : Prop := f = 117 ∨ f = 114 ∨ f = 115 ∨ f = 103 ∨ f = 99 ∨ f = 105 ∨ f = 109 ∨ f = 100 ∨ f = 108
theorem kind_letters (k : Nat) : ∀ f ∈ (kindA k).2, Letter f := by
  rcases Nat.lt_or_ge k 13 with h | h
  · have : ∀ j, j < 13 → ∀ f ∈ (kindA j).2, f = 117 ∨ f = 114 ∨ f = 115 ∨ f = 103 ∨ f = 99 ∨ f = 105 ∨ f = 109 ∨ f = 100 ∨ f = 108 := by decide +kernel
    exact this k h
  · unfold kindA
    rw [List.getD_eq_getElem?_getD, List.getElem?_eq_none (by rw [kindsT_len]; omega)]
    intro f hf; exact absurd hf List.not_mem_nil
theorem fname_in {f : UInt8} (h : Letter f) {g : UInt8} (hg : Letter g) : fname f = fname g ↔ f = g := by
  constructor
  · rcases h with rfl | rfl | rfl | rfl | rfl | rfl | rfl | rfl | rfl <;> rcases hg with rfl | rfl | rfl | rfl | rfl | rfl | rfl | rfl | rfl <;> first | exact fun _ => rfl | (intro h; exact absurd h (by decide))
  · rintro rfl; rfl
theorem has_at (k : Nat) {g : UInt8} (hg : Letter g) : decide (fname g ∈ fieldsN k) = decide (g ∈ (kindA k).2) := by
  refine decide_eq_decide.2 ⟨fun h => ?_, fun h => List.mem_map.2 ⟨g, h, rfl⟩⟩
  obtain ⟨f, hf, he⟩ := List.mem_map.1 h
  rw [← (fname_in (kind_letters k f hf) hg).1 he]; exact hf
theorem chk_out {x : Cal} {f : UInt8} (hf : Letter f) (h : (boundsA x (fname f)).1 < (boundsA x (fname f)).2.1 ∨ (boundsA x (fname f)).2.2 < (boundsA x (fname f)).1) : fieldE x f = some (1, [fname f]) := by
  rcases hf with rfl | rfl | rfl | rfl | rfl | rfl | rfl | rfl | rfl
  all_goals first
    | exact if_pos h
    | (exfalso; have h' : (0 : Int) < 0 ∨ (0 : Int) < 0 := h; omega)
theorem chk_data {x : Cal} {f : UInt8} (hf : Letter f) (h : fname f = datN) (hl : 32 < (x.data.length : Int)) : fieldE x f = some (2, [fname f]) := by
  obtain rfl := (fname_in hf (g := 100) (by unfold Letter; simp)).1 h
  exact if_pos hl
theorem chk_spec {f : UInt8} (hf : Letter f) (h : fname f = spcN) : f = 115 := (fname_in hf (g := 115) (by unfold Letter; simp)).1 h
theorem chk_sel {f : UInt8} (hf : Letter f) (h : fname f = slN) : f = 108 := (fname_in hf (g := 108) (by unfold Letter; simp)).1 h
theorem chk_none {x : Cal} {f : UInt8} (hf : Letter f) (h1 : ¬ ((boundsA x (fname f)).1 < (boundsA x (fname f)).2.1 ∨ (boundsA x (fname f)).2.2 < (boundsA x (fname f)).1)) (h2 : ¬ (fname f = datN ∧ 32 < (x.data.length : Int))) (h3 : fname f = spcN → checkE x.spec = none) (h4 : fname f = slN → labelsE slN x.sel = none) : fieldE x f = none := by
  rcases hf with rfl | rfl | rfl | rfl | rfl | rfl | rfl | rfl | rfl
  · exact if_neg h1
  · rfl
  · show erIn (checkE x.spec) _ = none
    rw [h3 rfl]; rfl
  · exact if_neg h1
  · exact if_neg h1
  · exact if_neg h1
  · exact if_neg h1
  · exact if_neg fun h => h2 ⟨rfl, h⟩
  · exact h4 rfl
theorem pick_iff {α : Type} {L : UInt8} {fs : List UInt8} {v z : α} : (if L ∈ fs then v else z) = v ↔ (L ∈ fs ∨ v = z) := by
  by_cases h : L ∈ fs
  · simp [h]
  · simp only [h, if_false, false_or]; exact eq_comm
theorem only_iff {fs : List UInt8} {x : Cal} : onlyA fs x = x ↔ (117 ∈ fs ∨ x.uid = 0) ∧ (114 ∈ fs ∨ x.rev = 0) ∧ (115 ∈ fs ∨ x.spec = spc0) ∧ (103 ∈ fs ∨ x.grace = 0) ∧ (99 ∈ fs ∨ x.ctr = 0) ∧ (105 ∈ fs ∨ x.id = 0) ∧ (109 ∈ fs ∨ x.most = 0) ∧ (100 ∈ fs ∨ x.data = []) ∧ (108 ∈ fs ∨ x.sel = []) := by
  constructor
  · intro h
    exact ⟨pick_iff.1 (congrArg Cal.uid h), pick_iff.1 (congrArg Cal.rev h), pick_iff.1 (congrArg Cal.spec h), pick_iff.1 (congrArg Cal.grace h), pick_iff.1 (congrArg Cal.ctr h), pick_iff.1 (congrArg Cal.id h), pick_iff.1 (congrArg Cal.most h), pick_iff.1 (congrArg Cal.data h), pick_iff.1 (congrArg Cal.sel h)⟩
  · rintro ⟨h1, h2, h3, h4, h5, h6, h7, h8, h9⟩
    exact cal_ext rfl (pick_iff.2 h1) (pick_iff.2 h2) (pick_iff.2 h3) (pick_iff.2 h4) (pick_iff.2 h5) (pick_iff.2 h6) (pick_iff.2 h7) (pick_iff.2 h8) (pick_iff.2 h9)
def emptyB (s : Spc) : Bool := decide (s.name = []) && decide ((s.labels.length : Int) = 0) && decide ((s.init.length : Int) = 0) && decide ((s.main.length : Int) = 0) && decide (s.restart = 0) && decide (s.grace = 0) && decide (s.prio = 0)
theorem empty_iff {s : Spc} : emptyB s = true ↔ s = spc0 := by
  unfold emptyB
  simp only [Bool.and_eq_true, decide_eq_true_eq]
  constructor
  · rintro ⟨⟨⟨⟨⟨⟨h1, h2⟩, h3⟩, h4⟩, h5⟩, h6⟩, h7⟩
    cases s
    simp only at *
    have e2 := List.eq_nil_of_length_eq_zero (Int.ofNat_inj.1 h2)
    have e3 := List.eq_nil_of_length_eq_zero (Int.ofNat_inj.1 h3)
    have e4 := List.eq_nil_of_length_eq_zero (Int.ofNat_inj.1 h4)
    subst h1 e2 e3 e4 h5 h6 h7; rfl
  · intro h; subst h; simp [spc0]
theorem fieldsN_few (k : Nat) : (fieldsN k).length ≤ 3 := by
  rw [List.length_map]; exact fields_few k
theorem empty_prop {s : Spc} : ((((((s.name = [] ∧ (s.labels.length : Int) = 0) ∧ (s.init.length : Int) = 0) ∧ (s.main.length : Int) = 0) ∧ s.restart = 0) ∧ s.grace = 0) ∧ s.prio = 0) ↔ s = spc0 := by
  rw [← empty_iff]; unfold emptyB
  simp only [Bool.and_eq_true, decide_eq_true_eq]
theorem ref_clean {fs : List UInt8} {x : Cal} : cleanB (onlyA fs x) x = true ↔ ((((((((117 ∈ fs ∨ x.uid = 0) ∧ (114 ∈ fs ∨ (x.rev : Int) = 0)) ∧ (115 ∈ fs ∨ (((((x.spec.name = [] ∧ (x.spec.labels.length : Int) = 0) ∧ (x.spec.init.length : Int) = 0) ∧ (x.spec.main.length : Int) = 0) ∧ x.spec.restart = 0) ∧ x.spec.grace = 0) ∧ x.spec.prio = 0)) ∧ (103 ∈ fs ∨ x.grace = 0)) ∧ (99 ∈ fs ∨ x.ctr = 0)) ∧ (105 ∈ fs ∨ x.id = 0)) ∧ (109 ∈ fs ∨ x.most = 0)) ∧ (100 ∈ fs ∨ x.data = [])) ∧ (108 ∈ fs ∨ ¬ 0 < (x.sel.length : Int)) := by
  rw [clean_iff, only_iff, empty_prop]
  have e1 : (x.rev : Int) = 0 ↔ x.rev = 0 := by omega
  have e2 : ¬ 0 < (x.sel.length : Int) ↔ x.sel = [] := by rw [← List.length_eq_zero_iff]; omega
  rw [e1, e2]
  constructor
  · rintro ⟨h1, h2, h3, h4, h5, h6, h7, h8, h9⟩; exact ⟨⟨⟨⟨⟨⟨⟨⟨h1, h2⟩, h3⟩, h4⟩, h5⟩, h6⟩, h7⟩, h8⟩, h9⟩
  · rintro ⟨⟨⟨⟨⟨⟨⟨⟨h1, h2⟩, h3⟩, h4⟩, h5⟩, h6⟩, h7⟩, h8⟩, h9⟩; exact ⟨h1, h2, h3, h4, h5, h6, h7, h8, h9⟩
theorem not_clean {b : Bool} {p : Prop} (h : b = true ↔ p) (hn : ¬ p) : b = false := by
  cases b with
  | false => rfl
  | true => exact absurd (h.1 rfl) hn
end Go.AL

/-
Calls: the reference's bytes.
Conditions: none; no program is in sight.
-/
set_option linter.unusedVariables false
set_option linter.unusedSimpArgs false
namespace Go.AL
open Go.RowKit Go.NumSpec
theorem bounds_num {x : Cal} {f : UInt8} (hf : Letter f) (h1 : ¬ fname f = revN) (h2 : ¬ fname f = spcN) (h3 : ¬ fname f = datN) (h4 : ¬ fname f = slN) (h : fieldE x f = none) : 0 ≤ (boundsA x (fname f)).1 ∧ (boundsA x (fname f)).1 ≤ 1073741824 ∧ fieldB x f = numB (boundsA x (fname f)).1 := by
  rcases hf with rfl | rfl | rfl | rfl | rfl | rfl | rfl | rfl | rfl
  · have h9 : withinE uidN x.uid 1 1073741824 = none := h
    have := within_none h9
    exact ⟨by show 0 ≤ x.uid; omega, by show x.uid ≤ _; omega, rfl⟩
  · exact absurd rfl h1
  · exact absurd rfl h2
  · have h9 : withinE grcN x.grace 0 1000 = none := h
    have := within_none h9
    exact ⟨by show 0 ≤ x.grace; omega, by show x.grace ≤ _; omega, rfl⟩
  · have h9 : withinE cnN x.ctr 0 3 = none := h
    have := within_none h9
    exact ⟨by show 0 ≤ x.ctr; omega, by show x.ctr ≤ _; omega, rfl⟩
  · have h9 : withinE idN x.id 1 1073741824 = none := h
    have := within_none h9
    exact ⟨by show 0 ≤ x.id; omega, by show x.id ≤ _; omega, rfl⟩
  · have h9 : withinE mstN x.most 1 32 = none := h
    have := within_none h9
    exact ⟨by show 0 ≤ x.most; omega, by show x.most ≤ _; omega, rfl⟩
  · exact absurd rfl h3
  · exact absurd rfl h4
end Go.AL

/-
What is known of specs, containers and labels that came in: their numbers fit.
Conditions: none; no program is in sight.
-/
set_option linter.unusedVariables false
set_option linter.unusedSimpArgs false
namespace Go.AL
open Go.RowKit Go.NumSpec
def okLab (x : Lab) : Prop := x.1.length ≤ 9223372036854775807 ∧ x.2.length ≤ 9223372036854775807
def okCtr (c : Ctr) : Prop := fits3 c.req ∧ fits3 c.lim ∧ (∀ p ∈ c.ports, fits p) ∧ fits c.probe.1 ∧ fits c.probe.2
def okSpc (s : Spc) : Prop := (∀ c ∈ s.init, okCtr c) ∧ (∀ c ∈ s.main, okCtr c) ∧ fits s.restart ∧ fits s.grace ∧ fits s.prio
end Go.AL

/-
What a row's list of laid variables says of one table of integers, wherever it stands in the list.
Conditions: none; no program is in sight.
-/
set_option linter.unusedVariables false
namespace Go.AL
theorem tabIs_of_mem {P : Program} {W : World} {name : String} {k : IntKind} {zs : List Int} {g : Nat} {t e : TypeId} {n : Nat}
    (hg : P.globalNamed name = some g) (hty : (P.globals[g]?).map (·.type) = some t) (ht : P.underlying t = some (.array n e)) (he : P.underlying e = some (.int k)) (hce : P.cellsOf e = 1) (hct : P.cellsOf t = n) :
    ∀ {l : List (String × DataW Unit)} {ps : List MemPlace}, (name, Lib.tabData k zs) ∈ l → DataW.LaidVars P W l ps → Lib.TabIs P W name k zs
  | [], _, hm, _ => nomatch hm
  | (m, d) :: r, _, hm, h => by
    obtain ⟨g', t', cs, fuel, p, q, hg', ht', hvar, hd, hr, _⟩ := h
    rcases List.mem_cons.1 hm with hm | hm
    · cases hm
      obtain rfl := Option.some.inj (hg.symm.trans hg')
      obtain rfl := Option.some.inj (hty.symm.trans ht')
      unfold Lib.TabIs
      rw [hvar, ← Lib.cells_of_tab ht he hce hct hd]
    · exact tabIs_of_mem hg hty ht he hce hct hm hr
theorem tabIs_of_laid {P : Program} {W : World} {name : String} {k : IntKind} {zs : List Int} {g : Nat} {t e : TypeId} {n : Nat}
    (hg : P.globalNamed name = some g) (hty : (P.globals[g]?).map (·.type) = some t) (ht : P.underlying t = some (.array n e)) (he : P.underlying e = some (.int k)) (hce : P.cellsOf e = 1) (hct : P.cellsOf t = n)
    {l : List (String × DataW Unit)} (hm : (name, Lib.tabData k zs) ∈ l) (h : laidMet P l W) : Lib.TabIs P W name k zs := by
  obtain ⟨ps, h1, _⟩ := h
  exact tabIs_of_mem hg hty ht he hce hct hm h1
end Go.AL

/-
Scripts: the verbs.
Conditions: none; no program is in sight.
-/
set_option linter.unusedVariables false
set_option linter.unusedSimpArgs false
namespace Go.AL
open Go.RowKit Go.NumSpec
abbrev v0 : List UInt8 × Int × Int := ([], 0, 0)
structure Ent where
  verb : Int
  n : List Int
  data : List UInt8
end Go.AL

/-
What a row's list of laid variables says of the table of verbs.
Conditions: none; no program is in sight.
-/
set_option linter.unusedVariables false
namespace Go.AL
theorem laid_mem {P : Program} {W : World} {name : String} {d : DataW Unit} : ∀ {l : List (String × DataW Unit)} {ps : List MemPlace}, (name, d) ∈ l → DataW.LaidVars P W l ps →
    ∃ g t cs fuel p, P.globalNamed name = some g ∧ (P.globals[g]?).map (·.type) = some t ∧ W.var? P name = some cs ∧ DataW.trod (fun _ => ()) P W 0 (fun _ => true) false fuel t cs.toList = some (d, p)
  | [], _, hm, _ => nomatch hm
  | (m, d') :: r, _, hm, h => by
    obtain ⟨g', t', cs, fuel, p, q, hg', ht', hvar, hd, hr, _⟩ := h
    rcases List.mem_cons.1 hm with hm | hm
    · cases hm
      exact ⟨g', t', cs, fuel, p, hg', ht', hvar, hd⟩
    · exact laid_mem hm hr
section
variable {H : Type} {enc : TypeId × Value → H} {P : Program} {w : World} {base : Nat} {sp : Nat → Bool} {held : Bool} {fuel : Nat} {t e : TypeId}
end
end Go.AL

/-
What a row's list of laid variables says of the table of kinds.
Conditions: none; no program is in sight.
-/
set_option linter.unusedVariables false
namespace Go.AL
section
variable {H : Type} {enc : TypeId × Value → H} {P : Program} {w : World} {base : Nat} {sp : Nat → Bool} {held : Bool} {fuel : Nat} {t e : TypeId}
theorem row2_cells {f0 f1 : Field} {xs : List Value} {a b : List UInt8} {p : List MemPlace} (he : P.underlying e = some (.struct #[f0, f1])) (hc : P.cellsOf e = 2) (o0 : f0.offset = 0) (o1 : f1.offset = 1) (c0 : P.cellsOf f0.type = 1) (c1 : P.cellsOf f1.type = 1) (t0 : P.underlying f0.type = some .string) (t1 : P.underlying f1.type = some .string)
    (h : DataW.trod enc P w base sp held fuel e xs = some (.agg [.lit (.string a), .lit (.string b)], p)) : xs = [.string ⟨a.toArray⟩, .string ⟨b.toArray⟩] := by
  obtain ⟨ys, n, _, hx, hl, hlen, hf⟩ := DataW.trod_struct he h
  match ys, hlen with
  | [y0, y1], _ =>
    simp only [Prod.mk.injEq, DataW.agg.injEq, List.map_cons, List.map_nil, List.cons.injEq, and_true] at hx
    have h0 : DataW.trod enc P w base sp held n f0.type ((xs.drop f0.offset).take (P.cellsOf f0.type)) = some y0 := by simpa using hf 0 f0 rfl
    have h1 : DataW.trod enc P w base sp held n f1.type ((xs.drop f1.offset).take (P.cellsOf f1.type)) = some y1 := by simpa using hf 1 f1 rfl
    rw [o0, c0] at h0; rw [o1, c1] at h1
    obtain ⟨s, k0, k1, _⟩ := DataW.trod_string t0 h0
    obtain ⟨s2, k2, k3, _⟩ := DataW.trod_string t1 h1
    have hl2 : xs.length = 2 := by rw [hl, hc]
    match xs, hl2 with
    | [x0, x1], _ =>
      simp at k0 k2
      subst k0 k2
      rw [k1, k3] at hx
      simp at hx
      obtain ⟨⟨ha, hb⟩, _⟩ := hx
      rw [ha, hb]
theorem kinds_cells {f0 f1 : Field} {cs : List Value} {p : List MemPlace} (ht : P.underlying t = some (.array 13 e)) (hct : P.cellsOf t = 26) (he : P.underlying e = some (.struct #[f0, f1])) (hc : P.cellsOf e = 2) (o0 : f0.offset = 0) (o1 : f1.offset = 1) (c0 : P.cellsOf f0.type = 1) (c1 : P.cellsOf f1.type = 1) (t0 : P.underlying f0.type = some .string) (t1 : P.underlying f1.type = some .string)
    (h : DataW.trod enc P w base sp held fuel t cs = some (.agg (kindsT.map fun x => .agg [.lit (.string x.1), .lit (.string x.2)]), p)) : ∀ (j : Nat) u, kindsV[j]? = some u → cs[j]? = some u := by
  obtain ⟨xs, m, _, hx, hl, hlen, hf⟩ := DataW.trod_array ht h
  have hx1 : xs.map (·.1) = kindsT.map fun x => .agg [.lit (.string x.1), .lit (.string x.2)] := by
    have := congrArg Prod.fst hx
    simpa using this.symm
  have hrow : ∀ i, i < 13 → (cs.drop (i * 2)).take 2 = [.string ⟨(kindA i).1.toArray⟩, .string ⟨(kindA i).2.toArray⟩] := fun i hi => by
    have h1 := hf i hi
    rw [hc] at h1
    have hi2 : i < xs.length := by omega
    rw [List.getElem?_eq_getElem hi2] at h1
    have h2 : (xs[i]).1 = .agg [.lit (.string (kindA i).1), .lit (.string (kindA i).2)] := by
      have h3 := congrArg (·[i]?) hx1
      simp only [List.getElem?_map, List.getElem?_eq_getElem hi2, List.getElem?_eq_getElem (show i < kindsT.length from hi), Option.map_some, Option.some.injEq] at h3
      rw [h3]
      have e9 : kindA i = kindsT[i]'(show i < kindsT.length from hi) := by unfold kindA; rw [List.getD_eq_getElem?_getD, List.getElem?_eq_getElem (show i < kindsT.length from hi)]; rfl
      rw [e9]
    refine row2_cells (p := (xs[i]).2) he hc o0 o1 c0 c1 t0 t1 (h1.trans ?_)
    rw [← h2]
  intro j u hu
  have hj : j < 26 := (List.getElem?_eq_some_iff.1 hu).1
  have hr := hrow (j / 2) (by omega)
  have hv := kind_at (i := j / 2) (by omega)
  have e1 : cs[j]? = ((cs.drop (j / 2 * 2)).take 2)[j % 2]? := by
    rw [List.getElem?_take_of_lt (by omega), List.getElem?_drop]
    congr 1; omega
  rw [e1, hr, ← hu]
  have h3 : j % 2 = 0 ∨ j % 2 = 1 := by omega
  rcases h3 with h3 | h3
  · rw [h3, show j = 2 * (j / 2) by omega, hv.1]; rw [show (2 * (j / 2)) / 2 = j / 2 by omega]; rfl
  · rw [h3, show j = 2 * (j / 2) + 1 by omega, hv.2]; rw [show (2 * (j / 2) + 1) / 2 = j / 2 by omega]; rfl
end
end Go.AL
