/- A part of the proof: laws of the logic and of the data, no program in sight.
Conditions: none beyond each theorem's own. -/
import Derived.Test.YtfmiciodcimkeaaGreatDoorL2
import Derived.Lib.Join
import Derived.Laws.MakeOwn
import Derived.Lib.Bytealg
import Derived.LaidMore
import Derived.Lib.LaidTab
set_option linter.unusedVariables false
set_option linter.unusedSimpArgs false
namespace Go.AL
open Go.RowKit Go.NumSpec
def erText (e : Er) : List UInt8 := Lib.join (erPath e) [46]
theorem join_two (a b : List UInt8) : Lib.join [a, b] [46] = a ++ [46] ++ b := by
  rw [Lib.join_cons]; simp [Lib.joinTail]
theorem join_more (a : List UInt8) {l : List (List UInt8)} (h : l ≠ []) : Lib.join (a :: l) [46] = a ++ [46] ++ Lib.join l [46] := by
  cases l with
  | nil => exact absurd rfl h
  | cons b l => rw [Lib.join_cons, Lib.join_cons]; simp [Lib.joinTail]
/-- An error with a code and a path. -/
def WellE (e : Er) : Prop := ∀ c ps, e = some (c, ps) → c ≠ 0 ∧ ps ≠ []
theorem well_none : WellE none := fun c ps h => by cases h
theorem well_some {c : Int} {ps : List (List UInt8)} (h : c ≠ 0) (h' : ps ≠ []) : WellE (some (c, ps)) := fun d qs e => by cases e; exact ⟨h, h'⟩
theorem well_new {c : Int} {ps : List (List UInt8)} (h' : ps ≠ []) : WellE (erNew c ps) := by
  unfold erNew; split
  · exact well_none
  · rename_i h; exact well_some h h'
theorem well_in {e : Er} (h : WellE e) (p : List UInt8) : WellE (erIn e p) := by
  cases e with
  | none => exact well_none
  | some x => obtain ⟨c, ps⟩ := x; exact well_some (h c ps rfl).1 (by simp)
theorem well_first : ∀ {es : List Er}, (∀ e ∈ es, WellE e) → WellE (firstE es)
  | [], _ => well_none
  | none :: es, h => well_first (es := es) fun e he => h e (List.mem_cons_of_mem _ he)
  | some x :: es, h => h (some x) List.mem_cons_self
theorem well_each {n : Nat} {f : Nat → Er} (h : ∀ i, i < n → WellE (f i)) : WellE (eachE n f) := well_first fun e he => by
  obtain ⟨i, hi, rfl⟩ := List.mem_map.1 he
  exact h i (List.mem_range.1 hi)
theorem well_within (name : List UInt8) (n lo hi : Int) : WellE (withinE name n lo hi) := by
  unfold withinE; split
  · exact well_some (by decide) (by simp)
  · exact well_none
theorem well_atMost (name : List UInt8) (n lo hi : Int) : WellE (atMostE name n lo hi) := by
  unfold atMostE; split
  · exact well_some (by decide) (by simp)
  · exact well_none
theorem well_most (name : List UInt8) (n lo : Int) : WellE (mostE name n lo) := by
  unfold mostE; split
  · exact well_none
  · exact well_within _ _ _ _
theorem well_key (l : List Lab) (i : Nat) : WellE (keyE l i) := by
  unfold keyE; split
  · exact well_some (by decide) (by simp)
  · exact well_new (by simp)
theorem well_label (name : List UInt8) (l : List Lab) (i : Nat) : WellE (labelE name l i) := well_in (well_first (by
  intro e he; simp only [List.mem_cons, List.not_mem_nil, or_false] at he
  rcases he with rfl | rfl
  · exact well_key _ _
  · exact well_new (by simp))) _
theorem well_labels (name : List UInt8) (l : List Lab) : WellE (labelsE name l) := by
  cases ha : atMostE name (l.length : Int) 0 4 with
  | some x => rw [labelsE_bad (by rw [ha]; simp)]; exact well_atMost _ _ _ _
  | none => rw [labelsE_good ha]; exact well_each fun i _ => well_label _ _ _
theorem well_name (ns : List (List UInt8)) (s : List UInt8) : WellE (nameE ns s) := by
  unfold nameE; split
  · exact well_some (by decide) (by simp)
  · exact well_new (by simp)
theorem well_req (r : Tri) : WellE (reqE r) := well_in (well_first (by
  intro e he; simp only [List.mem_cons, List.not_mem_nil, or_false] at he
  rcases he with rfl | rfl | rfl <;> exact well_within _ _ _ _)) _
theorem well_lim (l r : Tri) : WellE (limE l r) := well_in (well_first (by
  intro e he; simp only [List.mem_cons, List.not_mem_nil, or_false] at he
  rcases he with rfl | rfl | rfl <;> exact well_most _ _ _)) _
theorem well_probe (p : Int × Int) (every : Int) : WellE (probeE p every) := well_in (well_first (by
  intro e he; simp only [List.mem_cons, List.not_mem_nil, or_false] at he
  rcases he with rfl | rfl <;> exact well_within _ _ _ _)) _
theorem well_portAt (ps l : List Int) (i : Nat) : WellE (portAt ps l i) := by
  unfold portAt; split
  · exact well_some (by decide) (by simp)
  · exact well_within _ _ _ _
theorem well_port (ps l : List Int) (n : Int) : WellE (portE ps l n) := by
  cases ha : atMostE portsN (l.length : Int) 0 n with
  | some x => rw [portE_bad (by rw [ha]; simp)]; exact well_atMost _ _ _ _
  | none => rw [portE_good ha]; exact well_each fun i _ => well_portAt _ _ _
theorem well_ctr (ns : List (List UInt8)) (ps : List Int) (c : Ctr) (a b : Int) : WellE (ctrE ns ps c a b) := well_first (by
  intro e he; simp only [List.mem_cons, List.not_mem_nil, or_false] at he
  rcases he with rfl | rfl | rfl | rfl | rfl | rfl
  · exact well_name _ _
  · exact well_new (by simp)
  · exact well_req _
  · exact well_lim _ _
  · exact well_port _ _ _
  · exact well_probe _ _)
theorem well_ctrs (name : List UInt8) (ns : List (List UInt8)) (ps : List Int) (l : List Ctr) (a b : Int) : WellE (ctrsE name ns ps l a b) := well_each fun i hi => by
  rw [ctrAt_at hi]; exact well_in (well_ctr _ _ _ _ _) _
theorem well_check (s : Spc) : WellE (checkE s) := by
  unfold checkE
  split
  · rename_i x h; rw [← h]
    refine well_first fun e he => ?_
    simp only [List.mem_cons, List.not_mem_nil, or_false] at he
    rcases he with rfl | rfl | rfl
    · exact well_new (by simp)
    · exact well_labels _ _
    · exact well_atMost _ _ _ _
  · split
    · rename_i x h; rw [← h]
      refine well_first fun e he => ?_
      simp only [List.mem_cons, List.not_mem_nil, or_false] at he
      rcases he with rfl | rfl
      · exact well_ctrs _ _ _ _ _ _
      · exact well_atMost _ _ _ _
    · refine well_first fun e he => ?_
      simp only [List.mem_cons, List.not_mem_nil, or_false] at he
      rcases he with rfl | rfl | rfl | rfl
      · exact well_ctrs _ _ _ _ _ _
      · exact well_within _ _ _ _
      · exact well_within _ _ _ _
      · exact well_within _ _ _ _
theorem WellE.code {e : Er} (h : WellE e) : erCode e = 0 ↔ e = none := by
  cases e with
  | none => simp [erCode]
  | some x => obtain ⟨c, ps⟩ := x; simp [erCode, (h c ps rfl).1]
theorem WellE.isNone {e : Er} (h : WellE e) : e.isNone = decide (erCode e = 0) := by
  cases e with
  | none => simp [erCode]
  | some x => obtain ⟨c, ps⟩ := x; simp [erCode, (h c ps rfl).1]
theorem WellE.text_in {e : Er} (h : WellE e) (p : List UInt8) (hn : e ≠ none) : erText (erIn e p) = p ++ [46] ++ erText e := by
  cases e with
  | none => exact absurd rfl hn
  | some x => obtain ⟨c, ps⟩ := x; exact join_more p (h c ps rfl).2
/-! numbers -/
def badN (n lo : Int) (free : Bool) : Bool := (!free || !decide (n = 0)) && (decide (n < lo) || decide (1099511627776 < n))
def numsI (n lo : Tri) (free : Bool) : Int := if badN n.1 lo.1 free = true then 0 else if badN n.2.1 lo.2.1 free = true then 1 else if badN n.2.2 lo.2.2 free = true then 2 else -1
abbrev numN : List (List UInt8) := [[99, 112, 117], [109, 101, 109], [112, 105, 100, 115]]
theorem numsI_range (n lo : Tri) (free : Bool) : -1 ≤ numsI n lo free ∧ numsI n lo free < 3 := by
  unfold numsI
  cases badN n.1 lo.1 free <;> cases badN n.2.1 lo.2.1 free <;> cases badN n.2.2 lo.2.2 free <;> decide
theorem nums_at {n lo : Tri} {free : Bool} {k : Nat} (h : k < 3) (hb : badN (at3 n k) (at3 lo k) free = true) (hn : ∀ j, j < k → badN (at3 n j) (at3 lo j) free = false) : numsI n lo free = (k : Int) := by
  unfold numsI
  match k, h with
  | 0, _ => rw [show badN n.1 lo.1 free = true from hb]; rfl
  | 1, _ => rw [show badN n.1 lo.1 free = false from hn 0 (by decide), show badN n.2.1 lo.2.1 free = true from hb]; rfl
  | 2, _ => rw [show badN n.1 lo.1 free = false from hn 0 (by decide), show badN n.2.1 lo.2.1 free = false from hn 1 (by decide), show badN n.2.2 lo.2.2 free = true from hb]; rfl
theorem nums_none {n lo : Tri} {free : Bool} (hn : ∀ j, j < 3 → badN (at3 n j) (at3 lo j) free = false) : numsI n lo free = -1 := by
  unfold numsI
  rw [show badN n.1 lo.1 free = false from hn 0 (by decide), show badN n.2.1 lo.2.1 free = false from hn 1 (by decide), show badN n.2.2 lo.2.2 free = false from hn 2 (by decide)]; rfl
theorem within_bad (name : List UInt8) (n lo : Int) : withinE name n lo 1099511627776 = if badN n lo false = true then some (1, [name]) else none := by
  unfold withinE badN
  by_cases h : n < lo ∨ 1099511627776 < n
  · rw [if_pos h, if_pos (by simpa using h)]
  · rw [if_neg h, if_neg (by simpa using h)]
theorem most_bad (name : List UInt8) (n lo : Int) : mostE name n lo = if badN n lo true = true then some (1, [name]) else none := by
  unfold mostE
  by_cases h0 : n = 0
  · rw [if_pos h0, if_neg (by simp [badN, h0])]
  · rw [if_neg h0, within_bad]
    simp [badN, h0]
theorem first3 (a b c : Bool) (p : List UInt8) : erIn (firstE [if a = true then some (1, [[99, 112, 117]]) else none, if b = true then some (1, [[109, 101, 109]]) else none, if c = true then some (1, [[112, 105, 100, 115]]) else none]) p =
    if a = true then some (1, [p, [99, 112, 117]]) else if b = true then some (1, [p, [109, 101, 109]]) else if c = true then some (1, [p, [112, 105, 100, 115]]) else none := by
  cases a <;> cases b <;> cases c <;> rfl
theorem req_nums (r : Tri) : reqE r = if 0 ≤ numsI r (0, 0, 0) false then some (1, [[114, 101, 113], numN.getD (numsI r (0, 0, 0) false).toNat []]) else none := by
  unfold reqE
  rw [within_bad, within_bad, within_bad, first3]
  unfold numsI
  cases badN r.1 (0, 0, 0).1 false <;> cases badN r.2.1 (0, 0, 0).2.1 false <;> cases badN r.2.2 (0, 0, 0).2.2 false <;> rfl
theorem lim_nums (l r : Tri) : limE l r = if 0 ≤ numsI l r true then some (1, [[108, 105, 109], numN.getD (numsI l r true).toNat []]) else none := by
  unfold limE
  rw [most_bad, most_bad, most_bad, first3]
  unfold numsI
  cases badN l.1 r.1 true <;> cases badN l.2.1 r.2.1 true <;> cases badN l.2.2 r.2.2 true <;> rfl

/-! one container -/
section
variable {ns : List (List UInt8)} {ps : List Int} {c : Ctr} {a b : Int} {x : Int × List (List UInt8)}
abbrev imgE (c : Ctr) : Er := erNew (saysV (tparts c.image).2.2 33) [[105, 109, 97, 103, 101]]
theorem one_1 (h : nameE ns c.name = some x) : ctrE ns ps c a b = some x := by unfold ctrE; rw [h]; rfl
theorem one_2 (h1 : nameE ns c.name = none) (h : imgE c = some x) : ctrE ns ps c a b = some x := by unfold ctrE; rw [h1]; show firstE [imgE c, _, _, _, _] = _; rw [h]; rfl
theorem one_3 (h1 : nameE ns c.name = none) (h2 : imgE c = none) (h : reqE c.req = some x) : ctrE ns ps c a b = some x := by unfold ctrE; rw [h1]; show firstE [imgE c, _, _, _, _] = _; rw [h2, h]; rfl
theorem one_4 (h1 : nameE ns c.name = none) (h2 : imgE c = none) (h3 : reqE c.req = none) (h : limE c.lim c.req = some x) : ctrE ns ps c a b = some x := by unfold ctrE; rw [h1]; show firstE [imgE c, _, _, _, _] = _; rw [h2, h3, h]; rfl
theorem one_5 (h1 : nameE ns c.name = none) (h2 : imgE c = none) (h3 : reqE c.req = none) (h4 : limE c.lim c.req = none) (h : portE ps c.ports a = some x) : ctrE ns ps c a b = some x := by unfold ctrE; rw [h1]; show firstE [imgE c, _, _, _, _] = _; rw [h2, h3, h4, h]; rfl
theorem one_6 (h1 : nameE ns c.name = none) (h2 : imgE c = none) (h3 : reqE c.req = none) (h4 : limE c.lim c.req = none) (h5 : portE ps c.ports a = none) : ctrE ns ps c a b = probeE c.probe b := by unfold ctrE; rw [h1]; show firstE [imgE c, _, _, _, _] = _; rw [h2, h3, h4, h5]; show firstE [probeE c.probe b] = _; cases probeE c.probe b <;> rfl
theorem nameE_bad (h : nameV c.name = false) : nameE ns c.name = some (30, [nameN]) := by
  unfold nameE; rw [if_neg (by rw [h]; simp [saysV, erNew]), h]; rfl
theorem nameE_there (h : nameV c.name = true) (h' : c.name ∈ ns) : nameE ns c.name = some (7, [nameN]) := by
  unfold nameE; rw [if_pos ⟨by rw [h]; rfl, h'⟩]
theorem nameE_ok (h : nameV c.name = true) (h' : c.name ∉ ns) : nameE ns c.name = none := nameE_in (by rw [h]; rfl) h'
theorem probe_every {p : Int × Int} {every : Int} (h : p.1 < 0 ∨ every < p.1) : probeE p every = some (1, [[112, 114, 111, 98, 101], [101, 118, 101, 114, 121]]) := by
  unfold probeE; rw [show withinE [101, 118, 101, 114, 121] p.1 0 every = some (1, [[101, 118, 101, 114, 121]]) by unfold withinE; rw [if_pos h]]; rfl
theorem probe_rest {p : Int × Int} {every : Int} (h : ¬ (p.1 < 0 ∨ every < p.1)) : probeE p every = if (p.1 = 0 ∧ p.2 ≠ 0) ∨ (p.1 ≠ 0 ∧ (p.2 < 1 ∨ 10 < p.2)) then some (1, [[112, 114, 111, 98, 101], [102, 97, 105, 108, 115]]) else none := by
  unfold probeE; rw [show withinE [101, 118, 101, 114, 121] p.1 0 every = none by unfold withinE; rw [if_neg h]]
  by_cases h0 : p.1 = 0
  · simp only [h0, if_true]
    by_cases h2 : p.2 = 0
    · rw [h2, if_neg (by simp)]; rfl
    · rw [if_pos (.inl ⟨trivial, h2⟩), show withinE [102, 97, 105, 108, 115] p.2 0 0 = some (1, [[102, 97, 105, 108, 115]]) by unfold withinE; rw [if_pos (by omega)]]; rfl
  · simp only [h0, if_false]
    by_cases h2 : p.2 < 1 ∨ 10 < p.2
    · rw [if_pos (.inr ⟨h0, h2⟩), show withinE [102, 97, 105, 108, 115] p.2 1 10 = some (1, [[102, 97, 105, 108, 115]]) by unfold withinE; rw [if_pos h2]]; rfl
    · rw [if_neg (fun hh => hh.elim (fun k => k.1.elim) fun k => h2 k.2), show withinE [102, 97, 105, 108, 115] p.2 1 10 = none by unfold withinE; rw [if_neg h2]]; rfl
end
/-- A code and a path, as values. -/
abbrev cpAV (e : Er) : AV := .tup [.int .i64 (erCode e), .S (erText e)]
theorem cp_some {e : Er} {c : Int} {ps : List (List UInt8)} {t : List UInt8} (h : e = some (c, ps)) (ht : t = Lib.join ps [46]) : AV.tup [.int .i64 c, .S t] = cpAV e := by subst h; subst ht; rfl
theorem cp_none {e : Er} (h : e = none) : AV.tup [.int .i64 0, .S []] = cpAV e := by subst h; rfl
end Go.AL

namespace Go.AL
open Go.RowKit Go.NumSpec
theorem atT_len {name : List UInt8} (h : name.length ≤ 1000000) {i : Int} (hi : fits i) : (atT name i).length ≤ 1000100 := by
  have := textL_len hi
  unfold atT
  simp only [List.length_append, List.length_cons, List.length_nil]
  omega
theorem u8_lt (a b : UInt8) : a < b ↔ a.toNat < b.toNat := UInt8.lt_iff_toNat_lt
theorem bytesLess_ge : ∀ {a b : List UInt8}, Op.bytesLess b a = false → Op.bytesLess a b = true ∨ a = b
  | [], [], _ => .inr rfl
  | [], _ :: _, _ => .inl rfl
  | _ :: _, [], h => by cases h
  | x :: a, y :: b, h => by
    unfold Op.bytesLess at h ⊢
    simp only [Bool.or_eq_false_iff, decide_eq_false_iff_not, Bool.and_eq_false_iff, beq_eq_false_iff_ne, ne_eq] at h
    simp only [Bool.or_eq_true, decide_eq_true_eq, Bool.and_eq_true, beq_iff_eq, List.cons.injEq]
    obtain ⟨h1, h2⟩ := h
    rw [u8_lt] at h1
    by_cases hxy : x = y
    · subst hxy
      rcases h2 with h2 | h2
      · exact absurd rfl h2
      · rcases bytesLess_ge h2 with k | k
        · exact .inl (.inr ⟨rfl, k⟩)
        · exact .inr ⟨rfl, k⟩
    · have : x.toNat ≠ y.toNat := fun e => hxy (UInt8.toNat_inj.1 e)
      exact .inl (.inl (by rw [u8_lt]; omega))
theorem bytesLess_lt : ∀ {a b : List UInt8}, Op.bytesLess b a = true → Op.bytesLess a b = false ∧ a ≠ b
  | [], b, h => by cases b <;> simp [Op.bytesLess] at h
  | _ :: _, [], _ => ⟨rfl, by simp⟩
  | x :: a, y :: b, h => by
    unfold Op.bytesLess at h ⊢
    simp only [Bool.or_eq_true, decide_eq_true_eq, Bool.and_eq_true, beq_iff_eq] at h
    simp only [Bool.or_eq_false_iff, decide_eq_false_iff_not, Bool.and_eq_false_iff, beq_eq_false_iff_ne, ne_eq, List.cons.injEq, not_and]
    rcases h with h | ⟨h1, h2⟩
    · rw [u8_lt] at h
      refine ⟨⟨by rw [u8_lt]; omega, .inl fun e => by subst e; omega⟩, fun e => by subst e; omega⟩
    · subst h1
      obtain ⟨k1, k2⟩ := bytesLess_lt h2
      exact ⟨⟨by rw [u8_lt]; omega, .inr k1⟩, fun _ => k2⟩
section
variable {P : Program} {N : Nat} {env : Env} {st : St} {o : Oper}
theorem S_geS {t t2 : TypeId} {x y : Operand} {l m : List UInt8} (ho : o.op = .binOp .geq t x y t2) (hx : AEv env x (.S l)) (hy : AEv env y (.S m)) : PStep P N o env st (.bool (!Op.bytesLess l m)) :=
  S_bin ho hx hy rfl fun w => by simp only [binOp, Op.stringOp, toList_S]; rfl
end
section
variable {l : List Lab} {i : Nat} {name : List UInt8}
theorem getD_lab (h : i < l.length) : l.getD i ([], []) = l[i] := by rw [List.getD_eq_getElem?_getD, List.getElem?_eq_getElem h]; rfl
theorem label_ok (h : i < l.length) (h1 : namesR 2 (l[i]'h).1 = true) (h2 : ∀ h : 0 < i, Op.bytesLess (l[i - 1]'(by omega)).1 (l[i]'(by omega)).1 = true) (h3 : valV (l[i]'h).2 = true) : labelE name l i = none := by
  have hk : keyE l i = none := by
    unfold keyE
    rw [getD_lab h, if_neg]
    · rw [h1]; rfl
    · rintro ⟨_, k1, k2⟩
      rw [getD_lab (show i - 1 < l.length by omega)] at k2
      obtain ⟨q1, q2⟩ := bytesLess_lt (h2 k1)
      rw [q1] at k2
      simp at k2
      exact q2 k2
  unfold labelE
  rw [hk, getD_lab h, h3]; rfl
theorem label_key (h : i < l.length) (h1 : namesR 2 (l[i]'h).1 = false) : labelE name l i = some (31, [atT name (i : Int), [107, 101, 121]]) := by
  have hk : keyE l i = some (31, [[107, 101, 121]]) := by
    unfold keyE
    rw [getD_lab h, if_neg (by rw [h1]; rintro ⟨k, _⟩; cases k), h1]; rfl
  unfold labelE
  rw [hk]; rfl
theorem label_order (h : i < l.length) (h1 : namesR 2 (l[i]'h).1 = true) (h0 : 0 < i) (h2 : Op.bytesLess (l[i - 1]'(by omega)).1 (l[i]'h).1 = false) : labelE name l i = some (4, [atT name (i : Int), [107, 101, 121]]) := by
  have hk : keyE l i = some (4, [[107, 101, 121]]) := by
    unfold keyE
    rw [getD_lab h, getD_lab (show i - 1 < l.length by omega), if_pos]
    refine ⟨by rw [h1]; rfl, h0, ?_⟩
    rcases bytesLess_ge h2 with k | k
    · rw [k]; rfl
    · rw [k]; simp
  unfold labelE
  rw [hk]; rfl
theorem label_val (h : i < l.length) (h1 : namesR 2 (l[i]'h).1 = true) (h2 : ∀ h : 0 < i, Op.bytesLess (l[i - 1]'(by omega)).1 (l[i]'(by omega)).1 = true) (h3 : valV (l[i]'h).2 = false) : labelE name l i = some (32, [atT name (i : Int), [118, 97, 108]]) := by
  have hk : keyE l i = none := by
    unfold keyE
    rw [getD_lab h, if_neg]
    · rw [h1]; rfl
    · rintro ⟨_, k1, k2⟩
      rw [getD_lab (show i - 1 < l.length by omega)] at k2
      obtain ⟨q1, q2⟩ := bytesLess_lt (h2 k1)
      rw [q1] at k2
      simp at k2
      exact q2 k2
  unfold labelE
  rw [hk, getD_lab h, h3]; rfl
end
section
variable {ps l : List Int} {i : Nat} {n : Int}
theorem getD_port (h : i < l.length) : l.getD i 0 = l[i] := by rw [List.getD_eq_getElem?_getD, List.getElem?_eq_getElem h]; rfl
theorem portAt_ok (h : i < l.length) (h1 : 1 ≤ l[i] ∧ l[i] ≤ 65535) (h2 : l[i] ∉ ps ++ l.take i) : portAt ps l i = none :=
  portAt_in (by unfold withinE; rw [getD_port h, if_neg (by omega)]) (by rw [getD_port h]; exact h2)
theorem portAt_range (h : i < l.length) (h1 : l[i] < 1 ∨ 65535 < l[i]) : portAt ps l i = some (1, [atT portsN (i : Int)]) := by
  unfold portAt
  rw [getD_port h, show withinE (atT portsN (i : Int)) l[i] 1 65535 = some (1, [atT portsN (i : Int)]) by unfold withinE; rw [if_pos h1], if_neg (by rintro ⟨k, _⟩; cases k)]
theorem portAt_there (h : i < l.length) (h1 : 1 ≤ l[i] ∧ l[i] ≤ 65535) (h2 : l[i] ∈ ps ++ l.take i) : portAt ps l i = some (150, [atT portsN (i : Int)]) := by
  unfold portAt
  rw [getD_port h, show withinE (atT portsN (i : Int)) l[i] 1 65535 = none by unfold withinE; rw [if_neg (by omega)], if_pos ⟨rfl, h2⟩]
theorem port_many (h : n < (l.length : Int)) : portE ps l n = some (2, [portsN]) := by
  rw [portE_bad (by unfold atMostE; rw [if_pos (.inr h)]; simp)]; unfold atMostE; rw [if_pos (.inr h)]
theorem port_at (hm : atMostE portsN (l.length : Int) 0 n = none) (h : i < l.length) {x : Int × List (List UInt8)} (hx : portAt ps l i = some x) (hn : ∀ j, j < i → portAt ps l j = none) : portE ps l n = some x := by rw [portE_good hm, eachE_at h hx hn]
end
theorem num_text (a : List UInt8) {k : Nat} (h : k < numN.length) : (a ++ [46]) ++ numN[k] = a ++ [46] ++ numN.getD k [] := by
  rw [List.getD_eq_getElem?_getD, List.getElem?_eq_getElem h]; rfl
theorem num_len {k : Nat} (h : k < numN.length) : (numN[k]'h).length ≤ 4 := by
  match k, h with
  | 0, _ => exact Nat.le_of_ble_eq_true rfl
  | 1, _ => exact Nat.le_of_ble_eq_true rfl
  | 2, _ => exact Nat.le_of_ble_eq_true rfl
end Go.AL
namespace Go.AL
open Go.RowKit Go.NumSpec
theorem seen_names (a b : List Ctr) (i : Nat) : namesTo (namesTo [] a a.length) b i = (a ++ b.take i).map Ctr.name := by
  unfold namesTo; rw [List.take_length, List.map_append]; rfl
theorem seen_ports (a b : List Ctr) (i : Nat) : portsTo (portsTo [] a a.length) b i = (a ++ b.take i).flatMap Ctr.ports := by
  unfold portsTo; rw [List.take_length, List.flatMap_append]; rfl
theorem firstE_hd {x : Int × List (List UInt8)} {es : List Er} {e : Er} (h : e = some x) : firstE (e :: es) = some x := by subst h; rfl
theorem firstE_tl {es : List Er} {e : Er} (h : e = none) : firstE (e :: es) = firstE es := by subst h; rfl
theorem cp_in {e f : Er} {p t : List UInt8} (hw : WellE f) (hn : f ≠ none) (h : e = erIn f p) (ht : t = p ++ [46] ++ erText f) : AV.tup [.int .i64 (erCode f), .S t] = cpAV e := by
  subst h
  rw [ht, ← hw.text_in p hn]
  cases f with
  | none => exact absurd rfl hn
  | some x => rfl
theorem erText_len {e : Er} {n : Nat} (h : ∀ c ps, e = some (c, ps) → (Lib.join ps [46]).length ≤ n) : (erText e).length ≤ n := by
  cases e with
  | none => simp [erText, erPath, Lib.join_nil]
  | some x => obtain ⟨c, ps⟩ := x; exact h c ps rfl
end Go.AL
namespace Go.AL
open Go.RowKit Go.NumSpec
/-- A path whose text has so many bytes at most. -/
def ShortE (n : Nat) (e : Er) : Prop := ∀ c ps, e = some (c, ps) → (Lib.join ps [46]).length ≤ n
theorem short_none (n : Nat) : ShortE n none := fun c ps h => by cases h
theorem short_one {n : Nat} {c : Int} {p : List UInt8} (h : p.length ≤ n) : ShortE n (some (c, [p])) := fun d qs e => by cases e; rw [Lib.join_one]; exact h
theorem short_new {n : Nat} {c : Int} {p : List UInt8} (h : p.length ≤ n) : ShortE n (erNew c [p]) := by
  unfold erNew; split
  · exact short_none n
  · exact short_one h
theorem ShortE.mono {n m : Nat} {e : Er} (h : ShortE n e) (k : n ≤ m) : ShortE m e := fun c ps he => Nat.le_trans (h c ps he) k
theorem short_in {n : Nat} {e : Er} (h : ShortE n e) (p : List UInt8) : ShortE (p.length + 1 + n) (erIn e p) := by
  cases e with
  | none => exact short_none _
  | some x =>
    obtain ⟨c, ps⟩ := x
    intro d qs he
    cases he
    by_cases hp : ps = []
    · subst hp; rw [Lib.join_one]; omega
    · rw [join_more p hp]
      have := h c ps rfl
      simp only [List.length_append, List.length_cons, List.length_nil]
      omega
theorem short_first {n : Nat} : ∀ {es : List Er}, (∀ e ∈ es, ShortE n e) → ShortE n (firstE es)
  | [], _ => short_none n
  | none :: es, h => short_first (es := es) fun e he => h e (List.mem_cons_of_mem _ he)
  | some x :: es, h => h (some x) List.mem_cons_self
theorem short_each {n k : Nat} {f : Nat → Er} (h : ∀ i, i < k → ShortE n (f i)) : ShortE n (eachE k f) := short_first fun e he => by
  obtain ⟨i, hi, rfl⟩ := List.mem_map.1 he
  exact h i (List.mem_range.1 hi)
theorem short_within {name : List UInt8} {n : Nat} (h : name.length ≤ n) (a lo hi : Int) : ShortE n (withinE name a lo hi) := by
  unfold withinE; split
  · exact short_one h
  · exact short_none _
theorem short_atMost {name : List UInt8} {n : Nat} (h : name.length ≤ n) (a lo hi : Int) : ShortE n (atMostE name a lo hi) := by
  unfold atMostE; split
  · exact short_one h
  · exact short_none _
theorem short_most {name : List UInt8} {n : Nat} (h : name.length ≤ n) (a lo : Int) : ShortE n (mostE name a lo) := by
  unfold mostE; split
  · exact short_none _
  · exact short_within h _ _ _
theorem short_name {n : Nat} (h : 4 ≤ n) (ns : List (List UInt8)) (s : List UInt8) : ShortE n (nameE ns s) := by
  unfold nameE; split
  · exact short_one h
  · exact short_new h
theorem short_req (r : Tri) : ShortE 8 (reqE r) := short_in (p := [114, 101, 113]) (short_first (n := 4) (by
  intro e he; simp only [List.mem_cons, List.not_mem_nil, or_false] at he
  rcases he with rfl | rfl | rfl <;> exact short_within (by decide) _ _ _))
theorem short_lim (l r : Tri) : ShortE 8 (limE l r) := short_in (p := [108, 105, 109]) (short_first (n := 4) (by
  intro e he; simp only [List.mem_cons, List.not_mem_nil, or_false] at he
  rcases he with rfl | rfl | rfl <;> exact short_most (by decide) _ _))
theorem short_probe (p : Int × Int) (every : Int) : ShortE 11 (probeE p every) := short_in (p := [112, 114, 111, 98, 101]) (short_first (n := 5) (by
  intro e he; simp only [List.mem_cons, List.not_mem_nil, or_false] at he
  rcases he with rfl | rfl <;> exact short_within (by decide) _ _ _))
theorem at_short {name : List UInt8} (h : name.length ≤ 100) {i n : Nat} (hi : i < n) (hn : n ≤ 1000000) : (atT name (i : Int)).length ≤ 200 := by
  have := textL_len (a := (i : Int)) (by unfold fits; omega)
  unfold atT
  simp only [List.length_append, List.length_cons, List.length_nil]
  omega
theorem short_port {ps l : List Int} {n : Int} (hl : l.length ≤ 1000000) : ShortE 200 (portE ps l n) := by
  cases ha : atMostE portsN (l.length : Int) 0 n with
  | some x => rw [portE_bad (by rw [ha]; simp)]; exact short_atMost (by decide) _ _ _
  | none =>
    rw [portE_good ha]
    refine short_each fun i hi => ?_
    have := at_short (name := portsN) (by decide) hi hl
    unfold portAt; split
    · exact short_one this
    · exact short_within this _ _ _
theorem short_ctr {ns : List (List UInt8)} {ps : List Int} {c : Ctr} {a b : Int} (hl : c.ports.length ≤ 1000000) : ShortE 200 (ctrE ns ps c a b) := short_first (by
  intro e he; simp only [List.mem_cons, List.not_mem_nil, or_false] at he
  rcases he with rfl | rfl | rfl | rfl | rfl | rfl
  · exact short_name (by decide) _ _
  · exact short_new (by decide)
  · exact (short_req _).mono (by decide)
  · exact (short_lim _ _).mono (by decide)
  · exact short_port hl
  · exact (short_probe _ _).mono (by decide))
theorem ShortE.text {n : Nat} {e : Er} (h : ShortE n e) : (erText e).length ≤ n := erText_len h
theorem join_count (l : List (List UInt8)) : l.length ≤ (Lib.join l [46]).length + 1 := by
  cases l with
  | nil => simp
  | cons x r => rw [Lib.join_length]; simp only [List.length_cons, List.length_nil]; omega
theorem ShortE.path {n : Nat} {e : Er} (h : ShortE n e) : (erPath e).length ≤ n + 1 := by
  cases e with
  | none => simp [erPath]
  | some x => obtain ⟨c, ps⟩ := x; have h1 := h c ps rfl; have h2 := join_count ps; show ps.length ≤ _; omega
end Go.AL
namespace Go.AL
open Go.RowKit Go.NumSpec
end Go.AL

namespace Go.AL
open Go.RowKit Go.NumSpec
section
variable {α : Type} {f : α → α → Bool}
theorem sameL_take_succ : ∀ {a b : List α} {i : Nat} (h : i < a.length) (h' : i < b.length), sameL f (a.take (i + 1)) (b.take (i + 1)) = (sameL f (a.take i) (b.take i) && f (a[i]'h) (b[i]'h'))
  | x :: a, y :: b, 0, _, _ => by simp [sameL]
  | x :: a, y :: b, i + 1, h, h' => by
    simp only [List.take_succ_cons, sameL, List.getElem_cons_succ]
    have := sameL_take_succ (a := a) (b := b) (i := i) (by simpa using h) (by simpa using h')
    rw [this, Bool.and_assoc]
theorem sameL_take : ∀ {a b : List α} {i : Nat}, sameL f a b = true → sameL f (a.take i) (b.take i) = true
  | [], [], i, _ => by simp [sameL]
  | x :: a, y :: b, 0, _ => rfl
  | x :: a, y :: b, i + 1, h => by
    simp only [sameL, Bool.and_eq_true] at h
    simp only [List.take_succ_cons, sameL, Bool.and_eq_true]
    exact ⟨h.1, sameL_take h.2⟩
  | [], y :: b, i, h => by cases h
  | x :: a, [], i, h => by cases h
/-- As far as one has looked. -/
def sameP (f : α → α → Bool) (a b : List α) (i : Nat) : Bool := decide (a.length = b.length) && sameL f (a.take i) (b.take i)
theorem sameP_zero (a b : List α) : sameP f a b 0 = decide (a.length = b.length) := by simp [sameP, sameL]
theorem sameP_next {a b : List α} {i : Nat} (h : sameP f a b i = true) (h1 : i < a.length) (h2 : i < b.length) : sameP f a b (i + 1) = f (a[i]'h1) (b[i]'h2) := by
  unfold sameP at h ⊢
  simp only [Bool.and_eq_true] at h
  rw [sameL_take_succ h1 h2, h.1, h.2, Bool.true_and, Bool.true_and]
theorem sameP_end {a b : List α} {i : Nat} (h : sameP f a b i = false ∨ a.length ≤ i ∨ b.length ≤ i) : sameP f a b i = sameL f a b := by
  by_cases hs : sameP f a b i = true
  · have hs' := hs
    unfold sameP at hs'
    simp only [Bool.and_eq_true, decide_eq_true_eq] at hs'
    rcases h with h | h
    · rw [hs] at h; cases h
    · rw [List.take_of_length_le (by omega), List.take_of_length_le (by omega)] at hs'
      rw [hs, hs'.2]
  · have hs : sameP f a b i = false := by simpa using hs
    rw [hs]
    unfold sameP at hs
    simp only [Bool.and_eq_false_iff, decide_eq_false_iff_not] at hs
    rcases hs with hs | hs
    · exact (sameL_len hs).symm
    · cases hx : sameL f a b with
      | false => rfl
      | true => rw [sameL_take hx] at hs; cases hs
end
def sameS (a b : Spc) : Bool := decide (a.name = b.name) && decide (a.labels = b.labels) && sameL exactC a.init b.init && sameL exactC a.main b.main && decide (a.restart = b.restart) && decide (a.grace = b.grace) && decide (a.prio = b.prio)
theorem sameS_iff {a b : Spc} : sameS a b = true ↔ a = b := by
  cases a; cases b
  simp only [sameS, Bool.and_eq_true, decide_eq_true_eq, Spc.mk.injEq, sameL_iff (fun a b => exactC_iff)]
  constructor
  · rintro ⟨⟨⟨⟨⟨⟨h1, h2⟩, h3⟩, h4⟩, h5⟩, h6⟩, h7⟩; exact ⟨h1, h2, h3, h4, h5, h6, h7⟩
  · rintro ⟨h1, h2, h3, h4, h5, h6, h7⟩; exact ⟨⟨⟨⟨⟨⟨h1, h2⟩, h3⟩, h4⟩, h5⟩, h6⟩, h7⟩
theorem sameS_refl (a : Spc) : sameS a a = true := sameS_iff.2 rfl
theorem exactC_order (a b : Ctr) : (decide (a.name = b.name) && (decide (a.image = b.image)) && decide (a.req = b.req) && decide (a.lim = b.lim) && decide (a.ports = b.ports) && decide (a.probe = b.probe)) = exactC a b := by
  rw [Bool.eq_iff_iff, exactC_iff]
  cases a; cases b
  simp only [Bool.and_eq_true, decide_eq_true_eq, Ctr.mk.injEq]
  constructor
  · rintro ⟨⟨⟨⟨⟨h1, h2⟩, h3⟩, h4⟩, h5⟩, h6⟩; exact ⟨h1, h2, h3, h4, h5, h6⟩
  · rintro ⟨h1, h2, h3, h4, h5, h6⟩; exact ⟨⟨⟨⟨⟨h1, h2⟩, h3⟩, h4⟩, h5⟩, h6⟩
end Go.AL
namespace Go.AL
open Go.RowKit Go.NumSpec
/-- No list of it is too long to be walked. -/
def shortS (s : Spc) : Prop := s.labels.length ≤ 1000000 ∧ s.init.length ≤ 1000000 ∧ s.main.length ≤ 1000000 ∧ (∀ c ∈ s.init, c.ports.length ≤ 1000000) ∧ ∀ c ∈ s.main, c.ports.length ≤ 1000000
theorem light_short {s : Spc} (h : lightS s = true) : shortS s := by
  obtain ⟨⟨h1, h2, h3, h4⟩, h5, h6, h7⟩ := light_out h
  exact ⟨by omega, by omega, by omega, fun c hc => by have := (of_decide_eq_true (h6 c hc)).2.2; omega, fun c hc => by have := (of_decide_eq_true (h7 c hc)).2.2; omega⟩
end Go.AL

namespace Go.AL
open Go.NumSpec

theorem Le_buf {q : Buf} {l : List UInt8} (h : q.ok l) : Le (bufAV q l) (.sl (bytesV l)) := by
  cases q with
  | nil => have : l = [] := h; subst this; exact Le.nils
  | «at» b cap => exact Le.row _ _ _ _
def failC (c d : Int) : Int := if c = 0 then d else c
def wput (c : Int) (l s : List UInt8) : List UInt8 := if c = 0 then l ++ s else l
theorem wput_err {c : Int} (h : c ≠ 0) (l s : List UInt8) : wput c l s = l := by rw [wput, if_neg h]
theorem wput_len (c : Int) (l s : List UInt8) : (wput c l s).length ≤ l.length + s.length := by unfold wput; split <;> simp
theorem wput_wput (c : Int) (l s t : List UInt8) : wput c (wput c l s) t = wput c l (s ++ t) := by unfold wput; split <;> simp
def lacksV (s : List UInt8) : Bool := (s.take 10).all (fun c => decide (128 ≤ c.toNat)) && decide (s.length < 10)
def bigR (s : List UInt8) (c : Int) : Nat × List UInt8 × Int := if c ≠ 0 then (0, s, c) else if lacksV s = true then (0, s, 40) else if (takeV s).2 = 0 then (0, s, 3) else ((takeV s).1, s.drop (takeV s).2, 0)
def numR (s : List UInt8) (c most : Int) : Int × List UInt8 × Int :=
  if (bigR s c).2.2 = 0 ∧ max most 0 < (bigR s c).1 then (0, s, 2) else if (bigR s c).2.2 ≠ 0 then (0, (bigR s c).2.1, (bigR s c).2.2) else ((bigR s c).1, (bigR s c).2.1, 0)
def wtextR (s : List UInt8) (c most : Int) : List UInt8 × List UInt8 × Int :=
  if (numR s c most).2.2 = 0 ∧ ((numR s c most).2.1.length : Int) < (numR s c most).1 then ([], (numR s c most).2.1, 40) else if (numR s c most).2.2 ≠ 0 then ([], (numR s c most).2.1, (numR s c most).2.2)
  else ((numR s c most).2.1.take (numR s c most).1.toNat, (numR s c most).2.1.drop (numR s c most).1.toNat, 0)
def endR (s : List UInt8) (c : Int) : Int := if s ≠ [] then failC c 3 else c
theorem bigR_lt (s : List UInt8) (c : Int) : (bigR s c).1 < 18446744073709551616 := by
  unfold bigR
  split
  · show 0 < _; omega
  · split
    · show 0 < _; omega
    · split
      · show 0 < _; omega
      · exact take_fits s
theorem bigR_len (s : List UInt8) (c : Int) : (bigR s c).2.1.length ≤ s.length := by
  unfold bigR
  split
  · exact Nat.le_refl _
  · split
    · exact Nat.le_refl _
    · split
      · exact Nat.le_refl _
      · simp
theorem numR_len (s : List UInt8) (c most : Int) : (numR s c most).2.1.length ≤ s.length := by
  have := bigR_len s c
  unfold numR
  split
  · exact Nat.le_refl _
  · split <;> exact this
theorem numR_nonneg (s : List UInt8) (c most : Int) : 0 ≤ (numR s c most).1 := by
  unfold numR
  split
  · show (0 : Int) ≤ 0; omega
  · split
    · show (0 : Int) ≤ 0; omega
    · exact Int.natCast_nonneg _
theorem numR_err {s : List UInt8} {c most : Int} (h : (numR s c most).2.2 ≠ 0) : (numR s c most).1 = 0 := by
  unfold numR at h ⊢
  split
  · rfl
  · rename_i h1
    rw [if_neg h1] at h
    split
    · rfl
    · rename_i h2
      rw [if_neg h2] at h
      exact absurd rfl h
theorem numR_le {s : List UInt8} {c most : Int} : (numR s c most).1 ≤ max most 0 := by
  unfold numR
  split
  · dsimp only; omega
  · rename_i h1
    split
    · dsimp only; omega
    · rename_i h2
      have : (bigR s c).2.2 = 0 := Decidable.of_not_not h2
      simp only [this, true_and] at h1
      dsimp only
      omega
theorem lacks_false {s : List UInt8} {k : Nat} (hk : k < s.length) (hk10 : k < 10) (h : (s.getD k 0).toNat < 128) : lacksV s = false := by
  unfold lacksV
  have hx : (s.take 10).all (fun c => decide (128 ≤ c.toNat)) = false := by
    rw [List.all_eq_false]
    refine ⟨s[k], ?_, ?_⟩
    · rw [List.mem_take_iff_getElem]
      exact ⟨k, by omega, rfl⟩
    · rw [List.getD_eq_getElem?_getD, List.getElem?_eq_getElem hk, Option.getD_some] at h
      simp; omega
  rw [hx]; rfl
theorem lacks_end {s : List UInt8} {k : Nat} (h : ∀ i : Nat, i < k → 128 ≤ (s.getD i 0).toNat) (hk : (k : Int) = min (s.length : Int) 10) : lacksV s = decide ((s.length : Int) < 10) := by
  unfold lacksV
  have hx : (s.take 10).all (fun c => decide (128 ≤ c.toNat)) = true := by
    rw [List.all_eq_true]
    intro x hx
    rw [List.mem_take_iff_getElem] at hx
    obtain ⟨i, hi, rfl⟩ := hx
    have := h i (by omega)
    rw [List.getD_eq_getElem?_getD, List.getElem?_eq_getElem (by omega), Option.getD_some] at this
    simp; omega
  rw [hx, Bool.true_and]
  exact decide_eq_decide.2 (by omega)
theorem bigR_err {s : List UInt8} {c : Int} (h : c ≠ 0) : bigR s c = (0, s, c) := by rw [bigR, if_pos h]
theorem bigR_lack {s : List UInt8} (h : lacksV s = true) : bigR s 0 = (0, s, 40) := by rw [bigR, if_neg (by simp), if_pos h]
theorem bigR_form {s : List UInt8} (h : lacksV s = false) (k : (takeV s).2 = 0) : bigR s 0 = (0, s, 3) := by rw [bigR, if_neg (by simp), if_neg (by simp [h]), if_pos k]
theorem bigR_ok {s : List UInt8} (h : lacksV s = false) (k : (takeV s).2 ≠ 0) : bigR s 0 = ((takeV s).1, s.drop (takeV s).2, 0) := by rw [bigR, if_neg (by simp), if_neg (by simp [h]), if_neg k]
/-! What was written is read again -/
theorem form_big {l : List UInt8} {c : UInt8} (h : NumSpec.Form l c) : c.toNat < 128 := h.last
theorem lacks_put (n : Nat) (t : List UInt8) (hn : n < 18446744073709551616) : lacksV (putL n ++ t) = false := by
  have hp := putL_few n hn
  obtain ⟨l, c, h1, h2, h3⟩ := putL_form n
  have hc := form_big h2
  rw [h1] at hp ⊢
  simp only [List.length_append, List.length_singleton] at hp
  refine lacks_false (k := l.length) (by simp) (by omega) ?_
  simp [List.getD_eq_getElem?_getD]
  exact hc
theorem bigR_put (n : Nat) (t : List UInt8) (hn : n < 18446744073709551616) : bigR (putL n ++ t) 0 = (n, t, 0) := by
  have h := take_put n t hn
  have hp := putL_pos n
  rw [bigR_ok (lacks_put n t hn) (by rw [h]; dsimp only; omega), h]
  simp
theorem numR_put (n : Nat) (t : List UInt8) (most : Int) (hn : (n : Int) ≤ max most 0) (h63 : n < 18446744073709551616) : numR (putL n ++ t) 0 most = ((n : Int), t, 0) := by
  unfold numR
  rw [bigR_put n t h63]
  dsimp only
  rw [if_neg (by omega), if_neg (by simp)]
theorem wtextR_put (s t : List UInt8) (most : Int) (hn : (s.length : Int) ≤ max most 0) (h63 : s.length < 18446744073709551616) : wtextR (putL s.length ++ (s ++ t)) 0 most = (s, t, 0) := by
  unfold wtextR
  rw [numR_put s.length (s ++ t) most hn h63]
  dsimp only
  rw [if_neg (by simp; omega), if_neg (by simp)]
  simp
/-! The chapter's example -/
/-! What is written -/
abbrev Act4 := Int × Int × Nat × List UInt8
structure WG where
  i : Nat
  u : Bool
  q : Buf
  lw : List UInt8
  c : Int
  want : List UInt8
def WG.ok (g : WG) : Prop := g.q.ok g.lw ∧ (g.c = 0 → g.lw = g.want) ∧ g.lw.length ≤ 310 * g.i ∧ g.want.length ≤ 310 * g.i ∧ g.i ≤ 60
/-! Written and read -/
def enc (a : Act4) : List UInt8 := if a.1 = 0 then putL (max a.2.1 0).toNat else if a.1 = 1 then putL a.2.2.1 else if a.1 = 2 then putL a.2.2.2.length ++ a.2.2.2 else [if decide (0 < a.2.1) then 1 else 0]
/-! Just the bytes -/
theorem canon_big {s : List UInt8} (h : (bigR s 0).2.2 = 0) : s = putL (bigR s 0).1 ++ (bigR s 0).2.1 := by
  cases hl : lacksV s with
  | true => rw [bigR_lack hl] at h; exact absurd h (by show ¬ (40 : Int) = 0; decide)
  | false =>
    by_cases hk : (takeV s).2 = 0
    · rw [bigR_form hl hk] at h; exact absurd h (by show ¬ (3 : Int) = 0; decide)
    · rw [bigR_ok hl hk]
      rcases put_take s with h1 | ⟨h1, h2, h3, h4⟩
      · rw [h1] at hk; exact absurd rfl hk
      · dsimp only
        rw [h3, List.take_append_drop]
theorem canon_num {s : List UInt8} {most : Int} (h : (numR s 0 most).2.2 = 0) : s = putL (numR s 0 most).1.toNat ++ (numR s 0 most).2.1 := by
  unfold numR at h ⊢
  split at h
  · exact absurd h (by show ¬ (2 : Int) = 0; decide)
  · rename_i h1
    rw [if_neg h1]
    split at h
    · rename_i h2; exact absurd h h2
    · rename_i h2
      rw [if_neg h2]
      have := canon_big (s := s) (Decidable.of_not_not h2)
      simpa using this
theorem wtextR_ok {s : List UInt8} {c most : Int} (h : (wtextR s c most).2.2 = 0) : (numR s c most).2.2 = 0 ∧ (numR s c most).1 ≤ ((numR s c most).2.1.length : Int) ∧ wtextR s c most = ((numR s c most).2.1.take (numR s c most).1.toNat, (numR s c most).2.1.drop (numR s c most).1.toNat, 0) := by
  unfold wtextR at h ⊢
  split at h
  · exact absurd h (by show ¬ (40 : Int) = 0; decide)
  · rename_i h1
    rw [if_neg h1]
    split at h
    · rename_i h2; exact absurd h h2
    · rename_i h2
      rw [if_neg h2]
      have h3 := Decidable.of_not_not h2
      exact ⟨h3, by simp only [h3, true_and] at h1; omega, rfl⟩
theorem canon_text {s : List UInt8} {most : Int} (h : (wtextR s 0 most).2.2 = 0) : s = putL (wtextR s 0 most).1.length ++ ((wtextR s 0 most).1 ++ (wtextR s 0 most).2.1) := by
  obtain ⟨h1, h2, h3⟩ := wtextR_ok h
  have h4 := canon_num (most := most) h1
  have h5 := numR_nonneg s 0 most
  rw [h3]
  dsimp only
  rw [List.take_append_drop, List.length_take, show min (numR s 0 most).1.toNat (numR s 0 most).2.1.length = (numR s 0 most).1.toNat by omega]
  exact h4
theorem numR_errR {s : List UInt8} {c : Int} (h : c ≠ 0) (most : Int) : numR s c most = (0, s, c) := by
  unfold numR
  rw [bigR_err h]
  dsimp only
  rw [if_neg (fun k => h k.1), if_pos h]
theorem wtextR_errR {s : List UInt8} {c : Int} (h : c ≠ 0) (most : Int) : wtextR s c most = ([], s, c) := by
  unfold wtextR
  rw [numR_errR h]
  dsimp only
  rw [if_neg (fun k => h k.1), if_pos h]
structure CG where
  i : Nat
  u : Bool
  q : Buf
  lw : List UInt8
  s : List UInt8
  c : Int
end Go.AL

namespace Go.AL
open Go.RowKit Go.NumSpec
abbrev Rd (α : Type) := List UInt8 → Int → α × List UInt8 × Int
structure Codec {α : Type} (f : Rd α) (e : α → List UInt8) (ok : α → Prop) : Prop where
  back : ∀ x t, ok x → f (e x ++ t) 0 = (x, t, 0)
  canon : ∀ s, (f s 0).2.2 = 0 → s = e (f s 0).1 ++ (f s 0).2.1 ∧ ok (f s 0).1
  err : ∀ s c, c ≠ 0 → (f s c).2.1 = s ∧ (f s c).2.2 = c
  cut : ∀ x p, ok x → p <+: e x → p.length < (e x).length → (f p 0).2.2 = 40
  len : ∀ s c, (f s c).2.1.length ≤ s.length
def numRd (most : Int) : Rd Int := fun s c => numR s c most
def textRd (most : Int) : Rd (List UInt8) := fun s c => wtextR s c most
def numB (n : Int) : List UInt8 := putL n.toNat
def textB (s : List UInt8) : List UInt8 := putL s.length ++ s
theorem lacks_cut {n : Nat} (hn : n < 18446744073709551616) {p : List UInt8} (hp : p <+: putL n) (hl : p.length < (putL n).length) : lacksV p = true := by
  obtain ⟨l, c, h1, h2, h3⟩ := putL_form n
  have hf := putL_few n hn
  have hm : ∀ x ∈ p, 128 ≤ x.toNat := by
    rw [h1] at hp hl hf
    simp only [List.length_append, List.length_singleton] at hl hf
    have hpl : p <+: l := by
      obtain ⟨t, ht⟩ := hp
      have := List.append_inj (s₁ := l.take p.length) (t₁ := l.drop p.length ++ [c]) (s₂ := p) (t₂ := t) (by rw [← List.append_assoc, List.take_append_drop]; exact ht.symm) (by rw [List.length_take]; omega)
      exact ⟨l.drop p.length, by rw [← this.1, List.length_take, show min p.length l.length = p.length by omega, List.take_append_drop]⟩
    exact fun x hx => h2.more x (hpl.subset hx)
  unfold lacksV
  rw [Bool.and_eq_true]
  refine ⟨List.all_eq_true.2 fun x hx => decide_eq_true (hm x (List.mem_of_mem_take hx)), decide_eq_true (by omega)⟩
theorem num_cut {n : Nat} (hn : n < 18446744073709551616) {p : List UInt8} {most : Int} (hp : p <+: putL n) (hl : p.length < (putL n).length) : numR p 0 most = (0, p, 40) := by
  unfold numR
  rw [bigR_lack (lacks_cut hn hp hl)]
  dsimp only
  rw [if_neg (by simp), if_pos (by decide)]
theorem numC {most : Int} (h0 : 0 ≤ most) (h63 : most ≤ 9223372036854775807) : Codec (numRd most) numB (fun n => 0 ≤ n ∧ n ≤ most) where
  back x t hx := by
    have := numR_put x.toNat t most (by omega) (by omega)
    unfold numRd numB; rw [this, Int.toNat_of_nonneg hx.1]
  canon s hs := ⟨canon_num (most := most) hs, numR_nonneg s 0 most, by have := numR_le (s := s) (c := 0) (most := most); unfold numRd; omega⟩
  err s c hc := by unfold numRd; rw [numR_errR hc]; exact ⟨rfl, rfl⟩
  cut x p hx hp hl := by unfold numRd; rw [num_cut (n := x.toNat) (by omega) hp hl]
  len s c := numR_len s c most
theorem wtextR_rest (s : List UInt8) (c most : Int) : (wtextR s c most).2.1.length ≤ s.length := by
  have := numR_len s c most
  unfold wtextR
  split
  · exact this
  · split
    · exact this
    · simp; omega
theorem textC {most : Int} (h0 : 0 ≤ most) (h63 : most ≤ 9223372036854775807) : Codec (textRd most) textB (fun s => (s.length : Int) ≤ most) where
  back x t hx := by
    unfold textRd textB; rw [List.append_assoc]
    exact wtextR_put x t most (by omega) (by omega)
  canon s hs := by
    have h1 := canon_text (most := most) hs
    obtain ⟨h2, h3, h4⟩ := wtextR_ok (s := s) (c := 0) (most := most) hs
    refine ⟨?_, ?_⟩
    · unfold textRd textB; rw [List.append_assoc]; exact h1
    · have h5 := numR_le (s := s) (c := 0) (most := most)
      have h6 := numR_nonneg s 0 most
      unfold textRd; rw [h4]; dsimp only; rw [List.length_take]; omega
  err s c hc := by unfold textRd; rw [wtextR_errR hc]; exact ⟨rfl, rfl⟩
  cut x p hx hp hl := by
    unfold textRd
    unfold textB at hp hl
    rw [List.length_append] at hl
    rcases Nat.lt_or_ge p.length (putL x.length).length with h | h
    · have hpp : p <+: putL x.length := List.prefix_of_prefix_length_le hp (List.prefix_append _ _) (by omega)
      unfold wtextR
      rw [num_cut (n := x.length) (by omega) hpp h]
      dsimp only
      rw [if_neg (by simp), if_pos (by decide)]
    · obtain ⟨q, hq⟩ := List.prefix_of_prefix_length_le (List.prefix_append (putL x.length) x) hp h
      have hql : q.length < x.length := by have := congrArg List.length hq; rw [List.length_append] at this; omega
      rw [← hq]
      unfold wtextR
      rw [numR_put x.length q most (by omega) (by omega)]
      dsimp only
      rw [if_pos ⟨rfl, by omega⟩]
  len s c := wtextR_rest s c most
def seqR {α β : Type} (f : Rd α) (g : Rd β) : Rd (α × β) := fun s c => (((f s c).1, (g (f s c).2.1 (f s c).2.2).1), (g (f s c).2.1 (f s c).2.2).2.1, (g (f s c).2.1 (f s c).2.2).2.2)
theorem seqC {α β : Type} {f : Rd α} {g : Rd β} {e : α → List UInt8} {d : β → List UInt8} {ok : α → Prop} {ok' : β → Prop} (hf : Codec f e ok) (hg : Codec g d ok') : Codec (seqR f g) (fun x => e x.1 ++ d x.2) (fun x => ok x.1 ∧ ok' x.2) where
  back x t hx := by
    unfold seqR
    rw [List.append_assoc, hf.back x.1 _ hx.1]
    dsimp only
    rw [hg.back x.2 t hx.2]
  canon s hs := by
    unfold seqR at hs ⊢
    dsimp only at hs ⊢
    by_cases hc : (f s 0).2.2 = 0
    · rw [hc] at hs ⊢
      obtain ⟨h1, h2⟩ := hf.canon s hc
      obtain ⟨h3, h4⟩ := hg.canon _ hs
      exact ⟨by conv => lhs; rw [h1, h3]
                simp, h2, h4⟩
    · have := (hg.err (f s 0).2.1 _ hc).2
      rw [this] at hs; exact absurd hs hc
  err s c hc := by
    unfold seqR
    dsimp only
    obtain ⟨h1, h2⟩ := hf.err s c hc
    rw [h1, h2]
    exact hg.err s c hc
  cut x p hx hp hl := by
    unfold seqR
    dsimp only
    rw [List.length_append] at hl
    rcases Nat.lt_or_ge p.length (e x.1).length with h | h
    · have hpp : p <+: e x.1 := List.prefix_of_prefix_length_le hp (List.prefix_append _ _) (by omega)
      have h1 := hf.cut x.1 p hx.1 hpp h
      rw [h1]
      exact (hg.err _ 40 (by decide)).2
    · obtain ⟨q, hq⟩ := List.prefix_of_prefix_length_le (List.prefix_append (e x.1) (d x.2)) hp h
      have hql : q.length < (d x.2).length := by have := congrArg List.length hq; rw [List.length_append] at this; omega
      rw [← hq] at hp ⊢
      rw [hf.back x.1 q hx.1]
      dsimp only
      exact hg.cut x.2 q hx.2 ((List.prefix_append_right_inj _).1 hp) hql
  len s c := Nat.le_trans (hg.len _ _) (hf.len _ _)
def mapR {α β : Type} (h : α → β) (f : Rd α) : Rd β := fun s c => (h (f s c).1, (f s c).2.1, (f s c).2.2)
theorem mapC {α β : Type} {h : α → β} {k : β → α} {f : Rd α} {e : α → List UInt8} {ok : α → Prop} (hkh : ∀ x, k (h x) = x) (hhk : ∀ y, h (k y) = y) (hf : Codec f e ok) : Codec (mapR h f) (fun y => e (k y)) (fun y => ok (k y)) where
  back x t hx := by unfold mapR; rw [hf.back (k x) t hx]; dsimp only; rw [hhk]
  canon s hs := by
    unfold mapR; dsimp only; rw [hkh]
    exact hf.canon s hs
  err s c hc := hf.err s c hc
  cut x p hx hp hl := hf.cut (k x) p hx hp hl
  len s c := hf.len s c
def takeN {α : Type} (f : Rd α) : Nat → Rd (List α)
  | 0, s, c => ([], s, c)
  | k + 1, s, c => if (f s c).2.2 ≠ 0 then ([], (f s c).2.1, (f s c).2.2) else (if (takeN f k (f s c).2.1 (f s c).2.2).2.2 ≠ 0 then [] else (f s c).1 :: (takeN f k (f s c).2.1 (f s c).2.2).1, (takeN f k (f s c).2.1 (f s c).2.2).2.1, (takeN f k (f s c).2.1 (f s c).2.2).2.2)
def allR {α : Type} (f : Rd α) (most : Int) : Rd (List α) := fun s c => takeN f (numR s c most).1.toNat (numR s c most).2.1 (numR s c most).2.2
def listB {α : Type} (e : α → List UInt8) (l : List α) : List UInt8 := putL l.length ++ l.flatMap e
section
variable {α : Type} {f : Rd α} {e : α → List UInt8} {ok : α → Prop}
theorem takeN_nil {n : Nat} {s : List UInt8} {c : Int} (h : (takeN f n s c).2.2 ≠ 0) : (takeN f n s c).1 = [] := by
  cases n with
  | zero => rfl
  | succ k =>
    unfold takeN at h ⊢
    split
    · rfl
    · rename_i h1
      rw [if_neg h1] at h
      dsimp only at h ⊢
      rw [if_pos h]
theorem takeN_back (hf : Codec f e ok) : ∀ (l : List α) (t : List UInt8), (∀ x ∈ l, ok x) → takeN f l.length (l.flatMap e ++ t) 0 = (l, t, 0)
  | [], t, _ => rfl
  | x :: l, t, h => by
    have ih := takeN_back hf l t fun y hy => h y (List.mem_cons_of_mem _ hy)
    have hx := hf.back x (l.flatMap e ++ t) (h x List.mem_cons_self)
    rw [List.flatMap_cons, List.append_assoc, List.length_cons]
    unfold takeN
    rw [hx]
    dsimp only
    rw [if_neg (by simp), ih]
    simp
theorem takeN_err (hf : Codec f e ok) (n : Nat) (s : List UInt8) {c : Int} (hc : c ≠ 0) : (takeN f n s c).2.1 = s ∧ (takeN f n s c).2.2 = c := by
  cases n with
  | zero => exact ⟨rfl, rfl⟩
  | succ k =>
    obtain ⟨h1, h2⟩ := hf.err s c hc
    unfold takeN
    rw [h2, if_pos hc]
    exact ⟨h1, rfl⟩
theorem takeN_canon (hf : Codec f e ok) : ∀ (n : Nat) (s : List UInt8), (takeN f n s 0).2.2 = 0 → s = (takeN f n s 0).1.flatMap e ++ (takeN f n s 0).2.1 ∧ (takeN f n s 0).1.length = n ∧ ∀ x ∈ (takeN f n s 0).1, ok x
  | 0, s, _ => ⟨rfl, rfl, fun x hx => by cases hx⟩
  | k + 1, s, h => by
    by_cases h1 : (f s 0).2.2 = 0
    · have e1 : takeN f (k + 1) s 0 = (if (takeN f k (f s 0).2.1 0).2.2 ≠ 0 then [] else (f s 0).1 :: (takeN f k (f s 0).2.1 0).1, (takeN f k (f s 0).2.1 0).2.1, (takeN f k (f s 0).2.1 0).2.2) := by
        rw [takeN, h1, if_neg (by simp)]
      rw [e1] at h ⊢
      dsimp only at h ⊢
      obtain ⟨h2, h3⟩ := hf.canon s h1
      obtain ⟨h4, h5, h6⟩ := takeN_canon hf k (f s 0).2.1 h
      rw [if_neg (by rw [h]; simp)]
      refine ⟨?_, by rw [List.length_cons, h5], fun x hx => ?_⟩
      · conv => lhs; rw [h2, h4]
        simp
      · rcases List.mem_cons.1 hx with rfl | hx
        · exact h3
        · exact h6 x hx
    · rw [takeN, if_pos h1] at h
      exact absurd h h1
theorem takeN_len (hf : Codec f e ok) : ∀ (n : Nat) (s : List UInt8) (c : Int), (takeN f n s c).2.1.length ≤ s.length
  | 0, s, c => Nat.le_refl _
  | k + 1, s, c => by
    have h1 := hf.len s c
    have h2 := takeN_len hf k (f s c).2.1 (f s c).2.2
    unfold takeN
    split
    · exact h1
    · exact Nat.le_trans h2 h1
theorem takeN_cut (hf : Codec f e ok) : ∀ (l : List α) (p : List UInt8), (∀ x ∈ l, ok x) → p <+: l.flatMap e → p.length < (l.flatMap e).length → (takeN f l.length p 0).2.2 = 40
  | [], p, _, _, h => absurd h (by simp)
  | x :: l, p, h, hp, hl => by
    have hx := h x List.mem_cons_self
    rw [List.flatMap_cons] at hp hl
    rw [List.length_append] at hl
    rw [List.length_cons]
    unfold takeN
    rcases Nat.lt_or_ge p.length (e x).length with h1 | h1
    · have hpp : p <+: e x := List.prefix_of_prefix_length_le hp (List.prefix_append _ _) (by omega)
      have h2 := hf.cut x p hx hpp h1
      rw [h2, if_pos (by decide)]
    · obtain ⟨q, hq⟩ := List.prefix_of_prefix_length_le (List.prefix_append (e x) (l.flatMap e)) hp h1
      have hql : q.length < (l.flatMap e).length := by have := congrArg List.length hq; rw [List.length_append] at this; omega
      rw [← hq] at hp ⊢
      rw [hf.back x q hx]
      dsimp only
      rw [if_neg (by simp)]
      exact takeN_cut hf l q (fun y hy => h y (List.mem_cons_of_mem _ hy)) ((List.prefix_append_right_inj _).1 hp) hql
theorem listC (hf : Codec f e ok) {most : Int} (h0 : 0 ≤ most) (h63 : most ≤ 9223372036854775807) : Codec (allR f most) (listB e) (fun l => (l.length : Int) ≤ most ∧ ∀ x ∈ l, ok x) where
  back l t h := by
    unfold allR listB
    rw [List.append_assoc, numR_put l.length (l.flatMap e ++ t) most (by omega) (by omega)]
    dsimp only
    rw [Int.toNat_natCast]
    exact takeN_back hf l t h.2
  canon s hs := by
    unfold allR at hs ⊢
    by_cases h1 : (numR s 0 most).2.2 = 0
    · rw [h1] at hs ⊢
      have h2 := canon_num (most := most) h1
      have h3 := numR_le (s := s) (c := 0) (most := most)
      have h4 := numR_nonneg s 0 most
      obtain ⟨h5, h6, h7⟩ := takeN_canon hf _ _ hs
      refine ⟨?_, by omega, h7⟩
      unfold listB
      rw [h6]
      conv => lhs; rw [h2, h5]
      simp
    · exact absurd ((takeN_err hf _ _ h1).2.symm.trans hs) h1
  err s c hc := by
    unfold allR
    rw [numR_errR hc]
    exact takeN_err hf _ _ hc
  cut l p h hp hl := by
    unfold allR
    unfold listB at hp hl
    rw [List.length_append] at hl
    rcases Nat.lt_or_ge p.length (putL l.length).length with h1 | h1
    · have hpp : p <+: putL l.length := List.prefix_of_prefix_length_le hp (List.prefix_append _ _) (by omega)
      rw [num_cut (n := l.length) (by omega) hpp h1]
      exact (takeN_err hf _ _ (show (40 : Int) ≠ 0 by decide)).2
    · obtain ⟨q, hq⟩ := List.prefix_of_prefix_length_le (List.prefix_append (putL l.length) (l.flatMap e)) hp h1
      have hql : q.length < (l.flatMap e).length := by have := congrArg List.length hq; rw [List.length_append] at this; omega
      rw [← hq] at hp ⊢
      rw [numR_put l.length q most (by omega) (by omega)]
      dsimp only
      rw [Int.toNat_natCast]
      exact takeN_cut hf l q h.2 ((List.prefix_append_right_inj _).1 hp) hql
  len s c := Nat.le_trans (takeN_len hf _ _ _) (numR_len s c most)
/-- how far a list is read -/
def TI (f : Rd α) (n : Nat) (s1 : List UInt8) (c1 : Int) (i : Nat) (out : List α) (s : List UInt8) (c : Int) : Prop :=
  i ≤ n ∧ out.length ≤ i ∧ (c ≠ 0 → out = []) ∧ takeN f n s1 c1 = (if (takeN f (n - i) s c).2.2 ≠ 0 then [] else out ++ (takeN f (n - i) s c).1, (takeN f (n - i) s c).2.1, (takeN f (n - i) s c).2.2)
theorem ti_start (n : Nat) (s : List UInt8) (c : Int) : TI f n s c 0 [] s c := by
  refine ⟨Nat.zero_le _, Nat.le_refl _, fun _ => rfl, ?_⟩
  rw [Nat.sub_zero]
  by_cases h : (takeN f n s c).2.2 = 0
  · rw [if_neg (by simp [h]), List.nil_append]
  · rw [if_pos h]
    have := takeN_nil (f := f) (n := n) (s := s) (c := c) h
    rw [← this]
theorem ti_bad {n i : Nat} {s1 s : List UInt8} {c1 c : Int} {out : List α} (h : TI f n s1 c1 i out s c) (hi : i < n) (hb : (f s c).2.2 ≠ 0) : takeN f n s1 c1 = ([], (f s c).2.1, (f s c).2.2) := by
  obtain ⟨h1, h2, h3, h4⟩ := h
  obtain ⟨k, hk⟩ : ∃ k, n - i = k + 1 := ⟨n - i - 1, by omega⟩
  rw [h4, hk, takeN, if_pos hb]
  dsimp only
  rw [if_pos hb]
theorem ti_next {n i : Nat} {s1 s : List UInt8} {c1 c : Int} {out : List α} (h : TI f n s1 c1 i out s c) (hi : i < n) (hb : (f s c).2.2 = 0) : TI f n s1 c1 (i + 1) (out ++ [(f s c).1]) (f s c).2.1 (f s c).2.2 := by
  obtain ⟨h1, h2, h3, h4⟩ := h
  refine ⟨by omega, by rw [List.length_append, List.length_singleton]; omega, fun k => absurd hb k, ?_⟩
  obtain ⟨k, hk⟩ : ∃ k, n - i = k + 1 := ⟨n - i - 1, by omega⟩
  have e1 : takeN f (k + 1) s c = (if (takeN f k (f s c).2.1 (f s c).2.2).2.2 ≠ 0 then [] else (f s c).1 :: (takeN f k (f s c).2.1 (f s c).2.2).1, (takeN f k (f s c).2.1 (f s c).2.2).2.1, (takeN f k (f s c).2.1 (f s c).2.2).2.2) := by
    rw [takeN]; exact if_neg (by simp [hb])
  rw [h4, hk, e1, show n - (i + 1) = k by omega]
  dsimp only
  split
  · rfl
  · simp
theorem ti_end {n i : Nat} {s1 s : List UInt8} {c1 c : Int} {out : List α} (h : TI f n s1 c1 i out s c) (hi : n ≤ i) : takeN f n s1 c1 = (out, s, c) := by
  obtain ⟨h1, h2, h3, h4⟩ := h
  rw [h4, show n - i = 0 by omega]
  show (if c ≠ 0 then [] else out ++ [], s, c) = _
  by_cases hc : c = 0
  · rw [if_neg (by simp [hc]), List.append_nil]
  · rw [if_pos hc, h3 hc]
theorem takeN_few (n : Nat) (s : List UInt8) (c : Int) : (takeN f n s c).1.length ≤ n := by
  induction n generalizing s c with
  | zero => exact Nat.le_refl _
  | succ k ih =>
    unfold takeN
    split
    · exact Nat.zero_le _
    · dsimp only
      split
      · exact Nat.zero_le _
      · rw [List.length_cons]; have := ih (f s c).2.1 (f s c).2.2; omega
theorem allR_few {most : Int} (h0 : 0 ≤ most) (s : List UInt8) (c : Int) : ((allR f most s c).1.length : Int) ≤ most := by
  have h1 := takeN_few (f := f) (numR s c most).1.toNat (numR s c most).2.1 (numR s c most).2.2
  have h2 := numR_le (s := s) (c := c) (most := most)
  have h3 := numR_nonneg s c most
  unfold allR; omega
theorem takeN_all {p : α → Prop} (hp : ∀ s c, p (f s c).1) (n : Nat) (s : List UInt8) (c : Int) : ∀ x ∈ (takeN f n s c).1, p x := by
  induction n generalizing s c with
  | zero => intro x hx; cases hx
  | succ k ih =>
    unfold takeN
    split
    · intro x hx; cases hx
    · dsimp only
      split
      · intro x hx; cases hx
      · intro x hx
        rcases List.mem_cons.1 hx with rfl | hx
        · exact hp s c
        · exact ih _ _ x hx
end
theorem flat_next {α : Type} {e : α → List UInt8} {l : List α} {i : Nat} (h : i < l.length) : (l.take (i + 1)).flatMap e = (l.take i).flatMap e ++ e l[i] := by
  rw [List.take_succ_eq_append_getElem h, List.flatMap_append]; simp
theorem flatB_len {α : Type} {e : α → List UInt8} {B : Nat} : ∀ {l : List α}, (∀ x ∈ l, (e x).length ≤ B) → (l.flatMap e).length ≤ l.length * B
  | [], _ => by simp
  | x :: l, h => by
    have h1 := h x List.mem_cons_self
    have h2 := flatB_len (e := e) (B := B) (l := l) fun y hy => h y (List.mem_cons_of_mem _ hy)
    rw [List.flatMap_cons, List.length_append, List.length_cons, Nat.add_mul]; omega
theorem wtextR_short (s : List UInt8) (c : Int) {most : Int} (h0 : 0 ≤ most) : ((wtextR s c most).1.length : Int) ≤ most := by
  have h5 := numR_le (s := s) (c := c) (most := most)
  have h6 := numR_nonneg s c most
  unfold wtextR
  split
  · simpa using h0
  · split
    · simpa using h0
    · dsimp only; rw [List.length_take]; omega
theorem numB_len {n : Int} (h : n ≤ 9223372036854775807) : (numB n).length ≤ 10 := putL_few n.toNat (by omega)
theorem textB_len {s : List UInt8} (h : s.length ≤ 9223372036854775807) : (textB s).length ≤ s.length + 10 := by
  have := putL_few s.length (by omega)
  unfold textB; rw [List.length_append]; omega
end Go.AL

namespace Go.AL
open Go.RowKit
section
variable {P : Program} {N : Nat} {env : Env} {st : St} {o : Oper}
theorem GCalls.of_eq {gs : List (Nat × List Value)} {f : FuncId} {args : List AV} {V V' : AV} (h : GCalls P gs f args V) (e : V = V') : GCalls P gs f args V' := e ▸ h
/-- What a call over tables wants of each argument, where it only reads. -/
inductive LendsG (st : St) (g : St) : List AV → List AV → Prop
  | nil : LendsG st g [] []
  | cons {a b : AV} {as bs : List AV} (h : Conv st g a b) (t : LendsG st g as bs) : LendsG st g (a :: as) (b :: bs)
theorem LendsG.len {g : St} {as bs : List AV} (h : LendsG st g as bs) : as.length = bs.length := by induction h <;> simp [*]
theorem LendsG.at_ {g : St} {as bs : List AV} (h : LendsG st g as bs) : ∀ (i : Nat) b, bs[i]? = some b → ∃ a, as[i]? = some a ∧ Conv st g a b := by
  induction h with
  | nil => intro i b h; simp at h
  | cons h t ih =>
    intro i b hb
    cases i with
    | zero => simp at hb; subst hb; exact ⟨_, rfl, h⟩
    | succ i => simp at hb; simpa using ih i b hb

/-- What may be written there may be written here. -/
def MutLe (st st' : St) : Prop := ∀ b off, Mut st' b off → Mut st b off
theorem MutLe.cells {s' : St} {k : Nat} {cs ds : List AV} (h : MutLe st s') : MutLe ((k, .cells cs) :: st) ((k, .cells ds) :: s') := fun b off ⟨o, ho, hop⟩ => by
  rcases List.mem_cons.1 ho with h1 | h1
  · cases h1; exact ⟨_, List.mem_cons_self, trivial⟩
  · obtain ⟨o', h2, h3⟩ := h b off ⟨o, h1, hop⟩; exact ⟨o', List.mem_cons_of_mem _ h2, h3⟩
theorem MutLe.drop {s' : St} {p : Nat × Ob} (h : MutLe st s') : MutLe (p :: st) s' := fun b off hm => let ⟨o', h2, h3⟩ := h b off hm; ⟨o', List.mem_cons_of_mem _ h2, h3⟩
theorem MutLe.refl (s : St) : MutLe s s := fun _ _ h => h
theorem MutLe.ext {st' : St} (h : MutLe st st') (w : World) : Ext st w st' w := ⟨rfl, rfl, rfl, fun _ _ => rfl, Nat.le_refl _, fun _ _ _ => rfl, fun _ _ _ _ _ _ _ _ _ => rfl, fun b off _ hm => h b off hm, fun _ _ _ _ => rfl⟩
theorem LendsG.agg {g : St} {as bs : List AV} (h : LendsG st g as bs) : Conv st g (.agg as) (.agg bs) := .agg h.len fun i c d hc hd => by
  obtain ⟨a, ha, hcv⟩ := h.at_ i d hd
  rw [hc] at ha; cases ha; exact hcv
/-- The slots' values as they are in another state. -/
inductive EnvConv (st st' : St) (env : Env) : Env → Prop
  | nil : EnvConv st st' env []
  | cons {i : Nat} {x y : AV} {rest : Env} (h : env.lookup i = some y) (hl : Conv st st' y x) (t : EnvConv st st' env rest) : EnvConv st st' env ((i, x) :: rest)
theorem EnvConv.spec {st' : St} {env' : Env} (h : EnvConv st st' env env') : ∀ i x, env'.lookup i = some x → ∃ y, env.lookup i = some y ∧ Conv st st' y x := by
  induction h with
  | nil => intro i x hi; simp at hi
  | @cons j u v rest h1 h2 t ih =>
    intro i x hi
    simp only [List.lookup_cons] at hi
    by_cases hij : i = j
    · subst hij
      simp only [beq_self_eq_true] at hi
      cases hi
      exact ⟨v, h1, h2⟩
    · have : (i == j) = false := by simpa using hij
      simp only [this] at hi
      exact ih i x hi
/-- One state's memory, in another one: the same, or cells whose values are seen otherwise. -/
inductive StConv (st st' : St) : St → St → Prop
  | nil : StConv st st' [] []
  | drop {p : Nat × Ob} {a b : St} (t : StConv st st' a b) : StConv st st' (p :: a) b
  | same {p : Nat × Ob} {a b : St} (t : StConv st st' a b) (h : ∀ cs, p.2 = .cells cs → ∀ c ∈ cs, Conv st st' c c) : StConv st st' (p :: a) (p :: b)
  | cells {k : Nat} {cs ds : List AV} {a b : St} (hl : ds.length = cs.length) (h : ∀ (i : Nat) c d, cs[i]? = some c → ds[i]? = some d → Conv st st' c d) (t : StConv st st' a b) : StConv st st' ((k, .cells cs) :: a) ((k, .cells ds) :: b)
  | rest (a : St) (h : ∀ c, Conv st st' c c) : StConv st st' a a
theorem StConv.keys {s s' a b : St} (h : StConv s s' a b) : List.Sublist (b.map (·.1)) (a.map (·.1)) := by
  induction h with
  | nil => exact .refl _
  | drop _ ih => exact ih.cons _
  | same _ _ ih => exact ih.cons_cons _
  | cells _ _ _ ih => exact ih.cons_cons _
  | rest _ _ => exact .refl _
theorem StConv.mem {s s' a b : St} (h : StConv s s' a b) : ∀ k o, (k, o) ∈ b → (∃ cs ds, o = .cells ds ∧ (k, .cells cs) ∈ a ∧ ds.length = cs.length ∧ ∀ (i : Nat) c d, cs[i]? = some c → ds[i]? = some d → Conv s s' c d) ∨ ((k, o) ∈ a ∧ ∀ cs, o ≠ .cells cs) := by
  induction h with
  | nil => intro k o h; cases h
  | drop _ ih =>
    intro k o h
    rcases ih k o h with ⟨cs, ds, h1, h2, h3⟩ | ⟨h1, h2⟩
    · exact .inl ⟨cs, ds, h1, List.mem_cons_of_mem _ h2, h3⟩
    · exact .inr ⟨List.mem_cons_of_mem _ h1, h2⟩
  | @same p a b t hp ih =>
    intro k o h
    rcases List.mem_cons.1 h with h | h
    · subst h
      cases o with
      | cells cs => exact .inl ⟨cs, cs, rfl, List.mem_cons_self, rfl, fun i c d hc hd => by rw [hc] at hd; cases hd; exact hp cs rfl c (List.mem_of_getElem? hc)⟩
      | grow e size n cap => exact .inr ⟨List.mem_cons_self, fun cs hh => by cases hh⟩
      | konst vs => exact .inr ⟨List.mem_cons_self, fun cs hh => by cases hh⟩
    · rcases ih k o h with ⟨cs, ds, h1, h2, h3⟩ | ⟨h1, h2⟩
      · exact .inl ⟨cs, ds, h1, List.mem_cons_of_mem _ h2, h3⟩
      · exact .inr ⟨List.mem_cons_of_mem _ h1, h2⟩
  | @cells k' cs ds a b hl hc t ih =>
    intro k o h
    rcases List.mem_cons.1 h with h | h
    · cases h; exact .inl ⟨cs, ds, rfl, List.mem_cons_self, hl, hc⟩
    · rcases ih k o h with ⟨cs, ds, h1, h2, h3⟩ | ⟨h1, h2⟩
      · exact .inl ⟨cs, ds, h1, List.mem_cons_of_mem _ h2, h3⟩
      · exact .inr ⟨List.mem_cons_of_mem _ h1, h2⟩
  | rest a hc =>
    intro k o h
    cases o with
    | cells cs => exact .inl ⟨cs, cs, rfl, h, rfl, fun i c d h1 h2 => by rw [h1] at h2; cases h2; exact hc c⟩
    | grow e size n cap => exact .inr ⟨h, fun cs hh => by cases hh⟩
    | konst vs => exact .inr ⟨h, fun cs hh => by cases hh⟩

end
end Go.AL

namespace Go.AL
open Go.RowKit
section
variable {P : Program} {N : Nat} {env : Env} {st : St} {o : Oper}
end
end Go.AL

namespace Go.AL
open Go.RowKit Go.NumSpec
end Go.AL

namespace Go.AL
open Go.RowKit Go.NumSpec
abbrev lessK (x y : Lab) : Bool := Op.bytesLess x.1 y.1
abbrev d0 : Lab := ([], [])
section
variable {a b : List Lab}
end
theorem map_cons {m : Option (List Lab)} {out : List Lab} {x : Lab} : (m.map (x :: ·)).map (out ++ ·) = m.map ((out ++ [x]) ++ ·) := by cases m <;> simp
end Go.AL

namespace Go.AL
open Go.RowKit Go.NumSpec
theorem bytesLess_trans : ∀ {a b c : List UInt8}, Op.bytesLess a b = true → Op.bytesLess b c = true → Op.bytesLess a c = true
  | _, [], _, h, _ => by cases ‹List UInt8› <;> simp [Op.bytesLess] at h
  | _, _ :: _, [], _, h => by simp [Op.bytesLess] at h
  | [], _ :: _, _ :: _, _, _ => rfl
  | x :: a, y :: b, z :: c, h, k => by
    unfold Op.bytesLess at h k ⊢
    simp only [Bool.or_eq_true, decide_eq_true_eq, Bool.and_eq_true, beq_iff_eq] at h k ⊢
    simp only [u8_lt] at h k ⊢
    rcases h with h | ⟨rfl, h⟩
    · rcases k with k | ⟨rfl, k⟩
      · exact .inl (by omega)
      · exact .inl h
    · rcases k with k | ⟨rfl, k⟩
      · exact .inl k
      · exact .inr ⟨rfl, bytesLess_trans h k⟩
abbrev sortedL (l : List Lab) : Prop := l.Pairwise fun x y => lessK x y = true
theorem sorted_of {l : List Lab} (h : ∀ i (hi : i < l.length), 0 < i → lessK (l[i - 1]'(by omega)) l[i] = true) : sortedL l := by
  refine List.pairwise_iff_getElem.2 fun i j hi hj hij => ?_
  induction j with
  | zero => omega
  | succ j ih =>
    have h1 := h (j + 1) hj (by omega)
    simp only [Nat.add_sub_cancel] at h1
    rcases Nat.lt_or_ge i j with k | k
    · exact bytesLess_trans (ih (by omega) k) h1
    · have : i = j := by omega
      subst this; exact h1
theorem label_out {name : List UInt8} {l : List Lab} {i : Nat} (hi : i < l.length) (h : labelE name l i = none) : namesR 2 l[i].1 = true ∧ (∀ h0 : 0 < i, lessK (l[i - 1]'(by omega)) l[i] = true) ∧ valV l[i].2 = true := by
  cases h1 : namesR 2 l[i].1 with
  | false => rw [label_key hi h1] at h; cases h
  | true =>
    have h2 : ∀ h0 : 0 < i, lessK (l[i - 1]'(by omega)) l[i] = true := fun h0 => by
      cases h2 : lessK (l[i - 1]'(by omega)) l[i] with
      | true => rfl
      | false => rw [label_order hi h1 h0 h2] at h; cases h
    refine ⟨rfl, h2, ?_⟩
    cases h3 : valV l[i].2 with
    | true => rfl
    | false => rw [label_val hi h1 h2 h3] at h; cases h
theorem labels_out {name : List UInt8} {l : List Lab} (h : labelsE name l = none) : l.length ≤ 4 ∧ sortedL l ∧ ∀ x ∈ l, namesR 2 x.1 = true ∧ valV x.2 = true := by
  cases ha : atMostE name (l.length : Int) 0 4 with
  | some x => rw [labelsE_bad (by rw [ha]; simp), ha] at h; cases h
  | none =>
    rw [labelsE_good ha] at h
    have hl : l.length ≤ 4 := by
      unfold atMostE at ha
      split at ha
      · cases ha
      · omega
    have hall := eachE_none h
    refine ⟨hl, sorted_of fun i hi h0 => (label_out hi (hall i hi)).2.1 h0, fun x hx => ?_⟩
    obtain ⟨i, hi, rfl⟩ := List.mem_iff_getElem.1 hx
    exact ⟨(label_out hi (hall i hi)).1, (label_out hi (hall i hi)).2.2⟩
end Go.AL

namespace Go.AL
open Go.RowKit Go.NumSpec
theorem key_short {s : List UInt8} (h : namesR 2 s = true) : s.length ≤ 33 := by
  rw [namesR_parts, Bool.and_eq_true, decide_eq_true_eq] at h
  have := parts_names h.2
  omega
theorem val_short {s : List UInt8} (h : valV s = true) : s.length ≤ 16 := by
  unfold valV at h
  simp only [Bool.and_eq_true, decide_eq_true_eq] at h
  omega
end Go.AL

namespace Go.AL
open Go.RowKit Go.NumSpec
abbrev MR : Int := 1099511627776
def labRd : Rd Lab := seqR (textRd 33) (textRd 16)
def labB (x : Lab) : List UInt8 := textB x.1 ++ textB x.2
def LabOk (x : Lab) : Prop := (x.1.length : Int) ≤ 33 ∧ (x.2.length : Int) ≤ 16
theorem labC : Codec labRd labB LabOk := seqC (textC (by decide) (by decide)) (textC (by decide) (by decide))
def labsRd : Rd (List Lab) := allR labRd 4
def labsB (l : List Lab) : List UInt8 := listB labB l
def LabsOk (l : List Lab) : Prop := (l.length : Int) ≤ 4 ∧ ∀ x ∈ l, LabOk x
theorem labsC : Codec labsRd labsB LabsOk := listC labC (by decide) (by decide)
def triRd : Rd Tri := seqR (numRd MR) (seqR (numRd MR) (numRd MR))
def triB (r : Tri) : List UInt8 := numB r.1 ++ (numB r.2.1 ++ numB r.2.2)
def TriOk (r : Tri) : Prop := (0 ≤ r.1 ∧ r.1 ≤ MR) ∧ ((0 ≤ r.2.1 ∧ r.2.1 ≤ MR) ∧ (0 ≤ r.2.2 ∧ r.2.2 ≤ MR))
theorem triC : Codec triRd triB TriOk := seqC (numC (by decide) (by decide)) (seqC (numC (by decide) (by decide)) (numC (by decide) (by decide)))
def portsRd : Rd (List Int) := allR (numRd 65535) 3
def portsB (l : List Int) : List UInt8 := listB numB l
def PortsOk (l : List Int) : Prop := (l.length : Int) ≤ 3 ∧ ∀ x ∈ l, 0 ≤ x ∧ x ≤ 65535
theorem portsC : Codec portsRd portsB PortsOk := listC (numC (by decide) (by decide)) (by decide) (by decide)
abbrev CtrT := List UInt8 × (List UInt8 × (Tri × (Tri × (List Int × (Int × Int)))))
def ctrOf (x : CtrT) : Ctr := ⟨x.1, x.2.1, x.2.2.1, x.2.2.2.1, x.2.2.2.2.1, x.2.2.2.2.2⟩
def ctrTo (c : Ctr) : CtrT := (c.name, (c.image, (c.req, (c.lim, (c.ports, c.probe)))))
def ctrRd : Rd Ctr := mapR ctrOf (seqR (textRd 16) (seqR (textRd 33) (seqR triRd (seqR triRd (seqR portsRd (seqR (numRd 1000) (numRd 10)))))))
def ctrB (c : Ctr) : List UInt8 := textB c.name ++ (textB c.image ++ (triB c.req ++ (triB c.lim ++ (portsB c.ports ++ (numB c.probe.1 ++ numB c.probe.2)))))
def CtrOk (c : Ctr) : Prop := (c.name.length : Int) ≤ 16 ∧ ((c.image.length : Int) ≤ 33 ∧ (TriOk c.req ∧ (TriOk c.lim ∧ (PortsOk c.ports ∧ ((0 ≤ c.probe.1 ∧ c.probe.1 ≤ 1000) ∧ (0 ≤ c.probe.2 ∧ c.probe.2 ≤ 10))))))
theorem ctrC : Codec ctrRd ctrB CtrOk :=
  mapC (h := ctrOf) (k := ctrTo) (fun _ => rfl) (fun _ => rfl) (seqC (textC (by decide) (by decide)) (seqC (textC (by decide) (by decide)) (seqC triC (seqC triC (seqC portsC (seqC (numC (by decide) (by decide)) (numC (by decide) (by decide))))))))
def ctrsB (l : List Ctr) : List UInt8 := listB ctrB l
def CtrsOk (n : Int) (l : List Ctr) : Prop := (l.length : Int) ≤ n ∧ ∀ x ∈ l, CtrOk x
abbrev SpcT := List UInt8 × (List Lab × (List Ctr × (List Ctr × (Int × (Int × Int)))))
def spcOf (x : SpcT) : Spc := ⟨x.1, x.2.1, x.2.2.1, x.2.2.2.1, x.2.2.2.2.1, x.2.2.2.2.2.1, x.2.2.2.2.2.2⟩
def spcTo (s : Spc) : SpcT := (s.name, (s.labels, (s.init, (s.main, (s.restart, (s.grace, s.prio))))))
def spcRd : Rd Spc := mapR spcOf (seqR (textRd 16) (seqR labsRd (seqR (allR ctrRd 3) (seqR (allR ctrRd 4) (seqR (numRd 3) (seqR (numRd 1000) (numRd 10)))))))
def spcB (s : Spc) : List UInt8 := textB s.name ++ (labsB s.labels ++ (ctrsB s.init ++ (ctrsB s.main ++ (numB s.restart ++ (numB s.grace ++ numB s.prio)))))
def SpcOk (s : Spc) : Prop := (s.name.length : Int) ≤ 16 ∧ (LabsOk s.labels ∧ (CtrsOk 3 s.init ∧ (CtrsOk 4 s.main ∧ ((0 ≤ s.restart ∧ s.restart ≤ 3) ∧ ((0 ≤ s.grace ∧ s.grace ≤ 1000) ∧ (0 ≤ s.prio ∧ s.prio ≤ 10))))))
theorem spcC : Codec spcRd spcB SpcOk :=
  mapC (h := spcOf) (k := spcTo) (fun _ => rfl) (fun _ => rfl) (seqC (textC (by decide) (by decide)) (seqC labsC (seqC (listC ctrC (by decide) (by decide)) (seqC (listC ctrC (by decide) (by decide)) (seqC (numC (by decide) (by decide)) (seqC (numC (by decide) (by decide)) (numC (by decide) (by decide))))))))
/-! What may be is within its bounds -/
theorem atMost_none {name : List UInt8} {n lo hi : Int} (h : atMostE name n lo hi = none) : lo ≤ n ∧ n ≤ hi := by
  unfold atMostE at h
  split at h
  · cases h
  · omega
theorem new_none {b : Bool} {c : Int} {ps : List (List UInt8)} (hc : c ≠ 0) (h : erNew (saysV b c) ps = none) : b = true := by
  unfold erNew at h
  split at h
  · rename_i h1; exact (says_zero hc).1 h1
  · cases h
theorem image_len {s : List UInt8} (h : (tparts s).2.2 = true) : (s.length : Int) ≤ 33 := by
  unfold tparts at h
  split at h
  · rename_i h1
    have h2 := cutV_len h1.1
    have h3 := h1.2.1
    have h4 := h1.2.2
    unfold repoV at h3; unfold tagV at h4
    simp only [Bool.and_eq_true, decide_eq_true_eq] at h3 h4
    have := h3.1; have := h4.1.2
    omega
  · cases h
theorem req_ok {r : Tri} (h : reqE r = none) : TriOk r := by
  have h0 := erIn_none h
  exact ⟨within_none (firstE_none h0 _ List.mem_cons_self), within_none (firstE_none h0 (withinE [109, 101, 109] r.2.1 0 1099511627776) (by simp)), within_none (firstE_none h0 (withinE [112, 105, 100, 115] r.2.2 0 1099511627776) (by simp))⟩
theorem most_ok {name : List UInt8} {n lo : Int} (h0 : 0 ≤ lo) (h : mostE name n lo = none) : 0 ≤ n ∧ n ≤ MR := by
  unfold mostE at h
  split at h
  · rename_i h1; subst h1; exact ⟨by decide, by decide⟩
  · have := within_none h
    unfold MR; omega
theorem lim_ok {l r : Tri} (hr : TriOk r) (h : limE l r = none) : TriOk l := by
  have h0 := erIn_none h
  exact ⟨most_ok hr.1.1 (firstE_none h0 _ List.mem_cons_self), most_ok hr.2.1.1 (firstE_none h0 (mostE [109, 101, 109] l.2.1 r.2.1) (by simp)), most_ok hr.2.2.1 (firstE_none h0 (mostE [112, 105, 100, 115] l.2.2 r.2.2) (by simp))⟩
theorem port_ok {ps l : List Int} {n : Int} (hn : n ≤ 3) (h : portE ps l n = none) : PortsOk l := by
  obtain ⟨h1, h2⟩ := portE_out h
  refine ⟨by have := atMost_none h1; omega, fun x hx => ?_⟩
  obtain ⟨j, hj, rfl⟩ := List.mem_iff_getElem.1 hx
  have := within_none (portAt_out (h2 j hj)).1
  rw [List.getD_eq_getElem?_getD, List.getElem?_eq_getElem hj] at this
  simp only [Option.getD_some] at this
  omega
theorem ctr_ok {ns : List (List UInt8)} {ps : List Int} {c : Ctr} {a b : Int} (ha : a ≤ 3) (hb : b ≤ 1000) (h : ctrE ns ps c a b = none) : CtrOk c := by
  have h1 := new_none (by decide) (nameE_out (firstE_none h (nameE ns c.name) (by simp))).1
  have h2 := new_none (by decide) (firstE_none h (erNew (saysV (tparts c.image).2.2 33) [[105, 109, 97, 103, 101]]) (by simp))
  have h3 := req_ok (firstE_none h (reqE c.req) (by simp))
  have h4 := lim_ok h3 (firstE_none h (limE c.lim c.req) (by simp))
  have h5 := port_ok ha (firstE_none h (portE ps c.ports a) (by simp))
  have h6 := erIn_none (firstE_none h (probeE c.probe b) (by simp))
  have h7 := within_none (firstE_none h6 _ List.mem_cons_self)
  have h8 := within_none (firstE_none h6 _ (List.mem_cons_of_mem _ List.mem_cons_self))
  have h9 := nameV_len h1
  refine ⟨by omega, image_len h2, h3, h4, h5, by omega, ?_⟩
  by_cases hp : c.probe.1 = 0
  · rw [if_pos hp, if_pos hp] at h8; omega
  · rw [if_neg hp, if_neg hp] at h8; omega
theorem ctrs_ok {name : List UInt8} {ns : List (List UInt8)} {ps : List Int} {l : List Ctr} {a b : Int} (ha : a ≤ 3) (hb : b ≤ 1000) (h : ctrsE name ns ps l a b = none) : ∀ x ∈ l, CtrOk x := fun x hx => by
  obtain ⟨j, hj, rfl⟩ := List.mem_iff_getElem.1 hx
  have := erIn_none (eachE_none h j hj)
  rw [ctrAt_at hj] at this
  exact ctr_ok ha hb this
theorem check_ok {s : Spc} (h : checkE s = none) : SpcOk s := by
  obtain ⟨h1, h2, h3⟩ := check_all h
  have n1 := nameV_len (new_none (by decide) (firstE_none h1 _ List.mem_cons_self))
  have n2 := labels_out (firstE_none h1 (labelsE labelsN s.labels) (by simp))
  have n3 := atMost_none (firstE_none h1 (atMostE initN (s.init.length : Int) 0 3) (by simp))
  have n4 := ctrs_ok (by decide) (by decide) (firstE_none h2 (ctrsE initN [] [] s.init 0 0) (by simp))
  have n5 := atMost_none (firstE_none h2 (atMostE mainN (s.main.length : Int) 1 4) (by simp))
  have n6 := ctrs_ok (by decide) (by decide) (firstE_none h3 _ List.mem_cons_self)
  have n7 := within_none (firstE_none h3 (withinE [114, 101, 115, 116, 97, 114, 116] s.restart 1 3) (by simp))
  have n8 := within_none (firstE_none h3 (withinE [103, 114, 97, 99, 101] s.grace 0 1000) (by simp))
  have n9 := within_none (firstE_none h3 (withinE [112, 114, 105, 111] s.prio 0 10) (by simp))
  refine ⟨by omega, ⟨by have := n2.1; omega, fun x hx => ?_⟩, ⟨n3.2, n4⟩, ⟨n5.2, n6⟩, by omega, n8, n9⟩
  have := n2.2.2 x hx
  have k1 := key_short this.1
  have k2 := val_short this.2
  exact ⟨by omega, by omega⟩
/-! How long -/
theorem labB_len {x : Lab} (h1 : x.1.length ≤ 400) (h2 : x.2.length ≤ 400) : (labB x).length ≤ 1000 := by
  have := textB_len (s := x.1) (by omega)
  have := textB_len (s := x.2) (by omega)
  unfold labB; rw [List.length_append]; omega
theorem triB_len {r : Tri} (h : TriOk r) : (triB r).length ≤ 30 := by
  have a := numB_len (n := r.1) (by have := h.1.2; unfold MR at this; omega)
  have b := numB_len (n := r.2.1) (by have := h.2.1.2; unfold MR at this; omega)
  have c := numB_len (n := r.2.2) (by have := h.2.2.2; unfold MR at this; omega)
  unfold triB; rw [List.length_append, List.length_append]; omega
theorem portsB_len {l : List Int} (h : PortsOk l) : (portsB l).length ≤ 40 := by
  have a := flatB_len (e := numB) (B := 10) (l := l) fun x hx => numB_len (by have := (h.2 x hx).2; omega)
  have b := putL_few l.length (by have := h.1; omega)
  have := h.1
  unfold portsB listB; rw [List.length_append]; omega
theorem ctrB_len {c : Ctr} (h : CtrOk c) : (ctrB c).length ≤ 1000 := by
  obtain ⟨h1, h2, h3, h4, h5, h6, h7⟩ := h
  have a := textB_len (s := c.name) (by omega)
  have b := textB_len (s := c.image) (by omega)
  have d := triB_len h3
  have e := triB_len h4
  have f := portsB_len h5
  have g := numB_len (n := c.probe.1) (by omega)
  have k := numB_len (n := c.probe.2) (by omega)
  unfold ctrB
  simp only [List.length_append]; omega
theorem ctrB_assoc (c : Ctr) : (((((textB c.name ++ textB c.image) ++ triB c.req) ++ triB c.lim) ++ listB numB c.ports) ++ numB c.probe.1) ++ numB c.probe.2 = ctrB c := by simp [ctrB, portsB]
theorem spcB_assoc (s : Spc) : (((((textB s.name ++ listB labB s.labels) ++ ([s.init, s.main].flatMap (listB ctrB)))) ++ numB s.restart) ++ numB s.grace) ++ numB s.prio = spcB s := by simp [spcB, labsB, ctrsB]
theorem two_all {p : List Ctr → Prop} {a b : List Ctr} (ha : p a) (hb : p b) : ∀ x ∈ [a, b], p x := fun x hx => by
  simp only [List.mem_cons, List.not_mem_nil, or_false] at hx
  rcases hx with rfl | rfl
  · exact ha
  · exact hb
theorem flatB_next {α : Type} {e : α → List UInt8} {a : List UInt8} {l : List α} {i : Nat} (h : i < l.length) : a ++ (l.take (i + 1)).flatMap e = (a ++ (l.take i).flatMap e) ++ e l[i] := by
  rw [flat_next h, List.append_assoc]
theorem triB_assoc (r : Tri) : (numB r.1 ++ numB r.2.1) ++ numB r.2.2 = triB r := by simp [triB]
theorem listB_next {α : Type} {e : α → List UInt8} {l : List α} {i : Nat} (h : i < l.length) : putL l.length ++ (l.take (i + 1)).flatMap e = (putL l.length ++ (l.take i).flatMap e) ++ e l[i] := by
  rw [flat_next h, List.append_assoc]
theorem listB_len {α : Type} {e : α → List UInt8} {l : List α} {B : Nat} (hl : l.length ≤ 9223372036854775807) (h : ∀ x ∈ l, (e x).length ≤ B) : (listB e l).length ≤ 10 + l.length * B := by
  have a := flatB_len h
  have b := putL_few l.length (by omega)
  unfold listB; rw [List.length_append]; omega
theorem ACalls.preQ {P : Program} {f : FuncId} {args : List AV} {foot pre F : St} {K : AV → St → Prop} (hc : ACalls P f args (foot ++ (pre ++ F)) fun x st' => ∃ foot', K x foot' ∧ st' = foot' ++ (pre ++ F)) : ACalls P f args (pre ++ (foot ++ F)) fun x st' => ∃ foot', K x foot' ∧ st' = pre ++ (foot' ++ F) := by
  have perm : ∀ (a : St), (pre ++ (a ++ F)).Perm (a ++ (pre ++ F)) := fun a => by
    rw [← List.append_assoc, ← List.append_assoc]
    exact List.Perm.append_right F List.perm_append_comm
  refine ⟨hc.enters, fun w vs hrel hs hr => ?_⟩
  have hx : Ext (pre ++ (foot ++ F)) w (foot ++ (pre ++ F)) w := Ext.sub fun p hp => (perm foot).mem_iff.2 hp
  have hrel2 : Rel (foot ++ (pre ++ F)) w := hrel.sub (fun p hp => (perm foot).mem_iff.2 hp) (((perm foot).map (·.1)).nodup_iff.1 hrel.nodup)
  refine (hc.calls w vs hrel2 hs fun i x v h1 h2 => (hr i x v h1 h2).mono hx hrel.nodup).mono ?_
  rintro e w' ⟨r, x, st', he, ⟨foot', hk, rfl⟩, hr', hrel', hext⟩
  have hy : Ext (foot' ++ (pre ++ F)) w' (pre ++ (foot' ++ F)) w' := Ext.sub fun p hp => (perm foot').mem_iff.1 hp
  exact ⟨r, x, _, he, ⟨foot', hk, rfl⟩, hr'.mono hy hrel'.nodup, hrel'.sub (fun p hp => (perm foot').mem_iff.1 hp) (((perm foot').map (·.1)).nodup_iff.2 hrel'.nodup), (hx.trans hext hrel.nodup).trans hy hrel.nodup⟩
theorem bytes_fin (s : Spc) : AV.tup [.S (if (if checkE s = none then (0 : Int) else failC 0 (erCode (checkE s))) = 0 then (if checkE s = none then wput 0 [] (spcB s) else []) else []), .int .i64 (if checkE s = none then 0 else failC 0 (erCode (checkE s)))] = .tup [.S (if checkE s = none then spcB s else []), .int .i64 (erCode (checkE s))] := by
  by_cases hk : checkE s = none
  · rw [if_pos hk, if_pos hk, if_pos hk, if_pos rfl, hk]; rfl
  · rw [if_neg hk, if_neg hk, if_neg hk]
    have : failC 0 (erCode (checkE s)) = erCode (checkE s) := rfl
    rw [this]; split <;> rfl
end Go.AL

namespace Go.AL
open Go.RowKit
section
variable {P : Program} {N : Nat} {env : Env} {st : St} {o : Oper}
/-- A function's value: what it is, and what it holds. -/
abbrev AV.fn (f : FuncId) (caps : List Value) : AV := .lit (.func (.func f) #[] caps.toArray)
theorem AEv.fn (f : FuncId) : AEv env (.func f) (.fn f []) := AEv.func f
theorem S_makeFunc {f : FuncId} {xs : List Operand} {caps : List Value} (ho : o.op = .makeFunc (.func f) #[] xs.toArray) (hc : AEvs env xs (caps.map .lit)) : PStep P N o env st (.fn f caps) :=
  .of_val fun a w hg => by
    obtain ⟨hl, hr⟩ := hc.at_ hg
    have e : xs.map a.eval = caps := by
      refine List.ext_getElem? fun i => ?_
      simp only [List.getElem?_map]
      have hl' : caps.length = xs.length := by simpa using hl.symm
      cases hx : xs[i]? with
      | none =>
        have : xs.length ≤ i := by simpa using hx
        simp; omega
      | some x =>
        have hi : i < caps.length := by have := (List.getElem?_eq_some_iff.1 hx).1; omega
        have := hr i (.lit caps[i]) x (by simp [hi]) hx
        have := this.lit_inv
        simp [hi, this]
    refine ⟨.func (.func f) #[] caps.toArray, ?_, .lit _⟩
    simp [execOp, ho, Instr.makeFunc, e]

theorem S_callF {f : FuncId} {x : Operand} {caps : List Value} {xs : List Operand} {ts : Array TypeId} {args : List AV} {K : AV → St → Prop} (ho : o.op = .call { callee := .value x, args := xs.toArray, argTypes := ts }) (hx : AEv env x (.fn f caps)) (hargs : AEvs env xs args) (hc : ACalls P f (args ++ caps.map .lit) st K) : Step P N o env st K := by
  intro a w hg next Q hn
  obtain ⟨hl, hr⟩ := hargs.at_ hg
  have hf := (hx _ _ _ _ hg).lit_inv
  have hrun : (execOp a.eval o).run P w = .ok (.enter f ((xs.map a.eval) ++ caps).toArray) w := by
    simp [execOp, ho, resolve, Deferred.ofValue, hf, invoke, run_callFunc' hc.enters]
  unfold Oper.wp
  rw [hrun]
  have hl2 : args.length = xs.length := hl.symm
  refine (hc.calls w _ hg.rel (by simp [hl2]) fun i y v hy hv => ?_).mono ?_
  · simp only [List.getElem?_toArray] at hv
    rcases Nat.lt_or_ge i args.length with hi | hi
    · rw [List.getElem?_append_left hi] at hy
      rw [List.getElem?_append_left (by simp; omega)] at hv
      simp at hv
      obtain ⟨u, hu, rfl⟩ := hv
      exact hr i y u hy hu
    · rw [List.getElem?_append_right hi] at hy
      rw [List.getElem?_append_right (by simp; omega)] at hv
      simp only [List.length_map] at hv
      rw [← hl2] at hv
      simp only [List.getElem?_map, hv, Option.map_some, Option.some.injEq] at hy
      subst hy
      exact .lit v
  · rintro e w' ⟨r, y, st', rfl, k, h1, h2, h3⟩
    exact hn y st' r w' k h1 h2 h3
end
end Go.AL

namespace Go.AL
open Go.RowKit
section
variable {P : Program} {N : Nat} {env : Env} {st : St} {o : Oper} {w : World}
/-- .. an element of one cell of an array that is a value -/
theorem S_idxOne {t e : TypeId} {len : Nat} {x y : Operand} {cs : List AV} {c : AV} {k : IntKind} {i : Int} (ho : o.op = .index t x y) (hx : AEv env x (.agg cs)) (hy : AEv env y (.int k i)) (hu : P.underlying t = some (.array len e)) (ht : flatT P e = true) (hm : (P.info? e).map (·.size) = some 1) (h0 : 0 ≤ i) (h1 : i < len) (hc : cs[i.toNat]? = some c) : PStep P N o env st c :=
  .of_val fun a w hg => by
    obtain ⟨vs, e1, hn, hr⟩ := agg_inv (hx _ _ _ _ hg)
    have e2 := (hy _ _ _ _ hg).lit_inv
    have hk : i.toNat < vs.size := by have := (List.getElem?_eq_some_iff.1 hc).1; omega
    refine ⟨vs[i.toNat], ?_, hr _ _ _ hc (by simp [hk])⟩
    have := run_part_flat (P := P) w ht (show vs[i.toNat]? = some vs[i.toNat] by simp [hk])
    cases hq : P.info? e with
    | none => simp [hq] at hm
    | some q =>
      have hqm : q.size = 1 := by simpa [hq] using hm
      simp [execOp, ho, e1, e2, Instr.index, asIntOf, run_underlying hu, h0, h1, sizeOf, typeInfo, hq, hqm, this]
end
end Go.AL

namespace Go.AL
open Go.RowKit
section
variable {P : Program} {N : Nat} {Q : Post} {env : Env} {st : St} {ops : Array Oper}
theorem AC_mono {c : Code} {Q' : Post} (h : AC P N c Q' env st) (hq : ∀ e env' st', Q' e env' st' → Q e env' st') : AC P N c Q env st := fun a w hg =>
  wp_mono (h a w hg) fun e a' w' ⟨env', st', h1, h2, h3⟩ => ⟨env', st', hq _ _ _ h1, h2, h3⟩
def AO (P : Program) (N : Nat) (ops : Array Oper) (Q : Post) (fuel : Nat) (listed : Array Bool) (env : Env) (st : St) : Prop :=
  ∀ (st0 : St) (w0 : World) (a : Act) (w : World), (st0.map (·.1)).Nodup → Good N env st a w → Ext st0 w0 st w → wpAny P .any ops (Sat N Q st0 w0) fuel listed a w
inductive AllI (p : Nat → Prop) : List Nat → Prop
  | nil : AllI p []
  | cons {i : Nat} {l : List Nat} (h : p i) (t : AllI p l) : AllI p (i :: l)
theorem AllI.at_ {p : Nat → Prop} : ∀ {l : List Nat}, AllI p l → ∀ i ∈ l, p i
  | _, .cons h t, i, hi => by
    rcases List.mem_cons.1 hi with rfl | hi
    · exact h
    · exact t.at_ i hi
def AO1 (P : Program) (N : Nat) (ops : Array Oper) (Q : Post) (fuel : Nat) (listed : Array Bool) (env : Env) (st : St) (i : Nat) : Prop :=
  ∃ (o : Oper) (K : AV → St → Prop), ops[i]? = some o ∧ o.guard = none ∧ dstIn N o.dst = true ∧ Step P N o env st K ∧ ∀ x st', K x st' → AO P N ops Q fuel (listed.setIfInBounds i true) (putE o.dst x env) st'
theorem AO1.mk' {fuel i : Nat} {listed : Array Bool} {o : Oper} {K : AV → St → Prop} (ho : ops[i]? = some o) (hgd : o.guard = none) (hd : dstIn N o.dst = true) (hs : Step P N o env st K) (h : ∀ x st', K x st' → AO P N ops Q fuel (listed.setIfInBounds i true) (putE o.dst x env) st') : AO1 P N ops Q fuel listed env st i := ⟨o, K, ho, hgd, hd, hs, h⟩
theorem AO_step {fuel : Nat} {listed : Array Bool} {rs : List Nat} (hr : Region.ready .any ops listed = rs) (hne : rs.isEmpty = false) (h : AllI (AO1 P N ops Q fuel listed env st) rs) : AO P N ops Q (fuel + 1) listed env st := by
  intro st0 w0 a w hn hg hx
  refine ⟨fun k => ?_, fun i hi => ?_⟩
  · rw [hr] at k; rw [k] at hne; cases hne
  · rw [hr] at hi
    obtain ⟨o, K, ho, hgd, hd, hs, hk⟩ := h.at_ i hi
    unfold wpOp
    rw [ho]
    dsimp only
    rw [if_pos (by simp [Region.wanted, hgd])]
    exact .inl (hs a w hg _ _ fun x st' v w' hkx hr' hrel hext => hk x st' hkx st0 w0 _ _ hn (hg.put (dstIn_spec hd) hr' hrel hext) (hx.trans hext hn))
theorem AO_fin {fuel : Nat} {listed : Array Bool} (hr : Region.ready .any ops listed = []) (h : Q .normal env st) : AO P N ops Q fuel listed env st := by
  intro st0 w0 a w hn hg hx
  have hs : Sat N Q st0 w0 .normal a w := ⟨env, st, h, hg, hx⟩
  cases fuel with
  | zero => exact ⟨hr, hs⟩
  | succ fuel => exact ⟨fun _ => hs, fun i hi => by rw [hr] at hi; cases hi⟩
/-- Every order comes to K. -/
theorem AC_ords {id : Nat} {l : List Oper} (K : Env → St → Prop) (hm : P.follows .mixedOrders = true) (h : AO P N l.toArray (fun e env' st' => e = .normal ∧ K env' st') l.toArray.size (Array.replicate l.toArray.size false) env st) (hk : ∀ env' st', K env' st' → Q .normal env' st') : AC P N (.region id l.toArray true) Q env st := by
  refine AC_mono (Q' := fun e env' st' => e = .normal ∧ K env' st') (fun a0 w0 hg => ?_) fun e env' st' ⟨h1, h2⟩ => by rw [h1]; exact hk env' st' h2
  have hn := hg.rel.nodup
  have hdrew : Ext st w0 st { w0 with drawn := w0.drawn + 1 } := ⟨rfl, rfl, rfl, fun _ _ => rfl, Nat.le_refl _, fun _ _ _ => rfl, fun _ _ _ _ _ _ _ _ _ => rfl, fun _ _ _ h => h, fun _ _ _ _ => rfl⟩
  have hrel : Rel st { w0 with drawn := w0.drawn + 1 } := ⟨hn, fun b cs hbm => let ⟨vs, T, k1, k2, k3⟩ := hg.rel.cells b cs hbm; ⟨vs, T, k1, k2, fun i c v hc hv => (k3 i c v hc hv).mono hdrew hn⟩, hg.rel.grow, hg.rel.konst⟩
  refine wp_region_any hm (h st w0 a0 _ hn ⟨hg.size, hg.defers, fun t x hx => ?_, hrel⟩ hdrew)
  obtain ⟨v, hv, hr⟩ := hg.env t x hx
  exact ⟨v, hv, hr.mono hdrew hn⟩
end
end Go.AL

namespace Go.AL
open Go.RowKit Go.NumSpec
def spc0 : Spc := ⟨[], [], [], [], 0, 0, 0⟩
theorem labRd_short (s : List UInt8) (c : Int) : (labRd s c).1.1.length ≤ 33 ∧ (labRd s c).1.2.length ≤ 16 := by
  have h1 := wtextR_short s c (most := 33) (by decide)
  have h2 := wtextR_short (wtextR s c 33).2.1 (wtextR s c 33).2.2 (most := 16) (by decide)
  exact ⟨by show (wtextR s c 33).1.length ≤ 33; omega, by show (wtextR (wtextR s c 33).2.1 (wtextR s c 33).2.2 16).1.length ≤ 16; omega⟩
theorem ctrRd_light (s : List UInt8) (c : Int) : lightC (ctrRd s c).1 = true := by
  have h1 := wtextR_short s c (most := 16) (by decide)
  have h2 := wtextR_short (wtextR s c 16).2.1 (wtextR s c 16).2.2 (most := 33) (by decide)
  have h3 : (((ctrRd s c).1.ports.length : Nat) : Int) ≤ 3 := allR_few (f := numRd 65535) (most := 3) (by decide) _ _
  unfold lightC
  refine decide_eq_true ⟨?_, ?_, by omega⟩
  · show (wtextR s c 16).1.length ≤ 100; omega
  · show (wtextR (wtextR s c 16).2.1 (wtextR s c 16).2.2 33).1.length ≤ 100; omega
theorem allR_all {α : Type} {f : Rd α} {p : α → Prop} (hp : ∀ s c, p (f s c).1) (most : Int) (s : List UInt8) (c : Int) : ∀ x ∈ (allR f most s c).1, p x := takeN_all hp _ _ _
theorem light_inP {s : Spc} (h1 : s.name.length ≤ 100) (h2 : s.labels.length ≤ 10) (h3 : s.init.length ≤ 8) (h4 : s.main.length ≤ 8) (h5 : ∀ x ∈ s.labels, x.1.length ≤ 100 ∧ x.2.length ≤ 100) (h6 : ∀ x ∈ s.init, lightC x = true) (h7 : ∀ x ∈ s.main, lightC x = true) : lightS s = true := by
  unfold lightS
  simp only [Bool.and_eq_true, decide_eq_true_eq, List.all_eq_true]
  exact ⟨⟨⟨h1, h2, h3, h4⟩, fun x hx => by unfold lightL; exact decide_eq_true (h5 x hx)⟩, h6, h7⟩
theorem spcRd_light (s : List UInt8) (c : Int) : lightS (spcRd s c).1 = true := by
  have h1 := wtextR_short s c (most := 16) (by decide)
  have h2 : (((spcRd s c).1.labels.length : Nat) : Int) ≤ 4 := allR_few (f := labRd) (most := 4) (by decide) _ _
  have h3 : (((spcRd s c).1.init.length : Nat) : Int) ≤ 3 := allR_few (f := ctrRd) (most := 3) (by decide) _ _
  have h4 : (((spcRd s c).1.main.length : Nat) : Int) ≤ 4 := allR_few (f := ctrRd) (most := 4) (by decide) _ _
  have h5 : ∀ x ∈ (spcRd s c).1.labels, x.1.length ≤ 33 ∧ x.2.length ≤ 16 := allR_all (f := labRd) labRd_short 4 _ _
  have h6 : ∀ x ∈ (spcRd s c).1.init, lightC x = true := allR_all (f := ctrRd) ctrRd_light 3 _ _
  have h7 : ∀ x ∈ (spcRd s c).1.main, lightC x = true := allR_all (f := ctrRd) ctrRd_light 4 _ _
  refine light_inP ?_ (by omega) (by omega) (by omega) (fun x hx => by have := h5 x hx; omega) h6 h7
  show (wtextR s c 16).1.length ≤ 100; omega
abbrev wireN : List UInt8 := [119, 105, 114, 101]
/-- the spec of bytes, or the error -/
def ofE (s : List UInt8) : Er := firstE [erNew (endR (spcRd s 0).2.1 (spcRd s 0).2.2) [wireN], checkE (spcRd s 0).1]
def ofS (s : List UInt8) : Spc := if ofE s = none then (spcRd s 0).1 else spc0
theorem of_some {s : List UInt8} (h : ofE s ≠ none) : ofS s = spc0 := by unfold ofS; rw [if_neg h]
theorem of_none {s : List UInt8} (h : ofE s = none) : ofS s = (spcRd s 0).1 ∧ endR (spcRd s 0).2.1 (spcRd s 0).2.2 = 0 ∧ checkE (spcRd s 0).1 = none := by
  refine ⟨by unfold ofS; rw [if_pos h], ?_, firstE_none h _ (by simp)⟩
  have := firstE_none h (erNew (endR (spcRd s 0).2.1 (spcRd s 0).2.2) [wireN]) (by simp)
  unfold erNew at this
  split at this
  · rename_i h1; exact h1
  · cases this
/-- there and back -/
theorem of_bytes {s : Spc} (h : checkE s = none) : ofE (spcB s) = none ∧ ofS (spcB s) = s := by
  have h1 := spcC.back s [] (check_ok h)
  rw [List.append_nil] at h1
  have h2 : ofE (spcB s) = none := by unfold ofE; rw [h1]; simp only [endR]; rw [h]; rfl
  exact ⟨h2, by rw [(of_none h2).1, h1]⟩
theorem of_nil : ofE [] = some (40, [wireN]) := by decide +kernel
def wC : Ctr := ⟨[97], [98, 58, 49], (0, 0, 0), (0, 0, 0), [], (0, 0)⟩
def wS : Spc := ⟨[119], [], [], [wC], 1, 0, 0⟩
theorem wS_check : checkE wS = none := by decide +kernel
theorem wS_light : lightS wS = true := by decide +kernel
theorem bytes_eq {s : Spc} (h : checkE s = none) : AV.tup [.S (if checkE s = none then spcB s else []), .int .i64 (erCode (checkE s))] = .tup [.S (spcB s), .int .i64 0] := by
  rw [if_pos h, h]; rfl
theorem spcB_len {s : Spc} (h : checkE s = none) : (spcB s).length ≤ 20000 := by
  obtain ⟨h1, h2, h3, h4, h5, h6, h7⟩ := check_ok h
  have a1 := textB_len (s := s.name) (by omega)
  have a2 := listB_len (e := labB) (l := s.labels) (B := 1000) (by have := h2.1; omega) fun x hx => labB_len (by have := (h2.2 x hx).1; omega) (by have := (h2.2 x hx).2; omega)
  have a3 := listB_len (e := ctrB) (l := s.init) (B := 1000) (by have := h3.1; omega) fun x hx => ctrB_len (h3.2 x hx)
  have a4 := listB_len (e := ctrB) (l := s.main) (B := 1000) (by have := h4.1; omega) fun x hx => ctrB_len (h4.2 x hx)
  have a5 := numB_len (n := s.restart) (by omega)
  have a6 := numB_len (n := s.grace) (by omega)
  have a7 := numB_len (n := s.prio) (by omega)
  have b1 := h2.1
  have b2 := h3.1
  have b3 := h4.1
  unfold spcB labsB ctrsB
  simp only [List.length_append]; omega
end Go.AL

namespace Go.AL
open Go.RowKit Go.NumSpec
def okLab (x : Lab) : Prop := x.1.length ≤ 9223372036854775807 ∧ x.2.length ≤ 9223372036854775807
def okCtr (c : Ctr) : Prop := fits3 c.req ∧ fits3 c.lim ∧ (∀ p ∈ c.ports, fits p) ∧ fits c.probe.1 ∧ fits c.probe.2
def okSpc (s : Spc) : Prop := (∀ c ∈ s.init, okCtr c) ∧ (∀ c ∈ s.main, okCtr c) ∧ fits s.restart ∧ fits s.grace ∧ fits s.prio
end Go.AL

namespace Go.AL
theorem tabIs_of_mem {P : Program} {W : World} {name : String} {k : IntKind} {zs : List Int} {g : Nat} {t e : TypeId} {n : Nat}
    (hg : P.globalNamed name = some g) (hty : (P.globals[g]?).map (·.type) = some t) (ht : P.underlying t = some (.array n e)) (he : P.underlying e = some (.int k)) (hce : P.cellsOf e = 1) (hct : P.cellsOf t = n) :
    ∀ {l : List (String × DataW Unit)} {ps : List MemPlace}, (name, Lib.tabData k zs) ∈ l → DataW.LaidVars P W l ps → Lib.TabIs P W name k zs
  | [], _, hm, _ => nomatch hm
  | (m, d) :: r, _, hm, h => by
    obtain ⟨g', t', cs, fuel, p, q, hg', ht', hvar, hd, hr, _⟩ := h
    rcases List.mem_cons.1 hm with hm | hm
    · cases hm
      obtain rfl := Option.some.inj (hg.symm.trans hg')
      obtain rfl := Option.some.inj (hty.symm.trans ht')
      unfold Lib.TabIs
      rw [hvar, ← Lib.cells_of_tab ht he hce hct hd]
    · exact tabIs_of_mem hg hty ht he hce hct hm hr
theorem tabIs_of_laid {P : Program} {W : World} {name : String} {k : IntKind} {zs : List Int} {g : Nat} {t e : TypeId} {n : Nat}
    (hg : P.globalNamed name = some g) (hty : (P.globals[g]?).map (·.type) = some t) (ht : P.underlying t = some (.array n e)) (he : P.underlying e = some (.int k)) (hce : P.cellsOf e = 1) (hct : P.cellsOf t = n)
    {l : List (String × DataW Unit)} (hm : (name, Lib.tabData k zs) ∈ l) (h : laidMet P l W) : Lib.TabIs P W name k zs := by
  obtain ⟨ps, h1, _⟩ := h
  exact tabIs_of_mem hg hty ht he hce hct hm h1
end Go.AL
