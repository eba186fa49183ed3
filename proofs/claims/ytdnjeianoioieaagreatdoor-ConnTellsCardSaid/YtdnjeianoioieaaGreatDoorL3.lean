/- A part of the proof: laws of the logic and of the data, no program in sight.
Conditions: none beyond each theorem's own. -/
import Derived.Test.YtdnjeianoioieaaGreatDoorL2
import Derived.Laws.MakeOwn
import Derived.Lib.Bytealg
import Derived.LaidMore
import Derived.Lib.LaidTab
import Derived.OpenShut
set_option linter.unusedVariables false
set_option linter.unusedSimpArgs false
namespace Go.AL
open Go.RowKit Go.NumSpec
theorem u8_lt (a b : UInt8) : a < b ↔ a.toNat < b.toNat := UInt8.lt_iff_toNat_lt
theorem bytesLess_ge : ∀ {a b : List UInt8}, Op.bytesLess b a = false → Op.bytesLess a b = true ∨ a = b
  | [], [], _ => .inr rfl
  | [], _ :: _, _ => .inl rfl
  | _ :: _, [], h => by cases h
  | x :: a, y :: b, h => by
    unfold Op.bytesLess at h ⊢
    simp only [Bool.or_eq_false_iff, decide_eq_false_iff_not, Bool.and_eq_false_iff, beq_eq_false_iff_ne, ne_eq] at h
    simp only [Bool.or_eq_true, decide_eq_true_eq, Bool.and_eq_true, beq_iff_eq, List.cons.injEq]
    obtain ⟨h1, h2⟩ := h
    rw [u8_lt] at h1
    by_cases hxy : x = y
    · subst hxy
      rcases h2 with h2 | h2
      · exact absurd rfl h2
      · rcases bytesLess_ge h2 with k | k
        · exact .inl (.inr ⟨rfl, k⟩)
        · exact .inr ⟨rfl, k⟩
    · have : x.toNat ≠ y.toNat := fun e => hxy (UInt8.toNat_inj.1 e)
      exact .inl (.inl (by rw [u8_lt]; omega))
theorem bytesLess_lt : ∀ {a b : List UInt8}, Op.bytesLess b a = true → Op.bytesLess a b = false ∧ a ≠ b
  | [], b, h => by cases b <;> simp [Op.bytesLess] at h
  | _ :: _, [], _ => ⟨rfl, by simp⟩
  | x :: a, y :: b, h => by
    unfold Op.bytesLess at h ⊢
    simp only [Bool.or_eq_true, decide_eq_true_eq, Bool.and_eq_true, beq_iff_eq] at h
    simp only [Bool.or_eq_false_iff, decide_eq_false_iff_not, Bool.and_eq_false_iff, beq_eq_false_iff_ne, ne_eq, List.cons.injEq, not_and]
    rcases h with h | ⟨h1, h2⟩
    · rw [u8_lt] at h
      refine ⟨⟨by rw [u8_lt]; omega, .inl fun e => by subst e; omega⟩, fun e => by subst e; omega⟩
    · subst h1
      obtain ⟨k1, k2⟩ := bytesLess_lt h2
      exact ⟨⟨by rw [u8_lt]; omega, .inr k1⟩, fun _ => k2⟩
section
variable {P : Program} {N : Nat} {env : Env} {st : St} {o : Oper}
end
section
variable {l : List Lab} {i : Nat} {name : List UInt8}
theorem getD_lab (h : i < l.length) : l.getD i ([], []) = l[i] := by rw [List.getD_eq_getElem?_getD, List.getElem?_eq_getElem h]; rfl
theorem label_key (h : i < l.length) (h1 : namesR 2 (l[i]'h).1 = false) : labelE name l i = some (31, [atT name (i : Int), [107, 101, 121]]) := by
  have hk : keyE l i = some (31, [[107, 101, 121]]) := by
    unfold keyE
    rw [getD_lab h, if_neg (by rw [h1]; rintro ⟨k, _⟩; cases k), h1]; rfl
  unfold labelE
  rw [hk]; rfl
theorem label_order (h : i < l.length) (h1 : namesR 2 (l[i]'h).1 = true) (h0 : 0 < i) (h2 : Op.bytesLess (l[i - 1]'(by omega)).1 (l[i]'h).1 = false) : labelE name l i = some (4, [atT name (i : Int), [107, 101, 121]]) := by
  have hk : keyE l i = some (4, [[107, 101, 121]]) := by
    unfold keyE
    rw [getD_lab h, getD_lab (show i - 1 < l.length by omega), if_pos]
    refine ⟨by rw [h1]; rfl, h0, ?_⟩
    rcases bytesLess_ge h2 with k | k
    · rw [k]; rfl
    · rw [k]; simp
  unfold labelE
  rw [hk]; rfl
theorem label_val (h : i < l.length) (h1 : namesR 2 (l[i]'h).1 = true) (h2 : ∀ h : 0 < i, Op.bytesLess (l[i - 1]'(by omega)).1 (l[i]'(by omega)).1 = true) (h3 : valV (l[i]'h).2 = false) : labelE name l i = some (32, [atT name (i : Int), [118, 97, 108]]) := by
  have hk : keyE l i = none := by
    unfold keyE
    rw [getD_lab h, if_neg]
    · rw [h1]; rfl
    · rintro ⟨_, k1, k2⟩
      rw [getD_lab (show i - 1 < l.length by omega)] at k2
      obtain ⟨q1, q2⟩ := bytesLess_lt (h2 k1)
      rw [q1] at k2
      simp at k2
      exact q2 k2
  unfold labelE
  rw [hk, getD_lab h, h3]; rfl
end
section
variable {ps l : List Int} {i : Nat} {n : Int}
end
end Go.AL
namespace Go.AL
open Go.RowKit Go.NumSpec
theorem erText_len {e : Er} {n : Nat} (h : ∀ c ps, e = some (c, ps) → (Lib.join ps [46]).length ≤ n) : (erText e).length ≤ n := by
  cases e with
  | none => simp [erText, erPath, Lib.join_nil]
  | some x => obtain ⟨c, ps⟩ := x; exact h c ps rfl
end Go.AL
namespace Go.AL
open Go.RowKit Go.NumSpec
/-- A path whose text has so many bytes at most. -/
def ShortE (n : Nat) (e : Er) : Prop := ∀ c ps, e = some (c, ps) → (Lib.join ps [46]).length ≤ n
theorem short_none (n : Nat) : ShortE n none := fun c ps h => by cases h
theorem short_one {n : Nat} {c : Int} {p : List UInt8} (h : p.length ≤ n) : ShortE n (some (c, [p])) := fun d qs e => by cases e; rw [Lib.join_one]; exact h
theorem short_new {n : Nat} {c : Int} {p : List UInt8} (h : p.length ≤ n) : ShortE n (erNew c [p]) := by
  unfold erNew; split
  · exact short_none n
  · exact short_one h
theorem ShortE.mono {n m : Nat} {e : Er} (h : ShortE n e) (k : n ≤ m) : ShortE m e := fun c ps he => Nat.le_trans (h c ps he) k
theorem short_in {n : Nat} {e : Er} (h : ShortE n e) (p : List UInt8) : ShortE (p.length + 1 + n) (erIn e p) := by
  cases e with
  | none => exact short_none _
  | some x =>
    obtain ⟨c, ps⟩ := x
    intro d qs he
    cases he
    by_cases hp : ps = []
    · subst hp; rw [Lib.join_one]; omega
    · rw [join_more p hp]
      have := h c ps rfl
      simp only [List.length_append, List.length_cons, List.length_nil]
      omega
theorem short_first {n : Nat} : ∀ {es : List Er}, (∀ e ∈ es, ShortE n e) → ShortE n (firstE es)
  | [], _ => short_none n
  | none :: es, h => short_first (es := es) fun e he => h e (List.mem_cons_of_mem _ he)
  | some x :: es, h => h (some x) List.mem_cons_self
theorem short_each {n k : Nat} {f : Nat → Er} (h : ∀ i, i < k → ShortE n (f i)) : ShortE n (eachE k f) := short_first fun e he => by
  obtain ⟨i, hi, rfl⟩ := List.mem_map.1 he
  exact h i (List.mem_range.1 hi)
theorem short_within {name : List UInt8} {n : Nat} (h : name.length ≤ n) (a lo hi : Int) : ShortE n (withinE name a lo hi) := by
  unfold withinE; split
  · exact short_one h
  · exact short_none _
theorem short_atMost {name : List UInt8} {n : Nat} (h : name.length ≤ n) (a lo hi : Int) : ShortE n (atMostE name a lo hi) := by
  unfold atMostE; split
  · exact short_one h
  · exact short_none _
theorem short_most {name : List UInt8} {n : Nat} (h : name.length ≤ n) (a lo : Int) : ShortE n (mostE name a lo) := by
  unfold mostE; split
  · exact short_none _
  · exact short_within h _ _ _
theorem short_name {n : Nat} (h : 4 ≤ n) (ns : List (List UInt8)) (s : List UInt8) : ShortE n (nameE ns s) := by
  unfold nameE; split
  · exact short_one h
  · exact short_new h
theorem short_req (r : Tri) : ShortE 8 (reqE r) := short_in (p := [114, 101, 113]) (short_first (n := 4) (by
  intro e he; simp only [List.mem_cons, List.not_mem_nil, or_false] at he
  rcases he with rfl | rfl | rfl <;> exact short_within (by decide) _ _ _))
theorem short_lim (l r : Tri) : ShortE 8 (limE l r) := short_in (p := [108, 105, 109]) (short_first (n := 4) (by
  intro e he; simp only [List.mem_cons, List.not_mem_nil, or_false] at he
  rcases he with rfl | rfl | rfl <;> exact short_most (by decide) _ _))
theorem short_probe (p : Int × Int) (every : Int) : ShortE 11 (probeE p every) := short_in (p := [112, 114, 111, 98, 101]) (short_first (n := 5) (by
  intro e he; simp only [List.mem_cons, List.not_mem_nil, or_false] at he
  rcases he with rfl | rfl <;> exact short_within (by decide) _ _ _))
theorem at_short {name : List UInt8} (h : name.length ≤ 100) {i n : Nat} (hi : i < n) (hn : n ≤ 1000000) : (atT name (i : Int)).length ≤ 200 := by
  have := textL_len (a := (i : Int)) (by unfold fits; omega)
  unfold atT
  simp only [List.length_append, List.length_cons, List.length_nil]
  omega
theorem short_port {ps l : List Int} {n : Int} (hl : l.length ≤ 1000000) : ShortE 200 (portE ps l n) := by
  cases ha : atMostE portsN (l.length : Int) 0 n with
  | some x => rw [portE_bad (by rw [ha]; simp)]; exact short_atMost (by decide) _ _ _
  | none =>
    rw [portE_good ha]
    refine short_each fun i hi => ?_
    have := at_short (name := portsN) (by decide) hi hl
    unfold portAt; split
    · exact short_one this
    · exact short_within this _ _ _
theorem short_ctr {ns : List (List UInt8)} {ps : List Int} {c : Ctr} {a b : Int} (hl : c.ports.length ≤ 1000000) : ShortE 200 (ctrE ns ps c a b) := short_first (by
  intro e he; simp only [List.mem_cons, List.not_mem_nil, or_false] at he
  rcases he with rfl | rfl | rfl | rfl | rfl | rfl
  · exact short_name (by decide) _ _
  · exact short_new (by decide)
  · exact (short_req _).mono (by decide)
  · exact (short_lim _ _).mono (by decide)
  · exact short_port hl
  · exact (short_probe _ _).mono (by decide))
theorem ShortE.text {n : Nat} {e : Er} (h : ShortE n e) : (erText e).length ≤ n := erText_len h
theorem short_ctrs {name : List UInt8} {ns : List (List UInt8)} {ps : List Int} {l : List Ctr} {a b : Int} (hn : name.length ≤ 100) (hl : l.length ≤ 1000000) (hp : ∀ c ∈ l, c.ports.length ≤ 1000000) : ShortE 500 (ctrsE name ns ps l a b) := short_each fun i hi => by
  rw [ctrAt_at hi]
  have h1 := at_short (name := name) (by omega) hi hl
  exact (short_in (short_ctr (hp _ (List.getElem_mem hi))) _).mono (by omega)
theorem short_label {name : List UInt8} {l : List Lab} {i : Nat} (h : (atT name (i : Int)).length ≤ 200) : ShortE 210 (labelE name l i) := (short_in (n := 3) (short_first (by
  intro e he; simp only [List.mem_cons, List.not_mem_nil, or_false] at he
  rcases he with rfl | rfl
  · unfold keyE; split
    · exact short_one (by decide)
    · exact short_new (by decide)
  · exact short_new (by decide))) _).mono (by omega)
theorem short_labels {name : List UInt8} {l : List Lab} (hn : name.length ≤ 100) (hl : l.length ≤ 1000000) : ShortE 210 (labelsE name l) := by
  cases ha : atMostE name (l.length : Int) 0 4 with
  | some x => rw [labelsE_bad (by rw [ha]; simp)]; exact short_atMost (by omega) _ _ _
  | none => rw [labelsE_good ha]; exact short_each fun i hi => short_label (at_short hn hi hl)
theorem short_check {s : Spc} (h1 : s.labels.length ≤ 1000000) (h2 : s.init.length ≤ 1000000) (h3 : s.main.length ≤ 1000000) (h4 : ∀ c ∈ s.init, c.ports.length ≤ 1000000) (h5 : ∀ c ∈ s.main, c.ports.length ≤ 1000000) : ShortE 500 (checkE s) := by
  unfold checkE
  split
  · rename_i x h; rw [← h]
    refine short_first fun e he => ?_
    simp only [List.mem_cons, List.not_mem_nil, or_false] at he
    rcases he with rfl | rfl | rfl
    · exact short_new (by decide)
    · exact (short_labels (by decide) h1).mono (by decide)
    · exact short_atMost (by decide) _ _ _
  · split
    · rename_i x h; rw [← h]
      refine short_first fun e he => ?_
      simp only [List.mem_cons, List.not_mem_nil, or_false] at he
      rcases he with rfl | rfl
      · exact short_ctrs (by decide) h2 h4
      · exact short_atMost (by decide) _ _ _
    · refine short_first fun e he => ?_
      simp only [List.mem_cons, List.not_mem_nil, or_false] at he
      rcases he with rfl | rfl | rfl | rfl
      · exact short_ctrs (by decide) h3 h5
      · exact short_within (by decide) _ _ _
      · exact short_within (by decide) _ _ _
      · exact short_within (by decide) _ _ _
theorem join_count (l : List (List UInt8)) : l.length ≤ (Lib.join l [46]).length + 1 := by
  cases l with
  | nil => simp
  | cons x r => rw [Lib.join_length]; simp only [List.length_cons, List.length_nil]; omega
theorem ShortE.path {n : Nat} {e : Er} (h : ShortE n e) : (erPath e).length ≤ n + 1 := by
  cases e with
  | none => simp [erPath]
  | some x => obtain ⟨c, ps⟩ := x; have h1 := h c ps rfl; have h2 := join_count ps; show ps.length ≤ _; omega
end Go.AL
namespace Go.AL
open Go.RowKit Go.NumSpec
theorem check_short {s : Spc} (h : lightS s = true) : ShortE 500 (checkE s) := by
  obtain ⟨⟨h1, h2, h3, h4⟩, h5, h6, h7⟩ := light_out h
  exact short_check (by omega) (by omega) (by omega) (fun c hc => by have := (of_decide_eq_true (h6 c hc)).2.2; omega) fun c hc => by have := (of_decide_eq_true (h7 c hc)).2.2; omega
end Go.AL

namespace Go.AL
open Go.RowKit Go.NumSpec
section
variable {α : Type} {f : α → α → Bool}
end
def sameS (a b : Spc) : Bool := decide (a.name = b.name) && decide (a.labels = b.labels) && sameL exactC a.init b.init && sameL exactC a.main b.main && decide (a.restart = b.restart) && decide (a.grace = b.grace) && decide (a.prio = b.prio)
theorem sameS_iff {a b : Spc} : sameS a b = true ↔ a = b := by
  cases a; cases b
  simp only [sameS, Bool.and_eq_true, decide_eq_true_eq, Spc.mk.injEq, sameL_iff (fun a b => exactC_iff)]
  constructor
  · rintro ⟨⟨⟨⟨⟨⟨h1, h2⟩, h3⟩, h4⟩, h5⟩, h6⟩, h7⟩; exact ⟨h1, h2, h3, h4, h5, h6, h7⟩
  · rintro ⟨h1, h2, h3, h4, h5, h6, h7⟩; exact ⟨⟨⟨⟨⟨⟨h1, h2⟩, h3⟩, h4⟩, h5⟩, h6⟩, h7⟩
end Go.AL
namespace Go.AL
open Go.RowKit Go.NumSpec
/-- No list of it is too long to be walked. -/
def shortS (s : Spc) : Prop := s.labels.length ≤ 1000000 ∧ s.init.length ≤ 1000000 ∧ s.main.length ≤ 1000000 ∧ (∀ c ∈ s.init, c.ports.length ≤ 1000000) ∧ ∀ c ∈ s.main, c.ports.length ≤ 1000000
theorem light_short {s : Spc} (h : lightS s = true) : shortS s := by
  obtain ⟨⟨h1, h2, h3, h4⟩, h5, h6, h7⟩ := light_out h
  exact ⟨by omega, by omega, by omega, fun c hc => by have := (of_decide_eq_true (h6 c hc)).2.2; omega, fun c hc => by have := (of_decide_eq_true (h7 c hc)).2.2; omega⟩
end Go.AL

namespace Go.AL
open Go.RowKit
section
variable {P : Program} {N : Nat} {env : Env} {st : St} {o : Oper}
theorem GCalls.of_eq {gs : List (Nat × List Value)} {f : FuncId} {args : List AV} {V V' : AV} (h : GCalls P gs f args V) (e : V = V') : GCalls P gs f args V' := e ▸ h
/-- What a call over tables wants of each argument, where it only reads. -/
inductive LendsG (st : St) (g : St) : List AV → List AV → Prop
  | nil : LendsG st g [] []
  | cons {a b : AV} {as bs : List AV} (h : Conv st g a b) (t : LendsG st g as bs) : LendsG st g (a :: as) (b :: bs)
theorem LendsG.len {g : St} {as bs : List AV} (h : LendsG st g as bs) : as.length = bs.length := by induction h <;> simp [*]
theorem LendsG.at_ {g : St} {as bs : List AV} (h : LendsG st g as bs) : ∀ (i : Nat) b, bs[i]? = some b → ∃ a, as[i]? = some a ∧ Conv st g a b := by
  induction h with
  | nil => intro i b h; simp at h
  | cons h t ih =>
    intro i b hb
    cases i with
    | zero => simp at hb; subst hb; exact ⟨_, rfl, h⟩
    | succ i => simp at hb; simpa using ih i b hb

/-- What may be written there may be written here. -/
def MutLe (st st' : St) : Prop := ∀ b off, Mut st' b off → Mut st b off
theorem MutLe.cells {s' : St} {k : Nat} {cs ds : List AV} (h : MutLe st s') : MutLe ((k, .cells cs) :: st) ((k, .cells ds) :: s') := fun b off ⟨o, ho, hop⟩ => by
  rcases List.mem_cons.1 ho with h1 | h1
  · cases h1; exact ⟨_, List.mem_cons_self, trivial⟩
  · obtain ⟨o', h2, h3⟩ := h b off ⟨o, h1, hop⟩; exact ⟨o', List.mem_cons_of_mem _ h2, h3⟩
theorem MutLe.drop {s' : St} {p : Nat × Ob} (h : MutLe st s') : MutLe (p :: st) s' := fun b off hm => let ⟨o', h2, h3⟩ := h b off hm; ⟨o', List.mem_cons_of_mem _ h2, h3⟩
theorem MutLe.refl (s : St) : MutLe s s := fun _ _ h => h
theorem MutLe.ext {st' : St} (h : MutLe st st') (w : World) : Ext st w st' w := ⟨rfl, rfl, rfl, fun _ _ => rfl, Nat.le_refl _, fun _ _ _ => rfl, fun _ _ _ _ _ _ _ _ _ => rfl, fun b off _ hm => h b off hm, fun _ _ _ _ => rfl⟩
theorem LendsG.agg {g : St} {as bs : List AV} (h : LendsG st g as bs) : Conv st g (.agg as) (.agg bs) := .agg h.len fun i c d hc hd => by
  obtain ⟨a, ha, hcv⟩ := h.at_ i d hd
  rw [hc] at ha; cases ha; exact hcv
/-- The slots' values as they are in another state. -/
inductive EnvConv (st st' : St) (env : Env) : Env → Prop
  | nil : EnvConv st st' env []
  | cons {i : Nat} {x y : AV} {rest : Env} (h : env.lookup i = some y) (hl : Conv st st' y x) (t : EnvConv st st' env rest) : EnvConv st st' env ((i, x) :: rest)
theorem EnvConv.spec {st' : St} {env' : Env} (h : EnvConv st st' env env') : ∀ i x, env'.lookup i = some x → ∃ y, env.lookup i = some y ∧ Conv st st' y x := by
  induction h with
  | nil => intro i x hi; simp at hi
  | @cons j u v rest h1 h2 t ih =>
    intro i x hi
    simp only [List.lookup_cons] at hi
    by_cases hij : i = j
    · subst hij
      simp only [beq_self_eq_true] at hi
      cases hi
      exact ⟨v, h1, h2⟩
    · have : (i == j) = false := by simpa using hij
      simp only [this] at hi
      exact ih i x hi
/-- One state's memory, in another one: the same, or cells whose values are seen otherwise. -/
inductive StConv (st st' : St) : St → St → Prop
  | nil : StConv st st' [] []
  | drop {p : Nat × Ob} {a b : St} (t : StConv st st' a b) : StConv st st' (p :: a) b
  | same {p : Nat × Ob} {a b : St} (t : StConv st st' a b) (h : ∀ cs, p.2 = .cells cs → ∀ c ∈ cs, Conv st st' c c) : StConv st st' (p :: a) (p :: b)
  | cells {k : Nat} {cs ds : List AV} {a b : St} (hl : ds.length = cs.length) (h : ∀ (i : Nat) c d, cs[i]? = some c → ds[i]? = some d → Conv st st' c d) (t : StConv st st' a b) : StConv st st' ((k, .cells cs) :: a) ((k, .cells ds) :: b)
  | rest (a : St) (h : ∀ c, Conv st st' c c) : StConv st st' a a
theorem StConv.keys {s s' a b : St} (h : StConv s s' a b) : List.Sublist (b.map (·.1)) (a.map (·.1)) := by
  induction h with
  | nil => exact .refl _
  | drop _ ih => exact ih.cons _
  | same _ _ ih => exact ih.cons_cons _
  | cells _ _ _ ih => exact ih.cons_cons _
  | rest _ _ => exact .refl _
theorem StConv.mem {s s' a b : St} (h : StConv s s' a b) : ∀ k o, (k, o) ∈ b → (∃ cs ds, o = .cells ds ∧ (k, .cells cs) ∈ a ∧ ds.length = cs.length ∧ ∀ (i : Nat) c d, cs[i]? = some c → ds[i]? = some d → Conv s s' c d) ∨ ((k, o) ∈ a ∧ ∀ cs, o ≠ .cells cs) := by
  induction h with
  | nil => intro k o h; cases h
  | drop _ ih =>
    intro k o h
    rcases ih k o h with ⟨cs, ds, h1, h2, h3⟩ | ⟨h1, h2⟩
    · exact .inl ⟨cs, ds, h1, List.mem_cons_of_mem _ h2, h3⟩
    · exact .inr ⟨List.mem_cons_of_mem _ h1, h2⟩
  | @same p a b t hp ih =>
    intro k o h
    rcases List.mem_cons.1 h with h | h
    · subst h
      cases o with
      | cells cs => exact .inl ⟨cs, cs, rfl, List.mem_cons_self, rfl, fun i c d hc hd => by rw [hc] at hd; cases hd; exact hp cs rfl c (List.mem_of_getElem? hc)⟩
      | grow e size n cap => exact .inr ⟨List.mem_cons_self, fun cs hh => by cases hh⟩
      | konst vs => exact .inr ⟨List.mem_cons_self, fun cs hh => by cases hh⟩
    · rcases ih k o h with ⟨cs, ds, h1, h2, h3⟩ | ⟨h1, h2⟩
      · exact .inl ⟨cs, ds, h1, List.mem_cons_of_mem _ h2, h3⟩
      · exact .inr ⟨List.mem_cons_of_mem _ h1, h2⟩
  | @cells k' cs ds a b hl hc t ih =>
    intro k o h
    rcases List.mem_cons.1 h with h | h
    · cases h; exact .inl ⟨cs, ds, rfl, List.mem_cons_self, hl, hc⟩
    · rcases ih k o h with ⟨cs, ds, h1, h2, h3⟩ | ⟨h1, h2⟩
      · exact .inl ⟨cs, ds, h1, List.mem_cons_of_mem _ h2, h3⟩
      · exact .inr ⟨List.mem_cons_of_mem _ h1, h2⟩
  | rest a hc =>
    intro k o h
    cases o with
    | cells cs => exact .inl ⟨cs, cs, rfl, h, rfl, fun i c d h1 h2 => by rw [h1] at h2; cases h2; exact hc c⟩
    | grow e size n cap => exact .inr ⟨h, fun cs hh => by cases hh⟩
    | konst vs => exact .inr ⟨h, fun cs hh => by cases hh⟩

end
end Go.AL

namespace Go.AL
open Go.RowKit
section
variable {P : Program} {N : Nat} {env : Env} {st : St} {o : Oper}
end
end Go.AL

namespace Go.AL
open Go.RowKit Go.NumSpec
end Go.AL

namespace Go.AL
open Go.RowKit Go.NumSpec
def coversL (a b : List Lab) : Bool := a.all fun x => decide (x ∈ b)
abbrev lessK (x y : Lab) : Bool := Op.bytesLess x.1 y.1
abbrev d0 : Lab := ([], [])
section
variable {a b : List Lab}
end
theorem map_cons {m : Option (List Lab)} {out : List Lab} {x : Lab} : (m.map (x :: ·)).map (out ++ ·) = m.map ((out ++ [x]) ++ ·) := by cases m <;> simp
end Go.AL

namespace Go.AL
open Go.RowKit Go.NumSpec
theorem bytesLess_trans : ∀ {a b c : List UInt8}, Op.bytesLess a b = true → Op.bytesLess b c = true → Op.bytesLess a c = true
  | _, [], _, h, _ => by cases ‹List UInt8› <;> simp [Op.bytesLess] at h
  | _, _ :: _, [], _, h => by simp [Op.bytesLess] at h
  | [], _ :: _, _ :: _, _, _ => rfl
  | x :: a, y :: b, z :: c, h, k => by
    unfold Op.bytesLess at h k ⊢
    simp only [Bool.or_eq_true, decide_eq_true_eq, Bool.and_eq_true, beq_iff_eq] at h k ⊢
    simp only [u8_lt] at h k ⊢
    rcases h with h | ⟨rfl, h⟩
    · rcases k with k | ⟨rfl, k⟩
      · exact .inl (by omega)
      · exact .inl h
    · rcases k with k | ⟨rfl, k⟩
      · exact .inl k
      · exact .inr ⟨rfl, bytesLess_trans h k⟩
abbrev sortedL (l : List Lab) : Prop := l.Pairwise fun x y => lessK x y = true
theorem sorted_of {l : List Lab} (h : ∀ i (hi : i < l.length), 0 < i → lessK (l[i - 1]'(by omega)) l[i] = true) : sortedL l := by
  refine List.pairwise_iff_getElem.2 fun i j hi hj hij => ?_
  induction j with
  | zero => omega
  | succ j ih =>
    have h1 := h (j + 1) hj (by omega)
    simp only [Nat.add_sub_cancel] at h1
    rcases Nat.lt_or_ge i j with k | k
    · exact bytesLess_trans (ih (by omega) k) h1
    · have : i = j := by omega
      subst this; exact h1
theorem label_out {name : List UInt8} {l : List Lab} {i : Nat} (hi : i < l.length) (h : labelE name l i = none) : namesR 2 l[i].1 = true ∧ (∀ h0 : 0 < i, lessK (l[i - 1]'(by omega)) l[i] = true) ∧ valV l[i].2 = true := by
  cases h1 : namesR 2 l[i].1 with
  | false => rw [label_key hi h1] at h; cases h
  | true =>
    have h2 : ∀ h0 : 0 < i, lessK (l[i - 1]'(by omega)) l[i] = true := fun h0 => by
      cases h2 : lessK (l[i - 1]'(by omega)) l[i] with
      | true => rfl
      | false => rw [label_order hi h1 h0 h2] at h; cases h
    refine ⟨rfl, h2, ?_⟩
    cases h3 : valV l[i].2 with
    | true => rfl
    | false => rw [label_val hi h1 h2 h3] at h; cases h
theorem labels_out {name : List UInt8} {l : List Lab} (h : labelsE name l = none) : l.length ≤ 4 ∧ sortedL l ∧ ∀ x ∈ l, namesR 2 x.1 = true ∧ valV x.2 = true := by
  cases ha : atMostE name (l.length : Int) 0 4 with
  | some x => rw [labelsE_bad (by rw [ha]; simp), ha] at h; cases h
  | none =>
    rw [labelsE_good ha] at h
    have hl : l.length ≤ 4 := by
      unfold atMostE at ha
      split at ha
      · cases ha
      · omega
    have hall := eachE_none h
    refine ⟨hl, sorted_of fun i hi h0 => (label_out hi (hall i hi)).2.1 h0, fun x hx => ?_⟩
    obtain ⟨i, hi, rfl⟩ := List.mem_iff_getElem.1 hx
    exact ⟨(label_out hi (hall i hi)).1, (label_out hi (hall i hi)).2.2⟩
end Go.AL

namespace Go.AL
open Go.RowKit Go.NumSpec
theorem key_short {s : List UInt8} (h : namesR 2 s = true) : s.length ≤ 33 := by
  rw [namesR_parts, Bool.and_eq_true, decide_eq_true_eq] at h
  have := parts_names h.2
  omega
theorem val_short {s : List UInt8} (h : valV s = true) : s.length ≤ 16 := by
  unfold valV at h
  simp only [Bool.and_eq_true, decide_eq_true_eq] at h
  omega
end Go.AL

namespace Go.AL
open Go.RowKit Go.NumSpec
abbrev MR : Int := 1099511627776
def labRd : Rd Lab := seqR (textRd 33) (textRd 16)
def labB (x : Lab) : List UInt8 := textB x.1 ++ textB x.2
def LabOk (x : Lab) : Prop := (x.1.length : Int) ≤ 33 ∧ (x.2.length : Int) ≤ 16
theorem labC : Codec labRd labB LabOk := seqC (textC (by decide) (by decide)) (textC (by decide) (by decide))
def labsRd : Rd (List Lab) := allR labRd 4
def labsB (l : List Lab) : List UInt8 := listB labB l
def LabsOk (l : List Lab) : Prop := (l.length : Int) ≤ 4 ∧ ∀ x ∈ l, LabOk x
theorem labsC : Codec labsRd labsB LabsOk := listC labC (by decide) (by decide)
def triRd : Rd Tri := seqR (numRd MR) (seqR (numRd MR) (numRd MR))
def triB (r : Tri) : List UInt8 := numB r.1 ++ (numB r.2.1 ++ numB r.2.2)
def TriOk (r : Tri) : Prop := (0 ≤ r.1 ∧ r.1 ≤ MR) ∧ ((0 ≤ r.2.1 ∧ r.2.1 ≤ MR) ∧ (0 ≤ r.2.2 ∧ r.2.2 ≤ MR))
theorem triC : Codec triRd triB TriOk := seqC (numC (by decide) (by decide)) (seqC (numC (by decide) (by decide)) (numC (by decide) (by decide)))
def portsRd : Rd (List Int) := allR (numRd 65535) 3
def portsB (l : List Int) : List UInt8 := listB numB l
def PortsOk (l : List Int) : Prop := (l.length : Int) ≤ 3 ∧ ∀ x ∈ l, 0 ≤ x ∧ x ≤ 65535
theorem portsC : Codec portsRd portsB PortsOk := listC (numC (by decide) (by decide)) (by decide) (by decide)
abbrev CtrT := List UInt8 × (List UInt8 × (Tri × (Tri × (List Int × (Int × Int)))))
def ctrOf (x : CtrT) : Ctr := ⟨x.1, x.2.1, x.2.2.1, x.2.2.2.1, x.2.2.2.2.1, x.2.2.2.2.2⟩
def ctrTo (c : Ctr) : CtrT := (c.name, (c.image, (c.req, (c.lim, (c.ports, c.probe)))))
def ctrRd : Rd Ctr := mapR ctrOf (seqR (textRd 16) (seqR (textRd 33) (seqR triRd (seqR triRd (seqR portsRd (seqR (numRd 1000) (numRd 10)))))))
def ctrB (c : Ctr) : List UInt8 := textB c.name ++ (textB c.image ++ (triB c.req ++ (triB c.lim ++ (portsB c.ports ++ (numB c.probe.1 ++ numB c.probe.2)))))
def CtrOk (c : Ctr) : Prop := (c.name.length : Int) ≤ 16 ∧ ((c.image.length : Int) ≤ 33 ∧ (TriOk c.req ∧ (TriOk c.lim ∧ (PortsOk c.ports ∧ ((0 ≤ c.probe.1 ∧ c.probe.1 ≤ 1000) ∧ (0 ≤ c.probe.2 ∧ c.probe.2 ≤ 10))))))
theorem ctrC : Codec ctrRd ctrB CtrOk :=
  mapC (h := ctrOf) (k := ctrTo) (fun _ => rfl) (fun _ => rfl) (seqC (textC (by decide) (by decide)) (seqC (textC (by decide) (by decide)) (seqC triC (seqC triC (seqC portsC (seqC (numC (by decide) (by decide)) (numC (by decide) (by decide))))))))
def ctrsB (l : List Ctr) : List UInt8 := listB ctrB l
def CtrsOk (n : Int) (l : List Ctr) : Prop := (l.length : Int) ≤ n ∧ ∀ x ∈ l, CtrOk x
abbrev SpcT := List UInt8 × (List Lab × (List Ctr × (List Ctr × (Int × (Int × Int)))))
def spcOf (x : SpcT) : Spc := ⟨x.1, x.2.1, x.2.2.1, x.2.2.2.1, x.2.2.2.2.1, x.2.2.2.2.2.1, x.2.2.2.2.2.2⟩
def spcTo (s : Spc) : SpcT := (s.name, (s.labels, (s.init, (s.main, (s.restart, (s.grace, s.prio))))))
def spcRd : Rd Spc := mapR spcOf (seqR (textRd 16) (seqR labsRd (seqR (allR ctrRd 3) (seqR (allR ctrRd 4) (seqR (numRd 3) (seqR (numRd 1000) (numRd 10)))))))
def spcB (s : Spc) : List UInt8 := textB s.name ++ (labsB s.labels ++ (ctrsB s.init ++ (ctrsB s.main ++ (numB s.restart ++ (numB s.grace ++ numB s.prio)))))
def SpcOk (s : Spc) : Prop := (s.name.length : Int) ≤ 16 ∧ (LabsOk s.labels ∧ (CtrsOk 3 s.init ∧ (CtrsOk 4 s.main ∧ ((0 ≤ s.restart ∧ s.restart ≤ 3) ∧ ((0 ≤ s.grace ∧ s.grace ≤ 1000) ∧ (0 ≤ s.prio ∧ s.prio ≤ 10))))))
theorem spcC : Codec spcRd spcB SpcOk :=
  mapC (h := spcOf) (k := spcTo) (fun _ => rfl) (fun _ => rfl) (seqC (textC (by decide) (by decide)) (seqC labsC (seqC (listC ctrC (by decide) (by decide)) (seqC (listC ctrC (by decide) (by decide)) (seqC (numC (by decide) (by decide)) (seqC (numC (by decide) (by decide)) (numC (by decide) (by decide))))))))
/-! What may be is within its bounds -/
theorem atMost_none {name : List UInt8} {n lo hi : Int} (h : atMostE name n lo hi = none) : lo ≤ n ∧ n ≤ hi := by
  unfold atMostE at h
  split at h
  · cases h
  · omega
theorem new_none {b : Bool} {c : Int} {ps : List (List UInt8)} (hc : c ≠ 0) (h : erNew (saysV b c) ps = none) : b = true := by
  unfold erNew at h
  split at h
  · rename_i h1; exact (says_zero hc).1 h1
  · cases h
theorem image_len {s : List UInt8} (h : (tparts s).2.2 = true) : (s.length : Int) ≤ 33 := by
  unfold tparts at h
  split at h
  · rename_i h1
    have h2 := cutV_len h1.1
    have h3 := h1.2.1
    have h4 := h1.2.2
    unfold repoV at h3; unfold tagV at h4
    simp only [Bool.and_eq_true, decide_eq_true_eq] at h3 h4
    have := h3.1; have := h4.1.2
    omega
  · cases h
theorem req_ok {r : Tri} (h : reqE r = none) : TriOk r := by
  have h0 := erIn_none h
  exact ⟨within_none (firstE_none h0 _ List.mem_cons_self), within_none (firstE_none h0 (withinE [109, 101, 109] r.2.1 0 1099511627776) (by simp)), within_none (firstE_none h0 (withinE [112, 105, 100, 115] r.2.2 0 1099511627776) (by simp))⟩
theorem most_ok {name : List UInt8} {n lo : Int} (h0 : 0 ≤ lo) (h : mostE name n lo = none) : 0 ≤ n ∧ n ≤ MR := by
  unfold mostE at h
  split at h
  · rename_i h1; subst h1; exact ⟨by decide, by decide⟩
  · have := within_none h
    unfold MR; omega
theorem lim_ok {l r : Tri} (hr : TriOk r) (h : limE l r = none) : TriOk l := by
  have h0 := erIn_none h
  exact ⟨most_ok hr.1.1 (firstE_none h0 _ List.mem_cons_self), most_ok hr.2.1.1 (firstE_none h0 (mostE [109, 101, 109] l.2.1 r.2.1) (by simp)), most_ok hr.2.2.1 (firstE_none h0 (mostE [112, 105, 100, 115] l.2.2 r.2.2) (by simp))⟩
theorem port_ok {ps l : List Int} {n : Int} (hn : n ≤ 3) (h : portE ps l n = none) : PortsOk l := by
  obtain ⟨h1, h2⟩ := portE_out h
  refine ⟨by have := atMost_none h1; omega, fun x hx => ?_⟩
  obtain ⟨j, hj, rfl⟩ := List.mem_iff_getElem.1 hx
  have := within_none (portAt_out (h2 j hj)).1
  rw [List.getD_eq_getElem?_getD, List.getElem?_eq_getElem hj] at this
  simp only [Option.getD_some] at this
  omega
theorem ctr_ok {ns : List (List UInt8)} {ps : List Int} {c : Ctr} {a b : Int} (ha : a ≤ 3) (hb : b ≤ 1000) (h : ctrE ns ps c a b = none) : CtrOk c := by
  have h1 := new_none (by decide) (nameE_out (firstE_none h (nameE ns c.name) (by simp))).1
  have h2 := new_none (by decide) (firstE_none h (erNew (saysV (tparts c.image).2.2 33) [[105, 109, 97, 103, 101]]) (by simp))
  have h3 := req_ok (firstE_none h (reqE c.req) (by simp))
  have h4 := lim_ok h3 (firstE_none h (limE c.lim c.req) (by simp))
  have h5 := port_ok ha (firstE_none h (portE ps c.ports a) (by simp))
  have h6 := erIn_none (firstE_none h (probeE c.probe b) (by simp))
  have h7 := within_none (firstE_none h6 _ List.mem_cons_self)
  have h8 := within_none (firstE_none h6 _ (List.mem_cons_of_mem _ List.mem_cons_self))
  have h9 := nameV_len h1
  refine ⟨by omega, image_len h2, h3, h4, h5, by omega, ?_⟩
  by_cases hp : c.probe.1 = 0
  · rw [if_pos hp, if_pos hp] at h8; omega
  · rw [if_neg hp, if_neg hp] at h8; omega
theorem ctrs_ok {name : List UInt8} {ns : List (List UInt8)} {ps : List Int} {l : List Ctr} {a b : Int} (ha : a ≤ 3) (hb : b ≤ 1000) (h : ctrsE name ns ps l a b = none) : ∀ x ∈ l, CtrOk x := fun x hx => by
  obtain ⟨j, hj, rfl⟩ := List.mem_iff_getElem.1 hx
  have := erIn_none (eachE_none h j hj)
  rw [ctrAt_at hj] at this
  exact ctr_ok ha hb this
theorem check_ok {s : Spc} (h : checkE s = none) : SpcOk s := by
  obtain ⟨h1, h2, h3⟩ := check_all h
  have n1 := nameV_len (new_none (by decide) (firstE_none h1 _ List.mem_cons_self))
  have n2 := labels_out (firstE_none h1 (labelsE labelsN s.labels) (by simp))
  have n3 := atMost_none (firstE_none h1 (atMostE initN (s.init.length : Int) 0 3) (by simp))
  have n4 := ctrs_ok (by decide) (by decide) (firstE_none h2 (ctrsE initN [] [] s.init 0 0) (by simp))
  have n5 := atMost_none (firstE_none h2 (atMostE mainN (s.main.length : Int) 1 4) (by simp))
  have n6 := ctrs_ok (by decide) (by decide) (firstE_none h3 _ List.mem_cons_self)
  have n7 := within_none (firstE_none h3 (withinE [114, 101, 115, 116, 97, 114, 116] s.restart 1 3) (by simp))
  have n8 := within_none (firstE_none h3 (withinE [103, 114, 97, 99, 101] s.grace 0 1000) (by simp))
  have n9 := within_none (firstE_none h3 (withinE [112, 114, 105, 111] s.prio 0 10) (by simp))
  refine ⟨by omega, ⟨by have := n2.1; omega, fun x hx => ?_⟩, ⟨n3.2, n4⟩, ⟨n5.2, n6⟩, by omega, n8, n9⟩
  have := n2.2.2 x hx
  have k1 := key_short this.1
  have k2 := val_short this.2
  exact ⟨by omega, by omega⟩
/-! How long -/
theorem labB_len {x : Lab} (h1 : x.1.length ≤ 400) (h2 : x.2.length ≤ 400) : (labB x).length ≤ 1000 := by
  have := textB_len (s := x.1) (by omega)
  have := textB_len (s := x.2) (by omega)
  unfold labB; rw [List.length_append]; omega
theorem triB_len {r : Tri} (h : TriOk r) : (triB r).length ≤ 30 := by
  have a := numB_len (n := r.1) (by have := h.1.2; unfold MR at this; omega)
  have b := numB_len (n := r.2.1) (by have := h.2.1.2; unfold MR at this; omega)
  have c := numB_len (n := r.2.2) (by have := h.2.2.2; unfold MR at this; omega)
  unfold triB; rw [List.length_append, List.length_append]; omega
theorem portsB_len {l : List Int} (h : PortsOk l) : (portsB l).length ≤ 40 := by
  have a := flatB_len (e := numB) (B := 10) (l := l) fun x hx => numB_len (by have := (h.2 x hx).2; omega)
  have b := putL_few l.length (by have := h.1; omega)
  have := h.1
  unfold portsB listB; rw [List.length_append]; omega
theorem ctrB_len {c : Ctr} (h : CtrOk c) : (ctrB c).length ≤ 1000 := by
  obtain ⟨h1, h2, h3, h4, h5, h6, h7⟩ := h
  have a := textB_len (s := c.name) (by omega)
  have b := textB_len (s := c.image) (by omega)
  have d := triB_len h3
  have e := triB_len h4
  have f := portsB_len h5
  have g := numB_len (n := c.probe.1) (by omega)
  have k := numB_len (n := c.probe.2) (by omega)
  unfold ctrB
  simp only [List.length_append]; omega
theorem ctrB_assoc (c : Ctr) : (((((textB c.name ++ textB c.image) ++ triB c.req) ++ triB c.lim) ++ listB numB c.ports) ++ numB c.probe.1) ++ numB c.probe.2 = ctrB c := by simp [ctrB, portsB]
theorem spcB_assoc (s : Spc) : (((((textB s.name ++ listB labB s.labels) ++ ([s.init, s.main].flatMap (listB ctrB)))) ++ numB s.restart) ++ numB s.grace) ++ numB s.prio = spcB s := by simp [spcB, labsB, ctrsB]
theorem two_all {p : List Ctr → Prop} {a b : List Ctr} (ha : p a) (hb : p b) : ∀ x ∈ [a, b], p x := fun x hx => by
  simp only [List.mem_cons, List.not_mem_nil, or_false] at hx
  rcases hx with rfl | rfl
  · exact ha
  · exact hb
theorem flatB_next {α : Type} {e : α → List UInt8} {a : List UInt8} {l : List α} {i : Nat} (h : i < l.length) : a ++ (l.take (i + 1)).flatMap e = (a ++ (l.take i).flatMap e) ++ e l[i] := by
  rw [flat_next h, List.append_assoc]
theorem triB_assoc (r : Tri) : (numB r.1 ++ numB r.2.1) ++ numB r.2.2 = triB r := by simp [triB]
theorem listB_next {α : Type} {e : α → List UInt8} {l : List α} {i : Nat} (h : i < l.length) : putL l.length ++ (l.take (i + 1)).flatMap e = (putL l.length ++ (l.take i).flatMap e) ++ e l[i] := by
  rw [flat_next h, List.append_assoc]
theorem listB_len {α : Type} {e : α → List UInt8} {l : List α} {B : Nat} (hl : l.length ≤ 9223372036854775807) (h : ∀ x ∈ l, (e x).length ≤ B) : (listB e l).length ≤ 10 + l.length * B := by
  have a := flatB_len h
  have b := putL_few l.length (by omega)
  unfold listB; rw [List.length_append]; omega
theorem ACalls.preQ {P : Program} {f : FuncId} {args : List AV} {foot pre F : St} {K : AV → St → Prop} (hc : ACalls P f args (foot ++ (pre ++ F)) fun x st' => ∃ foot', K x foot' ∧ st' = foot' ++ (pre ++ F)) : ACalls P f args (pre ++ (foot ++ F)) fun x st' => ∃ foot', K x foot' ∧ st' = pre ++ (foot' ++ F) := by
  have perm : ∀ (a : St), (pre ++ (a ++ F)).Perm (a ++ (pre ++ F)) := fun a => by
    rw [← List.append_assoc, ← List.append_assoc]
    exact List.Perm.append_right F List.perm_append_comm
  refine ⟨hc.enters, fun w vs hrel hs hr => ?_⟩
  have hx : Ext (pre ++ (foot ++ F)) w (foot ++ (pre ++ F)) w := Ext.sub fun p hp => (perm foot).mem_iff.2 hp
  have hrel2 : Rel (foot ++ (pre ++ F)) w := hrel.sub (fun p hp => (perm foot).mem_iff.2 hp) (((perm foot).map (·.1)).nodup_iff.1 hrel.nodup)
  refine (hc.calls w vs hrel2 hs fun i x v h1 h2 => (hr i x v h1 h2).mono hx hrel.nodup).mono ?_
  rintro e w' ⟨r, x, st', he, ⟨foot', hk, rfl⟩, hr', hrel', hext⟩
  have hy : Ext (foot' ++ (pre ++ F)) w' (pre ++ (foot' ++ F)) w' := Ext.sub fun p hp => (perm foot').mem_iff.1 hp
  exact ⟨r, x, _, he, ⟨foot', hk, rfl⟩, hr'.mono hy hrel'.nodup, hrel'.sub (fun p hp => (perm foot').mem_iff.1 hp) (((perm foot').map (·.1)).nodup_iff.2 hrel'.nodup), (hx.trans hext hrel.nodup).trans hy hrel.nodup⟩
end Go.AL

namespace Go.AL
open Go.RowKit Go.NumSpec
def spc0 : Spc := ⟨[], [], [], [], 0, 0, 0⟩
theorem labRd_short (s : List UInt8) (c : Int) : (labRd s c).1.1.length ≤ 33 ∧ (labRd s c).1.2.length ≤ 16 := by
  have h1 := wtextR_short s c (most := 33) (by decide)
  have h2 := wtextR_short (wtextR s c 33).2.1 (wtextR s c 33).2.2 (most := 16) (by decide)
  exact ⟨by show (wtextR s c 33).1.length ≤ 33; omega, by show (wtextR (wtextR s c 33).2.1 (wtextR s c 33).2.2 16).1.length ≤ 16; omega⟩
theorem ctrRd_light (s : List UInt8) (c : Int) : lightC (ctrRd s c).1 = true := by
  have h1 := wtextR_short s c (most := 16) (by decide)
  have h2 := wtextR_short (wtextR s c 16).2.1 (wtextR s c 16).2.2 (most := 33) (by decide)
  have h3 : (((ctrRd s c).1.ports.length : Nat) : Int) ≤ 3 := allR_few (f := numRd 65535) (most := 3) (by decide) _ _
  unfold lightC
  refine decide_eq_true ⟨?_, ?_, by omega⟩
  · show (wtextR s c 16).1.length ≤ 100; omega
  · show (wtextR (wtextR s c 16).2.1 (wtextR s c 16).2.2 33).1.length ≤ 100; omega
theorem allR_all {α : Type} {f : Rd α} {p : α → Prop} (hp : ∀ s c, p (f s c).1) (most : Int) (s : List UInt8) (c : Int) : ∀ x ∈ (allR f most s c).1, p x := takeN_all hp _ _ _
theorem light_inP {s : Spc} (h1 : s.name.length ≤ 100) (h2 : s.labels.length ≤ 10) (h3 : s.init.length ≤ 8) (h4 : s.main.length ≤ 8) (h5 : ∀ x ∈ s.labels, x.1.length ≤ 100 ∧ x.2.length ≤ 100) (h6 : ∀ x ∈ s.init, lightC x = true) (h7 : ∀ x ∈ s.main, lightC x = true) : lightS s = true := by
  unfold lightS
  simp only [Bool.and_eq_true, decide_eq_true_eq, List.all_eq_true]
  exact ⟨⟨⟨h1, h2, h3, h4⟩, fun x hx => by unfold lightL; exact decide_eq_true (h5 x hx)⟩, h6, h7⟩
theorem spcRd_light (s : List UInt8) (c : Int) : lightS (spcRd s c).1 = true := by
  have h1 := wtextR_short s c (most := 16) (by decide)
  have h2 : (((spcRd s c).1.labels.length : Nat) : Int) ≤ 4 := allR_few (f := labRd) (most := 4) (by decide) _ _
  have h3 : (((spcRd s c).1.init.length : Nat) : Int) ≤ 3 := allR_few (f := ctrRd) (most := 3) (by decide) _ _
  have h4 : (((spcRd s c).1.main.length : Nat) : Int) ≤ 4 := allR_few (f := ctrRd) (most := 4) (by decide) _ _
  have h5 : ∀ x ∈ (spcRd s c).1.labels, x.1.length ≤ 33 ∧ x.2.length ≤ 16 := allR_all (f := labRd) labRd_short 4 _ _
  have h6 : ∀ x ∈ (spcRd s c).1.init, lightC x = true := allR_all (f := ctrRd) ctrRd_light 3 _ _
  have h7 : ∀ x ∈ (spcRd s c).1.main, lightC x = true := allR_all (f := ctrRd) ctrRd_light 4 _ _
  refine light_inP ?_ (by omega) (by omega) (by omega) (fun x hx => by have := h5 x hx; omega) h6 h7
  show (wtextR s c 16).1.length ≤ 100; omega
abbrev wireN : List UInt8 := [119, 105, 114, 101]
theorem spc0_light : lightS spc0 = true := by decide
theorem spcB_len {s : Spc} (h : checkE s = none) : (spcB s).length ≤ 20000 := by
  obtain ⟨h1, h2, h3, h4, h5, h6, h7⟩ := check_ok h
  have a1 := textB_len (s := s.name) (by omega)
  have a2 := listB_len (e := labB) (l := s.labels) (B := 1000) (by have := h2.1; omega) fun x hx => labB_len (by have := (h2.2 x hx).1; omega) (by have := (h2.2 x hx).2; omega)
  have a3 := listB_len (e := ctrB) (l := s.init) (B := 1000) (by have := h3.1; omega) fun x hx => ctrB_len (h3.2 x hx)
  have a4 := listB_len (e := ctrB) (l := s.main) (B := 1000) (by have := h4.1; omega) fun x hx => ctrB_len (h4.2 x hx)
  have a5 := numB_len (n := s.restart) (by omega)
  have a6 := numB_len (n := s.grace) (by omega)
  have a7 := numB_len (n := s.prio) (by omega)
  have b1 := h2.1
  have b2 := h3.1
  have b3 := h4.1
  unfold spcB labsB ctrsB
  simp only [List.length_append]; omega
end Go.AL

namespace Go.AL
open Go.RowKit Go.NumSpec
structure Cal where
  kind : Int
  uid : Int
  rev : Nat
  spec : Spc
  grace : Int
  ctr : Int
  id : Int
  most : Int
  data : List UInt8
  sel : List Lab
def calL (c : Cal) : List AV := [.int .i64 c.kind, .int .i64 c.uid, .int .u64 (c.rev : Int)] ++ (spcL c.spec ++ [.int .i64 c.grace, .int .i64 c.ctr, .int .i64 c.id, .int .i64 c.most, .S c.data, .sl (labsV c.sel)])
def calAV (c : Cal) : AV := .agg (calL c)
def cal0 (k : Int) : Cal := ⟨k, 0, 0, spc0, 0, 0, 0, 0, [], []⟩
/-- each kind's name and its fields' letters -/
def kindsT : List (List UInt8 × List UInt8) := [([], []), ([114, 117, 110], [115]), ([117, 112, 100, 97, 116, 101], [117, 114, 115]), ([107, 105, 108, 108], [117, 103]), ([111, 112, 101, 110], [117, 99]), ([119, 114, 105, 116, 101], [105, 100]), ([114, 101, 97, 100], [105, 109]), ([99, 108, 111, 115, 101], [105]), ([115, 116, 97, 116, 115], [117]), ([108, 105, 115, 116], [108]), ([103, 101, 116], [117]), ([119, 97, 116, 99, 104], [114, 108]), ([99, 97, 110, 99, 101, 108], [105])]
def kindsV : List Value := kindsT.flatMap fun x => [.string ⟨x.1.toArray⟩, .string ⟨x.2.toArray⟩]
abbrev kindA (i : Nat) : List UInt8 × List UInt8 := kindsT.getD i ([], [])
/-! Reading -/
def bigRd : Rd Nat := fun s c => bigR s c
theorem bigC : Codec bigRd putL (fun n => n < 18446744073709551616) where
  back x t hx := bigR_put x t hx
  canon s hs := ⟨canon_big hs, bigR_lt s 0⟩
  err s c hc := by unfold bigRd; rw [bigR_err hc]; exact ⟨rfl, rfl⟩
  cut x p hx hp hl := by unfold bigRd; rw [bigR_lack (lacks_cut hx hp hl)]
  len s c := bigR_len s c
def oneR (f : UInt8) (x : Cal) : Rd Cal :=
  if f = 117 then mapR (fun n => { x with uid := n }) (numRd 1073741824) else if f = 114 then mapR (fun n => { x with rev := n }) bigRd else if f = 115 then mapR (fun v => { x with spec := v }) spcRd else if f = 103 then mapR (fun n => { x with grace := n }) (numRd 1000)
  else if f = 99 then mapR (fun n => { x with ctr := n }) (numRd 3) else if f = 105 then mapR (fun n => { x with id := n }) (numRd 1073741824) else if f = 109 then mapR (fun n => { x with most := n }) (numRd 32) else if f = 100 then mapR (fun v => { x with data := v }) (textRd 32) else if f = 108 then mapR (fun v => { x with sel := v }) labsRd else fun s c => (x, s, c)
def rdF : List UInt8 → Cal → Rd Cal
  | [], x, s, c => (x, s, c)
  | f :: fs, x, s, c => rdF fs (oneR f x s c).1 (oneR f x s c).2.1 (oneR f x s c).2.2
def calRd : Rd Cal := fun s c => rdF (kindA (numR s c 12).1.toNat).2 (cal0 (numR s c 12).1) (numR s c 12).2.1 (numR s c 12).2.2
/-! Writing -/
def fieldB (x : Cal) (f : UInt8) : List UInt8 :=
  if f = 117 then numB x.uid else if f = 114 then putL x.rev else if f = 115 then spcB x.spec else if f = 103 then numB x.grace else if f = 99 then numB x.ctr else if f = 105 then numB x.id else if f = 109 then numB x.most else if f = 100 then textB x.data else if f = 108 then labsB x.sel else []
def calB (x : Cal) : List UInt8 := numB x.kind ++ (kindA x.kind.toNat).2.flatMap (fieldB x)
def FieldOk (x : Cal) (f : UInt8) : Prop :=
  if f = 117 then 0 ≤ x.uid ∧ x.uid ≤ 1073741824 else if f = 114 then x.rev < 18446744073709551616 else if f = 115 then SpcOk x.spec else if f = 103 then 0 ≤ x.grace ∧ x.grace ≤ 1000 else if f = 99 then 0 ≤ x.ctr ∧ x.ctr ≤ 3 else if f = 105 then 0 ≤ x.id ∧ x.id ≤ 1073741824 else if f = 109 then 0 ≤ x.most ∧ x.most ≤ 32 else if f = 100 then (x.data.length : Int) ≤ 32 else if f = 108 then LabsOk x.sel else True
/-- what stays of a call, if only some fields are copied -/
def onlyA (fs : List UInt8) (x : Cal) : Cal := ⟨x.kind, if 117 ∈ fs then x.uid else 0, if 114 ∈ fs then x.rev else 0, if 115 ∈ fs then x.spec else spc0, if 103 ∈ fs then x.grace else 0, if 99 ∈ fs then x.ctr else 0, if 105 ∈ fs then x.id else 0, if 109 ∈ fs then x.most else 0, if 100 ∈ fs then x.data else [], if 108 ∈ fs then x.sel else []⟩
def KindOk (x : Cal) : Prop := 1 ≤ x.kind ∧ x.kind ≤ 12
def CalOk (x : Cal) : Prop := KindOk x ∧ (∀ f ∈ (kindA x.kind.toNat).2, FieldOk x f) ∧ onlyA (kindA x.kind.toNat).2 x = x
theorem mapC2 {α β : Type} {h : α → β} {k : β → α} {f : Rd α} {e : α → List UInt8} {ok : α → Prop} (hkh : ∀ x, k (h x) = x) (hf : Codec f e ok) : Codec (mapR h f) (fun y => e (k y)) (fun y => ok (k y) ∧ h (k y) = y) where
  back x t hx := by unfold mapR; rw [hf.back (k x) t hx.1]; dsimp only; rw [hx.2]
  canon s hs := by
    unfold mapR; dsimp only; rw [hkh]
    exact ⟨(hf.canon s hs).1, (hf.canon s hs).2, rfl⟩
  err s c hc := hf.err s c hc
  cut x p hx hp hl := hf.cut (k x) p hx.1 hp hl
  len s c := hf.len s c
abbrev uC := numC (most := 1073741824) (by decide) (by decide)
theorem Codec.of {α : Type} {f g : Rd α} {e d : α → List UInt8} {ok ok' : α → Prop} (h : Codec f e ok) (hf : g = f) (he : ∀ x, ok' x → ok x ∧ d x = e x) (hb : ∀ x, ok x → ok' x) : Codec g d ok' where
  back x t hx := by rw [hf, (he x hx).2]; exact h.back x t (he x hx).1
  canon s hs := by
    rw [hf] at hs ⊢
    obtain ⟨h1, h2⟩ := h.canon s hs
    have h3 := hb _ h2
    exact ⟨by rw [(he _ h3).2]; exact h1, h3⟩
  err s c hc := by rw [hf]; exact h.err s c hc
  cut x p hx hp hl := by
    rw [hf]
    rw [(he x hx).2] at hp hl
    exact h.cut x p (he x hx).1 hp hl
  len s c := by rw [hf]; exact h.len s c
/-- the fields of one kind -/
def KOk (k : Int) (x : Cal) : Prop := x.kind = k ∧ (∀ f ∈ (kindA k.toNat).2, FieldOk x f) ∧ onlyA (kindA k.toNat).2 x = x
def KB (k : Int) (x : Cal) : List UInt8 := (kindA k.toNat).2.flatMap (fieldB x)
def KR (k : Int) : Rd Cal := rdF (kindA k.toNat).2 (cal0 k)
theorem cal_ext {a b : Cal} (h1 : a.kind = b.kind) (h2 : a.uid = b.uid) (h3 : a.rev = b.rev) (h4 : a.spec = b.spec) (h5 : a.grace = b.grace) (h6 : a.ctr = b.ctr) (h7 : a.id = b.id) (h8 : a.most = b.most) (h9 : a.data = b.data) (h10 : a.sel = b.sel) : a = b := by
  cases a; cases b; simp only at *; subst h1 h2 h3 h4 h5 h6 h7 h8 h9 h10; rfl
theorem kF1 : (kindA (1 : Int).toNat).2 = [115] := rfl
theorem kC1 : Codec (KR 1) (KB 1) (KOk 1) := (mapC2 (h := fun v => { cal0 1 with spec := v }) (k := fun x => x.spec) (fun _ => rfl) spcC).of rfl
  (fun x hx => by
    obtain ⟨h1, h2, h3⟩ := hx
    rw [kF1] at h2 h3
    refine ⟨⟨h2 115 (by decide), ?_⟩, by unfold KB; rw [kF1]; simp [fieldB]⟩
    conv => rhs; rw [← h3]
    unfold onlyA; rw [h1]; rfl)
  (fun x hx => by
    obtain ⟨h1, h2⟩ := hx
    refine ⟨by rw [← h2]; rfl, fun f hf => ?_, by rw [kF1, ← h2]; rfl⟩
    rw [kF1] at hf
    simp only [List.mem_cons, List.not_mem_nil, or_false] at hf
    rcases hf with rfl
    · exact h1)
theorem kF2 : (kindA (2 : Int).toNat).2 = [117, 114, 115] := rfl
theorem kC2 : Codec (KR 2) (KB 2) (KOk 2) := (mapC2 (h := fun v => { cal0 2 with uid := v.1, rev := v.2.1, spec := v.2.2 }) (k := fun x => (x.uid, (x.rev, x.spec))) (fun _ => rfl) (seqC uC (seqC bigC spcC))).of rfl
  (fun x hx => by
    obtain ⟨h1, h2, h3⟩ := hx
    rw [kF2] at h2 h3
    refine ⟨⟨⟨h2 117 (by decide), h2 114 (by decide), h2 115 (by decide)⟩, ?_⟩, by unfold KB; rw [kF2]; simp [fieldB]⟩
    conv => rhs; rw [← h3]
    unfold onlyA; rw [h1]; rfl)
  (fun x hx => by
    obtain ⟨h1, h2⟩ := hx
    refine ⟨by rw [← h2]; rfl, fun f hf => ?_, by rw [kF2, ← h2]; rfl⟩
    rw [kF2] at hf
    simp only [List.mem_cons, List.not_mem_nil, or_false] at hf
    rcases hf with rfl | rfl | rfl
    · exact h1.1
    · exact h1.2.1
    · exact h1.2.2)
theorem kF3 : (kindA (3 : Int).toNat).2 = [117, 103] := rfl
theorem kC3 : Codec (KR 3) (KB 3) (KOk 3) := (mapC2 (h := fun v => { cal0 3 with uid := v.1, grace := v.2 }) (k := fun x => (x.uid, x.grace)) (fun _ => rfl) (seqC uC (numC (most := 1000) (by decide) (by decide)))).of rfl
  (fun x hx => by
    obtain ⟨h1, h2, h3⟩ := hx
    rw [kF3] at h2 h3
    refine ⟨⟨⟨h2 117 (by decide), h2 103 (by decide)⟩, ?_⟩, by unfold KB; rw [kF3]; simp [fieldB]⟩
    conv => rhs; rw [← h3]
    unfold onlyA; rw [h1]; rfl)
  (fun x hx => by
    obtain ⟨h1, h2⟩ := hx
    refine ⟨by rw [← h2]; rfl, fun f hf => ?_, by rw [kF3, ← h2]; rfl⟩
    rw [kF3] at hf
    simp only [List.mem_cons, List.not_mem_nil, or_false] at hf
    rcases hf with rfl | rfl
    · exact h1.1
    · exact h1.2)
theorem kF4 : (kindA (4 : Int).toNat).2 = [117, 99] := rfl
theorem kC4 : Codec (KR 4) (KB 4) (KOk 4) := (mapC2 (h := fun v => { cal0 4 with uid := v.1, ctr := v.2 }) (k := fun x => (x.uid, x.ctr)) (fun _ => rfl) (seqC uC (numC (most := 3) (by decide) (by decide)))).of rfl
  (fun x hx => by
    obtain ⟨h1, h2, h3⟩ := hx
    rw [kF4] at h2 h3
    refine ⟨⟨⟨h2 117 (by decide), h2 99 (by decide)⟩, ?_⟩, by unfold KB; rw [kF4]; simp [fieldB]⟩
    conv => rhs; rw [← h3]
    unfold onlyA; rw [h1]; rfl)
  (fun x hx => by
    obtain ⟨h1, h2⟩ := hx
    refine ⟨by rw [← h2]; rfl, fun f hf => ?_, by rw [kF4, ← h2]; rfl⟩
    rw [kF4] at hf
    simp only [List.mem_cons, List.not_mem_nil, or_false] at hf
    rcases hf with rfl | rfl
    · exact h1.1
    · exact h1.2)
theorem kF5 : (kindA (5 : Int).toNat).2 = [105, 100] := rfl
theorem kC5 : Codec (KR 5) (KB 5) (KOk 5) := (mapC2 (h := fun v => { cal0 5 with id := v.1, data := v.2 }) (k := fun x => (x.id, x.data)) (fun _ => rfl) (seqC uC (textC (most := 32) (by decide) (by decide)))).of rfl
  (fun x hx => by
    obtain ⟨h1, h2, h3⟩ := hx
    rw [kF5] at h2 h3
    refine ⟨⟨⟨h2 105 (by decide), h2 100 (by decide)⟩, ?_⟩, by unfold KB; rw [kF5]; simp [fieldB]⟩
    conv => rhs; rw [← h3]
    unfold onlyA; rw [h1]; rfl)
  (fun x hx => by
    obtain ⟨h1, h2⟩ := hx
    refine ⟨by rw [← h2]; rfl, fun f hf => ?_, by rw [kF5, ← h2]; rfl⟩
    rw [kF5] at hf
    simp only [List.mem_cons, List.not_mem_nil, or_false] at hf
    rcases hf with rfl | rfl
    · exact h1.1
    · exact h1.2)
theorem kF6 : (kindA (6 : Int).toNat).2 = [105, 109] := rfl
theorem kC6 : Codec (KR 6) (KB 6) (KOk 6) := (mapC2 (h := fun v => { cal0 6 with id := v.1, most := v.2 }) (k := fun x => (x.id, x.most)) (fun _ => rfl) (seqC uC (numC (most := 32) (by decide) (by decide)))).of rfl
  (fun x hx => by
    obtain ⟨h1, h2, h3⟩ := hx
    rw [kF6] at h2 h3
    refine ⟨⟨⟨h2 105 (by decide), h2 109 (by decide)⟩, ?_⟩, by unfold KB; rw [kF6]; simp [fieldB]⟩
    conv => rhs; rw [← h3]
    unfold onlyA; rw [h1]; rfl)
  (fun x hx => by
    obtain ⟨h1, h2⟩ := hx
    refine ⟨by rw [← h2]; rfl, fun f hf => ?_, by rw [kF6, ← h2]; rfl⟩
    rw [kF6] at hf
    simp only [List.mem_cons, List.not_mem_nil, or_false] at hf
    rcases hf with rfl | rfl
    · exact h1.1
    · exact h1.2)
theorem kF7 : (kindA (7 : Int).toNat).2 = [105] := rfl
theorem kC7 : Codec (KR 7) (KB 7) (KOk 7) := (mapC2 (h := fun v => { cal0 7 with id := v }) (k := fun x => x.id) (fun _ => rfl) uC).of rfl
  (fun x hx => by
    obtain ⟨h1, h2, h3⟩ := hx
    rw [kF7] at h2 h3
    refine ⟨⟨h2 105 (by decide), ?_⟩, by unfold KB; rw [kF7]; simp [fieldB]⟩
    conv => rhs; rw [← h3]
    unfold onlyA; rw [h1]; rfl)
  (fun x hx => by
    obtain ⟨h1, h2⟩ := hx
    refine ⟨by rw [← h2]; rfl, fun f hf => ?_, by rw [kF7, ← h2]; rfl⟩
    rw [kF7] at hf
    simp only [List.mem_cons, List.not_mem_nil, or_false] at hf
    rcases hf with rfl
    · exact h1)
theorem kF8 : (kindA (8 : Int).toNat).2 = [117] := rfl
theorem kC8 : Codec (KR 8) (KB 8) (KOk 8) := (mapC2 (h := fun v => { cal0 8 with uid := v }) (k := fun x => x.uid) (fun _ => rfl) uC).of rfl
  (fun x hx => by
    obtain ⟨h1, h2, h3⟩ := hx
    rw [kF8] at h2 h3
    refine ⟨⟨h2 117 (by decide), ?_⟩, by unfold KB; rw [kF8]; simp [fieldB]⟩
    conv => rhs; rw [← h3]
    unfold onlyA; rw [h1]; rfl)
  (fun x hx => by
    obtain ⟨h1, h2⟩ := hx
    refine ⟨by rw [← h2]; rfl, fun f hf => ?_, by rw [kF8, ← h2]; rfl⟩
    rw [kF8] at hf
    simp only [List.mem_cons, List.not_mem_nil, or_false] at hf
    rcases hf with rfl
    · exact h1)
theorem kF9 : (kindA (9 : Int).toNat).2 = [108] := rfl
theorem kC9 : Codec (KR 9) (KB 9) (KOk 9) := (mapC2 (h := fun v => { cal0 9 with sel := v }) (k := fun x => x.sel) (fun _ => rfl) labsC).of rfl
  (fun x hx => by
    obtain ⟨h1, h2, h3⟩ := hx
    rw [kF9] at h2 h3
    refine ⟨⟨h2 108 (by decide), ?_⟩, by unfold KB; rw [kF9]; simp [fieldB]⟩
    conv => rhs; rw [← h3]
    unfold onlyA; rw [h1]; rfl)
  (fun x hx => by
    obtain ⟨h1, h2⟩ := hx
    refine ⟨by rw [← h2]; rfl, fun f hf => ?_, by rw [kF9, ← h2]; rfl⟩
    rw [kF9] at hf
    simp only [List.mem_cons, List.not_mem_nil, or_false] at hf
    rcases hf with rfl
    · exact h1)
theorem kF10 : (kindA (10 : Int).toNat).2 = [117] := rfl
theorem kC10 : Codec (KR 10) (KB 10) (KOk 10) := (mapC2 (h := fun v => { cal0 10 with uid := v }) (k := fun x => x.uid) (fun _ => rfl) uC).of rfl
  (fun x hx => by
    obtain ⟨h1, h2, h3⟩ := hx
    rw [kF10] at h2 h3
    refine ⟨⟨h2 117 (by decide), ?_⟩, by unfold KB; rw [kF10]; simp [fieldB]⟩
    conv => rhs; rw [← h3]
    unfold onlyA; rw [h1]; rfl)
  (fun x hx => by
    obtain ⟨h1, h2⟩ := hx
    refine ⟨by rw [← h2]; rfl, fun f hf => ?_, by rw [kF10, ← h2]; rfl⟩
    rw [kF10] at hf
    simp only [List.mem_cons, List.not_mem_nil, or_false] at hf
    rcases hf with rfl
    · exact h1)
theorem kF11 : (kindA (11 : Int).toNat).2 = [114, 108] := rfl
theorem kC11 : Codec (KR 11) (KB 11) (KOk 11) := (mapC2 (h := fun v => { cal0 11 with rev := v.1, sel := v.2 }) (k := fun x => (x.rev, x.sel)) (fun _ => rfl) (seqC bigC labsC)).of rfl
  (fun x hx => by
    obtain ⟨h1, h2, h3⟩ := hx
    rw [kF11] at h2 h3
    refine ⟨⟨⟨h2 114 (by decide), h2 108 (by decide)⟩, ?_⟩, by unfold KB; rw [kF11]; simp [fieldB]⟩
    conv => rhs; rw [← h3]
    unfold onlyA; rw [h1]; rfl)
  (fun x hx => by
    obtain ⟨h1, h2⟩ := hx
    refine ⟨by rw [← h2]; rfl, fun f hf => ?_, by rw [kF11, ← h2]; rfl⟩
    rw [kF11] at hf
    simp only [List.mem_cons, List.not_mem_nil, or_false] at hf
    rcases hf with rfl | rfl
    · exact h1.1
    · exact h1.2)
theorem kF12 : (kindA (12 : Int).toNat).2 = [105] := rfl
theorem kC12 : Codec (KR 12) (KB 12) (KOk 12) := (mapC2 (h := fun v => { cal0 12 with id := v }) (k := fun x => x.id) (fun _ => rfl) uC).of rfl
  (fun x hx => by
    obtain ⟨h1, h2, h3⟩ := hx
    rw [kF12] at h2 h3
    refine ⟨⟨h2 105 (by decide), ?_⟩, by unfold KB; rw [kF12]; simp [fieldB]⟩
    conv => rhs; rw [← h3]
    unfold onlyA; rw [h1]; rfl)
  (fun x hx => by
    obtain ⟨h1, h2⟩ := hx
    refine ⟨by rw [← h2]; rfl, fun f hf => ?_, by rw [kF12, ← h2]; rfl⟩
    rw [kF12] at hf
    simp only [List.mem_cons, List.not_mem_nil, or_false] at hf
    rcases hf with rfl
    · exact h1)
theorem kC {k : Int} (h1 : 1 ≤ k) (h2 : k ≤ 12) : Codec (KR k) (KB k) (KOk k) := by
  have h : k = 1 ∨ k = 2 ∨ k = 3 ∨ k = 4 ∨ k = 5 ∨ k = 6 ∨ k = 7 ∨ k = 8 ∨ k = 9 ∨ k = 10 ∨ k = 11 ∨ k = 12 := by omega
  rcases h with rfl | rfl | rfl | rfl | rfl | rfl | rfl | rfl | rfl | rfl | rfl | rfl
  · exact kC1
  · exact kC2
  · exact kC3
  · exact kC4
  · exact kC5
  · exact kC6
  · exact kC7
  · exact kC8
  · exact kC9
  · exact kC10
  · exact kC11
  · exact kC12
theorem cal_ok {x : Cal} (h : CalOk x) : KOk x.kind x := ⟨rfl, h.2.1, h.2.2⟩
theorem cal_back {x : Cal} (h : CalOk x) (t : List UInt8) : calRd (calB x ++ t) 0 = (x, t, 0) := by
  have h1 := (numC (most := 12) (by decide) (by decide)).back x.kind (KB x.kind x ++ t) ⟨by have := h.1.1; omega, h.1.2⟩
  have h2 := (kC h.1.1 h.1.2).back x t (cal_ok h)
  have h1' : numR (calB x ++ t) 0 12 = (x.kind, KB x.kind x ++ t, 0) := by
    unfold calB; rw [List.append_assoc]; exact h1
  unfold calRd
  rw [h1']
  exact h2
/-! What may be -/
abbrev kindN : List UInt8 := [107, 105, 110, 100]
abbrev callN : List UInt8 := [99, 97, 108, 108]
def fieldE (x : Cal) (f : UInt8) : Er :=
  if f = 117 then withinE [117, 105, 100] x.uid 1 1073741824 else if f = 115 then erIn (checkE x.spec) [115, 112, 101, 99] else if f = 103 then withinE [103, 114, 97, 99, 101] x.grace 0 1000 else if f = 99 then withinE [99, 116, 114] x.ctr 0 3 else if f = 105 then withinE [105, 100] x.id 1 1073741824 else if f = 109 then withinE [109, 111, 115, 116] x.most 1 32
  else if f = 108 then labelsE [115, 101, 108] x.sel else if f = 100 then (if 32 < (x.data.length : Int) then some (2, [[100, 97, 116, 97]]) else none) else none
def cleanB (o x : Cal) : Bool := (decide (o.uid = x.uid) && decide (o.rev = x.rev) && decide (o.grace = x.grace) && decide (o.ctr = x.ctr) && decide (o.id = x.id) && decide (o.most = x.most)) && (decide (o.data = x.data) && (decide (o.sel.length = x.sel.length) && sameS o.spec x.spec))
def checkA (x : Cal) : Er := if x.kind < 1 ∨ 12 < x.kind then some (80, [kindN]) else match firstE ((kindA x.kind.toNat).2.map (fieldE x)) with | some e => some e | none => if cleanB (onlyA (kindA x.kind.toNat).2 x) x = true then none else some (4, [callN])
theorem clean_iff {fs : List UInt8} {x : Cal} : cleanB (onlyA fs x) x = true ↔ onlyA fs x = x := by
  unfold cleanB
  simp only [Bool.and_eq_true, decide_eq_true_eq, sameS_iff]
  constructor
  · rintro ⟨⟨⟨⟨⟨⟨h1, h2⟩, h3⟩, h4⟩, h5⟩, h6⟩, h7, h8, h9⟩
    refine cal_ext rfl h1 h2 h9 h3 h4 h5 h6 h7 ?_
    show (if 108 ∈ fs then x.sel else []) = x.sel
    have h8' : (if 108 ∈ fs then x.sel else []).length = x.sel.length := h8
    split
    · rfl
    · rename_i hn
      rw [if_neg hn] at h8'
      exact (List.eq_nil_of_length_eq_zero h8'.symm).symm
  · intro h
    rw [h]; simp
theorem field_ok {x : Cal} {f : UInt8} (hu : x.rev < 18446744073709551616) (h : fieldE x f = none) : FieldOk x f := by
  unfold fieldE at h; unfold FieldOk
  split at h
  · rename_i hf; rw [if_pos hf]; have := within_none h; omega
  · rename_i h117; rw [if_neg h117]
    split
    · exact hu
    · split at h
      · rename_i hf; rw [if_pos hf]; exact check_ok (erIn_none h)
      · rename_i h115; rw [if_neg h115]
        split at h
        · rename_i hf; rw [if_pos hf]; have := within_none h; omega
        · rename_i h103; rw [if_neg h103]
          split at h
          · rename_i hf; rw [if_pos hf]; have := within_none h; omega
          · rename_i h99; rw [if_neg h99]
            split at h
            · rename_i hf; rw [if_pos hf]; have := within_none h; omega
            · rename_i h105; rw [if_neg h105]
              split at h
              · rename_i hf; rw [if_pos hf]; have := within_none h; omega
              · rename_i h109; rw [if_neg h109]
                split
                · rename_i hf
                  subst hf
                  rw [if_neg (by decide), if_pos rfl] at h
                  split at h
                  · cases h
                  · omega
                · split
                  · rename_i hf
                    rw [if_pos hf] at h
                    have hl := labels_out h
                    refine ⟨by have := hl.1; omega, fun y hy => ?_⟩
                    have h9 := hl.2.2 y hy
                    have k1 := key_short h9.1
                    have k2 := val_short h9.2
                    exact ⟨by omega, by omega⟩
                  · trivial
theorem checkA_ok {x : Cal} (hu : x.rev < 18446744073709551616) (h : checkA x = none) : CalOk x ∧ ∀ f ∈ (kindA x.kind.toNat).2, fieldE x f = none := by
  unfold checkA at h
  split at h
  · cases h
  · rename_i hk
    split at h
    · cases h
    · rename_i hf
      split at h
      · rename_i hc
        have hall : ∀ f ∈ (kindA x.kind.toNat).2, fieldE x f = none := fun f hm => firstE_none hf _ (List.mem_map.2 ⟨f, hm, rfl⟩)
        exact ⟨⟨⟨by omega, by omega⟩, fun f hm => field_ok hu (hall f hm), clean_iff.1 hc⟩, hall⟩
      · cases h
/-- the call of bytes, or the error -/
def wireA (s : List UInt8) : Er := if (calRd s 0).2.2 = 0 ∧ 0 < (calRd s 0).1.kind then erNew (endR (calRd s 0).2.1 (calRd s 0).2.2) [wireN] else erNew (calRd s 0).2.2 [wireN]
def ofAE (s : List UInt8) : Er := firstE [wireA s, checkA (calRd s 0).1]
def ofA (s : List UInt8) : Cal := if ofAE s = none then (calRd s 0).1 else cal0 0
theorem firstE_two {a b : Er} : firstE [a, b] = none ↔ a = none ∧ b = none := by cases a <;> cases b <;> simp [firstE]
theorem ofA_some {s : List UInt8} (h : ofAE s ≠ none) : ofA s = cal0 0 := by unfold ofA; rw [if_neg h]
theorem askOf_bytes {x : Cal} (hu : x.rev < 18446744073709551616) (h : checkA x = none) : ofAE (calB x) = none ∧ ofA (calB x) = x := by
  have hc := (checkA_ok hu h).1
  have h1 := cal_back hc []
  rw [List.append_nil] at h1
  have h2 : ofAE (calB x) = none := by
    refine firstE_two.2 ⟨?_, by rw [h1]; exact h⟩
    unfold wireA; rw [h1]; dsimp only
    rw [if_pos ⟨rfl, by have := hc.1.1; omega⟩]; rfl
  exact ⟨h2, by unfold ofA; rw [if_pos h2, h1]⟩
/-! The walks' steps -/
def copyA (f : UInt8) (o x : Cal) : Cal :=
  if f = 117 then { o with uid := x.uid } else if f = 114 then { o with rev := x.rev } else if f = 115 then { o with spec := x.spec } else if f = 103 then { o with grace := x.grace } else if f = 99 then { o with ctr := x.ctr } else if f = 105 then { o with id := x.id } else if f = 109 then { o with most := x.most } else if f = 108 then { o with sel := x.sel } else if f = 100 then { o with data := x.data } else o
theorem copy_uid (f : UInt8) (o x : Cal) : (copyA f o x).uid = if f = 117 then x.uid else o.uid := by
  by_cases hf : f = 117
  · subst hf; rfl
  · rw [if_neg hf]; unfold copyA
    repeat (first | rfl | (split; first | rfl | (rename_i h9; exact absurd h9 hf)))
theorem copy_rev (f : UInt8) (o x : Cal) : (copyA f o x).rev = if f = 114 then x.rev else o.rev := by
  by_cases hf : f = 114
  · subst hf; rfl
  · rw [if_neg hf]; unfold copyA
    repeat (first | rfl | (split; first | rfl | (rename_i h9; exact absurd h9 hf)))
theorem copy_spec (f : UInt8) (o x : Cal) : (copyA f o x).spec = if f = 115 then x.spec else o.spec := by
  by_cases hf : f = 115
  · subst hf; rfl
  · rw [if_neg hf]; unfold copyA
    repeat (first | rfl | (split; first | rfl | (rename_i h9; exact absurd h9 hf)))
theorem copy_grace (f : UInt8) (o x : Cal) : (copyA f o x).grace = if f = 103 then x.grace else o.grace := by
  by_cases hf : f = 103
  · subst hf; rfl
  · rw [if_neg hf]; unfold copyA
    repeat (first | rfl | (split; first | rfl | (rename_i h9; exact absurd h9 hf)))
theorem copy_ctr (f : UInt8) (o x : Cal) : (copyA f o x).ctr = if f = 99 then x.ctr else o.ctr := by
  by_cases hf : f = 99
  · subst hf; rfl
  · rw [if_neg hf]; unfold copyA
    repeat (first | rfl | (split; first | rfl | (rename_i h9; exact absurd h9 hf)))
theorem copy_id (f : UInt8) (o x : Cal) : (copyA f o x).id = if f = 105 then x.id else o.id := by
  by_cases hf : f = 105
  · subst hf; rfl
  · rw [if_neg hf]; unfold copyA
    repeat (first | rfl | (split; first | rfl | (rename_i h9; exact absurd h9 hf)))
theorem copy_most (f : UInt8) (o x : Cal) : (copyA f o x).most = if f = 109 then x.most else o.most := by
  by_cases hf : f = 109
  · subst hf; rfl
  · rw [if_neg hf]; unfold copyA
    repeat (first | rfl | (split; first | rfl | (rename_i h9; exact absurd h9 hf)))
theorem copy_data (f : UInt8) (o x : Cal) : (copyA f o x).data = if f = 100 then x.data else o.data := by
  by_cases hf : f = 100
  · subst hf; rfl
  · rw [if_neg hf]; unfold copyA
    repeat (first | rfl | (split; first | rfl | (rename_i h9; exact absurd h9 hf)))
theorem copy_sel (f : UInt8) (o x : Cal) : (copyA f o x).sel = if f = 108 then x.sel else o.sel := by
  by_cases hf : f = 108
  · subst hf; rfl
  · rw [if_neg hf]; unfold copyA
    repeat (first | rfl | (split; first | rfl | (rename_i h9; exact absurd h9 hf)))
theorem copy_kind (f : UInt8) (o x : Cal) : (copyA f o x).kind = o.kind := by
  unfold copyA
  repeat (first | rfl | (split; first | rfl | skip))
theorem pick_next {α : Type} {l : List UInt8} {f L : UInt8} {v z : α} : (if L ∈ l ++ [f] then v else z) = (if f = L then v else (if L ∈ l then v else z)) := by
  by_cases hf : f = L
  · subst hf; rw [if_pos rfl, if_pos (by simp)]
  · rw [if_neg hf]
    by_cases hl : L ∈ l
    · rw [if_pos hl, if_pos (by simp [hl])]
    · rw [if_neg hl, if_neg (by simp only [List.mem_append, List.mem_singleton]; rintro (k | k); exact hl k; exact hf k.symm)]
theorem only_next {fs : List UInt8} {x : Cal} {i : Nat} (h : i < fs.length) : onlyA (fs.take (i + 1)) x = copyA fs[i] (onlyA (fs.take i) x) x := by
  rw [List.take_succ_eq_append_getElem h]
  refine cal_ext (by rw [copy_kind]; rfl) (by rw [copy_uid]; exact pick_next) (by rw [copy_rev]; exact pick_next) (by rw [copy_spec]; exact pick_next) (by rw [copy_grace]; exact pick_next) (by rw [copy_ctr]; exact pick_next) (by rw [copy_id]; exact pick_next) (by rw [copy_most]; exact pick_next) (by rw [copy_data]; exact pick_next) (by rw [copy_sel]; exact pick_next)
theorem kindsT_len : kindsT.length = 13 := rfl
theorem kind_at {i : Nat} (h : i < 13) : kindsV[2 * i]? = some (.string ⟨(kindA i).1.toArray⟩) ∧ kindsV[2 * i + 1]? = some (.string ⟨(kindA i).2.toArray⟩) := by
  match i, h with
  | 0, _ => exact ⟨rfl, rfl⟩
  | 1, _ => exact ⟨rfl, rfl⟩
  | 2, _ => exact ⟨rfl, rfl⟩
  | 3, _ => exact ⟨rfl, rfl⟩
  | 4, _ => exact ⟨rfl, rfl⟩
  | 5, _ => exact ⟨rfl, rfl⟩
  | 6, _ => exact ⟨rfl, rfl⟩
  | 7, _ => exact ⟨rfl, rfl⟩
  | 8, _ => exact ⟨rfl, rfl⟩
  | 9, _ => exact ⟨rfl, rfl⟩
  | 10, _ => exact ⟨rfl, rfl⟩
  | 11, _ => exact ⟨rfl, rfl⟩
  | 12, _ => exact ⟨rfl, rfl⟩
  | k + 13, h => omega
theorem kind_row {v : Int} (h0 : 0 ≤ v) (h : v < 13) : ((kindsV.drop (0 + v.toNat * 2)).take 2).map AV.lit = [.S (kindA v.toNat).1, .S (kindA v.toNat).2] := by
  have : ∀ i, i < 13 → ((kindsV.drop (0 + i * 2)).take 2).map AV.lit = [.S (kindA i).1, .S (kindA i).2] := fun i hi => match i, hi with
    | 0, _ => rfl
    | 1, _ => rfl
    | 2, _ => rfl
    | 3, _ => rfl
    | 4, _ => rfl
    | 5, _ => rfl
    | 6, _ => rfl
    | 7, _ => rfl
    | 8, _ => rfl
    | 9, _ => rfl
    | 10, _ => rfl
    | 11, _ => rfl
    | 12, _ => rfl
    | k + 13, h => absurd h (by omega)
  exact this _ (by omega)
theorem fields_few (i : Nat) : (kindA i).2.length ≤ 3 := by
  rcases Nat.lt_or_ge i 13 with h | h
  · have : ∀ j, j < 13 → (kindA j).2.length ≤ 3 := by decide
    exact this i h
  · unfold kindA
    rw [List.getD_eq_getElem?_getD, List.getElem?_eq_none (by rw [kindsT_len]; omega)]; decide
end Go.AL

namespace Go.AL
open Go.RowKit
section
variable {P : Program} {N : Nat} {env : Env} {st : St} {o : Oper}
/-- A function's value: what it is, and what it holds. -/
abbrev AV.fn (f : FuncId) (caps : List Value) : AV := .lit (.func (.func f) #[] caps.toArray)
theorem AEv.fn (f : FuncId) : AEv env (.func f) (.fn f []) := AEv.func f
theorem S_makeFunc {f : FuncId} {xs : List Operand} {caps : List Value} (ho : o.op = .makeFunc (.func f) #[] xs.toArray) (hc : AEvs env xs (caps.map .lit)) : PStep P N o env st (.fn f caps) :=
  .of_val fun a w hg => by
    obtain ⟨hl, hr⟩ := hc.at_ hg
    have e : xs.map a.eval = caps := by
      refine List.ext_getElem? fun i => ?_
      simp only [List.getElem?_map]
      have hl' : caps.length = xs.length := by simpa using hl.symm
      cases hx : xs[i]? with
      | none =>
        have : xs.length ≤ i := by simpa using hx
        simp; omega
      | some x =>
        have hi : i < caps.length := by have := (List.getElem?_eq_some_iff.1 hx).1; omega
        have := hr i (.lit caps[i]) x (by simp [hi]) hx
        have := this.lit_inv
        simp [hi, this]
    refine ⟨.func (.func f) #[] caps.toArray, ?_, .lit _⟩
    simp [execOp, ho, Instr.makeFunc, e]

theorem S_callF {f : FuncId} {x : Operand} {caps : List Value} {xs : List Operand} {ts : Array TypeId} {args : List AV} {K : AV → St → Prop} (ho : o.op = .call { callee := .value x, args := xs.toArray, argTypes := ts }) (hx : AEv env x (.fn f caps)) (hargs : AEvs env xs args) (hc : ACalls P f (args ++ caps.map .lit) st K) : Step P N o env st K := by
  intro a w hg next Q hn
  obtain ⟨hl, hr⟩ := hargs.at_ hg
  have hf := (hx _ _ _ _ hg).lit_inv
  have hrun : (execOp a.eval o).run P w = .ok (.enter f ((xs.map a.eval) ++ caps).toArray) w := by
    simp [execOp, ho, resolve, Deferred.ofValue, hf, invoke, run_callFunc' hc.enters]
  unfold Oper.wp
  rw [hrun]
  have hl2 : args.length = xs.length := hl.symm
  refine (hc.calls w _ hg.rel (by simp [hl2]) fun i y v hy hv => ?_).mono ?_
  · simp only [List.getElem?_toArray] at hv
    rcases Nat.lt_or_ge i args.length with hi | hi
    · rw [List.getElem?_append_left hi] at hy
      rw [List.getElem?_append_left (by simp; omega)] at hv
      simp at hv
      obtain ⟨u, hu, rfl⟩ := hv
      exact hr i y u hy hu
    · rw [List.getElem?_append_right hi] at hy
      rw [List.getElem?_append_right (by simp; omega)] at hv
      simp only [List.length_map] at hv
      rw [← hl2] at hv
      simp only [List.getElem?_map, hv, Option.map_some, Option.some.injEq] at hy
      subst hy
      exact .lit v
  · rintro e w' ⟨r, y, st', rfl, k, h1, h2, h3⟩
    exact hn y st' r w' k h1 h2 h3
end
end Go.AL

namespace Go.AL
open Go.RowKit
section
variable {P : Program} {N : Nat} {env : Env} {st : St} {o : Oper} {w : World}
theorem S_loadKs {t : TypeId} {x : Operand} {b off m : Nat} {vs : List Value} (ho : o.op = .load t x) (hx : AEv env x (.ptr b off)) (hst : (b, Ob.konst vs) ∈ st) (ht : rowT P t m = true) (hm : off + m ≤ vs.length) : PStep P N o env st (.agg (((vs.drop off).take m).map AV.lit)) :=
  .of_val fun a w hg => by
    obtain ⟨d, hu, hd, hi⟩ := rowT_spec ht
    have e := eval_ptr hx hg
    have hlen : ((vs.drop off).take m).length = m := by simp; omega
    refine ⟨.agg ((vs.drop off).take m).toArray, ?_, .agg _ _ (by simp) fun i c v hc hv => ?_⟩
    · have hr : w.rangeAt b off ((vs.drop off).take m) := fun j v hv => by
        have hj : j < m := by have := (List.getElem?_eq_some_iff.1 hv).1; omega
        rw [List.getElem?_take_of_lt hj, List.getElem?_drop] at hv
        exact (hg.rel.konst b vs hst).2 _ _ hv
      simp only [execOp, ho, e, Sem.run_bind, run_loadAt_mid (P := P) w b off t _ d hr hu hd (by rw [hi, hlen]), Result.andThen_ok, Sem.run_pure]
    · rw [List.getElem?_toArray] at hv
      rw [List.getElem?_map, hv] at hc
      rw [← Option.some.inj hc]
      exact .lit _
/-- .. an element of one cell of an array that is a value -/
theorem S_idxOne {t e : TypeId} {len : Nat} {x y : Operand} {cs : List AV} {c : AV} {k : IntKind} {i : Int} (ho : o.op = .index t x y) (hx : AEv env x (.agg cs)) (hy : AEv env y (.int k i)) (hu : P.underlying t = some (.array len e)) (ht : flatT P e = true) (hm : (P.info? e).map (·.size) = some 1) (h0 : 0 ≤ i) (h1 : i < len) (hc : cs[i.toNat]? = some c) : PStep P N o env st c :=
  .of_val fun a w hg => by
    obtain ⟨vs, e1, hn, hr⟩ := agg_inv (hx _ _ _ _ hg)
    have e2 := (hy _ _ _ _ hg).lit_inv
    have hk : i.toNat < vs.size := by have := (List.getElem?_eq_some_iff.1 hc).1; omega
    refine ⟨vs[i.toNat], ?_, hr _ _ _ hc (by simp [hk])⟩
    have := run_part_flat (P := P) w ht (show vs[i.toNat]? = some vs[i.toNat] by simp [hk])
    cases hq : P.info? e with
    | none => simp [hq] at hm
    | some q =>
      have hqm : q.size = 1 := by simpa [hq] using hm
      simp [execOp, ho, e1, e2, Instr.index, asIntOf, run_underlying hu, h0, h1, sizeOf, typeInfo, hq, hqm, this]
end
end Go.AL

namespace Go.AL
open Go.RowKit
section
variable {P : Program} {N : Nat} {Q : Post} {env : Env} {st : St} {ops : Array Oper}
theorem AC_mono {c : Code} {Q' : Post} (h : AC P N c Q' env st) (hq : ∀ e env' st', Q' e env' st' → Q e env' st') : AC P N c Q env st := fun a w hg =>
  wp_mono (h a w hg) fun e a' w' ⟨env', st', h1, h2, h3⟩ => ⟨env', st', hq _ _ _ h1, h2, h3⟩
def AO (P : Program) (N : Nat) (ops : Array Oper) (Q : Post) (fuel : Nat) (listed : Array Bool) (env : Env) (st : St) : Prop :=
  ∀ (st0 : St) (w0 : World) (a : Act) (w : World), (st0.map (·.1)).Nodup → Good N env st a w → Ext st0 w0 st w → wpAny P .any ops (Sat N Q st0 w0) fuel listed a w
inductive AllI (p : Nat → Prop) : List Nat → Prop
  | nil : AllI p []
  | cons {i : Nat} {l : List Nat} (h : p i) (t : AllI p l) : AllI p (i :: l)
theorem AllI.at_ {p : Nat → Prop} : ∀ {l : List Nat}, AllI p l → ∀ i ∈ l, p i
  | _, .cons h t, i, hi => by
    rcases List.mem_cons.1 hi with rfl | hi
    · exact h
    · exact t.at_ i hi
def AO1 (P : Program) (N : Nat) (ops : Array Oper) (Q : Post) (fuel : Nat) (listed : Array Bool) (env : Env) (st : St) (i : Nat) : Prop :=
  ∃ (o : Oper) (K : AV → St → Prop), ops[i]? = some o ∧ o.guard = none ∧ dstIn N o.dst = true ∧ Step P N o env st K ∧ ∀ x st', K x st' → AO P N ops Q fuel (listed.setIfInBounds i true) (putE o.dst x env) st'
theorem AO1.mk' {fuel i : Nat} {listed : Array Bool} {o : Oper} {K : AV → St → Prop} (ho : ops[i]? = some o) (hgd : o.guard = none) (hd : dstIn N o.dst = true) (hs : Step P N o env st K) (h : ∀ x st', K x st' → AO P N ops Q fuel (listed.setIfInBounds i true) (putE o.dst x env) st') : AO1 P N ops Q fuel listed env st i := ⟨o, K, ho, hgd, hd, hs, h⟩
theorem AO_step {fuel : Nat} {listed : Array Bool} {rs : List Nat} (hr : Region.ready .any ops listed = rs) (hne : rs.isEmpty = false) (h : AllI (AO1 P N ops Q fuel listed env st) rs) : AO P N ops Q (fuel + 1) listed env st := by
  intro st0 w0 a w hn hg hx
  refine ⟨fun k => ?_, fun i hi => ?_⟩
  · rw [hr] at k; rw [k] at hne; cases hne
  · rw [hr] at hi
    obtain ⟨o, K, ho, hgd, hd, hs, hk⟩ := h.at_ i hi
    unfold wpOp
    rw [ho]
    dsimp only
    rw [if_pos (by simp [Region.wanted, hgd])]
    exact .inl (hs a w hg _ _ fun x st' v w' hkx hr' hrel hext => hk x st' hkx st0 w0 _ _ hn (hg.put (dstIn_spec hd) hr' hrel hext) (hx.trans hext hn))
theorem AO_fin {fuel : Nat} {listed : Array Bool} (hr : Region.ready .any ops listed = []) (h : Q .normal env st) : AO P N ops Q fuel listed env st := by
  intro st0 w0 a w hn hg hx
  have hs : Sat N Q st0 w0 .normal a w := ⟨env, st, h, hg, hx⟩
  cases fuel with
  | zero => exact ⟨hr, hs⟩
  | succ fuel => exact ⟨fun _ => hs, fun i hi => by rw [hr] at hi; cases hi⟩
/-- Every order comes to K. -/
theorem AC_ords {id : Nat} {l : List Oper} (K : Env → St → Prop) (hm : P.follows .mixedOrders = true) (h : AO P N l.toArray (fun e env' st' => e = .normal ∧ K env' st') l.toArray.size (Array.replicate l.toArray.size false) env st) (hk : ∀ env' st', K env' st' → Q .normal env' st') : AC P N (.region id l.toArray true) Q env st := by
  refine AC_mono (Q' := fun e env' st' => e = .normal ∧ K env' st') (fun a0 w0 hg => ?_) fun e env' st' ⟨h1, h2⟩ => by rw [h1]; exact hk env' st' h2
  have hn := hg.rel.nodup
  have hdrew : Ext st w0 st { w0 with drawn := w0.drawn + 1 } := ⟨rfl, rfl, rfl, fun _ _ => rfl, Nat.le_refl _, fun _ _ _ => rfl, fun _ _ _ _ _ _ _ _ _ => rfl, fun _ _ _ h => h, fun _ _ _ _ => rfl⟩
  have hrel : Rel st { w0 with drawn := w0.drawn + 1 } := ⟨hn, fun b cs hbm => let ⟨vs, T, k1, k2, k3⟩ := hg.rel.cells b cs hbm; ⟨vs, T, k1, k2, fun i c v hc hv => (k3 i c v hc hv).mono hdrew hn⟩, hg.rel.grow, hg.rel.konst⟩
  refine wp_region_any hm (h st w0 a0 _ hn ⟨hg.size, hg.defers, fun t x hx => ?_, hrel⟩ hdrew)
  obtain ⟨v, hv, hr⟩ := hg.env t x hx
  exact ⟨v, hv, hr.mono hdrew hn⟩
end
end Go.AL

namespace Go.AL
open Go.RowKit Go.NumSpec
theorem u8_eq {f k : UInt8} (h : (f.toNat : Int) = (k.toNat : Int)) : f = k := UInt8.toNat_inj.1 (Int.ofNat_inj.1 h)
theorem kind_out {v : Int} (h : v < 1 ∨ 13 ≤ v) : kindA v.toNat = ([], []) := by
  rcases h with h | h
  · rw [show v.toNat = 0 by omega]; rfl
  · unfold kindA
    rw [List.getD_eq_getElem?_getD, List.getElem?_eq_none (by rw [kindsT_len]; omega)]; rfl
/-- what a call must be for the walks -/
def ShortA (x : Cal) : Prop := lightS x.spec = true ∧ x.sel.length ≤ 1000000 ∧ ∀ y ∈ x.sel, y.1.length ≤ 1000000 ∧ y.2.length ≤ 1000000
theorem cal0_short (k : Int) : ShortA (cal0 k) := ⟨spc0_light, Nat.zero_le _, fun y hy => absurd hy List.not_mem_nil⟩
theorem field_data (x : Cal) : fieldE x 100 = if 32 < (x.data.length : Int) then some (2, [[100, 97, 116, 97]]) else none := rfl
/-! Sizes -/
/-! What is read is light -/
theorem rdF_snoc (fs : List UInt8) (f : UInt8) (x : Cal) (s : List UInt8) (c : Int) : rdF (fs ++ [f]) x s c = oneR f (rdF fs x s c).1 (rdF fs x s c).2.1 (rdF fs x s c).2.2 := by
  induction fs generalizing x s c with
  | nil => rfl
  | cons g fs ih => exact ih _ _ _
theorem rdF_take {fs : List UInt8} {i : Nat} (h : i < fs.length) (x : Cal) (s : List UInt8) (c : Int) : rdF (fs.take (i + 1)) x s c = oneR fs[i] (rdF (fs.take i) x s c).1 (rdF (fs.take i) x s c).2.1 (rdF (fs.take i) x s c).2.2 := by
  rw [List.take_succ_eq_append_getElem h, rdF_snoc]
theorem labsRd_short (s : List UInt8) (c : Int) : (labsRd s c).1.length ≤ 1000000 ∧ ∀ y ∈ (labsRd s c).1, y.1.length ≤ 1000000 ∧ y.2.length ≤ 1000000 := by
  have h2 : (((labsRd s c).1.length : Nat) : Int) ≤ 4 := allR_few (f := labRd) (most := 4) (by decide) _ _
  have h5 : ∀ x ∈ (labsRd s c).1, x.1.length ≤ 33 ∧ x.2.length ≤ 16 := allR_all (f := labRd) labRd_short 4 _ _
  exact ⟨by omega, fun y hy => ⟨by have := (h5 y hy).1; omega, by have := (h5 y hy).2; omega⟩⟩
theorem oneR_short (f : UInt8) (x : Cal) (s : List UInt8) (c : Int) (h : ShortA x) : ShortA (oneR f x s c).1 := by
  unfold oneR
  by_cases h1 : f = 117
  · rw [if_pos h1]; exact h
  · rw [if_neg h1]
    by_cases h2 : f = 114
    · rw [if_pos h2]; exact h
    · rw [if_neg h2]
      by_cases h3 : f = 115
      · rw [if_pos h3]; exact ⟨spcRd_light s c, h.2⟩
      · rw [if_neg h3]
        by_cases h4 : f = 103
        · rw [if_pos h4]; exact h
        · rw [if_neg h4]
          by_cases h5 : f = 99
          · rw [if_pos h5]; exact h
          · rw [if_neg h5]
            by_cases h6 : f = 105
            · rw [if_pos h6]; exact h
            · rw [if_neg h6]
              by_cases h7 : f = 109
              · rw [if_pos h7]; exact h
              · rw [if_neg h7]
                by_cases h8 : f = 100
                · rw [if_pos h8]; exact h
                · rw [if_neg h8]
                  by_cases h9 : f = 108
                  · rw [if_pos h9]; exact ⟨h.1, labsRd_short s c⟩
                  · rw [if_neg h9]; exact h
theorem rdF_short (fs : List UInt8) (x : Cal) (s : List UInt8) (c : Int) (h : ShortA x) : ShortA (rdF fs x s c).1 := by
  induction fs generalizing x s c with
  | nil => exact h
  | cons f fs ih => exact ih _ _ _ (oneR_short f x s c h)
theorem calRd_short (s : List UInt8) : ShortA (calRd s 0).1 := rdF_short _ _ _ _ (cal0_short _)
end Go.AL

namespace Go.AL
open Go.RowKit Go.NumSpec
theorem only_light {fs : List UInt8} {x : Cal} (h : lightS x.spec = true) : lightS (onlyA fs x).spec = true := by
  show lightS (if 115 ∈ fs then x.spec else spc0) = true
  split
  · exact h
  · exact spc0_light
theorem check_kind {x : Cal} (h : 1 ≤ x.kind → 13 ≤ x.kind) : checkA x = some (80, [kindN]) := by
  unfold checkA; rw [if_pos (by omega)]
theorem firstA_at {l : List Er} {i : Nat} (hi : i < l.length) (hall : ∀ j (h : j < l.length), j < i → l[j] = none) (h : l[i] ≠ none) : firstE l = l[i] := by
  induction l generalizing i with
  | nil => exact absurd hi (Nat.not_lt_zero _)
  | cons a l ih =>
    cases i with
    | zero =>
      cases a with
      | none => exact absurd rfl h
      | some e => simp [firstE]
    | succ i =>
      have h0 := hall 0 (Nat.zero_lt_succ _) (Nat.zero_lt_succ _)
      simp only [List.getElem_cons_zero] at h0
      subst h0
      have h9 := ih (i := i) (by simpa using hi) (fun j hj hji => by have := hall (j + 1) (by simpa using hj) (by omega); simpa using this) (by simpa using h)
      simpa [firstE] using h9
theorem check_field {x : Cal} {i : Nat} (hk : 1 ≤ x.kind ∧ x.kind < 13) (hil : i < (kindA x.kind.toNat).2.length) (hall : ∀ j (h : j < (kindA x.kind.toNat).2.length), j < i → fieldE x ((kindA x.kind.toNat).2[j]) = none) (h : fieldE x ((kindA x.kind.toNat).2[i]) ≠ none) : checkA x = fieldE x ((kindA x.kind.toNat).2[i]) := by
  have h1 : firstE ((kindA x.kind.toNat).2.map (fieldE x)) = fieldE x ((kindA x.kind.toNat).2[i]) := by
    have h2 := firstA_at (l := (kindA x.kind.toNat).2.map (fieldE x)) (i := i) (by rw [List.length_map]; exact hil) (fun j hj hji => by rw [List.getElem_map]; exact hall j (by rw [List.length_map] at hj; exact hj) hji) (by rw [List.getElem_map]; exact h)
    rw [h2, List.getElem_map]
  unfold checkA
  rw [if_neg (by omega), h1]
  cases he : fieldE x ((kindA x.kind.toNat).2[i]) with
  | none => exact absurd he h
  | some e => rfl
theorem firstA_nones {l : List Er} (h : ∀ e ∈ l, e = none) : firstE l = none := by
  induction l with
  | nil => rfl
  | cons a l ih =>
    have h0 := h a List.mem_cons_self
    subst h0
    simpa [firstE] using ih fun e he => h e (List.mem_cons_of_mem _ he)
theorem check_rest {x : Cal} (hk : 1 ≤ x.kind ∧ x.kind < 13) (hf : ∀ f ∈ (kindA x.kind.toNat).2, fieldE x f = none) : checkA x = if cleanB (onlyA (kindA x.kind.toNat).2 x) x = true then none else some (4, [callN]) := by
  unfold checkA
  rw [if_neg (by omega), firstA_nones (l := (kindA x.kind.toNat).2.map (fieldE x)) fun e he => by
    obtain ⟨f, hm, rfl⟩ := List.mem_map.1 he
    exact hf f hm]
theorem check_unclean {x : Cal} (hk : 1 ≤ x.kind ∧ x.kind < 13) (hf : ∀ f ∈ (kindA x.kind.toNat).2, fieldE x f = none) (h : cleanB (onlyA (kindA x.kind.toNat).2 x) x = false) : checkA x = some (4, [callN]) := by
  rw [check_rest hk hf, if_neg (by rw [h]; simp)]
theorem check_clean {x : Cal} (hk : 1 ≤ x.kind ∧ x.kind < 13) (hf : ∀ f ∈ (kindA x.kind.toNat).2, fieldE x f = none) (h : cleanB (onlyA (kindA x.kind.toNat).2 x) x = true) : checkA x = none := by
  rw [check_rest hk hf, if_pos h]
/-! What is read -/
theorem calRd_at (s : List UInt8) : calRd s 0 = rdF (kindA (numR s 0 12).1.toNat).2 (cal0 (numR s 0 12).1) (numR s 0 12).2.1 (numR s 0 12).2.2 := rfl
theorem er0_iff {c : Int} {p : List (List UInt8)} : erNew c p = none ↔ c = 0 := by
  unfold erNew; split
  · rename_i h; simp [h]
  · rename_i h; simp [h]
theorem wire_end {s : List UInt8} (h1 : (erNew (calRd s 0).2.2 [wireN]).isNone = true) (h2 : 0 < (calRd s 0).1.kind) : wireA s = erNew (endR (calRd s 0).2.1 (calRd s 0).2.2) [wireN] := by
  unfold wireA
  rw [if_pos ⟨er0_iff.1 (Option.isNone_iff_eq_none.1 h1), h2⟩]
theorem wire_code {s : List UInt8} (h : (erNew (calRd s 0).2.2 [wireN]).isNone = false ∨ ¬ 0 < (calRd s 0).1.kind) : wireA s = erNew (calRd s 0).2.2 [wireN] := by
  unfold wireA
  rw [if_neg]
  rintro ⟨h1, h2⟩
  rcases h with h | h
  · rw [er0_iff.2 h1] at h; simp at h
  · exact h h2
end Go.AL

namespace Go.AL
open Go.RowKit Go.NumSpec
def wA : Cal := { cal0 12 with id := 5 }
theorem wA_check : checkA wA = none := by decide +kernel
theorem wA_calB : calB wA = [12, 5] := by decide +kernel
theorem wA_of : (ofA [12, 5], ofAE [12, 5]) = (wA, none) := by
  have h := askOf_bytes (x := wA) (by decide) wA_check
  rw [wA_calB] at h
  rw [h.1, h.2]
end Go.AL

namespace Go.AL
open Go.RowKit Go.NumSpec
end Go.AL

namespace Go.AL
open Go.RowKit Go.NumSpec
end Go.AL

namespace Go.AL
open Go.RowKit Go.NumSpec
/-- the length that a frame's head tells -/
def frN : List UInt8 → Nat
  | a :: b :: _ => a.toNat + b.toNat * 256
  | _ => 0
/-- the next text of bytes: it, the code, what is left, and whether it is closed then -/
def nextS (s : List UInt8) : List UInt8 × Int × List UInt8 × Bool :=
  if s.length < 2 then ([], 6, s, false)
  else if 2048 < frN s then ([], 2, [], true)
  else if s.length < 2 + frN s then ([], 6, s, false)
  else ((s.drop 2).take (frN s), 0, s.drop (2 + frN s), false)
def nextX (s : List UInt8) (c : Bool) : List UInt8 × Int × List UInt8 × Bool := if c = true then ([], 400, s, true) else nextS s
theorem nextS_short {s : List UInt8} (h : s.length < 2) : nextS s = ([], 6, s, false) := if_pos h
theorem nextS_long {s : List UInt8} (h : ¬ s.length < 2) (h2 : 2048 < frN s) : nextS s = ([], 2, [], true) := by unfold nextS; rw [if_neg h, if_pos h2]
theorem nextS_wait {s : List UInt8} (h : ¬ s.length < 2) (h2 : ¬ 2048 < frN s) (h3 : s.length < 2 + frN s) : nextS s = ([], 6, s, false) := by unfold nextS; rw [if_neg h, if_neg h2, if_pos h3]
theorem nextS_text {s : List UInt8} (h : ¬ s.length < 2) (h2 : ¬ 2048 < frN s) (h3 : ¬ s.length < 2 + frN s) : nextS s = ((s.drop 2).take (frN s), 0, s.drop (2 + frN s), false) := by unfold nextS; rw [if_neg h, if_neg h2, if_neg h3]
theorem nextS_cases (s : List UInt8) : nextS s = ([], 6, s, false) ∨ nextS s = ([], 2, [], true) ∨ (2 ≤ s.length ∧ nextS s = ((s.drop 2).take (frN s), 0, s.drop (2 + frN s), false)) := by
  by_cases h : s.length < 2
  · exact .inl (nextS_short h)
  · by_cases h2 : 2048 < frN s
    · exact .inr (.inl (nextS_long h h2))
    · by_cases h3 : s.length < 2 + frN s
      · exact .inl (nextS_wait h h2 h3)
      · exact .inr (.inr ⟨by omega, nextS_text h h2 h3⟩)
theorem nextS_less {s : List UInt8} (h : (nextS s).2.1 = 0) : (nextS s).2.2.1.length < s.length ∧ (nextS s).2.2.2 = false := by
  rcases nextS_cases s with h1 | h1 | ⟨h2, h1⟩
  · rw [h1] at h; cases h
  · rw [h1] at h; cases h
  · rw [h1]; refine ⟨?_, rfl⟩; show (s.drop _).length < _; rw [List.length_drop]; omega
/-- all texts of bytes wait -/
def drainC (s : List UInt8) (w : List (List UInt8)) : List UInt8 × Bool × List (List UInt8) × Int :=
  if h : (nextS s).2.1 = 0 then
    if 32 ≤ w.length then ([], true, w, 2) else drainC (nextS s).2.2.1 (w ++ [(nextS s).1])
  else ((nextS s).2.2.1, (nextS s).2.2.2, w, if (nextS s).2.1 = 6 then 0 else (nextS s).2.1)
termination_by s.length
decreasing_by exact (nextS_less h).1
/-- bytes come -/
def feedC (s : List UInt8) (c : Bool) (w : List (List UInt8)) (t : List UInt8) : List UInt8 × Bool × List (List UInt8) × Int :=
  if c = true then (s, true, w, 400) else if 8192 < s.length + t.length then ([], true, w, 2) else drainC (s ++ t) w
theorem drain_none {s : List UInt8} {w : List (List UInt8)} (h : (nextS s).2.1 = 6) : drainC s w = (s, false, w, 0) := by
  rw [drainC, dif_neg (by rw [h]; decide), if_pos h]
  rcases nextS_cases s with h1 | h1 | ⟨_, h1⟩ <;> rw [h1] at h ⊢ <;> first | rfl | cases h
theorem drain_bad {s : List UInt8} {w : List (List UInt8)} (h0 : (nextS s).2.1 ≠ 0) (h : (nextS s).2.1 ≠ 6) : drainC s w = ((nextS s).2.2.1, true, w, (nextS s).2.1) := by
  rw [drainC, dif_neg h0, if_neg h]
  rcases nextS_cases s with h1 | h1 | ⟨_, h1⟩ <;> rw [h1] at h h0 ⊢ <;> first | rfl | exact absurd rfl h | exact absurd rfl h0
theorem drain_full {s : List UInt8} {w : List (List UInt8)} (h0 : (nextS s).2.1 = 0) (h : 32 ≤ w.length) : drainC s w = ([], true, w, 2) := by
  rw [drainC, dif_pos h0, if_pos h]
theorem drain_more {s : List UInt8} {w : List (List UInt8)} (h0 : (nextS s).2.1 = 0) (h : ¬ 32 ≤ w.length) : drainC s w = drainC (nextS s).2.2.1 (w ++ [(nextS s).1]) := by
  rw [drainC, dif_pos h0, if_neg h]
/-- what holds of what a feeding leaves -/
structure FedOk (n : Nat) (w : List (List UInt8)) (r : List UInt8 × Bool × List (List UInt8) × Int) : Prop where
  len : r.1.length ≤ n
  few : r.2.2.1.length ≤ 32
  more : w.length ≤ r.2.2.1.length
  code : (r.2.2.2 = 0 ∧ r.2.1 = false) ∨ (r.2.2.2 = 2 ∧ r.2.1 = true)
/-- a text's frame -/
def frameB (x : List UInt8) : List UInt8 := UInt8.ofNat x.length :: UInt8.ofNat (x.length / 256) :: x
def framesB (l : List (List UInt8)) : List UInt8 := l.flatMap frameB
theorem frameB_len (x : List UInt8) : (frameB x).length = x.length + 2 := rfl
theorem frN_frame {x t : List UInt8} (h : x.length ≤ 2048) : frN (frameB x ++ t) = x.length := by
  show (UInt8.ofNat x.length).toNat + (UInt8.ofNat (x.length / 256)).toNat * 256 = x.length
  rw [UInt8.toNat_ofNat', UInt8.toNat_ofNat']; omega
theorem next_frame {x t : List UInt8} (h : x.length ≤ 2048) : nextS (frameB x ++ t) = (x, 0, t, false) := by
  have hl : (frameB x ++ t).length = x.length + 2 + t.length := by rw [List.length_append, frameB_len]
  rw [nextS_text (by omega) (by rw [frN_frame h]; omega) (by rw [frN_frame h]; omega), frN_frame h]
  have h1 : (frameB x ++ t).drop 2 = x ++ t := rfl
  have h2 : (frameB x ++ t).drop (2 + x.length) = t := by rw [← List.drop_drop, h1, List.drop_left]
  rw [h2, h1, List.take_left]
theorem next_part {x s all t : List UInt8} (h : x.length ≤ 2048) (he : s ++ all = frameB x ++ t) (hl : s.length < x.length + 2) : (nextS s).2.1 = 6 := by
  by_cases h2 : s.length < 2
  · rw [nextS_short h2]
  · match s, h2, he, hl with
    | a :: b :: r, h2, he, hl =>
      have hn : frN (a :: b :: r) = x.length := by
        rw [← frN_frame (t := t) h, ← he]; rfl
      rw [nextS_wait h2 (by rw [hn]; omega) (by rw [hn]; omega)]
    | [], h2, _, _ => exact absurd (by decide) h2
    | [_], h2, _, _ => exact absurd (by decide : (1 : Nat) < 2) h2
theorem drain_frames : ∀ (l : List (List UInt8)) (s all : List UInt8) (w : List (List UInt8)), (∀ x ∈ l, x.length ≤ 2048) → s ++ all = framesB l → w.length + l.length ≤ 32 →
    ∃ (j : Nat) (s' : List UInt8), j ≤ l.length ∧ drainC s w = (s', false, w ++ l.take j, 0) ∧ s' ++ all = framesB (l.drop j) ∧ (nextS s').2.1 = 6 ∧ s'.length ≤ s.length := by
  intro l
  induction l with
  | nil =>
    intro s all w _ he _
    have hs : s = [] := (List.append_eq_nil_iff.1 he).1
    subst hs
    exact ⟨0, [], Nat.le_refl _, by rw [drain_none (by rw [nextS_short (by decide)]), List.take_nil, List.append_nil], he, by rw [nextS_short (by decide)], Nat.le_refl _⟩
  | cons x l ih =>
    intro s all w hx he hw
    have hx0 := hx x List.mem_cons_self
    have he' : s ++ all = frameB x ++ framesB l := he
    by_cases hl : s.length < x.length + 2
    · have h6 := next_part hx0 he' hl
      exact ⟨0, s, Nat.zero_le _, by rw [drain_none h6, List.take_zero, List.append_nil], he, h6, Nat.le_refl _⟩
    · obtain ⟨s2, rfl⟩ : ∃ s2, s = frameB x ++ s2 := by
        refine ⟨s.drop (x.length + 2), ?_⟩
        have h1 : s = (s ++ all).take s.length := by rw [List.take_left]
        have h2 : s.take (x.length + 2) = frameB x := by
          have h3 : (s ++ all).take (x.length + 2) = s.take (x.length + 2) := List.take_append_of_le_length (by omega)
          rw [← h3, he', ← frameB_len x, List.take_left]
        conv => lhs; rw [← List.take_append_drop (x.length + 2) s, h2]
      have he2 : s2 ++ all = framesB l := by rw [List.append_assoc] at he'; exact List.append_cancel_left he'
      have hn := next_frame (t := s2) hx0
      simp only [List.length_cons] at hw
      obtain ⟨j, s', h1, h2, h3, h4, h5⟩ := ih s2 all (w ++ [x]) (fun y hy => hx y (List.mem_cons_of_mem _ hy)) he2 (by rw [List.length_append, List.length_singleton]; omega)
      refine ⟨j + 1, s', by rw [List.length_cons]; omega, ?_, h3, h4, by rw [List.length_append]; omega⟩
      rw [drain_more (by rw [hn]) (by omega), hn]
      rw [h2, List.append_assoc]; rfl
theorem frames_end {l : List (List UInt8)} (hx : ∀ x ∈ l, x.length ≤ 2048) (h : (nextS (framesB l)).2.1 = 6) : l = [] := by
  cases l with
  | nil => rfl
  | cons x l =>
    have h1 : framesB (x :: l) = frameB x ++ framesB l := rfl
    rw [h1, next_frame (hx x List.mem_cons_self)] at h; cases h
theorem frames_len : ∀ (l : List (List UInt8)) (n : Nat), (∀ x ∈ l, x.length ≤ n) → (framesB l).length ≤ l.length * (n + 2) := by
  intro l n
  induction l with
  | nil => intro _; exact Nat.zero_le _
  | cons x l ih =>
    intro h
    have h1 : (framesB (x :: l)).length = (frameB x).length + (framesB l).length := by show (frameB x ++ framesB l).length = _; rw [List.length_append]
    have h2 := ih fun y hy => h y (List.mem_cons_of_mem _ hy)
    have h3 := h x List.mem_cons_self
    rw [h1, frameB_len, List.length_cons, Nat.succ_mul]; omega
/-- what came so far of all frames -/
structure Came (l : List (List UInt8)) (s all : List UInt8) (w : List (List UInt8)) : Prop where
  few : w.length ≤ l.length
  took : w = l.take w.length
  left : s ++ all = framesB (l.drop w.length)
  stuck : (nextS s).2.1 = 6
theorem Came.start (l : List (List UInt8)) : Came l [] (framesB l) [] := ⟨Nat.zero_le _, rfl, rfl, by rw [nextS_short (by decide)]⟩
theorem Came.feed {l : List (List UInt8)} {s all : List UInt8} {w : List (List UInt8)} (h : Came l s all w) (hl : l.length ≤ 20) (hx : ∀ x ∈ l, x.length ≤ 200) (n : Nat) (hn : n ≤ all.length) :
    ∃ s' w', feedC s false w (all.take n) = (s', false, w', 0) ∧ Came l s' (all.drop n) w' ∧ w.length ≤ w'.length ∧ s'.length ≤ 8192 ∧ w'.length ≤ 20 := by
  have hfl := frames_len (l.drop w.length) 200 fun x hxx => hx x (List.mem_of_mem_drop hxx)
  have h9 : (l.drop w.length).length ≤ 20 := by rw [List.length_drop]; omega
  have hf2 : (framesB (l.drop w.length)).length ≤ 20 * 202 := Nat.le_trans hfl (Nat.mul_le_mul_right _ h9)
  have hsa : s.length + all.length ≤ 4040 := by rw [← h.left, List.length_append] at hf2; omega
  have hd : (s ++ all.take n) ++ all.drop n = framesB (l.drop w.length) := by rw [List.append_assoc, List.take_append_drop]; exact h.left
  have hwf := h.few
  obtain ⟨j, s', h1, h2, h3, h4, h5⟩ := drain_frames (l.drop w.length) (s ++ all.take n) (all.drop n) w (fun x hxx => by have := hx x (List.mem_of_mem_drop hxx); omega) hd (by rw [List.length_drop]; omega)
  rw [List.length_drop] at h1
  have htl : (all.take n).length ≤ all.length := List.length_take_le' _ _
  rw [List.length_append] at h5
  have hwl : (w ++ (l.drop w.length).take j).length = w.length + j := by rw [List.length_append, List.length_take, List.length_drop]; omega
  refine ⟨s', w ++ (l.drop w.length).take j, ?_, ⟨by rw [hwl]; omega, ?_, ?_, h4⟩, by rw [hwl]; omega, by omega, by rw [hwl]; omega⟩
  · unfold feedC; rw [if_neg (by decide), if_neg (by omega), h2]
  · rw [hwl, List.take_add]; exact congrArg (· ++ (l.drop w.length).take j) h.took
  · rw [hwl, h3, List.drop_drop]
theorem Came.done {l : List (List UInt8)} {s : List UInt8} {w : List (List UInt8)} (h : Came l s [] w) (hx : ∀ x ∈ l, x.length ≤ 200) : w = l ∧ s = [] := by
  have hl := h.left
  rw [List.append_nil] at hl
  have hs := h.stuck
  rw [hl] at hs
  have he := frames_end (fun x hxx => by have := hx x (List.mem_of_mem_drop hxx); omega) hs
  have hf := h.few
  have hlen : l.length ≤ w.length := by have := congrArg List.length he; rw [List.length_drop] at this; simp at this; omega
  refine ⟨?_, by rw [hl, he]; rfl⟩
  rw [h.took, List.take_of_length_le hlen]
/-- the error of any bytes is short -/
theorem short_fieldS {x : Cal} (hl : ShortA x) (f : UInt8) : ShortE 600 (fieldE x f) := by
  unfold fieldE
  repeat' split
  all_goals first | exact short_within (by decide) _ _ _ | exact (short_in (check_short hl.1) _).mono (by decide) | exact (short_labels (by decide) hl.2.1).mono (by decide) | exact short_none _ | exact short_one (by decide)
theorem short_AS {x : Cal} (hl : ShortA x) : ShortE 600 (checkA x) := by
  unfold checkA
  split
  · exact short_one (by decide)
  · split
    · rename_i e h
      rw [← h]
      refine short_first fun e he => ?_
      obtain ⟨f, _, rfl⟩ := List.mem_map.1 he
      exact short_fieldS hl f
    · split
      · exact short_none _
      · exact short_one (by decide)
theorem ofAE_short (s : List UInt8) : ShortE 600 (ofAE s) := short_first fun e he => by
  simp only [List.mem_cons, List.not_mem_nil, or_false] at he
  rcases he with rfl | rfl
  · unfold wireA; split <;> exact short_new (by decide)
  · exact short_AS (calRd_short s)
/-- the works' frame -/
theorem works_feed : feedC [] false [] [2, 0, 12, 5] = ([], false, [[12, 5]], 0) := by
  have h1 : ([2, 0, 12, 5] : List UInt8) = framesB [[12, 5]] := by decide
  obtain ⟨s', w', h2, h3, _⟩ := (Came.start [[12, 5]]).feed (by decide) (by decide) 4 (by decide)
  have h4 : (framesB [[12, 5]]).take 4 = [2, 0, 12, 5] := by decide
  have h5 : (framesB [[12, 5]]).drop 4 = [] := by decide
  rw [h4] at h2; rw [h5] at h3
  obtain ⟨h6, h7⟩ := h3.done (by decide)
  rw [h2, h6, h7]
/-- a feeding in two steps: the bytes, and the texts -/
def putS (s : List UInt8) (c : Bool) (t : List UInt8) : List UInt8 × Bool × Int := if c = true then (s, true, 400) else if 8192 < s.length + t.length then ([], true, 2) else (s ++ t, false, 0)
theorem putS_closed {s t : List UInt8} {c : Bool} (h : c = true) : putS s c t = (s, true, 400) := if_pos h
theorem putS_long {s t : List UInt8} {c : Bool} (h : ¬ c = true) (h2 : 8192 < s.length + t.length) : putS s c t = ([], true, 2) := by unfold putS; rw [if_neg h, if_pos h2]
theorem putS_good {s t : List UInt8} {c : Bool} (h : ¬ c = true) (h2 : ¬ 8192 < s.length + t.length) : putS s c t = (s ++ t, false, 0) := by unfold putS; rw [if_neg h, if_neg h2]
theorem feed_bad {s t : List UInt8} {c : Bool} {w : List (List UInt8)} (h : (putS s c t).2.2 ≠ 0) : feedC s c w t = ((putS s c t).1, (putS s c t).2.1, w, (putS s c t).2.2) := by
  unfold putS at h ⊢; unfold feedC
  split at h
  · rename_i hc; rw [if_pos hc, if_pos hc]
  · rename_i hc
    split at h
    · rename_i h2; rw [if_neg hc, if_neg hc, if_pos h2, if_pos h2]
    · exact absurd rfl h
theorem feed_good {s t : List UInt8} {c : Bool} {w : List (List UInt8)} (h : (putS s c t).2.2 = 0) : putS s c t = (s ++ t, false, 0) ∧ feedC s c w t = drainC (s ++ t) w ∧ (s ++ t).length ≤ 8192 ∧ c = false := by
  unfold putS at h ⊢; unfold feedC
  split at h
  · cases h
  · rename_i hc
    split at h
    · cases h
    · rename_i h2
      rw [if_neg hc, if_neg hc, if_neg h2, if_neg h2]
      exact ⟨rfl, rfl, by rw [List.length_append]; omega, by simpa using hc⟩
theorem next_six {s : List UInt8} (h : (nextS s).2.1 = 6) : nextS s = ([], 6, s, false) := by
  rcases nextS_cases s with h1 | h1 | ⟨_, h1⟩ <;> rw [h1] at h ⊢ <;> cases h
theorem next_bad {s : List UInt8} (h : (nextS s).2.1 ≠ 6) (h0 : (nextS s).2.1 ≠ 0) : nextS s = ([], 2, [], true) := by
  rcases nextS_cases s with h1 | h1 | ⟨_, h1⟩ <;> rw [h1] at h h0 ⊢
  · exact absurd rfl h
  · exact absurd rfl h0
theorem nextX_open {s : List UInt8} : nextX s false = nextS s := rfl
/-- what a connection's call for the first text gives -/
def waitC : List (List UInt8) → Cal × Er × Int
  | [] => (cal0 0, none, 6)
  | t :: _ => (ofA t, ofAE t, 0)
def askL (n : Int) (c : Cal) (e : Er) : List AV := .int .i64 n :: (calL c ++ [.int .i64 (erCode e), .S (Lib.join (erPath e) [46])])
def askN (w : List (List UInt8)) (tk : Int) : Int := if w = [] then 0 else tk + 1
def tookN (w : List (List UInt8)) (tk : Int) : Int := if w = [] then tk else tk + 1
theorem strsV_one (l : List (List UInt8)) : ∀ y, y ∈ strsV l → y.cells.length = 1 ∧ y.cells.all AV.one = true := by
  intro y hy; obtain ⟨r, _, rfl⟩ := List.mem_map.1 hy; exact ⟨rfl, rfl⟩
theorem bits_or64 (m n : Nat) (hm : m < 9223372036854775808) (hn : n < 9223372036854775808) : bits .or .i64 (m : Int) (n : Int) = IntKind.i64.wrap ((m ||| n : Nat) : Int) := by
  simp only [bits]
  congr 2
  rw [BitVec.toNat_or, BitVec.toNat_ofInt, BitVec.toNat_ofInt]
  have : (2 ^ IntKind.i64.bits : Nat) = 18446744073709551616 := by decide
  rw [this]
  congr 1 <;> omega
theorem or_bytes (h0 h1 : UInt8) {r : List UInt8} : bits .or .i64 (h0.toNat : Int) ((h1.toNat * 256 : Nat) : Int) = ((frN (h0 :: h1 :: r) : Nat) : Int) := by
  have a0 := h0.toNat_lt
  have a1 := h1.toNat_lt
  rw [bits_or64 _ _ (by omega) (by omega), or_add h0.toNat h1.toNat 8 (by omega), wrap_i64 (by omega) (by omega)]
  rfl
theorem shl_eight {n : Nat} (h : n < 256) : IntKind.i64.wrap ((n : Int) * 2 ^ Int.toNat 8) = ((n * 256 : Nat) : Int) := by
  rw [show (2 : Int) ^ Int.toNat 8 = 256 from rfl, wrap_i64 (by omega) (by omega)]; omega
theorem cut_two (l : List UInt8) (n : Nat) : (l.take (2 + (n : Int)).toNat).drop (2 : Int).toNat = (l.drop 2).take n := by
  rw [show (2 + (n : Int)).toNat = 2 + n by omega, show (2 : Int).toNat = 2 from rfl, List.drop_take]
  congr 1; omega
theorem tup_zero (a : Nat) (y : AV) : AV.tup [.int .i64 ((a : Int) - (a : Int)), y] = .tup [.int .i64 0, y] := by rw [Int.sub_self]
theorem wA_ofA : ofA [12, 5] = wA := congrArg Prod.fst wA_of
theorem wA_ofE : ofAE [12, 5] = none := congrArg Prod.snd wA_of
end Go.AL

namespace Go.AL
open Go.RowKit Go.NumSpec
end Go.AL

namespace Go.AL
open Go.RowKit Go.NumSpec
section
variable {a b out : List Lab} {i : Nat}
end
end Go.AL

namespace Go.AL
open Go.RowKit Go.NumSpec
structure Pod where
  id : Int
  ver : Nat
  spec : Spc
  node : Int
  ports : List Int
  x : Int
  y : Int
def podL (p : Pod) : List AV := .int .i64 p.id :: .int .u64 (p.ver : Int) :: (spcL p.spec ++ [.int .i64 p.node, .sl (intsV p.ports), .int .i64 p.x, .int .i64 p.y])
def podAV (p : Pod) : AV := .agg (podL p)
abbrev podsV (l : List Pod) : List AV := l.map podAV
def pick (a : List Lab) (p : Pod) : Bool := coversL a p.spec.labels
end Go.AL

namespace Go.AL
open Go.RowKit Go.NumSpec
end Go.AL

namespace Go.AL
open Go.RowKit Go.NumSpec
/-! A pod: SelLem6's Pod, whose node is the phase, whose ports are the restarts, whose x and y are the mark and the grace -/
def pod0 : Pod := ⟨0, 0, spc0, 0, [], 0, 0⟩
def podB (p : Pod) : List UInt8 := (numB p.id ++ (putL p.ver ++ (spcB p.spec ++ numB p.node))) ++ (p.ports.flatMap numB ++ (numB p.x ++ numB p.y))
def PodOk (p : Pod) : Prop := ((0 ≤ p.id ∧ p.id ≤ 1073741824) ∧ (p.ver < 18446744073709551616 ∧ (SpcOk p.spec ∧ (0 ≤ p.node ∧ p.node ≤ 4)))) ∧ ((p.ports.length = p.spec.main.length ∧ ∀ n ∈ p.ports, 0 ≤ n ∧ n ≤ 1073741824) ∧ ((0 ≤ p.x ∧ p.x ≤ 2) ∧ (0 ≤ p.y ∧ p.y ≤ 1000)))
/-! A reply -/
structure Rep where
  code : Int
  uid : Int
  id : Int
  rev : Nat
  data : List UInt8
  pods : List Pod
  use : List Tri
def rep0 : Rep := ⟨0, 0, 0, 0, [], [], []⟩
def repL (r : Rep) : List AV := [.int .i64 r.code, .int .i64 r.uid, .int .i64 r.id, .int .u64 (r.rev : Int), .S r.data, .sl (podsV r.pods), .sl (r.use.map resAV)]
def replyB (r : Rep) : List UInt8 := numB r.code ++ (numB r.uid ++ (numB r.id ++ (putL r.rev ++ (textB r.data ++ (listB podB r.pods ++ listB triB r.use)))))
def RepOk (r : Rep) : Prop := (0 ≤ r.code ∧ r.code ≤ 999) ∧ ((0 ≤ r.uid ∧ r.uid ≤ 1073741824) ∧ ((0 ≤ r.id ∧ r.id ≤ 1073741824) ∧ (r.rev < 18446744073709551616 ∧ ((r.data.length : Int) ≤ 32 ∧ (((r.pods.length : Int) ≤ 16 ∧ ∀ p ∈ r.pods, PodOk p) ∧ ((r.use.length : Int) ≤ 4 ∧ ∀ u ∈ r.use, TriOk u))))))
/-! An event -/
structure Evt where
  kind : Int
  rev : Nat
  pod : Pod
def evt0 : Evt := ⟨0, 0, pod0⟩
def evtL (e : Evt) : List AV := .int .i64 e.kind :: .int .u64 (e.rev : Int) :: podL e.pod
def wholeB (k : Int) : Bool := decide (1 ≤ k ∧ k ≤ 3)
def restPB (k : Int) (p : Pod) : List UInt8 := if wholeB k = true then podB p else []
def restPOk (k : Int) (p : Pod) : Prop := if wholeB k = true then PodOk p else p = pod0
def evtB (e : Evt) : List UInt8 := (numB e.kind ++ putL e.rev) ++ restPB e.kind e.pod
def EvtOk (e : Evt) : Prop := ((0 ≤ e.kind ∧ e.kind ≤ 5) ∧ e.rev < 18446744073709551616) ∧ restPOk e.kind e.pod
/-! A message -/
structure Msg where
  kind : Int
  num : Int
  reply : Rep
  event : Evt
def msgL (m : Msg) : List AV := .int .i64 m.kind :: .int .i64 m.num :: (repL m.reply ++ evtL m.event)
def msgAV (m : Msg) : AV := .agg (msgL m)
def bodyB (k : Int) (b : Rep × Evt) : List UInt8 := if k = 1 then replyB b.1 else if k = 2 then evtB b.2 else []
def BodyOk (k : Int) (b : Rep × Evt) : Prop := if k = 1 then RepOk b.1 ∧ b.2 = evt0 else if k = 2 then b.1 = rep0 ∧ EvtOk b.2 else b = (rep0, evt0)
def msgB (m : Msg) : List UInt8 := (numB m.kind ++ numB m.num) ++ bodyB m.kind (m.reply, m.event)
def MsgOk (m : Msg) : Prop := ((0 ≤ m.kind ∧ m.kind ≤ 2) ∧ (0 ≤ m.num ∧ m.num ≤ 1073741824)) ∧ BodyOk m.kind (m.reply, m.event)
/-! What may be -/
def podMay (p : Pod) : Bool := p.ports.all (fun n => decide (0 ≤ n ∧ n ≤ 1073741824)) && (decide (1 ≤ p.id ∧ p.id ≤ 1073741824) && (checkE p.spec).isNone && decide (1 ≤ p.node ∧ p.node ≤ 4) && decide (p.ports.length = p.spec.main.length) && decide (0 ≤ p.x ∧ p.x ≤ 2) && decide (0 ≤ p.y ∧ p.y ≤ 1000))
theorem podMay_ok {p : Pod} (hv : p.ver < 18446744073709551616) (h : podMay p = true) : PodOk p ∧ checkE p.spec = none := by
  unfold podMay at h
  simp only [Bool.and_eq_true, decide_eq_true_eq, List.all_eq_true, Option.isNone_iff_eq_none] at h
  obtain ⟨h1, ⟨⟨⟨⟨h2, h3⟩, h4⟩, h5⟩, h6⟩, h7⟩ := h
  exact ⟨⟨⟨⟨by omega, h2.2⟩, hv, check_ok h3, ⟨by omega, h4.2⟩⟩, ⟨h5, h1⟩, h6, h7⟩, h3⟩
end Go.AL

namespace Go.AL
open Go.RowKit Go.NumSpec
def bareP (p : Pod) : Bool := decide (p.id = 0) && decide (p.ver = 0) && sameS p.spec spc0 && decide (p.node = 0) && decide ((p.ports.length : Int) = 0) && decide (p.x = 0) && decide (p.y = 0)
theorem bareP_iff {p : Pod} : bareP p = true ↔ p = pod0 := by
  unfold bareP
  simp only [Bool.and_eq_true, decide_eq_true_eq, sameS_iff]
  constructor
  · rintro ⟨⟨⟨⟨⟨⟨h1, h2⟩, h3⟩, h4⟩, h5⟩, h6⟩, h7⟩
    cases p
    simp only at *
    have e5 := List.eq_nil_of_length_eq_zero (Int.ofNat_inj.1 h5)
    subst h1 h2 h3 h4 e5 h6 h7; rfl
  · intro h; subst h; simp [pod0]
def eventMay (e : Evt) : Bool := if wholeB e.kind = true then podMay e.pod else (decide (e.kind = 4) || decide (e.kind = 5)) && bareP e.pod
def resMay (r : Tri) : Bool := decide (0 ≤ r.1 ∧ r.1 ≤ 1099511627776) && decide (0 ≤ r.2.1 ∧ r.2.1 ≤ 1099511627776) && decide (0 ≤ r.2.2 ∧ r.2.2 ≤ 1099511627776)
def replyMay (r : Rep) : Bool := decide (0 ≤ r.code ∧ r.code ≤ 999) && decide (0 ≤ r.uid ∧ r.uid ≤ 1073741824) && decide (0 ≤ r.id ∧ r.id ≤ 1073741824) && decide ((r.data.length : Int) ≤ 32) && decide ((r.pods.length : Int) ≤ 16) && decide ((r.use.length : Int) ≤ 4) && r.pods.all podMay && r.use.all resMay
def silentB (r : Rep) : Bool := decide (r.code = 0) && decide (r.uid = 0) && decide (r.id = 0) && decide (r.rev = 0) && decide (r.data = []) && decide ((r.pods.length : Int) = 0) && decide ((r.use.length : Int) = 0)
theorem silent_iff {r : Rep} : silentB r = true ↔ r = rep0 := by
  unfold silentB
  simp only [Bool.and_eq_true, decide_eq_true_eq]
  constructor
  · rintro ⟨⟨⟨⟨⟨⟨h1, h2⟩, h3⟩, h4⟩, h5⟩, h6⟩, h7⟩
    cases r
    simp only at *
    have e6 := List.eq_nil_of_length_eq_zero (Int.ofNat_inj.1 h6)
    have e7 := List.eq_nil_of_length_eq_zero (Int.ofNat_inj.1 h7)
    subst h1 h2 h3 h4 h5 e6 e7; rfl
  · intro h; subst h; simp [rep0]
def msgMay (m : Msg) : Bool := decide (1 ≤ m.num ∧ m.num ≤ 1073741824) && (if m.kind = 1 then replyMay m.reply && decide (m.event.kind = 0) && decide (m.event.rev = 0) && bareP m.event.pod else if m.kind = 2 then silentB m.reply && eventMay m.event else false)
def checkM (m : Msg) : Int := if msgMay m = true then 0 else 4
/-- the revisions of a message are those of Go -/
def PodU (p : Pod) : Prop := p.ver < 18446744073709551616
def MsgU (m : Msg) : Prop := m.reply.rev < 18446744073709551616 ∧ (∀ p ∈ m.reply.pods, PodU p) ∧ m.event.rev < 18446744073709551616 ∧ PodU m.event.pod
theorem resMay_ok {r : Tri} (h : resMay r = true) : TriOk r := by
  unfold resMay at h
  simp only [Bool.and_eq_true, decide_eq_true_eq] at h
  exact ⟨h.1.1, h.1.2, h.2⟩
theorem replyMay_ok {r : Rep} (hv : r.rev < 18446744073709551616) (hp : ∀ p ∈ r.pods, PodU p) (h : replyMay r = true) : RepOk r := by
  unfold replyMay at h
  simp only [Bool.and_eq_true, decide_eq_true_eq, List.all_eq_true] at h
  obtain ⟨⟨⟨⟨⟨⟨⟨h1, h2⟩, h3⟩, h4⟩, h5⟩, h6⟩, h7⟩, h8⟩ := h
  exact ⟨h1, h2, h3, hv, h4, ⟨h5, fun p hm => (podMay_ok (hp p hm) (h7 p hm)).1⟩, ⟨h6, fun u hu => resMay_ok (h8 u hu)⟩⟩
theorem eventMay_ok {e : Evt} (hv : e.rev < 18446744073709551616) (hp : PodU e.pod) (h : eventMay e = true) : EvtOk e := by
  unfold eventMay at h
  split at h
  · rename_i hw
    have hk : 1 ≤ e.kind ∧ e.kind ≤ 3 := by unfold wholeB at hw; exact of_decide_eq_true hw
    exact ⟨⟨⟨by omega, by omega⟩, hv⟩, by unfold restPOk; rw [if_pos hw]; exact (podMay_ok hp h).1⟩
  · rename_i hw
    simp only [Bool.and_eq_true, Bool.or_eq_true, decide_eq_true_eq] at h
    refine ⟨⟨⟨by rcases h.1 with h | h <;> omega, by rcases h.1 with h | h <;> omega⟩, hv⟩, ?_⟩
    unfold restPOk; rw [if_neg hw]; exact bareP_iff.1 h.2
theorem evt_zero {e : Evt} (h1 : e.kind = 0) (h2 : e.rev = 0) (h3 : bareP e.pod = true) : e = evt0 := by
  have h4 := bareP_iff.1 h3
  cases e; simp only at *; subst h1 h2 h4; rfl
theorem msgMay_ok {m : Msg} (hu : MsgU m) (h : msgMay m = true) : MsgOk m ∧ (m.kind = 1 ∨ m.kind = 2) := by
  unfold msgMay at h
  rw [Bool.and_eq_true, decide_eq_true_eq] at h
  obtain ⟨h1, h⟩ := h
  by_cases hk : m.kind = 1
  · rw [if_pos hk] at h
    simp only [Bool.and_eq_true, decide_eq_true_eq] at h
    refine ⟨⟨⟨⟨by omega, by omega⟩, ⟨by omega, h1.2⟩⟩, ?_⟩, .inl hk⟩
    unfold BodyOk; rw [if_pos hk]
    exact ⟨replyMay_ok hu.1 hu.2.1 h.1.1.1, evt_zero h.1.1.2 h.1.2 h.2⟩
  · rw [if_neg hk] at h
    by_cases hk2 : m.kind = 2
    · rw [if_pos hk2, Bool.and_eq_true] at h
      refine ⟨⟨⟨⟨by omega, by omega⟩, ⟨by omega, h1.2⟩⟩, ?_⟩, .inr hk2⟩
      unfold BodyOk; rw [if_neg hk, if_pos hk2]
      exact ⟨silent_iff.1 h.1, eventMay_ok hu.2.2.1 hu.2.2.2 h.2⟩
    · rw [if_neg hk2] at h; cases h
theorem checkM_zero {m : Msg} : checkM m = 0 ↔ msgMay m = true := by
  unfold checkM; split
  · rename_i h; simp [h]
  · rename_i h; simp [h]
end Go.AL

namespace Go.AL
open Go.RowKit Go.NumSpec
section
variable {α β : Type} {f : Rd α}
end
end Go.AL

namespace Go.AL
open Go.RowKit Go.NumSpec
theorem Codec.stays {α : Type} {f : Rd α} {e : α → List UInt8} {ok : α → Prop} (h : Codec f e ok) : ∀ s c, c ≠ 0 → (f s c).2 = (s, c) := fun s c hc => Prod.ext (h.err s c hc).1 (h.err s c hc).2
/-! Likeness -/
end Go.AL

namespace Go.AL
open Go.RowKit Go.NumSpec
/-- a pod that the walks take -/
def ShortP (p : Pod) : Prop := lightS p.spec = true ∧ p.ports.length ≤ 9223372036854775807
def ShortRp (r : Rep) : Prop := r.data.length ≤ 1000 ∧ r.pods.length ≤ 1000 ∧ r.use.length ≤ 1000 ∧ ∀ p ∈ r.pods, ShortP p
def ShortM (m : Msg) : Prop := ShortRp m.reply ∧ ShortP m.event.pod
end Go.AL

namespace Go.AL
open Go.RowKit Go.NumSpec
abbrev v0 : List UInt8 × Int × Int := ([], 0, 0)
structure Ent where
  verb : Int
  n : List Int
  data : List UInt8
end Go.AL

namespace Go.AL
open Go.RowKit Go.NumSpec
/-! The verb of a word -/
/-! Digits -/
/-! Lines -/
/-! Texts -/
end Go.AL

namespace Go.AL
open Go.RowKit Go.NumSpec
/-! Entries' texts -/
end Go.AL

namespace Go.AL
open Go.RowKit Go.NumSpec
end Go.AL

namespace Go.AL
open Go.RowKit Go.NumSpec
/-! The line -/
/-! The document's line: texts one behind another -/
end Go.AL

namespace Go.AL
open Go.RowKit Go.NumSpec
/-! The document's check of a pod -/
end Go.AL

namespace Go.AL
open Go.RowKit Go.NumSpec
def idxB {α : Type} (f : α → Bool) (l : List α) : Int := if l.any f then (l.findIdx f : Int) else -1
theorem idxB_hit {α : Type} {f : α → Bool} {l : List α} {i : Nat} (hi : i < l.length) (h : f l[i] = true) (hn : ∀ j (hj : j < l.length), j < i → f l[j] = false) : idxB f l = i := by
  have h1 : l.any f = true := List.any_eq_true.2 ⟨_, List.getElem_mem hi, h⟩
  have h2 : l.findIdx f = i := by
    have h3 : l.findIdx f ≤ i := by
      rcases Nat.lt_or_ge i (l.findIdx f) with h4 | h4
      · have := List.not_of_lt_findIdx h4
        rw [h] at this; simp at this
      · exact h4
    rcases Nat.lt_or_ge (l.findIdx f) i with h4 | h4
    · have h5 : l.findIdx f < l.length := by omega
      have h6 := hn _ h5 h4
      have h7 : f (l[l.findIdx f]'h5) = true := List.findIdx_getElem
      rw [h6] at h7; cases h7
    · omega
  unfold idxB; rw [if_pos h1, h2]
theorem idxB_none {α : Type} {f : α → Bool} {l : List α} (hn : ∀ j (hj : j < l.length), f l[j] = false) : idxB f l = -1 := by
  have h1 : l.any f = false := List.any_eq_false.2 fun x hx => by
    obtain ⟨j, hj, rfl⟩ := List.getElem_of_mem hx
    rw [hn j hj]; simp
  unfold idxB; rw [h1]; rfl
theorem idxB_ge {α : Type} (f : α → Bool) (l : List α) : decide (0 ≤ idxB f l) = l.any f := by
  unfold idxB
  cases l.any f with
  | true => exact decide_eq_true (by rw [if_pos rfl]; omega)
  | false => exact decide_eq_false (by rw [if_neg (by decide)]; decide)
theorem not_any {α : Type} (f : α → Bool) (l : List α) : (!l.any fun x => !f x) = l.all f := by
  rw [Bool.eq_iff_iff]; simp
end Go.AL

namespace Go.AL
open Go.RowKit Go.NumSpec
theorem podB_assoc (p : Pod) : ((((((numB p.id ++ putL p.ver) ++ spcB p.spec) ++ numB p.node) ++ p.ports.flatMap numB) ++ numB p.x) ++ numB p.y) = podB p := by simp [podB]
theorem podB_len {p : Pod} (hp : PodOk p) (hk : checkE p.spec = none) : (podB p).length ≤ 21000 := by
  obtain ⟨⟨hp1, hp2, hp3, hp4⟩, ⟨hp5, hp6⟩, hp7, hp8⟩ := hp
  obtain ⟨_, _, _, hk4, _⟩ := check_ok hk
  have hk41 := hk4.1
  have n1 := numB_len (n := p.id) (by omega)
  have n2 := putL_few p.ver hp2
  have n3 := spcB_len hk
  have n4 := numB_len (n := p.node) (by omega)
  have n5 := numB_len (n := p.x) (by omega)
  have n6 := numB_len (n := p.y) (by omega)
  have n7 := flatB_len (e := numB) (B := 10) (l := p.ports) fun n hn => numB_len (by have := (hp6 n hn).2; omega)
  rw [← podB_assoc]
  simp only [List.length_append]
  omega
theorem triB_app (a : List UInt8) (r : Tri) : ((a ++ numB r.1) ++ numB r.2.1) ++ numB r.2.2 = a ++ triB r := by simp [triB]
theorem replyB_assoc (r : Rep) : (((((((numB r.code ++ numB r.uid) ++ numB r.id) ++ putL r.rev) ++ textB r.data) ++ numB (r.pods.length : Int)) ++ r.pods.flatMap podB) ++ numB (r.use.length : Int)) ++ r.use.flatMap triB = replyB r := by simp [replyB, listB, numB]
theorem replyMay_check {r : Rep} (h : replyMay r = true) : ∀ p ∈ r.pods, checkE p.spec = none := by
  intro p hp
  unfold replyMay at h
  simp only [Bool.and_eq_true, List.all_eq_true] at h
  have h2 := h.1.2 p hp
  unfold podMay at h2
  simp only [Bool.and_eq_true, Option.isNone_iff_eq_none] at h2
  exact h2.2.1.1.1.1.2
theorem msgB_reply {m : Msg} (h : m.kind = 1) : (numB m.kind ++ numB m.num) ++ replyB m.reply = msgB m := by unfold msgB bodyB; rw [if_pos h]
theorem msgB_whole {m : Msg} (h : m.kind = 2) (hw : wholeB m.event.kind = true) : ((((numB m.kind ++ numB m.num) ++ numB m.event.kind) ++ putL m.event.rev) ++ podB m.event.pod) = msgB m := by
  unfold msgB bodyB evtB restPB; rw [if_neg (by omega), if_pos h, if_pos hw]; simp
theorem msgB_mark {m : Msg} (h : m.kind = 2) (hw : ¬ wholeB m.event.kind = true) : (((numB m.kind ++ numB m.num) ++ numB m.event.kind) ++ putL m.event.rev) = msgB m := by
  unfold msgB bodyB evtB restPB; rw [if_neg (by omega), if_pos h, if_neg hw]; simp
theorem msg_reply {m : Msg} (hu : MsgU m) (h : msgMay m = true) (hk : m.kind = 1) : RepOk m.reply ∧ ∀ p ∈ m.reply.pods, checkE p.spec = none := by
  unfold msgMay at h
  rw [if_pos hk] at h
  simp only [Bool.and_eq_true] at h
  exact ⟨replyMay_ok hu.1 hu.2.1 h.2.1.1.1, replyMay_check h.2.1.1.1⟩
theorem msg_event {m : Msg} (hu : MsgU m) (h : msgMay m = true) (hk : m.kind = 2) : (0 ≤ m.event.kind ∧ m.event.kind ≤ 5) ∧ m.event.rev < 18446744073709551616 ∧ (wholeB m.event.kind = true → PodOk m.event.pod ∧ checkE m.event.pod.spec = none) := by
  unfold msgMay at h
  rw [if_neg (by omega), if_pos hk] at h
  simp only [Bool.and_eq_true] at h
  have h2 := eventMay_ok hu.2.2.1 hu.2.2.2 h.2.2
  refine ⟨h2.1.1, h2.1.2, fun hw => ?_⟩
  have h3 := h.2.2
  unfold eventMay at h3
  rw [if_pos hw] at h3
  exact podMay_ok hu.2.2.2 h3
theorem msg_kinds {m : Msg} (hu : MsgU m) (h : checkM m = 0) : msgMay m = true ∧ (1 ≤ m.kind ∧ m.kind ≤ 2) ∧ (0 ≤ m.num ∧ m.num ≤ 1073741824) := by
  have h1 := checkM_zero.1 h
  obtain ⟨h2, h3⟩ := msgMay_ok hu h1
  exact ⟨h1, by omega, h2.1.2⟩
end Go.AL

namespace Go.AL
open Go.RowKit Go.NumSpec
def lightT (m : Msg) : Bool := (lightS m.event.pod.spec && decide ((m.reply.data.length : Int) ≤ 300) && decide ((m.reply.pods.length : Int) ≤ 3) && decide ((m.reply.use.length : Int) ≤ 20)) && m.reply.pods.all (fun p => lightS p.spec)
/-- no list of restarts is longer than an int tells -/
def MsgB (m : Msg) : Prop := (∀ p ∈ m.reply.pods, p.ports.length ≤ 9223372036854775807) ∧ m.event.pod.ports.length ≤ 9223372036854775807
theorem lightT_short {m : Msg} (h : lightT m = true) (hb : MsgB m) : ShortM m := by
  unfold lightT at h
  simp only [Bool.and_eq_true, decide_eq_true_eq, List.all_eq_true] at h
  obtain ⟨⟨⟨⟨h1, h2⟩, h3⟩, h4⟩, h5⟩ := h
  exact ⟨⟨by omega, by omega, by omega, fun p hp => ⟨h5 p hp, hb.1 p hp⟩⟩, ⟨h1, hb.2⟩⟩
def conAV (m : Msg) : AV := .agg (.int .i64 0 :: .int .i64 0 :: .S [] :: msgL m)
/-- telling: the code, and what waits -/
def tellC (m : Msg) (o : List (List UInt8)) : Int := if checkM m = 0 then (if 32 ≤ o.length then 8 else 0) else checkM m
def tellO (m : Msg) (o : List (List UInt8)) : List (List UInt8) := if checkM m = 0 ∧ ¬ 32 ≤ o.length then o ++ [msgB m] else o
theorem tell_bad {m : Msg} {o : List (List UInt8)} (h : ¬ checkM m = 0) : tellC m o = checkM m ∧ tellO m o = o := ⟨if_neg h, if_neg fun k => h k.1⟩
theorem tell_full {m : Msg} {o : List (List UInt8)} (h : checkM m = 0) (h2 : 32 ≤ o.length) : tellC m o = 8 ∧ tellO m o = o := ⟨by unfold tellC; rw [if_pos h, if_pos h2], if_neg fun k => k.2 h2⟩
theorem tell_good {m : Msg} {o : List (List UInt8)} (h : checkM m = 0) (h2 : ¬ 32 ≤ o.length) : tellC m o = 0 ∧ tellO m o = o ++ [msgB m] := ⟨by unfold tellC; rw [if_pos h, if_neg h2], if_pos ⟨h, h2⟩⟩
theorem tell_cases (m : Msg) (o : List (List UInt8)) : (¬ checkM m = 0 ∧ tellC m o = checkM m ∧ tellO m o = o) ∨ (checkM m = 0 ∧ 32 ≤ o.length ∧ tellC m o = 8 ∧ tellO m o = o) ∨ (checkM m = 0 ∧ ¬ 32 ≤ o.length ∧ tellC m o = 0 ∧ tellO m o = o ++ [msgB m]) := by
  by_cases h : checkM m = 0
  · by_cases h2 : 32 ≤ o.length
    · exact .inr (.inl ⟨h, h2, tell_full h h2⟩)
    · exact .inr (.inr ⟨h, h2, tell_good h h2⟩)
  · exact .inl ⟨h, tell_bad h⟩
theorem tell_zero {m : Msg} {o : List (List UInt8)} (h : tellC m o = 0) : checkM m = 0 ∧ tellO m o = o ++ [msgB m] ∧ o.length < 32 := by
  rcases tell_cases m o with ⟨h1, h2, h3⟩ | ⟨h1, h1', h2, h3⟩ | ⟨h1, h1', h2, h3⟩
  · rw [h2] at h; exact absurd h h1
  · rw [h2] at h; cases h
  · exact ⟨h1, h3, by omega⟩
theorem tell_keep {m : Msg} {o : List (List UInt8)} (h : ¬ tellC m o = 0) : tellO m o = o := by
  rcases tell_cases m o with ⟨h1, h2, h3⟩ | ⟨h1, h1', h2, h3⟩ | ⟨h1, h1', h2, h3⟩
  · exact h3
  · exact h3
  · exact absurd h2 h
theorem tell_law {m : Msg} {o : List (List UInt8)} : ¬ ((¬ checkM m = 0 ∧ ¬ tellC m o = checkM m) ∨ (checkM m = 0 ∧ (decide (tellC m o = 0) != decide ((o.length : Int) < 32)) = true)) := by
  rcases tell_cases m o with ⟨h1, h2, h3⟩ | ⟨h1, h1', h2, h3⟩ | ⟨h1, h1', h2, h3⟩ <;> rw [h2]
  · simp [h1]
  · rw [h1, decide_eq_false (show ¬ ((o.length : Int) < 32) by omega)]; simp
  · rw [h1, decide_eq_true (show ((o.length : Int) < 32) by omega)]; simp
def readC (o : List (List UInt8)) : Int := if o = [] then 6 else 0
end Go.AL

namespace Go.AL
open Go.RowKit Go.NumSpec
def okLab (x : Lab) : Prop := x.1.length ≤ 9223372036854775807 ∧ x.2.length ≤ 9223372036854775807
def okCtr (c : Ctr) : Prop := fits3 c.req ∧ fits3 c.lim ∧ (∀ p ∈ c.ports, fits p) ∧ fits c.probe.1 ∧ fits c.probe.2
def okSpc (s : Spc) : Prop := (∀ c ∈ s.init, okCtr c) ∧ (∀ c ∈ s.main, okCtr c) ∧ fits s.restart ∧ fits s.grace ∧ fits s.prio
end Go.AL

namespace Go.AL
open Go.RowKit
section
variable {P : Program} {t : TypeId}
theorem Opens.sliceB {e : TypeId} {m : Nat} {α : Type} {toL : α → List AV} {ok : α → Prop} (el : α → AV) (hu : P.underlying t = some (.slice e)) (hm : P.cellsOf e = m) (hpos : 0 < m) (h : Opens P e α toL ok) (hel : ∀ y, (el y).cells = toL y) :
    Opens P t (List α) (fun l => [.sl (l.map el)]) (fun l => l.length ≤ 9223372036854775807 ∧ ∀ y, y ∈ l → ok y) := .mk fun enc w fuel cs x hx => by
  rcases DataW.trod_slice hu hx with ⟨rfl, _⟩ | ⟨a, len, cap, elems, rest, n, rfl, rfl, _, _, hlc, hcap, hlen, hel', _, _⟩
  · exact ⟨[], ⟨by simp, fun y hy => by simp at hy⟩, .one (.sl0 none 0)⟩
  · subst hlen
    have each : ∀ i, i < elems.length → ∃ (cs : List Value) (y : α), ok y ∧ cs.length = m ∧ (∀ j, j < m → w.cell? ((a.add (i * m)).add j) = cs[j]?) ∧ RC w (toL y) cs := fun i hi => by
      have h1 := hel' i hi
      rw [List.getElem?_eq_getElem hi, hm] at h1
      cases hc : w.cells? 0 (a.add (i * m)) m with
      | none => rw [hc] at h1; cases h1
      | some cs =>
        rw [hc] at h1
        obtain ⟨_, h2, h3⟩ := World.cells?_some hc
        obtain ⟨y, hy, hr⟩ := h.run enc w n cs _ h1
        exact ⟨cs, y, hy, h2, h3, hr⟩
    by_cases h0 : elems.length = 0
    · rw [h0]
      exact ⟨[], ⟨by simp, fun y hy => by simp at hy⟩, .one (.sl0 _ _)⟩
    · obtain ⟨b, off, spot⟩ := a
      obtain ⟨cs0, y0, _, hl0, hc0, _⟩ := each 0 (by omega)
      have hspot : spot = none := by
        have h4 : w.cell? ((Addr.add ⟨b, off, spot⟩ (0 * m)).add 0) = some (cs0[0]'(by omega)) := by rw [hc0 0 hpos]; exact List.getElem?_eq_getElem _
        rw [show (Addr.add ⟨b, off, spot⟩ (0 * m)).add 0 = ⟨b, off, spot⟩ by rw [Nat.zero_mul]; rfl] at h4
        exact World.cell?_spot h4
      subst hspot
      have hch : ∃ (F : Nat → List Value) (Y : Nat → α), ∀ i, i < elems.length → ok (Y i) ∧ (F i).length = m ∧ (∀ j, j < m → w.cell? ⟨b, off + i * m + j, none⟩ = (F i)[j]?) ∧ RC w (toL (Y i)) (F i) := by
        refine ⟨fun i => if hi : i < elems.length then (each i hi).choose else [], fun i => if hi : i < elems.length then (each i hi).choose_spec.choose else y0, fun i hi => ?_⟩
        simp only [hi, dite_true]
        obtain ⟨k1, k2, k3, k4⟩ := (each i hi).choose_spec.choose_spec
        refine ⟨k1, k2, fun j hj => ?_, k4⟩
        rw [← k3 j hj]
        rw [Addr.add_mid, Addr.add_mid]
      obtain ⟨F, Y, hFY⟩ := hch
      have hget : ∀ (i : Nat) x, ((List.range elems.length).map fun i => el (Y i))[i]? = some x → i < elems.length ∧ x = el (Y i) := fun i x hx => by
        have hi : i < elems.length := by have := (List.getElem?_eq_some_iff.1 hx).1; simpa using this
        rw [List.getElem?_map, List.getElem?_range hi] at hx
        exact ⟨hi, (Option.some.inj hx).symm⟩
      have hml : maxLen = 9223372036854775807 := rfl
      refine ⟨(List.range elems.length).map Y, ⟨by rw [List.length_map, List.length_range]; omega, fun y hy => ?_⟩, .one ?_⟩
      · obtain ⟨i, hi, rfl⟩ := List.mem_map.1 hy
        exact (hFY i (List.mem_range.1 hi)).1
      · rw [List.map_map]
        have hlen2 : ((List.range elems.length).map fun i => el (Y i)).length = elems.length := by simp
        have hr := R.sl (st := []) (w := w) ((List.range elems.length).map fun i => el (Y i)) b off cap m (fun k => ((F (k / m))[k % m]?).getD undef) (by rw [hlen2]; exact hlc) (fun i x hx => by
          obtain ⟨hi, rfl⟩ := hget i x hx
          obtain ⟨_, k2, _, k4⟩ := hFY i hi
          rw [hel, k4.1, k2]) (fun i x j c hx hc => by
          obtain ⟨hi, rfl⟩ := hget i x hx
          obtain ⟨_, k2, k3, k4⟩ := hFY i hi
          rw [hel] at hc
          have hj : j < m := by have := (List.getElem?_eq_some_iff.1 hc).1; rw [k4.1, k2] at this; exact this
          have e1 : (i * m + j) / m = i := by rw [Nat.mul_comm, Nat.mul_add_div hpos, Nat.div_eq_of_lt hj]; rfl
          have e2 : (i * m + j) % m = j := by rw [Nat.mul_comm, Nat.mul_add_mod, Nat.mod_eq_of_lt hj]
          refine ⟨?_, fun ⟨o, ho, _⟩ => by simp at ho⟩
          rw [e1, e2, k3 j hj]
          simp [k2, hj]) (fun i x j c hx hc => by
          obtain ⟨hi, rfl⟩ := hget i x hx
          obtain ⟨_, k2, k3, k4⟩ := hFY i hi
          rw [hel] at hc
          have hj : j < m := by have := (List.getElem?_eq_some_iff.1 hc).1; rw [k4.1, k2] at this; exact this
          have e1 : (i * m + j) / m = i := by rw [Nat.mul_comm, Nat.mul_add_div hpos, Nat.div_eq_of_lt hj]; rfl
          have e2 : (i * m + j) % m = j := by rw [Nat.mul_comm, Nat.mul_add_mod, Nat.mod_eq_of_lt hj]
          rw [e1, e2]
          exact k4.2 j c _ hc (by simp [k2, hj]))
        rw [hlen2] at hr
        exact hr
end
end Go.AL

namespace Go.AL
theorem tabIs_of_mem {P : Program} {W : World} {name : String} {k : IntKind} {zs : List Int} {g : Nat} {t e : TypeId} {n : Nat}
    (hg : P.globalNamed name = some g) (hty : (P.globals[g]?).map (·.type) = some t) (ht : P.underlying t = some (.array n e)) (he : P.underlying e = some (.int k)) (hce : P.cellsOf e = 1) (hct : P.cellsOf t = n) :
    ∀ {l : List (String × DataW Unit)} {ps : List MemPlace}, (name, Lib.tabData k zs) ∈ l → DataW.LaidVars P W l ps → Lib.TabIs P W name k zs
  | [], _, hm, _ => nomatch hm
  | (m, d) :: r, _, hm, h => by
    obtain ⟨g', t', cs, fuel, p, q, hg', ht', hvar, hd, hr, _⟩ := h
    rcases List.mem_cons.1 hm with hm | hm
    · cases hm
      obtain rfl := Option.some.inj (hg.symm.trans hg')
      obtain rfl := Option.some.inj (hty.symm.trans ht')
      unfold Lib.TabIs
      rw [hvar, ← Lib.cells_of_tab ht he hce hct hd]
    · exact tabIs_of_mem hg hty ht he hce hct hm hr
theorem tabIs_of_laid {P : Program} {W : World} {name : String} {k : IntKind} {zs : List Int} {g : Nat} {t e : TypeId} {n : Nat}
    (hg : P.globalNamed name = some g) (hty : (P.globals[g]?).map (·.type) = some t) (ht : P.underlying t = some (.array n e)) (he : P.underlying e = some (.int k)) (hce : P.cellsOf e = 1) (hct : P.cellsOf t = n)
    {l : List (String × DataW Unit)} (hm : (name, Lib.tabData k zs) ∈ l) (h : laidMet P l W) : Lib.TabIs P W name k zs := by
  obtain ⟨ps, h1, _⟩ := h
  exact tabIs_of_mem hg hty ht he hce hct hm h1
end Go.AL

namespace Go.AL
theorem laid_mem {P : Program} {W : World} {name : String} {d : DataW Unit} : ∀ {l : List (String × DataW Unit)} {ps : List MemPlace}, (name, d) ∈ l → DataW.LaidVars P W l ps →
    ∃ g t cs fuel p, P.globalNamed name = some g ∧ (P.globals[g]?).map (·.type) = some t ∧ W.var? P name = some cs ∧ DataW.trod (fun _ => ()) P W 0 (fun _ => true) false fuel t cs.toList = some (d, p)
  | [], _, hm, _ => nomatch hm
  | (m, d') :: r, _, hm, h => by
    obtain ⟨g', t', cs, fuel, p, q, hg', ht', hvar, hd, hr, _⟩ := h
    rcases List.mem_cons.1 hm with hm | hm
    · cases hm
      exact ⟨g', t', cs, fuel, p, hg', ht', hvar, hd⟩
    · exact laid_mem hm hr
section
variable {H : Type} {enc : TypeId × Value → H} {P : Program} {w : World} {base : Nat} {sp : Nat → Bool} {held : Bool} {fuel : Nat} {t e : TypeId}
end
end Go.AL

namespace Go.AL
section
variable {H : Type} {enc : TypeId × Value → H} {P : Program} {w : World} {base : Nat} {sp : Nat → Bool} {held : Bool} {fuel : Nat} {t e : TypeId}
theorem row2_cells {f0 f1 : Field} {xs : List Value} {a b : List UInt8} {p : List MemPlace} (he : P.underlying e = some (.struct #[f0, f1])) (hc : P.cellsOf e = 2) (o0 : f0.offset = 0) (o1 : f1.offset = 1) (c0 : P.cellsOf f0.type = 1) (c1 : P.cellsOf f1.type = 1) (t0 : P.underlying f0.type = some .string) (t1 : P.underlying f1.type = some .string)
    (h : DataW.trod enc P w base sp held fuel e xs = some (.agg [.lit (.string a), .lit (.string b)], p)) : xs = [.string ⟨a.toArray⟩, .string ⟨b.toArray⟩] := by
  obtain ⟨ys, n, _, hx, hl, hlen, hf⟩ := DataW.trod_struct he h
  match ys, hlen with
  | [y0, y1], _ =>
    simp only [Prod.mk.injEq, DataW.agg.injEq, List.map_cons, List.map_nil, List.cons.injEq, and_true] at hx
    have h0 : DataW.trod enc P w base sp held n f0.type ((xs.drop f0.offset).take (P.cellsOf f0.type)) = some y0 := by simpa using hf 0 f0 rfl
    have h1 : DataW.trod enc P w base sp held n f1.type ((xs.drop f1.offset).take (P.cellsOf f1.type)) = some y1 := by simpa using hf 1 f1 rfl
    rw [o0, c0] at h0; rw [o1, c1] at h1
    obtain ⟨s, k0, k1, _⟩ := DataW.trod_string t0 h0
    obtain ⟨s2, k2, k3, _⟩ := DataW.trod_string t1 h1
    have hl2 : xs.length = 2 := by rw [hl, hc]
    match xs, hl2 with
    | [x0, x1], _ =>
      simp at k0 k2
      subst k0 k2
      rw [k1, k3] at hx
      simp at hx
      obtain ⟨⟨ha, hb⟩, _⟩ := hx
      rw [ha, hb]
theorem kinds_cells {f0 f1 : Field} {cs : List Value} {p : List MemPlace} (ht : P.underlying t = some (.array 13 e)) (hct : P.cellsOf t = 26) (he : P.underlying e = some (.struct #[f0, f1])) (hc : P.cellsOf e = 2) (o0 : f0.offset = 0) (o1 : f1.offset = 1) (c0 : P.cellsOf f0.type = 1) (c1 : P.cellsOf f1.type = 1) (t0 : P.underlying f0.type = some .string) (t1 : P.underlying f1.type = some .string)
    (h : DataW.trod enc P w base sp held fuel t cs = some (.agg (kindsT.map fun x => .agg [.lit (.string x.1), .lit (.string x.2)]), p)) : ∀ (j : Nat) u, kindsV[j]? = some u → cs[j]? = some u := by
  obtain ⟨xs, m, _, hx, hl, hlen, hf⟩ := DataW.trod_array ht h
  have hx1 : xs.map (·.1) = kindsT.map fun x => .agg [.lit (.string x.1), .lit (.string x.2)] := by
    have := congrArg Prod.fst hx
    simpa using this.symm
  have hrow : ∀ i, i < 13 → (cs.drop (i * 2)).take 2 = [.string ⟨(kindA i).1.toArray⟩, .string ⟨(kindA i).2.toArray⟩] := fun i hi => by
    have h1 := hf i hi
    rw [hc] at h1
    have hi2 : i < xs.length := by omega
    rw [List.getElem?_eq_getElem hi2] at h1
    have h2 : (xs[i]).1 = .agg [.lit (.string (kindA i).1), .lit (.string (kindA i).2)] := by
      have h3 := congrArg (·[i]?) hx1
      simp only [List.getElem?_map, List.getElem?_eq_getElem hi2, List.getElem?_eq_getElem (show i < kindsT.length from hi), Option.map_some, Option.some.injEq] at h3
      rw [h3]
      have e9 : kindA i = kindsT[i]'(show i < kindsT.length from hi) := by unfold kindA; rw [List.getD_eq_getElem?_getD, List.getElem?_eq_getElem (show i < kindsT.length from hi)]; rfl
      rw [e9]
    refine row2_cells (p := (xs[i]).2) he hc o0 o1 c0 c1 t0 t1 (h1.trans ?_)
    rw [← h2]
  intro j u hu
  have hj : j < 26 := (List.getElem?_eq_some_iff.1 hu).1
  have hr := hrow (j / 2) (by omega)
  have hv := kind_at (i := j / 2) (by omega)
  have e1 : cs[j]? = ((cs.drop (j / 2 * 2)).take 2)[j % 2]? := by
    rw [List.getElem?_take_of_lt (by omega), List.getElem?_drop]
    congr 1; omega
  rw [e1, hr, ← hu]
  have h3 : j % 2 = 0 ∨ j % 2 = 1 := by omega
  rcases h3 with h3 | h3
  · rw [h3, show j = 2 * (j / 2) by omega, hv.1]; rw [show (2 * (j / 2)) / 2 = j / 2 by omega]; rfl
  · rw [h3, show j = 2 * (j / 2) + 1 by omega, hv.2]; rw [show (2 * (j / 2) + 1) / 2 = j / 2 by omega]; rfl
end
end Go.AL
