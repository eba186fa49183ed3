/-
The logic AL: a region whose order is drawn, and whose operations leave the state as it is: one walk in the text's order serves every order.
Conditions: none; no program is in sight.
-/
import Derived.Test.YtnjlecejhnoicaaDoorAlFn
import Derived.Still
set_option linter.unusedVariables false
set_option linter.unusedSimpArgs false
namespace Go.AL
open Go.RowKit

/-- The slots that an operation reads, its guard's among them. -/
def readsOf (ops : Array Oper) (o : Oper) : List Nat :=
  (match o.guard with | some (g, _) => (match (ops[g]?).bind (·.dst) with | some d => [d] | none => []) | none => []) ++ o.op.operands.toList.filterMap fun | .tmp t => some t | _ => none
def sub (ts : List Nat) (env : Env) : Env := env.filter fun p => ts.contains p.1

theorem sub_lookup {ts : List Nat} : ∀ {env : Env} {i : Nat} {x : AV}, (sub ts env).lookup i = some x → env.lookup i = some x ∧ i ∈ ts
  | [], i, x, h => by simp [sub] at h
  | (k, y) :: env, i, x, h => by
    unfold sub at h
    rw [List.filter_cons] at h
    by_cases hk : ts.contains k = true
    · simp only [hk, if_true, List.lookup_cons] at h
      by_cases hik : i = k
      · subst hik
        simp only [beq_self_eq_true] at h
        exact ⟨by simp [List.lookup_cons]; simpa using h, by simpa using hk⟩
      · have hne : (i == k) = false := by simpa using hik
        simp only [hne] at h
        obtain ⟨h1, h2⟩ := sub_lookup (env := env) h
        exact ⟨by simp only [List.lookup_cons, hne]; exact h1, h2⟩
    · simp only [hk, Bool.false_eq_true, if_false] at h
      obtain ⟨h1, h2⟩ := sub_lookup (env := env) h
      by_cases hik : i = k
      · subst hik
        exact absurd (by simpa using h2) hk
      · have hne : (i == k) = false := by simpa using hik
        exact ⟨by simp only [List.lookup_cons, hne]; exact h1, h2⟩

section
variable {P : Program} {N : Nat} {Q : Post} {env : Env} {st : St} {ops : Array Oper}

/-- An operation, wanted or not, yields V (where it isn't wanted: what V says of that). -/
def QStep (P : Program) (N : Nat) (ops : Array Oper) (o : Oper) (env : Env) (st : St) (V : AV) : Prop :=
  ∀ a w, Good N env st a w → ∀ (next : Act → World → Prop) (Q : Exit → Act → World → Prop), (∀ v w', R st w' V v → Rel st w' → Ext st w st w' → next (a.put o.dst v) w') →
    if Region.wanted o (yielded ops a.tmps) then o.wp P a w next Q else next (a.put o.dst undef) w

theorem Q_p {o : Oper} {V : AV} (hgd : o.guard = none) (hs : PStep P N o env st V) : QStep P N ops o env st V := by
  intro a w hg next Q hn
  rw [if_pos (by simp [Region.wanted, hgd])]
  refine hs a w hg _ _ fun x st' v w' hk hr hrel hx => ?_
  obtain ⟨rfl, rfl⟩ := hk
  exact hn v w' hr hrel hx
theorem Q_g {o : Oper} {V : AV} {g d : Nat} {want b : Bool} (hgd : o.guard = some (g, want)) (hj : ((ops[g]?).bind (·.dst)) = some d) (hb : AEv env (.tmp d) (.bool b)) (hs : gd b want = true → PStep P N o env st V) : QStep P N ops o env st (.cond (gd b want) V) := by
  intro a w hg next Q hn
  have hy := lookup_of hg hj hb
  by_cases hw : gd b want = true
  · have hbw : b = want := by cases want <;> simpa [gd] using hw
    rw [if_pos (by simp [Region.wanted, hgd, hy, hbw])]
    refine hs hw a w hg _ _ fun x st' v w' hk hr hrel hx => ?_
    obtain ⟨rfl, rfl⟩ := hk
    exact hn v w' (.cond _ _ _ (fun _ => hr) fun h => absurd hw (by simp [h])) hrel hx
  · have hbw : (b == want) = false := by cases want <;> cases b <;> simp_all [gd]
    rw [if_neg (by simp [Region.wanted, hgd, hy]; simpa using hbw)]
    exact hn undef w (.cond _ _ _ (fun h => absurd h hw) fun _ => rfl) hg.rel (.refl _ _)
theorem Q_gg {o : Oper} {V : AV} {g d : Nat} {want b c : Bool} (hgd : o.guard = some (g, want)) (hj : ((ops[g]?).bind (·.dst)) = some d) (hb : AEv env (.tmp d) (.cond c (.bool b))) (hs : c = true → gd b want = true → (c && gd b want) = true → PStep P N o env st V) : QStep P N ops o env st (.cond (c && gd b want) V) := by
  cases c with
  | true => simpa using Q_g hgd hj (hb.cond rfl) fun h => hs rfl h (by simp [h])
  | false =>
    intro a w hg next Q hn
    have hy : yielded ops a.tmps g = none := by
      have h1 := hb N st a w hg
      have h2 : a.tmps.getD d undef = undef := by
        cases h1 with
        | cond _ _ _ _ h' => exact h' rfl
      unfold yielded
      rw [hj]
      rw [Array.getD_eq_getD_getElem?] at h2
      cases hd : a.tmps[d]? with
      | none => simp [hd]
      | some v => rw [hd] at h2; simp only [Option.getD_some] at h2; subst h2; simp [hd, undef]
    rw [if_neg (by simp [Region.wanted, hgd, hy])]
    exact hn undef w (.cond _ _ _ (fun h => by simp at h) fun _ => rfl) hg.rel (.refl _ _)

/-- The walk in the text's order. -/
inductive AQ (P : Program) (N : Nat) (ops : Array Oper) (st : St) : List Oper → Env → List AV → Env → Prop
  | nil {env : Env} : AQ P N ops st [] env [] env
  | cons {o : Oper} {rest : List Oper} {env envF : Env} {V : AV} {Vs : List AV} (hd : dstIn N o.dst = true) (hs : QStep P N ops o (sub (readsOf ops o) env) st V) (h : AQ P N ops st rest (putE o.dst V env) Vs envF) : AQ P N ops st (o :: rest) env (V :: Vs) envF

/-! What stands before what. -/
inductive Bef (ops : Array Oper) : Nat → Nat → Prop
  | one {i j : Nat} {o : Oper} {e : Edge} (ho : ops[i]? = some o) (he : e ∈ o.after) (hb : Region.binds .any e = true) (hj : e.on = j) : Bef ops j i
  | more {i j k : Nat} {o : Oper} {e : Edge} (ho : ops[i]? = some o) (he : e ∈ o.after) (hb : Region.binds .any e = true) (hj : e.on = j) (h : Bef ops k j) : Bef ops k i

def predsStep (acc : List (List Nat)) (o : Oper) : List (List Nat) :=
  acc ++ [((o.after.toList.filter (Region.binds .any ·)).flatMap fun e => e.on :: acc.getD e.on []).eraseDups]
def preds (ops : Array Oper) : List (List Nat) := ops.toList.foldl predsStep []

theorem preds_sound (ops : Array Oper) : ∀ (i j : Nat), j ∈ (preds ops).getD i [] → Bef ops j i := by
  have key : ∀ (l : List Oper) (acc : List (List Nat)), (∀ k, l[k]? = ops[acc.length + k]?) → (∀ i j, j ∈ acc.getD i [] → Bef ops j i) → ∀ i j, j ∈ (l.foldl predsStep acc).getD i [] → Bef ops j i := by
    intro l
    induction l with
    | nil => intro acc _ h i j hj; exact h i j hj
    | cons o l ih =>
      intro acc hl h
      simp only [List.foldl_cons]
      refine ih _ (fun k => ?_) fun i j hj => ?_
      · have := hl (k + 1)
        simp only [List.getElem?_cons_succ] at this
        rw [this]
        simp [predsStep]
        congr 1
        omega
      · have ho : ops[acc.length]? = some o := by simpa using (hl 0).symm
        unfold predsStep at hj
        rcases Nat.lt_trichotomy i acc.length with hi | hi | hi
        · rw [List.getD_eq_getElem?_getD, List.getElem?_append_left hi, ← List.getD_eq_getElem?_getD] at hj
          exact h i j hj
        · subst hi
          rw [List.getD_eq_getElem?_getD, List.getElem?_append_right (Nat.le_refl _)] at hj
          simp only [Nat.sub_self, List.getElem?_cons_zero, Option.getD_some, List.mem_eraseDups, List.mem_flatMap, List.mem_filter, Array.mem_toList_iff, List.mem_cons] at hj
          obtain ⟨e, ⟨he, hb⟩, hj⟩ := hj
          rcases hj with hj | hj
          · exact .one ho he hb hj.symm
          · exact .more ho he hb rfl (h _ _ hj)
        · rw [List.getD_eq_getElem?_getD, List.getElem?_eq_none (by simp; omega)] at hj
          simp at hj
  exact key ops.toList [] (fun k => by simp) (fun i j h => by simp at h)

/-- Whatever an operation reads or writes is written by operations that come surely before it or surely behind it; edges lead back. -/
def orderOk (ops : Array Oper) : Bool :=
  let ps := preds ops
  (List.range ops.size).all fun i =>
    match ops[i]? with
    | none => true
    | some o =>
      (o.after.all fun e => !Region.binds .any e || decide (e.on < i)) &&
      (List.range ops.size).all fun j =>
        match ops[j]? with
        | none => true
        | some p => match p.dst with
          | none => true
          | some t => i == j || !((readsOf ops o ++ o.dst.toList).contains t) || (if j < i then (ps.getD i []).contains j else (ps.getD j []).contains i)

theorem orderOk_spec (h : orderOk ops = true) : (∀ (i : Nat) o, ops[i]? = some o → ∀ e ∈ o.after, Region.binds .any e = true → e.on < i) ∧
    ∀ (i j : Nat) o p t, ops[i]? = some o → ops[j]? = some p → p.dst = some t → (t ∈ readsOf ops o ∨ o.dst = some t) → (j < i → Bef ops j i) ∧ (i < j → Bef ops i j) := by
  unfold orderOk at h
  simp only [List.all_eq_true, List.mem_range] at h
  have lt : ∀ (i : Nat) o, ops[i]? = some o → i < ops.size := fun i o ho => (Array.getElem?_eq_some_iff.1 ho).1
  refine ⟨fun i o ho e he hb => ?_, fun i j o p t ho hp ht hr => ?_⟩
  · have := h i (lt i o ho)
    simp only [ho, Bool.and_eq_true, Array.all_eq_true_iff_forall_mem] at this
    have := this.1 e he
    simpa [hb] using this
  · have h1 := h i (lt i o ho)
    simp only [ho, Bool.and_eq_true, List.all_eq_true, List.mem_range] at h1
    have h2 := h1.2 j (lt j p hp)
    simp only [hp, ht, Bool.or_eq_true, beq_iff_eq] at h2
    have hc : (!((readsOf ops o ++ o.dst.toList).contains t)) = false := by
      simp only [Bool.not_eq_false', List.contains_iff_mem, List.mem_append]
      rcases hr with hr | hr
      · exact .inl hr
      · exact .inr (by simp [hr])
    refine ⟨fun hlt => ?_, fun hlt => ?_⟩
    · rcases h2 with (h2 | h2) | h2
      · omega
      · rw [hc] at h2; cases h2
      · rw [if_pos hlt] at h2
        exact preds_sound ops i j (by simpa using h2)
    · rcases h2 with (h2 | h2) | h2
      · omega
      · rw [hc] at h2; cases h2
      · rw [if_neg (by omega)] at h2
        exact preds_sound ops j i (by simpa using h2)

/-- What slot t is known as, once the operations listed among the first k are done. -/
def cur (ops : List Oper) (Vs : List AV) (listed : Nat → Bool) (env : Env) (t : Nat) : Nat → Option AV
  | 0 => env.lookup t
  | k + 1 => if listed k && ((ops[k]?).bind (·.dst)) == some t then Vs[k]? else cur ops Vs listed env t k

/-- The frame of the text's order ahead of operation k. -/
def lexEnv (ops : List Oper) (Vs : List AV) (env : Env) (k : Nat) (t : Nat) : Option AV := cur ops Vs (fun _ => true) env t k

theorem lexEnv_cons {o : Oper} {rest : List Oper} {V : AV} {Vs : List AV} {env : Env} (i t : Nat) : lexEnv rest Vs (putE o.dst V env) i t = lexEnv (o :: rest) (V :: Vs) env (i + 1) t := by
  unfold lexEnv
  induction i with
  | zero =>
    simp only [cur, Bool.true_and, List.getElem?_cons_zero, Option.bind_some]
    cases hod : o.dst with
    | none => simp [putE]
    | some d =>
      by_cases hdt : d = t
      · subst hdt; simp [putE, List.lookup_cons]
      · have : (t == d) = false := by simpa using fun h => hdt h.symm
        simp [putE, List.lookup_cons, this, hdt]
  | succ i ih2 =>
    rw [cur, cur]
    simp only [Bool.true_and, List.getElem?_cons_succ]
    rw [ih2]

theorem AQ.last : ∀ {l : List Oper} {env envF : Env} {Vs : List AV}, AQ P N ops st l env Vs envF → ∀ t, envF.lookup t = lexEnv l Vs env l.length t := by
  intro l env envF Vs h
  induction h with
  | nil => intro t; rfl
  | @cons o rest env envF V Vs hd hs h ih => intro t; rw [ih t, lexEnv_cons]; rfl

theorem AQ.spec : ∀ {l : List Oper} {env envF : Env} {Vs : List AV}, AQ P N ops st l env Vs envF → Vs.length = l.length ∧ ∀ (i : Nat) o, l[i]? = some o → ∃ V env', Vs[i]? = some V ∧ dstIn N o.dst = true ∧ QStep P N ops o (sub (readsOf ops o) env') st V ∧ ∀ t, env'.lookup t = lexEnv l Vs env i t := by
  intro l env envF Vs h
  induction h with
  | nil => exact ⟨rfl, fun i o h => by simp at h⟩
  | @cons o rest env envF V Vs hd hs h ih =>
    refine ⟨by simp [ih.1], fun i p hp => ?_⟩
    cases i with
    | zero =>
      simp at hp
      subst hp
      exact ⟨V, env, by simp, hd, hs, fun t => rfl⟩
    | succ i =>
      obtain ⟨V', env', h1, h2, h3, h4⟩ := ih.2 i p (by simpa using hp)
      refine ⟨V', env', by simpa using h1, h2, h3, fun t => ?_⟩
      rw [h4 t, lexEnv_cons]

theorem cur_congr {l : List Oper} {Vs : List AV} {f g : Nat → Bool} {t : Nat} : ∀ (k : Nat), (∀ j, j < k → ((l[j]?).bind (·.dst)) = some t → f j = g j) → cur l Vs f env t k = cur l Vs g env t k
  | 0, _ => rfl
  | k + 1, h => by
    rw [cur, cur, cur_congr k fun j hj => h j (by omega)]
    by_cases hd : ((l[k]?).bind (·.dst)) = some t
    · rw [h k (by omega) hd]
    · have : (((l[k]?).bind (·.dst)) == some t) = false := by simpa using hd
      simp [this]

/-- Behind i nothing that writes t is done: what stands at the end stands at i. -/
theorem cur_upto {l : List Oper} {Vs : List AV} {f : Nat → Bool} {t : Nat} (i : Nat) : ∀ (k : Nat), i ≤ k → (∀ j, i ≤ j → j < k → ((l[j]?).bind (·.dst)) = some t → f j = false) → cur l Vs f env t k = cur l Vs f env t i
  | 0, h, _ => by rw [Nat.le_zero.1 h]
  | k + 1, h, hf => by
    rcases Nat.lt_or_ge i (k + 1) with h' | h'
    · rw [cur]
      by_cases hd : ((l[k]?).bind (·.dst)) = some t
      · rw [hf k (by omega) (by omega) hd]
        simp only [Bool.false_and, Bool.false_eq_true, if_false]
        exact cur_upto i k (by omega) fun j h1 h2 => hf j h1 (by omega)
      · have : (((l[k]?).bind (·.dst)) == some t) = false := by simpa using hd
        simp only [this, Bool.and_false, Bool.false_eq_true, if_false]
        exact cur_upto i k (by omega) fun j h1 h2 => hf j h1 (by omega)
    · rw [show i = k + 1 by omega]

def frees (n : Nat) (listed : Array Bool) : Nat := ((List.range n).filter fun i => !listed.getD i true).length

theorem frees_zero {n : Nat} {listed : Array Bool} (h : frees n listed = 0) (i : Nat) (hi : i < n) : listed.getD i true = true := by
  have : ((List.range n).filter fun i => !listed.getD i true) = [] := List.eq_nil_of_length_eq_zero h
  rw [List.filter_eq_nil_iff] at this
  simpa using this i (List.mem_range.2 hi)

theorem frees_set {n i : Nat} {listed : Array Bool} (hi : i < n) (hl : listed.getD i true = false) : frees n (listed.setIfInBounds i true) + 1 = frees n listed := by
  unfold frees
  have hsz : i < listed.size := by
    rcases Nat.lt_or_ge i listed.size with h | h
    · exact h
    · simp [Array.getElem?_eq_none h] at hl
  induction n with
  | zero => omega
  | succ n ih =>
    rw [List.range_succ, List.filter_append, List.filter_append, List.length_append, List.length_append]
    rcases Nat.lt_or_ge i n with h | h
    · have := ih h
      have e : (listed.setIfInBounds i true).getD n true = listed.getD n true := getD_set_ne true (by omega)
      simp only [List.filter_cons, List.filter_nil, e]
      omega
    · have hin : i = n := by omega
      subst hin
      have e : (listed.setIfInBounds i true).getD i true = true := by simp [hsz]
      have e2 : ((List.range i).filter fun j => !(listed.setIfInBounds i true).getD j true) = (List.range i).filter fun j => !listed.getD j true := by
        refine List.filter_congr fun j hj => ?_
        rw [getD_set_ne true (by have := List.mem_range.1 hj; omega)]
      rw [e2]
      simp only [List.filter_cons, List.filter_nil, e, hl]
      simp

/-- 'listed' leaves out nothing that stands before what it holds. -/
def Closed (ops : Array Oper) (listed : Array Bool) : Prop := ∀ (i : Nat) o, ops[i]? = some o → listed.getD i false = true → ∀ e ∈ o.after, Region.binds .any e = true → listed.getD e.on false = true

theorem Closed.bef {listed : Array Bool} (h : Closed ops listed) {j i : Nat} (hb : Bef ops j i) (hi : (∃ o, ops[i]? = some o ∧ ∀ e ∈ o.after, Region.binds .any e = true → listed.getD e.on false = true)) : listed.getD j false = true := by
  induction hb with
  | one ho he hb hj =>
    obtain ⟨o, ho', hall⟩ := hi
    rw [ho] at ho'; cases ho'
    rw [← hj]; exact hall _ he hb
  | @more i j k o e ho he hb hj hk ih =>
    obtain ⟨o', ho', hall⟩ := hi
    rw [ho] at ho'; cases ho'
    have hlj : listed.getD j false = true := by rw [← hj]; exact hall _ he hb
    refine ih ?_
    cases hoj : ops[j]? with
    | none =>
      cases hk with
      | one h1 _ _ _ => rw [hoj] at h1; cases h1
      | more h1 _ _ _ _ => rw [hoj] at h1; cases h1
    | some oj => exact ⟨oj, rfl, h j oj hoj hlj⟩

theorem rep_false (n i : Nat) : (Array.replicate n false).getD i false = false := by
  rw [Array.getD_eq_getD_getElem?, Array.getElem?_replicate]; split <;> rfl

/-- ONE WALK FOR EVERY ORDER. -/
theorem AC_draw {id : Nat} {l : List Oper} {Vs : List AV} {envF : Env} (hm : P.follows .mixedOrders = true) (hok : orderOk l.toArray = true) (hq : AQ P N l.toArray st l env Vs envF) (h : Q .normal envF st) : AC P N (.region id l.toArray true) Q env st := by
  have hF := hq.last
  obtain ⟨hback, hwr⟩ := orderOk_spec hok
  obtain ⟨hlen, hsp⟩ := hq.spec
  intro a w hg
  have hn := hg.rel.nodup
  have hdrew : Ext st w st { w with drawn := w.drawn + 1 } := ⟨rfl, rfl, rfl, fun _ _ => rfl, Nat.le_refl _, fun _ _ _ => rfl, fun _ _ _ _ _ _ _ _ _ => rfl, fun _ _ _ h => h, fun _ _ _ _ => rfl⟩
  refine wp_region_any hm ?_
  have main : ∀ (fuel : Nat) (listed : Array Bool) (a : Act) (w1 : World), frees l.length listed = fuel → listed.size = l.length → Closed l.toArray listed → a.tmps.size = N → a.defers = [] → Rel st w1 → Ext st w st w1 →
      (∀ t x, cur l Vs (fun i => listed.getD i false) env t l.length = some x → ∃ v, a.tmps[t]? = some v ∧ R st w1 x v) → wpAny P .any l.toArray (Sat N Q st w) fuel listed a w1 := by
    intro fuel
    have fin : ∀ (listed : Array Bool) (a : Act) (w1 : World), (∀ i, i < l.length → listed.getD i true = true) → listed.size = l.length → a.tmps.size = N → a.defers = [] → Rel st w1 → Ext st w st w1 →
        (∀ t x, cur l Vs (fun i => listed.getD i false) env t l.length = some x → ∃ v, a.tmps[t]? = some v ∧ R st w1 x v) → Sat N Q st w .normal a w1 := by
      intro listed a w1 hall hsz h1 h2 h3 h4 h5
      have e : ∀ t, cur l Vs (fun i => listed.getD i false) env t l.length = lexEnv l Vs env l.length t := fun t => cur_congr _ fun j hj _ => by
        have := hall j hj
        have hj' : j < listed.size := by omega
        simp [hj'] at this ⊢
        exact this
      refine ⟨envF, st, h, ⟨h1, h2, fun t x hx => ?_, h3⟩, h4⟩
      rw [hF, ← e] at hx
      exact h5 t x hx
    induction fuel with
    | zero =>
      intro listed a w1 hf hsz hcl h1 h2 h3 h4 h5
      have hall := fun i hi => frees_zero hf i hi
      refine ⟨?_, fin listed a w1 hall hsz h1 h2 h3 h4 h5⟩
      rw [List.eq_nil_iff_forall_not_mem]
      intro j hj
      obtain ⟨hj1, o, ho, _⟩ := mem_ready.1 hj
      have : j < l.length := by have := (Array.getElem?_eq_some_iff.1 ho).1; simpa using this
      rw [hall j this] at hj1
      cases hj1
    | succ fuel ih =>
      intro listed a w1 hf hsz hcl h1 h2 h3 h4 h5
      refine ⟨fun hr => ?_, fun i hi => ?_⟩
      · refine fin listed a w1 (fun i hi => ?_) hsz h1 h2 h3 h4 h5
        induction i using Nat.strongRecOn with
        | _ i ihi =>
          cases hli : listed.getD i true with
          | true => rfl
          | false =>
            exfalso
            have hio : l.toArray[i]? = some l[i] := by simp [hi]
            have : i ∈ Region.ready .any l.toArray listed := mem_ready.2 ⟨hli, l[i], hio, fun e he hb => by
              have hlt := hback i _ hio e he hb
              have := ihi e.on hlt (by omega)
              have hj' : e.on < listed.size := by omega
              simp [hj'] at this ⊢
              exact this⟩
            rw [hr] at this
            cases this
      · obtain ⟨hi1, o, ho, hall⟩ := mem_ready.1 hi
        have hil : i < l.length := by have := (Array.getElem?_eq_some_iff.1 ho).1; simpa using this
        have hisz : i < listed.size := by omega
        have hol : l[i]? = some o := by simpa using ho
        have hif : listed.getD i false = false := by simp [hisz] at hi1 ⊢; exact hi1
        obtain ⟨V, env', hV, hd, hs, henv⟩ := hsp i o hol
        -- writers of t ahead of i are done, writers behind i are not
        have ahead : ∀ t, (t ∈ readsOf l.toArray o ∨ o.dst = some t) → ∀ j, j < l.length → ((l[j]?).bind (·.dst)) = some t → (j < i → listed.getD j false = true) ∧ (i < j → listed.getD j false = false) := by
          intro t ht j hj hjd
          cases hpj : l[j]? with
          | none => simp [hpj] at hjd
          | some p =>
            have hp' : l.toArray[j]? = some p := by simpa using hpj
            simp only [hpj, Option.bind_some] at hjd
            obtain ⟨k1, k2⟩ := hwr i j o p t ho hp' hjd ht
            refine ⟨fun hlt => hcl.bef (k1 hlt) ⟨o, ho, hall⟩, fun hlt => ?_⟩
            cases hlj : listed.getD j false with
            | false => rfl
            | true =>
              have := hcl.bef (k2 hlt) ⟨p, hp', hcl j p hp' hlj⟩
              rw [hif] at this
              cases this
        have hgood : Good N (sub (readsOf l.toArray o) env') st a w1 := by
          refine ⟨h1, h2, fun t x hx => ?_, h3⟩
          obtain ⟨hx1, hx2⟩ := sub_lookup hx
          rw [henv t] at hx1
          refine h5 t x ?_
          rw [cur_upto i l.length (by omega) fun j hij hj hjd => by
            rcases Nat.lt_or_ge i j with h' | h'
            · exact (ahead t (.inl hx2) j hj hjd).2 h'
            · have : j = i := by omega
              subst this; exact hif]
          rw [← hx1]
          exact cur_congr _ fun j hj hjd => (ahead t (.inl hx2) j (by omega) hjd).1 hj
        unfold wpOp
        rw [ho]
        dsimp only
        have hcl' : Closed l.toArray (listed.setIfInBounds i true) := by
          intro k p hp hk e he hb
          by_cases hki : k = i
          · subst hki
            rw [ho] at hp; cases hp
            exact getD_set_true (hall e he hb)
          · rw [getD_set_ne false (Ne.symm hki)] at hk
            exact getD_set_true (hcl k p hp hk e he hb)
        have next : ∀ v w', R st w' V v → Rel st w' → Ext st w1 st w' → wpAny P .any l.toArray (Sat N Q st w) fuel (listed.setIfInBounds i true) (a.put o.dst v) w' := by
          intro v w' hr hrel hx
          have hn1 := h3.nodup
          refine ih _ _ _ (by have := frees_set hil hi1; omega) (by simpa using hsz) hcl' (by cases o.dst <;> simp [Act.put, h1]) (by cases o.dst <;> simp [Act.put, h2]) hrel (h4.trans hx hn) fun t x hx' => ?_
          by_cases hdt : o.dst = some t
          · -- this slot
            have e1 : cur l Vs (fun k => (listed.setIfInBounds i true).getD k false) env t l.length = some V := by
              rw [cur_upto (i + 1) l.length (by omega) fun j hij hj hjd => by
                rw [getD_set_ne false (by omega)]
                exact (ahead t (.inr hdt) j hj hjd).2 (by omega)]
              rw [cur]
              have : (listed.setIfInBounds i true).getD i false = true := by simp [hisz]
              simp [hol, hdt, hisz, hV]
            rw [e1] at hx'
            cases hx'
            have ht : t < N := dstIn_spec hd t hdt
            exact ⟨v, by simp [Act.put, hdt, h1, ht], hr⟩
          · have e1 : cur l Vs (fun k => (listed.setIfInBounds i true).getD k false) env t l.length = cur l Vs (fun k => listed.getD k false) env t l.length := cur_congr _ fun j hj hjd => by
              by_cases hji : j = i
              · subst hji; simp [hol, hdt] at hjd
              · exact getD_set_ne false (Ne.symm hji)
            rw [e1] at hx'
            obtain ⟨u, hu, hru⟩ := h5 t x hx'
            refine ⟨u, ?_, hru.mono hx hn1⟩
            cases hod : o.dst with
            | none => simpa [Act.put] using hu
            | some d =>
              have : d ≠ t := fun e => hdt (by rw [hod, e])
              simp only [Act.put]
              rw [Array.getElem?_setIfInBounds_ne this]
              exact hu
        have hstep := hs a w1 hgood _ (Sat N Q st w) next
        split
        · rename_i hw
          rw [if_pos hw] at hstep
          exact .inl hstep
        · rename_i hw
          rw [if_neg hw] at hstep
          exact hstep
  refine main l.toArray.size _ a _ ?_ (by simp) ?_ hg.size hg.defers ⟨hn, fun b cs hb => let ⟨vs, T, k1, k2, k3⟩ := hg.rel.cells b cs hb; ⟨vs, T, k1, k2, fun i c v hc hv => (k3 i c v hc hv).mono hdrew hn⟩, hg.rel.grow, hg.rel.konst⟩ hdrew fun t x hx => ?_
  · unfold frees
    rw [List.filter_eq_self.2 fun i hi => by have := List.mem_range.1 hi; simp [this]]
    simp
  · intro i o ho hi
    rw [rep_false] at hi
    cases hi
  · have e : cur l Vs (fun i => (Array.replicate l.toArray.size false).getD i false) env t l.length = env.lookup t := by
      rw [cur_upto 0 l.length (by omega) fun j _ hj _ => rep_false _ _]
      rfl
    rw [e] at hx
    obtain ⟨v, hv, hr⟩ := hg.env t x hx
    exact ⟨v, hv, hr.mono hdrew hn⟩
end

end Go.AL
