/-
The logic AL: a region whose order is drawn, with operations that allocate, store, call: a plan (an order of its operations, and of which kind each is) serves every order that may be drawn.
Conditions: none; no program is in sight.
-/
import Derived.Test.YtnjlecejhnoicaaDoorAlMore
set_option linter.unusedVariables false
set_option linter.unusedSimpArgs false
namespace Go.AL
open Go.RowKit

theorem Ext.sub {w : World} {st st' : St} (h : ∀ p, p ∈ st' → p ∈ st) : Ext st w st' w :=
  ⟨rfl, rfl, rfl, fun _ _ => rfl, Nat.le_refl _, fun _ _ _ => rfl, fun _ _ _ _ _ _ _ _ _ => rfl, fun b off _ ⟨o, ho, hp⟩ => ⟨o, h _ ho, hp⟩, fun _ _ _ _ => rfl⟩
theorem Rel.sub {w : World} {st st' : St} (hr : Rel st w) (h : ∀ p, p ∈ st' → p ∈ st) (hn : (st'.map (·.1)).Nodup) : Rel st' w := by
  refine ⟨hn, fun b cs hb => ?_, fun b e size n cap hb => hr.grow b e size n cap (h _ hb), fun b vs hb => hr.konst b vs (h _ hb)⟩
  obtain ⟨vs, T, h1, h2, h3⟩ := hr.cells b cs (h _ hb)
  exact ⟨vs, T, h1, h2, fun i c v hc hv => (h3 i c v hc hv).mono (Ext.sub h) hr.nodup⟩

/-- Two operations that meet in a slot. -/
def confl (ops : Array Oper) (o o' : Oper) : Bool :=
  (o.dst.toList.any fun t => (readsOf ops o' ++ o'.dst.toList).contains t) || (readsOf ops o).any fun t => o'.dst.toList.contains t
theorem confl_w {ops : Array Oper} {o o' : Oper} {t : Nat} (h1 : o.dst = some t) (h2 : t ∈ readsOf ops o' ∨ o'.dst = some t) : confl ops o o' = true := by
  unfold confl
  rw [h1]
  simp only [Option.toList_some, List.any_cons, List.any_nil, Bool.or_false, Bool.or_eq_true]
  left
  rcases h2 with h | h
  · simp [h]
  · simp [h]
theorem confl_r {ops : Array Oper} {o o' : Oper} {t : Nat} (h1 : t ∈ readsOf ops o ∨ o.dst = some t) (h2 : o'.dst = some t) : confl ops o o' = true := by
  unfold confl
  rcases h1 with h | h
  · simp only [Bool.or_eq_true]
    right
    exact List.any_eq_true.2 ⟨t, h, by simp [h2]⟩
  · simp only [Bool.or_eq_true]
    left
    simp [h, h2]

/-! The plan. Kinds: 0: leaves the state, whenever it runs; 1: an effect; 2: an effect behind all ahead of it; 3: one of a row of new blocks, in any order. -/
def pairOk (ops : Array Oper) (ps : List (List Nat)) (σ : List (Nat × Nat)) (p q : Nat) (i k j k' : Nat) (oi oj : Oper) : Bool :=
  i != j && (!(confl ops oi oj) || (ps.getD j []).contains i) && (!(k == 1 || k == 2) || (ps.getD j []).contains i) && (!(k' == 2) || (ps.getD j []).contains i) &&
    (!(k == 3) || (ps.getD j []).contains i || (List.range (q + 1)).all fun r => decide (r ≤ p) || (σ[r]?).map (·.2) == some 3)
def planOk (ops : Array Oper) (σ : List (Nat × Nat)) : Bool :=
  let ps := preds ops
  (List.range ops.size).all (fun i => (σ.map (·.1)).contains i && match ops[i]? with | none => true | some o => o.after.all fun e => !Region.binds .any e || decide (e.on < i)) &&
  (List.range σ.length).all fun q => match σ[q]? with
    | none => true
    | some (j, k') => match ops[j]? with
      | none => false
      | some oj => (List.range q).all fun p => match σ[p]? with
        | none => true
        | some (i, k) => match ops[i]? with
          | none => false
          | some oi => pairOk ops ps σ p q i k j k' oi oj

structure PlanOk (ops : Array Oper) (σ : List (Nat × Nat)) : Prop where
  back : ∀ (i : Nat) o, ops[i]? = some o → ∀ e ∈ o.after, Region.binds .any e = true → e.on < i
  has : ∀ i, i < ops.size → ∃ (p k : Nat), σ[p]? = some (i, k)
  at_ : ∀ (p i k : Nat), σ[p]? = some (i, k) → ∃ o, ops[i]? = some o
  pair : ∀ (p q i k j k' : Nat) oi oj, p < q → σ[p]? = some (i, k) → σ[q]? = some (j, k') → ops[i]? = some oi → ops[j]? = some oj →
    i ≠ j ∧ (confl ops oi oj = true → Bef ops i j) ∧ (k = 1 ∨ k = 2 → Bef ops i j) ∧ (k' = 2 → Bef ops i j) ∧ (k = 3 → Bef ops i j ∨ ∀ (r : Nat), p < r → r ≤ q → (σ[r]?).map (·.2) = some 3)

theorem planOk_spec {ops : Array Oper} {σ : List (Nat × Nat)} (h : planOk ops σ = true) : PlanOk ops σ := by
  unfold planOk at h
  simp only [Bool.and_eq_true, List.all_eq_true, List.mem_range] at h
  obtain ⟨h1, h2⟩ := h
  have lt : ∀ (i : Nat) o, ops[i]? = some o → i < ops.size := fun i o ho => (Array.getElem?_eq_some_iff.1 ho).1
  have ltσ : ∀ (p : Nat) x, σ[p]? = some x → p < σ.length := fun p x hx => (List.getElem?_eq_some_iff.1 hx).1
  refine ⟨fun i o ho e he hb => ?_, fun i hi => ?_, fun p i k hp => ?_, fun p q i k j k' oi oj hpq hp hq hoi hoj => ?_⟩
  · have := (h1 i (lt i o ho)).2
    rw [ho] at this
    simp only [Array.all_eq_true_iff_forall_mem] at this
    have := this e he
    simpa [hb] using this
  · have := (h1 i hi).1
    simp only [List.contains_iff_mem, List.mem_map] at this
    obtain ⟨⟨i', k⟩, hm, rfl⟩ := this
    obtain ⟨p, hp⟩ := List.mem_iff_getElem?.1 hm
    exact ⟨p, k, hp⟩
  · have := h2 p (ltσ p _ hp)
    rw [hp] at this
    simp only at this
    cases ho : ops[i]? with
    | none => rw [ho] at this; cases this
    | some o => exact ⟨o, rfl⟩
  · have := h2 q (ltσ q _ hq)
    rw [hq] at this
    simp only [hoj, List.all_eq_true, List.mem_range] at this
    have := this p hpq
    rw [hp] at this
    simp only [hoi] at this
    unfold pairOk at this
    simp only [Bool.and_eq_true, Bool.or_eq_true, Bool.not_eq_true', bne_iff_ne, ne_eq, beq_iff_eq, List.all_eq_true, List.mem_range, decide_eq_true_eq, Bool.or_eq_false_iff, beq_eq_false_iff_ne] at this
    obtain ⟨⟨⟨⟨a1, a2⟩, a3⟩, a4⟩, a5⟩ := this
    have bef : (((preds ops).getD j []).contains i = true) → Bef ops i j := fun h => preds_sound ops j i (by simpa using h)
    refine ⟨a1, fun hc => ?_, fun hk => ?_, fun hk => ?_, fun hk => ?_⟩
    · rcases a2 with a2 | a2
      · rw [hc] at a2; cases a2
      · exact bef a2
    · rcases a3 with a3 | a3
      · omega
      · exact bef a3
    · rcases a4 with a4 | a4
      · exact absurd hk a4
      · exact bef a4
    · rcases a5 with (a5 | a5) | a5
      · exact absurd hk a5
      · exact .inl (bef a5)
      · refine .inr fun r hr1 hr2 => ?_
        rcases a5 r (by omega) with h | h
        · omega
        · exact h

def allocEnv (js : List (Nat × Nat × List Value)) (β : Nat → Nat) (env : Env) : Env := js.foldl (fun e j => (j.2.1, .ptr (β j.2.1) 0) :: e) env
def allocSt (js : List (Nat × Nat × List Value)) (β : Nat → Nat) (st : St) : St := (js.map fun j => (β j.2.1, Ob.cells (j.2.2.map .lit))) ++ st

variable {P : Program} {N : Nat} {ops : Array Oper}

structure AllocAt (P : Program) (N : Nat) (ops : Array Oper) (j : Nat × Nat × List Value) : Prop where
  at_ : ∃ o, ops[j.1]? = some o ∧ o.guard = none ∧ o.dst = some j.2.1 ∧ j.2.1 < N ∧ ∀ env st, Step P N o env st fun x st' => ∃ b, x = .ptr b 0 ∧ st' = (b, .cells (j.2.2.map .lit)) :: st
theorem AllocAt.mk' {i t : Nat} {o : Oper} {e : TypeId} (zs : List Value) (h : ops[i]? = some o) (hg : o.guard = none) (hd : o.dst = some t) (ht : t < N) (ho : o.op = .alloc e) (hz : (P.info? e).map (fun i => i.zero.map (·.cells.toList)) = some (some zs)) : AllocAt P N ops (i, t, zs) :=
  ⟨o, h, hg, hd, ht, fun env st => S_alloc zs ho hz⟩

/-- The walk along the plan. 'base': what of the state every operation that leaves it may lean on. -/
inductive AG (P : Program) (N : Nat) (ops : Array Oper) (Q : Env → St → Prop) : St → List (Nat × Nat) → Env → St → Prop
  | nil {base st : St} {env : Env} (h : Q env st) : AG P N ops Q base [] env st
  | f {base st : St} {env : Env} {i : Nat} {o : Oper} {V : AV} {rest : List (Nat × Nat)} (ho : ops[i]? = some o) (hd : dstIn N o.dst = true)
      (hs : ∀ st', (∀ p, p ∈ base → p ∈ st') → QStep P N ops o (sub (readsOf ops o) env) st' V) (h : AG P N ops Q base rest (putE o.dst V env) st) : AG P N ops Q base ((i, 0) :: rest) env st
  | s {base st : St} {env : Env} {i : Nat} {o : Oper} {K : AV → St → Prop} {rest : List (Nat × Nat)} (ho : ops[i]? = some o) (hg : o.guard = none) (hd : dstIn N o.dst = true)
      (hs : Step P N o (sub (readsOf ops o) env) st K) (hb : ∀ x st1, K x st1 → ∀ p, p ∈ base → p ∈ st1) (h : ∀ x st1, K x st1 → AG P N ops Q base rest (putE o.dst x env) st1) : AG P N ops Q base ((i, 1) :: rest) env st
  | h {base st : St} {env : Env} {i : Nat} {o : Oper} {K : AV → St → Prop} {rest : List (Nat × Nat)} (ho : ops[i]? = some o) (hg : o.guard = none) (hd : dstIn N o.dst = true)
      (hs : Step P N o (sub (readsOf ops o) env) st K) (h : ∀ x st1, K x st1 → AG P N ops Q st1 rest (putE o.dst x env) st1) : AG P N ops Q base ((i, 2) :: rest) env st
  | al {base st : St} {env : Env} {rest : List (Nat × Nat)} (js : List (Nat × Nat × List Value)) (hne : js ≠ []) (hnd : (js.map (·.2.1)).Nodup) (hjs : ∀ j, j ∈ js → AllocAt P N ops j) (hr : (rest.head?).map (·.2) ≠ some 3)
      (h : ∀ β : Nat → Nat, AG P N ops Q base rest (allocEnv js β env) (allocSt js β st)) : AG P N ops Q base (js.map (fun j => (j.1, 3)) ++ rest) env st

/-! Slots, by positions of the plan. -/
def dstAt (ops : Array Oper) (σ : List (Nat × Nat)) (p : Nat) : Option Tmp := ((σ[p]?).bind fun x => ops[x.1]?).bind (·.dst)
def curS (d : Nat → Option Tmp) (Vs : List AV) (f : Nat → Bool) (env : Env) (t : Nat) : Nat → Option AV
  | 0 => env.lookup t
  | k + 1 => if f k && d k == some t then Vs[k]? else curS d Vs f env t k
theorem curS_congr {d : Nat → Option Tmp} {Vs Vs' : List AV} {f g : Nat → Bool} {env : Env} {t : Nat} : ∀ (k : Nat), (∀ j, j < k → d j = some t → f j = g j ∧ (f j = true → Vs[j]? = Vs'[j]?)) → curS d Vs f env t k = curS d Vs' g env t k
  | 0, _ => rfl
  | k + 1, h => by
    rw [curS, curS, curS_congr k fun j hj => h j (by omega)]
    by_cases hd : d k = some t
    · obtain ⟨h1, h2⟩ := h k (by omega) hd
      rw [← h1]
      cases hf : f k with
      | true => simp [hd, h2 hf]
      | false => simp
    · have : (d k == some t) = false := by simpa using hd
      simp [this]
theorem curS_upto {d : Nat → Option Tmp} {Vs : List AV} {f : Nat → Bool} {env : Env} {t : Nat} (i : Nat) : ∀ (k : Nat), i ≤ k → (∀ j, i ≤ j → j < k → d j = some t → f j = false) → curS d Vs f env t k = curS d Vs f env t i
  | 0, h, _ => by rw [Nat.le_zero.1 h]
  | k + 1, h, hf => by
    rcases Nat.lt_or_ge i (k + 1) with h' | h'
    · rw [curS]
      by_cases hd : d k = some t
      · rw [hf k (by omega) (by omega) hd]
        simp only [Bool.false_and, Bool.false_eq_true, if_false]
        exact curS_upto i k (by omega) fun j h1 h2 => hf j h1 (by omega)
      · have : (d k == some t) = false := by simpa using hd
        simp only [this, Bool.and_false, Bool.false_eq_true, if_false]
        exact curS_upto i k (by omega) fun j h1 h2 => hf j h1 (by omega)
    · rw [show i = k + 1 by omega]
theorem curS_hit {d : Nat → Option Tmp} {Vs : List AV} {f : Nat → Bool} {env : Env} {t p k : Nat} (hp : p < k) (hd : d p = some t) (hf : f p = true) (hl : ∀ j, p < j → j < k → d j = some t → f j = false) : curS d Vs f env t k = Vs[p]? := by
  rw [curS_upto (p + 1) k (by omega) fun j h1 h2 => hl j (by omega) h2]
  rw [curS]
  simp [hf, hd]

theorem lookup_putE (d : Option Tmp) (x : AV) (env : Env) (t : Nat) : (putE d x env).lookup t = if d = some t then some x else env.lookup t := by
  cases d with
  | none => simp [putE]
  | some d =>
    by_cases h : d = t
    · subst h; simp [putE, List.lookup_cons]
    · have : (t == d) = false := by simpa using fun h' => h h'.symm
      simp [putE, List.lookup_cons, this, h]
theorem lookup_allocEnv {β : Nat → Nat} {t : Nat} : ∀ (js : List (Nat × Nat × List Value)) (env : Env), (allocEnv js β env).lookup t = if t ∈ js.map (·.2.1) then some (.ptr (β t) 0) else env.lookup t
  | [], env => by simp [allocEnv]
  | j :: js, env => by
    have ih := lookup_allocEnv (β := β) (t := t) js ((j.2.1, .ptr (β j.2.1) 0) :: env)
    unfold allocEnv at ih ⊢
    rw [List.foldl_cons, ih]
    by_cases h : t = j.2.1
    · subst h; simp [List.lookup_cons]
    · have : (t == j.2.1) = false := by simpa using h
      have e : (t ∈ (j :: js).map (·.2.1)) ↔ t ∈ js.map (·.2.1) := by simp [h]
      simp only [List.lookup_cons, this, e]

def doneSt (js : List (Nat × Nat × List Value)) (β : Nat → Nat) (listed : Array Bool) (st : St) : St := allocSt (js.filter fun j => listed.getD j.1 false) β st

theorem upd_ne {β : Nat → Nat} {t b u : Nat} (h : u ≠ t) : (fun x => if x = t then b else β x) u = β u := by simp [h]
def Lst (σ : List (Nat × Nat)) (listed : Array Bool) (p : Nat) : Bool := match σ[p]? with | some x => listed.getD x.1 false | none => false
theorem Lst_at {σ : List (Nat × Nat)} {listed : Array Bool} {p i k : Nat} (h : σ[p]? = some (i, k)) : Lst σ listed p = listed.getD i false := by simp [Lst, h]
theorem dstAt_at {σ : List (Nat × Nat)} {p i k : Nat} {o : Oper} (h : σ[p]? = some (i, k)) (ho : ops[i]? = some o) : dstAt ops σ p = o.dst := by simp [dstAt, h, ho]
theorem dstAt_some {σ : List (Nat × Nat)} {p t : Nat} (h : dstAt ops σ p = some t) : ∃ i k o, σ[p]? = some (i, k) ∧ ops[i]? = some o ∧ o.dst = some t := by
  unfold dstAt at h
  cases hp : σ[p]? with
  | none => simp [hp] at h
  | some x =>
    obtain ⟨i, k⟩ := x
    cases ho : ops[i]? with
    | none => simp [hp, ho] at h
    | some o => exact ⟨i, k, o, rfl, ho, by simpa [hp, ho] using h⟩

theorem filter_perm {α : Type} {p p' : α → Bool} {j : α} : ∀ {l : List α}, l.Nodup → j ∈ l → p j = false → p' j = true → (∀ x, x ∈ l → x ≠ j → p' x = p x) → (l.filter p').Perm (j :: l.filter p)
  | [], _, h, _, _, _ => by cases h
  | x :: l, hn, h, h1, h2, h3 => by
    simp only [List.nodup_cons] at hn
    by_cases hx : x = j
    · subst hx
      rw [List.filter_cons, List.filter_cons, h1, h2]
      simp only [if_true, Bool.false_eq_true, if_false]
      have : l.filter p' = l.filter p := List.filter_congr fun y hy => h3 y (List.mem_cons_of_mem _ hy) fun e => hn.1 (e ▸ hy)
      rw [this]
    · have hj : j ∈ l := by
        rcases List.mem_cons.1 h with e | e
        · exact absurd e.symm hx
        · exact e
      have ih := filter_perm hn.2 hj h1 h2 fun y hy => h3 y (List.mem_cons_of_mem _ hy)
      rw [List.filter_cons, List.filter_cons, h3 x List.mem_cons_self hx]
      split
      · exact (ih.cons x).trans (List.Perm.swap _ _ _)
      · exact ih

theorem nodup_of_map {α β : Type} {f : α → β} : ∀ {l : List α}, (l.map f).Nodup → l.Nodup
  | [], _ => .nil
  | x :: l, h => by
    simp only [List.map_cons, List.nodup_cons] at h ⊢
    exact ⟨fun hx => h.1 (List.mem_map.2 ⟨x, hx, rfl⟩), nodup_of_map h.2⟩

structure Inv (P : Program) (N : Nat) (ops : Array Oper) (Q : Env → St → Prop) (σ : List (Nat × Nat)) (env0 : Env) (st0 : St) (w0 : World) (n : Nat) (Vs : List AV) (base : St) (js : List (Nat × Nat × List Value)) (β : Nat → Nat) (rest : List (Nat × Nat)) (envc : Env) (st : St) (listed : Array Bool) (a : Act) (w1 : World) : Prop where
  split : ∀ (r : Nat), σ[n + r]? = (js.map (fun j => (j.1, 3)) ++ rest)[r]?
  len : σ.length = n + (js.length + rest.length)
  vlen : Vs.length = n
  pend : ∀ (p i k : Nat), p < n → σ[p]? = some (i, k) → listed.getD i false = false → ∃ o V env', ops[i]? = some o ∧ Vs[p]? = some V ∧ dstIn N o.dst = true ∧ (∀ st', (∀ q, q ∈ base → q ∈ st') → QStep P N ops o (sub (readsOf ops o) env') st' V) ∧ ∀ t, env'.lookup t = curS (dstAt ops σ) Vs (fun _ => true) env0 t p
  env : ∀ t, envc.lookup t = curS (dstAt ops σ) Vs (fun _ => true) env0 t n
  free : ∀ x, x ∈ rest → listed.getD x.1 false = false
  jnd : (js.map (·.2.1)).Nodup
  jok : ∀ j, j ∈ js → AllocAt P N ops j
  ag : ∀ β, AG P N ops Q base rest (allocEnv js β envc) (allocSt js β st)
  head : js ≠ [] → (rest.head?).map (·.2) ≠ some 3
  base : ∀ q, q ∈ base → q ∈ st
  size : a.tmps.size = N
  defers : a.defers = []
  lsize : listed.size = ops.size
  closed : Closed ops listed
  rel : Rel (doneSt js β listed st) w1
  ext : Ext st0 w0 (doneSt js β listed st) w1
  slots : ∀ t x, curS (dstAt ops σ) (Vs ++ js.map fun j => .ptr (β j.2.1) 0) (Lst σ listed) env0 t (n + js.length) = some x → ∃ v, a.tmps[t]? = some v ∧ R (doneSt js β listed st) w1 x v

section
variable {Q : Env → St → Prop} {σ : List (Nat × Nat)} {env0 : Env} {st0 : St} {w0 : World} {n : Nat} {Vs : List AV} {base : St} {js : List (Nat × Nat × List Value)} {β : Nat → Nat} {rest : List (Nat × Nat)} {envc : Env} {st : St} {listed : Array Bool} {a : Act} {w1 : World}

theorem doneSt_nil : doneSt [] β listed st = st := rfl

theorem Inv.pass_f {i : Nat} {rest' : List (Nat × Nat)} (hσ : PlanOk ops σ) (h : Inv P N ops Q σ env0 st0 w0 n Vs base [] β ((i, 0) :: rest') envc st listed a w1) :
    ∃ V envc', Inv P N ops Q σ env0 st0 w0 (n + 1) (Vs ++ [V]) base [] β rest' envc' st listed a w1 := by
  have hag := h.ag β
  have hpos : σ[n]? = some (i, 0) := by simpa using h.split 0
  generalize hr : (i, 0) :: rest' = rr at h hag
  cases hag with
  | nil => cases hr
  | s => cases hr
  | h => cases hr
  | al js' hne => cases js' with
    | nil => exact absurd rfl hne
    | cons j js' => simp at hr
  | @f _ _ _ i1 o V rest1 ho hd hs hag =>
    cases hr
    have hun : listed.getD i false = false := h.free (i, 0) List.mem_cons_self
    have hv : (Vs ++ [V])[n]? = some V := by rw [List.getElem?_append_right (by rw [h.vlen]; exact Nat.le_refl _), h.vlen]; simp
    have hlow : ∀ (j : Nat), j < n → (Vs ++ [V])[j]? = Vs[j]? := fun j hj => List.getElem?_append_left (by rw [h.vlen]; exact hj)
    have hcong : ∀ t p, p ≤ n → curS (dstAt ops σ) Vs (fun _ => true) env0 t p = curS (dstAt ops σ) (Vs ++ [V]) (fun _ => true) env0 t p := fun t p hp => curS_congr p fun j hj _ => ⟨rfl, fun _ => (hlow j (by omega)).symm⟩
    have hlst : Lst σ listed n = false := by rw [Lst_at hpos]; exact hun
    refine ⟨V, putE o.dst V envc, ⟨fun r => ?_, by have := h.len; simp at this ⊢; omega, by simp [h.vlen], fun p i' k hp hpi hl => ?_, fun t => ?_, fun x hx => h.free x (List.mem_cons_of_mem _ hx), h.jnd, h.jok, fun β => hag, fun e => absurd rfl e, h.base, h.size, h.defers, h.lsize, h.closed, h.rel, h.ext, fun t x hx => ?_⟩⟩
    · have := h.split (r + 1)
      simpa [Nat.add_assoc, Nat.add_comm 1 r] using this
    · rcases Nat.lt_or_ge p n with hlt | hge
      · obtain ⟨o', V', env', h1, h2, h3, h4, h5⟩ := h.pend p i' k hlt hpi hl
        exact ⟨o', V', env', h1, by rw [hlow p hlt]; exact h2, h3, h4, fun t => by rw [h5 t]; exact hcong t p (by omega)⟩
      · have : p = n := by omega
        subst this
        rw [hpos] at hpi
        cases hpi
        exact ⟨o, V, envc, ho, hv, hd, hs, fun t => by rw [h.env t]; exact hcong t p (Nat.le_refl _)⟩
    · rw [lookup_putE, curS, dstAt_at hpos ho, hv, ← hcong t n (Nat.le_refl _), ← h.env t]
      by_cases hdt : o.dst = some t
      · simp [hdt]
      · have : (o.dst == some t) = false := by simpa using hdt
        simp [hdt, this]
    · refine h.slots t x ?_
      simp only [List.map_nil, List.append_nil, List.length_nil, Nat.add_zero] at hx ⊢
      rw [curS, hlst] at hx
      simp only [Bool.false_and, Bool.false_eq_true, if_false] at hx
      rw [← hx]
      exact curS_congr n fun j hj _ => ⟨rfl, fun _ => (hlow j hj).symm⟩

theorem Inv.pass_al {i : Nat} {rest' : List (Nat × Nat)} (h : Inv P N ops Q σ env0 st0 w0 n Vs base [] β ((i, 3) :: rest') envc st listed a w1) :
    ∃ js rest'', js ≠ [] ∧ js.length + rest''.length = rest'.length + 1 ∧ Inv P N ops Q σ env0 st0 w0 n Vs base js β rest'' envc st listed a w1 := by
  have hag := h.ag β
  generalize hr : (i, 3) :: rest' = rr at h hag
  cases hag with
  | nil => cases hr
  | f => cases hr
  | s => cases hr
  | h => cases hr
  | @al _ _ _ rest'' js hne hnd hjs hhd hag =>
    have hun : ∀ j, j ∈ js → listed.getD j.1 false = false := fun j hj => h.free (j.1, 3) (List.mem_append_left _ (List.mem_map.2 ⟨j, hj, rfl⟩))
    have hfil : js.filter (fun j => listed.getD j.1 false) = [] := List.filter_eq_nil_iff.2 fun j hj => by simp [hun j hj]
    have hdone : doneSt js β listed st = st := by unfold doneSt; rw [hfil]; rfl
    have hlen : js.length + rest''.length = rest'.length + 1 := by have := congrArg List.length hr; simpa using this.symm
    refine ⟨js, rest'', hne, hlen, ⟨fun r => by simpa using h.split r, by have := h.len; simp at this ⊢; omega, h.vlen, h.pend, h.env, fun x hx => h.free x (List.mem_append_right _ hx), hnd, hjs, ?_, fun _ => hhd, h.base, h.size, h.defers, h.lsize, h.closed, by rw [hdone]; exact h.rel, by rw [hdone]; exact h.ext, fun t x hx => ?_⟩⟩
    · exact hag
    · rw [hdone]
      refine h.slots t x ?_
      simp only [List.map_nil, List.append_nil, List.length_nil, Nat.add_zero]
      rw [curS_upto n (n + js.length) (by omega) fun j h1 h2 _ => ?_] at hx
      · rw [← hx]
        exact curS_congr n fun j hj _ => ⟨rfl, fun _ => (List.getElem?_append_left (by rw [h.vlen]; exact hj)).symm⟩
      · obtain ⟨r, rfl⟩ : ∃ r, j = n + r := ⟨j - n, by omega⟩
        have := h.split r
        simp only [List.map_nil, List.nil_append] at this
        rw [List.getElem?_append_left (by simp; omega), List.getElem?_map] at this
        have hjr : js[r]? = some js[r] := List.getElem?_eq_getElem (by omega)
        rw [hjr] at this
        rw [Lst_at this]
        exact hun _ (List.getElem_mem _)

theorem Inv.js_at (h : Inv P N ops Q σ env0 st0 w0 n Vs base js β rest envc st listed a w1) {r : Nat} (hr : r < js.length) : σ[n + r]? = some (js[r].1, 3) := by
  rw [h.split r, List.getElem?_append_left (by simpa using hr), List.getElem?_map, List.getElem?_eq_getElem hr]
  rfl
theorem Inv.js_dst (h : Inv P N ops Q σ env0 st0 w0 n Vs base js β rest envc st listed a w1) {r : Nat} (hr : r < js.length) : dstAt ops σ (n + r) = some js[r].2.1 := by
  obtain ⟨o, h1, _, h2, _⟩ := (h.jok js[r] (List.getElem_mem hr)).at_
  rw [dstAt_at (h.js_at hr) h1, h2]
theorem Inv.rest_at (h : Inv P N ops Q σ env0 st0 w0 n Vs base js β rest envc st listed a w1) (r : Nat) : σ[n + js.length + r]? = rest[r]? := by
  rw [Nat.add_assoc, h.split (js.length + r), List.getElem?_append_right (by simp)]
  simp
theorem Inv.js_V (h : Inv P N ops Q σ env0 st0 w0 n Vs base js β rest envc st listed a w1) (β' : Nat → Nat) {r : Nat} (hr : r < js.length) : (Vs ++ js.map fun j => AV.ptr (β' j.2.1) 0)[n + r]? = some (.ptr (β' js[r].2.1) 0) := by
  rw [List.getElem?_append_right (by rw [h.vlen]; omega), h.vlen, Nat.add_sub_cancel_left, List.getElem?_map, List.getElem?_eq_getElem hr]
  rfl
theorem Inv.low_V (h : Inv P N ops Q σ env0 st0 w0 n Vs base js β rest envc st listed a w1) (β' : Nat → Nat) {p : Nat} (hp : p < n) : (Vs ++ js.map fun j => AV.ptr (β' j.2.1) 0)[p]? = Vs[p]? :=
  List.getElem?_append_left (by rw [h.vlen]; exact hp)
theorem Inv.rest_un (h : Inv P N ops Q σ env0 st0 w0 n Vs base js β rest envc st listed a w1) {p i k : Nat} (hp : n + js.length ≤ p) (hσ : σ[p]? = some (i, k)) : listed.getD i false = false := by
  obtain ⟨r, rfl⟩ : ∃ r, p = n + js.length + r := ⟨p - (n + js.length), by omega⟩
  rw [h.rest_at r] at hσ
  exact h.free _ (List.mem_of_getElem? hσ)

/-- The new blocks are all there. -/
theorem Inv.settle (h : Inv P N ops Q σ env0 st0 w0 n Vs base js β rest envc st listed a w1) (hall : ∀ j, j ∈ js → listed.getD j.1 false = true) :
    ∃ Vs' envc' st', Inv P N ops Q σ env0 st0 w0 (n + js.length) Vs' base [] β rest envc' st' listed a w1 := by
  have hfil : js.filter (fun j => listed.getD j.1 false) = js := List.filter_eq_self.2 hall
  have hdone : doneSt js β listed st = allocSt js β st := by unfold doneSt; rw [hfil]
  have hlow : ∀ t p, p ≤ n → curS (dstAt ops σ) Vs (fun _ => true) env0 t p = curS (dstAt ops σ) (Vs ++ js.map fun j => .ptr (β j.2.1) 0) (fun _ => true) env0 t p := fun t p hp => curS_congr p fun j hj _ => ⟨rfl, fun _ => (h.low_V β (by omega)).symm⟩
  refine ⟨Vs ++ js.map fun j => .ptr (β j.2.1) 0, allocEnv js β envc, allocSt js β st, ⟨fun r => by simpa using h.rest_at r, by have := h.len; simp; omega, by simp [h.vlen], fun p i k hp hpi hl => ?_, fun t => ?_, h.free, by simp, fun j hj => by simp at hj, fun β' => h.ag β, fun e => absurd rfl e, fun q hq => List.mem_append_right _ (h.base q hq), h.size, h.defers, h.lsize, h.closed, by rw [← hdone] ; exact h.rel, by rw [← hdone]; exact h.ext, fun t x hx => by rw [← hdone]; exact h.slots t x (by simpa using hx)⟩⟩
  · rcases Nat.lt_or_ge p n with hlt | hge
    · obtain ⟨o', V', env', h1, h2, h3, h4, h5⟩ := h.pend p i k hlt hpi hl
      exact ⟨o', V', env', h1, by rw [h.low_V β hlt]; exact h2, h3, h4, fun t => by rw [h5 t]; exact hlow t p (by omega)⟩
    · exfalso
      obtain ⟨r, rfl⟩ : ∃ r, p = n + r := ⟨p - n, by omega⟩
      have hr : r < js.length := by omega
      rw [h.js_at hr] at hpi
      cases hpi
      rw [hall _ (List.getElem_mem hr)] at hl
      cases hl
  · rw [lookup_allocEnv]
    split
    · rename_i ht
      obtain ⟨j, hj, rfl⟩ := List.mem_map.1 ht
      obtain ⟨r, hr, rfl⟩ := List.getElem_of_mem hj
      rw [curS_hit (p := n + r) (by omega) (h.js_dst hr) rfl fun q h1 h2 hd => ?_, h.js_V β hr]
      exfalso
      obtain ⟨r', rfl⟩ : ∃ r', q = n + r' := ⟨q - n, by omega⟩
      rw [h.js_dst (r := r') (by omega)] at hd
      have hn := h.jnd
      have e1 : (js.map (·.2.1))[r]? = (js.map (·.2.1))[r']? := by
        rw [List.getElem?_map, List.getElem?_map, List.getElem?_eq_getElem hr, List.getElem?_eq_getElem (by omega)]
        simpa using (Option.some.inj hd).symm
      have := (List.getElem?_inj (by simpa using hr) hn).1 e1
      omega
    · rename_i ht
      rw [h.env t, hlow t n (Nat.le_refl _)]
      rw [curS_upto n (n + js.length) (by omega) fun q h1 h2 hd => ?_]
      exfalso
      obtain ⟨r', rfl⟩ : ∃ r', q = n + r' := ⟨q - n, by omega⟩
      rw [h.js_dst (r := r') (by omega)] at hd
      exact ht (List.mem_map.2 ⟨_, List.getElem_mem (by omega), Option.some.inj hd⟩)

/-- What an operation that may run now reads or writes is as the plan has it. -/
theorem ahead_of (hσ : PlanOk ops σ) (hcl : Closed ops listed) {p i k : Nat} {o : Oper} (hp : σ[p]? = some (i, k)) (ho : ops[i]? = some o) (hun : listed.getD i false = false) (hall : ∀ e ∈ o.after, Region.binds .any e = true → listed.getD e.on false = true)
    {t : Nat} (ht : t ∈ readsOf ops o ∨ o.dst = some t) {q : Nat} (hq : dstAt ops σ q = some t) : (q < p → Lst σ listed q = true) ∧ (p < q → Lst σ listed q = false) := by
  obtain ⟨j, k', o', hqj, hoj, hdj⟩ := dstAt_some hq
  rw [Lst_at hqj]
  refine ⟨fun hlt => ?_, fun hlt => ?_⟩
  · exact hcl.bef ((hσ.pair q p j k' i k o' o hlt hqj hp hoj ho).2.1 (confl_w hdj ht)) ⟨o, ho, hall⟩
  · cases hl : listed.getD j false with
    | false => rfl
    | true =>
      have := hcl.bef ((hσ.pair p q i k j k' o o' hlt hp hqj ho hoj).2.1 (confl_r ht hdj)) ⟨o', hoj, hcl j o' hoj hl⟩
      rw [hun] at this
      cases this

theorem Closed.set {i : Nat} {o : Oper} (hcl : Closed ops listed) (ho : ops[i]? = some o) (hall : ∀ e ∈ o.after, Region.binds .any e = true → listed.getD e.on false = true) : Closed ops (listed.setIfInBounds i true) := by
  intro k p hp hk e he hb
  by_cases hki : k = i
  · subst hki
    rw [ho] at hp; cases hp
    exact getD_set_true (hall e he hb)
  · rw [getD_set_ne false (Ne.symm hki)] at hk
    exact getD_set_true (hcl k p hp hk e he hb)

theorem set_mono {i k : Nat} (h : (listed.setIfInBounds i true).getD k false = false) : listed.getD k false = false := by
  cases hl : listed.getD k false with
  | false => rfl
  | true => rw [getD_set_true hl] at h; cases h

theorem Lst_set (hσ : PlanOk ops σ) {p i k : Nat} (hp : σ[p]? = some (i, k)) {q : Nat} (hq : q ≠ p) : Lst σ (listed.setIfInBounds i true) q = Lst σ listed q := by
  cases hqj : σ[q]? with
  | none => simp [Lst, hqj]
  | some x =>
    obtain ⟨j, k'⟩ := x
    rw [Lst_at hqj, Lst_at hqj]
    obtain ⟨o, ho⟩ := hσ.at_ p i k hp
    obtain ⟨o', ho'⟩ := hσ.at_ q j k' hqj
    have : i ≠ j := by
      rcases Nat.lt_or_ge p q with h | h
      · exact (hσ.pair p q i k j k' o o' h hp hqj ho ho').1
      · exact ((hσ.pair q p j k' i k o' o (by omega) hqj hp ho' ho).1).symm
    exact getD_set_ne false this
theorem Lst_self {p i k : Nat} {o : Oper} (hsz : listed.size = ops.size) (ho : ops[i]? = some o) (hp : σ[p]? = some (i, k)) : Lst σ (listed.setIfInBounds i true) p = true := by
  rw [Lst_at hp]
  have : i < ops.size := (Array.getElem?_eq_some_iff.1 ho).1
  simp [hsz, this]

theorem doneSt_set {i : Nat} (hi : ∀ j, j ∈ js → j.1 ≠ i) : doneSt js β (listed.setIfInBounds i true) st = doneSt js β listed st := by
  unfold doneSt
  congr 1
  exact List.filter_congr fun j hj => getD_set_ne false (Ne.symm (hi j hj))


/-- An operation that leaves the state has run. -/
theorem Inv.done_f (hσ : PlanOk ops σ) (hn0 : (st0.map (·.1)).Nodup) (h : Inv P N ops Q σ env0 st0 w0 n Vs base js β rest envc st listed a w1) {p i k : Nat} {o : Oper} {V : AV} (hpn : p < n) (hp : σ[p]? = some (i, k)) (ho : ops[i]? = some o) (hun : listed.getD i false = false)
    (hall : ∀ e ∈ o.after, Region.binds .any e = true → listed.getD e.on false = true) (hV : Vs[p]? = some V) (hd : dstIn N o.dst = true) {v : Value} {w' : World} (hr : R (doneSt js β listed st) w' V v) (hrel : Rel (doneSt js β listed st) w') (hx : Ext (doneSt js β listed st) w1 (doneSt js β listed st) w') :
    Inv P N ops Q σ env0 st0 w0 n Vs base js β rest envc st (listed.setIfInBounds i true) (a.put o.dst v) w' := by
  have hi : i < ops.size := (Array.getElem?_eq_some_iff.1 ho).1
  have hjs : ∀ j, j ∈ js → j.1 ≠ i := fun j hj e => by
    obtain ⟨r, hr, rfl⟩ := List.getElem_of_mem hj
    obtain ⟨oj, hoj, _⟩ := (h.jok _ hj).at_
    exact (hσ.pair p (n + r) i k _ _ o oj (by omega) hp (h.js_at hr) ho hoj).1 e.symm
  have hds : doneSt js β (listed.setIfInBounds i true) st = doneSt js β listed st := doneSt_set hjs
  have hn1 := h.rel.nodup
  refine ⟨h.split, h.len, h.vlen, fun p' i' k' hp' hpi hl => h.pend p' i' k' hp' hpi (set_mono hl), h.env, fun x hx' => ?_, h.jnd, h.jok, h.ag, h.head, h.base, by cases o.dst <;> simp [Act.put, h.size], by cases o.dst <;> simp [Act.put, h.defers], by simpa using h.lsize, h.closed.set ho hall, by rw [hds]; exact hrel, by rw [hds]; exact h.ext.trans hx hn0, fun t x hx' => ?_⟩
  · obtain ⟨r, hr', rfl⟩ := List.getElem_of_mem hx'
    have hre : σ[n + js.length + r]? = some rest[r] := by rw [h.rest_at r, List.getElem?_eq_getElem hr']
    obtain ⟨o', ho'⟩ := hσ.at_ _ _ _ hre
    have : i ≠ rest[r].1 := (hσ.pair p _ i k rest[r].1 rest[r].2 o o' (by omega) hp hre ho ho').1
    rw [getD_set_ne false this]
    exact h.free _ hx'
  · rw [hds]
    by_cases hdt : o.dst = some t
    · have hdp : dstAt ops σ p = some t := by rw [dstAt_at hp ho, hdt]
      rw [curS_hit (p := p) (by omega) hdp (Lst_self h.lsize ho hp) fun q h1 h2 hq => ?_, h.low_V β hpn, hV] at hx'
      · cases hx'
        exact ⟨v, by simp [Act.put, hdt, h.size, dstIn_spec hd t hdt], hr⟩
      · rw [Lst_set hσ hp (by omega)]
        exact (ahead_of hσ h.closed hp ho hun hall (.inr hdt) hq).2 h1
    · have e1 : curS (dstAt ops σ) (Vs ++ js.map fun j => .ptr (β j.2.1) 0) (Lst σ (listed.setIfInBounds i true)) env0 t (n + js.length) = curS (dstAt ops σ) (Vs ++ js.map fun j => .ptr (β j.2.1) 0) (Lst σ listed) env0 t (n + js.length) := curS_congr _ fun q hq hqd => by
        refine ⟨Lst_set hσ hp fun e => ?_, fun _ => rfl⟩
        subst e
        rw [dstAt_at hp ho] at hqd
        exact hdt hqd
      rw [e1] at hx'
      obtain ⟨u, hu, hru⟩ := h.slots t x hx'
      refine ⟨u, ?_, hru.mono hx hn1⟩
      cases hod : o.dst with
      | none => simpa [Act.put] using hu
      | some d =>
        have : d ≠ t := fun e => hdt (by rw [hod, e])
        simp only [Act.put]
        rw [Array.getElem?_setIfInBounds_ne this]
        exact hu

/-- What it read was as the plan has it. -/
theorem Inv.good_f (hσ : PlanOk ops σ) (h : Inv P N ops Q σ env0 st0 w0 n Vs base js β rest envc st listed a w1) {p i k : Nat} {o : Oper} {env' : Env} (hpn : p < n) (hp : σ[p]? = some (i, k)) (ho : ops[i]? = some o) (hun : listed.getD i false = false)
    (hall : ∀ e ∈ o.after, Region.binds .any e = true → listed.getD e.on false = true) (he : ∀ t, env'.lookup t = curS (dstAt ops σ) Vs (fun _ => true) env0 t p) : Good N (sub (readsOf ops o) env') (doneSt js β listed st) a w1 := by
  refine ⟨h.size, h.defers, fun t x hx => ?_, h.rel⟩
  obtain ⟨hx1, hx2⟩ := sub_lookup hx
  rw [he t] at hx1
  refine h.slots t x ?_
  rw [← hx1, curS_upto p (n + js.length) (by omega) fun q h1 h2 hq => ?_]
  · exact curS_congr p fun q hq hqd => ⟨(ahead_of hσ h.closed hp ho hun hall (.inl hx2) hqd).1 hq, fun _ => h.low_V β (by omega)⟩
  · rcases Nat.lt_or_ge p q with h' | h'
    · exact (ahead_of hσ h.closed hp ho hun hall (.inl hx2) hq).2 h'
    · have : q = p := by omega
      subst this
      rw [Lst_at hp]; exact hun

/-- A block has been laid. -/
theorem Inv.done_al (hσ : PlanOk ops σ) (hn0 : (st0.map (·.1)).Nodup) (h : Inv P N ops Q σ env0 st0 w0 n Vs base js β rest envc st listed a w1) {r : Nat} (hr : r < js.length) {o : Oper} (ho : ops[js[r].1]? = some o) (hod : o.dst = some js[r].2.1) (htN : js[r].2.1 < N) (hun : listed.getD js[r].1 false = false)
    (hall : ∀ e ∈ o.after, Region.binds .any e = true → listed.getD e.on false = true) {b : Nat} {v : Value} {w' : World} (hv : R ((b, .cells (js[r].2.2.map .lit)) :: doneSt js β listed st) w' (.ptr b 0) v) (hrel : Rel ((b, .cells (js[r].2.2.map .lit)) :: doneSt js β listed st) w')
    (hx : Ext (doneSt js β listed st) w1 ((b, .cells (js[r].2.2.map .lit)) :: doneSt js β listed st) w') :
    Inv P N ops Q σ env0 st0 w0 n Vs base js (fun u => if u = js[r].2.1 then b else β u) rest envc st (listed.setIfInBounds js[r].1 true) (a.put o.dst v) w' := by
  have hn1 := h.rel.nodup
  have hp := h.js_at hr
  have hmem : js[r] ∈ js := List.getElem_mem hr
  have hslot : ∀ (r' : Nat) (hr' : r' < js.length), r' ≠ r → js[r'].2.1 ≠ js[r].2.1 := fun r' hr' hne e => by
    have e1 : (js.map (·.2.1))[r']? = (js.map (·.2.1))[r]? := by
      rw [List.getElem?_map, List.getElem?_map, List.getElem?_eq_getElem hr, List.getElem?_eq_getElem hr']
      simpa using e
    exact hne ((List.getElem?_inj (by simpa using hr') h.jnd).1 e1)
  have hidx : ∀ (r' : Nat) (hr' : r' < js.length), r' ≠ r → js[r'].1 ≠ js[r].1 := fun r' hr' hne e => by
    obtain ⟨o', ho', _⟩ := (h.jok _ (List.getElem_mem hr')).at_
    rcases Nat.lt_or_ge r' r with h' | h'
    · exact (hσ.pair (n + r') (n + r) _ _ _ _ o' o (by omega) (h.js_at hr') hp ho' ho).1 e
    · exact (hσ.pair (n + r) (n + r') _ _ _ _ o o' (by omega) hp (h.js_at hr') ho ho').1 e.symm
  have hjn : js.Nodup := nodup_of_map h.jnd
  have hsz : js[r].1 < ops.size := (Array.getElem?_eq_some_iff.1 ho).1
  have hother : ∀ x, x ∈ js → x ≠ js[r] → x.1 ≠ js[r].1 ∧ x.2.1 ≠ js[r].2.1 := fun x hx hne => by
    obtain ⟨r', hr', rfl⟩ := List.getElem_of_mem hx
    have : r' ≠ r := fun e => hne (by subst e; rfl)
    exact ⟨hidx r' hr' this, hslot r' hr' this⟩
  have hperm : (doneSt js (fun u => if u = js[r].2.1 then b else β u) (listed.setIfInBounds js[r].1 true) st).Perm ((b, .cells (js[r].2.2.map .lit)) :: doneSt js β listed st) := by
    unfold doneSt allocSt
    have h1 := filter_perm (p := fun j => listed.getD j.1 false) (p' := fun j => (listed.setIfInBounds js[r].1 true).getD j.1 false) hjn hmem hun (by simp [h.lsize, hsz]) fun x hx hne => getD_set_ne false (Ne.symm (hother x hx hne).1)
    have h2 := (h1.map fun j => ((if j.2.1 = js[r].2.1 then b else β j.2.1), Ob.cells (j.2.2.map .lit))).append_right st
    refine h2.trans ?_
    rw [List.map_cons, List.cons_append, if_pos rfl]
    refine List.Perm.cons _ (List.Perm.append_right st ?_)
    rw [show (js.filter fun j => listed.getD j.1 false).map (fun j => ((if j.2.1 = js[r].2.1 then b else β j.2.1), Ob.cells (j.2.2.map .lit))) = (js.filter fun j => listed.getD j.1 false).map (fun j => (β j.2.1, Ob.cells (j.2.2.map .lit))) from List.map_congr_left fun x hx => by
      obtain ⟨hx1, hx2⟩ := List.mem_filter.1 hx
      rw [if_neg (hother x hx1 fun e => by subst e; simp [hun] at hx2).2]]
  have hsub : ∀ q, q ∈ doneSt js (fun u => if u = js[r].2.1 then b else β u) (listed.setIfInBounds js[r].1 true) st → q ∈ ((b, .cells (js[r].2.2.map .lit)) :: doneSt js β listed st : St) := fun q hq => hperm.mem_iff.1 hq
  have hnd : ((doneSt js (fun u => if u = js[r].2.1 then b else β u) (listed.setIfInBounds js[r].1 true) st).map (·.1)).Nodup := (hperm.map (·.1)).nodup_iff.2 hrel.nodup
  have hx2 := hx.trans (Ext.sub hsub) hn1
  refine ⟨h.split, h.len, h.vlen, fun p' i' k' hp' hpi hl => h.pend p' i' k' hp' hpi (set_mono hl), h.env, fun x hx' => ?_, h.jnd, h.jok, h.ag, h.head, h.base, by cases o.dst <;> simp [Act.put, h.size], by cases o.dst <;> simp [Act.put, h.defers], by simpa using h.lsize, h.closed.set ho hall, hrel.sub hsub hnd, h.ext.trans hx2 hn0, fun t x hx' => ?_⟩
  · obtain ⟨r', hr', rfl⟩ := List.getElem_of_mem hx'
    have hre : σ[n + js.length + r']? = some rest[r'] := by rw [h.rest_at r', List.getElem?_eq_getElem hr']
    obtain ⟨o', ho'⟩ := hσ.at_ _ _ _ hre
    have : js[r].1 ≠ rest[r'].1 := (hσ.pair (n + r) _ _ _ rest[r'].1 rest[r'].2 o o' (by omega) hp hre ho ho').1
    rw [getD_set_ne false this]
    exact h.free _ hx'
  · by_cases hdt : o.dst = some t
    · have hdp : dstAt ops σ (n + r) = some t := by rw [dstAt_at hp ho, hdt]
      have e2 := h.js_V (fun u => if u = js[r].2.1 then b else β u) hr
      rw [curS_hit (p := n + r) (by omega) hdp (Lst_self h.lsize ho hp) fun q h1 h2 hq => ?_, e2, if_pos rfl] at hx'
      · cases hx'
        have ht : t < N := by rw [hod] at hdt; cases hdt; exact htN
        exact ⟨v, by simp [Act.put, hdt, h.size, ht], hv.mono (Ext.sub hsub) hrel.nodup⟩
      · rw [Lst_set hσ hp (by omega)]
        exact (ahead_of hσ h.closed hp ho hun hall (.inr hdt) hq).2 h1
    · have e1 : curS (dstAt ops σ) (Vs ++ js.map fun j => .ptr (if j.2.1 = js[r].2.1 then b else β j.2.1) 0) (Lst σ (listed.setIfInBounds js[r].1 true)) env0 t (n + js.length) = curS (dstAt ops σ) (Vs ++ js.map fun j => .ptr (β j.2.1) 0) (Lst σ listed) env0 t (n + js.length) := curS_congr _ fun q hq hqd => by
        have hne : q ≠ n + r := fun e => by
          subst e
          rw [dstAt_at hp ho] at hqd
          exact hdt hqd
        refine ⟨Lst_set hσ hp hne, fun _ => ?_⟩
        rcases Nat.lt_or_ge q n with h' | h'
        · rw [h.low_V β h', List.getElem?_append_left (by rw [h.vlen]; exact h')]
        · obtain ⟨r', rfl⟩ : ∃ r', q = n + r' := ⟨q - n, by omega⟩
          have hr' : r' < js.length := by omega
          have e2 := h.js_V (fun u => if u = js[r].2.1 then b else β u) hr'
          rw [h.js_V β hr', e2, if_neg (hslot r' hr' (by omega))]
      rw [e1] at hx'
      obtain ⟨u, hu, hru⟩ := h.slots t x hx'
      refine ⟨u, ?_, hru.mono hx2 hn1⟩
      rw [hod]
      have : js[r].2.1 ≠ t := fun e => hdt (by rw [hod, e])
      simp only [Act.put]
      rw [Array.getElem?_setIfInBounds_ne this]
      exact hu

/-- What an effect reads. -/
theorem Inv.good_e (hσ : PlanOk ops σ) {i k : Nat} {rest' : List (Nat × Nat)} (h : Inv P N ops Q σ env0 st0 w0 n Vs base [] β ((i, k) :: rest') envc st listed a w1) {o : Oper} (ho : ops[i]? = some o)
    (hall : ∀ e ∈ o.after, Region.binds .any e = true → listed.getD e.on false = true) : Good N (sub (readsOf ops o) envc) st a w1 := by
  have hp : σ[n]? = some (i, k) := by simpa using h.split 0
  have hun : listed.getD i false = false := h.free (i, k) List.mem_cons_self
  refine ⟨h.size, h.defers, fun t x hx => ?_, h.rel⟩
  obtain ⟨hx1, hx2⟩ := sub_lookup hx
  rw [h.env t] at hx1
  have := h.slots t x
  simp only [List.map_nil, List.append_nil, List.length_nil, Nat.add_zero] at this
  refine this ?_
  rw [← hx1]
  exact curS_congr n fun q hq hqd => ⟨(ahead_of hσ h.closed hp ho hun hall (.inl hx2) hqd).1 hq, fun _ => rfl⟩

/-- An effect has run. -/
theorem Inv.done_e (hσ : PlanOk ops σ) (hn0 : (st0.map (·.1)).Nodup) {i k : Nat} {rest' : List (Nat × Nat)} (h : Inv P N ops Q σ env0 st0 w0 n Vs base [] β ((i, k) :: rest') envc st listed a w1) {o : Oper} (ho : ops[i]? = some o) (hd : dstIn N o.dst = true)
    (hall : ∀ e ∈ o.after, Region.binds .any e = true → listed.getD e.on false = true) {x : AV} {st1 base' : St} {v : Value} {w' : World} (hr : R st1 w' x v) (hrel : Rel st1 w') (hx : Ext st w1 st1 w') (hb : ∀ q, q ∈ base' → q ∈ st1)
    (hpend : base' = base ∨ k = 2) (hag : AG P N ops Q base' rest' (putE o.dst x envc) st1) :
    Inv P N ops Q σ env0 st0 w0 (n + 1) (Vs ++ [x]) base' [] β rest' (putE o.dst x envc) st1 (listed.setIfInBounds i true) (a.put o.dst v) w' := by
  have hp : σ[n]? = some (i, k) := by simpa using h.split 0
  have hun : listed.getD i false = false := h.free (i, k) List.mem_cons_self
  have hn1 := h.rel.nodup
  have hv : (Vs ++ [x])[n]? = some x := by rw [List.getElem?_append_right (by rw [h.vlen]; exact Nat.le_refl _), h.vlen]; simp
  have hlow : ∀ (j : Nat), j < n → (Vs ++ [x])[j]? = Vs[j]? := fun j hj => List.getElem?_append_left (by rw [h.vlen]; exact hj)
  have hcong : ∀ t p, p ≤ n → curS (dstAt ops σ) Vs (fun _ => true) env0 t p = curS (dstAt ops σ) (Vs ++ [x]) (fun _ => true) env0 t p := fun t p hp => curS_congr p fun j hj _ => ⟨rfl, fun _ => (hlow j (by omega)).symm⟩
  have hsz : i < ops.size := (Array.getElem?_eq_some_iff.1 ho).1
  have hself : (listed.setIfInBounds i true).getD i false = true := by simp [h.lsize, hsz]
  refine ⟨fun r => ?_, by have := h.len; simp at this ⊢; omega, by simp [h.vlen], fun p i' k' hpn hpi hl => ?_, fun t => ?_, fun y hy => ?_, by simp, fun j hj => by simp at hj, fun _ => hag, fun e => absurd rfl e, hb, by cases o.dst <;> simp [Act.put, h.size], by cases o.dst <;> simp [Act.put, h.defers], by simpa using h.lsize, h.closed.set ho hall, hrel, h.ext.trans hx hn0, fun t y hy => ?_⟩
  · have := h.split (r + 1)
    simpa [Nat.add_assoc, Nat.add_comm 1 r] using this
  · rcases Nat.lt_or_ge p n with hlt | hge
    · rcases hpend with rfl | hk
      · obtain ⟨o', V', env', h1, h2, h3, h4, h5⟩ := h.pend p i' k' hlt hpi (set_mono hl)
        exact ⟨o', V', env', h1, by rw [hlow p hlt]; exact h2, h3, h4, fun t => by rw [h5 t]; exact hcong t p (by omega)⟩
      · exfalso
        obtain ⟨o', ho'⟩ := hσ.at_ _ _ _ hpi
        have := h.closed.bef ((hσ.pair p n i' k' i k o' o hlt hpi hp ho' ho).2.2.2.1 hk) ⟨o, ho, hall⟩
        rw [set_mono hl] at this
        cases this
    · have : p = n := by omega
      subst this
      rw [hp] at hpi
      cases hpi
      rw [hself] at hl
      cases hl
  · rw [lookup_putE, curS, dstAt_at hp ho, hv, ← hcong t n (Nat.le_refl _), ← h.env t]
    by_cases hdt : o.dst = some t
    · simp [hdt]
    · have : (o.dst == some t) = false := by simpa using hdt
      simp [hdt, this]
  · obtain ⟨r, hr', rfl⟩ := List.getElem_of_mem hy
    have hre : σ[n + (r + 1)]? = some rest'[r] := by
      have := h.split (r + 1)
      simp only [List.map_nil, List.nil_append, List.getElem?_cons_succ, List.getElem?_eq_getElem hr'] at this
      exact this
    obtain ⟨o', ho'⟩ := hσ.at_ _ _ _ hre
    have : i ≠ rest'[r].1 := (hσ.pair n _ i k rest'[r].1 rest'[r].2 o o' (by omega) hp hre ho ho').1
    rw [getD_set_ne false this]
    exact h.free _ (List.mem_cons_of_mem _ (List.getElem_mem hr'))
  · simp only [List.map_nil, List.append_nil, List.length_nil, Nat.add_zero] at hy
    rw [curS, dstAt_at hp ho, Lst_self h.lsize ho hp] at hy
    by_cases hdt : o.dst = some t
    · simp only [hdt, beq_self_eq_true, Bool.and_self, if_true, hv] at hy
      cases hy
      exact ⟨v, by simp [Act.put, hdt, h.size, dstIn_spec hd t hdt], hr⟩
    · have hne : (o.dst == some t) = false := by simpa using hdt
      simp only [hne, Bool.and_false, Bool.false_eq_true, if_false] at hy
      have e1 : curS (dstAt ops σ) (Vs ++ [x]) (Lst σ (listed.setIfInBounds i true)) env0 t n = curS (dstAt ops σ) Vs (Lst σ listed) env0 t n := curS_congr n fun q hq _ => ⟨Lst_set hσ hp (by omega), fun _ => hlow q hq⟩
      rw [e1] at hy
      obtain ⟨u, hu, hru⟩ := h.slots t y (by simpa using hy)
      refine ⟨u, ?_, hru.mono hx hn1⟩
      cases hod : o.dst with
      | none => simpa [Act.put] using hu
      | some d =>
        have : d ≠ t := fun e => hdt (by rw [hod, e])
        simp only [Act.put]
        rw [Array.getElem?_setIfInBounds_ne this]
        exact hu

end

section
variable {Q : Post} {env : Env} {st : St}

/-- ONE WALK ALONG THE PLAN FOR EVERY ORDER, effects among them. -/
theorem AC_plan {id : Nat} {l : List Oper} {σ : List (Nat × Nat)} (hm : P.follows .mixedOrders = true) (base : St) (hok : planOk l.toArray σ = true) (hb : ∀ q, q ∈ base → q ∈ st) (hq : AG P N l.toArray (Q .normal) base σ env st) : AC P N (.region id l.toArray true) Q env st := by
  have hσ := planOk_spec hok
  intro a0 w0 hg
  have hn := hg.rel.nodup
  have hdrew : Ext st w0 st { w0 with drawn := w0.drawn + 1 } := ⟨rfl, rfl, rfl, fun _ _ => rfl, Nat.le_refl _, fun _ _ _ => rfl, fun _ _ _ _ _ _ _ _ _ => rfl, fun _ _ _ h => h, fun _ _ _ _ => rfl⟩
  refine wp_region_any hm ?_
  generalize hops : l.toArray = ops at *
  have main : ∀ (m fuel n : Nat) (Vs : List AV) (base : St) (js : List (Nat × Nat × List Value)) (β : Nat → Nat) (rest : List (Nat × Nat)) (envc : Env) (st1 : St) (listed : Array Bool) (a : Act) (w1 : World),
      Inv P N ops (Q .normal) σ env st w0 n Vs base js β rest envc st1 listed a w1 → frees ops.size listed = fuel → 2 * rest.length + fuel + (if js = [] then 0 else 1) ≤ m → wpAny P .any ops (Sat N Q st w0) fuel listed a w1 := by
    intro m
    induction m using Nat.strongRecOn with
    | _ m ih =>
      intro fuel n Vs base js β rest envc st1 listed a w1 h hf hmle
      have lsome : ∀ i, i < ops.size → listed.getD i true = listed.getD i false := fun i hi => by
        have : i < listed.size := by rw [h.lsize]; exact hi
        simp [this]
      -- nothing is left
      have fin : (∀ i, i < ops.size → listed.getD i true = true) → js = [] → Sat N Q st w0 .normal a w1 := by
        intro hall hjs
        subst hjs
        cases rest with
        | nil =>
          have hag := h.ag β
          generalize hrr : ([] : List (Nat × Nat)) = rr at hag
          cases hag with
          | f => cases hrr
          | s => cases hrr
          | h => cases hrr
          | nil hQ =>
            refine ⟨envc, st1, hQ, ⟨h.size, h.defers, fun t x hx => ?_, h.rel⟩, h.ext⟩
            rw [h.env t] at hx
            refine h.slots t x ?_
            simp only [List.map_nil, List.append_nil, List.length_nil, Nat.add_zero]
            rw [← hx]
            refine curS_congr n fun q hq hqd => ⟨?_, fun _ => rfl⟩
            obtain ⟨i, k, o, hqi, ho, _⟩ := dstAt_some hqd
            have hi := (Array.getElem?_eq_some_iff.1 ho).1
            rw [Lst_at hqi, ← lsome i hi]
            exact hall i hi
          | al js' hne => exact absurd (by simpa using (List.append_eq_nil_iff.1 hrr.symm).1) hne
        | cons x rest' =>
          have hx := h.free x List.mem_cons_self
          have hp : σ[n]? = some (x.1, x.2) := by simpa using h.split 0
          obtain ⟨o, ho⟩ := hσ.at_ _ _ _ hp
          have hi := (Array.getElem?_eq_some_iff.1 ho).1
          rw [← lsome _ hi, hall _ hi] at hx
          cases hx
      by_cases hjs : js = []
      · subst hjs
        simp only [if_true, Nat.add_zero] at hmle
        -- what leaves the state is passed; new blocks are opened
        have open_ : (∀ i rest', rest ≠ (i, 0) :: rest') → (∀ i rest', rest ≠ (i, 3) :: rest') → wpAny P .any ops (Sat N Q st w0) fuel listed a w1 := by
          intro no0 no3
          have ready0 : Region.ready .any ops listed = [] → ∀ i, i < ops.size → listed.getD i true = true := by
            intro hr i hi
            induction i using Nat.strongRecOn with
            | _ i ihi =>
              cases hli : listed.getD i true with
              | true => rfl
              | false =>
                exfalso
                have hio : ops[i]? = some ops[i] := by simp [hi]
                have : i ∈ Region.ready .any ops listed := mem_ready.2 ⟨hli, ops[i], hio, fun e he hbd => by
                  have hlt := hσ.back i _ hio e he hbd
                  have := ihi e.on hlt (by omega)
                  rw [lsome _ (by omega)] at this
                  exact this⟩
                rw [hr] at this
                cases this
          cases fuel with
          | zero =>
            have hall := fun i hi => frees_zero hf i hi
            refine ⟨?_, fin hall rfl⟩
            rw [List.eq_nil_iff_forall_not_mem]
            intro j hj
            obtain ⟨hj1, o, ho, _⟩ := mem_ready.1 hj
            rw [hall j (Array.getElem?_eq_some_iff.1 ho).1] at hj1
            cases hj1
          | succ fuel =>
            refine ⟨fun hr => fin (ready0 hr) rfl, fun i hi => ?_⟩
            obtain ⟨hi1, o, ho, hall⟩ := mem_ready.1 hi
            have his : i < ops.size := (Array.getElem?_eq_some_iff.1 ho).1
            have hun : listed.getD i false = false := by rw [← lsome i his]; exact hi1
            obtain ⟨p, k, hp⟩ := hσ.has i his
            have hfr := frees_set his hi1
            unfold wpOp
            rw [ho]
            dsimp only
            rcases Nat.lt_or_ge p n with hpn | hpn
            · obtain ⟨o', V, env', h1, h2, h3, h4, h5⟩ := h.pend p i k hpn hp hun
              rw [ho] at h1; cases h1
              have hstep := h4 (doneSt [] β listed st1) (fun q hq => h.base q hq) a w1 (h.good_f hσ hpn hp ho hun hall h5) (fun a' w' => wpAny P .any ops (Sat N Q st w0) fuel (listed.setIfInBounds i true) a' w') (Sat N Q st w0) fun v w' hr hrel hx =>
                ih (m - 1) (by omega) fuel n Vs base [] β rest envc st1 _ _ _ (h.done_f hσ hn hpn hp ho hun hall h2 h3 hr hrel hx) (by omega) (by simp; omega)
              split
              · rename_i hw; rw [if_pos hw] at hstep; exact .inl hstep
              · rename_i hw; rw [if_neg hw] at hstep; exact hstep
            · have hpl : p < σ.length := (List.getElem?_eq_some_iff.1 hp).1
              obtain ⟨r, rfl⟩ : ∃ r, p = n + r := ⟨p - n, by omega⟩
              have hrest : rest[r]? = some (i, k) := by rw [← hp, h.split r]; simp
              cases rest with
              | nil => simp at hrest
              | cons x rest' =>
                obtain ⟨i1, k1⟩ := x
                have hp1 : σ[n]? = some (i1, k1) := by simpa using h.split 0
                obtain ⟨o1, ho1⟩ := hσ.at_ _ _ _ hp1
                have hun1 : listed.getD i1 false = false := h.free (i1, k1) List.mem_cons_self
                have hk1 : k1 = 1 ∨ k1 = 2 := by
                  have hag := h.ag β
                  generalize hrr : (i1, k1) :: rest' = rr at hag
                  cases hag with
                  | nil => cases hrr
                  | f => cases hrr; exact absurd rfl (no0 _ _)
                  | s => cases hrr; exact .inl rfl
                  | h => cases hrr; exact .inr rfl
                  | al js' hne => cases js' with
                    | nil => exact absurd rfl hne
                    | cons j js' =>
                      simp only [List.map_cons, List.cons_append, List.cons.injEq, Prod.mk.injEq] at hrr
                      obtain ⟨⟨rfl, rfl⟩, rfl⟩ := hrr
                      exact absurd rfl (no3 _ _)
                by_cases hr0 : r = 0
                · subst hr0
                  simp only [List.getElem?_cons_zero, Option.some.injEq, Prod.mk.injEq] at hrest
                  obtain ⟨rfl, rfl⟩ := hrest
                  have hag := h.ag β
                  have hgood := h.good_e hσ ho hall
                  generalize hrr : (i1, k1) :: rest' = rr at hag
                  cases hag with
                  | nil => cases hrr
                  | f => cases hrr; exact absurd rfl (no0 _ _)
                  | al js' hne => cases js' with
                    | nil => exact absurd rfl hne
                    | cons j js' =>
                      simp only [List.map_cons, List.cons_append, List.cons.injEq, Prod.mk.injEq] at hrr
                      omega
                  | @s _ _ _ i2 o2 K rest2 ho2 hgd hd hs hbk hag =>
                    cases hrr
                    rw [ho] at ho2; cases ho2
                    have hw : Region.wanted o (yielded ops a.tmps) = true := by simp [Region.wanted, hgd]
                    rw [if_pos hw]
                    refine .inl (hs a w1 hgood _ _ fun x st2 v w' hk hr hrel hx => ?_)
                    exact ih (m - 1) (by simp at hmle; omega) fuel (n + 1) (Vs ++ [x]) _ [] β _ _ _ _ _ _ (h.done_e hσ hn ho hd hall hr hrel hx (hbk x st2 hk) (.inl rfl) (hag x st2 hk)) (by omega) (by simp at hmle ⊢; omega)
                  | @h _ _ _ i2 o2 K rest2 ho2 hgd hd hs hag =>
                    cases hrr
                    rw [ho] at ho2; cases ho2
                    have hw : Region.wanted o (yielded ops a.tmps) = true := by simp [Region.wanted, hgd]
                    rw [if_pos hw]
                    refine .inl (hs a w1 hgood _ _ fun x st2 v w' hk hr hrel hx => ?_)
                    exact ih (m - 1) (by simp at hmle; omega) fuel (n + 1) (Vs ++ [x]) _ [] β _ _ _ _ _ _ (h.done_e hσ hn ho hd hall hr hrel hx (fun q hq => hq) (.inr rfl) (hag x st2 hk)) (by omega) (by simp at hmle ⊢; omega)
                · exfalso
                  have hbef := (hσ.pair n (n + r) i1 k1 i k o1 o (by omega) hp1 hp ho1 ho).2.2.1 hk1
                  have := h.closed.bef hbef ⟨o, ho, hall⟩
                  rw [hun1] at this
                  cases this
        cases rest with
        | nil => exact open_ (fun _ _ e => by cases e) (fun _ _ e => by cases e)
        | cons x rest' =>
          obtain ⟨i, k⟩ := x
          by_cases hk0 : k = 0
          · subst hk0
            obtain ⟨V, envc', h'⟩ := h.pass_f hσ
            simp only [List.length_cons] at hmle
            exact ih (m - 1) (by omega) fuel _ _ _ _ _ _ _ _ _ _ _ h' hf (by simp; omega)
          · by_cases hk3 : k = 3
            · subst hk3
              obtain ⟨js', rest'', hne, hlen, h'⟩ := h.pass_al
              simp only [List.length_cons] at hmle
              have : 0 < js'.length := List.length_pos_iff.2 hne
              exact ih (m - 1) (by omega) fuel _ _ _ _ _ _ _ _ _ _ _ h' hf (by rw [if_neg hne]; omega)
            · exact open_ (fun _ _ e => by cases e; exact hk0 rfl) (fun _ _ e => by cases e; exact hk3 rfl)
      · rw [if_neg hjs] at hmle
        by_cases hall : ∀ j, j ∈ js → listed.getD j.1 false = true
        · obtain ⟨Vs', envc', st', h'⟩ := h.settle hall
          exact ih (m - 1) (by omega) fuel _ _ _ _ _ _ _ _ _ _ _ h' hf (by simp; omega)
        · obtain ⟨j0, hj0, hl0⟩ : ∃ j, j ∈ js ∧ listed.getD j.1 false = false := Classical.byContradiction fun hh => hall fun j hj => by
            cases hl : listed.getD j.1 false with
            | true => rfl
            | false => exact absurd ⟨j, hj, hl⟩ hh
          obtain ⟨r0, hr0, rfl⟩ := List.getElem_of_mem hj0
          obtain ⟨o0, ho0, _⟩ := (h.jok _ hj0).at_
          have hj0s : js[r0].1 < ops.size := (Array.getElem?_eq_some_iff.1 ho0).1
          have hp0 := h.js_at hr0
          have notfin : ¬ ∀ i, i < ops.size → listed.getD i true = true := fun hh => by
            have := hh _ hj0s
            rw [lsome _ hj0s, hl0] at this
            cases this
          have ready0 : Region.ready .any ops listed ≠ [] := fun hr => notfin fun i hi => by
            induction i using Nat.strongRecOn with
            | _ i ihi =>
              cases hli : listed.getD i true with
              | true => rfl
              | false =>
                exfalso
                have hio : ops[i]? = some ops[i] := by simp [hi]
                have : i ∈ Region.ready .any ops listed := mem_ready.2 ⟨hli, ops[i], hio, fun e he hbd => by
                  have hlt := hσ.back i _ hio e he hbd
                  have := ihi e.on hlt (by omega)
                  rw [lsome _ (by omega)] at this
                  exact this⟩
                rw [hr] at this
                cases this
          cases fuel with
          | zero => exact absurd (fun i hi => frees_zero hf i hi) notfin
          | succ fuel =>
            refine ⟨fun hr => absurd hr ready0, fun i hi => ?_⟩
            obtain ⟨hi1, o, ho, hall⟩ := mem_ready.1 hi
            have his : i < ops.size := (Array.getElem?_eq_some_iff.1 ho).1
            have hun : listed.getD i false = false := by rw [← lsome i his]; exact hi1
            obtain ⟨p, k, hp⟩ := hσ.has i his
            have hfr := frees_set his hi1
            unfold wpOp
            rw [ho]
            dsimp only
            rcases Nat.lt_or_ge p n with hpn | hpn
            · obtain ⟨o', V, env', h1, h2, h3, h4, h5⟩ := h.pend p i k hpn hp hun
              rw [ho] at h1; cases h1
              have hstep := h4 (doneSt js β listed st1) (fun q hq => List.mem_append_right _ (h.base q hq)) a w1 (h.good_f hσ hpn hp ho hun hall h5) (fun a' w' => wpAny P .any ops (Sat N Q st w0) fuel (listed.setIfInBounds i true) a' w') (Sat N Q st w0) fun v w' hr hrel hx =>
                ih (m - 1) (by omega) fuel n Vs base js β rest envc st1 _ _ _ (h.done_f hσ hn hpn hp ho hun hall h2 h3 hr hrel hx) (by omega) (by rw [if_neg hjs]; omega)
              split
              · rename_i hw; rw [if_pos hw] at hstep; exact .inl hstep
              · rename_i hw; rw [if_neg hw] at hstep; exact hstep
            · obtain ⟨r, rfl⟩ : ∃ r, p = n + r := ⟨p - n, by omega⟩
              rcases Nat.lt_or_ge r js.length with hr | hr
              · have hp' := h.js_at hr
                rw [hp'] at hp
                obtain ⟨o', ho', hgd, hod, htN, hstep⟩ := (h.jok js[r] (List.getElem_mem hr)).at_
                cases hp
                rw [ho] at ho'; cases ho'
                have hw : Region.wanted o (yielded ops a.tmps) = true := by simp [Region.wanted, hgd]
                rw [if_pos hw]
                refine .inl (hstep [] (doneSt js β listed st1) a w1 ⟨h.size, h.defers, fun t x hx => by simp at hx, h.rel⟩ _ _ ?_)
                rintro x st2 v w' ⟨b, rfl, rfl⟩ hr' hrel hx
                exact ih (m - 1) (by omega) fuel n Vs base js _ rest envc st1 _ _ _ (h.done_al hσ hn hr ho hod htN hun hall hr' hrel hx) (by omega) (by rw [if_neg hjs]; omega)
              · exfalso
                have h3 := (hσ.pair (n + r0) (n + r) _ _ i k o0 o (by omega) hp0 hp ho0 ho).2.2.2.2 rfl
                rcases h3 with h3 | h3
                · have := h.closed.bef h3 ⟨o, ho, hall⟩
                  rw [hl0] at this
                  cases this
                · have := h3 (n + js.length) (by omega) (by omega)
                  have e := h.rest_at 0
                  rw [Nat.add_zero] at e
                  rw [e] at this
                  exact h.head hjs (by rw [List.head?_eq_getElem?]; exact this)
  have hrel : Rel st { w0 with drawn := w0.drawn + 1 } := ⟨hn, fun b cs hbm => let ⟨vs, T, k1, k2, k3⟩ := hg.rel.cells b cs hbm; ⟨vs, T, k1, k2, fun i c v hc hv => (k3 i c v hc hv).mono hdrew hn⟩, hg.rel.grow, hg.rel.konst⟩
  refine main _ ops.size 0 [] base [] (fun _ => 0) σ env st (Array.replicate ops.size false) a0 _ ⟨fun r => by simp, by simp, rfl, fun p i k hp => by omega, fun t => rfl, fun x _ => rep_false _ _, by simp, fun j hj => by simp at hj, fun _ => hq, fun e => absurd rfl e, hb, hg.size, hg.defers, by simp, ?_, hrel, hdrew, fun t x hx => ?_⟩ ?_ (Nat.le_refl _)
  · intro i o ho hi
    rw [rep_false] at hi
    cases hi
  · obtain ⟨v, hv, hr⟩ := hg.env t x hx
    exact ⟨v, hv, hr.mono hdrew hn⟩
  · unfold frees
    rw [List.filter_eq_self.2 fun i hi => by have := List.mem_range.1 hi; simp [this]]
    simp
end

end Go.AL
