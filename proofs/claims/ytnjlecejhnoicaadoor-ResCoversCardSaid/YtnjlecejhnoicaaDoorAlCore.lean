/-
The logic AL, its core: abstract values (plain data, no addresses but those of memory that may still be written), what it means that a Go value is such a value in a world, and the shapes of statements about code over them.
Conditions: none; no program is in sight.
-/
import Derived.WalkKit
import Derived.Deep.AppendLies
import Derived.Deep.LoopGhost
import Derived.Maps.AppendAt
import Derived.KernelRfl
set_option linter.unusedVariables false
set_option linter.unusedSimpArgs false
namespace Go.AL
open Go.RowKit

/-- Abstract values. -/
inductive AV where
  | any
  | lit (v : Value)
  | agg (cs : List AV)
  | sl (xs : List AV)
  | row (b off cap : Nat) (xs : List AV)
  | ip (cs : List AV)
  | ifc (T : TypeId) (x : AV)
  | tup (xs : List AV)
  | cond (c : Bool) (a : AV)
  | nilB (b : Nat) (T : TypeId) (n : Nat)

namespace AV
def cells : AV → List AV
  | agg cs => cs
  | a => [a]
abbrev int (k : IntKind) (n : Int) : AV := lit (.int k n)
abbrev bool (b : Bool) : AV := lit (.bool b)
abbrev str (s : ByteArray) : AV := lit (.string s)
abbrev ptr (b off : Nat) : AV := lit (.pointer (some ⟨b, off, none⟩))
abbrev nilptr : AV := lit (.pointer none)
abbrev nils : AV := lit (.slice none 0 0)
abbrev nili : AV := lit .nilIface
end AV

/-- What may still be written: a block of cells; a row that grows: n cells of it are filled, and stay. -/
inductive Ob where
  | cells (cs : List AV)
  | grow (e : TypeId) (size n cap : Nat)
  | konst (vs : List Value)

abbrev St := List (Nat × Ob)
abbrev Env := List (Nat × AV)

def Ob.opens : Ob → Nat → Prop
  | .cells _, _ => True
  | .grow _ size n _, off => n * size ≤ off
  | .konst _, _ => False

/-- A cell that may be written. -/
def Mut (st : St) (b off : Nat) : Prop := ∃ o, (b, o) ∈ st ∧ o.opens off

/-- A cell that stays, and what it holds. -/
def Fz (st : St) (w : World) (b off : Nat) (v : Value) : Prop := w.cell? ⟨b, off, none⟩ = some v ∧ ¬ Mut st b off

/-- In the world w the Go value is this abstract value. -/
inductive R (st : St) (w : World) : AV → Value → Prop
  | any (v : Value) : R st w .any v
  | lit (v : Value) : R st w (.lit v) v
  | agg (cs : List AV) (vs : Array Value) (hn : cs.length = vs.size) (h : ∀ (i : Nat) c v, cs[i]? = some c → vs[i]? = some v → R st w c v) : R st w (.agg cs) (.agg vs)
  | tup (cs : List AV) (vs : Array Value) (hn : cs.length = vs.size) (h : ∀ (i : Nat) c v, cs[i]? = some c → vs[i]? = some v → R st w c v) : R st w (.tup cs) (.tuple vs)
  | ifc (T : TypeId) (x : AV) (v : Value) (h : R st w x v) : R st w (.ifc T x) (.iface T v)
  | cond (c : Bool) (a : AV) (v : Value) (h : c = true → R st w a v) (h' : c = false → v = undef) : R st w (.cond c a) v
  | sl0 (a : Option Addr) (cap : Nat) : R st w (.sl []) (.slice a 0 cap)
  | sl (xs : List AV) (b off cap size : Nat) (f : Nat → Value) (hcap : xs.length ≤ cap) (hs : ∀ (i : Nat) x, xs[i]? = some x → x.cells.length = size)
      (hc : ∀ (i : Nat) x (j : Nat) c, xs[i]? = some x → x.cells[j]? = some c → Fz st w b (off + i * size + j) (f (i * size + j)))
      (hr : ∀ (i : Nat) x (j : Nat) c, xs[i]? = some x → x.cells[j]? = some c → R st w c (f (i * size + j))) : R st w (.sl xs) (.slice (some ⟨b, off, none⟩) xs.length cap)
  | row (xs : List AV) (b off cap size : Nat) (f : Nat → Value) (hcap : xs.length ≤ cap) (hs : ∀ (i : Nat) x, xs[i]? = some x → x.cells.length = size)
      (hc : ∀ (i : Nat) x (j : Nat) c, xs[i]? = some x → x.cells[j]? = some c → Fz st w b (off + i * size + j) (f (i * size + j)))
      (hr : ∀ (i : Nat) x (j : Nat) c, xs[i]? = some x → x.cells[j]? = some c → R st w c (f (i * size + j))) : R st w (.row b off cap xs) (.slice (some ⟨b, off, none⟩) xs.length cap)
  | ip (cs : List AV) (b off : Nat) (f : Nat → Value) (hc : ∀ (j : Nat) c, cs[j]? = some c → Fz st w b (off + j) (f j))
      (hr : ∀ (j : Nat) c, cs[j]? = some c → R st w c (f j)) : R st w (.ip cs) (.pointer (some ⟨b, off, none⟩))
  | nilB (b : Nat) (T : TypeId) (n : Nat) (hb : b < w.heap.size) (h : w.shape? b = some (T, n)) : R st w (.nilB b T n) (.pointer none)

theorem R.lit_inv {st : St} {w : World} {v u : Value} (h : R st w (.lit v) u) : u = v := by cases h; rfl

/-- From one world and state to a later one: what stays. -/
structure Ext (st : St) (w : World) (st' : St) (w' : World) : Prop where
  os : w'.os = w.os
  tape : w'.tape = w.tape
  output : w'.output = w.output
  shape : ∀ b, b < w.heap.size → w'.shape? b = w.shape? b
  size : w.heap.size ≤ w'.heap.size
  keep : ∀ b, b < w.heap.size → (∀ o, (b, o) ∉ st) → w'.heap[b]? = w.heap[b]?
  keepGrow : ∀ b e size n cap, b < w.heap.size → (b, Ob.grow e size n cap) ∈ st → ∀ off, off < n * size → w'.cell? ⟨b, off, none⟩ = w.cell? ⟨b, off, none⟩
  opens : ∀ b off, b < w.heap.size → Mut st' b off → Mut st b off
  konst : ∀ b vs, b < w.heap.size → (b, Ob.konst vs) ∈ st → w'.heap[b]? = w.heap[b]?

/-- The world is as the state says. -/
structure Rel (st : St) (w : World) : Prop where
  nodup : (st.map (·.1)).Nodup
  cells : ∀ b cs, (b, Ob.cells cs) ∈ st → ∃ vs T, w.heap[b]? = some (.cells vs T (0, 0)) ∧ vs.size = cs.length ∧ ∀ (i : Nat) c v, cs[i]? = some c → vs[i]? = some v → R st w c v
  grow : ∀ b e size n cap, (b, Ob.grow e size n cap) ∈ st → ∃ vs, w.heap[b]? = some (.cells vs e (0, 0)) ∧ vs.size = cap * size ∧ n ≤ cap ∧ cap ≤ maxLen
  konst : ∀ b vs, (b, Ob.konst vs) ∈ st → b < w.heap.size ∧ ∀ (j : Nat) v, vs[j]? = some v → w.cell? ⟨b, j, none⟩ = some v

theorem cell_lt {w : World} {b off : Nat} {v : Value} (h : w.cell? ⟨b, off, none⟩ = some v) : b < w.heap.size := World.block_lt_of_cell? w _ h

theorem key_unique {st : St} (hn : (st.map (·.1)).Nodup) {b : Nat} {o o' : Ob} (h : (b, o) ∈ st) (h' : (b, o') ∈ st) : o = o' := by
  induction st with
  | nil => cases h
  | cons p st ih =>
    simp only [List.map_cons, List.nodup_cons] at hn
    rcases List.mem_cons.1 h with h1 | h1
    · rcases List.mem_cons.1 h' with h2 | h2
      · have := h1.trans h2.symm
        simpa using this
      · exact absurd (List.mem_map.2 ⟨_, h2, by rw [← h1]⟩) hn.1
    · rcases List.mem_cons.1 h' with h2 | h2
      · exact absurd (List.mem_map.2 ⟨_, h1, by rw [← h2]⟩) hn.1
      · exact ih hn.2 h1 h2

theorem Ext.refl (st : St) (w : World) : Ext st w st w := ⟨rfl, rfl, rfl, fun _ _ => rfl, Nat.le_refl _, fun _ _ _ => rfl, fun _ _ _ _ _ _ _ _ _ => rfl, fun _ _ _ h => h, fun _ _ _ _ => rfl⟩

theorem Ext.cell {st st' : St} {w w' : World} (h : Ext st w st' w') (hn : (st.map (·.1)).Nodup) {b off : Nat} {v : Value} (hc : Fz st w b off v) : Fz st' w' b off v := by
  obtain ⟨h1, h2⟩ := hc
  have hb := cell_lt h1
  refine ⟨?_, fun hm => h2 (h.opens b off hb hm)⟩
  by_cases hk : ∀ o, (b, o) ∉ st
  · rw [← h1]; exact World.cell?_of_block (w := w) (h.keep b hb hk)
  · have hk : ∃ o, (b, o) ∈ st := Classical.byContradiction fun hh => hk fun o ho => hh ⟨o, ho⟩
    obtain ⟨o, ho⟩ := hk
    cases o with
    | cells cs => exact absurd ⟨_, ho, trivial⟩ h2
    | grow e size n cap =>
      have : off < n * size := Nat.lt_of_not_le fun hle => h2 ⟨_, ho, hle⟩
      rw [h.keepGrow b e size n cap hb ho off this]; exact h1
    | konst vs => exact (World.cell?_of_block (w := w) (h.konst b vs hb ho)).trans h1

theorem R.mono {st st' : St} {w w' : World} (h : Ext st w st' w') (hn : (st.map (·.1)).Nodup) {a : AV} {v : Value} (hr : R st w a v) : R st' w' a v := by
  induction hr with
  | any v => exact .any v
  | lit v => exact .lit v
  | agg cs vs hl _ ih => exact .agg cs vs hl ih
  | tup cs vs hl _ ih => exact .tup cs vs hl ih
  | ifc T x v _ ih => exact .ifc T x v ih
  | cond c a v _ h' ih => exact .cond c a v ih h'
  | sl0 a cap => exact .sl0 a cap
  | sl xs b off cap size f h1 h2 h3 _ ih => exact .sl xs b off cap size f h1 h2 (fun i x j c hx hc => h.cell hn (h3 i x j c hx hc)) ih
  | row xs b off cap size f h1 h2 h3 _ ih => exact .row xs b off cap size f h1 h2 (fun i x j c hx hc => h.cell hn (h3 i x j c hx hc)) ih
  | ip cs b off f h3 _ ih => exact .ip cs b off f (fun j c hc => h.cell hn (h3 j c hc)) ih
  | nilB b T n hb h1 => exact .nilB b T n (Nat.lt_of_lt_of_le hb h.size) (by rw [h.shape b hb]; exact h1)

theorem Ext.trans {st st1 st2 : St} {w w1 w2 : World} (h : Ext st w st1 w1) (k : Ext st1 w1 st2 w2) (hn : (st.map (·.1)).Nodup) : Ext st w st2 w2 where
  os := k.os.trans h.os
  tape := k.tape.trans h.tape
  output := k.output.trans h.output
  shape := fun b hb => (k.shape b (Nat.lt_of_lt_of_le hb h.size)).trans (h.shape b hb)
  size := Nat.le_trans h.size k.size
  keep := fun b hb hk => by
    refine Eq.trans ?_ (h.keep b hb hk)
    by_cases hk1 : ∀ o, (b, o) ∉ st1
    · exact k.keep b (Nat.lt_of_lt_of_le hb h.size) hk1
    · obtain ⟨o, ho⟩ : ∃ o, (b, o) ∈ st1 := Classical.byContradiction fun hh => hk1 fun o ho => hh ⟨o, ho⟩
      cases o with
      | konst vs => exact k.konst b vs (Nat.lt_of_lt_of_le hb h.size) ho
      | cells cs => obtain ⟨o', ho', _⟩ := h.opens b 0 hb ⟨_, ho, trivial⟩; exact absurd ho' (hk o')
      | grow e size n cap => obtain ⟨o', ho', _⟩ := h.opens b (n * size) hb ⟨_, ho, Nat.le_refl _⟩; exact absurd ho' (hk o')
  keepGrow := fun b e size n cap hb hg off ho => by
    refine Eq.trans ?_ (h.keepGrow b e size n cap hb hg off ho)
    by_cases hk : ∀ o, (b, o) ∉ st1
    · exact World.cell?_of_block (w := w1) (k.keep b (Nat.lt_of_lt_of_le hb h.size) hk)
    · have hk : ∃ o, (b, o) ∈ st1 := Classical.byContradiction fun hh => hk fun o ho => hh ⟨o, ho⟩
      obtain ⟨o, ho1⟩ := hk
      cases o with
      | konst vs => exact World.cell?_of_block (w := w1) (k.konst b vs (Nat.lt_of_lt_of_le hb h.size) ho1)
      | cells cs =>
        obtain ⟨o', ho', hop⟩ := h.opens b 0 hb ⟨_, ho1, trivial⟩
        have := key_unique hn ho' hg
        subst this
        simp only [Ob.opens] at hop; omega
      | grow e1 size1 n1 cap1 =>
        obtain ⟨o', ho', hop⟩ := h.opens b (n1 * size1) hb ⟨_, ho1, Nat.le_refl _⟩
        have := key_unique hn ho' hg
        subst this
        simp only [Ob.opens] at hop
        exact k.keepGrow b e1 size1 n1 cap1 (Nat.lt_of_lt_of_le hb h.size) ho1 off (by omega)
  opens := fun b off hb hm => h.opens b off hb (k.opens b off (Nat.lt_of_lt_of_le hb h.size) hm)
  konst := fun b vs hb hg => by
    refine Eq.trans ?_ (h.konst b vs hb hg)
    by_cases hk1 : ∀ o, (b, o) ∉ st1
    · exact k.keep b (Nat.lt_of_lt_of_le hb h.size) hk1
    · obtain ⟨o, ho⟩ : ∃ o, (b, o) ∈ st1 := Classical.byContradiction fun hh => hk1 fun o ho => hh ⟨o, ho⟩
      cases o with
      | konst us => exact k.konst b us (Nat.lt_of_lt_of_le hb h.size) ho
      | cells cs =>
        obtain ⟨o', ho', hop⟩ := h.opens b 0 hb ⟨_, ho, trivial⟩
        have := key_unique hn ho' hg
        subst this
        exact absurd hop id
      | grow e size n cap =>
        obtain ⟨o', ho', hop⟩ := h.opens b (n * size) hb ⟨_, ho, Nat.le_refl _⟩
        have := key_unique hn ho' hg
        subst this
        exact absurd hop id

theorem Ext.konst_rel {st st' : St} {w w' : World} (hx : Ext st w st' w') (hrel : Rel st w) {b : Nat} {vs : List Value} (h : (b, Ob.konst vs) ∈ st) : b < w'.heap.size ∧ ∀ (j : Nat) v, vs[j]? = some v → w'.cell? ⟨b, j, none⟩ = some v :=
  ⟨Nat.lt_of_lt_of_le (hrel.konst b vs h).1 hx.size, fun j v hv => (World.cell?_of_block (w := w) (hx.konst b vs (hrel.konst b vs h).1 h)).trans ((hrel.konst b vs h).2 j v hv)⟩

/-! ### Frames, and code over them -/

structure Good (N : Nat) (env : Env) (st : St) (a : Act) (w : World) : Prop where
  size : a.tmps.size = N
  defers : a.defers = []
  env : ∀ i x, env.lookup i = some x → ∃ v, a.tmps[i]? = some v ∧ R st w x v
  rel : Rel st w

abbrev Post := Exit → Env → St → Prop

def Sat (N : Nat) (Q : Post) (st : St) (w : World) : Exit → Act → World → Prop := fun e a' w' => ∃ env' st', Q e env' st' ∧ Good N env' st' a' w' ∧ Ext st w st' w'

/-- From a frame that is as env and st say, this code comes to an end of which Q holds. -/
def AC (P : Program) (N : Nat) (c : Code) (Q : Post) (env : Env) (st : St) : Prop := ∀ a w, Good N env st a w → c.wp P (Sat N Q st w) a w

def thenP (next : Env → St → Prop) (Q : Post) : Post
  | .normal, env, st => next env st
  | e, env, st => Q e env st
def inB (id : Nat) (Q : Post) : Post
  | .exit id', env, st => if id' = id then Q .normal env st else Q (.exit id') env st
  | e, env, st => Q e env st

theorem Sat.later {N : Nat} {Q : Post} {st st1 : St} {w w1 : World} (hx : Ext st w st1 w1) (hn : (st.map (·.1)).Nodup) {e : Exit} {a : Act} {w' : World} (h : Sat N Q st1 w1 e a w') : Sat N Q st w e a w' := by
  obtain ⟨env2, st2, q, g, x⟩ := h
  exact ⟨env2, st2, q, g, hx.trans x hn⟩

section
variable {P : Program} {N : Nat} {Q : Post} {env : Env} {st : St}

theorem AC.mono {c : Code} {Q' : Post} (h : AC P N c Q env st) (hq : ∀ e env st, Q e env st → Q' e env st) : AC P N c Q' env st :=
  fun a w hg => wp_mono (h a w hg) fun e a' w' ⟨env', st', q, g, x⟩ => ⟨env', st', hq _ _ _ q, g, x⟩

theorem AC_seq {x y : Code} (h : AC P N x (thenP (AC P N y Q) Q) env st) : AC P N (.seq x y) Q env st := by
  intro a w hg
  refine wp_seq (wp_mono (h a w hg) ?_)
  rintro e a1 w1 ⟨env1, st1, hq, hg1, hx⟩
  cases e with
  | normal => exact wp_mono (hq a1 w1 hg1) fun e a2 w2 h => h.later hx hg.rel.nodup
  | _ => exact ⟨env1, st1, hq, hg1, hx⟩

theorem AC_skip (h : Q .normal env st) : AC P N .skip Q env st := fun a w hg => wp_skip ⟨env, st, h, hg, .refl _ _⟩
theorem AC_exit {id : Nat} (h : Q (.exit id) env st) : AC P N (.exit id) Q env st := fun a w hg => wp_exit ⟨env, st, h, hg, .refl _ _⟩
theorem AC_ret (h : Q .ret env st) : AC P N .ret Q env st := fun a w hg => wp_ret ⟨env, st, h, hg, .refl _ _⟩
theorem AC_label {l : Nat} (h : Q .normal env st) : AC P N (.label l) Q env st := fun a w hg => wp_label ⟨env, st, h, hg, .refl _ _⟩

theorem AC_block {id : Nat} {c : Code} (h : AC P N c (inB id Q) env st) : AC P N (.block id c) Q env st := by
  intro a w hg
  refine wp_block (wp_mono (h a w hg) ?_)
  rintro e a1 w1 ⟨env1, st1, hq, hg1, hx⟩
  cases e with
  | exit id' =>
    simp only [inB] at hq
    simp only [Exit.inBlock]
    split at hq
    · rename_i h; rw [if_pos h]; exact ⟨env1, st1, hq, hg1, hx⟩
    · rename_i h; rw [if_neg h]; exact ⟨env1, st1, hq, hg1, hx⟩
  | _ => exact ⟨env1, st1, hq, hg1, hx⟩

/-- What an operand is. -/
def AEv (env : Env) (x : Operand) (y : AV) : Prop := ∀ N st a w, Good N env st a w → R st w y (a.eval x)

theorem AEv.tmp {t : Nat} {y : AV} (h : env.lookup t = some y) : AEv env (.tmp t) y := by
  intro N st a w hg
  obtain ⟨v, hv, hr⟩ := hg.env t y h
  have : a.eval (.tmp t) = v := by
    show a.tmps.getD t undef = v
    simp [hv]
  rw [this]; exact hr
theorem AEv.const (v : Value) : AEv env (.const v) (.lit v) := fun _ _ _ _ _ => .lit v
theorem AEv.global (g : Nat) : AEv env (.global g) (.ptr g 0) := fun _ _ _ _ _ => .lit _
theorem AEv.func (f : FuncId) : AEv env (.func f) (.lit (.func (.func f) #[] #[])) := fun _ _ _ _ _ => .lit _
theorem AEv.cond {x : Operand} {c : Bool} {y : AV} (h : AEv env x (.cond c y)) (hc : c = true) : AEv env x y := by
  intro N st a w hg
  have := h N st a w hg
  cases this with
  | cond _ _ _ h _ => exact h hc

/-- Whatever is the one is the other. -/
def Le (a b : AV) : Prop := ∀ st w v, R st w a v → R st w b v
theorem Le.refl (a : AV) : Le a a := fun _ _ _ h => h
theorem Le.any (a : AV) : Le a .any := fun _ _ v _ => .any v
theorem Le.nilB (b : Nat) (T : TypeId) (n : Nat) : Le (.nilB b T n) .nilptr := fun st w v h => by cases h; exact .lit _
theorem Le.nils : Le .nils (.sl []) := fun st w v h => by cases h; exact .sl0 none 0
theorem Le.row (b off cap : Nat) (xs : List AV) : Le (.row b off cap xs) (.sl xs) := fun st w v h => by
  cases h with
  | row xs b off cap size f h1 h2 h3 h4 => exact .sl xs b off cap size f h1 h2 h3 h4
theorem Le.agg {cs ds : List AV} (hl : cs.length = ds.length) (h : ∀ (i : Nat) c d, cs[i]? = some c → ds[i]? = some d → Le c d) : Le (.agg cs) (.agg ds) := fun st w v hr => by
  cases hr with
  | agg _ vs hn h1 =>
    refine .agg ds vs (by omega) fun i d v hd hv => ?_
    have : i < cs.length := by have := (List.getElem?_eq_some_iff.1 hd).1; omega
    exact h i _ d (List.getElem?_eq_getElem this) hd st w v (h1 i _ v (List.getElem?_eq_getElem this) hv)
theorem Le.tup {cs ds : List AV} (hl : cs.length = ds.length) (h : ∀ (i : Nat) c d, cs[i]? = some c → ds[i]? = some d → Le c d) : Le (.tup cs) (.tup ds) := fun st w v hr => by
  cases hr with
  | tup _ vs hn h1 =>
    refine .tup ds vs (by omega) fun i d v hd hv => ?_
    have : i < cs.length := by have := (List.getElem?_eq_some_iff.1 hd).1; omega
    exact h i _ d (List.getElem?_eq_getElem this) hd st w v (h1 i _ v (List.getElem?_eq_getElem this) hv)
theorem Le.ifc {T : TypeId} {a b : AV} (h : Le a b) : Le (.ifc T a) (.ifc T b) := fun st w v hr => by
  cases hr with
  | ifc _ _ v h1 => exact .ifc T b v (h _ _ _ h1)
theorem Le.cells (vs : Array Value) : Le (.lit (.agg vs)) (.agg (vs.toList.map .lit)) := fun st w v hr => by
  cases hr
  refine .agg _ vs (by simp) fun i c v hc hv => ?_
  simp only [List.getElem?_map, Array.getElem?_toList, hv, Option.map_some, Option.some.injEq] at hc
  subst hc
  exact .lit v
theorem Le.lifc (T : TypeId) (v : Value) : Le (.lit (.iface T v)) (.ifc T (.lit v)) := fun st w u hr => by
  cases hr; exact .ifc T _ _ (.lit v)
theorem AEv.le {x : Operand} {y z : AV} (h : AEv env x y) (hl : Le y z) : AEv env x z := fun N st a w hg => hl _ _ _ (h N st a w hg)

theorem AC_cond {c : Operand} {x y : Code} {b : Bool} (hc : AEv env c (.bool b)) (ht : b = true → AC P N x Q env st) (hf : b = false → AC P N y Q env st) : AC P N (.cond c x y) Q env st := by
  intro a w hg
  have h : a.eval c = .bool b := by
    exact (hc N st a w hg).lit_inv
  cases b with
  | true => exact wp_cond_true h (ht rfl a w hg)
  | false => exact wp_cond_false h (hf rfl a w hg)

/-- Each slot of the second frame is known in the first one. -/
inductive EnvLe (env : Env) : Env → Prop
  | nil : EnvLe env []
  | cons {i : Nat} {x y : AV} {rest : Env} (h : env.lookup i = some y) (hl : Le y x) (t : EnvLe env rest) : EnvLe env ((i, x) :: rest)
theorem EnvLe.spec {env env' : Env} (h : EnvLe env env') : ∀ i x, env'.lookup i = some x → ∃ y, env.lookup i = some y ∧ Le y x := by
  induction h with
  | nil => intro i x hi; simp at hi
  | @cons j u v rest h1 h2 t ih =>
    intro i x hi
    simp only [List.lookup_cons] at hi
    by_cases hij : i = j
    · subst hij
      simp only [beq_self_eq_true] at hi
      cases hi
      exact ⟨v, h1, h2⟩
    · have : (i == j) = false := by simpa using hij
      simp only [this] at hi
      exact ih i x hi
theorem Le.of_eq {a b : AV} (h : a = b) : Le a b := h ▸ Le.refl a

theorem Good.weak {env' : Env} {a : Act} {w : World} (hg : Good N env st a w) (h : EnvLe env env') : Good N env' st a w := by
  refine ⟨hg.size, hg.defers, fun i x hi => ?_, hg.rel⟩
  obtain ⟨y, hy, hle⟩ := h.spec i x hi
  obtain ⟨v, hv, hr⟩ := hg.env i y hy
  exact ⟨v, hv, hle _ _ _ hr⟩

theorem AC_loop {G : Type} {c : Code} (I : G → Prop) (envI : G → Env) (stI : G → St) (m : G → Nat) (g0 : G) (hI : I g0) (hst : st = stI g0) (henv : EnvLe env (envI g0))
    (round : ∀ g, I g → AC P N c (thenP (fun env' st' => ∃ g', I g' ∧ m g' < m g ∧ st' = stI g' ∧ EnvLe env' (envI g')) Q) (envI g) (stI g)) : AC P N (.loop c) Q env st := by
  intro a w hg
  refine wp_loop_ghost (fun n a' w' => ∃ g, I g ∧ m g = n ∧ Good N (envI g) (stI g) a' w' ∧ Ext st w (stI g) w') (m g0) ⟨g0, hI, rfl, ?_, ?_⟩ ?_
  · subst hst; exact hg.weak henv
  · subst hst; exact .refl _ _
  · rintro n a1 w1 ⟨g, hig, rfl, hg1, hx⟩
    refine wp_mono (round g hig a1 w1 hg1) ?_
    rintro e a2 w2 ⟨env2, st2, q, g2, x2⟩
    cases e with
    | normal =>
      obtain ⟨g', hig', hm, rfl, henv'⟩ := q
      exact ⟨m g', hm, g', hig', rfl, g2.weak henv', hx.trans x2 hg.rel.nodup⟩
    | _ => exact ⟨env2, st2, q, g2, hx.trans x2 hg.rel.nodup⟩

/-- Less may be known. -/
theorem AC_weak {c : Code} (env' : Env) (henv : EnvLe env env') (h : AC P N c Q env' st) : AC P N c Q env st := fun a w hg => h a w (hg.weak henv)

/-- Where ways meet again: what holds there, whichever way was gone. -/
def Meet {G : Type} (I : G → Prop) (envI : G → Env) (stI : G → St) (env : Env) (st : St) : Prop := ∃ g, I g ∧ st = stI g ∧ EnvLe env (envI g)
theorem AC_join {G : Type} {x y : Code} (I : G → Prop) (envI : G → Env) (stI : G → St) (h : AC P N x (thenP (Meet I envI stI) Q) env st) (hy : ∀ g, I g → AC P N y Q (envI g) (stI g)) : AC P N (.seq x y) Q env st := by
  refine AC_seq (h.mono fun e env' st' hq => ?_)
  cases e with
  | normal =>
    obtain ⟨g, hi, rfl, hle⟩ := hq
    exact AC_weak _ hle (hy g hi)
  | _ => exact hq

/-! ### Operations in the text's order -/

def AL (P : Program) (N : Nat) (ops : Array Oper) (l : List Oper) (Q : Post) (env : Env) (st : St) : Prop := ∀ a w, Good N env st a w → wpList P ops (Sat N Q st w) l a w

theorem AC_region {id : Nat} {l : List Oper} (h : AL P N l.toArray l Q env st) : AC P N (.region id l.toArray false) Q env st :=
  fun a w hg => wp_region_lit (h a w hg)

def putE : Option Tmp → AV → Env → Env
  | some d, x, env => (d, x) :: env
  | none, _, env => env

theorem Good.put {d : Option Tmp} {x : AV} {v : Value} {a : Act} {w w' : World} {st' : St} (hg : Good N env st a w) (hd : ∀ t, d = some t → t < N) (hr : R st' w' x v) (hrel : Rel st' w') (hx : Ext st w st' w') : Good N (putE d x env) st' (a.put d v) w' := by
  have hn := hg.rel.nodup
  cases d with
  | none => exact ⟨hg.size, hg.defers, fun i y hi => let ⟨u, hu, hr⟩ := hg.env i y hi; ⟨u, hu, hr.mono hx hn⟩, hrel⟩
  | some t =>
    refine ⟨by simp [Act.put, hg.size], hg.defers, fun i y hi => ?_, hrel⟩
    have ht := hd t rfl
    simp only [putE, List.lookup_cons] at hi
    by_cases hit : i = t
    · subst hit
      simp only [beq_self_eq_true] at hi
      cases hi
      exact ⟨v, by simp [Act.put, hg.size, ht], hr⟩
    · have : (i == t) = false := by simpa using hit
      simp only [this] at hi
      obtain ⟨u, hu, hr⟩ := hg.env i y hi
      exact ⟨u, by simp only [Act.put]; rw [Array.getElem?_setIfInBounds_ne (Ne.symm hit)]; exact hu, hr.mono hx hn⟩

/-- The slot lies in the frame. -/
def dstIn (N : Nat) : Option Tmp → Bool
  | some t => decide (t < N)
  | none => true
theorem dstIn_spec {N : Nat} {d : Option Tmp} (h : dstIn N d = true) : ∀ t, d = some t → t < N := fun t e => by subst e; simpa [dstIn] using h

/-- One operation, in whatever frame fits: what it yields, and the state then. -/
def Step (P : Program) (N : Nat) (o : Oper) (env : Env) (st : St) (K : AV → St → Prop) : Prop :=
  ∀ a w, Good N env st a w → ∀ (next : Act → World → Prop) (Q : Exit → Act → World → Prop),
    (∀ x st' v w', K x st' → R st' w' x v → Rel st' w' → Ext st w st' w' → next (a.put o.dst v) w') → o.wp P a w next Q

/-- It yields V, and the state stays. -/
def PStep (P : Program) (N : Nat) (o : Oper) (env : Env) (st : St) (V : AV) : Prop := Step P N o env st fun x st' => x = V ∧ st' = st

theorem AL_nil {ops : Array Oper} (h : Q .normal env st) : AL P N ops [] Q env st := fun a w hg => ⟨env, st, h, hg, .refl _ _⟩

theorem wpList_mono {ops : Array Oper} {Q Q' : Exit → Act → World → Prop} (hq : ∀ e a w, Q e a w → Q' e a w) : ∀ (l : List Oper) (a : Act) (w : World), wpList P ops Q l a w → wpList P ops Q' l a w
  | [], a, w, h => hq _ _ _ h
  | o :: rest, a, w, h => by
    unfold wpList at *
    split
    · rename_i hw
      rw [if_pos hw] at h
      rcases h with h | ⟨h1, a', w', h2⟩
      · left
        unfold Oper.wp at *
        generalize (execOp a.eval o).run P w = r at *
        cases r with
        | ok n w1 =>
          cases n <;> simp only [Oper.upon] at h ⊢ <;> try exact wpList_mono hq rest _ _ h
          · exact h.mono fun e w'' he => by
              cases e with
              | returned v => exact wpList_mono hq rest _ _ he
              | panicked c => exact hq _ _ _ he
              | outgrown => exact let ⟨a', w', h⟩ := he; ⟨a', w', hq _ _ _ h⟩
          · exact Rows.mono h fun v w'' he => wpList_mono hq rest _ _ he
        | halt x w1 => cases x <;> simp only [Oper.upon] at h ⊢; exact hq _ _ _ h
      · exact .inr ⟨h1, a', w', hq _ _ _ h2⟩
    · rename_i hw; rw [if_neg hw] at h; exact wpList_mono hq rest _ _ h

theorem AL_step {ops : Array Oper} {o : Oper} {rest : List Oper} {K : AV → St → Prop} (hgd : o.guard = none) (hd : dstIn N o.dst = true) (hs : Step P N o env st K)
    (h : ∀ x st', K x st' → AL P N ops rest Q (putE o.dst x env) st') : AL P N ops (o :: rest) Q env st := by
  intro a w hg
  unfold wpList
  rw [if_pos (by simp [Region.wanted, hgd])]
  refine .inl (hs a w hg _ _ fun x st' v w' hk hr hrel hx => ?_)
  exact wpList_mono (fun e a w h => h.later hx hg.rel.nodup) _ _ _ (h x st' hk _ _ (hg.put (dstIn_spec hd) hr hrel hx))

theorem AL_p {ops : Array Oper} {o : Oper} {rest : List Oper} {V : AV} (hgd : o.guard = none) (hd : dstIn N o.dst = true) (hs : PStep P N o env st V)
    (h : AL P N ops rest Q (putE o.dst V env) st) : AL P N ops (o :: rest) Q env st :=
  AL_step hgd hd hs fun x st' ⟨h1, h2⟩ => by subst h1; subst h2; exact h

/-- What a guard's yield comes to. -/
def gd (b : Bool) : Bool → Bool
  | true => b
  | false => !b

theorem gdT {b : Bool} (h : b = true) : gd b true = true := h
theorem gdF {b : Bool} (h : b = false) : gd b false = true := by simp [gd, h]
theorem gdAnd {c d : Bool} (h : c = true) (k : d = true) : (c && d) = true := by simp [h, k]

theorem lookup_of {g d : Nat} {ops : Array Oper} {a : Act} {w : World} {b : Bool} (hg : Good N env st a w) (hj : ((ops[g]?).bind (·.dst)) = some d) (hb : AEv env (.tmp d) (.bool b)) : yielded ops a.tmps g = some b := by
  have h := (hb N st a w hg).lit_inv
  have he : a.tmps.getD d undef = .bool b := h
  unfold yielded
  rw [hj]
  rw [Array.getD_eq_getD_getElem?] at he
  cases hd : a.tmps[d]? with
  | none => rw [hd] at he; simp [undef] at he
  | some v => rw [hd] at he; simp only [Option.getD_some] at he; subst he; simp [hd]

/-- An operation behind a guard: where it isn't wanted nothing is known of its slot. -/
theorem AL_g {ops : Array Oper} {o : Oper} {rest : List Oper} {V : AV} {g d : Nat} {want b : Bool} (hgd : o.guard = some (g, want)) (hj : ((ops[g]?).bind (·.dst)) = some d) (hb : AEv env (.tmp d) (.bool b))
    (hd : dstIn N o.dst = true) (hs : gd b want = true → PStep P N o env st V) (h : AL P N ops rest Q (putE o.dst (.cond (gd b want) V) env) st) : AL P N ops (o :: rest) Q env st := by
  intro a w hg
  have hy := lookup_of hg hj hb
  unfold wpList
  by_cases hw : gd b want = true
  · have hbw : b = want := by cases want <;> simpa [gd] using hw
    rw [if_pos (by simp [Region.wanted, hgd, hy, hbw])]
    refine .inl (hs hw a w hg _ _ fun x st' v w' hk hr hrel hx => ?_)
    obtain ⟨rfl, rfl⟩ := hk
    exact wpList_mono (fun e a w h => h.later hx hg.rel.nodup) _ _ _ (h _ _ (hg.put (dstIn_spec hd) (.cond _ _ _ (fun _ => hr) fun h => absurd hw (by simp [h])) hrel hx))
  · have hbw : (b == want) = false := by cases want <;> cases b <;> simp_all [gd]
    rw [if_neg (by simp [Region.wanted, hgd, hy]; simpa using hbw)]
    exact h _ _ (hg.put (dstIn_spec hd) (.cond _ _ _ (fun h => absurd h hw) fun _ => rfl) hg.rel (.refl _ _))

/-- A guard that is itself behind a guard. -/
theorem AL_gg {ops : Array Oper} {o : Oper} {rest : List Oper} {V : AV} {g d : Nat} {want b c : Bool} (hgd : o.guard = some (g, want)) (hj : ((ops[g]?).bind (·.dst)) = some d) (hb : AEv env (.tmp d) (.cond c (.bool b)))
    (hd : dstIn N o.dst = true) (hs : c = true → gd b want = true → (c && gd b want) = true → PStep P N o env st V) (h : AL P N ops rest Q (putE o.dst (.cond (c && gd b want) V) env) st) : AL P N ops (o :: rest) Q env st := by
  intro a w hg
  cases c with
  | true => exact AL_g hgd hj (hb.cond rfl) hd (fun h => hs rfl h (by simp [h])) (by simpa using h) a w hg
  | false =>
    have hy : yielded ops a.tmps g = none := by
      have h1 := hb N st a w hg
      have h2 : a.tmps.getD d undef = undef := by
        cases h1 with
        | cond _ _ _ _ h' => exact h' rfl
      unfold yielded
      rw [hj]
      rw [Array.getD_eq_getD_getElem?] at h2
      cases hd : a.tmps[d]? with
      | none => simp [hd]
      | some v => rw [hd] at h2; simp only [Option.getD_some] at h2; subst h2; simp [hd, undef]
    unfold wpList
    rw [if_neg (by simp [Region.wanted, hgd, hy])]
    exact h _ _ (hg.put (dstIn_spec hd) (.cond _ _ _ (fun h => by simp at h) fun _ => rfl) hg.rel (.refl _ _))
end

end Go.AL
