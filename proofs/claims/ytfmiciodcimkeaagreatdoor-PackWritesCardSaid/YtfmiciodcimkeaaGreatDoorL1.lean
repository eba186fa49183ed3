/- A part of the proof: laws of the logic and of the data, no program in sight.
Conditions: none beyond each theorem's own. -/
import Derived.WalkKit
import Derived.Deep.AppendLies
import Derived.Deep.LoopGhost
import Derived.Maps.AppendAt
import Derived.KernelRfl
import Derived.WalkLawsBesides
import Derived.Deep.MidRow
import Derived.Great.BuildSlice
import Derived.RowKit3
import Derived.Laws.BytesString
import Derived.Still
import Derived.Laws.StructEq
import Derived.Laws.Tables
import Derived.ChangeKeysEq
set_option linter.unusedVariables false
set_option linter.unusedSimpArgs false
namespace Go.AL
open Go.RowKit

/-- Abstract values. -/
inductive AV where
  | any
  | lit (v : Value)
  | agg (cs : List AV)
  | sl (xs : List AV)
  | row (b off cap : Nat) (xs : List AV)
  | ip (cs : List AV)
  | ifc (T : TypeId) (x : AV)
  | tup (xs : List AV)
  | cond (c : Bool) (a : AV)
  | nilB (b : Nat) (T : TypeId) (n : Nat)

namespace AV
def cells : AV → List AV
  | agg cs => cs
  | a => [a]
abbrev int (k : IntKind) (n : Int) : AV := lit (.int k n)
abbrev bool (b : Bool) : AV := lit (.bool b)
abbrev str (s : ByteArray) : AV := lit (.string s)
abbrev ptr (b off : Nat) : AV := lit (.pointer (some ⟨b, off, none⟩))
abbrev nilptr : AV := lit (.pointer none)
abbrev nils : AV := lit (.slice none 0 0)
abbrev nili : AV := lit .nilIface
end AV

theorem zA (a b : Bool) : ((a && b) = true) = (a = true ∧ b = true) := Bool.and_eq_true a b
theorem zO (a b : Bool) : ((a || b) = true) = (a = true ∨ b = true) := Bool.or_eq_true a b
theorem zN (b : Bool) : ((!b) = true) = (b = false) := Bool.not_eq_true' b
theorem zM (b : Bool) : ((!b) = false) = (b = true) := Bool.not_eq_false' b
theorem zP (a b : Bool) : ((a && b) = false) = (a = false ∨ b = false) := propext (Bool.and_eq_false_iff ..)
theorem zQ (a b : Bool) : ((a || b) = false) = (a = false ∧ b = false) := propext (Bool.or_eq_false_iff ..)
theorem zD (p : Prop) [Decidable p] : (decide p = true) = p := decide_eq_true_eq
theorem zF (p : Prop) [Decidable p] : (decide p = false) = ¬p := propext decide_eq_false_iff_not
/-- What may still be written: a block of cells; a row that grows: n cells of it are filled, and stay. -/
inductive Ob where
  | cells (cs : List AV)
  | grow (e : TypeId) (size n cap : Nat)
  | konst (vs : List Value)

abbrev St := List (Nat × Ob)
abbrev Env := List (Nat × AV)

def Ob.opens : Ob → Nat → Prop
  | .cells _, _ => True
  | .grow _ size n _, off => n * size ≤ off
  | .konst _, _ => False

/-- A cell that may be written. -/
def Mut (st : St) (b off : Nat) : Prop := ∃ o, (b, o) ∈ st ∧ o.opens off

/-- A cell that stays, and what it holds. -/
def Fz (st : St) (w : World) (b off : Nat) (v : Value) : Prop := w.cell? ⟨b, off, none⟩ = some v ∧ ¬ Mut st b off

/-- In the world w the Go value is this abstract value. -/
inductive R (st : St) (w : World) : AV → Value → Prop
  | any (v : Value) : R st w .any v
  | lit (v : Value) : R st w (.lit v) v
  | agg (cs : List AV) (vs : Array Value) (hn : cs.length = vs.size) (h : ∀ (i : Nat) c v, cs[i]? = some c → vs[i]? = some v → R st w c v) : R st w (.agg cs) (.agg vs)
  | tup (cs : List AV) (vs : Array Value) (hn : cs.length = vs.size) (h : ∀ (i : Nat) c v, cs[i]? = some c → vs[i]? = some v → R st w c v) : R st w (.tup cs) (.tuple vs)
  | ifc (T : TypeId) (x : AV) (v : Value) (h : R st w x v) : R st w (.ifc T x) (.iface T v)
  | cond (c : Bool) (a : AV) (v : Value) (h : c = true → R st w a v) (h' : c = false → v = undef) : R st w (.cond c a) v
  | sl0 (a : Option Addr) (cap : Nat) : R st w (.sl []) (.slice a 0 cap)
  | sl (xs : List AV) (b off cap size : Nat) (f : Nat → Value) (hcap : xs.length ≤ cap) (hs : ∀ (i : Nat) x, xs[i]? = some x → x.cells.length = size)
      (hc : ∀ (i : Nat) x (j : Nat) c, xs[i]? = some x → x.cells[j]? = some c → Fz st w b (off + i * size + j) (f (i * size + j)))
      (hr : ∀ (i : Nat) x (j : Nat) c, xs[i]? = some x → x.cells[j]? = some c → R st w c (f (i * size + j))) : R st w (.sl xs) (.slice (some ⟨b, off, none⟩) xs.length cap)
  | row (xs : List AV) (b off cap size : Nat) (f : Nat → Value) (hcap : xs.length ≤ cap) (hs : ∀ (i : Nat) x, xs[i]? = some x → x.cells.length = size)
      (hc : ∀ (i : Nat) x (j : Nat) c, xs[i]? = some x → x.cells[j]? = some c → Fz st w b (off + i * size + j) (f (i * size + j)))
      (hr : ∀ (i : Nat) x (j : Nat) c, xs[i]? = some x → x.cells[j]? = some c → R st w c (f (i * size + j))) : R st w (.row b off cap xs) (.slice (some ⟨b, off, none⟩) xs.length cap)
  | ip (cs : List AV) (b off : Nat) (f : Nat → Value) (hc : ∀ (j : Nat) c, cs[j]? = some c → Fz st w b (off + j) (f j))
      (hr : ∀ (j : Nat) c, cs[j]? = some c → R st w c (f j)) : R st w (.ip cs) (.pointer (some ⟨b, off, none⟩))
  | nilB (b : Nat) (T : TypeId) (n : Nat) (hb : b < w.heap.size) (h : w.shape? b = some (T, n)) : R st w (.nilB b T n) (.pointer none)

theorem R.lit_inv {st : St} {w : World} {v u : Value} (h : R st w (.lit v) u) : u = v := by cases h; rfl

/-- From one world and state to a later one: what stays. -/
structure Ext (st : St) (w : World) (st' : St) (w' : World) : Prop where
  os : w'.os = w.os
  tape : w'.tape = w.tape
  output : w'.output = w.output
  shape : ∀ b, b < w.heap.size → w'.shape? b = w.shape? b
  size : w.heap.size ≤ w'.heap.size
  keep : ∀ b, b < w.heap.size → (∀ o, (b, o) ∉ st) → w'.heap[b]? = w.heap[b]?
  keepGrow : ∀ b e size n cap, b < w.heap.size → (b, Ob.grow e size n cap) ∈ st → ∀ off, off < n * size → w'.cell? ⟨b, off, none⟩ = w.cell? ⟨b, off, none⟩
  opens : ∀ b off, b < w.heap.size → Mut st' b off → Mut st b off
  konst : ∀ b vs, b < w.heap.size → (b, Ob.konst vs) ∈ st → w'.heap[b]? = w.heap[b]?

/-- A block of cells of which no more than the first m are frozen. -/
def GrowAt (o : Option Obj) (e : TypeId) (m : Nat) (vs : Array Value) : Prop := ∃ fz : Nat × Nat, o = some (.cells vs e fz) ∧ fz.2 ≤ m
/-- The world is as the state says. -/
structure Rel (st : St) (w : World) : Prop where
  nodup : (st.map (·.1)).Nodup
  cells : ∀ b cs, (b, Ob.cells cs) ∈ st → ∃ vs T, w.heap[b]? = some (.cells vs T (0, 0)) ∧ vs.size = cs.length ∧ ∀ (i : Nat) c v, cs[i]? = some c → vs[i]? = some v → R st w c v
  grow : ∀ b e size n cap, (b, Ob.grow e size n cap) ∈ st → ∃ vs, GrowAt w.heap[b]? e (n * size) vs ∧ vs.size = cap * size ∧ n ≤ cap ∧ cap ≤ maxLen
  konst : ∀ b vs, (b, Ob.konst vs) ∈ st → b < w.heap.size ∧ ∀ (j : Nat) v, vs[j]? = some v → w.cell? ⟨b, j, none⟩ = some v

theorem cell_lt {w : World} {b off : Nat} {v : Value} (h : w.cell? ⟨b, off, none⟩ = some v) : b < w.heap.size := World.block_lt_of_cell? w _ h

theorem key_unique {st : St} (hn : (st.map (·.1)).Nodup) {b : Nat} {o o' : Ob} (h : (b, o) ∈ st) (h' : (b, o') ∈ st) : o = o' := by
  induction st with
  | nil => cases h
  | cons p st ih =>
    simp only [List.map_cons, List.nodup_cons] at hn
    rcases List.mem_cons.1 h with h1 | h1
    · rcases List.mem_cons.1 h' with h2 | h2
      · have := h1.trans h2.symm
        simpa using this
      · exact absurd (List.mem_map.2 ⟨_, h2, by rw [← h1]⟩) hn.1
    · rcases List.mem_cons.1 h' with h2 | h2
      · exact absurd (List.mem_map.2 ⟨_, h1, by rw [← h2]⟩) hn.1
      · exact ih hn.2 h1 h2

theorem Ext.refl (st : St) (w : World) : Ext st w st w := ⟨rfl, rfl, rfl, fun _ _ => rfl, Nat.le_refl _, fun _ _ _ => rfl, fun _ _ _ _ _ _ _ _ _ => rfl, fun _ _ _ h => h, fun _ _ _ _ => rfl⟩

theorem Ext.cell {st st' : St} {w w' : World} (h : Ext st w st' w') (hn : (st.map (·.1)).Nodup) {b off : Nat} {v : Value} (hc : Fz st w b off v) : Fz st' w' b off v := by
  obtain ⟨h1, h2⟩ := hc
  have hb := cell_lt h1
  refine ⟨?_, fun hm => h2 (h.opens b off hb hm)⟩
  by_cases hk : ∀ o, (b, o) ∉ st
  · rw [← h1]; exact World.cell?_of_block (w := w) (h.keep b hb hk)
  · have hk : ∃ o, (b, o) ∈ st := Classical.byContradiction fun hh => hk fun o ho => hh ⟨o, ho⟩
    obtain ⟨o, ho⟩ := hk
    cases o with
    | cells cs => exact absurd ⟨_, ho, trivial⟩ h2
    | grow e size n cap =>
      have : off < n * size := Nat.lt_of_not_le fun hle => h2 ⟨_, ho, hle⟩
      rw [h.keepGrow b e size n cap hb ho off this]; exact h1
    | konst vs => exact (World.cell?_of_block (w := w) (h.konst b vs hb ho)).trans h1

theorem R.mono {st st' : St} {w w' : World} (h : Ext st w st' w') (hn : (st.map (·.1)).Nodup) {a : AV} {v : Value} (hr : R st w a v) : R st' w' a v := by
  induction hr with
  | any v => exact .any v
  | lit v => exact .lit v
  | agg cs vs hl _ ih => exact .agg cs vs hl ih
  | tup cs vs hl _ ih => exact .tup cs vs hl ih
  | ifc T x v _ ih => exact .ifc T x v ih
  | cond c a v _ h' ih => exact .cond c a v ih h'
  | sl0 a cap => exact .sl0 a cap
  | sl xs b off cap size f h1 h2 h3 _ ih => exact .sl xs b off cap size f h1 h2 (fun i x j c hx hc => h.cell hn (h3 i x j c hx hc)) ih
  | row xs b off cap size f h1 h2 h3 _ ih => exact .row xs b off cap size f h1 h2 (fun i x j c hx hc => h.cell hn (h3 i x j c hx hc)) ih
  | ip cs b off f h3 _ ih => exact .ip cs b off f (fun j c hc => h.cell hn (h3 j c hc)) ih
  | nilB b T n hb h1 => exact .nilB b T n (Nat.lt_of_lt_of_le hb h.size) (by rw [h.shape b hb]; exact h1)

theorem Ext.trans {st st1 st2 : St} {w w1 w2 : World} (h : Ext st w st1 w1) (k : Ext st1 w1 st2 w2) (hn : (st.map (·.1)).Nodup) : Ext st w st2 w2 where
  os := k.os.trans h.os
  tape := k.tape.trans h.tape
  output := k.output.trans h.output
  shape := fun b hb => (k.shape b (Nat.lt_of_lt_of_le hb h.size)).trans (h.shape b hb)
  size := Nat.le_trans h.size k.size
  keep := fun b hb hk => by
    refine Eq.trans ?_ (h.keep b hb hk)
    by_cases hk1 : ∀ o, (b, o) ∉ st1
    · exact k.keep b (Nat.lt_of_lt_of_le hb h.size) hk1
    · obtain ⟨o, ho⟩ : ∃ o, (b, o) ∈ st1 := Classical.byContradiction fun hh => hk1 fun o ho => hh ⟨o, ho⟩
      cases o with
      | konst vs => exact k.konst b vs (Nat.lt_of_lt_of_le hb h.size) ho
      | cells cs => obtain ⟨o', ho', _⟩ := h.opens b 0 hb ⟨_, ho, trivial⟩; exact absurd ho' (hk o')
      | grow e size n cap => obtain ⟨o', ho', _⟩ := h.opens b (n * size) hb ⟨_, ho, Nat.le_refl _⟩; exact absurd ho' (hk o')
  keepGrow := fun b e size n cap hb hg off ho => by
    refine Eq.trans ?_ (h.keepGrow b e size n cap hb hg off ho)
    by_cases hk : ∀ o, (b, o) ∉ st1
    · exact World.cell?_of_block (w := w1) (k.keep b (Nat.lt_of_lt_of_le hb h.size) hk)
    · have hk : ∃ o, (b, o) ∈ st1 := Classical.byContradiction fun hh => hk fun o ho => hh ⟨o, ho⟩
      obtain ⟨o, ho1⟩ := hk
      cases o with
      | konst vs => exact World.cell?_of_block (w := w1) (k.konst b vs (Nat.lt_of_lt_of_le hb h.size) ho1)
      | cells cs =>
        obtain ⟨o', ho', hop⟩ := h.opens b 0 hb ⟨_, ho1, trivial⟩
        have := key_unique hn ho' hg
        subst this
        simp only [Ob.opens] at hop; omega
      | grow e1 size1 n1 cap1 =>
        obtain ⟨o', ho', hop⟩ := h.opens b (n1 * size1) hb ⟨_, ho1, Nat.le_refl _⟩
        have := key_unique hn ho' hg
        subst this
        simp only [Ob.opens] at hop
        exact k.keepGrow b e1 size1 n1 cap1 (Nat.lt_of_lt_of_le hb h.size) ho1 off (by omega)
  opens := fun b off hb hm => h.opens b off hb (k.opens b off (Nat.lt_of_lt_of_le hb h.size) hm)
  konst := fun b vs hb hg => by
    refine Eq.trans ?_ (h.konst b vs hb hg)
    by_cases hk1 : ∀ o, (b, o) ∉ st1
    · exact k.keep b (Nat.lt_of_lt_of_le hb h.size) hk1
    · obtain ⟨o, ho⟩ : ∃ o, (b, o) ∈ st1 := Classical.byContradiction fun hh => hk1 fun o ho => hh ⟨o, ho⟩
      cases o with
      | konst us => exact k.konst b us (Nat.lt_of_lt_of_le hb h.size) ho
      | cells cs =>
        obtain ⟨o', ho', hop⟩ := h.opens b 0 hb ⟨_, ho, trivial⟩
        have := key_unique hn ho' hg
        subst this
        exact absurd hop id
      | grow e size n cap =>
        obtain ⟨o', ho', hop⟩ := h.opens b (n * size) hb ⟨_, ho, Nat.le_refl _⟩
        have := key_unique hn ho' hg
        subst this
        exact absurd hop id

theorem Ext.konst_rel {st st' : St} {w w' : World} (hx : Ext st w st' w') (hrel : Rel st w) {b : Nat} {vs : List Value} (h : (b, Ob.konst vs) ∈ st) : b < w'.heap.size ∧ ∀ (j : Nat) v, vs[j]? = some v → w'.cell? ⟨b, j, none⟩ = some v :=
  ⟨Nat.lt_of_lt_of_le (hrel.konst b vs h).1 hx.size, fun j v hv => (World.cell?_of_block (w := w) (hx.konst b vs (hrel.konst b vs h).1 h)).trans ((hrel.konst b vs h).2 j v hv)⟩

/-! ### Frames, and code over them -/

structure Good (N : Nat) (env : Env) (st : St) (a : Act) (w : World) : Prop where
  size : a.tmps.size = N
  defers : a.defers = []
  env : ∀ i x, env.lookup i = some x → ∃ v, a.tmps[i]? = some v ∧ R st w x v
  rel : Rel st w

abbrev Post := Exit → Env → St → Prop

def Sat (N : Nat) (Q : Post) (st : St) (w : World) : Exit → Act → World → Prop := fun e a' w' => ∃ env' st', Q e env' st' ∧ Good N env' st' a' w' ∧ Ext st w st' w'

/-- From a frame that is as env and st say, this code comes to an end of which Q holds. -/
def AC (P : Program) (N : Nat) (c : Code) (Q : Post) (env : Env) (st : St) : Prop := ∀ a w, Good N env st a w → c.wp P (Sat N Q st w) a w

def thenP (next : Env → St → Prop) (Q : Post) : Post
  | .normal, env, st => next env st
  | e, env, st => Q e env st
def inB (id : Nat) (Q : Post) : Post
  | .exit id', env, st => if id' = id then Q .normal env st else Q (.exit id') env st
  | e, env, st => Q e env st

theorem Sat.later {N : Nat} {Q : Post} {st st1 : St} {w w1 : World} (hx : Ext st w st1 w1) (hn : (st.map (·.1)).Nodup) {e : Exit} {a : Act} {w' : World} (h : Sat N Q st1 w1 e a w') : Sat N Q st w e a w' := by
  obtain ⟨env2, st2, q, g, x⟩ := h
  exact ⟨env2, st2, q, g, hx.trans x hn⟩

section
variable {P : Program} {N : Nat} {Q : Post} {env : Env} {st : St}

theorem AC.mono {c : Code} {Q' : Post} (h : AC P N c Q env st) (hq : ∀ e env st, Q e env st → Q' e env st) : AC P N c Q' env st :=
  fun a w hg => wp_mono (h a w hg) fun e a' w' ⟨env', st', q, g, x⟩ => ⟨env', st', hq _ _ _ q, g, x⟩

theorem AC_seq {x y : Code} (h : AC P N x (thenP (AC P N y Q) Q) env st) : AC P N (.seq x y) Q env st := by
  intro a w hg
  refine wp_seq (wp_mono (h a w hg) ?_)
  rintro e a1 w1 ⟨env1, st1, hq, hg1, hx⟩
  cases e with
  | normal => exact wp_mono (hq a1 w1 hg1) fun e a2 w2 h => h.later hx hg.rel.nodup
  | _ => exact ⟨env1, st1, hq, hg1, hx⟩

theorem AC_skip (h : Q .normal env st) : AC P N .skip Q env st := fun a w hg => wp_skip ⟨env, st, h, hg, .refl _ _⟩
theorem AC_exit {id : Nat} (h : Q (.exit id) env st) : AC P N (.exit id) Q env st := fun a w hg => wp_exit ⟨env, st, h, hg, .refl _ _⟩
theorem AC_ret (h : Q .ret env st) : AC P N .ret Q env st := fun a w hg => wp_ret ⟨env, st, h, hg, .refl _ _⟩
theorem AC_block {id : Nat} {c : Code} (h : AC P N c (inB id Q) env st) : AC P N (.block id c) Q env st := by
  intro a w hg
  refine wp_block (wp_mono (h a w hg) ?_)
  rintro e a1 w1 ⟨env1, st1, hq, hg1, hx⟩
  cases e with
  | exit id' =>
    simp only [inB] at hq
    simp only [Exit.inBlock]
    split at hq
    · rename_i h; rw [if_pos h]; exact ⟨env1, st1, hq, hg1, hx⟩
    · rename_i h; rw [if_neg h]; exact ⟨env1, st1, hq, hg1, hx⟩
  | _ => exact ⟨env1, st1, hq, hg1, hx⟩

/-- What an operand is. -/
def AEv (env : Env) (x : Operand) (y : AV) : Prop := ∀ N st a w, Good N env st a w → R st w y (a.eval x)

theorem AEv.tmp {t : Nat} {y : AV} (h : env.lookup t = some y) : AEv env (.tmp t) y := by
  intro N st a w hg
  obtain ⟨v, hv, hr⟩ := hg.env t y h
  have : a.eval (.tmp t) = v := by
    show a.tmps.getD t undef = v
    simp [hv]
  rw [this]; exact hr
theorem AEv.const (v : Value) : AEv env (.const v) (.lit v) := fun _ _ _ _ _ => .lit v
theorem AEv.global (g : Nat) : AEv env (.global g) (.ptr g 0) := fun _ _ _ _ _ => .lit _
theorem AEv.func (f : FuncId) : AEv env (.func f) (.lit (.func (.func f) #[] #[])) := fun _ _ _ _ _ => .lit _
theorem AEv.cond {x : Operand} {c : Bool} {y : AV} (h : AEv env x (.cond c y)) (hc : c = true) : AEv env x y := by
  intro N st a w hg
  have := h N st a w hg
  cases this with
  | cond _ _ _ h _ => exact h hc

/-- Whatever is the one is the other. -/
def Le (a b : AV) : Prop := ∀ st w v, R st w a v → R st w b v
theorem Le.refl (a : AV) : Le a a := fun _ _ _ h => h
theorem Le.any (a : AV) : Le a .any := fun _ _ v _ => .any v
theorem Le.nilB (b : Nat) (T : TypeId) (n : Nat) : Le (.nilB b T n) .nilptr := fun st w v h => by cases h; exact .lit _
theorem Le.nils : Le .nils (.sl []) := fun st w v h => by cases h; exact .sl0 none 0
theorem Le.row (b off cap : Nat) (xs : List AV) : Le (.row b off cap xs) (.sl xs) := fun st w v h => by
  cases h with
  | row xs b off cap size f h1 h2 h3 h4 => exact .sl xs b off cap size f h1 h2 h3 h4
theorem Le.agg {cs ds : List AV} (hl : cs.length = ds.length) (h : ∀ (i : Nat) c d, cs[i]? = some c → ds[i]? = some d → Le c d) : Le (.agg cs) (.agg ds) := fun st w v hr => by
  cases hr with
  | agg _ vs hn h1 =>
    refine .agg ds vs (by omega) fun i d v hd hv => ?_
    have : i < cs.length := by have := (List.getElem?_eq_some_iff.1 hd).1; omega
    exact h i _ d (List.getElem?_eq_getElem this) hd st w v (h1 i _ v (List.getElem?_eq_getElem this) hv)
theorem Le.tup {cs ds : List AV} (hl : cs.length = ds.length) (h : ∀ (i : Nat) c d, cs[i]? = some c → ds[i]? = some d → Le c d) : Le (.tup cs) (.tup ds) := fun st w v hr => by
  cases hr with
  | tup _ vs hn h1 =>
    refine .tup ds vs (by omega) fun i d v hd hv => ?_
    have : i < cs.length := by have := (List.getElem?_eq_some_iff.1 hd).1; omega
    exact h i _ d (List.getElem?_eq_getElem this) hd st w v (h1 i _ v (List.getElem?_eq_getElem this) hv)
theorem Le.ifc {T : TypeId} {a b : AV} (h : Le a b) : Le (.ifc T a) (.ifc T b) := fun st w v hr => by
  cases hr with
  | ifc _ _ v h1 => exact .ifc T b v (h _ _ _ h1)
theorem Le.cells (vs : Array Value) : Le (.lit (.agg vs)) (.agg (vs.toList.map .lit)) := fun st w v hr => by
  cases hr
  refine .agg _ vs (by simp) fun i c v hc hv => ?_
  simp only [List.getElem?_map, Array.getElem?_toList, hv, Option.map_some, Option.some.injEq] at hc
  subst hc
  exact .lit v
theorem AEv.le {x : Operand} {y z : AV} (h : AEv env x y) (hl : Le y z) : AEv env x z := fun N st a w hg => hl _ _ _ (h N st a w hg)

theorem AC_cond {c : Operand} {x y : Code} {b : Bool} (hc : AEv env c (.bool b)) (ht : b = true → AC P N x Q env st) (hf : b = false → AC P N y Q env st) : AC P N (.cond c x y) Q env st := by
  intro a w hg
  have h : a.eval c = .bool b := by
    exact (hc N st a w hg).lit_inv
  cases b with
  | true => exact wp_cond_true h (ht rfl a w hg)
  | false => exact wp_cond_false h (hf rfl a w hg)

/-- Each slot of the second frame is known in the first one. -/
inductive EnvLe (env : Env) : Env → Prop
  | nil : EnvLe env []
  | cons {i : Nat} {x y : AV} {rest : Env} (h : env.lookup i = some y) (hl : Le y x) (t : EnvLe env rest) : EnvLe env ((i, x) :: rest)
theorem EnvLe.spec {env env' : Env} (h : EnvLe env env') : ∀ i x, env'.lookup i = some x → ∃ y, env.lookup i = some y ∧ Le y x := by
  induction h with
  | nil => intro i x hi; simp at hi
  | @cons j u v rest h1 h2 t ih =>
    intro i x hi
    simp only [List.lookup_cons] at hi
    by_cases hij : i = j
    · subst hij
      simp only [beq_self_eq_true] at hi
      cases hi
      exact ⟨v, h1, h2⟩
    · have : (i == j) = false := by simpa using hij
      simp only [this] at hi
      exact ih i x hi
theorem Le.of_eq {a b : AV} (h : a = b) : Le a b := h ▸ Le.refl a

theorem Good.weak {env' : Env} {a : Act} {w : World} (hg : Good N env st a w) (h : EnvLe env env') : Good N env' st a w := by
  refine ⟨hg.size, hg.defers, fun i x hi => ?_, hg.rel⟩
  obtain ⟨y, hy, hle⟩ := h.spec i x hi
  obtain ⟨v, hv, hr⟩ := hg.env i y hy
  exact ⟨v, hv, hle _ _ _ hr⟩

theorem AC_loop {G : Type} {c : Code} (I : G → Prop) (envI : G → Env) (stI : G → St) (m : G → Nat) (g0 : G) (hI : I g0) (hst : st = stI g0) (henv : EnvLe env (envI g0))
    (round : ∀ g, I g → AC P N c (thenP (fun env' st' => ∃ g', I g' ∧ m g' < m g ∧ st' = stI g' ∧ EnvLe env' (envI g')) Q) (envI g) (stI g)) : AC P N (.loop c) Q env st := by
  intro a w hg
  refine wp_loop_ghost (fun n a' w' => ∃ g, I g ∧ m g = n ∧ Good N (envI g) (stI g) a' w' ∧ Ext st w (stI g) w') (m g0) ⟨g0, hI, rfl, ?_, ?_⟩ ?_
  · subst hst; exact hg.weak henv
  · subst hst; exact .refl _ _
  · rintro n a1 w1 ⟨g, hig, rfl, hg1, hx⟩
    refine wp_mono (round g hig a1 w1 hg1) ?_
    rintro e a2 w2 ⟨env2, st2, q, g2, x2⟩
    cases e with
    | normal =>
      obtain ⟨g', hig', hm, rfl, henv'⟩ := q
      exact ⟨m g', hm, g', hig', rfl, g2.weak henv', hx.trans x2 hg.rel.nodup⟩
    | _ => exact ⟨env2, st2, q, g2, hx.trans x2 hg.rel.nodup⟩

/-- Less may be known. -/
theorem AC_weak {c : Code} (env' : Env) (henv : EnvLe env env') (h : AC P N c Q env' st) : AC P N c Q env st := fun a w hg => h a w (hg.weak henv)

/-- Where ways meet again: what holds there, whichever way was gone. -/
def Meet {G : Type} (I : G → Prop) (envI : G → Env) (stI : G → St) (env : Env) (st : St) : Prop := ∃ g, I g ∧ st = stI g ∧ EnvLe env (envI g)
theorem AC_join {G : Type} {x y : Code} (I : G → Prop) (envI : G → Env) (stI : G → St) (h : AC P N x (thenP (Meet I envI stI) Q) env st) (hy : ∀ g, I g → AC P N y Q (envI g) (stI g)) : AC P N (.seq x y) Q env st := by
  refine AC_seq (h.mono fun e env' st' hq => ?_)
  cases e with
  | normal =>
    obtain ⟨g, hi, rfl, hle⟩ := hq
    exact AC_weak _ hle (hy g hi)
  | _ => exact hq

/-! ### Operations in the text's order -/

def AL (P : Program) (N : Nat) (ops : Array Oper) (l : List Oper) (Q : Post) (env : Env) (st : St) : Prop := ∀ a w, Good N env st a w → wpList P ops (Sat N Q st w) l a w

theorem AC_region {id : Nat} {l : List Oper} (h : AL P N l.toArray l Q env st) : AC P N (.region id l.toArray false) Q env st :=
  fun a w hg => wp_region_lit (h a w hg)

def putE : Option Tmp → AV → Env → Env
  | some d, x, env => (d, x) :: env
  | none, _, env => env

theorem Good.put {d : Option Tmp} {x : AV} {v : Value} {a : Act} {w w' : World} {st' : St} (hg : Good N env st a w) (hd : ∀ t, d = some t → t < N) (hr : R st' w' x v) (hrel : Rel st' w') (hx : Ext st w st' w') : Good N (putE d x env) st' (a.put d v) w' := by
  have hn := hg.rel.nodup
  cases d with
  | none => exact ⟨hg.size, hg.defers, fun i y hi => let ⟨u, hu, hr⟩ := hg.env i y hi; ⟨u, hu, hr.mono hx hn⟩, hrel⟩
  | some t =>
    refine ⟨by simp [Act.put, hg.size], hg.defers, fun i y hi => ?_, hrel⟩
    have ht := hd t rfl
    simp only [putE, List.lookup_cons] at hi
    by_cases hit : i = t
    · subst hit
      simp only [beq_self_eq_true] at hi
      cases hi
      exact ⟨v, by simp [Act.put, hg.size, ht], hr⟩
    · have : (i == t) = false := by simpa using hit
      simp only [this] at hi
      obtain ⟨u, hu, hr⟩ := hg.env i y hi
      exact ⟨u, by simp only [Act.put]; rw [Array.getElem?_setIfInBounds_ne (Ne.symm hit)]; exact hu, hr.mono hx hn⟩

/-- The slot lies in the frame. -/
def dstIn (N : Nat) : Option Tmp → Bool
  | some t => decide (t < N)
  | none => true
theorem dstIn_spec {N : Nat} {d : Option Tmp} (h : dstIn N d = true) : ∀ t, d = some t → t < N := fun t e => by subst e; simpa [dstIn] using h

/-- One operation, in whatever frame fits: what it yields, and the state then. -/
def Step (P : Program) (N : Nat) (o : Oper) (env : Env) (st : St) (K : AV → St → Prop) : Prop :=
  ∀ a w, Good N env st a w → ∀ (next : Act → World → Prop) (Q : Exit → Act → World → Prop),
    (∀ x st' v w', K x st' → R st' w' x v → Rel st' w' → Ext st w st' w' → next (a.put o.dst v) w') → o.wp P a w next Q

/-- It yields V, and the state stays. -/
def PStep (P : Program) (N : Nat) (o : Oper) (env : Env) (st : St) (V : AV) : Prop := Step P N o env st fun x st' => x = V ∧ st' = st

theorem AL_nil {ops : Array Oper} (h : Q .normal env st) : AL P N ops [] Q env st := fun a w hg => ⟨env, st, h, hg, .refl _ _⟩

theorem wpList_mono {ops : Array Oper} {Q Q' : Exit → Act → World → Prop} (hq : ∀ e a w, Q e a w → Q' e a w) : ∀ (l : List Oper) (a : Act) (w : World), wpList P ops Q l a w → wpList P ops Q' l a w
  | [], a, w, h => hq _ _ _ h
  | o :: rest, a, w, h => by
    unfold wpList at *
    split
    · rename_i hw
      rw [if_pos hw] at h
      rcases h with h | ⟨h1, a', w', h2⟩
      · left
        unfold Oper.wp at *
        generalize (execOp a.eval o).run P w = r at *
        cases r with
        | ok n w1 =>
          cases n <;> simp only [Oper.upon] at h ⊢ <;> try exact wpList_mono hq rest _ _ h
          · exact h.mono fun e w'' he => by
              cases e with
              | returned v => exact wpList_mono hq rest _ _ he
              | panicked c => exact hq _ _ _ he
              | outgrown => exact let ⟨a', w', h⟩ := he; ⟨a', w', hq _ _ _ h⟩
          · exact Rows.mono h fun v w'' he => wpList_mono hq rest _ _ he
        | halt x w1 => cases x <;> simp only [Oper.upon] at h ⊢; exact hq _ _ _ h
      · exact .inr ⟨h1, a', w', hq _ _ _ h2⟩
    · rename_i hw; rw [if_neg hw] at h; exact wpList_mono hq rest _ _ h

theorem AL_step {ops : Array Oper} {o : Oper} {rest : List Oper} {K : AV → St → Prop} (hgd : o.guard = none) (hd : dstIn N o.dst = true) (hs : Step P N o env st K)
    (h : ∀ x st', K x st' → AL P N ops rest Q (putE o.dst x env) st') : AL P N ops (o :: rest) Q env st := by
  intro a w hg
  unfold wpList
  rw [if_pos (by simp [Region.wanted, hgd])]
  refine .inl (hs a w hg _ _ fun x st' v w' hk hr hrel hx => ?_)
  exact wpList_mono (fun e a w h => h.later hx hg.rel.nodup) _ _ _ (h x st' hk _ _ (hg.put (dstIn_spec hd) hr hrel hx))

theorem AL_p {ops : Array Oper} {o : Oper} {rest : List Oper} {V : AV} (hgd : o.guard = none) (hd : dstIn N o.dst = true) (hs : PStep P N o env st V)
    (h : AL P N ops rest Q (putE o.dst V env) st) : AL P N ops (o :: rest) Q env st :=
  AL_step hgd hd hs fun x st' ⟨h1, h2⟩ => by subst h1; subst h2; exact h

/-- What a guard's yield comes to. -/
def gd (b : Bool) : Bool → Bool
  | true => b
  | false => !b

theorem gdT {b : Bool} (h : b = true) : gd b true = true := h
theorem gdF {b : Bool} (h : b = false) : gd b false = true := by simp [gd, h]
theorem gdAnd {c d : Bool} (h : c = true) (k : d = true) : (c && d) = true := by simp [h, k]

theorem lookup_of {g d : Nat} {ops : Array Oper} {a : Act} {w : World} {b : Bool} (hg : Good N env st a w) (hj : ((ops[g]?).bind (·.dst)) = some d) (hb : AEv env (.tmp d) (.bool b)) : yielded ops a.tmps g = some b := by
  have h := (hb N st a w hg).lit_inv
  have he : a.tmps.getD d undef = .bool b := h
  unfold yielded
  rw [hj]
  rw [Array.getD_eq_getD_getElem?] at he
  cases hd : a.tmps[d]? with
  | none => rw [hd] at he; simp [undef] at he
  | some v => rw [hd] at he; simp only [Option.getD_some] at he; subst he; simp [hd]

/-- An operation behind a guard: where it isn't wanted nothing is known of its slot. -/
theorem AL_g {ops : Array Oper} {o : Oper} {rest : List Oper} {V : AV} {g d : Nat} {want b : Bool} (hgd : o.guard = some (g, want)) (hj : ((ops[g]?).bind (·.dst)) = some d) (hb : AEv env (.tmp d) (.bool b))
    (hd : dstIn N o.dst = true) (hs : gd b want = true → PStep P N o env st V) (h : AL P N ops rest Q (putE o.dst (.cond (gd b want) V) env) st) : AL P N ops (o :: rest) Q env st := by
  intro a w hg
  have hy := lookup_of hg hj hb
  unfold wpList
  by_cases hw : gd b want = true
  · have hbw : b = want := by cases want <;> simpa [gd] using hw
    rw [if_pos (by simp [Region.wanted, hgd, hy, hbw])]
    refine .inl (hs hw a w hg _ _ fun x st' v w' hk hr hrel hx => ?_)
    obtain ⟨rfl, rfl⟩ := hk
    exact wpList_mono (fun e a w h => h.later hx hg.rel.nodup) _ _ _ (h _ _ (hg.put (dstIn_spec hd) (.cond _ _ _ (fun _ => hr) fun h => absurd hw (by simp [h])) hrel hx))
  · have hbw : (b == want) = false := by cases want <;> cases b <;> simp_all [gd]
    rw [if_neg (by simp [Region.wanted, hgd, hy]; simpa using hbw)]
    exact h _ _ (hg.put (dstIn_spec hd) (.cond _ _ _ (fun h => absurd h hw) fun _ => rfl) hg.rel (.refl _ _))

/-- A guard that is itself behind a guard. -/
theorem AL_gg {ops : Array Oper} {o : Oper} {rest : List Oper} {V : AV} {g d : Nat} {want b c : Bool} (hgd : o.guard = some (g, want)) (hj : ((ops[g]?).bind (·.dst)) = some d) (hb : AEv env (.tmp d) (.cond c (.bool b)))
    (hd : dstIn N o.dst = true) (hs : c = true → gd b want = true → (c && gd b want) = true → PStep P N o env st V) (h : AL P N ops rest Q (putE o.dst (.cond (c && gd b want) V) env) st) : AL P N ops (o :: rest) Q env st := by
  intro a w hg
  cases c with
  | true => exact AL_g hgd hj (hb.cond rfl) hd (fun h => hs rfl h (by simp [h])) (by simpa using h) a w hg
  | false =>
    have hy : yielded ops a.tmps g = none := by
      have h1 := hb N st a w hg
      have h2 : a.tmps.getD d undef = undef := by
        cases h1 with
        | cond _ _ _ _ h' => exact h' rfl
      unfold yielded
      rw [hj]
      rw [Array.getD_eq_getD_getElem?] at h2
      cases hd : a.tmps[d]? with
      | none => simp [hd]
      | some v => rw [hd] at h2; simp only [Option.getD_some] at h2; subst h2; simp [hd, undef]
    unfold wpList
    rw [if_neg (by simp [Region.wanted, hgd, hy])]
    exact h _ _ (hg.put (dstIn_spec hd) (.cond _ _ _ (fun h => by simp at h) fun _ => rfl) hg.rel (.refl _ _))
end

end Go.AL

namespace Go.AL
open Go.RowKit

/-- A text, as the list of its bytes. -/
abbrev AV.S (l : List UInt8) : AV := .lit (.string ⟨l.toArray⟩)

theorem toList_S (l : List UInt8) : (⟨l.toArray⟩ : ByteArray).toList = l := by
  rw [ByteArray.toList_eq]
theorem size_S (l : List UInt8) : (⟨l.toArray⟩ : ByteArray).size = l.length := by simp [ByteArray.size]

section
variable {P : Program} {N : Nat} {env : Env} {st : St} {o : Oper}

theorem AEv.S (l : List UInt8) : AEv env (.const (.string ⟨l.toArray⟩)) (.S l) := AEv.const _

/-- An operation that leaves the world alone. -/
theorem PStep.of_val {V : AV} (h : ∀ a w, Good N env st a w → ∃ v, (execOp a.eval o).run P w = .ok (.value v) w ∧ R st w V v) : PStep P N o env st V := by
  intro a w hg next Q hn
  obtain ⟨v, hv, hr⟩ := h a w hg
  unfold Oper.wp
  rw [hv]
  exact hn V st v w ⟨rfl, rfl⟩ hr hg.rel (.refl _ _)

theorem S_move {x : Operand} {y : AV} (ho : o.op = .move x) (hx : AEv env x y) : PStep P N o env st y :=
  .of_val fun a w hg => ⟨_, by simp [execOp, ho], hx _ _ _ _ hg⟩
theorem S_assign {x : Operand} {y : AV} (ho : o.op = .assign x) (hx : AEv env x y) : PStep P N o env st y :=
  .of_val fun a w hg => ⟨_, by simp [execOp, ho], hx _ _ _ _ hg⟩

theorem S_pick {c x y : Operand} {b p q : Bool} (ho : o.op = .pick c x y) (hc : AEv env c (.bool b)) (hx : b = true → AEv env x (.bool p)) (hy : b = false → AEv env y (.bool q)) : PStep P N o env st (.bool (bif b then p else q)) :=
  .of_val fun a w hg => by
    have h1 := (hc _ _ _ _ hg).lit_inv
    refine ⟨if b = true then a.eval x else a.eval y, by simp [execOp, ho, h1, asBool], ?_⟩
    cases b with
    | true => have h2 := (hx rfl _ _ _ _ hg).lit_inv; simp [h2]; exact .lit _
    | false => have h2 := (hy rfl _ _ _ _ hg).lit_inv; simp [h2]; exact .lit _
/-- 'x && y' -/
theorem S_and {c x : Operand} {b p : Bool} (ho : o.op = .pick c x (.const (.bool false))) (hc : AEv env c (.bool b)) (hx : b = true → AEv env x (.bool p)) : PStep P N o env st (.bool (b && p)) := by
  have := S_pick (P := P) (N := N) (st := st) ho hc hx (q := false) (fun _ => .const _)
  cases b <;> simpa using this
/-- 'x || y' -/
theorem S_or {c y : Operand} {b q : Bool} (ho : o.op = .pick c (.const (.bool true)) y) (hc : AEv env c (.bool b)) (hy : b = false → AEv env y (.bool q)) : PStep P N o env st (.bool (b || q)) := by
  have := S_pick (P := P) (N := N) (st := st) ho hc (p := true) (fun _ => .const _) hy
  cases b <;> simpa using this

/-- Two operands that are plain, in whatever world. -/
theorem S_bin {op : BinOp} {t t2 : TypeId} {x y : Operand} {vx vy v : Value} (ho : o.op = .binOp op t x y t2) (hx : AEv env x (.lit vx)) (hy : AEv env y (.lit vy))
    (hgd : eqGuard op t x y vx vy = pure ()) (h : ∀ w, (binOp op t vx vy).run P w = .ok v w) : PStep P N o env st (.lit v) :=
  .of_val fun a w hg => by
    have h1 := (hx _ _ _ _ hg).lit_inv
    have h2 := (hy _ _ _ _ hg).lit_inv
    exact ⟨v, by simp [execOp, ho, h1, h2, hgd, h], .lit _⟩

section ints
variable {t t2 : TypeId} {x y : Operand} {k : IntKind} {a b : Int}
theorem S_add (ho : o.op = .binOp .add t x y t2) (hx : AEv env x (.int k a)) (hy : AEv env y (.int k b)) : PStep P N o env st (.int k (k.wrap (a + b))) :=
  S_bin ho hx hy rfl fun w => by simp [binOp, Op.intArith]
theorem S_sub (ho : o.op = .binOp .sub t x y t2) (hx : AEv env x (.int k a)) (hy : AEv env y (.int k b)) : PStep P N o env st (.int k (k.wrap (a - b))) :=
  S_bin ho hx hy rfl fun w => by simp [binOp, Op.intArith]
theorem S_mul (ho : o.op = .binOp .mul t x y t2) (hx : AEv env x (.int k a)) (hy : AEv env y (.int k b)) : PStep P N o env st (.int k (k.wrap (a * b))) :=
  S_bin ho hx hy rfl fun w => by simp [binOp, Op.intArith]
theorem S_quo (ho : o.op = .binOp .quo t x y t2) (hx : AEv env x (.int k a)) (hy : AEv env y (.int k b)) (hb : b ≠ 0) : PStep P N o env st (.int k (k.wrap (a.tdiv b))) :=
  S_bin ho hx hy rfl fun w => by simp [binOp, Op.intDiv, hb]
theorem S_rem (ho : o.op = .binOp .rem t x y t2) (hx : AEv env x (.int k a)) (hy : AEv env y (.int k b)) (hb : b ≠ 0) : PStep P N o env st (.int k (a.tmod b)) :=
  S_bin ho hx hy rfl fun w => by simp [binOp, Op.intDiv, hb]
theorem S_lss (ho : o.op = .binOp .lss t x y t2) (hx : AEv env x (.int k a)) (hy : AEv env y (.int k b)) : PStep P N o env st (.bool (decide (a < b))) :=
  S_bin ho hx hy rfl fun w => by simp [binOp, Op.intCmp]
theorem S_leq (ho : o.op = .binOp .leq t x y t2) (hx : AEv env x (.int k a)) (hy : AEv env y (.int k b)) : PStep P N o env st (.bool (decide (a ≤ b))) :=
  S_bin ho hx hy rfl fun w => by simp [binOp, Op.intCmp]
theorem S_gtr (ho : o.op = .binOp .gtr t x y t2) (hx : AEv env x (.int k a)) (hy : AEv env y (.int k b)) : PStep P N o env st (.bool (decide (b < a))) :=
  S_bin ho hx hy rfl fun w => by simp [binOp, Op.intCmp]
theorem S_geq (ho : o.op = .binOp .geq t x y t2) (hx : AEv env x (.int k a)) (hy : AEv env y (.int k b)) : PStep P N o env st (.bool (decide (b ≤ a))) :=
  S_bin ho hx hy rfl fun w => by simp [binOp, Op.intCmp]
theorem S_eql (ho : o.op = .binOp .eql t x y t2) (hx : AEv env x (.int k a)) (hy : AEv env y (.int k b)) : PStep P N o env st (.bool (decide (a = b))) :=
  S_bin ho hx hy (eqGuard_at_int ..) fun w => by simp [binOp, Op.intCmp]; rfl
theorem S_neq (ho : o.op = .binOp .neq t x y t2) (hx : AEv env x (.int k a)) (hy : AEv env y (.int k b)) : PStep P N o env st (.bool (!decide (a = b))) :=
  S_bin ho hx hy (eqGuard_at_int ..) fun w => by simp [binOp, Op.intCmp]; rfl
theorem S_bits {op : BinOp} (ho : o.op = .binOp op t x y t2) (hop : op = .and ∨ op = .or ∨ op = .xor) (hx : AEv env x (.int k a)) (hy : AEv env y (.int k b)) : PStep P N o env st (.int k (bits op k a b)) := by
  rcases hop with rfl | rfl | rfl <;> exact S_bin ho hx hy rfl fun w => by simp [binOp, Op.intBits]; rfl
theorem S_shift {op : BinOp} {k2 : IntKind} {v : Value} (ho : o.op = .binOp op t x y t2) (hop : op = .shl ∨ op = .shr) (hx : AEv env x (.int k a)) (hy : AEv env y (.int k2 b)) (h : Op.shift op k a k2 b = pure v) : PStep P N o env st (.lit v) := by
  rcases hop with rfl | rfl <;> exact S_bin ho hx hy rfl fun w => by simp [binOp, h]
end ints

theorem wrap_i64 {n : Int} (h1 : -9223372036854775808 ≤ n) (h2 : n ≤ 9223372036854775807) : IntKind.i64.wrap n = n := by
  simp only [IntKind.wrap, IntKind.bits, IntKind.signed]; simp; omega
theorem wrap_u64 {n : Int} (h1 : 0 ≤ n) (h2 : n ≤ 18446744073709551615) : IntKind.u64.wrap n = n := by
  simp only [IntKind.wrap, IntKind.bits, IntKind.signed]; simp; omega
theorem wrap_u8 {n : Int} (h1 : 0 ≤ n) (h2 : n ≤ 255) : IntKind.u8.wrap n = n := by
  simp only [IntKind.wrap, IntKind.bits, IntKind.signed]; simp; omega
section
variable {t t2 : TypeId} {x y : Operand} {a b : Int}
theorem S_addI (ho : o.op = .binOp .add t x y t2) (hx : AEv env x (.int .i64 a)) (hy : AEv env y (.int .i64 b)) (h1 : -9223372036854775808 ≤ a + b) (h2 : a + b ≤ 9223372036854775807) : PStep P N o env st (.int .i64 (a + b)) := by
  have := S_add (P := P) (N := N) (st := st) ho hx hy; rwa [wrap_i64 h1 h2] at this
theorem S_subI (ho : o.op = .binOp .sub t x y t2) (hx : AEv env x (.int .i64 a)) (hy : AEv env y (.int .i64 b)) (h1 : -9223372036854775808 ≤ a - b) (h2 : a - b ≤ 9223372036854775807) : PStep P N o env st (.int .i64 (a - b)) := by
  have := S_sub (P := P) (N := N) (st := st) ho hx hy; rwa [wrap_i64 h1 h2] at this
/-- Of whole numbers that are not below 0. -/
theorem S_quoN {k : IntKind} {m n : Nat} (hk : k = .u64 ∨ k = .i64) (ho : o.op = .binOp .quo t x y t2) (hx : AEv env x (.int k m)) (hy : AEv env y (.int k n)) (hn : 0 < n) (hm : m ≤ 9223372036854775807 ∨ k = .u64 ∧ m ≤ 18446744073709551615) : PStep P N o env st (.int k ((m / n : Nat) : Int)) := by
  have := S_quo (P := P) (N := N) (st := st) ho hx hy (by omega)
  have e : (m : Int).tdiv n = ((m / n : Nat) : Int) := by rw [Int.tdiv_eq_ediv_of_nonneg (by omega)]; rfl
  have hle : m / n ≤ m := Nat.div_le_self m n
  generalize m / n = q at *
  rw [e] at this
  rcases hk with rfl | rfl
  · rwa [wrap_u64 (by omega) (by omega)] at this
  · rcases hm with hm | ⟨hk', _⟩
    · rwa [wrap_i64 (by omega) (by omega)] at this
    · cases hk'
theorem S_remN {k : IntKind} {m n : Nat} (ho : o.op = .binOp .rem t x y t2) (hx : AEv env x (.int k m)) (hy : AEv env y (.int k n)) (hn : 0 < n) : PStep P N o env st (.int k ((m % n : Nat) : Int)) := by
  have := S_rem (P := P) (N := N) (st := st) ho hx hy (by omega)
  have e : (m : Int).tmod n = ((m % n : Nat) : Int) := by rw [Int.tmod_eq_emod_of_nonneg (by omega)]; rfl
  rwa [e] at this

/-! Truths -/
theorem S_not {b : Bool} (ho : o.op = .unOp .not t x) (hx : AEv env x (.bool b)) : PStep P N o env st (.bool (!b)) :=
  .of_val fun a w hg => by
    have h1 := (hx _ _ _ _ hg).lit_inv
    exact ⟨_, by simp [execOp, ho, h1, Op.unary], .lit _⟩
theorem S_neg {k : IntKind} {n : Int} (ho : o.op = .unOp .neg t x) (hx : AEv env x (.int k n)) : PStep P N o env st (.int k (k.wrap (-n))) :=
  .of_val fun a w hg => by
    have h1 := (hx _ _ _ _ hg).lit_inv
    exact ⟨.int k (k.wrap (-n)), by simp [execOp, ho, h1, Op.unary, Op.intArith], .lit _⟩

/-! Texts -/
theorem beq_dec (l m : List UInt8) : (l == m) = decide (l = m) := by rw [Bool.eq_iff_iff]; simp
variable {l m : List UInt8}
theorem S_cat (ho : o.op = .binOp .add t x y t2) (hx : AEv env x (.S l)) (hy : AEv env y (.S m)) (h : l.length + m.length ≤ 9223372036854775807) : PStep P N o env st (.S (l ++ m)) :=
  S_bin ho hx hy rfl fun w => by
    have h1 : ¬ (((⟨l.toArray⟩ : ByteArray).size + (⟨m.toArray⟩ : ByteArray).size : Nat) : Int) > IntKind.i64.max := by simp only [size_S, IntKind.max_i64]; omega
    have e : (⟨l.toArray⟩ ++ ⟨m.toArray⟩ : ByteArray) = ⟨(l ++ m).toArray⟩ := by
      rw [ByteArray.ext_iff, ByteArray.data_append]; simp
    simp only [binOp, Op.stringOp]
    rw [if_neg h1, e]
    rfl
theorem S_eqS (ho : o.op = .binOp .eql t x y t2) (hx : AEv env x (.S l)) (hy : AEv env y (.S m)) : PStep P N o env st (.bool (decide (l = m))) :=
  S_bin ho hx hy (eqGuard_at_string ..) fun w => by simp only [binOp, Op.stringOp, toList_S, beq_dec]; rfl
theorem S_neS (ho : o.op = .binOp .neq t x y t2) (hx : AEv env x (.S l)) (hy : AEv env y (.S m)) : PStep P N o env st (.bool (!decide (l = m))) :=
  S_bin ho hx hy (eqGuard_at_string ..) fun w => by simp only [binOp, Op.stringOp, toList_S, beq_dec]; rfl
theorem S_leS (ho : o.op = .binOp .leq t x y t2) (hx : AEv env x (.S l)) (hy : AEv env y (.S m)) : PStep P N o env st (.bool (Op.bytesLess l m || decide (l = m))) :=
  S_bin ho hx hy rfl fun w => by simp only [binOp, Op.stringOp, toList_S, beq_dec]; rfl
theorem S_lenS {ts : Array TypeId} (ho : o.op = .call { callee := .builtin .len, args := #[x], argTypes := #[t] }) (hx : AEv env x (.S l)) (hu : P.underlying t = some .string) : PStep P N o env st (.int .i64 l.length) :=
  .of_val fun a w hg => by
    have h1 := (hx _ _ _ _ hg).lit_inv
    refine ⟨.int .i64 l.length, ?_, .lit _⟩
    simp only [execOp, ho, resolve, invoke, builtin, Sem.run_bind, Sem.run_pure, Result.andThen_ok]
    simp [h1, Builtin.len_, run_underlying hu, goInt, size_S]
/-- The byte at a place. -/
def atL (l : List UInt8) (i : Int) : Int := ((l.getD i.toNat 0).toNat : Int)
theorem S_index {k : IntKind} {i : Int} (ho : o.op = .index t x y) (hx : AEv env x (.S l)) (hy : AEv env y (.int k i)) (hu : P.underlying t = some .string) (h0 : 0 ≤ i) (h1 : i < l.length) : PStep P N o env st (.int .u8 (atL l i)) :=
  .of_val fun a w hg => by
    have e1 := (hx _ _ _ _ hg).lit_inv
    have e2 := (hy _ _ _ _ hg).lit_inv
    refine ⟨.int .u8 (atL l i), ?_, .lit _⟩
    have hlt : i.toNat < l.length := by omega
    have e : (⟨l.toArray⟩ : ByteArray)[i.toNat]? = some (l.getD i.toNat 0) := by
      have hs : i.toNat < (⟨l.toArray⟩ : ByteArray).size := by rw [size_S]; exact hlt
      rw [ByteArray.getElem?_lt' _ _ hs]
      simp only [ByteArray.getElem_eq_getElem_data, List.getElem_toArray, List.getD_eq_getElem?_getD, List.getElem?_eq_getElem hlt, Option.getD_some]
    simp [execOp, ho, e1, e2, Instr.index, asIntOf, run_underlying hu, h0, e, atL]
theorem extract_S (l : List UInt8) (i j : Nat) : (⟨l.toArray⟩ : ByteArray).extract i j = ⟨((l.take j).drop i).toArray⟩ := by
  rw [ByteArray.ext_iff, ByteArray.data_extract]
  simp only [List.extract_toArray, List.extract_eq_take_drop, List.take_drop]
  rcases Nat.le_total i j with h | h
  · rw [Nat.add_sub_cancel' h]
  · rw [List.drop_eq_nil_of_le (by simp; omega), List.drop_eq_nil_of_le (by simp; omega)]
theorem S_sliceLH {k1 k2 : IntKind} {i j : Int} {lo hi : Operand} (ho : o.op = .slice t x (some lo) (some hi) none) (hx : AEv env x (.S l)) (hl : AEv env lo (.int k1 i)) (hh : AEv env hi (.int k2 j)) (hu : P.underlying t = some .string)
    (h0 : 0 ≤ i) (h1 : i ≤ j) (h2 : j ≤ l.length) : PStep P N o env st (.S ((l.take j.toNat).drop i.toNat)) :=
  .of_val fun a w hg => by
    have e1 := (hx _ _ _ _ hg).lit_inv
    have e2 := (hl _ _ _ _ hg).lit_inv
    have e3 := (hh _ _ _ _ hg).lit_inv
    refine ⟨_, ?_, .lit _⟩
    have b1 := run_sliceBound (P := P) w k2 j (⟨l.toArray⟩ : ByteArray).size .sliceAlen (by omega) (by rw [size_S]; omega)
    have b2 := run_sliceBound (P := P) w k1 i j.toNat .sliceB (by omega) (by omega)
    simp [execOp, ho, e1, e2, e3, Instr.sliceAt, Instr.slice, Instr.sliceBounds, run_underlying hu, b1, b2, extract_S]
theorem S_sliceL {k1 : IntKind} {i : Int} {lo : Operand} (ho : o.op = .slice t x (some lo) none none) (hx : AEv env x (.S l)) (hl : AEv env lo (.int k1 i)) (hu : P.underlying t = some .string)
    (h0 : 0 ≤ i) (h1 : i ≤ l.length) : PStep P N o env st (.S (l.drop i.toNat)) :=
  .of_val fun a w hg => by
    have e1 := (hx _ _ _ _ hg).lit_inv
    have e2 := (hl _ _ _ _ hg).lit_inv
    refine ⟨_, ?_, .lit _⟩
    have b2 := run_sliceBound (P := P) w k1 i (⟨l.toArray⟩ : ByteArray).size .sliceB (by omega) (by rw [size_S]; omega)
    rw [size_S] at b2
    simp [execOp, ho, e1, e2, Instr.sliceAt, Instr.slice, Instr.sliceBounds, run_underlying hu, b2, extract_S, size_S]
theorem S_sliceH {k2 : IntKind} {j : Int} {hi : Operand} (ho : o.op = .slice t x none (some hi) none) (hx : AEv env x (.S l)) (hh : AEv env hi (.int k2 j)) (hu : P.underlying t = some .string)
    (h0 : 0 ≤ j) (h2 : j ≤ l.length) : PStep P N o env st (.S (l.take j.toNat)) :=
  .of_val fun a w hg => by
    have e1 := (hx _ _ _ _ hg).lit_inv
    have e3 := (hh _ _ _ _ hg).lit_inv
    refine ⟨_, ?_, .lit _⟩
    have b1 := run_sliceBound (P := P) w k2 j (⟨l.toArray⟩ : ByteArray).size .sliceAlen (by omega) (by rw [size_S]; omega)
    simp [execOp, ho, e1, e3, Instr.sliceAt, Instr.slice, Instr.sliceBounds, run_underlying hu, b1, extract_S]

/-! Conversions -/
theorem S_conv {src dst : TypeId} {k k' : IntKind} {n : Int} (ho : o.op = .convert src dst x) (hx : AEv env x (.int k n)) (hs : (P.underlying src).isSome = true) (hd : P.underlying dst = some (.int k')) : PStep P N o env st (.int k' (k'.wrap n)) :=
  .of_val fun a w hg => by
    have e1 := (hx _ _ _ _ hg).lit_inv
    obtain ⟨d, hs⟩ := Option.isSome_iff_exists.1 hs
    exact ⟨_, by simp [execOp, ho, e1, convert, run_underlying hs, run_underlying hd, Conv.intToInt], .lit _⟩
end
end

end Go.AL

namespace Go.AL
open Go.RowKit

theorem mem_at {st : St} {n b : Nat} {o : Ob} (h : st[n]? = some (b, o)) : (b, o) ∈ st := List.mem_of_getElem? h

section
variable {P : Program} {N : Nat} {env : Env} {st : St} {o : Oper} {w : World}

theorem Rel.at_ (h : Rel st w) {b : Nat} {cs : List AV} (hb : (b, Ob.cells cs) ∈ st) {i : Nat} {c : AV} (hc : cs[i]? = some c) : ∃ v, w.cell? ⟨b, i, none⟩ = some v ∧ R st w c v ∧ w.frozen? ⟨b, i, none⟩ = false := by
  obtain ⟨vs, T, h1, h2, h3⟩ := h.cells b cs hb
  have hi : i < vs.size := by have := (List.getElem?_eq_some_iff.1 hc).1; omega
  refine ⟨vs[i], by simp [World.cell?, h1, hi], h3 i c _ hc (by simp [hi]), by simp [World.frozen?, h1]⟩

theorem set_mem {st : St} {n b : Nat} {o o' : Ob} (h : st[n]? = some (b, o)) {p : Nat × Ob} (hp : p ∈ st.set n (b, o')) : p = (b, o') ∨ p ∈ st := (List.mem_or_eq_of_mem_set hp).symm

theorem set_nodup {st : St} {n b : Nat} {o o' : Ob} (h : st[n]? = some (b, o)) (hn : (st.map (·.1)).Nodup) : ((st.set n (b, o')).map (·.1)).Nodup := by
  have : (st.set n (b, o')).map (·.1) = st.map (·.1) := by
    rw [List.map_set]
    refine List.ext_getElem? fun i => ?_
    rw [List.getElem?_set]
    split
    · rename_i hi
      subst hi
      split
      · simp [h]
      · rename_i hlt
        simp at hlt
        simp [List.getElem?_eq_none hlt] at h
    · rfl
  rw [this]; exact hn

/-- What was written into one of the blocks that may be written. -/
theorem write_rel (hrel : Rel st w) {n b : Nat} {cs cs' : List AV} (hst : st[n]? = some (b, .cells cs)) {w' : World} {vs' : Array Value} {T : TypeId} (hb0 : ∃ us, w.heap[b]? = some (.cells us T (0, 0)) ∧ us.size = vs'.size)
    (hb : w'.heap[b]? = some (.cells vs' T (0, 0))) (ho : ∀ b', b' ≠ b → w'.heap[b']? = w.heap[b']?) (hs : w'.heap.size = w.heap.size) (h1 : w'.os = w.os) (h2 : w'.tape = w.tape) (h3 : w'.output = w.output)
    (hl : vs'.size = cs'.length) (hr : ∀ (i : Nat) c v, cs'[i]? = some c → vs'[i]? = some v → R st w c v) : Rel (st.set n (b, .cells cs')) w' ∧ Ext st w (st.set n (b, .cells cs')) w' := by
  have hn := hrel.nodup
  have hn' := set_nodup (o' := .cells cs') hst hn
  have hlen : n < st.length := (List.getElem?_eq_some_iff.1 hst).1
  have hshape : ∀ b', b' < w.heap.size → w'.shape? b' = w.shape? b' := fun b' _ => by
    by_cases ha : b' = b
    · subst ha
      obtain ⟨us, hu, hz⟩ := hb0
      simp only [World.shape?, hb, hu, hz]
    · simp only [World.shape?, ho _ ha]
  have hx : Ext st w (st.set n (b, .cells cs')) w' := by
    refine ⟨h1, h2, h3, hshape, by omega, fun b' hb' hk => ho b' fun e => hk _ (e ▸ mem_at hst), fun b' e size m cap hb' hg off hoff => ?_, fun b' off hb' hm => ?_, fun b' us hb' hg => ho b' fun e => by subst e; have := key_unique hn hg (mem_at hst); cases this⟩
    · have hne : b' ≠ b := fun e => by subst e; have := key_unique hn hg (mem_at hst); cases this
      exact World.cell?_of_block (w := w) (ho b' hne)
    · obtain ⟨o, ho1, ho2⟩ := hm
      rcases set_mem hst ho1 with e | e
      · cases e; exact ⟨_, mem_at hst, trivial⟩
      · exact ⟨o, e, ho2⟩
  refine ⟨⟨hn', fun b' ds hd => ?_, fun b' e size m cap hg => ?_, fun b' us hg => ?_⟩, hx⟩
  · by_cases he : b' = b
    · subst he
      have hmem : (b', Ob.cells cs') ∈ st.set n (b', .cells cs') := List.mem_iff_getElem?.2 ⟨n, by simp [hlen]⟩
      have := key_unique hn' hd hmem
      cases this
      exact ⟨vs', T, hb, hl, fun i c v hc hv => (hr i c v hc hv).mono hx hn⟩
    · rcases set_mem hst hd with e | e
      · cases e; exact absurd rfl he
      · obtain ⟨vs, T', k1, k2, k3⟩ := hrel.cells b' ds e
        exact ⟨vs, T', by rw [ho b' he]; exact k1, k2, fun i c v hc hv => (k3 i c v hc hv).mono hx hn⟩
  · rcases set_mem hst hg with e' | e'
    · cases e'
    · have hne : b' ≠ b := fun e => by subst e; have := key_unique hn e' (mem_at hst); cases this
      obtain ⟨vs, k1, k2⟩ := hrel.grow b' e size m cap e'
      exact ⟨vs, by rw [ho b' hne]; exact k1, k2⟩
  · rcases set_mem hst hg with e' | e'
    · cases e'
    · exact hx.konst_rel hrel e'

theorem key_lt (hrel : Rel st w) {b : Nat} {o : Ob} (h : (b, o) ∈ st) : b < w.heap.size := by
  have : ∃ x, w.heap[b]? = some x := by
    cases o with
    | cells cs => obtain ⟨vs, T, h1, _⟩ := hrel.cells b cs h; exact ⟨_, h1⟩
    | grow e size n cap => obtain ⟨vs, ⟨fz, h1, _⟩, _⟩ := hrel.grow b e size n cap h; exact ⟨_, h1⟩
    | konst vs => exact ⟨_, Array.getElem?_eq_getElem (hrel.konst b vs h).1⟩
  obtain ⟨x, hx⟩ := this
  exact (Array.getElem?_eq_some_iff.1 hx).1

/-- A new block. -/
theorem alloc_rel (hrel : Rel st w) {ob : Ob} {vs : Array Value} {T : TypeId}
    (hob : match ob with | .cells cs => vs.size = cs.length ∧ ∀ (i : Nat) c v, cs[i]? = some c → vs[i]? = some v → R st w c v | .grow e size n cap => e = T ∧ vs.size = cap * size ∧ n ≤ cap ∧ cap ≤ maxLen | .konst _ => False) :
    Rel ((w.heap.size, ob) :: st) (w.alloc (.cells vs T)) ∧ Ext st w ((w.heap.size, ob) :: st) (w.alloc (.cells vs T)) := by
  have hn := hrel.nodup
  have hold : ∀ b', b' < w.heap.size → (w.alloc (.cells vs T)).heap[b']? = w.heap[b']? := fun b' hb' => Below.heap_alloc w _ b' hb'
  have hx : Ext st w ((w.heap.size, ob) :: st) (w.alloc (.cells vs T)) := by
    refine ⟨rfl, rfl, rfl, fun b' hb' => by simp only [World.shape?, hold b' hb'], by simp, fun b' hb' _ => hold b' hb', fun b' e size m cap hb' hg off hoff => World.cell?_of_block (w := w) (hold b' hb'), fun b' off hb' hm => ?_, fun b' us hb' _ => hold b' hb'⟩
    obtain ⟨o, ho1, ho2⟩ := hm
    rcases List.mem_cons.1 ho1 with e | e
    · cases e; omega
    · exact ⟨o, e, ho2⟩
  have hnew : (w.alloc (.cells vs T)).heap[w.heap.size]? = some (.cells vs T) := heap_alloc_new w _
  have hn' : ((((w.heap.size, ob) :: st : St)).map (·.1)).Nodup := by
    simp only [List.map_cons, List.nodup_cons]
    refine ⟨fun h => ?_, hn⟩
    obtain ⟨p, hp, hp'⟩ := List.mem_map.1 h
    have := key_lt hrel (b := p.1) (o := p.2) hp
    omega
  refine ⟨⟨hn', fun b' ds hd => ?_, fun b' e size m cap hg => ?_, fun b' us hg => ?_⟩, hx⟩
  · rcases List.mem_cons.1 hd with e | e
    · cases e
      exact ⟨vs, T, hnew, hob.1, fun i c v hc hv => (hob.2 i c v hc hv).mono hx hn⟩
    · obtain ⟨us, T', k1, k2, k3⟩ := hrel.cells b' ds e
      exact ⟨us, T', by rw [hold b' (key_lt hrel e)]; exact k1, k2, fun i c v hc hv => (k3 i c v hc hv).mono hx hn⟩
  · rcases List.mem_cons.1 hg with e' | e'
    · cases e'
      obtain ⟨rfl, k⟩ := hob
      exact ⟨vs, ⟨(0, 0), hnew, Nat.zero_le _⟩, k⟩
    · obtain ⟨us, k1, k2⟩ := hrel.grow b' e size m cap e'
      exact ⟨us, by rw [hold b' (key_lt hrel e')]; exact k1, k2⟩
  · rcases List.mem_cons.1 hg with e' | e'
    · cases e'; exact hob.elim
    · exact hx.konst_rel hrel e'

theorem eval_ptr {x : Operand} {b off : Nat} {a : Act} (hx : AEv env x (.ptr b off)) (hg : Good N env st a w) : a.eval x = .pointer (some ⟨b, off, none⟩) := (hx _ _ _ _ hg).lit_inv

theorem run_isAgg' {t : TypeId} {d : TypeDesc} (h : P.underlying t = some d) (hd : d.isRow = false) (w : World) : (isAgg t).run P w = .ok false w := by
  unfold isAgg
  rw [Sem.run_bind, run_underlying h w]
  cases d <;> simp_all

/-- A type whose values are one cell. -/
def flatT (P : Program) (t : TypeId) : Bool := match P.underlying t with | some d => !d.isRow | none => false
/-- A struct or an array of m cells. -/
def rowT (P : Program) (t : TypeId) (m : Nat) : Bool := match P.underlying t, P.info? t with | some d, some i => d.isRow && i.size == m | _, _ => false
theorem flatT_spec {t : TypeId} (h : flatT P t = true) : ∃ d, P.underlying t = some d ∧ d.isRow = false := by
  unfold flatT at h
  cases hu : P.underlying t with
  | none => simp [hu] at h
  | some d => exact ⟨d, rfl, by simpa [hu] using h⟩
theorem rowT_spec {t : TypeId} {m : Nat} (h : rowT P t m = true) : ∃ d, P.underlying t = some d ∧ d.isRow = true ∧ (P.info? t).map (·.size) = some m := by
  unfold rowT at h
  cases hu : P.underlying t with
  | none => simp [hu] at h
  | some d =>
    cases hi : P.info? t with
    | none => simp [hu, hi] at h
    | some i => simp [hu, hi] at h; exact ⟨d, rfl, by simpa using h.1, by simp [h.2]⟩

/-! ### Reading -/
theorem S_load {t : TypeId} {x : Operand} {b off : Nat} {cs : List AV} {c : AV} (n : Nat) (ho : o.op = .load t x) (hx : AEv env x (.ptr b off)) (hst : st[n]? = some (b, .cells cs)) (hc : cs[off]? = some c)
    (ht : flatT P t = true) : PStep P N o env st c :=
  .of_val fun a w hg => by
    obtain ⟨d, hu, hd⟩ := flatT_spec ht
    have e := eval_ptr hx hg
    obtain ⟨v, h1, h2, _⟩ := hg.rel.at_ (mem_at hst) hc
    refine ⟨v, ?_, h2⟩
    simp [execOp, ho, e, Instr.loadAt, Instr.sureAddr, loadVar, run_isAgg' hu hd, h1]
theorem S_loadN {t : TypeId} {x : Operand} {b off m : Nat} {cs : List AV} (n : Nat) (ho : o.op = .load t x) (hx : AEv env x (.ptr b off)) (hst : st[n]? = some (b, .cells cs))
    (ht : rowT P t m = true) (hm : off + m ≤ cs.length) : PStep P N o env st (.agg ((cs.drop off).take m)) :=
  .of_val fun a w hg => by
    obtain ⟨d, hu, hd, hi⟩ := rowT_spec ht
    have e := eval_ptr hx hg
    obtain ⟨vs, T, h1, h2, h3⟩ := hg.rel.cells b cs (mem_at hst)
    have hlen : ((vs.toList.drop off).take m).length = m := by simp; omega
    refine ⟨.agg ((vs.toList.drop off).take m).toArray, ?_, .agg _ _ (by simp; omega) fun i c v hc hv => ?_⟩
    · have hr : w.rangeAt b off ((vs.toList.drop off).take m) := fun j v hv => by
        have hj : j < m := by have := (List.getElem?_eq_some_iff.1 hv).1; omega
        rw [List.getElem?_take_of_lt hj, List.getElem?_drop] at hv
        simp [World.cell?, h1]; simpa using hv
      simp only [execOp, ho, e, Sem.run_bind, run_loadAt_mid (P := P) w b off t _ d hr hu hd (by rw [hi, hlen]), Result.andThen_ok, Sem.run_pure]
    · have hi : i < m := by have := (List.getElem?_eq_some_iff.1 hc).1; simp at this; omega
      rw [List.getElem?_take_of_lt hi, List.getElem?_drop] at hc
      rw [List.getElem?_toArray, List.getElem?_take_of_lt hi, List.getElem?_drop] at hv
      exact h3 _ c v hc (by simpa using hv)

theorem ip_inv {cs : List AV} {v : Value} (h : R st w (.ip cs) v) : ∃ b off, ∃ f : Nat → Value, v = .pointer (some ⟨b, off, none⟩) ∧ (∀ (j : Nat) c, cs[j]? = some c → w.cell? ⟨b, off + j, none⟩ = some (f j) ∧ ¬ Mut st b (off + j)) ∧ ∀ (j : Nat) c, cs[j]? = some c → R st w c (f j) := by
  cases h with
  | ip _ b off f h1 h2 => exact ⟨b, off, f, rfl, h1, h2⟩

theorem S_loadP {t : TypeId} {x : Operand} {cs : List AV} {c : AV} (ho : o.op = .load t x) (hx : AEv env x (.ip cs)) (hc : cs[0]? = some c)
    (ht : flatT P t = true) : PStep P N o env st c :=
  .of_val fun a w hg => by
    obtain ⟨d, hu, hd⟩ := flatT_spec ht
    obtain ⟨b, off, f, e, h1, h2⟩ := ip_inv (hx _ _ _ _ hg)
    refine ⟨f 0, ?_, h2 0 c hc⟩
    have := (h1 0 c hc).1
    simp only [Nat.add_zero] at this
    simp [execOp, ho, e, Instr.loadAt, Instr.sureAddr, loadVar, run_isAgg' hu hd, this]
theorem S_loadPN {t : TypeId} {x : Operand} {m : Nat} {cs : List AV} (ho : o.op = .load t x) (hx : AEv env x (.ip cs))
    (ht : rowT P t m = true) (hm : m ≤ cs.length) : PStep P N o env st (.agg (cs.take m)) :=
  .of_val fun a w hg => by
    obtain ⟨d, hu, hd, hi⟩ := rowT_spec ht
    obtain ⟨b, off, f, e, h1, h2⟩ := ip_inv (hx _ _ _ _ hg)
    have hlen : ((List.range m).map f).length = m := by simp
    refine ⟨.agg ((List.range m).map f).toArray, ?_, .agg _ _ (by simp; omega) fun i c v hc hv => ?_⟩
    · have hr : w.rangeAt b off ((List.range m).map f) := fun j v hv => by
        have hj : j < m := by have := (List.getElem?_eq_some_iff.1 hv).1; omega
        simp [hj] at hv
        subst hv
        exact (h1 j _ (List.getElem?_eq_getElem (by omega))).1
      simp only [execOp, ho, e, Sem.run_bind, run_loadAt_mid (P := P) w b off t _ d hr hu hd (by rw [hi, hlen]), Result.andThen_ok, Sem.run_pure]
    · have hi : i < m := by have := (List.getElem?_eq_some_iff.1 hc).1; simp at this; omega
      rw [List.getElem?_take_of_lt hi] at hc
      simp [hi] at hv
      subst hv
      exact h2 i c hc

/-! ### Addresses -/
theorem run_fieldAt' (w : World) (s : TypeId) (b off i : Nat) (fs : Array Field) (f : Field) (m : Nat) (hs : P.underlying s = some (.struct fs)) (hf : fs[i]? = some f) (hi : (P.info? f.type).map (·.size) = some m) (hm : m ≠ 0) :
    (Instr.fieldAt s (.pointer (some ⟨b, off, none⟩)) i).run P w = .ok (.pointer (some ⟨b, off + f.offset, none⟩)) w := by
  cases hq : P.info? f.type with
  | none => simp [hq] at hi
  | some k =>
    have : ¬ k.size = 0 := by simp [hq] at hi; omega
    simp [Instr.fieldAt, run_underlying hs, hf, Instr.sureAddr, fieldPlace, sizeOf, typeInfo, hq, this, Addr.add_mid]
/-- 'off', 'm' : where the field lies in its struct, and how many cells it has: a closed fact. -/
def fieldIs (P : Program) (s : TypeId) (i k : Nat) : Bool :=
  match P.underlying s with
  | some (.struct fs) => match fs[i]? with
    | some f => f.offset == k && (match P.info? f.type with | some t => t.size != 0 | none => false)
    | none => false
  | _ => false
theorem run_fieldAt'' (w : World) {s : TypeId} (b off : Nat) {i k : Nat} (h : fieldIs P s i k = true) :
    (Instr.fieldAt s (.pointer (some ⟨b, off, none⟩)) i).run P w = .ok (.pointer (some ⟨b, off + k, none⟩)) w := by
  unfold fieldIs at h
  cases hs : P.underlying s with
  | none => simp [hs] at h
  | some d =>
    cases d <;> simp only [hs] at h <;> try (exact absurd h (by decide))
    rename_i fs
    cases hf : fs[i]? with
    | none => simp [hf] at h
    | some f =>
      simp only [hf] at h
      cases ht : P.info? f.type with
      | none => simp [ht] at h
      | some t =>
        simp [ht] at h
        rw [← h.1]
        exact run_fieldAt' w s b off i fs f t.size hs hf (by simp [ht]) h.2
theorem S_field {s : TypeId} {x : Operand} {b off i : Nat} (k : Nat) (ho : o.op = .fieldAddr s x i) (hx : AEv env x (.ptr b off)) (hf : fieldIs P s i k = true) : PStep P N o env st (.ptr b (off + k)) :=
  .of_val fun a w hg => ⟨_, by simp only [execOp, ho, eval_ptr hx hg, Sem.run_bind, run_fieldAt'' w b off hf, Result.andThen_ok, Sem.run_pure], .lit _⟩
theorem S_fieldP {s : TypeId} {x : Operand} {cs : List AV} {i : Nat} (k : Nat) (ho : o.op = .fieldAddr s x i) (hx : AEv env x (.ip cs)) (hf : fieldIs P s i k = true) : PStep P N o env st (.ip (cs.drop k)) :=
  .of_val fun a w hg => by
    obtain ⟨b, off, f, e, h1, h2⟩ := ip_inv (hx _ _ _ _ hg)
    refine ⟨_, by simp only [execOp, ho, e, Sem.run_bind, run_fieldAt'' w b off hf, Result.andThen_ok, Sem.run_pure], .ip _ b (off + k) (fun j => f (k + j)) (fun j c hc => ?_) fun j c hc => ?_⟩
    · rw [List.getElem?_drop] at hc; rw [Nat.add_assoc]; exact h1 _ c hc
    · rw [List.getElem?_drop] at hc; exact h2 _ c hc
theorem S_nilCheck {x : Operand} {b off : Nat} (ho : o.op = .nilCheck x) (hx : AEv env x (.ptr b off)) : PStep P N o env st (.ptr b off) :=
  .of_val fun a w hg => ⟨_, by simp only [execOp, ho, eval_ptr hx hg]; rfl, .lit _⟩
theorem S_nilCheckP {x : Operand} {cs : List AV} (ho : o.op = .nilCheck x) (hx : AEv env x (.ip cs)) : PStep P N o env st (.ip cs) :=
  .of_val fun a w hg => by
    have h := hx _ _ _ _ hg
    obtain ⟨b, off, f, e, _⟩ := ip_inv h
    exact ⟨_, by simp only [execOp, ho, e]; rfl, by rw [← e]; exact h⟩

/-- An element's place in an array in memory. -/
theorem S_elemA {t e : TypeId} {len : Nat} {x y : Operand} {b off : Nat} {k : IntKind} {i : Int} (m : Nat) (ho : o.op = .indexAddr t x y) (hx : AEv env x (.ptr b off)) (hy : AEv env y (.int k i))
    (hu : P.underlying t = some (.array len e)) (hm : (P.info? e).map (·.size) = some m) (h0 : 0 ≤ i) (h1 : i < len) : PStep P N o env st (.ptr b (off + i.toNat * m)) :=
  .of_val fun a w hg => by
    refine ⟨_, ?_, .lit _⟩
    have e2 := (hy _ _ _ _ hg).lit_inv
    cases hq : P.info? e with
    | none => simp [hq] at hm
    | some q =>
      have hqm : q.size = m := by simpa [hq] using hm
      simp [execOp, ho, eval_ptr hx hg, e2, Instr.indexAt, asIntOf, run_underlying hu, Instr.sureAddr, h0, h1, sizeOf, typeInfo, hq, hqm, Addr.add_mid]
/-- .. in a slice that is an object's. -/
theorem S_elemO {t e : TypeId} {len cap : Nat} {x y : Operand} {b off : Nat} {k : IntKind} {i : Int} (m : Nat) (ho : o.op = .indexAddr t x y) (hx : AEv env x (.lit (.slice (some ⟨b, off, none⟩) len cap))) (hy : AEv env y (.int k i))
    (hu : P.underlying t = some (.slice e)) (hm : (P.info? e).map (·.size) = some m) (h0 : 0 ≤ i) (h1 : i < len) : PStep P N o env st (.ptr b (off + i.toNat * m)) :=
  .of_val fun a w hg => by
    refine ⟨_, ?_, .lit _⟩
    have e1 := (hx _ _ _ _ hg).lit_inv
    have e2 := (hy _ _ _ _ hg).lit_inv
    cases hq : P.info? e with
    | none => simp [hq] at hm
    | some q =>
      have hqm : q.size = m := by simpa [hq] using hm
      simp [execOp, ho, e1, e2, Instr.indexAt, asIntOf, run_underlying hu, h0, h1, sizeOf, typeInfo, hq, hqm, Addr.add_mid]

theorem sl_inv {xs : List AV} {v : Value} (h : R st w (.sl xs) v) : ∃ a cap, v = .slice a xs.length cap ∧ (xs ≠ [] → ∃ b off size, ∃ f : Nat → Value, a = some ⟨b, off, none⟩ ∧ xs.length ≤ cap ∧ (∀ (i : Nat) x, xs[i]? = some x → x.cells.length = size) ∧
    (∀ (i : Nat) x (j : Nat) c, xs[i]? = some x → x.cells[j]? = some c → Fz st w b (off + i * size + j) (f (i * size + j))) ∧ ∀ (i : Nat) x (j : Nat) c, xs[i]? = some x → x.cells[j]? = some c → R st w c (f (i * size + j))) := by
  cases h with
  | sl0 a cap => exact ⟨a, cap, rfl, fun h => absurd rfl h⟩
  | sl _ b off cap size f h1 h2 h3 h4 => exact ⟨_, cap, rfl, fun _ => ⟨b, off, size, f, rfl, h1, h2, h3, h4⟩⟩
theorem row_inv {b off cap : Nat} {xs : List AV} {v : Value} (h : R st w (.row b off cap xs) v) : v = .slice (some ⟨b, off, none⟩) xs.length cap ∧ xs.length ≤ cap := by
  cases h with
  | row _ _ _ _ size f h1 _ _ _ => exact ⟨rfl, h1⟩

/-- .. in a slice that stays. -/
theorem S_elem {t e : TypeId} {xs : List AV} {x y : Operand} {k : IntKind} {i : Int} {c : AV} (m : Nat) (ho : o.op = .indexAddr t x y) (hx : AEv env x (.sl xs)) (hy : AEv env y (.int k i))
    (hu : P.underlying t = some (.slice e)) (hm : (P.info? e).map (·.size) = some m) (h0 : 0 ≤ i) (hc : xs[i.toNat]? = some c) (hcm : c.cells.length = m) : PStep P N o env st (.ip c.cells) :=
  .of_val fun a w hg => by
    obtain ⟨A, cap, e1, h⟩ := sl_inv (hx _ _ _ _ hg)
    have hlt : i.toNat < xs.length := (List.getElem?_eq_some_iff.1 hc).1
    obtain ⟨b, off, size, f, rfl, k1, k2, k3, k4⟩ := h (by intro h; subst h; simp at hlt)
    have e2 := (hy _ _ _ _ hg).lit_inv
    have hsz : size = m := by rw [← hcm, k2 _ c hc]
    subst hsz
    have h1 : i < (xs.length : Int) := by omega
    refine ⟨.pointer (some ⟨b, off + i.toNat * size, none⟩), ?_, .ip _ b (off + i.toNat * size) (fun j => f (i.toNat * size + j)) (fun j u hu => k3 _ c j u hc hu) fun j u hu => k4 _ c j u hc hu⟩
    cases hq : P.info? e with
    | none => simp [hq] at hm
    | some q =>
      have hqm : q.size = size := by simpa [hq] using hm
      simp [execOp, ho, e1, e2, Instr.indexAt, asIntOf, run_underlying hu, h0, h1, sizeOf, typeInfo, hq, hqm, Addr.add_mid]

theorem S_len {t : TypeId} {e : TypeId} {x : Operand} {xs : List AV} (ho : o.op = .call { callee := .builtin .len, args := #[x], argTypes := #[t] }) (hx : AEv env x (.sl xs)) (hu : P.underlying t = some (.slice e)) : PStep P N o env st (.int .i64 xs.length) :=
  .of_val fun a w hg => by
    obtain ⟨A, cap, e1, _⟩ := sl_inv (hx _ _ _ _ hg)
    refine ⟨.int .i64 xs.length, ?_, .lit _⟩
    simp only [execOp, ho, resolve, invoke, builtin, Sem.run_bind, Sem.run_pure, Result.andThen_ok]
    simp [e1, Builtin.len_, run_underlying hu, goInt]
theorem S_lenO {t : TypeId} {e : TypeId} {x : Operand} {p : Option Addr} {n c : Nat} (ho : o.op = .call { callee := .builtin .len, args := #[x], argTypes := #[t] }) (hx : AEv env x (.lit (.slice p n c))) (hu : P.underlying t = some (.slice e)) : PStep P N o env st (.int .i64 n) :=
  .of_val fun a w hg => by
    have e1 := (hx _ _ _ _ hg).lit_inv
    refine ⟨.int .i64 n, ?_, .lit _⟩
    simp only [execOp, ho, resolve, invoke, builtin, Sem.run_bind, Sem.run_pure, Result.andThen_ok]
    simp [e1, Builtin.len_, run_underlying hu, goInt]

/-- A part of an array in memory. -/
theorem S_cutA {t e : TypeId} {len : Nat} {x : Operand} {lo hi : Option Operand} {b off i j : Nat} (m : Nat) (ho : o.op = .slice t x lo hi none) (hx : AEv env x (.ptr b off))
    (hl : match lo with | none => i = 0 | some l => ∃ k, AEv env l (.int k i)) (hh : match hi with | none => j = len | some l => ∃ k, AEv env l (.int k j))
    (hu : P.underlying t = some (.array len e)) (hm : (P.info? e).map (·.size) = some m) (h1 : i ≤ j) (h2 : j ≤ len) (h3 : i < len) : PStep P N o env st (.lit (.slice (some ⟨b, off + i * m, none⟩) (j - i) (len - i))) :=
  .of_val fun a w hg => by
    refine ⟨_, ?_, .lit _⟩
    cases hq : P.info? e with
    | none => simp [hq] at hm
    | some q =>
      have hqm : q.size = m := by simpa [hq] using hm
      have hne : ¬ len = i := by omega
      have hb : ∀ w, (Instr.sliceBounds false len len (lo.map a.eval) (hi.map a.eval) none).run P w = .ok (i, j, len) w := fun w => by
        unfold Instr.sliceBounds
        cases lo with
        | none =>
          cases hi with
          | none => simp at hl hh; subst hl; subst hh; simp
          | some l =>
            obtain ⟨k, hk⟩ := hh
            simp at hl; subst hl
            have e3 := (hk _ _ _ _ hg).lit_inv
            simp [e3, run_sliceBound (P := P) w k (j : Int) len .sliceAlen (by omega) (by omega)]
        | some l =>
          obtain ⟨k, hk⟩ := hl
          have e3 := (hk _ _ _ _ hg).lit_inv
          cases hi with
          | none => simp at hh; subst hh; simp [e3, run_sliceBound (P := P) w k (i : Int) j .sliceB (by omega) (by omega)]
          | some l2 =>
            obtain ⟨k2, hk2⟩ := hh
            have e4 := (hk2 _ _ _ _ hg).lit_inv
            simp [e3, e4, run_sliceBound (P := P) w k2 (j : Int) len .sliceAlen (by omega) (by omega), run_sliceBound (P := P) w k (i : Int) j .sliceB (by omega) (by omega)]
      simp only [execOp, ho, eval_ptr hx hg, Instr.sliceAt, Sem.run_bind, run_underlying hu, Result.andThen_ok, Instr.sureAddr, Sem.run_pure, Option.map_none, hb]
      simp [sizeOf, typeInfo, hq, hqm, hne, Addr.add_mid]

/-! ### Writing -/
/-- A value of one cell. -/
def AV.one : AV → Bool
  | .lit v => v.oneCell'
  | .sl _ | .row _ _ _ _ | .ip _ | .ifc _ _ | .nilB _ _ _ => true
  | _ => false
theorem R.one {c : AV} {v : Value} (h : R st w c v) (hc : c.one = true) : v.oneCell' = true := by
  cases h <;> first | rfl | exact hc | (simp [AV.one] at hc)

theorem S_store {t : TypeId} {x y : Operand} {b off : Nat} {cs : List AV} {c : AV} (n : Nat) (ho : o.op = .store t x y) (hx : AEv env x (.ptr b off)) (hy : AEv env y c) (hst : st[n]? = some (b, .cells cs)) (hoff : off < cs.length) (hone : c.one = true)
    (hi : (P.info? t).map (·.size) = some 1) : Step P N o env st fun x st' => x = .any ∧ st' = st.set n (b, .cells (cs.set off c)) := by
  intro a w hg next Q hn
  have e := eval_ptr hx hg
  have hr := hy _ _ _ _ hg
  have h1 := hr.one hone
  obtain ⟨vs, T, k1, k2, k3⟩ := hg.rel.cells b cs (mem_at hst)
  have hlt : off < vs.size := by omega
  have hcell : w.cell? ⟨b, off, none⟩ = some vs[off] := by simp [World.cell?, k1, hlt]
  have hfr : w.frozen? ⟨b, off, none⟩ = false := by simp [World.frozen?, k1]
  have hcells : (a.eval y).cells = #[a.eval y] := by
    cases hv : a.eval y <;> first | rfl | (rw [hv] at h1; simp [Value.oneCell'] at h1)
  have hrun : (execOp a.eval o).run P w = .ok .skip (w.setCell ⟨b, off, none⟩ (a.eval y)) := by
    cases hq : P.info? t with
    | none => simp [hq] at hi
    | some q =>
      have hqm : q.size = 1 := by simpa [hq] using hi
      have hs := run_store P w ⟨b, off, none⟩ (a.eval y) .plain h1
      simp only [hcell, hfr] at hs
      simp [execOp, ho, e, Instr.storeAt, Instr.sureAddr, storeVar, sizeOf, typeInfo, hq, hqm, hcells, storeCells, Addr.add_mid, hs]
  unfold Oper.wp
  rw [hrun]
  have hw := write_rel hg.rel (w' := w.setCell ⟨b, off, none⟩ (a.eval y)) (cs' := cs.set off c) (vs' := vs.setIfInBounds off (a.eval y)) (T := T) hst ⟨vs, k1, by simp⟩
    (heap_setCell_same w b off vs T (a.eval y) k1)
    (fun b' hb' => heap_setCell_other w ⟨b, off, none⟩ b' (a.eval y) hb') (by simp) rfl rfl rfl (by simp [k2]) (fun i d v hd hv => by
      rw [List.getElem?_set] at hd
      rw [Array.getElem?_setIfInBounds] at hv
      by_cases hio : off = i
      · subst hio
        simp [hoff] at hd
        simp [hlt] at hv
        subst hd; subst hv
        exact hr
      · simp only [hio, if_false] at hd hv
        exact k3 i d v hd hv)
  exact hn .any _ undef _ ⟨rfl, rfl⟩ (.any _) hw.1 hw.2

/-! ### New memory -/
theorem S_alloc {e : TypeId} (zs : List Value) (ho : o.op = .alloc e) (hz : (P.info? e).map (fun i => i.zero.map (·.cells.toList)) = some (some zs)) :
    Step P N o env st fun x st' => ∃ b, x = .ptr b 0 ∧ st' = (b, .cells (zs.map .lit)) :: st := by
  intro a w hg next Q hn
  have hrun : (execOp a.eval o).run P w = .ok (.value (.pointer (some ⟨w.heap.size, 0, none⟩))) (w.alloc (.cells zs.toArray e)) := by
    cases hq : P.info? e with
    | none => simp [hq] at hz
    | some q =>
      cases hqz : q.zero with
      | none => simp [hq, hqz] at hz
      | some z =>
        have hc : z.cells = zs.toArray := by simp [hq, hqz] at hz; rw [← hz]
        simp [execOp, ho, Instr.alloc, zeroValue, typeInfo, hq, hqz, newVar, newRow, hc]
  unfold Oper.wp
  rw [hrun]
  have hw := alloc_rel hg.rel (ob := .cells (zs.map .lit)) (vs := zs.toArray) (T := e) ⟨by simp, fun i c v hc hv => by
    simp only [List.getElem?_map] at hc
    simp only [List.getElem?_toArray] at hv
    rw [hv] at hc
    simp at hc
    subst hc
    exact .lit v⟩
  exact hn _ _ _ _ ⟨_, rfl, rfl⟩ (.lit _) hw.1 hw.2

theorem S_box {e : TypeId} {x : Operand} {cs : List AV} (ho : o.op = .box e x) (hx : AEv env x (.agg cs)) :
    Step P N o env st fun y st' => ∃ b, y = .ptr b 0 ∧ st' = (b, .cells cs) :: st := by
  intro a w hg next Q hn
  have hr := hx _ _ _ _ hg
  obtain ⟨vs, e1, hk⟩ : ∃ vs, a.eval x = .agg vs ∧ vs.size = cs.length ∧ ∀ (i : Nat) c v, cs[i]? = some c → vs[i]? = some v → R st w c v := by
    generalize a.eval x = u at hr
    cases hr with
    | agg _ vs hn h => exact ⟨vs, rfl, hn.symm, h⟩
  have hrun : (execOp a.eval o).run P w = .ok (.value (.pointer (some ⟨w.heap.size, 0, none⟩))) (w.alloc (.cells vs e)) := by
    simp [execOp, ho, e1, Instr.box, newVar, newRow, Value.cells]
  unfold Oper.wp
  rw [hrun]
  have hw := alloc_rel hg.rel (ob := .cells cs) (vs := vs) (T := e) hk
  exact hn _ _ _ _ ⟨_, rfl, rfl⟩ (.lit _) hw.1 hw.2
theorem S_box1 {e : TypeId} {x : Operand} {c : AV} (ho : o.op = .box e x) (hx : AEv env x c) (hone : c.one = true) :
    Step P N o env st fun y st' => ∃ b, y = .ptr b 0 ∧ st' = (b, .cells [c]) :: st := by
  intro a w hg next Q hn
  have hr := hx _ _ _ _ hg
  have h1 := hr.one hone
  have hcells : (a.eval x).cells = #[a.eval x] := by
    cases hv : a.eval x <;> first | rfl | (rw [hv] at h1; simp [Value.oneCell'] at h1)
  have hrun : (execOp a.eval o).run P w = .ok (.value (.pointer (some ⟨w.heap.size, 0, none⟩))) (w.alloc (.cells #[a.eval x] e)) := by
    simp [execOp, ho, Instr.box, newVar, newRow, hcells]
  unfold Oper.wp
  rw [hrun]
  have hw := alloc_rel hg.rel (ob := .cells [c]) (vs := #[a.eval x]) (T := e) ⟨rfl, fun i d v hd hv => by
    cases i with
    | zero => simp at hd hv; subst hd; subst hv; exact hr
    | succ i => simp at hd⟩
  exact hn _ _ _ _ ⟨_, rfl, rfl⟩ (.lit _) hw.1 hw.2

/-! ### Calls -/
def Enters (P : Program) (f : FuncId) : Prop := ∃ fn c, P.funcs[f]? = some fn ∧ (fn.name == "runtime.NumGoroutine") = false ∧ fn.body = some c

/-- A call of function f at these arguments, in this state, returns a value and leaves a state of which K holds. -/
structure ACalls (P : Program) (f : FuncId) (args : List AV) (st : St) (K : AV → St → Prop) : Prop where
  enters : Enters P f
  calls : ∀ w (vs : Array Value), Rel st w → vs.size = args.length → (∀ (i : Nat) x v, args[i]? = some x → vs[i]? = some v → R st w x v) →
    Calls P f vs w fun e w' => ∃ r x st', e = .returned r ∧ K x st' ∧ R st' w' x r ∧ Rel st' w' ∧ Ext st w st' w'

theorem ACalls.mono {f : FuncId} {args : List AV} {K K' : AV → St → Prop} (h : ACalls P f args st K) (hk : ∀ x st', K x st' → K' x st') : ACalls P f args st K' :=
  ⟨h.enters, fun w vs h1 h2 h3 => (h.calls w vs h1 h2 h3).mono fun e w' ⟨r, x, st', e1, k, k2⟩ => ⟨r, x, st', e1, hk _ _ k, k2⟩⟩

/-- The operands one by one. -/
inductive AEvs (env : Env) : List Operand → List AV → Prop
  | nil : AEvs env [] []
  | cons {x : Operand} {y : AV} {xs : List Operand} {ys : List AV} (h : AEv env x y) (t : AEvs env xs ys) : AEvs env (x :: xs) (y :: ys)
theorem AEvs.at_ {xs : List Operand} {ys : List AV} (h : AEvs env xs ys) {a : Act} (hg : Good N env st a w) : xs.length = ys.length ∧ ∀ (i : Nat) y x, ys[i]? = some y → xs[i]? = some x → R st w y (a.eval x) := by
  induction h with
  | nil => exact ⟨rfl, fun i y x hy => by simp at hy⟩
  | cons h t ih =>
    refine ⟨by simp [ih.1], fun i y x hy hx => ?_⟩
    cases i with
    | zero => simp at hy hx; subst hy; subst hx; exact h _ _ _ _ hg
    | succ i => exact ih.2 i y x (by simpa using hy) (by simpa using hx)

theorem run_callFunc' {f : FuncId} (h : Enters P f) (args : Array Value) (w : World) : (callFunc f args).run P w = .ok (.enter f args) w := by
  obtain ⟨fn, c, hf, hn, hb⟩ := h
  have h1 : ¬ fn.name = "runtime.NumGoroutine" := by simpa using hn
  simp [callFunc, hf, h1, hb]

theorem S_call {f : FuncId} {xs : List Operand} {ts : Array TypeId} {args : List AV} {K : AV → St → Prop} (ho : o.op = .call { callee := .value (.func f), args := xs.toArray, argTypes := ts }) (hargs : AEvs env xs args) (hc : ACalls P f args st K) : Step P N o env st K := by
  intro a w hg next Q hn
  obtain ⟨hl, hr⟩ := hargs.at_ hg
  have hrun : (execOp a.eval o).run P w = .ok (.enter f (xs.map a.eval).toArray) w := by
    simp [execOp, ho, resolve, Deferred.ofValue, Act.eval, invoke, run_callFunc' hc.enters]
  unfold Oper.wp
  rw [hrun]
  refine (hc.calls w _ hg.rel (by simp [hl]) fun i x v hx hv => ?_).mono ?_
  · simp at hv
    obtain ⟨u, hu, rfl⟩ := hv
    exact hr i x u hx hu
  · rintro e w' ⟨r, x, st', rfl, k, h1, h2, h3⟩
    exact hn x st' r w' k h1 h2 h3

end

end Go.AL

namespace Go.AL
open Go.RowKit

section
variable {P : Program} {N : Nat} {env : Env} {st : St} {o : Oper} {w : World}

/-- Less may be written. -/
theorem Ext.drop {st' : St} (h : List.Sublist st' st) : Ext st w st' w :=
  ⟨rfl, rfl, rfl, fun _ _ => rfl, Nat.le_refl _, fun _ _ _ => rfl, fun _ _ _ _ _ _ _ _ _ => rfl, fun b off _ ⟨o, ho, hp⟩ => ⟨o, h.subset ho, hp⟩, fun _ _ _ _ => rfl⟩
theorem Rel.drop {st' : St} (hr : Rel st w) (h : List.Sublist st' st) : Rel st' w := by
  have hn := hr.nodup
  refine ⟨(h.map _).nodup hn, fun b cs hb => ?_, fun b e size n cap hb => hr.grow b e size n cap (h.subset hb), fun b vs hb => hr.konst b vs (h.subset hb)⟩
  obtain ⟨vs, T, h1, h2, h3⟩ := hr.cells b cs (h.subset hb)
  exact ⟨vs, T, h1, h2, fun i c v hc hv => (h3 i c v hc hv).mono (Ext.drop h) hn⟩

/-- A part of a state, in whatever order. -/
def Sub (st' st : St) : Prop := ∃ s, st'.Perm s ∧ List.Sublist s st
theorem Sub.l {st' st : St} (h : List.Sublist st' st) : Sub st' st := ⟨_, .refl _, h⟩
theorem Sub.p {st' s st : St} (hp : st'.Perm s) (h : List.Sublist s st) : Sub st' st := ⟨s, hp, h⟩
theorem Sub.mem {st' st : St} (h : Sub st' st) : ∀ p, p ∈ st' → p ∈ st := fun p hp => let ⟨_, h1, h2⟩ := h; h2.subset (h1.mem_iff.1 hp)
theorem Sub.nodup {st' st : St} (h : Sub st' st) (hn : (st.map (·.1)).Nodup) : (st'.map (·.1)).Nodup := let ⟨_, h1, h2⟩ := h; (h1.map (·.1)).nodup_iff.2 ((h2.map _).nodup hn)
theorem Ext.dropS {st' : St} (h : Sub st' st) : Ext st w st' w :=
  ⟨rfl, rfl, rfl, fun _ _ => rfl, Nat.le_refl _, fun _ _ _ => rfl, fun _ _ _ _ _ _ _ _ _ => rfl, fun b off _ ⟨o, ho, hp⟩ => ⟨o, h.mem _ ho, hp⟩, fun _ _ _ _ => rfl⟩
theorem Rel.dropS {st' : St} (hr : Rel st w) (h : Sub st' st) : Rel st' w := by
  have hn := hr.nodup
  refine ⟨h.nodup hn, fun b cs hb => ?_, fun b e size n cap hb => hr.grow b e size n cap (h.mem _ hb), fun b vs hb => hr.konst b vs (h.mem _ hb)⟩
  obtain ⟨vs, T, h1, h2, h3⟩ := hr.cells b cs (h.mem _ hb)
  exact ⟨vs, T, h1, h2, fun i c v hc hv => (h3 i c v hc hv).mono (Ext.dropS h) hn⟩

/-- What is the one in state st is the other in state st'. -/
def Conv (st st' : St) (a b : AV) : Prop := ∀ w v, Rel st w → R st w a v → R st' w b v
theorem Conv.refl {st' : St} (h : Sub st' st) (a : AV) : Conv st st' a a := fun w v hr h1 => h1.mono (Ext.dropS h) hr.nodup
theorem Conv.le {st' : St} (h : Sub st' st) {a b : AV} (hl : Le a b) : Conv st st' a b := fun w v hr h1 => hl _ _ _ (h1.mono (Ext.dropS h) hr.nodup)
/-- A struct that the call made, and that nobody writes any more. -/
theorem Conv.ip {st' : St} (h : Sub st' st) {b : Nat} {cs ds : List AV} (hb : (b, Ob.cells cs) ∈ st) (hb' : ∀ o, (b, o) ∉ st') (hl : ds.length = cs.length) (hc : ∀ (i : Nat) c d, cs[i]? = some c → ds[i]? = some d → Conv st st' c d) : Conv st st' (.ptr b 0) (.ip ds) := fun w v hr h1 => by
  have := h1.lit_inv
  subst this
  obtain ⟨vs, T, k1, k2, k3⟩ := hr.cells b cs hb
  refine .ip ds b 0 (fun i => vs[i]?.getD undef) (fun j c hj => ?_) fun j c hj => ?_
  · have hj' : j < vs.size := by have := (List.getElem?_eq_some_iff.1 hj).1; omega
    refine ⟨by simp [World.cell?, k1, hj'], fun ⟨o, ho, _⟩ => hb' o ho⟩
  · have hj' : j < cs.length := by have := (List.getElem?_eq_some_iff.1 hj).1; omega
    have hj2 : j < vs.size := by omega
    exact hc j _ c (List.getElem?_eq_getElem hj') hj w _ hr (k3 j _ _ (List.getElem?_eq_getElem hj') (by simp [hj2]))
theorem Conv.ifc {st' : St} {T : TypeId} {a b : AV} (h : Conv st st' a b) : Conv st st' (.ifc T a) (.ifc T b) := fun w v hr h1 => by
  cases h1 with
  | ifc _ _ v h2 => exact .ifc T b v (h _ _ hr h2)
theorem Conv.tup {st' : St} {cs ds : List AV} (hl : cs.length = ds.length) (h : ∀ (i : Nat) c d, cs[i]? = some c → ds[i]? = some d → Conv st st' c d) : Conv st st' (.tup cs) (.tup ds) := fun w v hr h1 => by
  cases h1 with
  | tup _ vs hn k =>
    refine .tup ds vs (by omega) fun i d v hd hv => ?_
    have : i < cs.length := by have := (List.getElem?_eq_some_iff.1 hd).1; omega
    exact h i _ d (List.getElem?_eq_getElem this) hd _ _ hr (k i _ v (List.getElem?_eq_getElem this) hv)
theorem Conv.agg {st' : St} {cs ds : List AV} (hl : cs.length = ds.length) (h : ∀ (i : Nat) c d, cs[i]? = some c → ds[i]? = some d → Conv st st' c d) : Conv st st' (.agg cs) (.agg ds) := fun w v hr h1 => by
  cases h1 with
  | agg _ vs hn k =>
    refine .agg ds vs (by omega) fun i d v hd hv => ?_
    have : i < cs.length := by have := (List.getElem?_eq_some_iff.1 hd).1; omega
    exact h i _ d (List.getElem?_eq_getElem this) hd _ _ hr (k i _ v (List.getElem?_eq_getElem this) hv)
theorem Conv.trans {st1 st2 : St} {a b c : AV} (h : Conv st st1 a b) (k : Le b c) : Conv st st1 a c := fun w v hr h1 => k _ _ _ (h w v hr h1)

/-- What a function's results are at its end. -/
inductive Outs (env : Env) (st : St) : List ResultVar → List AV → Prop
  | nil : Outs env st [] []
  | tmp {t : Nat} {x : AV} {rs : List ResultVar} {xs : List AV} (h : env.lookup t = some x) (k : Outs env st rs xs) : Outs env st (.tmp t :: rs) (x :: xs)
  | cell {t b : Nat} {T : TypeId} {cs : List AV} {rs : List ResultVar} {xs : List AV} (x : AV) (h : env.lookup t = some (.ptr b 0)) (hm : (b, Ob.cells cs) ∈ st)
      (hT : ∀ (P : Program), True) (k : Outs env st rs xs) (hx : x = .agg cs) : Outs env st (.cell t T :: rs) (x :: xs)

/-- The end of a body. -/
def Fin (P : Program) (fn : Func) (K : AV → St → Prop) : Post := fun e env st =>
  match e with
  | .normal | .ret => ∀ N a w, Good N env st a w → ∃ v y st', (results fn a.tmps).run P w = .ok v w ∧ K y st' ∧ Sub st' st ∧ R st' w y v
  | _ => False

theorem ret_tmp {fn : Func} {K : AV → St → Prop} {t : Nat} {x y : AV} (st' : St) (hr : fn.results = #[.tmp t]) (hx : env.lookup t = some x) (hs : Sub st' st) (hc : Conv st st' x y) (hk : K y st') {e : Exit} (he : e = .ret ∨ e = .normal) : Fin P fn K e env st := by
  rcases he with rfl | rfl <;>
  · intro N a w hg
    obtain ⟨v, hv, h1⟩ := hg.env t x hx
    refine ⟨v, y, st', ?_, hk, hs, hc w v hg.rel h1⟩
    rw [results_tmp hr]
    simp [hv]
theorem ret_none {fn : Func} {K : AV → St → Prop} (st' : St) (hr : fn.results = #[]) (hs : Sub st' st) (hk : K (.tup []) st') {e : Exit} (he : e = .ret ∨ e = .normal) : Fin P fn K e env st := by
  rcases he with rfl | rfl <;>
  · intro N a w hg
    refine ⟨.tuple #[], .tup [], st', results_none hr _ _ _, hk, hs, .tup [] #[] rfl fun i c v hc => by simp at hc⟩
theorem ret_tmps {fn : Func} {K : AV → St → Prop} {ts : List Nat} {xs ys : List AV} (st' : St) (hr : fn.results = (ts.map ResultVar.tmp).toArray) (hn : ts.length ≠ 1) (hx : ts.map (fun t => env.lookup t) = xs.map some) (hs : Sub st' st) (hc : Conv st st' (.tup xs) (.tup ys)) (hk : K (.tup ys) st') {e : Exit} (he : e = .ret ∨ e = .normal) : Fin P fn K e env st := by
  have hlen : ts.length = xs.length := by have := congrArg List.length hx; simpa using this
  have key : ∀ N a w, Good N env st a w → ∃ v y st', (results fn a.tmps).run P w = .ok v w ∧ K y st' ∧ Sub st' st ∧ R st' w y v := by
    intro N a w hg
    refine ⟨.tuple (ts.map fun t => a.tmps.getD t undef).toArray, .tup ys, st', ?_, hk, hs, hc w _ hg.rel (.tup xs _ (by simp [hlen]) fun i c v h1 h2 => ?_)⟩
    · have hm : ∀ (f : ResultVar → Sem Value), (∀ t, f (.tmp t) = pure (a.tmps.getD t undef)) → ∀ (l : List Nat) (w : World), (List.mapM f (l.map ResultVar.tmp)).run P w = .ok (l.map fun t => a.tmps.getD t undef) w := by
        intro f hf l
        induction l with
        | nil => intro w; simp
        | cons t l ih => intro w; simp only [List.map_cons, List.mapM_cons, hf, Sem.run_bind, Sem.run_pure, Result.andThen_ok, ih w]
      unfold results
      rw [hr]
      simp only [List.mapM_toArray, Sem.run_bind, Sem.run_map]
      rw [hm _ (fun t => rfl)]
      simp only [Result.andThen_ok, Sem.run_pure]
      rw [dif_neg (by simpa using hn)]
    · have hi : i < ts.length := by have := (List.getElem?_eq_some_iff.1 h1).1; omega
      have e1 : env.lookup ts[i] = some c := by
        have := congrArg (fun l => l[i]?) hx
        simp only [List.getElem?_map, h1, Option.map_some, List.getElem?_eq_getElem hi, Option.some.injEq] at this
        exact this
      obtain ⟨u, hu, k⟩ := hg.env _ _ e1
      simp [hi] at h2
      subst h2
      simp [hu]
      exact k
  rcases he with rfl | rfl <;> exact key
/-- The one result is a struct in memory. -/
theorem ret_cell {fn : Func} {K : AV → St → Prop} {t b : Nat} {T : TypeId} {cs : List AV} {y : AV} (n : Nat) (st' : St) (hr : fn.results = #[.cell t T]) (hx : env.lookup t = some (.ptr b 0)) (hst : st[n]? = some (b, .cells cs))
    (hT : rowT P T cs.length = true) (hs : Sub st' st) (hc : Conv st st' (.agg cs) y) (hk : K y st') {e : Exit} (he : e = .ret ∨ e = .normal) : Fin P fn K e env st := by
  have key : ∀ N a w, Good N env st a w → ∃ v y st', (results fn a.tmps).run P w = .ok v w ∧ K y st' ∧ Sub st' st ∧ R st' w y v := by
    intro N a w hg
    obtain ⟨v, hv, h1⟩ := hg.env t _ hx
    have := h1.lit_inv
    subst this
    obtain ⟨vs, T', k1, k2, k3⟩ := hg.rel.cells b cs (mem_at hst)
    obtain ⟨d, hu, hd, hi⟩ := rowT_spec hT
    refine ⟨.agg vs, y, st', ?_, hk, hs, hc w _ hg.rel (.agg cs vs k2.symm k3)⟩
    have hl : (loadVar T ⟨b, 0, none⟩).run P w = .ok (.agg vs) w := by
      have := run_loadVar_mid (P := P) w b 0 T vs.toList d (fun j u hj => by simp [World.cell?, k1]; simpa using hj) hu hd (by rw [hi]; simp [k2])
      simpa using this
    have e1 : a.tmps[t]?.getD undef = .pointer (some ⟨b, 0, none⟩) := by simp [hv]
    simp [results, hr, e1, asAddr, hl]
  rcases he with rfl | rfl <;> exact key

def envOf : Nat → List AV → Env
  | _, [] => []
  | i, x :: xs => (i, x) :: envOf (i + 1) xs
theorem envOf_lookup : ∀ (xs : List AV) (k i : Nat) (x : AV), (envOf k xs).lookup i = some x → k ≤ i ∧ xs[i - k]? = some x
  | [], k, i, x, h => by simp [envOf] at h
  | y :: ys, k, i, x, h => by
    simp only [envOf, List.lookup_cons] at h
    by_cases hik : i = k
    · subst hik
      simp only [beq_self_eq_true] at h
      cases h
      exact ⟨Nat.le_refl _, by simp⟩
    · have : (i == k) = false := by simpa using hik
      simp only [this] at h
      obtain ⟨h1, h2⟩ := envOf_lookup ys (k + 1) i x h
      refine ⟨by omega, ?_⟩
      rw [show i - k = (i - (k + 1)) + 1 by omega]
      simpa using h2

theorem ACalls_of {f : FuncId} {fn : Func} {c : Code} {args : List AV} {K : AV → St → Prop} (hf : P.funcs[f]? = some fn) (hname : (fn.name == "runtime.NumGoroutine") = false) (hb : fn.body = some c) (hN : fn.ntmps = N) (hl : Nat.ble args.length N = true)
    (h : AC P N c (Fin P fn K) (envOf 0 args) st) : ACalls P f args st K := by
  have hl := Nat.le_of_ble_eq_true hl
  refine ⟨⟨fn, c, hf, hname, hb⟩, fun w vs hrel hs hr => calls_of_wp hf hb ?_⟩
  have hg : Good N (envOf 0 args) st { tmps := vs ++ Array.replicate (fn.ntmps - vs.size) undef, defers := [] } w := by
    refine ⟨by simp; omega, rfl, fun i x hi => ?_, hrel⟩
    obtain ⟨_, h1⟩ := envOf_lookup args 0 i x hi
    simp only [Nat.sub_zero] at h1
    have hlt : i < vs.size := by have := (List.getElem?_eq_some_iff.1 h1).1; omega
    refine ⟨vs[i], by simp [Array.getElem?_append, hlt], hr i x _ h1 (by simp [hlt])⟩
  refine wp_mono (h _ w hg) ?_
  rintro e a' w' ⟨env', st', q, g, x⟩
  cases e <;> simp only [Fin] at q <;> try exact q.elim
  all_goals
    obtain ⟨v, y, st'', h1, h2, h3, h4⟩ := q _ _ _ g
    exact ⟨g.defers, v, h1, v, y, st'', rfl, h2, h4, g.rel.dropS h3, x.trans (Ext.dropS h3) hrel.nodup⟩

/-! ### Bytes -/
theorem S_bytes {src dst e : TypeId} {x : Operand} {b off len cap : Nat} {cs : List AV} {l : List UInt8} (n : Nat) (ho : o.op = .convert src dst x) (hx : AEv env x (.lit (.slice (some ⟨b, off, none⟩) len cap))) (hst : st[n]? = some (b, .cells cs))
    (hc : (cs.drop off).take len = l.map fun c => AV.int .u8 c.toNat) (hlen : l.length = len)
    (hs : P.underlying src = some (.slice e)) (he : P.underlying e = some (.int .u8)) (hd : P.underlying dst = some .string) : PStep P N o env st (.S l) :=
  .of_val fun a w hg => by
    have e1 := (hx _ _ _ _ hg).lit_inv
    obtain ⟨vs, T, k1, k2, k3⟩ := hg.rel.cells b cs (mem_at hst)
    refine ⟨.string ⟨l.toArray⟩, ?_, .lit _⟩
    have hl : (loadCells ⟨b, off, none⟩ len).run P w = .ok ((l.map fun c => (c.toNat : Int)).map (Value.int .u8)).toArray w := by
      subst hlen
      have := run_loadCells_list (P := P) w ⟨b, off, none⟩ ((l.map fun c => (c.toNat : Int)).map (Value.int .u8)) fun j v hv => by
        have hj : j < l.length := by have := (List.getElem?_eq_some_iff.1 hv).1; simpa using this
        have h1 := congrArg (fun l => l[j]?) hc
        simp only [List.getElem?_map, List.getElem?_eq_getElem hj, Option.map_some] at h1 hv
        rw [List.getElem?_take_of_lt hj, List.getElem?_drop] at h1
        cases hv
        rw [Addr.add_mid]
        have hlt : off + j < vs.size := by have := (List.getElem?_eq_some_iff.1 h1).1; omega
        have := k3 _ _ vs[off + j] h1 (by simp [hlt])
        have := this.lit_inv
        simp [World.cell?, k1, hlt, this]
      simpa using this
    have hfold : ∀ (m : List UInt8) (s : ByteArray), (m.map fun c => (c.toNat : Int)).foldl (fun r n => r.push (UInt8.ofNat n.toNat)) s = ⟨s.data ++ m.toArray⟩ := by
      intro m
      induction m with
      | nil => intro s; simp
      | cons c m ih =>
        intro s
        simp only [List.map_cons, List.foldl_cons, Int.toNat_natCast, UInt8.ofNat_toNat]
        rw [ih]
        simp [ByteArray.push]
    simp only [execOp, ho, e1, Sem.run_bind, run_convert_bytes_string w src dst e _ _ _ hs he hd, run_bytesToString w _ _ cap _ hl, Result.andThen_ok, Sem.run_pure, hfold]
    simp only [show ByteArray.empty.data = #[] from rfl, Array.empty_append]
end

end Go.AL

namespace Go.AL
open Go.RowKit

/-- The slots that an operation reads, its guard's among them. -/
def readsOf (ops : Array Oper) (o : Oper) : List Nat :=
  (match o.guard with | some (g, _) => (match (ops[g]?).bind (·.dst) with | some d => [d] | none => []) | none => []) ++ o.op.operands.toList.filterMap fun | .tmp t => some t | _ => none
def sub (ts : List Nat) (env : Env) : Env := env.filter fun p => ts.contains p.1

theorem sub_lookup {ts : List Nat} : ∀ {env : Env} {i : Nat} {x : AV}, (sub ts env).lookup i = some x → env.lookup i = some x ∧ i ∈ ts
  | [], i, x, h => by simp [sub] at h
  | (k, y) :: env, i, x, h => by
    unfold sub at h
    rw [List.filter_cons] at h
    by_cases hk : ts.contains k = true
    · simp only [hk, if_true, List.lookup_cons] at h
      by_cases hik : i = k
      · subst hik
        simp only [beq_self_eq_true] at h
        exact ⟨by simp [List.lookup_cons]; simpa using h, by simpa using hk⟩
      · have hne : (i == k) = false := by simpa using hik
        simp only [hne] at h
        obtain ⟨h1, h2⟩ := sub_lookup (env := env) h
        exact ⟨by simp only [List.lookup_cons, hne]; exact h1, h2⟩
    · simp only [hk, Bool.false_eq_true, if_false] at h
      obtain ⟨h1, h2⟩ := sub_lookup (env := env) h
      by_cases hik : i = k
      · subst hik
        exact absurd (by simpa using h2) hk
      · have hne : (i == k) = false := by simpa using hik
        exact ⟨by simp only [List.lookup_cons, hne]; exact h1, h2⟩

section
variable {P : Program} {N : Nat} {Q : Post} {env : Env} {st : St} {ops : Array Oper}

/-- An operation, wanted or not, yields V (where it isn't wanted: what V says of that). -/
def QStep (P : Program) (N : Nat) (ops : Array Oper) (o : Oper) (env : Env) (st : St) (V : AV) : Prop :=
  ∀ a w, Good N env st a w → ∀ (next : Act → World → Prop) (Q : Exit → Act → World → Prop), (∀ v w', R st w' V v → Rel st w' → Ext st w st w' → next (a.put o.dst v) w') →
    if Region.wanted o (yielded ops a.tmps) then o.wp P a w next Q else next (a.put o.dst undef) w

theorem Q_p {o : Oper} {V : AV} (hgd : o.guard = none) (hs : PStep P N o env st V) : QStep P N ops o env st V := by
  intro a w hg next Q hn
  rw [if_pos (by simp [Region.wanted, hgd])]
  refine hs a w hg _ _ fun x st' v w' hk hr hrel hx => ?_
  obtain ⟨rfl, rfl⟩ := hk
  exact hn v w' hr hrel hx
theorem Q_g {o : Oper} {V : AV} {g d : Nat} {want b : Bool} (hgd : o.guard = some (g, want)) (hj : ((ops[g]?).bind (·.dst)) = some d) (hb : AEv env (.tmp d) (.bool b)) (hs : gd b want = true → PStep P N o env st V) : QStep P N ops o env st (.cond (gd b want) V) := by
  intro a w hg next Q hn
  have hy := lookup_of hg hj hb
  by_cases hw : gd b want = true
  · have hbw : b = want := by cases want <;> simpa [gd] using hw
    rw [if_pos (by simp [Region.wanted, hgd, hy, hbw])]
    refine hs hw a w hg _ _ fun x st' v w' hk hr hrel hx => ?_
    obtain ⟨rfl, rfl⟩ := hk
    exact hn v w' (.cond _ _ _ (fun _ => hr) fun h => absurd hw (by simp [h])) hrel hx
  · have hbw : (b == want) = false := by cases want <;> cases b <;> simp_all [gd]
    rw [if_neg (by simp [Region.wanted, hgd, hy]; simpa using hbw)]
    exact hn undef w (.cond _ _ _ (fun h => absurd h hw) fun _ => rfl) hg.rel (.refl _ _)
theorem Q_gg {o : Oper} {V : AV} {g d : Nat} {want b c : Bool} (hgd : o.guard = some (g, want)) (hj : ((ops[g]?).bind (·.dst)) = some d) (hb : AEv env (.tmp d) (.cond c (.bool b))) (hs : c = true → gd b want = true → (c && gd b want) = true → PStep P N o env st V) : QStep P N ops o env st (.cond (c && gd b want) V) := by
  cases c with
  | true => simpa using Q_g hgd hj (hb.cond rfl) fun h => hs rfl h (by simp [h])
  | false =>
    intro a w hg next Q hn
    have hy : yielded ops a.tmps g = none := by
      have h1 := hb N st a w hg
      have h2 : a.tmps.getD d undef = undef := by
        cases h1 with
        | cond _ _ _ _ h' => exact h' rfl
      unfold yielded
      rw [hj]
      rw [Array.getD_eq_getD_getElem?] at h2
      cases hd : a.tmps[d]? with
      | none => simp [hd]
      | some v => rw [hd] at h2; simp only [Option.getD_some] at h2; subst h2; simp [hd, undef]
    rw [if_neg (by simp [Region.wanted, hgd, hy])]
    exact hn undef w (.cond _ _ _ (fun h => by simp at h) fun _ => rfl) hg.rel (.refl _ _)

/-- The walk in the text's order. -/
inductive AQ (P : Program) (N : Nat) (ops : Array Oper) (st : St) : List Oper → Env → List AV → Env → Prop
  | nil {env : Env} : AQ P N ops st [] env [] env
  | cons {o : Oper} {rest : List Oper} {env envF : Env} {V : AV} {Vs : List AV} (hd : dstIn N o.dst = true) (hs : QStep P N ops o (sub (readsOf ops o) env) st V) (h : AQ P N ops st rest (putE o.dst V env) Vs envF) : AQ P N ops st (o :: rest) env (V :: Vs) envF

/-! What stands before what. -/
inductive Bef (ops : Array Oper) : Nat → Nat → Prop
  | one {i j : Nat} {o : Oper} {e : Edge} (ho : ops[i]? = some o) (he : e ∈ o.after) (hb : Region.binds .any e = true) (hj : e.on = j) : Bef ops j i
  | more {i j k : Nat} {o : Oper} {e : Edge} (ho : ops[i]? = some o) (he : e ∈ o.after) (hb : Region.binds .any e = true) (hj : e.on = j) (h : Bef ops k j) : Bef ops k i

def predsStep (acc : List (List Nat)) (o : Oper) : List (List Nat) :=
  acc ++ [((o.after.toList.filter (Region.binds .any ·)).flatMap fun e => e.on :: acc.getD e.on []).eraseDups]
def preds (ops : Array Oper) : List (List Nat) := ops.toList.foldl predsStep []

theorem preds_sound (ops : Array Oper) : ∀ (i j : Nat), j ∈ (preds ops).getD i [] → Bef ops j i := by
  have key : ∀ (l : List Oper) (acc : List (List Nat)), (∀ k, l[k]? = ops[acc.length + k]?) → (∀ i j, j ∈ acc.getD i [] → Bef ops j i) → ∀ i j, j ∈ (l.foldl predsStep acc).getD i [] → Bef ops j i := by
    intro l
    induction l with
    | nil => intro acc _ h i j hj; exact h i j hj
    | cons o l ih =>
      intro acc hl h
      simp only [List.foldl_cons]
      refine ih _ (fun k => ?_) fun i j hj => ?_
      · have := hl (k + 1)
        simp only [List.getElem?_cons_succ] at this
        rw [this]
        simp [predsStep]
        congr 1
        omega
      · have ho : ops[acc.length]? = some o := by simpa using (hl 0).symm
        unfold predsStep at hj
        rcases Nat.lt_trichotomy i acc.length with hi | hi | hi
        · rw [List.getD_eq_getElem?_getD, List.getElem?_append_left hi, ← List.getD_eq_getElem?_getD] at hj
          exact h i j hj
        · subst hi
          rw [List.getD_eq_getElem?_getD, List.getElem?_append_right (Nat.le_refl _)] at hj
          simp only [Nat.sub_self, List.getElem?_cons_zero, Option.getD_some, List.mem_eraseDups, List.mem_flatMap, List.mem_filter, Array.mem_toList_iff, List.mem_cons] at hj
          obtain ⟨e, ⟨he, hb⟩, hj⟩ := hj
          rcases hj with hj | hj
          · exact .one ho he hb hj.symm
          · exact .more ho he hb rfl (h _ _ hj)
        · rw [List.getD_eq_getElem?_getD, List.getElem?_eq_none (by simp; omega)] at hj
          simp at hj
  exact key ops.toList [] (fun k => by simp) (fun i j h => by simp at h)

/-- Whatever an operation reads or writes is written by operations that come surely before it or surely behind it; edges lead back. -/
def orderOk (ops : Array Oper) : Bool :=
  let ps := preds ops
  (List.range ops.size).all fun i =>
    match ops[i]? with
    | none => true
    | some o =>
      (o.after.all fun e => !Region.binds .any e || decide (e.on < i)) &&
      (List.range ops.size).all fun j =>
        match ops[j]? with
        | none => true
        | some p => match p.dst with
          | none => true
          | some t => i == j || !((readsOf ops o ++ o.dst.toList).contains t) || (if j < i then (ps.getD i []).contains j else (ps.getD j []).contains i)

theorem orderOk_spec (h : orderOk ops = true) : (∀ (i : Nat) o, ops[i]? = some o → ∀ e ∈ o.after, Region.binds .any e = true → e.on < i) ∧
    ∀ (i j : Nat) o p t, ops[i]? = some o → ops[j]? = some p → p.dst = some t → (t ∈ readsOf ops o ∨ o.dst = some t) → (j < i → Bef ops j i) ∧ (i < j → Bef ops i j) := by
  unfold orderOk at h
  simp only [List.all_eq_true, List.mem_range] at h
  have lt : ∀ (i : Nat) o, ops[i]? = some o → i < ops.size := fun i o ho => (Array.getElem?_eq_some_iff.1 ho).1
  refine ⟨fun i o ho e he hb => ?_, fun i j o p t ho hp ht hr => ?_⟩
  · have := h i (lt i o ho)
    simp only [ho, Bool.and_eq_true, Array.all_eq_true_iff_forall_mem] at this
    have := this.1 e he
    simpa [hb] using this
  · have h1 := h i (lt i o ho)
    simp only [ho, Bool.and_eq_true, List.all_eq_true, List.mem_range] at h1
    have h2 := h1.2 j (lt j p hp)
    simp only [hp, ht, Bool.or_eq_true, beq_iff_eq] at h2
    have hc : (!((readsOf ops o ++ o.dst.toList).contains t)) = false := by
      simp only [Bool.not_eq_false', List.contains_iff_mem, List.mem_append]
      rcases hr with hr | hr
      · exact .inl hr
      · exact .inr (by simp [hr])
    refine ⟨fun hlt => ?_, fun hlt => ?_⟩
    · rcases h2 with (h2 | h2) | h2
      · omega
      · rw [hc] at h2; cases h2
      · rw [if_pos hlt] at h2
        exact preds_sound ops i j (by simpa using h2)
    · rcases h2 with (h2 | h2) | h2
      · omega
      · rw [hc] at h2; cases h2
      · rw [if_neg (by omega)] at h2
        exact preds_sound ops j i (by simpa using h2)

/-- What slot t is known as, once the operations listed among the first k are done. -/
def cur (ops : List Oper) (Vs : List AV) (listed : Nat → Bool) (env : Env) (t : Nat) : Nat → Option AV
  | 0 => env.lookup t
  | k + 1 => if listed k && ((ops[k]?).bind (·.dst)) == some t then Vs[k]? else cur ops Vs listed env t k

/-- The frame of the text's order ahead of operation k. -/
def lexEnv (ops : List Oper) (Vs : List AV) (env : Env) (k : Nat) (t : Nat) : Option AV := cur ops Vs (fun _ => true) env t k

theorem lexEnv_cons {o : Oper} {rest : List Oper} {V : AV} {Vs : List AV} {env : Env} (i t : Nat) : lexEnv rest Vs (putE o.dst V env) i t = lexEnv (o :: rest) (V :: Vs) env (i + 1) t := by
  unfold lexEnv
  induction i with
  | zero =>
    simp only [cur, Bool.true_and, List.getElem?_cons_zero, Option.bind_some]
    cases hod : o.dst with
    | none => simp [putE]
    | some d =>
      by_cases hdt : d = t
      · subst hdt; simp [putE, List.lookup_cons]
      · have : (t == d) = false := by simpa using fun h => hdt h.symm
        simp [putE, List.lookup_cons, this, hdt]
  | succ i ih2 =>
    rw [cur, cur]
    simp only [Bool.true_and, List.getElem?_cons_succ]
    rw [ih2]

theorem AQ.last : ∀ {l : List Oper} {env envF : Env} {Vs : List AV}, AQ P N ops st l env Vs envF → ∀ t, envF.lookup t = lexEnv l Vs env l.length t := by
  intro l env envF Vs h
  induction h with
  | nil => intro t; rfl
  | @cons o rest env envF V Vs hd hs h ih => intro t; rw [ih t, lexEnv_cons]; rfl

theorem AQ.spec : ∀ {l : List Oper} {env envF : Env} {Vs : List AV}, AQ P N ops st l env Vs envF → Vs.length = l.length ∧ ∀ (i : Nat) o, l[i]? = some o → ∃ V env', Vs[i]? = some V ∧ dstIn N o.dst = true ∧ QStep P N ops o (sub (readsOf ops o) env') st V ∧ ∀ t, env'.lookup t = lexEnv l Vs env i t := by
  intro l env envF Vs h
  induction h with
  | nil => exact ⟨rfl, fun i o h => by simp at h⟩
  | @cons o rest env envF V Vs hd hs h ih =>
    refine ⟨by simp [ih.1], fun i p hp => ?_⟩
    cases i with
    | zero =>
      simp at hp
      subst hp
      exact ⟨V, env, by simp, hd, hs, fun t => rfl⟩
    | succ i =>
      obtain ⟨V', env', h1, h2, h3, h4⟩ := ih.2 i p (by simpa using hp)
      refine ⟨V', env', by simpa using h1, h2, h3, fun t => ?_⟩
      rw [h4 t, lexEnv_cons]

theorem cur_congr {l : List Oper} {Vs : List AV} {f g : Nat → Bool} {t : Nat} : ∀ (k : Nat), (∀ j, j < k → ((l[j]?).bind (·.dst)) = some t → f j = g j) → cur l Vs f env t k = cur l Vs g env t k
  | 0, _ => rfl
  | k + 1, h => by
    rw [cur, cur, cur_congr k fun j hj => h j (by omega)]
    by_cases hd : ((l[k]?).bind (·.dst)) = some t
    · rw [h k (by omega) hd]
    · have : (((l[k]?).bind (·.dst)) == some t) = false := by simpa using hd
      simp [this]

/-- Behind i nothing that writes t is done: what stands at the end stands at i. -/
theorem cur_upto {l : List Oper} {Vs : List AV} {f : Nat → Bool} {t : Nat} (i : Nat) : ∀ (k : Nat), i ≤ k → (∀ j, i ≤ j → j < k → ((l[j]?).bind (·.dst)) = some t → f j = false) → cur l Vs f env t k = cur l Vs f env t i
  | 0, h, _ => by rw [Nat.le_zero.1 h]
  | k + 1, h, hf => by
    rcases Nat.lt_or_ge i (k + 1) with h' | h'
    · rw [cur]
      by_cases hd : ((l[k]?).bind (·.dst)) = some t
      · rw [hf k (by omega) (by omega) hd]
        simp only [Bool.false_and, Bool.false_eq_true, if_false]
        exact cur_upto i k (by omega) fun j h1 h2 => hf j h1 (by omega)
      · have : (((l[k]?).bind (·.dst)) == some t) = false := by simpa using hd
        simp only [this, Bool.and_false, Bool.false_eq_true, if_false]
        exact cur_upto i k (by omega) fun j h1 h2 => hf j h1 (by omega)
    · rw [show i = k + 1 by omega]

def frees (n : Nat) (listed : Array Bool) : Nat := ((List.range n).filter fun i => !listed.getD i true).length

theorem frees_zero {n : Nat} {listed : Array Bool} (h : frees n listed = 0) (i : Nat) (hi : i < n) : listed.getD i true = true := by
  have : ((List.range n).filter fun i => !listed.getD i true) = [] := List.eq_nil_of_length_eq_zero h
  rw [List.filter_eq_nil_iff] at this
  simpa using this i (List.mem_range.2 hi)

theorem frees_set {n i : Nat} {listed : Array Bool} (hi : i < n) (hl : listed.getD i true = false) : frees n (listed.setIfInBounds i true) + 1 = frees n listed := by
  unfold frees
  have hsz : i < listed.size := by
    rcases Nat.lt_or_ge i listed.size with h | h
    · exact h
    · simp [Array.getElem?_eq_none h] at hl
  induction n with
  | zero => omega
  | succ n ih =>
    rw [List.range_succ, List.filter_append, List.filter_append, List.length_append, List.length_append]
    rcases Nat.lt_or_ge i n with h | h
    · have := ih h
      have e : (listed.setIfInBounds i true).getD n true = listed.getD n true := getD_set_ne true (by omega)
      simp only [List.filter_cons, List.filter_nil, e]
      omega
    · have hin : i = n := by omega
      subst hin
      have e : (listed.setIfInBounds i true).getD i true = true := by simp [hsz]
      have e2 : ((List.range i).filter fun j => !(listed.setIfInBounds i true).getD j true) = (List.range i).filter fun j => !listed.getD j true := by
        refine List.filter_congr fun j hj => ?_
        rw [getD_set_ne true (by have := List.mem_range.1 hj; omega)]
      rw [e2]
      simp only [List.filter_cons, List.filter_nil, e, hl]
      simp

/-- 'listed' leaves out nothing that stands before what it holds. -/
def Closed (ops : Array Oper) (listed : Array Bool) : Prop := ∀ (i : Nat) o, ops[i]? = some o → listed.getD i false = true → ∀ e ∈ o.after, Region.binds .any e = true → listed.getD e.on false = true

theorem Closed.bef {listed : Array Bool} (h : Closed ops listed) {j i : Nat} (hb : Bef ops j i) (hi : (∃ o, ops[i]? = some o ∧ ∀ e ∈ o.after, Region.binds .any e = true → listed.getD e.on false = true)) : listed.getD j false = true := by
  induction hb with
  | one ho he hb hj =>
    obtain ⟨o, ho', hall⟩ := hi
    rw [ho] at ho'; cases ho'
    rw [← hj]; exact hall _ he hb
  | @more i j k o e ho he hb hj hk ih =>
    obtain ⟨o', ho', hall⟩ := hi
    rw [ho] at ho'; cases ho'
    have hlj : listed.getD j false = true := by rw [← hj]; exact hall _ he hb
    refine ih ?_
    cases hoj : ops[j]? with
    | none =>
      cases hk with
      | one h1 _ _ _ => rw [hoj] at h1; cases h1
      | more h1 _ _ _ _ => rw [hoj] at h1; cases h1
    | some oj => exact ⟨oj, rfl, h j oj hoj hlj⟩

theorem rep_false (n i : Nat) : (Array.replicate n false).getD i false = false := by
  rw [Array.getD_eq_getD_getElem?, Array.getElem?_replicate]; split <;> rfl

/-- ONE WALK FOR EVERY ORDER. -/
theorem AC_draw {id : Nat} {l : List Oper} {Vs : List AV} {envF : Env} (hm : P.follows .mixedOrders = true) (hok : orderOk l.toArray = true) (hq : AQ P N l.toArray st l env Vs envF) (h : Q .normal envF st) : AC P N (.region id l.toArray true) Q env st := by
  have hF := hq.last
  obtain ⟨hback, hwr⟩ := orderOk_spec hok
  obtain ⟨hlen, hsp⟩ := hq.spec
  intro a w hg
  have hn := hg.rel.nodup
  have hdrew : Ext st w st { w with drawn := w.drawn + 1 } := ⟨rfl, rfl, rfl, fun _ _ => rfl, Nat.le_refl _, fun _ _ _ => rfl, fun _ _ _ _ _ _ _ _ _ => rfl, fun _ _ _ h => h, fun _ _ _ _ => rfl⟩
  refine wp_region_any hm ?_
  have main : ∀ (fuel : Nat) (listed : Array Bool) (a : Act) (w1 : World), frees l.length listed = fuel → listed.size = l.length → Closed l.toArray listed → a.tmps.size = N → a.defers = [] → Rel st w1 → Ext st w st w1 →
      (∀ t x, cur l Vs (fun i => listed.getD i false) env t l.length = some x → ∃ v, a.tmps[t]? = some v ∧ R st w1 x v) → wpAny P .any l.toArray (Sat N Q st w) fuel listed a w1 := by
    intro fuel
    have fin : ∀ (listed : Array Bool) (a : Act) (w1 : World), (∀ i, i < l.length → listed.getD i true = true) → listed.size = l.length → a.tmps.size = N → a.defers = [] → Rel st w1 → Ext st w st w1 →
        (∀ t x, cur l Vs (fun i => listed.getD i false) env t l.length = some x → ∃ v, a.tmps[t]? = some v ∧ R st w1 x v) → Sat N Q st w .normal a w1 := by
      intro listed a w1 hall hsz h1 h2 h3 h4 h5
      have e : ∀ t, cur l Vs (fun i => listed.getD i false) env t l.length = lexEnv l Vs env l.length t := fun t => cur_congr _ fun j hj _ => by
        have := hall j hj
        have hj' : j < listed.size := by omega
        simp [hj'] at this ⊢
        exact this
      refine ⟨envF, st, h, ⟨h1, h2, fun t x hx => ?_, h3⟩, h4⟩
      rw [hF, ← e] at hx
      exact h5 t x hx
    induction fuel with
    | zero =>
      intro listed a w1 hf hsz hcl h1 h2 h3 h4 h5
      have hall := fun i hi => frees_zero hf i hi
      refine ⟨?_, fin listed a w1 hall hsz h1 h2 h3 h4 h5⟩
      rw [List.eq_nil_iff_forall_not_mem]
      intro j hj
      obtain ⟨hj1, o, ho, _⟩ := mem_ready.1 hj
      have : j < l.length := by have := (Array.getElem?_eq_some_iff.1 ho).1; simpa using this
      rw [hall j this] at hj1
      cases hj1
    | succ fuel ih =>
      intro listed a w1 hf hsz hcl h1 h2 h3 h4 h5
      refine ⟨fun hr => ?_, fun i hi => ?_⟩
      · refine fin listed a w1 (fun i hi => ?_) hsz h1 h2 h3 h4 h5
        induction i using Nat.strongRecOn with
        | _ i ihi =>
          cases hli : listed.getD i true with
          | true => rfl
          | false =>
            exfalso
            have hio : l.toArray[i]? = some l[i] := by simp [hi]
            have : i ∈ Region.ready .any l.toArray listed := mem_ready.2 ⟨hli, l[i], hio, fun e he hb => by
              have hlt := hback i _ hio e he hb
              have := ihi e.on hlt (by omega)
              have hj' : e.on < listed.size := by omega
              simp [hj'] at this ⊢
              exact this⟩
            rw [hr] at this
            cases this
      · obtain ⟨hi1, o, ho, hall⟩ := mem_ready.1 hi
        have hil : i < l.length := by have := (Array.getElem?_eq_some_iff.1 ho).1; simpa using this
        have hisz : i < listed.size := by omega
        have hol : l[i]? = some o := by simpa using ho
        have hif : listed.getD i false = false := by simp [hisz] at hi1 ⊢; exact hi1
        obtain ⟨V, env', hV, hd, hs, henv⟩ := hsp i o hol
        -- writers of t ahead of i are done, writers behind i are not
        have ahead : ∀ t, (t ∈ readsOf l.toArray o ∨ o.dst = some t) → ∀ j, j < l.length → ((l[j]?).bind (·.dst)) = some t → (j < i → listed.getD j false = true) ∧ (i < j → listed.getD j false = false) := by
          intro t ht j hj hjd
          cases hpj : l[j]? with
          | none => simp [hpj] at hjd
          | some p =>
            have hp' : l.toArray[j]? = some p := by simpa using hpj
            simp only [hpj, Option.bind_some] at hjd
            obtain ⟨k1, k2⟩ := hwr i j o p t ho hp' hjd ht
            refine ⟨fun hlt => hcl.bef (k1 hlt) ⟨o, ho, hall⟩, fun hlt => ?_⟩
            cases hlj : listed.getD j false with
            | false => rfl
            | true =>
              have := hcl.bef (k2 hlt) ⟨p, hp', hcl j p hp' hlj⟩
              rw [hif] at this
              cases this
        have hgood : Good N (sub (readsOf l.toArray o) env') st a w1 := by
          refine ⟨h1, h2, fun t x hx => ?_, h3⟩
          obtain ⟨hx1, hx2⟩ := sub_lookup hx
          rw [henv t] at hx1
          refine h5 t x ?_
          rw [cur_upto i l.length (by omega) fun j hij hj hjd => by
            rcases Nat.lt_or_ge i j with h' | h'
            · exact (ahead t (.inl hx2) j hj hjd).2 h'
            · have : j = i := by omega
              subst this; exact hif]
          rw [← hx1]
          exact cur_congr _ fun j hj hjd => (ahead t (.inl hx2) j (by omega) hjd).1 hj
        unfold wpOp
        rw [ho]
        dsimp only
        have hcl' : Closed l.toArray (listed.setIfInBounds i true) := by
          intro k p hp hk e he hb
          by_cases hki : k = i
          · subst hki
            rw [ho] at hp; cases hp
            exact getD_set_true (hall e he hb)
          · rw [getD_set_ne false (Ne.symm hki)] at hk
            exact getD_set_true (hcl k p hp hk e he hb)
        have next : ∀ v w', R st w' V v → Rel st w' → Ext st w1 st w' → wpAny P .any l.toArray (Sat N Q st w) fuel (listed.setIfInBounds i true) (a.put o.dst v) w' := by
          intro v w' hr hrel hx
          have hn1 := h3.nodup
          refine ih _ _ _ (by have := frees_set hil hi1; omega) (by simpa using hsz) hcl' (by cases o.dst <;> simp [Act.put, h1]) (by cases o.dst <;> simp [Act.put, h2]) hrel (h4.trans hx hn) fun t x hx' => ?_
          by_cases hdt : o.dst = some t
          · -- this slot
            have e1 : cur l Vs (fun k => (listed.setIfInBounds i true).getD k false) env t l.length = some V := by
              rw [cur_upto (i + 1) l.length (by omega) fun j hij hj hjd => by
                rw [getD_set_ne false (by omega)]
                exact (ahead t (.inr hdt) j hj hjd).2 (by omega)]
              rw [cur]
              have : (listed.setIfInBounds i true).getD i false = true := by simp [hisz]
              simp [hol, hdt, hisz, hV]
            rw [e1] at hx'
            cases hx'
            have ht : t < N := dstIn_spec hd t hdt
            exact ⟨v, by simp [Act.put, hdt, h1, ht], hr⟩
          · have e1 : cur l Vs (fun k => (listed.setIfInBounds i true).getD k false) env t l.length = cur l Vs (fun k => listed.getD k false) env t l.length := cur_congr _ fun j hj hjd => by
              by_cases hji : j = i
              · subst hji; simp [hol, hdt] at hjd
              · exact getD_set_ne false (Ne.symm hji)
            rw [e1] at hx'
            obtain ⟨u, hu, hru⟩ := h5 t x hx'
            refine ⟨u, ?_, hru.mono hx hn1⟩
            cases hod : o.dst with
            | none => simpa [Act.put] using hu
            | some d =>
              have : d ≠ t := fun e => hdt (by rw [hod, e])
              simp only [Act.put]
              rw [Array.getElem?_setIfInBounds_ne this]
              exact hu
        have hstep := hs a w1 hgood _ (Sat N Q st w) next
        split
        · rename_i hw
          rw [if_pos hw] at hstep
          exact .inl hstep
        · rename_i hw
          rw [if_neg hw] at hstep
          exact hstep
  refine main l.toArray.size _ a _ ?_ (by simp) ?_ hg.size hg.defers ⟨hn, fun b cs hb => let ⟨vs, T, k1, k2, k3⟩ := hg.rel.cells b cs hb; ⟨vs, T, k1, k2, fun i c v hc hv => (k3 i c v hc hv).mono hdrew hn⟩, hg.rel.grow, hg.rel.konst⟩ hdrew fun t x hx => ?_
  · unfold frees
    rw [List.filter_eq_self.2 fun i hi => by have := List.mem_range.1 hi; simp [this]]
    simp
  · intro i o ho hi
    rw [rep_false] at hi
    cases hi
  · have e : cur l Vs (fun i => (Array.replicate l.toArray.size false).getD i false) env t l.length = env.lookup t := by
      rw [cur_upto 0 l.length (by omega) fun j _ hj _ => rep_false _ _]
      rfl
    rw [e] at hx
    obtain ⟨v, hv, hr⟩ := hg.env t x hx
    exact ⟨v, hv, hr.mono hdrew hn⟩
end

end Go.AL

namespace Go.AL
open Go.RowKit

section
variable {P : Program} {N : Nat} {env : Env} {st : St} {o : Oper}

/-- A function that answers V, in whatever state, and leaves the state. -/
def PCalls (P : Program) (f : FuncId) (args : List AV) (V : AV) : Prop := ∀ st, ACalls P f args st fun x st' => x = V ∧ st' = st

theorem S_pcall {f : FuncId} {xs : List Operand} {ts : Array TypeId} {args : List AV} {V : AV} (ho : o.op = .call { callee := .value (.func f), args := xs.toArray, argTypes := ts }) (hargs : AEvs env xs args) (hc : PCalls P f args V) : PStep P N o env st V :=
  S_call ho hargs (hc st)

theorem PCalls.of_eq {f : FuncId} {args : List AV} {V V' : AV} (h : PCalls P f args V) (e : V = V') : PCalls P f args V' := e ▸ h

theorem S_extract {x : Operand} {xs : List AV} {y : AV} (i : Nat) (ho : o.op = .extract x i) (hx : AEv env x (.tup xs)) (hy : xs[i]? = some y) : PStep P N o env st y :=
  .of_val fun a w hg => by
    have h := hx _ _ _ _ hg
    obtain ⟨vs, e, hl, hr⟩ : ∃ vs, a.eval x = .tuple vs ∧ xs.length = vs.size ∧ ∀ (i : Nat) c v, xs[i]? = some c → vs[i]? = some v → R st w c v := by
      generalize a.eval x = u at h
      cases h with
      | tup _ vs hn h => exact ⟨vs, rfl, hn, h⟩
    have hi : i < vs.size := by have := (List.getElem?_eq_some_iff.1 hy).1; omega
    exact ⟨vs[i], by simp [execOp, ho, e, Instr.extract, hi], hr i y _ hy (by simp [hi])⟩

/-- The frame may be any that is not known more of. -/
theorem PStep.weak {env' : Env} {V : AV} (h : PStep P N o env' st V) (hl : EnvLe env env') : PStep P N o env st V := fun a w hg next Q hn => h a w (hg.weak hl) next Q hn

theorem S_max {x y : Operand} {ts : Array TypeId} {k : IntKind} {a b : Int} (ho : o.op = .call { callee := .builtin .max, args := #[x, y], argTypes := ts }) (hx : AEv env x (.int k a)) (hy : AEv env y (.int k b)) : PStep P N o env st (.int k (max a b)) :=
  .of_val fun c w hg => by
    have e1 := (hx _ _ _ _ hg).lit_inv
    have e2 := (hy _ _ _ _ hg).lit_inv
    refine ⟨.int k (max a b), ?_, .lit _⟩
    simp only [execOp, ho, resolve, invoke, builtin, Sem.run_bind, Sem.run_pure, Result.andThen_ok]
    have h3 : (if b > a then b else a) = max a b := by split <;> omega
    simp [e1, e2, Builtin.max_, Builtin.max2, h3]
theorem S_min {x y : Operand} {ts : Array TypeId} {k : IntKind} {a b : Int} (ho : o.op = .call { callee := .builtin .min, args := #[x, y], argTypes := ts }) (hx : AEv env x (.int k a)) (hy : AEv env y (.int k b)) : PStep P N o env st (.int k (min a b)) :=
  .of_val fun c w hg => by
    have e1 := (hx _ _ _ _ hg).lit_inv
    have e2 := (hy _ _ _ _ hg).lit_inv
    refine ⟨.int k (min a b), ?_, .lit _⟩
    simp only [execOp, ho, resolve, invoke, builtin, Sem.run_bind, Sem.run_pure, Result.andThen_ok]
    have h3 : (if b < a then b else a) = min a b := by split <;> omega
    simp [e1, e2, Builtin.min_, Builtin.min2, h3]

/-! ### Slices that are written out -/
/-- A value whose cells are told. -/
def AV.flat : AV → Bool
  | .agg _ => true
  | a => a.one
theorem R.cells {w : World} {y : AV} {v : Value} (h : R st w y v) (hf : y.flat = true) : v.cells.size = y.cells.length ∧ ∀ (j : Nat) c u, y.cells[j]? = some c → v.cells[j]? = some u → R st w c u := by
  have one : y.one = true → y.cells = [y] → v.cells.size = y.cells.length ∧ ∀ (j : Nat) c u, y.cells[j]? = some c → v.cells[j]? = some u → R st w c u := by
    intro h1 h2
    have h3 := h.one h1
    have h4 : v.cells = #[v] := by
      cases v <;> first | rfl | simp [Value.oneCell'] at h3
    rw [h2, h4]
    refine ⟨rfl, fun j c u hc hu => ?_⟩
    cases j with
    | zero => simp at hc hu; subst hc; subst hu; exact h
    | succ j => simp at hc
  cases y with
  | agg cs =>
    cases h with
    | agg _ vs hn k => exact ⟨hn.symm, k⟩
  | lit v => exact one hf rfl
  | sl xs => exact one hf rfl
  | row b off cap xs => exact one hf rfl
  | ip cs => exact one hf rfl
  | ifc T x => exact one hf rfl
  | nilB b T n => exact one hf rfl
  | any => simp [AV.flat, AV.one] at hf
  | tup xs => simp [AV.flat, AV.one] at hf
  | cond c a => simp [AV.flat, AV.one] at hf

/-- A block of the call's own that nobody writes. -/
theorem fresh_sl {w : World} (hrel : Rel st w) {vs : List Value} {ys : List AV} {T : TypeId} {m : Nat} (hl : vs.length = ys.length) (hm : ∀ y ∈ ys, y.flat = true ∧ y.cells.length = m) (hp : 0 < m) (hr : ∀ (i : Nat) y v, ys[i]? = some y → vs[i]? = some v → R st w y v) (cap : Nat) (hcap : ys.length ≤ cap) (more : Array Value) :
    Rel st (w.alloc (.cells ((vs.flatMap fun v => v.cells.toList).toArray ++ more) T)) ∧ Ext st w st (w.alloc (.cells ((vs.flatMap fun v => v.cells.toList).toArray ++ more) T)) ∧
      R st (w.alloc (.cells ((vs.flatMap fun v => v.cells.toList).toArray ++ more) T)) (.sl ys) (.slice (some ⟨w.heap.size, 0, none⟩) ys.length cap) := by
  have hn := hrel.nodup
  obtain ⟨h1, h2⟩ := alloc_rel hrel (ob := .cells (List.replicate ((vs.flatMap fun v => v.cells.toList).toArray ++ more).size AV.any)) (vs := (vs.flatMap fun v => v.cells.toList).toArray ++ more) (T := T) ⟨by simp, fun i c v hc hv => by
    rw [List.getElem?_replicate] at hc
    split at hc
    · cases hc; exact .any v
    · cases hc⟩
  have hd : List.Sublist st ((w.heap.size, Ob.cells (List.replicate ((vs.flatMap fun v => v.cells.toList).toArray ++ more).size AV.any)) :: st) := List.Sublist.cons _ (List.Sublist.refl _)
  have hxx := h2.trans (Ext.drop hd) hn
  refine ⟨h1.drop hd, hxx, ?_⟩
  have hvm : ∀ v ∈ vs, v.cells.size = m := fun v hv => by
    obtain ⟨i, hi⟩ := List.mem_iff_getElem?.1 hv
    have hlt : i < ys.length := by have := (List.getElem?_eq_some_iff.1 hi).1; omega
    have hy := hm ys[i] (List.getElem_mem hlt)
    have := (hr i ys[i] v (List.getElem?_eq_getElem hlt) hi).cells hy.1
    rw [this.1, hy.2]
  have hnew : ∀ (j : Nat), (w.alloc (.cells ((vs.flatMap fun v => v.cells.toList).toArray ++ more) T)).cell? ⟨w.heap.size, j, none⟩ = ((vs.flatMap fun v => v.cells.toList).toArray ++ more)[j]? := fun j => World.cell?_alloc_new _ _ _ _
  have key : ∀ (i : Nat) (x : AV) (j : Nat) (c : AV), ys[i]? = some x → x.cells[j]? = some c → ∃ u, ((vs.flatMap fun v => v.cells.toList).toArray ++ more)[i * m + j]? = some u ∧ R st w c u := by
    intro i x j c hx hc
    have hlt : i < vs.length := by have := (List.getElem?_eq_some_iff.1 hx).1; omega
    have hy := hm x (List.mem_iff_getElem?.2 ⟨i, hx⟩)
    have hj : j < m := by have := (List.getElem?_eq_some_iff.1 hc).1; omega
    have hvi := hvm vs[i] (List.getElem_mem hlt)
    have hju : j < vs[i].cells.size := by omega
    refine ⟨vs[i].cells[j], ?_, ((hr i x vs[i] hx (List.getElem?_eq_getElem hlt)).cells hy.1).2 j c _ hc (by simp [hju])⟩
    have e := Go.Great.flat_get hp vs hvm (i * m + j)
    have e1 : (i * m + j) / m = i := by rw [Nat.mul_comm, Nat.mul_add_div hp, Nat.div_eq_of_lt hj]; omega
    have e2 : (i * m + j) % m = j := by rw [Nat.mul_comm, Nat.mul_add_mod, Nat.mod_eq_of_lt hj]
    rw [e1, e2, List.getElem?_eq_getElem hlt] at e
    simp only [Option.bind_some] at e
    have hsz : i * m + j < (vs.flatMap fun v => v.cells.toList).length := by
      rcases Nat.lt_or_ge (i * m + j) (vs.flatMap fun v => v.cells.toList).length with h | h
      · exact h
      · rw [List.getElem?_eq_none h] at e; simp [hju] at e
    rw [Array.getElem?_append_left (by simpa using hsz)]
    rw [List.getElem?_toArray, e]
    simp [hju]
  refine .sl ys w.heap.size 0 cap m (fun k => ((vs.flatMap fun v => v.cells.toList).toArray ++ more)[k]?.getD undef) hcap (fun i x hx => (hm x (List.mem_iff_getElem?.2 ⟨i, hx⟩)).2) (fun i x j c hx hc => ?_) fun i x j c hx hc => ?_
  · obtain ⟨u, hu, _⟩ := key i x j c hx hc
    refine ⟨by rw [Nat.zero_add, hnew, hu]; simp [hu], fun ⟨o, ho, _⟩ => ?_⟩
    have := key_lt hrel ho
    omega
  · obtain ⟨u, hu, hru⟩ := key i x j c hx hc
    simp only [hu, Option.getD_some]
    exact hru.mono hxx hn

theorem S_buildSlice {t e : TypeId} {n : Nat} {parts : List (Nat × Operand)} {ys : List AV} (m : Nat) (ho : o.op = .buildSlice t n parts.toArray) (hxs : AEvs env (parts.map (·.2)) ys) (hp : parts.map (·.1) = List.range n) (hu : P.underlying t = some (.slice e))
    (hz : (P.info? e).map (fun i => (i.size, i.zero.map (·.cells.size))) = some (m, some m)) (hm : ∀ y ∈ ys, y.flat = true ∧ y.cells.length = m) (hpos : 0 < m) (hn : 0 < n) (hsm : n * m ≤ 2 ^ 24) : PStep P N o env st (.sl ys) := by
  intro a w hg next Q hnx
  obtain ⟨hl, hr⟩ := hxs.at_ hg
  have hpl : parts.length = n := by have := congrArg List.length hp; simpa using this
  have hyl : ys.length = n := by have := hl; simp at this; omega
  obtain ⟨i, hi⟩ : ∃ i, P.info? e = some i := by cases h : P.info? e with | none => simp [h] at hz | some i => exact ⟨i, rfl⟩
  have hz1 : i.size = m := by simp [hi] at hz; exact hz.1
  obtain ⟨z, hzz⟩ : ∃ z, i.zero = some z := by cases h : i.zero with | none => simp [hi, h] at hz | some z => exact ⟨z, rfl⟩
  let vs := parts.map fun p => a.eval p.2
  have hvs : vs.length = n := by simp [vs, hpl]
  have hpe : (parts.map fun p => (p.1, a.eval p.2)) = (vs.zipIdx 0).map fun x => (x.2, x.1) := by
    refine List.ext_getElem? fun k => ?_
    simp only [List.getElem?_map, List.getElem?_zipIdx, vs]
    cases hk : parts[k]? with
    | none => simp
    | some p =>
      have h1 := congrArg (fun l => l[k]?) hp
      have hkn : k < n := by have := (List.getElem?_eq_some_iff.1 hk).1; omega
      simp [hk, hkn] at h1
      simp [h1]
  have hr' : ∀ (k : Nat) y v, ys[k]? = some y → vs[k]? = some v → R st w y v := fun k y v hy hv => by
    simp only [vs, List.getElem?_map] at hv
    cases hk : parts[k]? with
    | none => simp [hk] at hv
    | some p =>
      simp [hk] at hv
      subst hv
      exact hr k y p.2 hy (by simp [hk])
  have hvm : ∀ v ∈ vs, v.cells.size = m := fun v hv => by
    obtain ⟨k, hk⟩ := List.mem_iff_getElem?.1 hv
    have hlt : k < ys.length := by have := (List.getElem?_eq_some_iff.1 hk).1; omega
    have hy := hm ys[k] (List.getElem_mem hlt)
    rw [((hr' k ys[k] v (List.getElem?_eq_getElem hlt) hk).cells hy.1).1, hy.2]
  have hnm : n * m ≠ 0 := Nat.mul_ne_zero (by omega) (by omega)
  have hfill := Go.Great.fill_whole hpos vs ((Array.range (n * i.size)).map (z.cells[· % z.cells.size]!)) hvm (by simp [hvs, hz1])
  have hrun : (execOp a.eval o).run P w = .ok (.value (.slice (some ⟨w.heap.size, 0, none⟩) n n)) (w.alloc (.cells ((vs.flatMap fun v => v.cells.toList).toArray ++ #[]) e)) := by
    have := run_buildSlice (P := P) w t e n ((parts.map fun p => (p.1, a.eval p.2)).toArray) _ i z hu hi hzz (by rw [hz1]; omega) (by rw [hz1]; exact hnm) (by rw [List.toList_toArray, hpe, hz1]; rw [hz1] at hfill; exact hfill)
    simp only [execOp, ho, Sem.run_bind, List.map_toArray]
    rw [this]
    simp
  unfold Oper.wp
  rw [hrun]
  obtain ⟨k1, k2, k3⟩ := fresh_sl hg.rel (T := e) (by rw [hvs, hyl]) hm hpos hr' n (by omega) #[]
  refine hnx _ _ _ _ ⟨rfl, rfl⟩ ?_ k1 k2
  rw [hyl] at k3
  exact k3

/-- The text of bytes. -/
def bytesAV (l : List UInt8) : List AV := l.map fun c => AV.int .u8 c.toNat
theorem S_bytesSl {src dst e : TypeId} {x : Operand} {ys : List AV} (l : List UInt8) (ho : o.op = .convert src dst x) (hx : AEv env x (.sl ys)) (hy : ys = bytesAV l)
    (hs : P.underlying src = some (.slice e)) (he : P.underlying e = some (.int .u8)) (hd : P.underlying dst = some .string) : PStep P N o env st (.S l) :=
  .of_val fun a w hg => by
    subst hy
    obtain ⟨A, cap, e1, h⟩ := sl_inv (hx _ _ _ _ hg)
    refine ⟨.string ⟨l.toArray⟩, ?_, .lit _⟩
    have hlen : (bytesAV l).length = l.length := by simp [bytesAV]
    rw [hlen] at e1
    cases l with
    | nil =>
      have hb : (Conv.bytesToString (.slice A ([] : List UInt8).length cap)).run P w = .ok (.string ⟨#[]⟩) w := by
        cases A with
        | none => rfl
        | some b => exact run_bytesToString (P := P) w b 0 cap [] (by rfl)
      simp only [execOp, ho, e1, Sem.run_bind, run_convert_bytes_string w src dst e _ _ _ hs he hd, hb, Result.andThen_ok, Sem.run_pure]
    | cons c0 l0 =>
      obtain ⟨b, off, size, f, rfl, k1, k2, k3, k4⟩ := h (by simp [bytesAV])
      generalize hl : c0 :: l0 = l at *
      have hsz : size = 1 := by rw [← k2 0 (AV.int .u8 c0.toNat) (by rw [← hl]; simp [bytesAV])]; rfl
      subst hsz
      have hload : (loadCells ⟨b, off, none⟩ l.length).run P w = .ok ((l.map fun c => (c.toNat : Int)).map (Value.int .u8)).toArray w := by
        have := run_loadCells_list (P := P) w ⟨b, off, none⟩ ((l.map fun c => (c.toNat : Int)).map (Value.int .u8)) fun j v hv => by
          have hj : j < l.length := by have := (List.getElem?_eq_some_iff.1 hv).1; simpa using this
          have hy : (bytesAV l)[j]? = some (AV.int .u8 l[j].toNat) := by simp [bytesAV, hj]
          have h1 := (k3 j _ 0 _ hy rfl).1
          have h2 := (k4 j _ 0 _ hy rfl).lit_inv
          rw [h2] at h1
          simp [hj] at hv
          subst hv
          rw [Addr.add_mid]
          simpa using h1
        simpa using this
      have hfold : ∀ (m : List UInt8) (s : ByteArray), (m.map fun c => (c.toNat : Int)).foldl (fun r n => r.push (UInt8.ofNat n.toNat)) s = ⟨s.data ++ m.toArray⟩ := by
        intro m
        induction m with
        | nil => intro s; simp
        | cons c m ih =>
          intro s
          simp only [List.map_cons, List.foldl_cons, Int.toNat_natCast, UInt8.ofNat_toNat]
          rw [ih]
          simp [ByteArray.push]
      simp only [execOp, ho, e1, Sem.run_bind, run_convert_bytes_string w src dst e _ _ _ hs he hd, run_bytesToString w _ _ cap _ hload, Result.andThen_ok, Sem.run_pure, hfold]
      simp only [show ByteArray.empty.data = #[] from rfl, Array.empty_append]
end


end Go.AL

namespace Go.AL
open Go.RowKit

theorem Ext.sub {w : World} {st st' : St} (h : ∀ p, p ∈ st' → p ∈ st) : Ext st w st' w :=
  ⟨rfl, rfl, rfl, fun _ _ => rfl, Nat.le_refl _, fun _ _ _ => rfl, fun _ _ _ _ _ _ _ _ _ => rfl, fun b off _ ⟨o, ho, hp⟩ => ⟨o, h _ ho, hp⟩, fun _ _ _ _ => rfl⟩
theorem Rel.sub {w : World} {st st' : St} (hr : Rel st w) (h : ∀ p, p ∈ st' → p ∈ st) (hn : (st'.map (·.1)).Nodup) : Rel st' w := by
  refine ⟨hn, fun b cs hb => ?_, fun b e size n cap hb => hr.grow b e size n cap (h _ hb), fun b vs hb => hr.konst b vs (h _ hb)⟩
  obtain ⟨vs, T, h1, h2, h3⟩ := hr.cells b cs (h _ hb)
  exact ⟨vs, T, h1, h2, fun i c v hc hv => (h3 i c v hc hv).mono (Ext.sub h) hr.nodup⟩

/-- Two operations that meet in a slot. -/
def confl (ops : Array Oper) (o o' : Oper) : Bool :=
  (o.dst.toList.any fun t => (readsOf ops o' ++ o'.dst.toList).contains t) || (readsOf ops o).any fun t => o'.dst.toList.contains t
theorem confl_w {ops : Array Oper} {o o' : Oper} {t : Nat} (h1 : o.dst = some t) (h2 : t ∈ readsOf ops o' ∨ o'.dst = some t) : confl ops o o' = true := by
  unfold confl
  rw [h1]
  simp only [Option.toList_some, List.any_cons, List.any_nil, Bool.or_false, Bool.or_eq_true]
  left
  rcases h2 with h | h
  · simp [h]
  · simp [h]
theorem confl_r {ops : Array Oper} {o o' : Oper} {t : Nat} (h1 : t ∈ readsOf ops o ∨ o.dst = some t) (h2 : o'.dst = some t) : confl ops o o' = true := by
  unfold confl
  rcases h1 with h | h
  · simp only [Bool.or_eq_true]
    right
    exact List.any_eq_true.2 ⟨t, h, by simp [h2]⟩
  · simp only [Bool.or_eq_true]
    left
    simp [h, h2]

/-! The plan. Kinds: 0: leaves the state, whenever it runs; 1: an effect; 2: an effect behind all ahead of it; 3: one of a row of new blocks, in any order. -/
def pairOk (ops : Array Oper) (ps : List (List Nat)) (σ : List (Nat × Nat)) (p q : Nat) (i k j k' : Nat) (oi oj : Oper) : Bool :=
  i != j && (!(confl ops oi oj) || (ps.getD j []).contains i) && (!(k == 1 || k == 2) || (ps.getD j []).contains i) && (!(k' == 2) || (ps.getD j []).contains i) &&
    (!(k == 3) || (ps.getD j []).contains i || (List.range (q + 1)).all fun r => decide (r ≤ p) || (σ[r]?).map (·.2) == some 3)
def planOk (ops : Array Oper) (σ : List (Nat × Nat)) : Bool :=
  let ps := preds ops
  (List.range ops.size).all (fun i => (σ.map (·.1)).contains i && match ops[i]? with | none => true | some o => o.after.all fun e => !Region.binds .any e || decide (e.on < i)) &&
  (List.range σ.length).all fun q => match σ[q]? with
    | none => true
    | some (j, k') => match ops[j]? with
      | none => false
      | some oj => (List.range q).all fun p => match σ[p]? with
        | none => true
        | some (i, k) => match ops[i]? with
          | none => false
          | some oi => pairOk ops ps σ p q i k j k' oi oj

structure PlanOk (ops : Array Oper) (σ : List (Nat × Nat)) : Prop where
  back : ∀ (i : Nat) o, ops[i]? = some o → ∀ e ∈ o.after, Region.binds .any e = true → e.on < i
  has : ∀ i, i < ops.size → ∃ (p k : Nat), σ[p]? = some (i, k)
  at_ : ∀ (p i k : Nat), σ[p]? = some (i, k) → ∃ o, ops[i]? = some o
  pair : ∀ (p q i k j k' : Nat) oi oj, p < q → σ[p]? = some (i, k) → σ[q]? = some (j, k') → ops[i]? = some oi → ops[j]? = some oj →
    i ≠ j ∧ (confl ops oi oj = true → Bef ops i j) ∧ (k = 1 ∨ k = 2 → Bef ops i j) ∧ (k' = 2 → Bef ops i j) ∧ (k = 3 → Bef ops i j ∨ ∀ (r : Nat), p < r → r ≤ q → (σ[r]?).map (·.2) = some 3)

theorem planOk_spec {ops : Array Oper} {σ : List (Nat × Nat)} (h : planOk ops σ = true) : PlanOk ops σ := by
  unfold planOk at h
  simp only [Bool.and_eq_true, List.all_eq_true, List.mem_range] at h
  obtain ⟨h1, h2⟩ := h
  have lt : ∀ (i : Nat) o, ops[i]? = some o → i < ops.size := fun i o ho => (Array.getElem?_eq_some_iff.1 ho).1
  have ltσ : ∀ (p : Nat) x, σ[p]? = some x → p < σ.length := fun p x hx => (List.getElem?_eq_some_iff.1 hx).1
  refine ⟨fun i o ho e he hb => ?_, fun i hi => ?_, fun p i k hp => ?_, fun p q i k j k' oi oj hpq hp hq hoi hoj => ?_⟩
  · have := (h1 i (lt i o ho)).2
    rw [ho] at this
    simp only [Array.all_eq_true_iff_forall_mem] at this
    have := this e he
    simpa [hb] using this
  · have := (h1 i hi).1
    simp only [List.contains_iff_mem, List.mem_map] at this
    obtain ⟨⟨i', k⟩, hm, rfl⟩ := this
    obtain ⟨p, hp⟩ := List.mem_iff_getElem?.1 hm
    exact ⟨p, k, hp⟩
  · have := h2 p (ltσ p _ hp)
    rw [hp] at this
    simp only at this
    cases ho : ops[i]? with
    | none => rw [ho] at this; cases this
    | some o => exact ⟨o, rfl⟩
  · have := h2 q (ltσ q _ hq)
    rw [hq] at this
    simp only [hoj, List.all_eq_true, List.mem_range] at this
    have := this p hpq
    rw [hp] at this
    simp only [hoi] at this
    unfold pairOk at this
    simp only [Bool.and_eq_true, Bool.or_eq_true, Bool.not_eq_true', bne_iff_ne, ne_eq, beq_iff_eq, List.all_eq_true, List.mem_range, decide_eq_true_eq, Bool.or_eq_false_iff, beq_eq_false_iff_ne] at this
    obtain ⟨⟨⟨⟨a1, a2⟩, a3⟩, a4⟩, a5⟩ := this
    have bef : (((preds ops).getD j []).contains i = true) → Bef ops i j := fun h => preds_sound ops j i (by simpa using h)
    refine ⟨a1, fun hc => ?_, fun hk => ?_, fun hk => ?_, fun hk => ?_⟩
    · rcases a2 with a2 | a2
      · rw [hc] at a2; cases a2
      · exact bef a2
    · rcases a3 with a3 | a3
      · omega
      · exact bef a3
    · rcases a4 with a4 | a4
      · exact absurd hk a4
      · exact bef a4
    · rcases a5 with (a5 | a5) | a5
      · exact absurd hk a5
      · exact .inl (bef a5)
      · refine .inr fun r hr1 hr2 => ?_
        rcases a5 r (by omega) with h | h
        · omega
        · exact h

def allocEnv (js : List (Nat × Nat × List Value)) (β : Nat → Nat) (env : Env) : Env := js.foldl (fun e j => (j.2.1, .ptr (β j.2.1) 0) :: e) env
def allocSt (js : List (Nat × Nat × List Value)) (β : Nat → Nat) (st : St) : St := (js.map fun j => (β j.2.1, Ob.cells (j.2.2.map .lit))) ++ st

variable {P : Program} {N : Nat} {ops : Array Oper}

structure AllocAt (P : Program) (N : Nat) (ops : Array Oper) (j : Nat × Nat × List Value) : Prop where
  at_ : ∃ o, ops[j.1]? = some o ∧ o.guard = none ∧ o.dst = some j.2.1 ∧ j.2.1 < N ∧ ∀ env st, Step P N o env st fun x st' => ∃ b, x = .ptr b 0 ∧ st' = (b, .cells (j.2.2.map .lit)) :: st
theorem AllocAt.mk' {i t : Nat} {o : Oper} {e : TypeId} (zs : List Value) (h : ops[i]? = some o) (hg : o.guard = none) (hd : o.dst = some t) (ht : t < N) (ho : o.op = .alloc e) (hz : (P.info? e).map (fun i => i.zero.map (·.cells.toList)) = some (some zs)) : AllocAt P N ops (i, t, zs) :=
  ⟨o, h, hg, hd, ht, fun env st => S_alloc zs ho hz⟩

/-- The walk along the plan. 'base': what of the state every operation that leaves it may lean on. -/
inductive AG (P : Program) (N : Nat) (ops : Array Oper) (Q : Env → St → Prop) : St → List (Nat × Nat) → Env → St → Prop
  | nil {base st : St} {env : Env} (h : Q env st) : AG P N ops Q base [] env st
  | f {base st : St} {env : Env} {i : Nat} {o : Oper} {V : AV} {rest : List (Nat × Nat)} (ho : ops[i]? = some o) (hd : dstIn N o.dst = true)
      (hs : ∀ st', (∀ p, p ∈ base → p ∈ st') → QStep P N ops o (sub (readsOf ops o) env) st' V) (h : AG P N ops Q base rest (putE o.dst V env) st) : AG P N ops Q base ((i, 0) :: rest) env st
  | s {base st : St} {env : Env} {i : Nat} {o : Oper} {K : AV → St → Prop} {rest : List (Nat × Nat)} (ho : ops[i]? = some o) (hg : o.guard = none) (hd : dstIn N o.dst = true)
      (hs : Step P N o (sub (readsOf ops o) env) st K) (hb : ∀ x st1, K x st1 → ∀ p, p ∈ base → p ∈ st1) (h : ∀ x st1, K x st1 → AG P N ops Q base rest (putE o.dst x env) st1) : AG P N ops Q base ((i, 1) :: rest) env st
  | h {base st : St} {env : Env} {i : Nat} {o : Oper} {K : AV → St → Prop} {rest : List (Nat × Nat)} (ho : ops[i]? = some o) (hg : o.guard = none) (hd : dstIn N o.dst = true)
      (hs : Step P N o (sub (readsOf ops o) env) st K) (h : ∀ x st1, K x st1 → AG P N ops Q st1 rest (putE o.dst x env) st1) : AG P N ops Q base ((i, 2) :: rest) env st
  | al {base st : St} {env : Env} {rest : List (Nat × Nat)} (js : List (Nat × Nat × List Value)) (hne : js ≠ []) (hnd : (js.map (·.2.1)).Nodup) (hjs : ∀ j, j ∈ js → AllocAt P N ops j) (hr : (rest.head?).map (·.2) ≠ some 3)
      (h : ∀ β : Nat → Nat, AG P N ops Q base rest (allocEnv js β env) (allocSt js β st)) : AG P N ops Q base (js.map (fun j => (j.1, 3)) ++ rest) env st

/-! Slots, by positions of the plan. -/
def dstAt (ops : Array Oper) (σ : List (Nat × Nat)) (p : Nat) : Option Tmp := ((σ[p]?).bind fun x => ops[x.1]?).bind (·.dst)
def curS (d : Nat → Option Tmp) (Vs : List AV) (f : Nat → Bool) (env : Env) (t : Nat) : Nat → Option AV
  | 0 => env.lookup t
  | k + 1 => if f k && d k == some t then Vs[k]? else curS d Vs f env t k
theorem curS_congr {d : Nat → Option Tmp} {Vs Vs' : List AV} {f g : Nat → Bool} {env : Env} {t : Nat} : ∀ (k : Nat), (∀ j, j < k → d j = some t → f j = g j ∧ (f j = true → Vs[j]? = Vs'[j]?)) → curS d Vs f env t k = curS d Vs' g env t k
  | 0, _ => rfl
  | k + 1, h => by
    rw [curS, curS, curS_congr k fun j hj => h j (by omega)]
    by_cases hd : d k = some t
    · obtain ⟨h1, h2⟩ := h k (by omega) hd
      rw [← h1]
      cases hf : f k with
      | true => simp [hd, h2 hf]
      | false => simp
    · have : (d k == some t) = false := by simpa using hd
      simp [this]
theorem curS_upto {d : Nat → Option Tmp} {Vs : List AV} {f : Nat → Bool} {env : Env} {t : Nat} (i : Nat) : ∀ (k : Nat), i ≤ k → (∀ j, i ≤ j → j < k → d j = some t → f j = false) → curS d Vs f env t k = curS d Vs f env t i
  | 0, h, _ => by rw [Nat.le_zero.1 h]
  | k + 1, h, hf => by
    rcases Nat.lt_or_ge i (k + 1) with h' | h'
    · rw [curS]
      by_cases hd : d k = some t
      · rw [hf k (by omega) (by omega) hd]
        simp only [Bool.false_and, Bool.false_eq_true, if_false]
        exact curS_upto i k (by omega) fun j h1 h2 => hf j h1 (by omega)
      · have : (d k == some t) = false := by simpa using hd
        simp only [this, Bool.and_false, Bool.false_eq_true, if_false]
        exact curS_upto i k (by omega) fun j h1 h2 => hf j h1 (by omega)
    · rw [show i = k + 1 by omega]
theorem curS_hit {d : Nat → Option Tmp} {Vs : List AV} {f : Nat → Bool} {env : Env} {t p k : Nat} (hp : p < k) (hd : d p = some t) (hf : f p = true) (hl : ∀ j, p < j → j < k → d j = some t → f j = false) : curS d Vs f env t k = Vs[p]? := by
  rw [curS_upto (p + 1) k (by omega) fun j h1 h2 => hl j (by omega) h2]
  rw [curS]
  simp [hf, hd]

theorem lookup_putE (d : Option Tmp) (x : AV) (env : Env) (t : Nat) : (putE d x env).lookup t = if d = some t then some x else env.lookup t := by
  cases d with
  | none => simp [putE]
  | some d =>
    by_cases h : d = t
    · subst h; simp [putE, List.lookup_cons]
    · have : (t == d) = false := by simpa using fun h' => h h'.symm
      simp [putE, List.lookup_cons, this, h]
theorem lookup_allocEnv {β : Nat → Nat} {t : Nat} : ∀ (js : List (Nat × Nat × List Value)) (env : Env), (allocEnv js β env).lookup t = if t ∈ js.map (·.2.1) then some (.ptr (β t) 0) else env.lookup t
  | [], env => by simp [allocEnv]
  | j :: js, env => by
    have ih := lookup_allocEnv (β := β) (t := t) js ((j.2.1, .ptr (β j.2.1) 0) :: env)
    unfold allocEnv at ih ⊢
    rw [List.foldl_cons, ih]
    by_cases h : t = j.2.1
    · subst h; simp [List.lookup_cons]
    · have : (t == j.2.1) = false := by simpa using h
      have e : (t ∈ (j :: js).map (·.2.1)) ↔ t ∈ js.map (·.2.1) := by simp [h]
      simp only [List.lookup_cons, this, e]

def doneSt (js : List (Nat × Nat × List Value)) (β : Nat → Nat) (listed : Array Bool) (st : St) : St := allocSt (js.filter fun j => listed.getD j.1 false) β st

def Lst (σ : List (Nat × Nat)) (listed : Array Bool) (p : Nat) : Bool := match σ[p]? with | some x => listed.getD x.1 false | none => false
theorem Lst_at {σ : List (Nat × Nat)} {listed : Array Bool} {p i k : Nat} (h : σ[p]? = some (i, k)) : Lst σ listed p = listed.getD i false := by simp [Lst, h]
theorem dstAt_at {σ : List (Nat × Nat)} {p i k : Nat} {o : Oper} (h : σ[p]? = some (i, k)) (ho : ops[i]? = some o) : dstAt ops σ p = o.dst := by simp [dstAt, h, ho]
theorem dstAt_some {σ : List (Nat × Nat)} {p t : Nat} (h : dstAt ops σ p = some t) : ∃ i k o, σ[p]? = some (i, k) ∧ ops[i]? = some o ∧ o.dst = some t := by
  unfold dstAt at h
  cases hp : σ[p]? with
  | none => simp [hp] at h
  | some x =>
    obtain ⟨i, k⟩ := x
    cases ho : ops[i]? with
    | none => simp [hp, ho] at h
    | some o => exact ⟨i, k, o, rfl, ho, by simpa [hp, ho] using h⟩

theorem filter_perm {α : Type} {p p' : α → Bool} {j : α} : ∀ {l : List α}, l.Nodup → j ∈ l → p j = false → p' j = true → (∀ x, x ∈ l → x ≠ j → p' x = p x) → (l.filter p').Perm (j :: l.filter p)
  | [], _, h, _, _, _ => by cases h
  | x :: l, hn, h, h1, h2, h3 => by
    simp only [List.nodup_cons] at hn
    by_cases hx : x = j
    · subst hx
      rw [List.filter_cons, List.filter_cons, h1, h2]
      simp only [if_true, Bool.false_eq_true, if_false]
      have : l.filter p' = l.filter p := List.filter_congr fun y hy => h3 y (List.mem_cons_of_mem _ hy) fun e => hn.1 (e ▸ hy)
      rw [this]
    · have hj : j ∈ l := by
        rcases List.mem_cons.1 h with e | e
        · exact absurd e.symm hx
        · exact e
      have ih := filter_perm hn.2 hj h1 h2 fun y hy => h3 y (List.mem_cons_of_mem _ hy)
      rw [List.filter_cons, List.filter_cons, h3 x List.mem_cons_self hx]
      split
      · exact (ih.cons x).trans (List.Perm.swap _ _ _)
      · exact ih

theorem nodup_of_map {α β : Type} {f : α → β} : ∀ {l : List α}, (l.map f).Nodup → l.Nodup
  | [], _ => .nil
  | x :: l, h => by
    simp only [List.map_cons, List.nodup_cons] at h ⊢
    exact ⟨fun hx => h.1 (List.mem_map.2 ⟨x, hx, rfl⟩), nodup_of_map h.2⟩

structure Inv (P : Program) (N : Nat) (ops : Array Oper) (Q : Env → St → Prop) (σ : List (Nat × Nat)) (env0 : Env) (st0 : St) (w0 : World) (n : Nat) (Vs : List AV) (base : St) (js : List (Nat × Nat × List Value)) (β : Nat → Nat) (rest : List (Nat × Nat)) (envc : Env) (st : St) (listed : Array Bool) (a : Act) (w1 : World) : Prop where
  split : ∀ (r : Nat), σ[n + r]? = (js.map (fun j => (j.1, 3)) ++ rest)[r]?
  len : σ.length = n + (js.length + rest.length)
  vlen : Vs.length = n
  pend : ∀ (p i k : Nat), p < n → σ[p]? = some (i, k) → listed.getD i false = false → ∃ o V env', ops[i]? = some o ∧ Vs[p]? = some V ∧ dstIn N o.dst = true ∧ (∀ st', (∀ q, q ∈ base → q ∈ st') → QStep P N ops o (sub (readsOf ops o) env') st' V) ∧ ∀ t, env'.lookup t = curS (dstAt ops σ) Vs (fun _ => true) env0 t p
  env : ∀ t, envc.lookup t = curS (dstAt ops σ) Vs (fun _ => true) env0 t n
  free : ∀ x, x ∈ rest → listed.getD x.1 false = false
  jnd : (js.map (·.2.1)).Nodup
  jok : ∀ j, j ∈ js → AllocAt P N ops j
  ag : ∀ β, AG P N ops Q base rest (allocEnv js β envc) (allocSt js β st)
  head : js ≠ [] → (rest.head?).map (·.2) ≠ some 3
  base : ∀ q, q ∈ base → q ∈ st
  size : a.tmps.size = N
  defers : a.defers = []
  lsize : listed.size = ops.size
  closed : Closed ops listed
  rel : Rel (doneSt js β listed st) w1
  ext : Ext st0 w0 (doneSt js β listed st) w1
  slots : ∀ t x, curS (dstAt ops σ) (Vs ++ js.map fun j => .ptr (β j.2.1) 0) (Lst σ listed) env0 t (n + js.length) = some x → ∃ v, a.tmps[t]? = some v ∧ R (doneSt js β listed st) w1 x v

section
variable {Q : Env → St → Prop} {σ : List (Nat × Nat)} {env0 : Env} {st0 : St} {w0 : World} {n : Nat} {Vs : List AV} {base : St} {js : List (Nat × Nat × List Value)} {β : Nat → Nat} {rest : List (Nat × Nat)} {envc : Env} {st : St} {listed : Array Bool} {a : Act} {w1 : World}

theorem Inv.pass_f {i : Nat} {rest' : List (Nat × Nat)} (hσ : PlanOk ops σ) (h : Inv P N ops Q σ env0 st0 w0 n Vs base [] β ((i, 0) :: rest') envc st listed a w1) :
    ∃ V envc', Inv P N ops Q σ env0 st0 w0 (n + 1) (Vs ++ [V]) base [] β rest' envc' st listed a w1 := by
  have hag := h.ag β
  have hpos : σ[n]? = some (i, 0) := by simpa using h.split 0
  generalize hr : (i, 0) :: rest' = rr at h hag
  cases hag with
  | nil => cases hr
  | s => cases hr
  | h => cases hr
  | al js' hne => cases js' with
    | nil => exact absurd rfl hne
    | cons j js' => simp at hr
  | @f _ _ _ i1 o V rest1 ho hd hs hag =>
    cases hr
    have hun : listed.getD i false = false := h.free (i, 0) List.mem_cons_self
    have hv : (Vs ++ [V])[n]? = some V := by rw [List.getElem?_append_right (by rw [h.vlen]; exact Nat.le_refl _), h.vlen]; simp
    have hlow : ∀ (j : Nat), j < n → (Vs ++ [V])[j]? = Vs[j]? := fun j hj => List.getElem?_append_left (by rw [h.vlen]; exact hj)
    have hcong : ∀ t p, p ≤ n → curS (dstAt ops σ) Vs (fun _ => true) env0 t p = curS (dstAt ops σ) (Vs ++ [V]) (fun _ => true) env0 t p := fun t p hp => curS_congr p fun j hj _ => ⟨rfl, fun _ => (hlow j (by omega)).symm⟩
    have hlst : Lst σ listed n = false := by rw [Lst_at hpos]; exact hun
    refine ⟨V, putE o.dst V envc, ⟨fun r => ?_, by have := h.len; simp at this ⊢; omega, by simp [h.vlen], fun p i' k hp hpi hl => ?_, fun t => ?_, fun x hx => h.free x (List.mem_cons_of_mem _ hx), h.jnd, h.jok, fun β => hag, fun e => absurd rfl e, h.base, h.size, h.defers, h.lsize, h.closed, h.rel, h.ext, fun t x hx => ?_⟩⟩
    · have := h.split (r + 1)
      simpa [Nat.add_assoc, Nat.add_comm 1 r] using this
    · rcases Nat.lt_or_ge p n with hlt | hge
      · obtain ⟨o', V', env', h1, h2, h3, h4, h5⟩ := h.pend p i' k hlt hpi hl
        exact ⟨o', V', env', h1, by rw [hlow p hlt]; exact h2, h3, h4, fun t => by rw [h5 t]; exact hcong t p (by omega)⟩
      · have : p = n := by omega
        subst this
        rw [hpos] at hpi
        cases hpi
        exact ⟨o, V, envc, ho, hv, hd, hs, fun t => by rw [h.env t]; exact hcong t p (Nat.le_refl _)⟩
    · rw [lookup_putE, curS, dstAt_at hpos ho, hv, ← hcong t n (Nat.le_refl _), ← h.env t]
      by_cases hdt : o.dst = some t
      · simp [hdt]
      · have : (o.dst == some t) = false := by simpa using hdt
        simp [hdt, this]
    · refine h.slots t x ?_
      simp only [List.map_nil, List.append_nil, List.length_nil, Nat.add_zero] at hx ⊢
      rw [curS, hlst] at hx
      simp only [Bool.false_and, Bool.false_eq_true, if_false] at hx
      rw [← hx]
      exact curS_congr n fun j hj _ => ⟨rfl, fun _ => (hlow j hj).symm⟩

theorem Inv.pass_al {i : Nat} {rest' : List (Nat × Nat)} (h : Inv P N ops Q σ env0 st0 w0 n Vs base [] β ((i, 3) :: rest') envc st listed a w1) :
    ∃ js rest'', js ≠ [] ∧ js.length + rest''.length = rest'.length + 1 ∧ Inv P N ops Q σ env0 st0 w0 n Vs base js β rest'' envc st listed a w1 := by
  have hag := h.ag β
  generalize hr : (i, 3) :: rest' = rr at h hag
  cases hag with
  | nil => cases hr
  | f => cases hr
  | s => cases hr
  | h => cases hr
  | @al _ _ _ rest'' js hne hnd hjs hhd hag =>
    have hun : ∀ j, j ∈ js → listed.getD j.1 false = false := fun j hj => h.free (j.1, 3) (List.mem_append_left _ (List.mem_map.2 ⟨j, hj, rfl⟩))
    have hfil : js.filter (fun j => listed.getD j.1 false) = [] := List.filter_eq_nil_iff.2 fun j hj => by simp [hun j hj]
    have hdone : doneSt js β listed st = st := by unfold doneSt; rw [hfil]; rfl
    have hlen : js.length + rest''.length = rest'.length + 1 := by have := congrArg List.length hr; simpa using this.symm
    refine ⟨js, rest'', hne, hlen, ⟨fun r => by simpa using h.split r, by have := h.len; simp at this ⊢; omega, h.vlen, h.pend, h.env, fun x hx => h.free x (List.mem_append_right _ hx), hnd, hjs, ?_, fun _ => hhd, h.base, h.size, h.defers, h.lsize, h.closed, by rw [hdone]; exact h.rel, by rw [hdone]; exact h.ext, fun t x hx => ?_⟩⟩
    · exact hag
    · rw [hdone]
      refine h.slots t x ?_
      simp only [List.map_nil, List.append_nil, List.length_nil, Nat.add_zero]
      rw [curS_upto n (n + js.length) (by omega) fun j h1 h2 _ => ?_] at hx
      · rw [← hx]
        exact curS_congr n fun j hj _ => ⟨rfl, fun _ => (List.getElem?_append_left (by rw [h.vlen]; exact hj)).symm⟩
      · obtain ⟨r, rfl⟩ : ∃ r, j = n + r := ⟨j - n, by omega⟩
        have := h.split r
        simp only [List.map_nil, List.nil_append] at this
        rw [List.getElem?_append_left (by simp; omega), List.getElem?_map] at this
        have hjr : js[r]? = some js[r] := List.getElem?_eq_getElem (by omega)
        rw [hjr] at this
        rw [Lst_at this]
        exact hun _ (List.getElem_mem _)

theorem Inv.js_at (h : Inv P N ops Q σ env0 st0 w0 n Vs base js β rest envc st listed a w1) {r : Nat} (hr : r < js.length) : σ[n + r]? = some (js[r].1, 3) := by
  rw [h.split r, List.getElem?_append_left (by simpa using hr), List.getElem?_map, List.getElem?_eq_getElem hr]
  rfl
theorem Inv.js_dst (h : Inv P N ops Q σ env0 st0 w0 n Vs base js β rest envc st listed a w1) {r : Nat} (hr : r < js.length) : dstAt ops σ (n + r) = some js[r].2.1 := by
  obtain ⟨o, h1, _, h2, _⟩ := (h.jok js[r] (List.getElem_mem hr)).at_
  rw [dstAt_at (h.js_at hr) h1, h2]
theorem Inv.rest_at (h : Inv P N ops Q σ env0 st0 w0 n Vs base js β rest envc st listed a w1) (r : Nat) : σ[n + js.length + r]? = rest[r]? := by
  rw [Nat.add_assoc, h.split (js.length + r), List.getElem?_append_right (by simp)]
  simp
theorem Inv.js_V (h : Inv P N ops Q σ env0 st0 w0 n Vs base js β rest envc st listed a w1) (β' : Nat → Nat) {r : Nat} (hr : r < js.length) : (Vs ++ js.map fun j => AV.ptr (β' j.2.1) 0)[n + r]? = some (.ptr (β' js[r].2.1) 0) := by
  rw [List.getElem?_append_right (by rw [h.vlen]; omega), h.vlen, Nat.add_sub_cancel_left, List.getElem?_map, List.getElem?_eq_getElem hr]
  rfl
theorem Inv.low_V (h : Inv P N ops Q σ env0 st0 w0 n Vs base js β rest envc st listed a w1) (β' : Nat → Nat) {p : Nat} (hp : p < n) : (Vs ++ js.map fun j => AV.ptr (β' j.2.1) 0)[p]? = Vs[p]? :=
  List.getElem?_append_left (by rw [h.vlen]; exact hp)
/-- The new blocks are all there. -/
theorem Inv.settle (h : Inv P N ops Q σ env0 st0 w0 n Vs base js β rest envc st listed a w1) (hall : ∀ j, j ∈ js → listed.getD j.1 false = true) :
    ∃ Vs' envc' st', Inv P N ops Q σ env0 st0 w0 (n + js.length) Vs' base [] β rest envc' st' listed a w1 := by
  have hfil : js.filter (fun j => listed.getD j.1 false) = js := List.filter_eq_self.2 hall
  have hdone : doneSt js β listed st = allocSt js β st := by unfold doneSt; rw [hfil]
  have hlow : ∀ t p, p ≤ n → curS (dstAt ops σ) Vs (fun _ => true) env0 t p = curS (dstAt ops σ) (Vs ++ js.map fun j => .ptr (β j.2.1) 0) (fun _ => true) env0 t p := fun t p hp => curS_congr p fun j hj _ => ⟨rfl, fun _ => (h.low_V β (by omega)).symm⟩
  refine ⟨Vs ++ js.map fun j => .ptr (β j.2.1) 0, allocEnv js β envc, allocSt js β st, ⟨fun r => by simpa using h.rest_at r, by have := h.len; simp; omega, by simp [h.vlen], fun p i k hp hpi hl => ?_, fun t => ?_, h.free, by simp, fun j hj => by simp at hj, fun β' => h.ag β, fun e => absurd rfl e, fun q hq => List.mem_append_right _ (h.base q hq), h.size, h.defers, h.lsize, h.closed, by rw [← hdone] ; exact h.rel, by rw [← hdone]; exact h.ext, fun t x hx => by rw [← hdone]; exact h.slots t x (by simpa using hx)⟩⟩
  · rcases Nat.lt_or_ge p n with hlt | hge
    · obtain ⟨o', V', env', h1, h2, h3, h4, h5⟩ := h.pend p i k hlt hpi hl
      exact ⟨o', V', env', h1, by rw [h.low_V β hlt]; exact h2, h3, h4, fun t => by rw [h5 t]; exact hlow t p (by omega)⟩
    · exfalso
      obtain ⟨r, rfl⟩ : ∃ r, p = n + r := ⟨p - n, by omega⟩
      have hr : r < js.length := by omega
      rw [h.js_at hr] at hpi
      cases hpi
      rw [hall _ (List.getElem_mem hr)] at hl
      cases hl
  · rw [lookup_allocEnv]
    split
    · rename_i ht
      obtain ⟨j, hj, rfl⟩ := List.mem_map.1 ht
      obtain ⟨r, hr, rfl⟩ := List.getElem_of_mem hj
      rw [curS_hit (p := n + r) (by omega) (h.js_dst hr) rfl fun q h1 h2 hd => ?_, h.js_V β hr]
      exfalso
      obtain ⟨r', rfl⟩ : ∃ r', q = n + r' := ⟨q - n, by omega⟩
      rw [h.js_dst (r := r') (by omega)] at hd
      have hn := h.jnd
      have e1 : (js.map (·.2.1))[r]? = (js.map (·.2.1))[r']? := by
        rw [List.getElem?_map, List.getElem?_map, List.getElem?_eq_getElem hr, List.getElem?_eq_getElem (by omega)]
        simpa using (Option.some.inj hd).symm
      have := (List.getElem?_inj (by simpa using hr) hn).1 e1
      omega
    · rename_i ht
      rw [h.env t, hlow t n (Nat.le_refl _)]
      rw [curS_upto n (n + js.length) (by omega) fun q h1 h2 hd => ?_]
      exfalso
      obtain ⟨r', rfl⟩ : ∃ r', q = n + r' := ⟨q - n, by omega⟩
      rw [h.js_dst (r := r') (by omega)] at hd
      exact ht (List.mem_map.2 ⟨_, List.getElem_mem (by omega), Option.some.inj hd⟩)

/-- What an operation that may run now reads or writes is as the plan has it. -/
theorem ahead_of (hσ : PlanOk ops σ) (hcl : Closed ops listed) {p i k : Nat} {o : Oper} (hp : σ[p]? = some (i, k)) (ho : ops[i]? = some o) (hun : listed.getD i false = false) (hall : ∀ e ∈ o.after, Region.binds .any e = true → listed.getD e.on false = true)
    {t : Nat} (ht : t ∈ readsOf ops o ∨ o.dst = some t) {q : Nat} (hq : dstAt ops σ q = some t) : (q < p → Lst σ listed q = true) ∧ (p < q → Lst σ listed q = false) := by
  obtain ⟨j, k', o', hqj, hoj, hdj⟩ := dstAt_some hq
  rw [Lst_at hqj]
  refine ⟨fun hlt => ?_, fun hlt => ?_⟩
  · exact hcl.bef ((hσ.pair q p j k' i k o' o hlt hqj hp hoj ho).2.1 (confl_w hdj ht)) ⟨o, ho, hall⟩
  · cases hl : listed.getD j false with
    | false => rfl
    | true =>
      have := hcl.bef ((hσ.pair p q i k j k' o o' hlt hp hqj ho hoj).2.1 (confl_r ht hdj)) ⟨o', hoj, hcl j o' hoj hl⟩
      rw [hun] at this
      cases this

theorem Closed.set {i : Nat} {o : Oper} (hcl : Closed ops listed) (ho : ops[i]? = some o) (hall : ∀ e ∈ o.after, Region.binds .any e = true → listed.getD e.on false = true) : Closed ops (listed.setIfInBounds i true) := by
  intro k p hp hk e he hb
  by_cases hki : k = i
  · subst hki
    rw [ho] at hp; cases hp
    exact getD_set_true (hall e he hb)
  · rw [getD_set_ne false (Ne.symm hki)] at hk
    exact getD_set_true (hcl k p hp hk e he hb)

theorem set_mono {i k : Nat} (h : (listed.setIfInBounds i true).getD k false = false) : listed.getD k false = false := by
  cases hl : listed.getD k false with
  | false => rfl
  | true => rw [getD_set_true hl] at h; cases h

theorem Lst_set (hσ : PlanOk ops σ) {p i k : Nat} (hp : σ[p]? = some (i, k)) {q : Nat} (hq : q ≠ p) : Lst σ (listed.setIfInBounds i true) q = Lst σ listed q := by
  cases hqj : σ[q]? with
  | none => simp [Lst, hqj]
  | some x =>
    obtain ⟨j, k'⟩ := x
    rw [Lst_at hqj, Lst_at hqj]
    obtain ⟨o, ho⟩ := hσ.at_ p i k hp
    obtain ⟨o', ho'⟩ := hσ.at_ q j k' hqj
    have : i ≠ j := by
      rcases Nat.lt_or_ge p q with h | h
      · exact (hσ.pair p q i k j k' o o' h hp hqj ho ho').1
      · exact ((hσ.pair q p j k' i k o' o (by omega) hqj hp ho' ho).1).symm
    exact getD_set_ne false this
theorem Lst_self {p i k : Nat} {o : Oper} (hsz : listed.size = ops.size) (ho : ops[i]? = some o) (hp : σ[p]? = some (i, k)) : Lst σ (listed.setIfInBounds i true) p = true := by
  rw [Lst_at hp]
  have : i < ops.size := (Array.getElem?_eq_some_iff.1 ho).1
  simp [hsz, this]

theorem doneSt_set {i : Nat} (hi : ∀ j, j ∈ js → j.1 ≠ i) : doneSt js β (listed.setIfInBounds i true) st = doneSt js β listed st := by
  unfold doneSt
  congr 1
  exact List.filter_congr fun j hj => getD_set_ne false (Ne.symm (hi j hj))


/-- An operation that leaves the state has run. -/
theorem Inv.done_f (hσ : PlanOk ops σ) (hn0 : (st0.map (·.1)).Nodup) (h : Inv P N ops Q σ env0 st0 w0 n Vs base js β rest envc st listed a w1) {p i k : Nat} {o : Oper} {V : AV} (hpn : p < n) (hp : σ[p]? = some (i, k)) (ho : ops[i]? = some o) (hun : listed.getD i false = false)
    (hall : ∀ e ∈ o.after, Region.binds .any e = true → listed.getD e.on false = true) (hV : Vs[p]? = some V) (hd : dstIn N o.dst = true) {v : Value} {w' : World} (hr : R (doneSt js β listed st) w' V v) (hrel : Rel (doneSt js β listed st) w') (hx : Ext (doneSt js β listed st) w1 (doneSt js β listed st) w') :
    Inv P N ops Q σ env0 st0 w0 n Vs base js β rest envc st (listed.setIfInBounds i true) (a.put o.dst v) w' := by
  have hi : i < ops.size := (Array.getElem?_eq_some_iff.1 ho).1
  have hjs : ∀ j, j ∈ js → j.1 ≠ i := fun j hj e => by
    obtain ⟨r, hr, rfl⟩ := List.getElem_of_mem hj
    obtain ⟨oj, hoj, _⟩ := (h.jok _ hj).at_
    exact (hσ.pair p (n + r) i k _ _ o oj (by omega) hp (h.js_at hr) ho hoj).1 e.symm
  have hds : doneSt js β (listed.setIfInBounds i true) st = doneSt js β listed st := doneSt_set hjs
  have hn1 := h.rel.nodup
  refine ⟨h.split, h.len, h.vlen, fun p' i' k' hp' hpi hl => h.pend p' i' k' hp' hpi (set_mono hl), h.env, fun x hx' => ?_, h.jnd, h.jok, h.ag, h.head, h.base, by cases o.dst <;> simp [Act.put, h.size], by cases o.dst <;> simp [Act.put, h.defers], by simpa using h.lsize, h.closed.set ho hall, by rw [hds]; exact hrel, by rw [hds]; exact h.ext.trans hx hn0, fun t x hx' => ?_⟩
  · obtain ⟨r, hr', rfl⟩ := List.getElem_of_mem hx'
    have hre : σ[n + js.length + r]? = some rest[r] := by rw [h.rest_at r, List.getElem?_eq_getElem hr']
    obtain ⟨o', ho'⟩ := hσ.at_ _ _ _ hre
    have : i ≠ rest[r].1 := (hσ.pair p _ i k rest[r].1 rest[r].2 o o' (by omega) hp hre ho ho').1
    rw [getD_set_ne false this]
    exact h.free _ hx'
  · rw [hds]
    by_cases hdt : o.dst = some t
    · have hdp : dstAt ops σ p = some t := by rw [dstAt_at hp ho, hdt]
      rw [curS_hit (p := p) (by omega) hdp (Lst_self h.lsize ho hp) fun q h1 h2 hq => ?_, h.low_V β hpn, hV] at hx'
      · cases hx'
        exact ⟨v, by simp [Act.put, hdt, h.size, dstIn_spec hd t hdt], hr⟩
      · rw [Lst_set hσ hp (by omega)]
        exact (ahead_of hσ h.closed hp ho hun hall (.inr hdt) hq).2 h1
    · have e1 : curS (dstAt ops σ) (Vs ++ js.map fun j => .ptr (β j.2.1) 0) (Lst σ (listed.setIfInBounds i true)) env0 t (n + js.length) = curS (dstAt ops σ) (Vs ++ js.map fun j => .ptr (β j.2.1) 0) (Lst σ listed) env0 t (n + js.length) := curS_congr _ fun q hq hqd => by
        refine ⟨Lst_set hσ hp fun e => ?_, fun _ => rfl⟩
        subst e
        rw [dstAt_at hp ho] at hqd
        exact hdt hqd
      rw [e1] at hx'
      obtain ⟨u, hu, hru⟩ := h.slots t x hx'
      refine ⟨u, ?_, hru.mono hx hn1⟩
      cases hod : o.dst with
      | none => simpa [Act.put] using hu
      | some d =>
        have : d ≠ t := fun e => hdt (by rw [hod, e])
        simp only [Act.put]
        rw [Array.getElem?_setIfInBounds_ne this]
        exact hu

/-- What it read was as the plan has it. -/
theorem Inv.good_f (hσ : PlanOk ops σ) (h : Inv P N ops Q σ env0 st0 w0 n Vs base js β rest envc st listed a w1) {p i k : Nat} {o : Oper} {env' : Env} (hpn : p < n) (hp : σ[p]? = some (i, k)) (ho : ops[i]? = some o) (hun : listed.getD i false = false)
    (hall : ∀ e ∈ o.after, Region.binds .any e = true → listed.getD e.on false = true) (he : ∀ t, env'.lookup t = curS (dstAt ops σ) Vs (fun _ => true) env0 t p) : Good N (sub (readsOf ops o) env') (doneSt js β listed st) a w1 := by
  refine ⟨h.size, h.defers, fun t x hx => ?_, h.rel⟩
  obtain ⟨hx1, hx2⟩ := sub_lookup hx
  rw [he t] at hx1
  refine h.slots t x ?_
  rw [← hx1, curS_upto p (n + js.length) (by omega) fun q h1 h2 hq => ?_]
  · exact curS_congr p fun q hq hqd => ⟨(ahead_of hσ h.closed hp ho hun hall (.inl hx2) hqd).1 hq, fun _ => h.low_V β (by omega)⟩
  · rcases Nat.lt_or_ge p q with h' | h'
    · exact (ahead_of hσ h.closed hp ho hun hall (.inl hx2) hq).2 h'
    · have : q = p := by omega
      subst this
      rw [Lst_at hp]; exact hun

/-- A block has been laid. -/
theorem Inv.done_al (hσ : PlanOk ops σ) (hn0 : (st0.map (·.1)).Nodup) (h : Inv P N ops Q σ env0 st0 w0 n Vs base js β rest envc st listed a w1) {r : Nat} (hr : r < js.length) {o : Oper} (ho : ops[js[r].1]? = some o) (hod : o.dst = some js[r].2.1) (htN : js[r].2.1 < N) (hun : listed.getD js[r].1 false = false)
    (hall : ∀ e ∈ o.after, Region.binds .any e = true → listed.getD e.on false = true) {b : Nat} {v : Value} {w' : World} (hv : R ((b, .cells (js[r].2.2.map .lit)) :: doneSt js β listed st) w' (.ptr b 0) v) (hrel : Rel ((b, .cells (js[r].2.2.map .lit)) :: doneSt js β listed st) w')
    (hx : Ext (doneSt js β listed st) w1 ((b, .cells (js[r].2.2.map .lit)) :: doneSt js β listed st) w') :
    Inv P N ops Q σ env0 st0 w0 n Vs base js (fun u => if u = js[r].2.1 then b else β u) rest envc st (listed.setIfInBounds js[r].1 true) (a.put o.dst v) w' := by
  have hn1 := h.rel.nodup
  have hp := h.js_at hr
  have hmem : js[r] ∈ js := List.getElem_mem hr
  have hslot : ∀ (r' : Nat) (hr' : r' < js.length), r' ≠ r → js[r'].2.1 ≠ js[r].2.1 := fun r' hr' hne e => by
    have e1 : (js.map (·.2.1))[r']? = (js.map (·.2.1))[r]? := by
      rw [List.getElem?_map, List.getElem?_map, List.getElem?_eq_getElem hr, List.getElem?_eq_getElem hr']
      simpa using e
    exact hne ((List.getElem?_inj (by simpa using hr') h.jnd).1 e1)
  have hidx : ∀ (r' : Nat) (hr' : r' < js.length), r' ≠ r → js[r'].1 ≠ js[r].1 := fun r' hr' hne e => by
    obtain ⟨o', ho', _⟩ := (h.jok _ (List.getElem_mem hr')).at_
    rcases Nat.lt_or_ge r' r with h' | h'
    · exact (hσ.pair (n + r') (n + r) _ _ _ _ o' o (by omega) (h.js_at hr') hp ho' ho).1 e
    · exact (hσ.pair (n + r) (n + r') _ _ _ _ o o' (by omega) hp (h.js_at hr') ho ho').1 e.symm
  have hjn : js.Nodup := nodup_of_map h.jnd
  have hsz : js[r].1 < ops.size := (Array.getElem?_eq_some_iff.1 ho).1
  have hother : ∀ x, x ∈ js → x ≠ js[r] → x.1 ≠ js[r].1 ∧ x.2.1 ≠ js[r].2.1 := fun x hx hne => by
    obtain ⟨r', hr', rfl⟩ := List.getElem_of_mem hx
    have : r' ≠ r := fun e => hne (by subst e; rfl)
    exact ⟨hidx r' hr' this, hslot r' hr' this⟩
  have hperm : (doneSt js (fun u => if u = js[r].2.1 then b else β u) (listed.setIfInBounds js[r].1 true) st).Perm ((b, .cells (js[r].2.2.map .lit)) :: doneSt js β listed st) := by
    unfold doneSt allocSt
    have h1 := filter_perm (p := fun j => listed.getD j.1 false) (p' := fun j => (listed.setIfInBounds js[r].1 true).getD j.1 false) hjn hmem hun (by simp [h.lsize, hsz]) fun x hx hne => getD_set_ne false (Ne.symm (hother x hx hne).1)
    have h2 := (h1.map fun j => ((if j.2.1 = js[r].2.1 then b else β j.2.1), Ob.cells (j.2.2.map .lit))).append_right st
    refine h2.trans ?_
    rw [List.map_cons, List.cons_append, if_pos rfl]
    refine List.Perm.cons _ (List.Perm.append_right st ?_)
    rw [show (js.filter fun j => listed.getD j.1 false).map (fun j => ((if j.2.1 = js[r].2.1 then b else β j.2.1), Ob.cells (j.2.2.map .lit))) = (js.filter fun j => listed.getD j.1 false).map (fun j => (β j.2.1, Ob.cells (j.2.2.map .lit))) from List.map_congr_left fun x hx => by
      obtain ⟨hx1, hx2⟩ := List.mem_filter.1 hx
      rw [if_neg (hother x hx1 fun e => by subst e; simp [hun] at hx2).2]]
  have hsub : ∀ q, q ∈ doneSt js (fun u => if u = js[r].2.1 then b else β u) (listed.setIfInBounds js[r].1 true) st → q ∈ ((b, .cells (js[r].2.2.map .lit)) :: doneSt js β listed st : St) := fun q hq => hperm.mem_iff.1 hq
  have hnd : ((doneSt js (fun u => if u = js[r].2.1 then b else β u) (listed.setIfInBounds js[r].1 true) st).map (·.1)).Nodup := (hperm.map (·.1)).nodup_iff.2 hrel.nodup
  have hx2 := hx.trans (Ext.sub hsub) hn1
  refine ⟨h.split, h.len, h.vlen, fun p' i' k' hp' hpi hl => h.pend p' i' k' hp' hpi (set_mono hl), h.env, fun x hx' => ?_, h.jnd, h.jok, h.ag, h.head, h.base, by cases o.dst <;> simp [Act.put, h.size], by cases o.dst <;> simp [Act.put, h.defers], by simpa using h.lsize, h.closed.set ho hall, hrel.sub hsub hnd, h.ext.trans hx2 hn0, fun t x hx' => ?_⟩
  · obtain ⟨r', hr', rfl⟩ := List.getElem_of_mem hx'
    have hre : σ[n + js.length + r']? = some rest[r'] := by rw [h.rest_at r', List.getElem?_eq_getElem hr']
    obtain ⟨o', ho'⟩ := hσ.at_ _ _ _ hre
    have : js[r].1 ≠ rest[r'].1 := (hσ.pair (n + r) _ _ _ rest[r'].1 rest[r'].2 o o' (by omega) hp hre ho ho').1
    rw [getD_set_ne false this]
    exact h.free _ hx'
  · by_cases hdt : o.dst = some t
    · have hdp : dstAt ops σ (n + r) = some t := by rw [dstAt_at hp ho, hdt]
      have e2 := h.js_V (fun u => if u = js[r].2.1 then b else β u) hr
      rw [curS_hit (p := n + r) (by omega) hdp (Lst_self h.lsize ho hp) fun q h1 h2 hq => ?_, e2, if_pos rfl] at hx'
      · cases hx'
        have ht : t < N := by rw [hod] at hdt; cases hdt; exact htN
        exact ⟨v, by simp [Act.put, hdt, h.size, ht], hv.mono (Ext.sub hsub) hrel.nodup⟩
      · rw [Lst_set hσ hp (by omega)]
        exact (ahead_of hσ h.closed hp ho hun hall (.inr hdt) hq).2 h1
    · have e1 : curS (dstAt ops σ) (Vs ++ js.map fun j => .ptr (if j.2.1 = js[r].2.1 then b else β j.2.1) 0) (Lst σ (listed.setIfInBounds js[r].1 true)) env0 t (n + js.length) = curS (dstAt ops σ) (Vs ++ js.map fun j => .ptr (β j.2.1) 0) (Lst σ listed) env0 t (n + js.length) := curS_congr _ fun q hq hqd => by
        have hne : q ≠ n + r := fun e => by
          subst e
          rw [dstAt_at hp ho] at hqd
          exact hdt hqd
        refine ⟨Lst_set hσ hp hne, fun _ => ?_⟩
        rcases Nat.lt_or_ge q n with h' | h'
        · rw [h.low_V β h', List.getElem?_append_left (by rw [h.vlen]; exact h')]
        · obtain ⟨r', rfl⟩ : ∃ r', q = n + r' := ⟨q - n, by omega⟩
          have hr' : r' < js.length := by omega
          have e2 := h.js_V (fun u => if u = js[r].2.1 then b else β u) hr'
          rw [h.js_V β hr', e2, if_neg (hslot r' hr' (by omega))]
      rw [e1] at hx'
      obtain ⟨u, hu, hru⟩ := h.slots t x hx'
      refine ⟨u, ?_, hru.mono hx2 hn1⟩
      rw [hod]
      have : js[r].2.1 ≠ t := fun e => hdt (by rw [hod, e])
      simp only [Act.put]
      rw [Array.getElem?_setIfInBounds_ne this]
      exact hu

/-- What an effect reads. -/
theorem Inv.good_e (hσ : PlanOk ops σ) {i k : Nat} {rest' : List (Nat × Nat)} (h : Inv P N ops Q σ env0 st0 w0 n Vs base [] β ((i, k) :: rest') envc st listed a w1) {o : Oper} (ho : ops[i]? = some o)
    (hall : ∀ e ∈ o.after, Region.binds .any e = true → listed.getD e.on false = true) : Good N (sub (readsOf ops o) envc) st a w1 := by
  have hp : σ[n]? = some (i, k) := by simpa using h.split 0
  have hun : listed.getD i false = false := h.free (i, k) List.mem_cons_self
  refine ⟨h.size, h.defers, fun t x hx => ?_, h.rel⟩
  obtain ⟨hx1, hx2⟩ := sub_lookup hx
  rw [h.env t] at hx1
  have := h.slots t x
  simp only [List.map_nil, List.append_nil, List.length_nil, Nat.add_zero] at this
  refine this ?_
  rw [← hx1]
  exact curS_congr n fun q hq hqd => ⟨(ahead_of hσ h.closed hp ho hun hall (.inl hx2) hqd).1 hq, fun _ => rfl⟩

/-- An effect has run. -/
theorem Inv.done_e (hσ : PlanOk ops σ) (hn0 : (st0.map (·.1)).Nodup) {i k : Nat} {rest' : List (Nat × Nat)} (h : Inv P N ops Q σ env0 st0 w0 n Vs base [] β ((i, k) :: rest') envc st listed a w1) {o : Oper} (ho : ops[i]? = some o) (hd : dstIn N o.dst = true)
    (hall : ∀ e ∈ o.after, Region.binds .any e = true → listed.getD e.on false = true) {x : AV} {st1 base' : St} {v : Value} {w' : World} (hr : R st1 w' x v) (hrel : Rel st1 w') (hx : Ext st w1 st1 w') (hb : ∀ q, q ∈ base' → q ∈ st1)
    (hpend : base' = base ∨ k = 2) (hag : AG P N ops Q base' rest' (putE o.dst x envc) st1) :
    Inv P N ops Q σ env0 st0 w0 (n + 1) (Vs ++ [x]) base' [] β rest' (putE o.dst x envc) st1 (listed.setIfInBounds i true) (a.put o.dst v) w' := by
  have hp : σ[n]? = some (i, k) := by simpa using h.split 0
  have hun : listed.getD i false = false := h.free (i, k) List.mem_cons_self
  have hn1 := h.rel.nodup
  have hv : (Vs ++ [x])[n]? = some x := by rw [List.getElem?_append_right (by rw [h.vlen]; exact Nat.le_refl _), h.vlen]; simp
  have hlow : ∀ (j : Nat), j < n → (Vs ++ [x])[j]? = Vs[j]? := fun j hj => List.getElem?_append_left (by rw [h.vlen]; exact hj)
  have hcong : ∀ t p, p ≤ n → curS (dstAt ops σ) Vs (fun _ => true) env0 t p = curS (dstAt ops σ) (Vs ++ [x]) (fun _ => true) env0 t p := fun t p hp => curS_congr p fun j hj _ => ⟨rfl, fun _ => (hlow j (by omega)).symm⟩
  have hsz : i < ops.size := (Array.getElem?_eq_some_iff.1 ho).1
  have hself : (listed.setIfInBounds i true).getD i false = true := by simp [h.lsize, hsz]
  refine ⟨fun r => ?_, by have := h.len; simp at this ⊢; omega, by simp [h.vlen], fun p i' k' hpn hpi hl => ?_, fun t => ?_, fun y hy => ?_, by simp, fun j hj => by simp at hj, fun _ => hag, fun e => absurd rfl e, hb, by cases o.dst <;> simp [Act.put, h.size], by cases o.dst <;> simp [Act.put, h.defers], by simpa using h.lsize, h.closed.set ho hall, hrel, h.ext.trans hx hn0, fun t y hy => ?_⟩
  · have := h.split (r + 1)
    simpa [Nat.add_assoc, Nat.add_comm 1 r] using this
  · rcases Nat.lt_or_ge p n with hlt | hge
    · rcases hpend with rfl | hk
      · obtain ⟨o', V', env', h1, h2, h3, h4, h5⟩ := h.pend p i' k' hlt hpi (set_mono hl)
        exact ⟨o', V', env', h1, by rw [hlow p hlt]; exact h2, h3, h4, fun t => by rw [h5 t]; exact hcong t p (by omega)⟩
      · exfalso
        obtain ⟨o', ho'⟩ := hσ.at_ _ _ _ hpi
        have := h.closed.bef ((hσ.pair p n i' k' i k o' o hlt hpi hp ho' ho).2.2.2.1 hk) ⟨o, ho, hall⟩
        rw [set_mono hl] at this
        cases this
    · have : p = n := by omega
      subst this
      rw [hp] at hpi
      cases hpi
      rw [hself] at hl
      cases hl
  · rw [lookup_putE, curS, dstAt_at hp ho, hv, ← hcong t n (Nat.le_refl _), ← h.env t]
    by_cases hdt : o.dst = some t
    · simp [hdt]
    · have : (o.dst == some t) = false := by simpa using hdt
      simp [hdt, this]
  · obtain ⟨r, hr', rfl⟩ := List.getElem_of_mem hy
    have hre : σ[n + (r + 1)]? = some rest'[r] := by
      have := h.split (r + 1)
      simp only [List.map_nil, List.nil_append, List.getElem?_cons_succ, List.getElem?_eq_getElem hr'] at this
      exact this
    obtain ⟨o', ho'⟩ := hσ.at_ _ _ _ hre
    have : i ≠ rest'[r].1 := (hσ.pair n _ i k rest'[r].1 rest'[r].2 o o' (by omega) hp hre ho ho').1
    rw [getD_set_ne false this]
    exact h.free _ (List.mem_cons_of_mem _ (List.getElem_mem hr'))
  · simp only [List.map_nil, List.append_nil, List.length_nil, Nat.add_zero] at hy
    rw [curS, dstAt_at hp ho, Lst_self h.lsize ho hp] at hy
    by_cases hdt : o.dst = some t
    · simp only [hdt, beq_self_eq_true, Bool.and_self, if_true, hv] at hy
      cases hy
      exact ⟨v, by simp [Act.put, hdt, h.size, dstIn_spec hd t hdt], hr⟩
    · have hne : (o.dst == some t) = false := by simpa using hdt
      simp only [hne, Bool.and_false, Bool.false_eq_true, if_false] at hy
      have e1 : curS (dstAt ops σ) (Vs ++ [x]) (Lst σ (listed.setIfInBounds i true)) env0 t n = curS (dstAt ops σ) Vs (Lst σ listed) env0 t n := curS_congr n fun q hq _ => ⟨Lst_set hσ hp (by omega), fun _ => hlow q hq⟩
      rw [e1] at hy
      obtain ⟨u, hu, hru⟩ := h.slots t y (by simpa using hy)
      refine ⟨u, ?_, hru.mono hx hn1⟩
      cases hod : o.dst with
      | none => simpa [Act.put] using hu
      | some d =>
        have : d ≠ t := fun e => hdt (by rw [hod, e])
        simp only [Act.put]
        rw [Array.getElem?_setIfInBounds_ne this]
        exact hu

end

section
variable {Q : Post} {env : Env} {st : St}

/-- ONE WALK ALONG THE PLAN FOR EVERY ORDER, effects among them. -/
theorem AC_plan {id : Nat} {l : List Oper} {σ : List (Nat × Nat)} (hm : P.follows .mixedOrders = true) (base : St) (hok : planOk l.toArray σ = true) (hb : ∀ q, q ∈ base → q ∈ st) (hq : AG P N l.toArray (Q .normal) base σ env st) : AC P N (.region id l.toArray true) Q env st := by
  have hσ := planOk_spec hok
  intro a0 w0 hg
  have hn := hg.rel.nodup
  have hdrew : Ext st w0 st { w0 with drawn := w0.drawn + 1 } := ⟨rfl, rfl, rfl, fun _ _ => rfl, Nat.le_refl _, fun _ _ _ => rfl, fun _ _ _ _ _ _ _ _ _ => rfl, fun _ _ _ h => h, fun _ _ _ _ => rfl⟩
  refine wp_region_any hm ?_
  generalize hops : l.toArray = ops at *
  have main : ∀ (m fuel n : Nat) (Vs : List AV) (base : St) (js : List (Nat × Nat × List Value)) (β : Nat → Nat) (rest : List (Nat × Nat)) (envc : Env) (st1 : St) (listed : Array Bool) (a : Act) (w1 : World),
      Inv P N ops (Q .normal) σ env st w0 n Vs base js β rest envc st1 listed a w1 → frees ops.size listed = fuel → 2 * rest.length + fuel + (if js = [] then 0 else 1) ≤ m → wpAny P .any ops (Sat N Q st w0) fuel listed a w1 := by
    intro m
    induction m using Nat.strongRecOn with
    | _ m ih =>
      intro fuel n Vs base js β rest envc st1 listed a w1 h hf hmle
      have lsome : ∀ i, i < ops.size → listed.getD i true = listed.getD i false := fun i hi => by
        have : i < listed.size := by rw [h.lsize]; exact hi
        simp [this]
      -- nothing is left
      have fin : (∀ i, i < ops.size → listed.getD i true = true) → js = [] → Sat N Q st w0 .normal a w1 := by
        intro hall hjs
        subst hjs
        cases rest with
        | nil =>
          have hag := h.ag β
          generalize hrr : ([] : List (Nat × Nat)) = rr at hag
          cases hag with
          | f => cases hrr
          | s => cases hrr
          | h => cases hrr
          | nil hQ =>
            refine ⟨envc, st1, hQ, ⟨h.size, h.defers, fun t x hx => ?_, h.rel⟩, h.ext⟩
            rw [h.env t] at hx
            refine h.slots t x ?_
            simp only [List.map_nil, List.append_nil, List.length_nil, Nat.add_zero]
            rw [← hx]
            refine curS_congr n fun q hq hqd => ⟨?_, fun _ => rfl⟩
            obtain ⟨i, k, o, hqi, ho, _⟩ := dstAt_some hqd
            have hi := (Array.getElem?_eq_some_iff.1 ho).1
            rw [Lst_at hqi, ← lsome i hi]
            exact hall i hi
          | al js' hne => exact absurd (by simpa using (List.append_eq_nil_iff.1 hrr.symm).1) hne
        | cons x rest' =>
          have hx := h.free x List.mem_cons_self
          have hp : σ[n]? = some (x.1, x.2) := by simpa using h.split 0
          obtain ⟨o, ho⟩ := hσ.at_ _ _ _ hp
          have hi := (Array.getElem?_eq_some_iff.1 ho).1
          rw [← lsome _ hi, hall _ hi] at hx
          cases hx
      by_cases hjs : js = []
      · subst hjs
        simp only [if_true, Nat.add_zero] at hmle
        -- what leaves the state is passed; new blocks are opened
        have open_ : (∀ i rest', rest ≠ (i, 0) :: rest') → (∀ i rest', rest ≠ (i, 3) :: rest') → wpAny P .any ops (Sat N Q st w0) fuel listed a w1 := by
          intro no0 no3
          have ready0 : Region.ready .any ops listed = [] → ∀ i, i < ops.size → listed.getD i true = true := by
            intro hr i hi
            induction i using Nat.strongRecOn with
            | _ i ihi =>
              cases hli : listed.getD i true with
              | true => rfl
              | false =>
                exfalso
                have hio : ops[i]? = some ops[i] := by simp [hi]
                have : i ∈ Region.ready .any ops listed := mem_ready.2 ⟨hli, ops[i], hio, fun e he hbd => by
                  have hlt := hσ.back i _ hio e he hbd
                  have := ihi e.on hlt (by omega)
                  rw [lsome _ (by omega)] at this
                  exact this⟩
                rw [hr] at this
                cases this
          cases fuel with
          | zero =>
            have hall := fun i hi => frees_zero hf i hi
            refine ⟨?_, fin hall rfl⟩
            rw [List.eq_nil_iff_forall_not_mem]
            intro j hj
            obtain ⟨hj1, o, ho, _⟩ := mem_ready.1 hj
            rw [hall j (Array.getElem?_eq_some_iff.1 ho).1] at hj1
            cases hj1
          | succ fuel =>
            refine ⟨fun hr => fin (ready0 hr) rfl, fun i hi => ?_⟩
            obtain ⟨hi1, o, ho, hall⟩ := mem_ready.1 hi
            have his : i < ops.size := (Array.getElem?_eq_some_iff.1 ho).1
            have hun : listed.getD i false = false := by rw [← lsome i his]; exact hi1
            obtain ⟨p, k, hp⟩ := hσ.has i his
            have hfr := frees_set his hi1
            unfold wpOp
            rw [ho]
            dsimp only
            rcases Nat.lt_or_ge p n with hpn | hpn
            · obtain ⟨o', V, env', h1, h2, h3, h4, h5⟩ := h.pend p i k hpn hp hun
              rw [ho] at h1; cases h1
              have hstep := h4 (doneSt [] β listed st1) (fun q hq => h.base q hq) a w1 (h.good_f hσ hpn hp ho hun hall h5) (fun a' w' => wpAny P .any ops (Sat N Q st w0) fuel (listed.setIfInBounds i true) a' w') (Sat N Q st w0) fun v w' hr hrel hx =>
                ih (m - 1) (by omega) fuel n Vs base [] β rest envc st1 _ _ _ (h.done_f hσ hn hpn hp ho hun hall h2 h3 hr hrel hx) (by omega) (by simp; omega)
              split
              · rename_i hw; rw [if_pos hw] at hstep; exact .inl hstep
              · rename_i hw; rw [if_neg hw] at hstep; exact hstep
            · have hpl : p < σ.length := (List.getElem?_eq_some_iff.1 hp).1
              obtain ⟨r, rfl⟩ : ∃ r, p = n + r := ⟨p - n, by omega⟩
              have hrest : rest[r]? = some (i, k) := by rw [← hp, h.split r]; simp
              cases rest with
              | nil => simp at hrest
              | cons x rest' =>
                obtain ⟨i1, k1⟩ := x
                have hp1 : σ[n]? = some (i1, k1) := by simpa using h.split 0
                obtain ⟨o1, ho1⟩ := hσ.at_ _ _ _ hp1
                have hun1 : listed.getD i1 false = false := h.free (i1, k1) List.mem_cons_self
                have hk1 : k1 = 1 ∨ k1 = 2 := by
                  have hag := h.ag β
                  generalize hrr : (i1, k1) :: rest' = rr at hag
                  cases hag with
                  | nil => cases hrr
                  | f => cases hrr; exact absurd rfl (no0 _ _)
                  | s => cases hrr; exact .inl rfl
                  | h => cases hrr; exact .inr rfl
                  | al js' hne => cases js' with
                    | nil => exact absurd rfl hne
                    | cons j js' =>
                      simp only [List.map_cons, List.cons_append, List.cons.injEq, Prod.mk.injEq] at hrr
                      obtain ⟨⟨rfl, rfl⟩, rfl⟩ := hrr
                      exact absurd rfl (no3 _ _)
                by_cases hr0 : r = 0
                · subst hr0
                  simp only [List.getElem?_cons_zero, Option.some.injEq, Prod.mk.injEq] at hrest
                  obtain ⟨rfl, rfl⟩ := hrest
                  have hag := h.ag β
                  have hgood := h.good_e hσ ho hall
                  generalize hrr : (i1, k1) :: rest' = rr at hag
                  cases hag with
                  | nil => cases hrr
                  | f => cases hrr; exact absurd rfl (no0 _ _)
                  | al js' hne => cases js' with
                    | nil => exact absurd rfl hne
                    | cons j js' =>
                      simp only [List.map_cons, List.cons_append, List.cons.injEq, Prod.mk.injEq] at hrr
                      omega
                  | @s _ _ _ i2 o2 K rest2 ho2 hgd hd hs hbk hag =>
                    cases hrr
                    rw [ho] at ho2; cases ho2
                    have hw : Region.wanted o (yielded ops a.tmps) = true := by simp [Region.wanted, hgd]
                    rw [if_pos hw]
                    refine .inl (hs a w1 hgood _ _ fun x st2 v w' hk hr hrel hx => ?_)
                    exact ih (m - 1) (by simp at hmle; omega) fuel (n + 1) (Vs ++ [x]) _ [] β _ _ _ _ _ _ (h.done_e hσ hn ho hd hall hr hrel hx (hbk x st2 hk) (.inl rfl) (hag x st2 hk)) (by omega) (by simp at hmle ⊢; omega)
                  | @h _ _ _ i2 o2 K rest2 ho2 hgd hd hs hag =>
                    cases hrr
                    rw [ho] at ho2; cases ho2
                    have hw : Region.wanted o (yielded ops a.tmps) = true := by simp [Region.wanted, hgd]
                    rw [if_pos hw]
                    refine .inl (hs a w1 hgood _ _ fun x st2 v w' hk hr hrel hx => ?_)
                    exact ih (m - 1) (by simp at hmle; omega) fuel (n + 1) (Vs ++ [x]) _ [] β _ _ _ _ _ _ (h.done_e hσ hn ho hd hall hr hrel hx (fun q hq => hq) (.inr rfl) (hag x st2 hk)) (by omega) (by simp at hmle ⊢; omega)
                · exfalso
                  have hbef := (hσ.pair n (n + r) i1 k1 i k o1 o (by omega) hp1 hp ho1 ho).2.2.1 hk1
                  have := h.closed.bef hbef ⟨o, ho, hall⟩
                  rw [hun1] at this
                  cases this
        cases rest with
        | nil => exact open_ (fun _ _ e => by cases e) (fun _ _ e => by cases e)
        | cons x rest' =>
          obtain ⟨i, k⟩ := x
          by_cases hk0 : k = 0
          · subst hk0
            obtain ⟨V, envc', h'⟩ := h.pass_f hσ
            simp only [List.length_cons] at hmle
            exact ih (m - 1) (by omega) fuel _ _ _ _ _ _ _ _ _ _ _ h' hf (by simp; omega)
          · by_cases hk3 : k = 3
            · subst hk3
              obtain ⟨js', rest'', hne, hlen, h'⟩ := h.pass_al
              simp only [List.length_cons] at hmle
              have : 0 < js'.length := List.length_pos_iff.2 hne
              exact ih (m - 1) (by omega) fuel _ _ _ _ _ _ _ _ _ _ _ h' hf (by rw [if_neg hne]; omega)
            · exact open_ (fun _ _ e => by cases e; exact hk0 rfl) (fun _ _ e => by cases e; exact hk3 rfl)
      · rw [if_neg hjs] at hmle
        by_cases hall : ∀ j, j ∈ js → listed.getD j.1 false = true
        · obtain ⟨Vs', envc', st', h'⟩ := h.settle hall
          exact ih (m - 1) (by omega) fuel _ _ _ _ _ _ _ _ _ _ _ h' hf (by simp; omega)
        · obtain ⟨j0, hj0, hl0⟩ : ∃ j, j ∈ js ∧ listed.getD j.1 false = false := Classical.byContradiction fun hh => hall fun j hj => by
            cases hl : listed.getD j.1 false with
            | true => rfl
            | false => exact absurd ⟨j, hj, hl⟩ hh
          obtain ⟨r0, hr0, rfl⟩ := List.getElem_of_mem hj0
          obtain ⟨o0, ho0, _⟩ := (h.jok _ hj0).at_
          have hj0s : js[r0].1 < ops.size := (Array.getElem?_eq_some_iff.1 ho0).1
          have hp0 := h.js_at hr0
          have notfin : ¬ ∀ i, i < ops.size → listed.getD i true = true := fun hh => by
            have := hh _ hj0s
            rw [lsome _ hj0s, hl0] at this
            cases this
          have ready0 : Region.ready .any ops listed ≠ [] := fun hr => notfin fun i hi => by
            induction i using Nat.strongRecOn with
            | _ i ihi =>
              cases hli : listed.getD i true with
              | true => rfl
              | false =>
                exfalso
                have hio : ops[i]? = some ops[i] := by simp [hi]
                have : i ∈ Region.ready .any ops listed := mem_ready.2 ⟨hli, ops[i], hio, fun e he hbd => by
                  have hlt := hσ.back i _ hio e he hbd
                  have := ihi e.on hlt (by omega)
                  rw [lsome _ (by omega)] at this
                  exact this⟩
                rw [hr] at this
                cases this
          cases fuel with
          | zero => exact absurd (fun i hi => frees_zero hf i hi) notfin
          | succ fuel =>
            refine ⟨fun hr => absurd hr ready0, fun i hi => ?_⟩
            obtain ⟨hi1, o, ho, hall⟩ := mem_ready.1 hi
            have his : i < ops.size := (Array.getElem?_eq_some_iff.1 ho).1
            have hun : listed.getD i false = false := by rw [← lsome i his]; exact hi1
            obtain ⟨p, k, hp⟩ := hσ.has i his
            have hfr := frees_set his hi1
            unfold wpOp
            rw [ho]
            dsimp only
            rcases Nat.lt_or_ge p n with hpn | hpn
            · obtain ⟨o', V, env', h1, h2, h3, h4, h5⟩ := h.pend p i k hpn hp hun
              rw [ho] at h1; cases h1
              have hstep := h4 (doneSt js β listed st1) (fun q hq => List.mem_append_right _ (h.base q hq)) a w1 (h.good_f hσ hpn hp ho hun hall h5) (fun a' w' => wpAny P .any ops (Sat N Q st w0) fuel (listed.setIfInBounds i true) a' w') (Sat N Q st w0) fun v w' hr hrel hx =>
                ih (m - 1) (by omega) fuel n Vs base js β rest envc st1 _ _ _ (h.done_f hσ hn hpn hp ho hun hall h2 h3 hr hrel hx) (by omega) (by rw [if_neg hjs]; omega)
              split
              · rename_i hw; rw [if_pos hw] at hstep; exact .inl hstep
              · rename_i hw; rw [if_neg hw] at hstep; exact hstep
            · obtain ⟨r, rfl⟩ : ∃ r, p = n + r := ⟨p - n, by omega⟩
              rcases Nat.lt_or_ge r js.length with hr | hr
              · have hp' := h.js_at hr
                rw [hp'] at hp
                obtain ⟨o', ho', hgd, hod, htN, hstep⟩ := (h.jok js[r] (List.getElem_mem hr)).at_
                cases hp
                rw [ho] at ho'; cases ho'
                have hw : Region.wanted o (yielded ops a.tmps) = true := by simp [Region.wanted, hgd]
                rw [if_pos hw]
                refine .inl (hstep [] (doneSt js β listed st1) a w1 ⟨h.size, h.defers, fun t x hx => by simp at hx, h.rel⟩ _ _ ?_)
                rintro x st2 v w' ⟨b, rfl, rfl⟩ hr' hrel hx
                exact ih (m - 1) (by omega) fuel n Vs base js _ rest envc st1 _ _ _ (h.done_al hσ hn hr ho hod htN hun hall hr' hrel hx) (by omega) (by rw [if_neg hjs]; omega)
              · exfalso
                have h3 := (hσ.pair (n + r0) (n + r) _ _ i k o0 o (by omega) hp0 hp ho0 ho).2.2.2.2 rfl
                rcases h3 with h3 | h3
                · have := h.closed.bef h3 ⟨o, ho, hall⟩
                  rw [hl0] at this
                  cases this
                · have := h3 (n + js.length) (by omega) (by omega)
                  have e := h.rest_at 0
                  rw [Nat.add_zero] at e
                  rw [e] at this
                  exact h.head hjs (by rw [List.head?_eq_getElem?]; exact this)
  have hrel : Rel st { w0 with drawn := w0.drawn + 1 } := ⟨hn, fun b cs hbm => let ⟨vs, T, k1, k2, k3⟩ := hg.rel.cells b cs hbm; ⟨vs, T, k1, k2, fun i c v hc hv => (k3 i c v hc hv).mono hdrew hn⟩, hg.rel.grow, hg.rel.konst⟩
  refine main _ ops.size 0 [] base [] (fun _ => 0) σ env st (Array.replicate ops.size false) a0 _ ⟨fun r => by simp, by simp, rfl, fun p i k hp => by omega, fun t => rfl, fun x _ => rep_false _ _, by simp, fun j hj => by simp at hj, fun _ => hq, fun e => absurd rfl e, hb, hg.size, hg.defers, by simp, ?_, hrel, hdrew, fun t x hx => ?_⟩ ?_ (Nat.le_refl _)
  · intro i o ho hi
    rw [rep_false] at hi
    cases hi
  · obtain ⟨v, hv, hr⟩ := hg.env t x hx
    exact ⟨v, hv, hr.mono hdrew hn⟩
  · unfold frees
    rw [List.filter_eq_self.2 fun i hi => by have := List.mem_range.1 hi; simp [this]]
    simp
end

end Go.AL

namespace Go.AL
open Go.RowKit

section
variable {P : Program} {N : Nat} {env : Env} {st : St} {o : Oper}

/-! By membership -/
theorem S_loadM {t : TypeId} {x : Operand} {b off : Nat} {cs : List AV} {c : AV} (ho : o.op = .load t x) (hx : AEv env x (.ptr b off)) (hst : (b, Ob.cells cs) ∈ st) (hc : cs[off]? = some c) (ht : flatT P t = true) : PStep P N o env st c := by
  obtain ⟨n, hn⟩ := List.mem_iff_getElem?.1 hst
  exact S_load n ho hx hn hc ht
theorem S_loadNM {t : TypeId} {x : Operand} {b off m : Nat} {cs : List AV} (ho : o.op = .load t x) (hx : AEv env x (.ptr b off)) (hst : (b, Ob.cells cs) ∈ st) (ht : rowT P t m = true) (hm : off + m ≤ cs.length) : PStep P N o env st (.agg ((cs.drop off).take m)) := by
  obtain ⟨n, hn⟩ := List.mem_iff_getElem?.1 hst
  exact S_loadN n ho hx hn ht hm

/-! Cells put over others -/
def putAt (cs : List AV) (off : Nat) (ds : List AV) : List AV := cs.take off ++ (ds ++ cs.drop (off + ds.length))
theorem putAt_len {cs ds : List AV} {off : Nat} (h : off + ds.length ≤ cs.length) : (putAt cs off ds).length = cs.length := by simp [putAt]; omega
theorem putAt_at {cs ds : List AV} {off i : Nat} (h : off + ds.length ≤ cs.length) : (putAt cs off ds)[i]? = if off ≤ i ∧ i < off + ds.length then ds[i - off]? else cs[i]? := by
  unfold putAt
  have hl : (cs.take off).length = off := by simp; omega
  rcases Nat.lt_or_ge i off with h1 | h1
  · rw [List.getElem?_append_left (by omega), if_neg (by omega), List.getElem?_take_of_lt h1]
  · rw [List.getElem?_append_right (by omega), hl]
    rcases Nat.lt_or_ge i (off + ds.length) with h2 | h2
    · rw [List.getElem?_append_left (by omega), if_pos ⟨h1, h2⟩]
    · rw [List.getElem?_append_right (by omega), if_neg (by omega), List.getElem?_drop]
      congr 1
      omega

theorem setCells_heap (b : Nat) {fz : Nat × Nat} : ∀ (us : List Value) (off : Nat) (w : World) (vs : Array Value) (T : TypeId), w.heap[b]? = some (.cells vs T fz) → off + us.length ≤ vs.size →
    (∃ vs', (w.setCells b off us).heap[b]? = some (.cells vs' T fz) ∧ vs'.size = vs.size ∧ ∀ i : Nat, vs'[i]? = if off ≤ i ∧ i < off + us.length then us[i - off]? else vs[i]?) ∧
      (∀ b', b' ≠ b → (w.setCells b off us).heap[b']? = w.heap[b']?) ∧ (w.setCells b off us).heap.size = w.heap.size ∧ (w.setCells b off us).os = w.os ∧ (w.setCells b off us).tape = w.tape ∧ (w.setCells b off us).output = w.output
  | [], off, w, vs, T, h, hl => ⟨⟨vs, h, rfl, fun i => by rw [if_neg (by simp only [List.length_nil]; omega)]⟩, fun _ _ => rfl, rfl, rfl, rfl, rfl⟩
  | v :: us, off, w, vs, T, h, hl => by
    simp only [List.length_cons] at hl
    have h1 : (w.setCell ⟨b, off, none⟩ v).heap[b]? = some (.cells (vs.setIfInBounds off v) T fz) := by simp [World.setCell, Array.getElem?_modify, h]
    obtain ⟨⟨vs', k1, k2, k3⟩, k4, k5, k6, k7, k8⟩ := setCells_heap b us (off + 1) (w.setCell ⟨b, off, none⟩ v) _ T h1 (by simp; omega)
    refine ⟨⟨vs', k1, by simpa using k2, fun i => ?_⟩, fun b' hb' => ?_, ?_, k6, k7, k8⟩
    · rw [k3 i]
      by_cases hi : i = off
      · subst hi
        rw [if_neg (by omega), if_pos (by simp)]
        have : i < vs.size := by omega
        simp [this]
      · rcases Nat.lt_or_ge i off with h2 | h2
        · rw [if_neg (by omega), if_neg (by omega), Array.getElem?_setIfInBounds_ne (Ne.symm hi)]
        · rcases Nat.lt_or_ge i (off + 1 + us.length) with h3 | h3
          · rw [if_pos ⟨by omega, h3⟩, if_pos ⟨by omega, by simp; omega⟩]
            rw [show i - off = (i - (off + 1)) + 1 by omega, List.getElem?_cons_succ]
          · rw [if_neg (by omega), if_neg (by simp; omega), Array.getElem?_setIfInBounds_ne (Ne.symm hi)]
    · rw [show (w.setCells b off (v :: us)) = (w.setCell ⟨b, off, none⟩ v).setCells b (off + 1) us from rfl, k4 b' hb']
      simp only [World.setCell, Array.getElem?_modify]
      rw [if_neg (Ne.symm hb')]
    · rw [show (w.setCells b off (v :: us)) = (w.setCell ⟨b, off, none⟩ v).setCells b (off + 1) us from rfl, k5]
      simp [World.setCell]

theorem agg_inv {cs : List AV} {w : World} {v : Value} (h : R st w (.agg cs) v) : ∃ vs, v = .agg vs ∧ cs.length = vs.size ∧ ∀ (i : Nat) c u, cs[i]? = some c → vs[i]? = some u → R st w c u := by
  cases h with
  | agg _ vs hn h => exact ⟨vs, rfl, hn, h⟩

/-- A row of cells goes into a variable. -/
theorem S_storeN {t : TypeId} {x y : Operand} {b off : Nat} {cs ds : List AV} (n : Nat) (ho : o.op = .store t x y) (hx : AEv env x (.ptr b off)) (hy : AEv env y (.agg ds)) (hst : st[n]? = some (b, .cells cs)) (hoff : off + ds.length ≤ cs.length) (hone : ds.all AV.one = true)
    (hi : (P.info? t).map (·.size) = some ds.length) : Step P N o env st fun x st' => x = .any ∧ st' = st.set n (b, .cells (putAt cs off ds)) := by
  intro a w hg next Q hn
  have e := eval_ptr hx hg
  obtain ⟨us, e2, hus, hur⟩ := agg_inv (hy _ _ _ _ hg)
  obtain ⟨vs, T, k1, k2, k3⟩ := hg.rel.cells b cs (mem_at hst)
  have h1 : us.all (·.oneCell') = true := Array.all_eq_true_iff_forall_mem.2 fun u hu => by
    obtain ⟨i, hi', rfl⟩ := Array.getElem_of_mem hu
    have hd : i < ds.length := by omega
    exact (hur i ds[i] us[i] (List.getElem?_eq_getElem hd) (by simp [hi'])).one (List.all_eq_true.1 hone _ (List.getElem_mem hd))
  have hthere : w.there b off us.size := fun j hj => ⟨by simp [World.cell?, k1]; omega, by simp [World.frozen?, k1]⟩
  obtain ⟨⟨vs', j1, j2, j3⟩, j4, j5, j6, j7, j8⟩ := setCells_heap b us.toList off w vs T k1 (by simp; omega)
  have hrun : (execOp a.eval o).run P w = .ok .skip (w.setCells b off us.toList) := by
    have := run_storeAt_mid (P := P) w b off t us hthere (by rw [hi, hus]) h1
    simp only [execOp, ho, e, e2, Sem.run_bind, this, Result.andThen_ok, Sem.run_pure]
  unfold Oper.wp
  rw [hrun]
  have hw := write_rel hg.rel (w' := w.setCells b off us.toList) (cs' := putAt cs off ds) (vs' := vs') (T := T) hst ⟨vs, k1, j2.symm⟩ j1 j4 j5 j6 j7 j8 (by rw [j2, k2, putAt_len hoff]) (fun i d v hd hv => by
    rw [putAt_at hoff] at hd
    rw [j3 i] at hv
    simp only [Array.length_toList, ← hus] at hv
    by_cases hc : off ≤ i ∧ i < off + ds.length
    · rw [if_pos hc] at hd hv
      exact hur _ d v hd (by simpa using hv)
    · rw [if_neg hc] at hd hv
      exact k3 i d v hd hv)
  exact hn .any _ undef _ ⟨rfl, rfl⟩ (.any _) hw.1 hw.2

/-! Parts -/
theorem run_part_flat {t : TypeId} {cs : Array Value} {k : Nat} {v : Value} (w : World) (ht : flatT P t = true) (hv : cs[k]? = some v) : (part t cs k).run P w = .ok v w := by
  obtain ⟨d, hu, hd⟩ := flatT_spec ht
  simp [part, run_isAgg' hu hd, hv]
theorem run_part_row {t : TypeId} {cs : Array Value} {k m : Nat} (w : World) (ht : rowT P t m = true) : (part t cs k).run P w = .ok (.agg (cs.extract k (k + m))) w := by
  obtain ⟨d, hu, hd, hi⟩ := rowT_spec ht
  cases hq : P.info? t with
  | none => simp [hq] at hi
  | some q =>
    have : q.size = m := by simpa [hq] using hi
    have hag : (isAgg t).run P w = .ok true w := by
      simp only [isAgg, Sem.run_bind, run_underlying hu, Result.andThen_ok]
      cases d <;> first | rfl | (simp [TypeDesc.isRow] at hd)
    simp [part, hag, sizeOf, typeInfo, hq, this]

/-! Building -/
def fillA (place : Nat → Option (Nat × Nat)) (cells : List AV) : List (Nat × AV) → Option (List AV)
  | [] => some cells
  | (i, y) :: rest => match place i with
    | none => none
    | some (off, size) => if y.flat && y.cells.length == size && decide (off + size ≤ cells.length) then fillA place (putAt cells off y.cells) rest else none

theorem foldl_set (us : Array Value) (off : Nat) (cells : Array Value) (h : off + us.size ≤ cells.size) :
    (us.zipIdx.foldl (fun cs (c, j) => cs.setIfInBounds (off + j) c) cells).size = cells.size ∧ ∀ i : Nat, (us.zipIdx.foldl (fun cs (c, j) => cs.setIfInBounds (off + j) c) cells)[i]? = if off ≤ i ∧ i < off + us.size then us[i - off]? else cells[i]? := by
  have key : ∀ (l : List Value) (k : Nat) (cells : Array Value), off + k + l.length ≤ cells.size → ((l.zipIdx k).foldl (fun cs (x : Value × Nat) => cs.setIfInBounds (off + x.2) x.1) cells).size = cells.size ∧
      ∀ i : Nat, ((l.zipIdx k).foldl (fun cs (x : Value × Nat) => cs.setIfInBounds (off + x.2) x.1) cells)[i]? = if off + k ≤ i ∧ i < off + k + l.length then l[i - (off + k)]? else cells[i]? := by
    intro l
    induction l with
    | nil => intro k cells _; exact ⟨rfl, fun i => by rw [if_neg (by simp only [List.length_nil]; omega)]; rfl⟩
    | cons v l ih =>
      intro k cells h
      simp only [List.length_cons] at h
      obtain ⟨h1, h2⟩ := ih (k + 1) (cells.setIfInBounds (off + k) v) (by simp; omega)
      rw [List.zipIdx_cons, List.foldl_cons]
      refine ⟨by rw [h1]; simp, fun i => ?_⟩
      rw [h2 i]
      by_cases hi : i = off + k
      · subst hi
        rw [if_neg (by omega), if_pos (by simp)]
        have : off + k < cells.size := by omega
        simp [this]
      · rcases Nat.lt_or_ge i (off + k) with h3 | h3
        · rw [if_neg (by omega), if_neg (by omega), Array.getElem?_setIfInBounds_ne (Ne.symm hi)]
        · rcases Nat.lt_or_ge i (off + (k + 1) + l.length) with h4 | h4
          · rw [if_pos ⟨by omega, h4⟩, if_pos ⟨by omega, by simp; omega⟩, show i - (off + k) = (i - (off + (k + 1))) + 1 by omega, List.getElem?_cons_succ]
          · rw [if_neg (by omega), if_neg (by simp; omega), Array.getElem?_setIfInBounds_ne (Ne.symm hi)]
  have := key us.toList 0 cells (by simpa using h)
  rw [← Array.foldl_toList, Array.toList_zipIdx]
  simpa using this

theorem fill_R {w : World} {place : Nat → Option (Nat × Nat)} : ∀ (ps : List (Nat × AV)) (vs : List Value) (cells cells' : List AV) (us : Array Value), ps.length = vs.length → (∀ (i : Nat) p v, ps[i]? = some p → vs[i]? = some v → R st w p.2 v) →
    cells.length = us.size → (∀ (i : Nat) c u, cells[i]? = some c → us[i]? = some u → R st w c u) → fillA place cells ps = some cells' →
    ∃ us', Instr.fill place us ((ps.map (·.1)).zip vs) = some us' ∧ cells'.length = us'.size ∧ ∀ (i : Nat) c u, cells'[i]? = some c → us'[i]? = some u → R st w c u
  | [], vs, cells, cells', us, hl, _, hn, hr, h => by
    simp only [fillA, Option.some.injEq] at h
    subst h
    exact ⟨us, by simp [Instr.fill], hn, hr⟩
  | (i, y) :: ps, [], _, _, _, hl, _, _, _, _ => by simp at hl
  | (i, y) :: ps, v :: vs, cells, cells', us, hl, hp, hn, hr, h => by
    rw [fillA] at h
    cases hpl : place i with
    | none => simp [hpl] at h
    | some q =>
      obtain ⟨off, size⟩ := q
      simp only [hpl] at h
      split at h
      · rename_i hc
        simp only [Bool.and_eq_true, beq_iff_eq, decide_eq_true_eq] at hc
        obtain ⟨⟨c1, c2⟩, c3⟩ := hc
        obtain ⟨d1, d2⟩ := (hp 0 (i, y) v (by simp) (by simp)).cells c1
        dsimp only at d1 d2
        obtain ⟨f1, f2⟩ := foldl_set v.cells off us (by omega)
        have hle : off + y.cells.length ≤ cells.length := by omega
        obtain ⟨us', g1, g2, g3⟩ := fill_R ps vs (putAt cells off y.cells) cells' (v.cells.zipIdx.foldl (fun cs (c, j) => cs.setIfInBounds (off + j) c) us) (by simpa using hl) (fun k p u h1 h2 => hp (k + 1) p u (by simpa using h1) (by simpa using h2)) (by rw [putAt_len hle, f1, hn]) (fun k c u h1 h2 => by
          rw [putAt_at hle] at h1
          rw [f2 k, d1] at h2
          by_cases hk : off ≤ k ∧ k < off + y.cells.length
          · rw [if_pos hk] at h1 h2; exact d2 _ c u h1 h2
          · rw [if_neg hk] at h1 h2; exact hr _ c u h1 h2) h
        refine ⟨us', ?_, g2, g3⟩
        simp only [List.map_cons, List.zip_cons_cons, Instr.fill, hpl]
        rw [if_neg (by simp only [ne_eq, gt_iff_lt, Bool.or_eq_true, decide_eq_true_eq, not_or, Decidable.not_not, Nat.not_lt]; exact ⟨by omega, by omega⟩)]
        exact g1
      · cases h

/-- The places and the zero of what is built. -/
def builtT (P : Program) (t : TypeId) : Option (List (Nat × Nat) × List Value) := match P.info? t, P.underlying t with
  | some it, some (.array n e) => match it.zero, P.info? e with
    | some z, some ie => some ((List.range n).map (fun i => (i * ie.size, ie.size)), z.cells.toList)
    | _, _ => none
  | some it, some (.struct fields) => match it.zero, fields.toList.mapM (fun f => (P.info? f.type).map fun i => (f.offset, i.size)) with
    | some z, some places => some (places, z.cells.toList)
    | _, _ => none
  | _, _ => none
theorem fill_place {p q : Nat → Option (Nat × Nat)} (hpq : ∀ i x, p i = some x → q i = some x) : ∀ (ps : List (Nat × Value)) (us us' : Array Value), Instr.fill p us ps = some us' → Instr.fill q us ps = some us'
  | [], us, us', h => by simpa [Instr.fill] using h
  | (i, v) :: ps, us, us', h => by
    rw [Instr.fill] at h ⊢
    cases hp : p i with
    | none => simp [hp] at h
    | some x =>
      rw [hp] at h
      rw [hpq i x hp]
      dsimp only at h ⊢
      split at h
      · cases h
      · rename_i hc
        rw [if_neg hc]
        exact fill_place hpq ps _ _ h
theorem built_of {t : TypeId} {pl : List (Nat × Nat)} {zs : List Value} {parts : List (Nat × Value)} {us : Array Value} (h : builtT P t = some (pl, zs)) (hf : Instr.fill (fun i => pl[i]?) zs.toArray parts = some us) : P.built t parts = some us := by
  unfold builtT at h
  unfold Program.built
  cases hit : P.info? t with
  | none => simp [hit] at h
  | some it =>
    cases hu : P.underlying t with
    | none => simp [hit, hu] at h
    | some d =>
      cases d <;> simp [hit, hu] at h <;> dsimp only
      · cases hz : it.zero with
        | none => simp [hz] at h
        | some z =>
          rename_i n e
          cases he : P.info? e with
          | none => simp [hz, he] at h
          | some ie =>
            simp [hz, he] at h
            obtain ⟨rfl, rfl⟩ := h
            dsimp only
            refine fill_place (fun i x hx => ?_) _ _ _ (by simpa using hf)
            simp only [List.getElem?_map, Option.map_eq_some_iff] at hx
            obtain ⟨a, ha, rfl⟩ := hx
            have hlt : i < n := by have := (List.getElem?_eq_some_iff.1 ha).1; simpa using this
            rw [List.getElem?_range hlt] at ha
            cases ha
            rfl
      · cases hz : it.zero with
        | none => simp [hz] at h
        | some z =>
          rename_i fields
          cases he : fields.toList.mapM (fun f => (P.info? f.type).map fun i => (f.offset, i.size)) with
          | none => simp [hz, he] at h
          | some places =>
            simp [hz, he] at h
            obtain ⟨rfl, rfl⟩ := h
            simpa using hf

theorem S_build {t : TypeId} {parts : List (Nat × Operand)} {ys cells : List AV} {pl : List (Nat × Nat)} {zs : List Value} (ho : o.op = .build t parts.toArray) (hxs : AEvs env (parts.map (·.2)) ys) (hb : builtT P t = some (pl, zs))
    (hf : fillA (fun i => pl[i]?) (zs.map .lit) ((parts.map (·.1)).zip ys) = some cells) : PStep P N o env st (.agg cells) :=
  .of_val fun a w hg => by
    obtain ⟨hl, hr⟩ := hxs.at_ hg
    simp only [List.length_map] at hl
    have h1 : ((parts.map (·.1)).zip ys).map (·.1) = parts.map (·.1) := by rw [List.map_fst_zip (by simp; omega)]
    obtain ⟨us, k1, k2, k3⟩ := fill_R (place := fun i => pl[i]?) (st := st) (w := w) ((parts.map (·.1)).zip ys) (parts.map fun p => a.eval p.2) (zs.map .lit) cells zs.toArray (by simp; omega) (fun i p v hp hv => by
      rw [List.getElem?_zip_eq_some] at hp
      rw [List.getElem?_map] at hv
      cases hq : parts[i]? with
      | none => simp [hq] at hv
      | some q =>
        simp [hq] at hv
        subst hv
        exact hr i p.2 q.2 hp.2 (by simp [hq])) (by simp) (fun i c u hc hu => by
      simp only [List.getElem?_map, Option.map_eq_some_iff] at hc
      obtain ⟨z, hz, rfl⟩ := hc
      simp only [List.getElem?_toArray] at hu
      rw [hz] at hu
      cases hu
      exact .lit _) hf
    refine ⟨.agg us, ?_, .agg _ _ k2 k3⟩
    rw [h1] at k1
    have e : (parts.map (·.1)).zip (parts.map fun p => a.eval p.2) = parts.map fun p => (p.1, a.eval p.2) := by
      rw [List.zip_map', ]
    rw [e] at k1
    have := run_build (P := P) w t ((parts.map fun p => (p.1, a.eval p.2)).toArray) us (built_of hb (by simpa using k1))
    simp only [execOp, ho, Sem.run_bind, List.map_toArray]
    rw [this]
    simp

/-! Comparing -/
/-- Two values of a type compare so, whatever the world. -/
def EqAV (P : Program) (d : Nat) (t : TypeId) (x y : AV) (r : Bool) : Prop := ∀ st w u v, R st w x u → R st w y v → (Op.equalIn d t u v).run P w = .ok r w
theorem EqAV.int {d : Nat} {t : TypeId} {k k' : IntKind} {a b : Int} (h : P.underlying t = some (.int k')) : EqAV P (d + 1) t (.int k a) (.int k b) (decide (a = b)) := fun st w u v hu hv => by
  rw [hu.lit_inv, hv.lit_inv, run_equalIn_int w d t k k' a b h]
  rfl
theorem EqAV.bool {d : Nat} {t : TypeId} {a b : Bool} (h : P.underlying t = some .bool) : EqAV P (d + 1) t (.bool a) (.bool b) (a == b) := fun st w u v hu hv => by
  rw [hu.lit_inv, hv.lit_inv, run_equalIn_bool' w d t a b h]
theorem EqAV.S {d : Nat} {t : TypeId} {a b : List UInt8} (h : P.underlying t = some .string) : EqAV P (d + 1) t (.S a) (.S b) (decide (a = b)) := fun st w u v hu hv => by
  rw [hu.lit_inv, hv.lit_inv, run_equalIn_string w d t _ _ h, toList_S, toList_S]
  congr 1
  by_cases e : a = b <;> simp [e]

/-- Fields, one by one. -/
inductive EqFs (P : Program) (d : Nat) (xs ys : List AV) : List Field → Bool → Prop
  | nil : EqFs P d xs ys [] true
  | flat {f : Field} {fs : List Field} {x y : AV} {r s : Bool} (hn : (f.name == "_") = false) (ht : flatT P f.type = true) (hx : xs[f.offset]? = some x) (hy : ys[f.offset]? = some y) (he : EqAV P d f.type x y r) (h : EqFs P d xs ys fs s) : EqFs P d xs ys (f :: fs) (r && s)
  | row {f : Field} {fs : List Field} {m : Nat} {r s : Bool} (hn : (f.name == "_") = false) (ht : rowT P f.type m = true) (hx : f.offset + m ≤ xs.length) (hy : f.offset + m ≤ ys.length) (he : EqAV P d f.type (.agg ((xs.drop f.offset).take m)) (.agg ((ys.drop f.offset).take m)) r) (h : EqFs P d xs ys fs s) : EqFs P d xs ys (f :: fs) (r && s)

theorem R_extract {w : World} {cs : List AV} {vs : Array Value} {k m : Nat} (hn : cs.length = vs.size) (hr : ∀ (i : Nat) c v, cs[i]? = some c → vs[i]? = some v → R st w c v) (hm : k + m ≤ cs.length) : R st w (.agg ((cs.drop k).take m)) (.agg (vs.extract k (k + m))) := by
  refine .agg _ _ (by simp; omega) fun j c v hc hv => ?_
  have hj : j < m := by have := (List.getElem?_eq_some_iff.1 hc).1; simp at this; omega
  rw [List.getElem?_take_of_lt hj, List.getElem?_drop] at hc
  refine hr _ c v hc ?_
  rw [Array.getElem?_extract] at hv
  split at hv
  · exact hv
  · cases hv

theorem EqFs.run {d : Nat} {xs ys : List AV} {us vs : Array Value} {w : World} (hxn : xs.length = us.size) (hxr : ∀ (i : Nat) c v, xs[i]? = some c → us[i]? = some v → R st w c v) (hyn : ys.length = vs.size) (hyr : ∀ (i : Nat) c v, ys[i]? = some c → vs[i]? = some v → R st w c v) {fs : List Field} {r : Bool} (h : EqFs P d xs ys fs r) :
    (Op.eqFields d us vs fs).run P w = .ok r w := by
  induction h with
  | nil => simp [Op.eqFields]
  | @flat f fs x y r s hn ht hx hy he h ih =>
    have hn' : f.name ≠ "_" := by simpa using hn
    have h1 : f.offset < us.size := by have := (List.getElem?_eq_some_iff.1 hx).1; omega
    have h2 : f.offset < vs.size := by have := (List.getElem?_eq_some_iff.1 hy).1; omega
    have e1 := run_part_flat (P := P) (t := f.type) w ht (show us[f.offset]? = some us[f.offset] by simp [h1])
    have e2 := run_part_flat (P := P) (t := f.type) w ht (show vs[f.offset]? = some vs[f.offset] by simp [h2])
    have e3 := he st w _ _ (hxr _ _ _ hx (show us[f.offset]? = some us[f.offset] by simp [h1])) (hyr _ _ _ hy (show vs[f.offset]? = some vs[f.offset] by simp [h2]))
    rw [Op.eqFields]
    simp only [if_pos hn', Sem.run_bind, e1, e2, e3, Result.andThen_ok]
    cases r
    · simp
    · simpa using ih
  | @row f fs m r s hn ht hx hy he h ih =>
    have hn' : f.name ≠ "_" := by simpa using hn
    have e1 := run_part_row (P := P) (t := f.type) (cs := us) (k := f.offset) w ht
    have e2 := run_part_row (P := P) (t := f.type) (cs := vs) (k := f.offset) w ht
    have e3 := he st w _ _ (R_extract hxn hxr hx) (R_extract hyn hyr hy)
    rw [Op.eqFields]
    simp only [if_pos hn', Sem.run_bind, e1, e2, e3, Result.andThen_ok]
    cases r
    · simp
    · simpa using ih
theorem EqAV.struct {d : Nat} {t : TypeId} {fs : List Field} {xs ys : List AV} {r : Bool} (hu : P.underlying t = some (.struct fs.toArray)) (hp : P.stoodInHeld t = false) (h : EqFs P d xs ys fs r) : EqAV P (d + 1) t (.agg xs) (.agg ys) r := fun st w u v hu' hv' => by
  obtain ⟨us, rfl, h1, h2⟩ := agg_inv hu'
  obtain ⟨vs, rfl, h3, h4⟩ := agg_inv hv'
  have hf : P.fieldsOf t = fs.toArray := by simp [Program.fieldsOf, hu]
  rw [run_equalIn_struct w d t us vs (by rw [hf]; exact hu) hp, hf]
  exact h.run h1 h2 h3 h4
/-- Items, one by one. -/
inductive EqIs (P : Program) (d e m : Nat) (xs ys : List AV) : List Nat → Bool → Prop
  | nil : EqIs P d e m xs ys [] true
  | flat {i : Nat} {is : List Nat} {x y : AV} {r s : Bool} (ht : flatT P e = true) (hx : xs[i * m]? = some x) (hy : ys[i * m]? = some y) (he : EqAV P d e x y r) (h : EqIs P d e m xs ys is s) : EqIs P d e m xs ys (i :: is) (r && s)
theorem EqIs.run {d e m : Nat} {xs ys : List AV} {us vs : Array Value} {w : World} (hxn : xs.length = us.size) (hxr : ∀ (i : Nat) c v, xs[i]? = some c → us[i]? = some v → R st w c v) (hyn : ys.length = vs.size) (hyr : ∀ (i : Nat) c v, ys[i]? = some c → vs[i]? = some v → R st w c v) {is : List Nat} {r : Bool} (h : EqIs P d e m xs ys is r) :
    (Op.eqItems d e m us vs is).run P w = .ok r w := by
  induction h with
  | nil => simp [Op.eqItems]
  | @flat i is x y r s ht hx hy he h ih =>
    have h1 : i * m < us.size := by have := (List.getElem?_eq_some_iff.1 hx).1; omega
    have h2 : i * m < vs.size := by have := (List.getElem?_eq_some_iff.1 hy).1; omega
    have e1 := run_part_flat (P := P) (t := e) w ht (show us[i * m]? = some us[i * m] by simp [h1])
    have e2 := run_part_flat (P := P) (t := e) w ht (show vs[i * m]? = some vs[i * m] by simp [h2])
    have e3 := he st w _ _ (hxr _ _ _ hx (show us[i * m]? = some us[i * m] by simp [h1])) (hyr _ _ _ hy (show vs[i * m]? = some vs[i * m] by simp [h2]))
    rw [Op.eqItems]
    simp only [Sem.run_bind, e1, e2, e3, Result.andThen_ok]
    cases r
    · simp
    · simpa using ih
theorem EqAV.array {d n : Nat} {t e m : Nat} {xs ys : List AV} {r : Bool} (hu : P.underlying t = some (.array n e)) (hi : (P.info? e).isSome = true) (hm : P.cellsOf e = m) (h : EqIs P d e m xs ys (List.range n) r) : EqAV P (d + 1) t (.agg xs) (.agg ys) r := fun st w u v hu' hv' => by
  obtain ⟨us, rfl, h1, h2⟩ := agg_inv hu'
  obtain ⟨vs, rfl, h3, h4⟩ := agg_inv hv'
  obtain ⟨i, hi⟩ := Option.isSome_iff_exists.1 hi
  rw [run_equalIn_array w d us vs hu hi, hm]
  exact h.run h1 h2 h3 h4

theorem S_eqlAgg {t t2 : TypeId} {x y : Operand} {xs ys : List AV} {r : Bool} (ho : o.op = .binOp .eql t x y t2) (hx : AEv env x (.agg xs)) (hy : AEv env y (.agg ys)) (hg : P.eqGuardType P.depth t = false) (he : EqAV P Op.maxDepth t (.agg xs) (.agg ys) r) : PStep P N o env st (.bool r) :=
  .of_val fun a w hgd => by
    have r1 := hx _ _ _ _ hgd
    have r2 := hy _ _ _ _ hgd
    have h3 := he st w _ _ r1 r2
    obtain ⟨us, e1, _⟩ := agg_inv r1
    obtain ⟨vs, e2, _⟩ := agg_inv r2
    rw [e1, e2] at h3
    have h4 := run_eqGuard_agg (P := P) w .eql t x y us vs hg
    refine ⟨.bool r, ?_, .lit _⟩
    simp only [execOp, ho, e1, e2, Sem.run_bind, h4, Result.andThen_ok, binOp, Op.equal, h3, Sem.run_pure]
/-! New blocks of a plan, one by one -/
inductive AllocsAt (P : Program) (N : Nat) (ops : Array Oper) : List (Nat × Nat × List Value) → Prop
  | nil : AllocsAt P N ops []
  | cons {i t : Nat} {zs : List Value} {o : Oper} {e : TypeId} {rest : List (Nat × Nat × List Value)} (h : ops[i]? = some o) (hg : o.guard = none) (hd : o.dst = some t) (ht : t < N) (ho : o.op = .alloc e) (hz : (P.info? e).map (fun i => i.zero.map (·.cells.toList)) = some (some zs)) (r : AllocsAt P N ops rest) : AllocsAt P N ops ((i, t, zs) :: rest)
theorem AllocsAt.all {ops : Array Oper} {js : List (Nat × Nat × List Value)} (h : AllocsAt P N ops js) : ∀ j, j ∈ js → AllocAt P N ops j := by
  induction h with
  | nil => intro j hj; simp at hj
  | cons h hg hd ht ho hz r ih =>
    intro j hj
    rcases List.mem_cons.1 hj with rfl | hj
    · exact .mk' _ h hg hd ht ho hz
    · exact ih j hj

/-! Results, some of them in memory -/
inductive OutsR (P : Program) (env : Env) (st : St) : List ResultVar → List AV → Prop
  | nil : OutsR P env st [] []
  | tmp {t : Nat} {x : AV} {rs : List ResultVar} {xs : List AV} (h : env.lookup t = some x) (k : OutsR P env st rs xs) : OutsR P env st (.tmp t :: rs) (x :: xs)
  | row {t b : Nat} {T : TypeId} {cs : List AV} {rs : List ResultVar} {xs : List AV} (n : Nat) (h : env.lookup t = some (.ptr b 0)) (hst : st[n]? = some (b, .cells cs)) (hT : rowT P T cs.length = true) (k : OutsR P env st rs xs) : OutsR P env st (.cell t T :: rs) (.agg cs :: xs)
  | flat {t b : Nat} {T : TypeId} {x : AV} {cs : List AV} {rs : List ResultVar} {xs : List AV} (n : Nat) (h : env.lookup t = some (.ptr b 0)) (hst : st[n]? = some (b, .cells cs)) (hc : cs[0]? = some x) (hT : flatT P T = true) (k : OutsR P env st rs xs) : OutsR P env st (.cell t T :: rs) (x :: xs)

theorem ret_outs {fn : Func} {K : AV → St → Prop} {rs : List ResultVar} {xs ys : List AV} (st' : St) (hr : fn.results = rs.toArray) (hn : rs.length ≠ 1) (ho : OutsR P env st rs xs) (hs : Sub st' st) (hc : Conv st st' (.tup xs) (.tup ys)) (hk : K (.tup ys) st') {e : Exit} (he : e = .ret ∨ e = .normal) : Fin P fn K e env st := by
  have key : ∀ N a w, Good N env st a w → ∃ v y st', (results fn a.tmps).run P w = .ok v w ∧ K y st' ∧ Sub st' st ∧ R st' w y v := by
    intro N a w hg
    have main : ∀ (f : ResultVar → Sem Value), (∀ t, f (.tmp t) = pure (a.tmps.getD t undef)) → (∀ t T b, a.tmps.getD t undef = .pointer (some ⟨b, 0, none⟩) → (f (.cell t T)).run P w = (loadVar T ⟨b, 0, none⟩).run P w) →
        ∀ {rs xs}, OutsR P env st rs xs → ∃ vs : List Value, (List.mapM f rs).run P w = .ok vs w ∧ xs.length = vs.length ∧ vs.length = rs.length ∧ ∀ (i : Nat) c v, xs[i]? = some c → vs[i]? = some v → R st w c v := by
      intro f hf1 hf2 rs xs h
      induction h with
      | nil => exact ⟨[], by simp, rfl, rfl, fun i c v h => by simp at h⟩
      | @tmp t x rs xs h k ih =>
        obtain ⟨vs, k1, k2, k2', k3⟩ := ih
        obtain ⟨v, hv, hx⟩ := hg.env t x h
        refine ⟨v :: vs, ?_, by simp [k2], by simp [k2'], fun i c u hc hu => ?_⟩
        · rw [List.mapM_cons, hf1]
          simp only [Sem.run_bind, Sem.run_pure, Result.andThen_ok, k1]
          simp [hv]
        · cases i with
          | zero => simp at hc hu; subst hc; subst hu; exact hx
          | succ i => exact k3 i c u (by simpa using hc) (by simpa using hu)
      | @row t b T cs rs xs n h hst hT k ih =>
        obtain ⟨vs, k1, k2, k2', k3⟩ := ih
        obtain ⟨v, hv, hx⟩ := hg.env t _ h
        have e := hx.lit_inv
        subst e
        obtain ⟨us, T', j1, j2, j3⟩ := hg.rel.cells b cs (mem_at hst)
        obtain ⟨d, hu, hd, hi⟩ := rowT_spec hT
        have hl : (loadVar T ⟨b, 0, none⟩).run P w = .ok (.agg us) w := by
          have := run_loadVar_mid (P := P) w b 0 T us.toList d (fun j u hj => by simp [World.cell?, j1]; simpa using hj) hu hd (by rw [hi]; simp [j2])
          simpa using this
        refine ⟨.agg us :: vs, ?_, by simp [k2], by simp [k2'], fun i c u hc hu => ?_⟩
        · rw [List.mapM_cons]
          simp only [Sem.run_bind, hf2 t T b (by simp [hv]), hl, Result.andThen_ok, k1, Sem.run_pure]
        · cases i with
          | zero => simp at hc hu; subst hc; subst hu; exact .agg cs us j2.symm j3
          | succ i => exact k3 i c u (by simpa using hc) (by simpa using hu)
      | @flat t b T x cs rs xs n h hst hcx hT k ih =>
        obtain ⟨vs, k1, k2, k2', k3⟩ := ih
        obtain ⟨v, hv, hx⟩ := hg.env t _ h
        have e := hx.lit_inv
        subst e
        obtain ⟨d, hu, hd⟩ := flatT_spec hT
        obtain ⟨u0, h1, h2, _⟩ := hg.rel.at_ (mem_at hst) hcx
        have hl : (loadVar T ⟨b, 0, none⟩).run P w = .ok u0 w := by simp [loadVar, run_isAgg' hu hd, h1]
        refine ⟨u0 :: vs, ?_, by simp [k2], by simp [k2'], fun i c u hc hu => ?_⟩
        · rw [List.mapM_cons]
          simp only [Sem.run_bind, hf2 t T b (by simp [hv]), hl, Result.andThen_ok, k1, Sem.run_pure]
        · cases i with
          | zero => simp at hc hu; subst hc; subst hu; exact h2
          | succ i => exact k3 i c u (by simpa using hc) (by simpa using hu)
    unfold results
    rw [hr]
    simp only [List.mapM_toArray, Sem.run_bind, Sem.run_map]
    obtain ⟨vs, k1, k2, k2', k3⟩ := main (fun x => match x with | .tmp t => pure (a.tmps.getD t undef) | .cell c t => do loadVar t (← asAddr (a.tmps.getD c undef))) (fun t => rfl) (fun t T b h => by
      simp only [h, asAddr, Sem.run_bind, Sem.run_pure, Result.andThen_ok]) ho
    erw [k1]
    simp only [Result.andThen_ok, Sem.run_pure]
    refine ⟨.tuple vs.toArray, .tup ys, st', ?_, hk, hs, hc w _ hg.rel (.tup xs _ (by simpa using k2) fun i c v h1 h2 => k3 i c v h1 (by simpa using h2))⟩
    rw [dif_neg (by simp; omega)]
  rcases he with rfl | rfl <;> exact key

/-! Loops whose rounds leave memory behind -/
theorem AC_loopS {Q : Post} {G : Type} {c : Code} (I : G → Prop) (envI : G → Env) (stI : G → St) (m : G → Nat) (g0 : G) (hI : I g0) (hst : Sub (stI g0) st) (henv : EnvLe env (envI g0))
    (round : ∀ g, I g → AC P N c (thenP (fun env' st' => ∃ g', I g' ∧ m g' < m g ∧ Sub (stI g') st' ∧ EnvLe env' (envI g')) Q) (envI g) (stI g)) : AC P N (.loop c) Q env st := by
  intro a w hg
  have drop : ∀ {env : Env} {st st' : St} {a : Act} {w : World}, Good N env st a w → Sub st' st → Good N env st' a w := fun hg h => ⟨hg.size, hg.defers, fun i x hx => let ⟨v, h1, h2⟩ := hg.env i x hx; ⟨v, h1, h2.mono (Ext.dropS h) hg.rel.nodup⟩, hg.rel.dropS h⟩
  refine wp_loop_ghost (fun n a' w' => ∃ g, I g ∧ m g = n ∧ Good N (envI g) (stI g) a' w' ∧ Ext st w (stI g) w') (m g0) ⟨g0, hI, rfl, (drop hg hst).weak henv, Ext.dropS hst⟩ ?_
  rintro n a1 w1 ⟨g, hig, rfl, hg1, hx⟩
  refine wp_mono (round g hig a1 w1 hg1) ?_
  rintro e a2 w2 ⟨env2, st2, q, g2, x2⟩
  cases e with
  | normal =>
    obtain ⟨g', hig', hm, hsub, henv'⟩ := q
    exact ⟨m g', hm, g', hig', rfl, (drop g2 hsub).weak henv', (hx.trans x2 hg.rel.nodup).trans (Ext.dropS hsub) hg.rel.nodup⟩
  | _ => exact ⟨env2, st2, q, g2, hx.trans x2 hg.rel.nodup⟩
end
end Go.AL
