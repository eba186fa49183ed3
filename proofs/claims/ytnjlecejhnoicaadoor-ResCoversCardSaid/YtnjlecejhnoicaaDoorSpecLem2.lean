/-
What a spec's error is, list by list.
Conditions: none; no program is in sight.
-/
import Derived.Test.YtnjlecejhnoicaaDoorSpecLem
set_option linter.unusedVariables false
set_option linter.unusedSimpArgs false
namespace Go.AL
open Go.RowKit Go.NumSpec
theorem firstE_at : ∀ {es : List Er} {i : Nat} (h : i < es.length) {x : Int × List (List UInt8)}, es[i] = some x → (∀ j (hj : j < i), es[j]'(by omega) = none) → firstE es = some x
  | e :: es, 0, h, x, hx, _ => by simp only [List.getElem_cons_zero] at hx; rw [hx]; rfl
  | e :: es, i + 1, h, x, hx, hn => by
    have h0 := hn 0 (by omega)
    simp only [List.getElem_cons_zero] at h0
    subst h0
    exact firstE_at (es := es) (i := i) (by simpa using h) (by simpa using hx) fun j hj => by have := hn (j + 1) (by omega); rw [List.getElem_cons_succ] at this; exact this
theorem firstE_all : ∀ {es : List Er}, (∀ j (hj : j < es.length), es[j] = none) → firstE es = none
  | [], _ => rfl
  | e :: es, hn => by
    have h0 := hn 0 (by simp)
    simp only [List.getElem_cons_zero] at h0
    subst h0
    exact firstE_all (es := es) fun j hj => by have := hn (j + 1) (by simpa using hj); rw [List.getElem_cons_succ] at this; exact this
def eachE (n : Nat) (f : Nat → Er) : Er := firstE ((List.range n).map f)
theorem eachE_at {n i : Nat} {f : Nat → Er} {x : Int × List (List UInt8)} (h : i < n) (hx : f i = some x) (hn : ∀ j, j < i → f j = none) : eachE n f = some x :=
  firstE_at (i := i) (by simpa using h) (by simpa using hx) fun j hj => by simpa using hn j hj
theorem eachE_all {n : Nat} {f : Nat → Er} (hn : ∀ j, j < n → f j = none) : eachE n f = none := firstE_all fun j hj => by simpa using hn j (by simpa using hj)
theorem eachE_none {n : Nat} {f : Nat → Er} (h : eachE n f = none) : ∀ j, j < n → f j = none := by
  intro j
  induction j using Nat.strongRecOn with
  | ind j ih =>
    intro hj
    cases hf : f j with
    | none => rfl
    | some x => rw [eachE_at hj hf fun k hk => ih k hk (by omega)] at h; cases h
def labelsE (name : List UInt8) (l : List Lab) : Er := match atMostE name (l.length : Int) 0 4 with | some x => some x | none => eachE l.length (labelE name l)
theorem labelsE_bad {name : List UInt8} {l : List Lab} (h : atMostE name (l.length : Int) 0 4 ≠ none) : labelsE name l = atMostE name (l.length : Int) 0 4 := by
  unfold labelsE
  cases hh : atMostE name (l.length : Int) 0 4 with
  | none => exact absurd hh h
  | some x => rfl
theorem labelsE_good {name : List UInt8} {l : List Lab} (h : atMostE name (l.length : Int) 0 4 = none) : labelsE name l = eachE l.length (labelE name l) := by
  unfold labelsE
  rw [h]
end Go.AL
namespace Go.AL
open Go.RowKit Go.NumSpec
structure Ctr where
  name : List UInt8
  image : List UInt8
  req : Int × Int × Int
  lim : Int × Int × Int
  ports : List Int
  probe : Int × Int
def ctrL (c : Ctr) : List AV := [.S c.name, .S c.image, .int .i64 c.req.1, .int .i64 c.req.2.1, .int .i64 c.req.2.2, .int .i64 c.lim.1, .int .i64 c.lim.2.1, .int .i64 c.lim.2.2, .sl (intsV c.ports), .int .i64 c.probe.1, .int .i64 c.probe.2]
def ctrAV (c : Ctr) : AV := .agg (ctrL c)
def nameE (ns : List (List UInt8)) (s : List UInt8) : Er := if (erNew (saysV (nameV s) 30) [[110, 97, 109, 101]]).isNone = true ∧ s ∈ ns then some (7, [[110, 97, 109, 101]]) else erNew (saysV (nameV s) 30) [[110, 97, 109, 101]]
end Go.AL
namespace Go.AL
open Go.RowKit Go.NumSpec
abbrev portsN : List UInt8 := [112, 111, 114, 116, 115]
def portAt (ps l : List Int) (i : Nat) : Er := if (withinE (atT portsN (i : Int)) (l.getD i 0) 1 65535).isNone = true ∧ l.getD i 0 ∈ ps ++ l.take i then some (150, [atT portsN (i : Int)]) else withinE (atT portsN (i : Int)) (l.getD i 0) 1 65535
def portE (ps l : List Int) (n : Int) : Er := match atMostE portsN (l.length : Int) 0 n with | some x => some x | none => eachE l.length (portAt ps l)
theorem portE_bad {ps l : List Int} {n : Int} (h : atMostE portsN (l.length : Int) 0 n ≠ none) : portE ps l n = atMostE portsN (l.length : Int) 0 n := by
  unfold portE
  cases hh : atMostE portsN (l.length : Int) 0 n with
  | none => exact absurd hh h
  | some x => rfl
theorem portE_good {ps l : List Int} {n : Int} (h : atMostE portsN (l.length : Int) 0 n = none) : portE ps l n = eachE l.length (portAt ps l) := by
  unfold portE
  rw [h]
end Go.AL
namespace Go.AL
section
variable {P : Program}
/-- A contract over the front of a state, with a premise on what is behind, serves behind memory of the caller's own. -/
theorem ACalls.preP {G : St → Prop} (hG : ∀ pre F, G F → G (pre ++ F)) {f : FuncId} {args : List AV} {foot : St} {K : AV → St → Prop} (h : ∀ F, G F → ACalls P f args (foot ++ F) fun x st' => ∃ foot', K x foot' ∧ st' = foot' ++ F) (pre F : St) (hF : G F) : ACalls P f args (pre ++ (foot ++ F)) fun x st' => ∃ foot', K x foot' ∧ st' = pre ++ (foot' ++ F) := by
  have perm : ∀ (a : St), (pre ++ (a ++ F)).Perm (a ++ (pre ++ F)) := fun a => by
    rw [← List.append_assoc, ← List.append_assoc]
    exact List.Perm.append_right F List.perm_append_comm
  have hc := h (pre ++ F) (hG pre F hF)
  refine ⟨hc.enters, fun w vs hrel hs hr => ?_⟩
  have hx : Ext (pre ++ (foot ++ F)) w (foot ++ (pre ++ F)) w := Ext.sub fun p hp => (perm foot).mem_iff.2 hp
  have hrel2 : Rel (foot ++ (pre ++ F)) w := hrel.sub (fun p hp => (perm foot).mem_iff.2 hp) (((perm foot).map (·.1)).nodup_iff.1 hrel.nodup)
  refine (hc.calls w vs hrel2 hs fun i x v h1 h2 => (hr i x v h1 h2).mono hx hrel.nodup).mono ?_
  rintro e w' ⟨r, x, st', he, ⟨foot', hk, rfl⟩, hr', hrel', hext⟩
  have hy : Ext (foot' ++ (pre ++ F)) w' (pre ++ (foot' ++ F)) w' := Ext.sub fun p hp => (perm foot').mem_iff.1 hp
  exact ⟨r, x, _, he, ⟨foot', hk, rfl⟩, hr'.mono hy hrel'.nodup, hrel'.sub (fun p hp => (perm foot').mem_iff.1 hp) (((perm foot').map (·.1)).nodup_iff.2 hrel'.nodup), (hx.trans hext hrel.nodup).trans hy hrel.nodup⟩
end
end Go.AL
