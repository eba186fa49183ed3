/-
The logic AL: interface values: made, compared with nil, asserted; methods called through them; library functions that the model knows by their effect (reflectlite's).
Conditions: none; no program is in sight.
-/
import Derived.Test.YtnjlecejhnoicaaDoorAlTab
import Derived.Stop.Asserts
import Derived.Stop.IfaceNil
import Derived.LaidEql
set_option linter.unusedVariables false
set_option linter.unusedSimpArgs false
namespace Go.AL
open Go.RowKit Go.Extern Go.Stop

section
variable {P : Program} {N : Nat} {Q : Post} {env : Env} {st : St} {o : Oper} {w : World}

theorem ifc_inv {T : TypeId} {x : AV} {v : Value} (h : R st w (.ifc T x) v) : ∃ u, v = .iface T u ∧ R st w x u := by
  cases h with
  | ifc _ _ u h => exact ⟨u, rfl, h⟩

theorem S_ifc {T T2 : TypeId} {x : Operand} {y : AV} (ho : o.op = .makeInterface T x) (hx : AEv env x y) (hc : P.concrete T = true) : PStep P N o env st (.ifc T y) :=
  .of_val fun a w hg => ⟨.iface T (a.eval x), by simp only [execOp, ho, Sem.run_bind, run_makeInterface w T _ hc, Result.andThen_ok, Sem.run_pure], .ifc _ _ _ (hx _ _ _ _ hg)⟩
/-- Is it nil? -/
def ErrIs (y : AV) (b : Bool) : Prop := match b with | true => y = .nili | false => ∃ T z, y = .ifc T z
theorem S_eqlE {t t2 : TypeId} {x : Operand} {y : AV} {b : Bool} (he : ErrIs y b) (ho : o.op = .binOp .eql t x (.const .nilIface) t2) (hx : AEv env x y) (hi : P.isIface t = true) : PStep P N o env st (.bool b) :=
  .of_val fun a w hg => by
    have e2 : a.eval (.const .nilIface) = .nilIface := rfl
    cases b with
    | true =>
      have hy : y = .nili := he
      subst hy
      have e1 := (hx _ _ _ _ hg).lit_inv
      exact ⟨.bool true, by simp only [execOp, ho, e1, e2, eqGuard_nil_constR, Sem.run_bind, Sem.run_pure, Result.andThen_ok, run_eql_nil_nil_at w t hi], .lit _⟩
    | false =>
      obtain ⟨T, z, rfl⟩ := he
      obtain ⟨u, e1, _⟩ := ifc_inv (hx _ _ _ _ hg)
      exact ⟨.bool false, by simp only [execOp, ho, e1, e2, eqGuard_at_iface, Sem.run_bind, Sem.run_pure, run_eql_iface_nil w t hi T u, Result.andThen_ok], .lit _⟩
theorem S_neqE {t t2 : TypeId} {x : Operand} {y : AV} {b : Bool} (he : ErrIs y b) (ho : o.op = .binOp .neq t x (.const .nilIface) t2) (hx : AEv env x y) (hi : P.isIface t = true) : PStep P N o env st (.bool (!b)) :=
  .of_val fun a w hg => by
    have e2 : a.eval (.const .nilIface) = .nilIface := rfl
    cases b with
    | true =>
      have hy : y = .nili := he
      subst hy
      have e1 := (hx _ _ _ _ hg).lit_inv
      exact ⟨.bool false, by simp only [execOp, ho, e1, e2, eqGuard_nil_constR, Sem.run_bind, Sem.run_pure, Result.andThen_ok, run_neq_nil_nil_at w t hi], .lit _⟩
    | false =>
      obtain ⟨T, z, rfl⟩ := he
      obtain ⟨u, e1, _⟩ := ifc_inv (hx _ _ _ _ hg)
      exact ⟨.bool true, by simp only [execOp, ho, e1, e2, eqGuard_at_iface, Sem.run_bind, Sem.run_pure, run_neq_iface_nil w t hi T u, Result.andThen_ok], .lit _⟩
theorem S_assertNo {X t a : TypeId} {x : Operand} {T : TypeId} {y : AV} {want : Array (String × TypeId)} (ho : o.op = .typeAssert x t a true) (hx : AEv env x (.ifc T y)) (hu : P.underlying a = some (.interface want)) (h : (P.info? T).map (fun i => (lacking want i.methods).isEmpty) = some false) (hz : (P.info? a).map (·.zero) = some (some .nilIface)) :
    PStep P N o env st (.tup [.nili, .bool false]) :=
  .of_val fun c w hg => by
    obtain ⟨u, e1, _⟩ := ifc_inv (hx _ _ _ _ hg)
    refine ⟨.tuple #[.nilIface, .bool false], ?_, .tup _ _ rfl fun i c v hc hv => ?_⟩
    · simp only [execOp, ho, e1, Sem.run_bind, run_typeAssert_lacksB hu h hz u t w, Result.andThen_ok, Sem.run_pure]
    · match i with
      | 0 => simp at hc hv; subst hc; subst hv; exact .lit _
      | 1 => simp at hc hv; subst hc; subst hv; exact .lit _
      | i + 2 => simp at hc
theorem S_assertYes {t a : TypeId} {x : Operand} {T : TypeId} {y : AV} {want : Array (String × TypeId)} (ho : o.op = .typeAssert x t a true) (hx : AEv env x (.ifc T y)) (hu : P.underlying a = some (.interface want)) (h : (P.info? T).map (fun i => (lacking want i.methods).isEmpty) = some true) :
    PStep P N o env st (.tup [.ifc T y, .bool true]) :=
  .of_val fun c w hg => by
    obtain ⟨u, e1, hr⟩ := ifc_inv (hx _ _ _ _ hg)
    refine ⟨.tuple #[.iface T u, .bool true], ?_, .tup _ _ rfl fun i c v hc hv => ?_⟩
    · simp only [execOp, ho, e1, Sem.run_bind, run_typeAssert_hasB hu h u t w, Result.andThen_ok, Sem.run_pure]
    · match i with
      | 0 => simp at hc hv; subst hc; subst hv; exact .ifc _ _ _ hr
      | 1 => simp at hc hv; subst hc; subst hv; exact .lit _
      | i + 2 => simp at hc

/-- A function that has no text, but a meaning in the model. -/
def ExtOf (P : Program) (f : FuncId) (e : Array Value → Sem Value) : Prop := ∃ fn, P.funcs[f]? = some fn ∧ (fn.name == "runtime.NumGoroutine") = false ∧ fn.body.isNone = true ∧ Extern.findNext fn = none ∧ Extern.find fn = some e
theorem ExtOf.run {f : FuncId} {e : Array Value → Sem Value} (h : ExtOf P f e) (args : Array Value) (w : World) : (callFunc f args).run P w = ((e args).run P w).andThen fun v w' => .ok (.value v) w' := by
  obtain ⟨fn, h0, h1, h2, h3, h4⟩ := h
  exact run_callFunc_extern h0 h1 h2 h3 h4 args w

/-- A call of such a function. -/
theorem S_ext {f : FuncId} {e : Array Value → Sem Value} {xs : List Operand} {ts : Array TypeId} {args : List AV} {K : AV → St → Prop} (ho : o.op = .call { callee := .value (.func f), args := xs.toArray, argTypes := ts }) (hargs : AEvs env xs args) (hf : ExtOf P f e)
    (hrun : ∀ w (vs : List Value), Rel st w → vs.length = args.length → (∀ (i : Nat) x v, args[i]? = some x → vs[i]? = some v → R st w x v) → ∃ v w' x st', (e vs.toArray).run P w = .ok v w' ∧ K x st' ∧ R st' w' x v ∧ Rel st' w' ∧ Ext st w st' w') : Step P N o env st K := by
  intro a w hg next Q hn
  obtain ⟨hl, hr⟩ := hargs.at_ hg
  obtain ⟨v, w', x, st', h1, h2, h3, h4, h5⟩ := hrun w (xs.map a.eval) hg.rel (by simpa using hl) (fun i x v hx hv => by
    simp at hv
    obtain ⟨u, hu, rfl⟩ := hv
    exact hr i x u hx hu)
  have hexec : (execOp a.eval o).run P w = .ok (.value v) w' := by
    have : (execOp a.eval o).run P w = (callFunc f (xs.map a.eval).toArray).run P w := by
      simp [execOp, ho, resolve, Deferred.ofValue, Act.eval, invoke]
    rw [this, hf.run, h1]
    rfl
  unfold Oper.wp
  rw [hexec]
  exact hn x st' v w' h2 h3 h4 h5
/-- .. that answers a plain value at plain values. -/
theorem S_extL {f : FuncId} {e : Array Value → Sem Value} {xs : List Operand} {ts : Array TypeId} {vals : List Value} {v : Value} (ho : o.op = .call { callee := .value (.func f), args := xs.toArray, argTypes := ts }) (hargs : AEvs env xs (vals.map .lit)) (hf : ExtOf P f e) (hrun : ∀ w, (e vals.toArray).run P w = .ok v w) : PStep P N o env st (.lit v) :=
  S_ext ho hargs hf fun w vs hrel hl hr => by
    have : vs = vals := by
      refine List.ext_getElem? fun i => ?_
      by_cases hi : i < vals.length
      · have h2 : i < vs.length := by simpa [hl] using hi
        have := (hr i (.lit vals[i]) vs[i] (by simp [hi]) (List.getElem?_eq_getElem h2)).lit_inv
        rw [List.getElem?_eq_getElem hi, List.getElem?_eq_getElem h2, this]
      · rw [List.getElem?_eq_none (by rw [hl, List.length_map]; omega), List.getElem?_eq_none (by omega)]
    subst this
    exact ⟨v, w, .lit v, st, hrun w, ⟨rfl, rfl⟩, .lit _, hrel, .refl _ _⟩
/-- A method, through an interface value that is known. -/
theorem S_invL {f : FuncId} {T : TypeId} {u r : Value} {name : String} {e : Array Value → Sem Value} {x : Operand} {ys : List Operand} {ts : Array TypeId} {vals : List Value} {v : Value} (ho : o.op = .call { callee := .invoke x name, args := ys.toArray, argTypes := ts }) (hx : AEv env x (.lit (.iface T u))) (hargs : AEvs env ys (vals.map .lit))
    (hm : ∀ w, (Go.method (P.types.size + Made.depth) T u name).run P w = .ok (f, r) w) (hf : ExtOf P f e) (hrun : ∀ w, (e (r :: vals).toArray).run P w = .ok v w) : PStep P N o env st (.lit v) :=
  .of_val fun a w hg => by
    have e1 := (hx _ _ _ _ hg).lit_inv
    obtain ⟨hl, hr⟩ := hargs.at_ hg
    have e2 : ys.map a.eval = vals := by
      refine List.ext_getElem? fun i => ?_
      by_cases hi : i < vals.length
      · have h2 : i < ys.length := by simp at hl; omega
        have := (hr i (.lit vals[i]) ys[i] (by simp [hi]) (List.getElem?_eq_getElem h2)).lit_inv
        rw [List.getElem?_eq_getElem hi, List.getElem?_map, List.getElem?_eq_getElem h2, Option.map_some, this]
      · rw [List.getElem?_eq_none (by simp at hl ⊢; omega), List.getElem?_eq_none (by omega)]
    refine ⟨v, ?_, .lit _⟩
    have ht : List.take ys.length (ys.map a.eval) = ys.map a.eval := List.take_of_length_le (by simp)
    have h3 : (execOp a.eval o).run P w = (callMethod (a.eval x) name (ys.map a.eval).toArray).run P w := by
      simp [execOp, ho, resolve, invoke, ht]
    have h4 : (callMethod (.iface T u) name vals.toArray).run P w = (callFunc f (r :: vals).toArray).run P w := by
      unfold callMethod
      simp only [Sem.run_bind, run_program, Result.andThen_ok, hm]
      simp
    rw [h3, e1, e2, h4, hf.run, hrun]
    rfl
/-- A method with a contract, through an interface value. -/
theorem S_invC {f : FuncId} {T : TypeId} {X : AV} {name : String} {x : Operand} {ts : Array TypeId} {K : AV → St → Prop} (ho : o.op = .call { callee := .invoke x name, args := #[], argTypes := ts }) (hx : AEv env x (.ifc T X))
    (hm : ∀ u w, (Go.method (P.types.size + Made.depth) T u name).run P w = .ok (f, u) w) (hc : ACalls P f [X] st K) : Step P N o env st K := by
  intro a w hg next Q hn
  obtain ⟨u, e1, hr⟩ := ifc_inv (hx _ _ _ _ hg)
  have hrun : (execOp a.eval o).run P w = .ok (.enter f #[u]) w := by
    have h3 : (execOp a.eval o).run P w = (callMethod (a.eval x) name #[]).run P w := by
      simp [execOp, ho, resolve, invoke]
    have h4 : (callMethod (.iface T u) name #[]).run P w = (callFunc f #[u]).run P w := by
      unfold callMethod
      simp only [Sem.run_bind, run_program, Result.andThen_ok, hm]
      simp
    rw [h3, e1, h4, run_callFunc' hc.enters]
  unfold Oper.wp
  rw [hrun]
  refine (hc.calls w #[u] hg.rel rfl fun i y v hy hv => ?_).mono ?_
  · match i with
    | 0 => simp at hy hv; subst hy; subst hv; exact hr
    | i + 1 => simp at hy
  · rintro e w' ⟨r, x, st', rfl, k, h1, h2, h3⟩
    exact hn x st' r w' k h1 h2 h3

/-! reflectlite's values: a type's handle, a place, flags -/
abbrev rvAV (h : Value) (b : Nat) (fl : Value) : AV := .agg [.lit h, .ptr b 0, .lit fl]
theorem rv_inv {h fl : Value} {b : Nat} {v : Value} (hr : R st w (rvAV h b fl) v) : v = .agg #[h, .pointer (some ⟨b, 0, none⟩), fl] := by
  obtain ⟨vs, rfl, hl, hk⟩ := agg_inv hr
  simp at hl
  obtain ⟨a, b', c, rfl⟩ : ∃ a b c, vs = #[a, b, c] := by
    obtain ⟨l⟩ := vs
    match l, hl with
    | [a, b, c], _ => exact ⟨a, b, c, rfl⟩
  have h0 := (hk 0 _ a rfl rfl).lit_inv
  have h1 := (hk 1 _ b' rfl rfl).lit_inv
  have h2 := (hk 2 _ c rfl rfl).lit_inv
  rw [h0, h1, h2]
theorem rv_R {st : St} {w : World} {h fl : Value} {b : Nat} : R st w (rvAV h b fl) (.agg #[h, .pointer (some ⟨b, 0, none⟩), fl]) :=
  .agg _ _ rfl fun i c v hc hv => by
    match i with
    | 0 => simp at hc hv; subst hc; subst hv; exact .lit _
    | 1 => simp at hc hv; subst hc; subst hv; exact .lit _
    | 2 => simp at hc hv; subst hc; subst hv; exact .lit _
    | i + 3 => simp at hc
theorem one_arg {x : AV} {vs : List Value} (hl : vs.length = [x].length) (hr : ∀ (i : Nat) y v, [x][i]? = some y → vs[i]? = some v → R st w y v) : ∃ v, vs = [v] ∧ R st w x v := by
  match vs, hl with
  | [v], _ => exact ⟨v, rfl, hr 0 x v rfl rfl⟩
theorem two_args {x y : AV} {vs : List Value} (hl : vs.length = [x, y].length) (hr : ∀ (i : Nat) z v, [x, y][i]? = some z → vs[i]? = some v → R st w z v) : ∃ u v, vs = [u, v] ∧ R st w x u ∧ R st w y v := by
  match vs, hl with
  | [u, v], _ => exact ⟨u, v, rfl, hr 0 x u rfl rfl, hr 1 y v rfl rfl⟩
theorem S_valueOf {f : FuncId} {e : Array Value → Sem Value} {x : Operand} {ts : Array TypeId} {T : TypeId} {X : AV} {h fl : Value} (ho : o.op = .call { callee := .value (.func f), args := #[x], argTypes := ts }) (hx : AEv env x (.ifc T X)) (hf : ExtOf P f e)
    (hv : ∀ w u, R st w X u → (e #[.iface T u]).run P w = .ok (.agg #[h, .pointer (some ⟨w.heap.size, 0, none⟩), fl]) (w.alloc (.cells #[u] T))) : Step P N o env st fun z st' => ∃ b, z = rvAV h b fl ∧ st' = (b, .cells [X]) :: st :=
  S_ext (xs := [x]) ho (.cons hx .nil) hf fun w vs hrel hl hr => by
    obtain ⟨v, rfl, hv1⟩ := one_arg hl hr
    obtain ⟨u, rfl, hu⟩ := ifc_inv hv1
    obtain ⟨k1, k2⟩ := alloc_rel hrel (T := T) (ob := .cells [X]) (vs := #[u]) ⟨rfl, fun i c v hc hv => by
      match i with
      | 0 => simp at hc hv; subst hc; subst hv; exact hu
      | i + 1 => simp at hc⟩
    exact ⟨_, _, _, _, hv w u hu, ⟨w.heap.size, rfl, rfl⟩, rv_R, k1, k2⟩
theorem S_rvP {f : FuncId} {e : Array Value → Sem Value} {x : Operand} {ts : Array TypeId} {h fl r : Value} {a : Nat} (ho : o.op = .call { callee := .value (.func f), args := #[x], argTypes := ts }) (hx : AEv env x (rvAV h a fl)) (hf : ExtOf P f e)
    (hv : ∀ w, (e #[.agg #[h, .pointer (some ⟨a, 0, none⟩), fl]]).run P w = .ok r w) : PStep P N o env st (.lit r) :=
  S_ext (xs := [x]) ho (.cons hx .nil) hf fun w vs hrel hl hr => by
    obtain ⟨v, rfl, hv1⟩ := one_arg hl hr
    rw [rv_inv hv1]
    exact ⟨r, w, .lit r, st, hv w, ⟨rfl, rfl⟩, .lit _, hrel, .refl _ _⟩
theorem cell_of {a : Nat} {X : AV} (hrel : Rel st w) (hm : (a, Ob.cells [X]) ∈ st) : ∃ u, w.cell? ⟨a, 0, none⟩ = some u ∧ R st w X u ∧ w.frozen? ⟨a, 0, none⟩ = false := hrel.at_ hm (i := 0) rfl
theorem S_isNilV {f : FuncId} {e : Array Value → Sem Value} {x : Operand} {ts : Array TypeId} {h fl : Value} {a b : Nat} (ho : o.op = .call { callee := .value (.func f), args := #[x], argTypes := ts }) (hx : AEv env x (rvAV h a fl)) (hm : (a, Ob.cells [.ptr b 0]) ∈ st) (hf : ExtOf P f e)
    (hv : ∀ w, w.cell? ⟨a, 0, none⟩ = some (.pointer (some ⟨b, 0, none⟩)) → (e #[.agg #[h, .pointer (some ⟨a, 0, none⟩), fl]]).run P w = .ok (.bool false) w) : PStep P N o env st (.bool false) :=
  S_ext (xs := [x]) ho (.cons hx .nil) hf fun w vs hrel hl hr => by
    obtain ⟨v, rfl, hv1⟩ := one_arg hl hr
    rw [rv_inv hv1]
    obtain ⟨u, k1, k2, _⟩ := cell_of hrel hm
    rw [k2.lit_inv] at k1
    exact ⟨_, w, _, st, hv w k1, ⟨rfl, rfl⟩, .lit _, hrel, .refl _ _⟩
theorem S_elemV {f : FuncId} {e : Array Value → Sem Value} {x : Operand} {ts : Array TypeId} {h fl h' fl' : Value} {a b : Nat} (ho : o.op = .call { callee := .value (.func f), args := #[x], argTypes := ts }) (hx : AEv env x (rvAV h a fl)) (hm : (a, Ob.cells [.ptr b 0]) ∈ st) (hf : ExtOf P f e)
    (hv : ∀ w, w.cell? ⟨a, 0, none⟩ = some (.pointer (some ⟨b, 0, none⟩)) → (e #[.agg #[h, .pointer (some ⟨a, 0, none⟩), fl]]).run P w = .ok (.agg #[h', .pointer (some ⟨b, 0, none⟩), fl']) w) : PStep P N o env st (rvAV h' b fl') :=
  S_ext (xs := [x]) ho (.cons hx .nil) hf fun w vs hrel hl hr => by
    obtain ⟨v, rfl, hv1⟩ := one_arg hl hr
    rw [rv_inv hv1]
    obtain ⟨u, k1, k2, _⟩ := cell_of hrel hm
    rw [k2.lit_inv] at k1
    exact ⟨_, w, _, st, hv w k1, ⟨rfl, rfl⟩, rv_R, hrel, .refl _ _⟩
theorem S_setV {f : FuncId} {e : Array Value → Sem Value} {x y : Operand} {ts : Array TypeId} {h fl h' fl' : Value} {t b n : Nat} {X Y : AV} (ho : o.op = .call { callee := .value (.func f), args := #[x, y], argTypes := ts }) (hx : AEv env x (rvAV h t fl)) (hy : AEv env y (rvAV h' b fl')) (hst : st[n]? = some (t, .cells [Y])) (hm : (b, Ob.cells [X]) ∈ st) (hf : ExtOf P f e)
    (hv : ∀ w u old, R st w X u → w.cell? ⟨b, 0, none⟩ = some u → w.cell? ⟨t, 0, none⟩ = some old → w.frozen? ⟨t, 0, none⟩ = false → (e #[.agg #[h, .pointer (some ⟨t, 0, none⟩), fl], .agg #[h', .pointer (some ⟨b, 0, none⟩), fl']]).run P w = .ok (.tuple #[]) (w.setCell ⟨t, 0, none⟩ u)) :
    Step P N o env st fun z st' => z = .tup [] ∧ st' = st.set n (t, .cells [X]) :=
  S_ext (xs := [x, y]) ho (.cons hx (.cons hy .nil)) hf fun w vs hrel hl hr => by
    obtain ⟨v1, v2, rfl, hv1, hv2⟩ := two_args hl hr
    rw [rv_inv hv1, rv_inv hv2]
    obtain ⟨u, k1, k2, _⟩ := cell_of hrel hm
    obtain ⟨old, j1, j2, j3⟩ := cell_of hrel (mem_at hst)
    obtain ⟨vs, T, g1, g2, g3⟩ := hrel.cells t [Y] (mem_at hst)
    have hw := write_rel hrel (w' := w.setCell ⟨t, 0, none⟩ u) (cs' := [X]) (vs' := vs.setIfInBounds 0 u) (T := T) hst ⟨vs, g1, by simp⟩ (heap_setCell_same w t 0 vs T u g1)
      (fun b' hb' => heap_setCell_other w ⟨t, 0, none⟩ b' u hb') (by simp) rfl rfl rfl (by simpa using g2) (fun i d v hd hv => by
        match i with
        | 0 =>
          simp at hd
          subst hd
          have hs : 0 < vs.size := by rw [g2]; simp
          rw [Array.getElem?_setIfInBounds] at hv
          simp [hs] at hv
          subst hv
          exact k2
        | i + 1 => simp at hd)
    exact ⟨_, _, .tup [], _, hv w u old k2 k1 j1 j3, ⟨rfl, rfl⟩, .tup [] #[] rfl (fun i c v hc => by simp at hc), hw.1, hw.2⟩
end
end Go.AL
