/-
Package fail's error values as abstract values; errors' own texts by their contracts: laws of AL on them.
Conditions: none; no program is in sight.
-/
import Derived.Test.YtnjlecejhnoicaaDoorAlErr
import Derived.Lib.IfaceEq
import Derived.Test.YtnjlecejhnoicaaDoorTextLem
set_option linter.unusedVariables false
set_option linter.unusedSimpArgs false
namespace Go.AL
open Go.RowKit Go.NumSpec Go.Stop

/-- A code (type C), under steps (type S). -/
def chainV (C S : TypeId) (c : Int) : List (List UInt8) → AV
  | [] => .ifc C (.int .i64 c)
  | p :: ps => .ifc S (.ip [.S p, chainV C S c ps])
abbrev Er := Option (Int × List (List UInt8))
def erV (C S : TypeId) : Er → AV
  | none => .nili
  | some (c, ps) => chainV C S c ps
def erNew (c : Int) (ps : List (List UInt8)) : Er := if c = 0 then none else some (c, ps)
def erIn (e : Er) (p : List UInt8) : Er := e.map fun x => (x.1, p :: x.2)
def erCode (e : Er) : Int := match e with | none => 0 | some (c, _) => c
def erPath (e : Er) : List (List UInt8) := match e with | none => [] | some (_, ps) => ps
def erHas (e : Er) (d : Int) : Bool := match e with | none => decide (d = 0) | some (c, _) => decide (c = d)
theorem chain_ifc (C S : TypeId) (c : Int) (ps : List (List UInt8)) : ∃ T z, chainV C S c ps = .ifc T z := by cases ps <;> exact ⟨_, _, rfl⟩
theorem er_is (C S : TypeId) (e : Er) : ErrIs (erV C S e) e.isNone := by
  cases e with
  | none => rfl
  | some x => exact chain_ifc C S x.1 x.2
theorem chain_is (C S : TypeId) (c : Int) (ps : List (List UInt8)) : ErrIs (chainV C S c ps) false := chain_ifc C S c ps
def typV (C S : TypeId) (ps : List (List UInt8)) : TypeId := match ps with | [] => C | _ => S
theorem erNew_none {c : Int} {ps : List (List UInt8)} (h : c = 0) : erNew c ps = none := by rw [erNew, if_pos h]
theorem erNew_some {c : Int} {ps : List (List UInt8)} (h : c ≠ 0) : erNew c ps = some (c, ps) := by rw [erNew, if_neg h]
theorem erNew_code (c : Int) (ps : List (List UInt8)) : erCode (erNew c ps) = c := by
  by_cases h : c = 0
  · rw [erNew_none h, h]; rfl
  · rw [erNew_some h]; rfl
theorem erNew_isNone (c : Int) (ps : List (List UInt8)) : (erNew c ps).isNone = decide (c = 0) := by
  by_cases h : c = 0
  · rw [erNew_none h]; simp [h]
  · rw [erNew_some h]; simp [h]

theorem erHas_new (c d : Int) (ps : List (List UInt8)) : erHas (erNew c ps) d = decide (c = d) := by
  by_cases h : c = 0
  · rw [erNew_none h, h]
    simp [erHas, eq_comm]
  · rw [erNew_some h]; rfl
theorem ifc_is (T : TypeId) (x : AV) : ErrIs (.ifc T x) false := ⟨T, x, rfl⟩
theorem chain_cells (C S : TypeId) (c : Int) (ps : List (List UInt8)) : (chainV C S c ps).cells = [chainV C S c ps] := by cases ps <;> rfl
theorem er_cells (C S : TypeId) (e : Er) : (erV C S e).cells = [erV C S e] := by
  cases e with
  | none => rfl
  | some x => exact chain_cells C S x.1 x.2
theorem chain_one (C S : TypeId) (c : Int) (ps : List (List UInt8)) : (chainV C S c ps).one = true := by cases ps <;> rfl
theorem er_one (C S : TypeId) (e : Er) : (erV C S e).one = true := by
  cases e with
  | none => rfl
  | some x => exact chain_one C S x.1 x.2
theorem er_flat (C S : TypeId) (e : Er) : (erV C S e).flat = true := by
  cases e with
  | none => rfl
  | some x => obtain ⟨c, ps⟩ := x; cases ps <;> rfl
def hdV (c d : Int) (ps : List (List UInt8)) : Bool := match ps with | [] => decide (c = d) | _ => false
theorem hdV_true {c d : Int} {ps : List (List UInt8)} (h : hdV c d ps = true) : c = d := by
  cases ps with
  | nil => exact of_decide_eq_true h
  | cons p ps => cases h
def upV (C S : TypeId) (c : Int) (ps : List (List UInt8)) : AV := match ps with | [] => .nili | p :: ps => chainV C S c (p :: ps)
def firstE : List Er → Er
  | [] => none
  | e :: es => match e with | some x => some x | none => firstE es
theorem first_none {es : List Er} {i : Nat} (h : i < es.length) (he : es[i] = none) : firstE (es.drop i) = firstE (es.drop (i + 1)) := by
  rw [List.drop_eq_getElem_cons h, he]; rfl
theorem first_some {es : List Er} {i : Nat} (h : i < es.length) {x : Int × List (List UInt8)} (he : es[i] = some x) : firstE (es.drop i) = some x := by
  rw [List.drop_eq_getElem_cons h, he]; rfl
def ersV (C S : TypeId) (es : List Er) : List AV := es.map (erV C S)

def stepV (C S : TypeId) (e : Er) (Y : AV) : AV := match e with | some (c, p :: ps) => .ip [.S p, chainV C S c ps] | _ => Y
def stepB (e : Er) : Bool := match e with | some (_, _ :: _) => true | _ => false
def dropE (e : Er) (n : Nat) : Er := e.map fun x => (x.1, x.2.drop n)

def intsV (l : List Int) : List AV := l.map fun n => .int .i64 n
def wantC (l : List Int) : Int := l.foldl (fun w c => if w = 0 then c else w) 0
theorem want_next {l : List Int} {i : Nat} (h : i < l.length) : wantC (l.take (i + 1)) = if wantC (l.take i) = 0 then l[i] else wantC (l.take i) := by
  unfold wantC
  rw [List.take_succ_eq_append_getElem h, List.foldl_append]
  rfl
theorem four (c0 c1 c2 c3 : Int) (p0 p1 p2 p3 : List (List UInt8)) : erCode (firstE [erNew c0 p0, erNew c1 p1, erNew c2 p2, erNew c3 p3]) = wantC [c0, c1, c2, c3] ∧ (firstE [erNew c0 p0, erNew c1 p1, erNew c2 p2, erNew c3 p3]).isNone = decide (wantC [c0, c1, c2, c3] = 0) := by
  by_cases h0 : c0 = 0 <;> by_cases h1 : c1 = 0 <;> by_cases h2 : c2 = 0 <;> by_cases h3 : c3 = 0 <;> simp [firstE, erNew, erCode, wantC, *]
def sameF (a b : List (List UInt8)) (i : Nat) : Bool := decide (a.length = b.length ∧ a.take i = b.take i)
theorem sameF_end {a b : List (List UInt8)} {i : Nat} (h : sameF a b i = false ∨ a.length ≤ i ∨ b.length ≤ i) : sameF a b i = decide (a = b) := by
  unfold sameF at *
  by_cases he : a = b
  · subst he; simp
  · rw [show decide (a = b) = false by simp [he]]
    rcases h with h | h | h
    · exact h
    · rw [decide_eq_false_iff_not]
      intro ⟨h1, h2⟩
      rw [List.take_of_length_le h, List.take_of_length_le (by omega)] at h2
      exact he h2
    · rw [decide_eq_false_iff_not]
      intro ⟨h1, h2⟩
      rw [List.take_of_length_le h, List.take_of_length_le (by omega)] at h2
      exact he h2
theorem sameF_next {a b : List (List UInt8)} {i : Nat} (h : sameF a b i = true) (ha : i < a.length) (hb : i < b.length) : decide (a[i] = b[i]) = sameF a b (i + 1) := by
  have h' := of_decide_eq_true h
  unfold sameF
  rw [List.take_succ_eq_append_getElem ha, List.take_succ_eq_append_getElem hb]
  by_cases he : a[i] = b[i]
  · simp [he, h'.1, h'.2]
  · have : ¬ (a.take i ++ [a[i]] = b.take i ++ [b[i]]) := fun h => he (by have := List.append_inj_right' h rfl; simpa using this)
    rw [decide_eq_false he, decide_eq_false (fun h => this h.2)]

section
variable {P : Program} {N : Nat} {Q : Post} {env : Env} {st : St} {o : Oper} {w : World}
theorem S_eqlDiff {t t2 : TypeId} {x y : Operand} {T U : TypeId} {X Y : AV} {ms : Array (String × TypeId)} (ho : o.op = .binOp .eql t x y t2) (hx : AEv env x (.ifc T X)) (hy : AEv env y (.ifc U Y)) (hu : P.underlying t = some (.interface ms)) (hne : T ≠ U) : PStep P N o env st (.bool false) :=
  .of_val fun a w hg => by
    obtain ⟨u, e1, _⟩ := ifc_inv (hx _ _ _ _ hg)
    obtain ⟨v, e2, _⟩ := ifc_inv (hy _ _ _ _ hg)
    exact ⟨.bool false, by simp only [execOp, ho, e1, e2, eqGuard_at_iface, Sem.run_bind, Sem.run_pure, run_eql_iface_types T U u v hu hne, Result.andThen_ok], .lit _⟩
theorem S_eqlInt {t t2 : TypeId} {x y : Operand} {T : TypeId} {k q : IntKind} {c d : Int} {ms : Array (String × TypeId)} (ho : o.op = .binOp .eql t x y t2) (hx : AEv env x (.ifc T (.int k c))) (hy : AEv env y (.ifc T (.int k d))) (hu : P.underlying t = some (.interface ms)) (hc : (P.info? T).map (·.comparable) = some true) (hk : P.underlying T = some (.int q)) : PStep P N o env st (.bool (decide (c = d))) :=
  .of_val fun a w hg => by
    obtain ⟨u, e1, h1⟩ := ifc_inv (hx _ _ _ _ hg)
    obtain ⟨v, e2, h2⟩ := ifc_inv (hy _ _ _ _ hg)
    rw [h1.lit_inv] at e1
    rw [h2.lit_inv] at e2
    refine ⟨.bool (c == d), by simp only [execOp, ho, e1, e2, eqGuard_at_iface, Sem.run_bind, Sem.run_pure, Lib.run_eql_iface_int w c d hu hc hk, Result.andThen_ok], ?_⟩
    have : (c == d) = decide (c = d) := by by_cases h : c = d <;> simp [h]
    rw [this]
    exact .lit _
/-- reflectlite.TypeOf at an interface value whose type is known. -/
theorem S_typeOf {f : FuncId} {e : Array Value → Sem Value} {x : Operand} {ts : Array TypeId} {T : TypeId} {X : AV} {r : Value} (ho : o.op = .call { callee := .value (.func f), args := #[x], argTypes := ts }) (hx : AEv env x (.ifc T X)) (hf : ExtOf P f e)
    (hv : ∀ u w, (e #[.iface T u]).run P w = .ok r w) : PStep P N o env st (.lit r) :=
  S_ext (xs := [x]) ho (.cons hx .nil) hf fun w vs hrel hl hr => by
    obtain ⟨v, rfl, hv1⟩ := one_arg hl hr
    obtain ⟨u, rfl, hu⟩ := ifc_inv hv1
    exact ⟨r, w, .lit r, st, hv u w, ⟨rfl, rfl⟩, .lit _, hrel, .refl _ _⟩
theorem S_appendRowNil {t e size b off cap : Nat} {x y : Operand} {xs : List AV} (ho : o.op = .call { callee := .builtin .append, args := #[x, y], argTypes := #[t, t] }) (hx : AEv env x (.row b off cap xs)) (hy : AEv env y (.sl [])) (hu : P.underlying t = some (.slice e)) (hm : (P.info? e).map (·.size) = some size) :
    PStep P N o env st (.row b off cap xs) :=
  .of_val fun a w hg => by
    have h0 := hx _ _ _ _ hg
    obtain ⟨e1, hcap⟩ := row_inv h0
    obtain ⟨B, cap2, e2, _⟩ := sl_inv (hy _ _ _ _ hg)
    cases hq : P.info? e with
    | none => simp [hq] at hm
    | some q =>
      have hqm : q.size = size := by simpa [hq] using hm
      refine ⟨.slice (some ⟨b, off, none⟩) xs.length cap, ?_, by rw [← e1]; exact h0⟩
      simp only [execOp, ho, resolve, invoke, builtin, Sem.run_bind, Sem.run_pure, Result.andThen_ok, List.map_toArray, List.map_cons, List.map_nil, e1, e2]
      cases B <;> simp [Builtin.append_, run_underlying hu, sizeOf, typeInfo, hq, Builtin.lenOf, Builtin.firstCells, loadCells, loadCellsFrom, storeCells, hcap]
theorem S_appendRowAny {t e size bytes b k cap : Nat} {x y : Operand} {xs ys : List AV} (pre post : St) (ho : o.op = .call { callee := .builtin .append, args := #[x, y], argTypes := #[t, t] }) (hx : AEv env x (.row b (k * size) cap xs)) (hy : AEv env y (.sl ys)) (hst : st = pre ++ (ownSt (.row b k cap) e size xs ++ post)) (h : xs.length ≤ cap) (hu : P.underlying t = some (.slice e)) (hm : (P.info? e).map (·.size) = some size) (hT : appT P t e size bytes = true)
    (hsx : ∀ x, x ∈ xs → x.cells.length = size) (hs : ∀ y, y ∈ ys → y.cells.length = size ∧ y.cells.all AV.one = true) (hb : (xs.length + ys.length) * bytes ≤ 140737488355328) (h63 : xs.length + ys.length ≤ 9223372036854775807) :
    Step P N o env st fun z st' => ∃ b k cap, (xs ++ ys).length ≤ cap ∧ z = ownAV (.row b k cap) size (xs ++ ys) ∧ st' = pre ++ (ownSt (.row b k cap) e size (xs ++ ys) ++ post) := by
  cases ys with
  | nil =>
    intro a w hg next Q hn
    exact S_appendRowNil ho hx hy hu hm a w hg next Q fun z st' v w' ⟨hz, hs'⟩ => hn z st' v w' ⟨b, k, cap, by simpa using h, by rw [hz, List.append_nil]; rfl, by rw [hs', List.append_nil]; exact hst⟩
  | cons z zs => exact S_appendOwn (p := .row b k cap) pre post ho hx hy hst h hT (by simp) hsx hs hb h63
/-- A pointer to cells of one's own, as one to cells that stay. -/
theorem Conv.ipT {st' : St} {b : Nat} {cs : List AV} (h : Sub st' st) (hb : (b, Ob.cells cs) ∈ st) (hn : (st.map (·.1)).Nodup → ∀ o, (b, o) ∉ st') : Conv st st' (.ptr b 0) (.ip cs) := fun w v hr h1 =>
  Conv.ip h hb (hn hr.nodup) rfl (fun i c d hc hd => by rw [hc] at hd; cases hd; exact Conv.refl h c) w v hr h1
end
end Go.AL
