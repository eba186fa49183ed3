/-
What the error of containers is.
Conditions: none; no program is in sight.
-/
import Derived.Test.YtnjlecejhnoicaaDoorSpecLem3
set_option linter.unusedVariables false
set_option linter.unusedSimpArgs false
namespace Go.AL
open Go.RowKit Go.NumSpec
theorem firstE_none : ∀ {es : List Er}, firstE es = none → ∀ e ∈ es, e = none
  | [], _, e, he => by cases he
  | a :: es, h, e, he => by
    cases a with
    | some x => cases h
    | none =>
      rcases List.mem_cons.1 he with rfl | he
      · rfl
      · exact firstE_none (es := es) h e he
theorem ctrE_port {ns : List (List UInt8)} {ps : List Int} {c : Ctr} {ports every : Int} (h : ctrE ns ps c ports every = none) : portE ps c.ports ports = none := firstE_none h _ (by simp)
def namesTo (ns : List (List UInt8)) (l : List Ctr) (i : Nat) : List (List UInt8) := ns ++ (l.take i).map Ctr.name
def portsTo (ps : List Int) (l : List Ctr) (i : Nat) : List Int := ps ++ (l.take i).flatMap Ctr.ports
def ctrAt (ns : List (List UInt8)) (ps : List Int) (l : List Ctr) (ports every : Int) (i : Nat) : Er := match l[i]? with | some c => ctrE (namesTo ns l i) (portsTo ps l i) c ports every | none => none
def ctrsE (name : List UInt8) (ns : List (List UInt8)) (ps : List Int) (l : List Ctr) (ports every : Int) : Er := eachE l.length fun i => erIn (ctrAt ns ps l ports every i) (atT name (i : Int))
theorem ctrAt_at {ns : List (List UInt8)} {ps : List Int} {l : List Ctr} {ports every : Int} {i : Nat} (h : i < l.length) : ctrAt ns ps l ports every i = ctrE (namesTo ns l i) (portsTo ps l i) l[i] ports every := by
  unfold ctrAt; rw [List.getElem?_eq_getElem h]
theorem namesTo_next {ns : List (List UInt8)} {l : List Ctr} {i : Nat} (h : i < l.length) : namesTo ns l (i + 1) = namesTo ns l i ++ [l[i].name] := by
  unfold namesTo; rw [List.take_succ_eq_append_getElem h, List.map_append, ← List.append_assoc]; rfl
theorem portsTo_next {ps : List Int} {l : List Ctr} {i : Nat} (h : i < l.length) : portsTo ps l (i + 1) = portsTo ps l i ++ l[i].ports := by
  unfold portsTo; rw [List.take_succ_eq_append_getElem h, List.flatMap_append, ← List.append_assoc, List.flatMap_singleton]
theorem flat_le {l : List Ctr} (h : ∀ c ∈ l, c.ports.length ≤ 10) : (l.flatMap Ctr.ports).length ≤ 10 * l.length := by
  induction l with
  | nil => simp
  | cons c l ih =>
    have h1 := h c List.mem_cons_self
    have h2 := ih fun x hx => h x (List.mem_cons_of_mem _ hx)
    simp only [List.flatMap_cons, List.length_append, List.length_cons]
    omega
theorem portsTo_le {ps : List Int} {l : List Ctr} {i : Nat} (h : ∀ c ∈ l, c.ports.length ≤ 10) (hl : l.length ≤ 8) (hp : ps.length ≤ 100) : (portsTo ps l i).length ≤ 180 := by
  have h1 := flat_le (l := l.take i) fun c hc => h c (List.mem_of_mem_take hc)
  have h2 : (l.take i).length ≤ l.length := by rw [List.length_take]; omega
  unfold portsTo
  rw [List.length_append]
  omega
theorem namesTo_le {ns : List (List UInt8)} {l : List Ctr} {i : Nat} (hl : l.length ≤ 8) (hp : ns.length ≤ 100) : (namesTo ns l i).length ≤ 108 := by
  have h2 : (l.take i).length ≤ l.length := by rw [List.length_take]; omega
  unfold namesTo
  rw [List.length_append, List.length_map]
  omega
end Go.AL
