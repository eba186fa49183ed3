/-
The logic AL: loops and meetings where most of what was known stays known; slices read as lists of one's own values.
Conditions: none; no program is in sight.
-/
import Derived.Test.YtnjlecejhnoicaaDoorAlMeth
import Derived.Test.YtnjlecejhnoicaaDoorAlAgg
import Derived.Test.YtnjlecejhnoicaaDoorAlVec
import Derived.Test.YtnjlecejhnoicaaDoorAlTab
import Derived.Test.YtnjlecejhnoicaaDoorAlErr
import Derived.Test.YtnjlecejhnoicaaDoorFailLem
set_option linter.unusedVariables false
set_option linter.unusedSimpArgs false
namespace Go.AL
open Go.RowKit
section
variable {P : Program} {N : Nat} {Q : Post} {env : Env} {st : St}
theorem EnvLe.app {e a b : Env} (h : EnvLe e a) (k : EnvLe e b) : EnvLe e (a ++ b) := by
  induction h with
  | nil => exact k
  | cons h1 h2 _ ih => exact .cons h1 h2 ih

theorem AC_loopK {G : Type} {c : Code} (K : Env) (I : G → Prop) (vars : G → Env) (stI : G → St) (m : G → Nat) (g0 : G) (hI : I g0) (hst : Sub (stI g0) st) (hK : EnvLe env K) (henv : EnvLe env (vars g0))
    (round : ∀ g, I g → AC P N c (thenP (fun env' st' => ∃ g', I g' ∧ m g' < m g ∧ Sub (stI g') st' ∧ EnvLe env' (vars g') ∧ EnvLe env' K) Q) (vars g ++ K) (stI g)) : AC P N (.loop c) Q env st :=
  AC_loopS I (fun g => vars g ++ K) stI m g0 hI hst (henv.app hK) fun g hg => (round g hg).mono fun e env' st' hq => by
    cases e with
    | normal => obtain ⟨g', h1, h2, h3, h4, h5⟩ := hq; exact ⟨g', h1, h2, h3, h4.app h5⟩
    | _ => exact hq

theorem AC_joinK {G : Type} {x y : Code} (K : Env) (I : G → Prop) (vars : G → Env) (stI : G → St) (hK : EnvLe env K) (h : AC P N x (thenP (fun env' st' => ∃ g, I g ∧ Sub (stI g) st' ∧ EnvLe env' (vars g) ∧ EnvLe env' K) Q) env st)
    (hy : ∀ g, I g → AC P N y Q (vars g ++ K) (stI g)) : AC P N (.seq x y) Q env st :=
  AC_joinS I (fun g => vars g ++ K) stI (h.mono fun e env' st' hq => by
    cases e with
    | normal => obtain ⟨g', h1, h3, h4, h5⟩ := hq; exact ⟨g', h1, h3, h4.app h5⟩
    | _ => exact hq) hy
end

section
variable {P : Program} {N : Nat} {env : Env} {st : St} {o : Oper}
theorem map_at {α : Type} {f : α → AV} {l : List α} {i : Nat} (h : i < l.length) : (l.map f)[i]? = some (f (l[i]'h)) := by simp [h]

theorem S_elemN {α : Type} {f : α → AV} {l : List α} {t e : TypeId} {x y : Operand} {k : IntKind} {i : Nat} (m : Nat) (ho : o.op = .indexAddr t x y) (hx : AEv env x (.sl (l.map f))) (hy : AEv env y (.int k ((i : Nat) : Int)))
    (hu : P.underlying t = some (.slice e)) (hm : (P.info? e).map (·.size) = some m) (h : i < l.length) (hcm : ∀ a, (f a).cells.length = m) : PStep P N o env st (.ip (f (l[i]'h)).cells) :=
  S_elem m ho hx hy hu hm (by omega) (by rw [Int.toNat_natCast]; exact map_at h) (hcm _)

theorem S_lenM {α : Type} {f : α → AV} {l : List α} {t e : TypeId} {x : Operand} (ho : o.op = .call { callee := .builtin .len, args := #[x], argTypes := #[t] }) (hx : AEv env x (.sl (l.map f))) (hu : P.underlying t = some (.slice e)) : PStep P N o env st (.int .i64 (l.length : Int)) := by
  have h := S_len (P := P) (N := N) (st := st) ho hx hu
  rwa [List.length_map] at h

theorem S_cutM {α : Type} {f : α → AV} {l : List α} {t e : TypeId} {x : Operand} {lo hi : Option Operand} {i j : Nat} (m : Nat) (ho : o.op = .slice t x lo hi none) (hx : AEv env x (.sl (l.map f)))
    (hl : match lo with | none => i = 0 | some l => ∃ k, AEv env l (.int k i)) (hh : match hi with | none => j = l.length | some l => ∃ k, AEv env l (.int k j))
    (hu : P.underlying t = some (.slice e)) (hm : (P.info? e).map (·.size) = some m) (hs : ∀ a, (f a).cells.length = m) (h1 : i ≤ j) (h2 : j ≤ l.length) : PStep P N o env st (.sl (((l.take j).drop i).map f)) := by
  have h := S_cut (P := P) (N := N) (st := st) (i := i) (j := j) m ho hx hl (by cases hi with | none => simpa using hh | some _ => exact hh) hu hm (fun x hx => by obtain ⟨a, _, rfl⟩ := List.mem_map.1 hx; exact hs a) h1 (by simpa using h2)
  rwa [← List.map_take, ← List.map_drop] at h

theorem S_cutLM {α : Type} {f : α → AV} {l : List α} {t e : TypeId} {x lo : Operand} {k : IntKind} {i : Nat} (m : Nat) (ho : o.op = .slice t x (some lo) none none) (hx : AEv env x (.sl (l.map f))) (hl : AEv env lo (.int k ((i : Nat) : Int)))
    (hu : P.underlying t = some (.slice e)) (hm : (P.info? e).map (·.size) = some m) (hs : ∀ a, (f a).cells.length = m) (h1 : i ≤ l.length) : PStep P N o env st (.sl ((l.drop i).map f)) := by
  have h := S_cutM (P := P) (N := N) (st := st) (i := i) (j := l.length) m ho hx ⟨k, hl⟩ rfl hu hm hs h1 (Nat.le_refl _)
  rwa [List.take_length] at h
theorem S_cutHM {α : Type} {f : α → AV} {l : List α} {t e : TypeId} {x hi : Operand} {k : IntKind} {j : Nat} (m : Nat) (ho : o.op = .slice t x none (some hi) none) (hx : AEv env x (.sl (l.map f))) (hh : AEv env hi (.int k ((j : Nat) : Int)))
    (hu : P.underlying t = some (.slice e)) (hm : (P.info? e).map (·.size) = some m) (hs : ∀ a, (f a).cells.length = m) (h1 : j ≤ l.length) : PStep P N o env st (.sl ((l.take j).map f)) :=
  S_cutM (P := P) (N := N) (st := st) (i := 0) (j := j) m ho hx rfl ⟨k, hh⟩ hu hm hs (Nat.zero_le _) h1
theorem S_cutLHM {α : Type} {f : α → AV} {l : List α} {t e : TypeId} {x lo hi : Operand} {k k' : IntKind} {i j : Nat} (m : Nat) (ho : o.op = .slice t x (some lo) (some hi) none) (hx : AEv env x (.sl (l.map f))) (hl : AEv env lo (.int k ((i : Nat) : Int))) (hh : AEv env hi (.int k' ((j : Nat) : Int)))
    (hu : P.underlying t = some (.slice e)) (hm : (P.info? e).map (·.size) = some m) (hs : ∀ a, (f a).cells.length = m) (h0 : i ≤ j) (h1 : j ≤ l.length) : PStep P N o env st (.sl (((l.take j).drop i).map f)) :=
  S_cutM (P := P) (N := N) (st := st) (i := i) (j := j) m ho hx ⟨k, hl⟩ ⟨k', hh⟩ hu hm hs h0 h1

/-- Any two errors' test against nil. -/
theorem own_nil_ok : Own.ok .nil [] := rfl

/-- One's own slice of values grows by some. -/
theorem S_appendM {α : Type} {f : α → AV} {l l2 : List α} {t e size bytes : Nat} {x y : Operand} {p : Own} (pre post : St) (ho : o.op = .call { callee := .builtin .append, args := #[x, y], argTypes := #[t, t] }) (hx : AEv env x (ownAV p size (l.map f))) (hy : AEv env y (.sl (l2.map f))) (hst : st = pre ++ (ownSt p e size (l.map f) ++ post)) (h : p.ok (l.map f)) (hT : appT P t e size bytes = true) (hne : l2 ≠ [])
    (hs : ∀ a, (f a).cells.length = size ∧ (f a).cells.all AV.one = true) (hb : (l.length + l2.length) * bytes ≤ 140737488355328) (h63 : l.length + l2.length ≤ 9223372036854775807) :
    Step P N o env st fun z st' => ∃ b k cap, Own.ok (.row b k cap) ((l ++ l2).map f) ∧ z = ownAV (.row b k cap) size ((l ++ l2).map f) ∧ st' = pre ++ (ownSt (.row b k cap) e size ((l ++ l2).map f) ++ post) := by
  have h := S_appendOwn (P := P) (N := N) (env := env) (xs := l.map f) (ys := l2.map f) pre post ho hx hy hst h hT (by simpa using hne) (fun x hx => by obtain ⟨a, _, rfl⟩ := List.mem_map.1 hx; exact (hs a).1) (fun x hx => by obtain ⟨a, _, rfl⟩ := List.mem_map.1 hx; exact hs a) (by simpa using hb) (by simpa using h63)
  intro a w hg next Q hn
  refine h a w hg next Q fun z st' v w' hk => ?_
  obtain ⟨b, k, cap, h1, h2, h3⟩ := hk
  refine hn z st' v w' ⟨b, k, cap, ?_, ?_, ?_⟩
  · rw [List.map_append]; exact h1
  · rw [List.map_append]; exact h2
  · rw [List.map_append]; exact h3
theorem S_storeW {t : TypeId} {x y : Operand} {b : Nat} {cs ds : List AV} (n : Nat) (ho : o.op = .store t x y) (hx : AEv env x (.ptr b 0)) (hy : AEv env y (.agg ds)) (hst : st[n]? = some (b, .cells cs)) (hl : ds.length = cs.length) (hone : ds.all AV.one = true)
    (hi : (P.info? t).map (·.size) = some ds.length) : Step P N o env st fun x st' => x = .any ∧ st' = st.set n (b, .cells ds) := by
  have h := S_storeN (P := P) (N := N) n ho hx hy hst (by omega) hone hi
  have e : putAt cs 0 ds = ds := by
    unfold putAt
    rw [List.take_zero, List.nil_append, Nat.zero_add, List.drop_of_length_le (by omega), List.append_nil]
  rwa [e] at h
theorem take_snoc {α : Type} {l : List α} {i : Nat} (h : i < l.length) : l.take i ++ [l[i]'h] = l.take (i + 1) := (List.take_succ_eq_append_getElem h).symm

/-- One's own slice takes the next of another list's values. -/
theorem S_appendT {α : Type} {f : α → AV} {l : List α} {i : Nat} {t e size bytes : Nat} {x y : Operand} {p : Own} (h1 : i < l.length) (pre post : St) (ho : o.op = .call { callee := .builtin .append, args := #[x, y], argTypes := #[t, t] }) (hx : AEv env x (ownAV p size ((l.take i).map f))) (hy : AEv env y (.sl [f (l[i]'h1)])) (hst : st = pre ++ (ownSt p e size ((l.take i).map f) ++ post)) (h : p.ok ((l.take i).map f)) (hT : appT P t e size bytes = true)
    (hs : ∀ a, (f a).cells.length = size ∧ (f a).cells.all AV.one = true) (hb : (i + 1) * bytes ≤ 140737488355328) (h63 : i + 1 ≤ 9223372036854775807) :
    Step P N o env st fun z st' => ∃ b k cap, Own.ok (.row b k cap) ((l.take (i + 1)).map f) ∧ z = ownAV (.row b k cap) size ((l.take (i + 1)).map f) ∧ st' = pre ++ (ownSt (.row b k cap) e size ((l.take (i + 1)).map f) ++ post) := by
  have hl : (l.take i).length = i := by rw [List.length_take]; omega
  have h := S_appendM (P := P) (N := N) (env := env) (l := l.take i) (l2 := [l[i]'h1]) pre post ho hx hy hst h hT (by simp) hs (by rw [hl]; exact hb) (by rw [hl]; exact h63)
  rwa [take_snoc h1] at h
theorem S_appendNN {t e : TypeId} {size : Nat} {x y : Operand} (ho : o.op = .call { callee := .builtin .append, args := #[x, y], argTypes := #[t, t] }) (hx : AEv env x .nils) (hy : AEv env y (.sl [])) (hu : P.underlying t = some (.slice e)) (hm : (P.info? e).map (·.size) = some size) :
    PStep P N o env st .nils :=
  .of_val fun a w hg => by
    have e1 := (hx _ _ _ _ hg).lit_inv
    obtain ⟨B, cap, e2, _⟩ := sl_inv (hy _ _ _ _ hg)
    cases hq : P.info? e with
    | none => simp [hq] at hm
    | some q =>
      have hqm : q.size = size := by simpa [hq] using hm
      refine ⟨.slice none 0 0, ?_, .lit _⟩
      simp only [execOp, ho, resolve, invoke, builtin, Sem.run_bind, Sem.run_pure, Result.andThen_ok, List.map_toArray, List.map_cons, List.map_nil, e1, e2]
      cases B <;> simp [Builtin.append_, run_underlying hu, sizeOf, typeInfo, hq, Builtin.lenOf, Builtin.firstCells, loadCells, loadCellsFrom, storeCells]

/-- One's own slice, nil or not, grows by any others, or none. -/
theorem S_appendAny {α : Type} {f : α → AV} {l l2 : List α} {t e size bytes : Nat} {x y : Operand} {p : Own} (pre post : St) (ho : o.op = .call { callee := .builtin .append, args := #[x, y], argTypes := #[t, t] }) (hx : AEv env x (ownAV p size (l.map f))) (hy : AEv env y (.sl (l2.map f))) (hst : st = pre ++ (ownSt p e size (l.map f) ++ post)) (h : p.ok (l.map f)) (hT : appT P t e size bytes = true)
    (hs : ∀ a, (f a).cells.length = size ∧ (f a).cells.all AV.one = true) (hb : (l.length + l2.length) * bytes ≤ 140737488355328) (h63 : l.length + l2.length ≤ 9223372036854775807) :
    Step P N o env st fun z st' => ∃ p' : Own, p'.ok ((l ++ l2).map f) ∧ z = ownAV p' size ((l ++ l2).map f) ∧ st' = pre ++ (ownSt p' e size ((l ++ l2).map f) ++ post) := by
  by_cases hn : l2 = []
  · subst hn
    have hA := appT_spec hT
    have hu : P.underlying t = some (.slice e) := hA.under
    have hm : (P.info? e).map (·.size) = some size := by obtain ⟨i, z, h1, h2, h3, h4, h5⟩ := hA.info; rw [h1]; simp [h3]
    rw [List.append_nil]
    have hk : PStep P N o env st (ownAV p size (l.map f)) := by
      cases p with
      | nil => exact S_appendNN ho hx hy hu hm
      | row b k cap => exact S_appendRowNil ho hx hy hu hm
      | emp A => exact S_append0 ho hx hy hu hm
    intro a w hg next Q hn
    exact hk a w hg next Q fun z st' v w' ⟨hz, hs'⟩ => hn z st' v w' ⟨p, h, hz, hs'.trans hst⟩
  · intro a w hg next Q hnx
    refine S_appendM pre post ho hx hy hst h hT hn hs hb h63 a w hg next Q fun z st' v w' hk => ?_
    obtain ⟨b, k, cap, h1, h2, h3⟩ := hk
    exact hnx z st' v w' ⟨.row b k cap, h1, h2, h3⟩
theorem gd_nf {b : Bool} (h : gd (!b) false = true) : b = true := by simpa [gd] using h
theorem gd_nt {b : Bool} (h : gd (!b) true = true) : b = false := by simpa [gd] using h
end
end Go.AL
