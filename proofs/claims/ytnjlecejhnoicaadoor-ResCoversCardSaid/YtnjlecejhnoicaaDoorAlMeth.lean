/-
The logic AL: methods over memory: comparing with nil, slices of one's own built, cut and appended nothing to, calls that need a part of the state.
Conditions: none; no program is in sight.
-/
import Derived.Test.YtnjlecejhnoicaaDoorAlApp
set_option linter.unusedVariables false
set_option linter.unusedSimpArgs false
namespace Go.AL
open Go.RowKit

section
variable {P : Program} {N : Nat} {env : Env} {st : St} {o : Oper} {w : World}

theorem ownAV_one (p : Own) (size : Nat) (xs : List AV) : (ownAV p size xs).one = true := by cases p <;> rfl

/-! Comparing with nil -/
def isPtr (P : Program) (t : TypeId) : Bool := match P.underlying t with | some (.pointer _) => true | _ => false
theorem isPtr_spec {t : TypeId} (h : isPtr P t = true) : ∃ e, P.underlying t = some (.pointer e) := by
  unfold isPtr at h
  cases hu : P.underlying t with
  | none => simp [hu] at h
  | some d => cases d <;> simp [hu] at h; exact ⟨_, rfl⟩
theorem run_eqIn_ptr_nil {t : TypeId} {a : Addr} (d : Nat) (w : World) (h : isPtr P t = true) : (Op.equalIn (d + 1) t (.pointer (some a)) (.pointer none)).run P w = .ok false w := by
  obtain ⟨e, hu⟩ := isPtr_spec h
  simp [Op.equalIn, run_underlying hu]
theorem run_eq_ptr_nil {t : TypeId} {a : Addr} (w : World) (h : isPtr P t = true) : (Op.equal t (.pointer (some a)) (.pointer none)).run P w = .ok false w := run_eqIn_ptr_nil 9999 w h
theorem run_eqIn_sl_nil {t e : TypeId} {A : Option Addr} {n c : Nat} (d : Nat) (w : World) (hu : P.underlying t = some (.slice e)) : (Op.equalIn (d + 1) t (.slice A n c) (.slice none 0 0)).run P w = .ok A.isNone w := by
  cases A <;> simp [Op.equalIn, run_underlying hu]
theorem run_eq_sl_nil {t e : TypeId} {A : Option Addr} {n c : Nat} (w : World) (hu : P.underlying t = some (.slice e)) : (Op.equal t (.slice A n c) (.slice none 0 0)).run P w = .ok A.isNone w := run_eqIn_sl_nil 9999 w hu
theorem S_eqlNil {t t2 : TypeId} {x y : Operand} {b off : Nat} (ho : o.op = .binOp .eql t x y t2) (hx : AEv env x (.ptr b off)) (hy : AEv env y (.lit (.pointer none))) (hu : isPtr P t = true) : PStep P N o env st (.bool false) :=
  S_bin ho hx hy (eqGuard_at_pointer ..) fun w => by simp only [binOp, Sem.run_bind, run_eq_ptr_nil w hu, Result.andThen_ok, Sem.run_pure]
theorem S_neqNil {t t2 : TypeId} {x y : Operand} {b off : Nat} (ho : o.op = .binOp .neq t x y t2) (hx : AEv env x (.ptr b off)) (hy : AEv env y (.lit (.pointer none))) (hu : isPtr P t = true) : PStep P N o env st (.bool true) :=
  S_bin ho hx hy (eqGuard_at_pointer ..) fun w => by simp only [binOp, Sem.run_bind, run_eq_ptr_nil w hu, Result.andThen_ok, Sem.run_pure]; rfl

/-- A slice against nil: what is true is known only where it holds something. -/
theorem S_eqlNilSl {t t2 e : TypeId} {x y : Operand} {xs : List AV} (ho : o.op = .binOp .eql t x y t2) (hx : AEv env x (.sl xs)) (hy : AEv env y .nils) (hu : P.underlying t = some (.slice e)) : Step P N o env st fun z st' => ∃ c, z = .bool c ∧ (c = true → xs = []) ∧ st' = st := by
  intro a w hg next Q hn
  have e2 := (hy _ _ _ _ hg).lit_inv
  obtain ⟨A, cap, e1, hne⟩ := sl_inv (hx _ _ _ _ hg)
  have hrun : (execOp a.eval o).run P w = .ok (.value (.bool A.isNone)) w := by
    simp only [execOp, ho, e1, e2, eqGuard_at_slice, Sem.run_bind, Sem.run_pure, Result.andThen_ok, binOp, run_eq_sl_nil w hu]
  unfold Oper.wp
  rw [hrun]
  refine hn (.bool A.isNone) st _ w ⟨A.isNone, rfl, fun hc => ?_, rfl⟩ (.lit _) hg.rel (.refl _ _)
  rcases Decidable.em (xs = []) with h | h
  · exact h
  · obtain ⟨b, off, size, f, rfl, _⟩ := hne h
    simp at hc

/-! Own slices -/
/-- To append nothing. -/
theorem S_append0 {t e : TypeId} {size : Nat} {x y : Operand} {A : Addr} (ho : o.op = .call { callee := .builtin .append, args := #[x, y], argTypes := #[t, t] }) (hx : AEv env x (.lit (.slice (some A) 0 0))) (hy : AEv env y (.sl [])) (hu : P.underlying t = some (.slice e)) (hm : (P.info? e).map (·.size) = some size) :
    PStep P N o env st (.lit (.slice (some A) 0 0)) :=
  .of_val fun a w hg => by
    have e1 := (hx _ _ _ _ hg).lit_inv
    obtain ⟨B, cap, e2, _⟩ := sl_inv (hy _ _ _ _ hg)
    cases hq : P.info? e with
    | none => simp [hq] at hm
    | some q =>
      have hqm : q.size = size := by simpa [hq] using hm
      refine ⟨.slice (some A) 0 0, ?_, .lit _⟩
      simp only [execOp, ho, resolve, invoke, builtin, Sem.run_bind, Sem.run_pure, Result.andThen_ok, List.map_toArray, List.map_cons, List.map_nil, e1, e2]
      cases B <;> simp [Builtin.append_, run_underlying hu, sizeOf, typeInfo, hq, Builtin.lenOf, Builtin.firstCells, loadCells, loadCellsFrom, storeCells]

/-- Nothing, in a slice that is not nil. -/
theorem S_build0 {t e : TypeId} {parts : List (Nat × Operand)} (ho : o.op = .buildSlice t 0 parts.toArray) (hp : parts = []) (hu : P.underlying t = some (.slice e)) (hz : (P.info? e).isSome = true) :
    Step P N o env st fun z st' => ∃ A, z = .lit (.slice (some A) 0 0) ∧ st' = st := by
  subst hp
  intro a w hg next Q hn
  obtain ⟨i, hi⟩ := Option.isSome_iff_exists.1 hz
  have hrun : (execOp a.eval o).run P w = .ok (.value (.slice (some ⟨w.heap.size, 0, none⟩) 0 0)) (w.alloc (.cells #[] e)) := by
    simp [execOp, ho, Instr.buildSlice, run_underlying hu, sizeOf, typeInfo, hi, Instr.fill, newRow]
    congr 2
    exact Array.eq_empty_of_size_eq_zero (by simp)
  unfold Oper.wp
  rw [hrun]
  obtain ⟨h1, h2⟩ := alloc_rel hg.rel (T := e) (ob := .cells []) (vs := #[]) ⟨rfl, fun i c v hc => by simp at hc⟩
  have hd : List.Sublist st ((w.heap.size, Ob.cells []) :: st) := List.Sublist.cons _ (List.Sublist.refl _)
  exact hn _ _ _ _ ⟨_, rfl, rfl⟩ (.lit _) (h1.drop hd) (h2.trans (Ext.drop hd) hg.rel.nodup)

/-- A literal slice that may be appended to. -/
theorem S_buildOwn {t e : TypeId} {n : Nat} {parts : List (Nat × Operand)} {ys : List AV} (m : Nat) (ho : o.op = .buildSlice t n parts.toArray) (hxs : AEvs env (parts.map (·.2)) ys) (hp : parts.map (·.1) = List.range n) (hu : P.underlying t = some (.slice e))
    (hz : (P.info? e).map (fun i => (i.size, i.zero.map (·.cells.size))) = some (m, some m)) (hm : ∀ y ∈ ys, y.flat = true ∧ y.cells.length = m) (hpos : 0 < m) (hn : 0 < n) (hsm : n * m ≤ 2 ^ 24) :
    Step P N o env st fun z st' => ∃ b, z = .row b 0 n ys ∧ st' = (b, .grow e m ys.length n) :: st := by
  intro a w hg next Q hnx
  obtain ⟨hl, hr⟩ := hxs.at_ hg
  have hpl : parts.length = n := by have := congrArg List.length hp; simpa using this
  have hyl : ys.length = n := by have := hl; simp at this; omega
  obtain ⟨i, hi⟩ : ∃ i, P.info? e = some i := by cases h : P.info? e with | none => simp [h] at hz | some i => exact ⟨i, rfl⟩
  have hz1 : i.size = m := by simp [hi] at hz; exact hz.1
  obtain ⟨z, hzz⟩ : ∃ z, i.zero = some z := by cases h : i.zero with | none => simp [hi, h] at hz | some z => exact ⟨z, rfl⟩
  let vs := parts.map fun p => a.eval p.2
  have hvs : vs.length = n := by simp [vs, hpl]
  have hpe : (parts.map fun p => (p.1, a.eval p.2)) = (vs.zipIdx 0).map fun x => (x.2, x.1) := by
    refine List.ext_getElem? fun k => ?_
    simp only [List.getElem?_map, List.getElem?_zipIdx, vs]
    cases hk : parts[k]? with
    | none => simp
    | some p =>
      have h1 := congrArg (fun l => l[k]?) hp
      have hkn : k < n := by have := (List.getElem?_eq_some_iff.1 hk).1; omega
      simp [hk, hkn] at h1
      simp [h1]
  have hr' : ∀ (k : Nat) y v, ys[k]? = some y → vs[k]? = some v → R st w y v := fun k y v hy hv => by
    simp only [vs, List.getElem?_map] at hv
    cases hk : parts[k]? with
    | none => simp [hk] at hv
    | some p =>
      simp [hk] at hv
      subst hv
      exact hr k y p.2 hy (by simp [hk])
  have hvm : ∀ v ∈ vs, v.cells.size = m := fun v hv => by
    obtain ⟨k, hk⟩ := List.mem_iff_getElem?.1 hv
    have hlt : k < ys.length := by have := (List.getElem?_eq_some_iff.1 hk).1; omega
    have hy := hm ys[k] (List.getElem_mem hlt)
    rw [((hr' k ys[k] v (List.getElem?_eq_getElem hlt) hk).cells hy.1).1, hy.2]
  have hnm : n * m ≠ 0 := Nat.mul_ne_zero (by omega) (by omega)
  have hfill := Go.Great.fill_whole hpos vs ((Array.range (n * i.size)).map (z.cells[· % z.cells.size]!)) hvm (by simp [hvs, hz1])
  let ws : Array Value := (vs.flatMap fun v => v.cells.toList).toArray
  have hwsz : ∀ l : List Value, (∀ v ∈ l, v.cells.size = m) → (l.flatMap fun v => v.cells.toList).length = l.length * m := fun l => by
    induction l with
    | nil => intro _; simp
    | cons v l ih =>
      intro h
      rw [List.flatMap_cons, List.length_append, ih fun x hx => h x (List.mem_cons_of_mem _ hx), List.length_cons, Nat.add_mul, Array.length_toList, h v List.mem_cons_self]
      omega
  have hws : ∀ (l : List Value), (∀ v ∈ l, v.cells.size = m) → ∀ (k j : Nat) v u, l[k]? = some v → v.cells[j]? = some u → (l.flatMap fun v => v.cells.toList)[k * m + j]? = some u := fun l => by
    induction l with
    | nil => intro _ k j v u h; simp at h
    | cons v l ih =>
      intro h k j x u hx hu'
      rw [List.flatMap_cons]
      have hv := h v List.mem_cons_self
      cases k with
      | zero =>
        simp at hx; subst hx
        have hj : j < v.cells.toList.length := by have := (Array.getElem?_eq_some_iff.1 hu').1; simpa using this
        rw [Nat.zero_mul, Nat.zero_add, List.getElem?_append_left hj]
        simpa using hu'
      | succ k =>
        have := ih (fun y hy => h y (List.mem_cons_of_mem _ hy)) k j x u (by simpa using hx) hu'
        rw [List.getElem?_append_right (by rw [Array.length_toList, hv, Nat.add_mul]; omega), Array.length_toList, hv, Nat.add_mul, Nat.one_mul, show k * m + m + j - m = k * m + j by omega]
        exact this
  have hsz : ws.size = n * m := by simp only [ws, List.size_toArray]; rw [hwsz vs hvm, hvs]
  have hrun : (execOp a.eval o).run P w = .ok (.value (.slice (some ⟨w.heap.size, 0, none⟩) n n)) (w.alloc (.cells ws e)) := by
    have := run_buildSlice (P := P) w t e n ((parts.map fun p => (p.1, a.eval p.2)).toArray) _ i z hu hi hzz (by rw [hz1]; omega) (by rw [hz1]; exact hnm) (by rw [List.toList_toArray, hpe, hz1]; rw [hz1] at hfill; exact hfill)
    simp only [execOp, ho, Sem.run_bind, List.map_toArray]
    rw [this]
    simp [ws]
  by_cases hcap : n ≤ maxLen
  · obtain ⟨k1, k2⟩ := alloc_rel hg.rel (T := e) (ob := .grow e m ys.length n) (vs := ws) ⟨rfl, hsz, by omega, hcap⟩
    unfold Oper.wp
    rw [hrun]
    refine hnx _ _ _ _ ⟨w.heap.size, rfl, rfl⟩ ?_ k1 k2
    have hrow := row_of (k := 0) (e := e) (cap := n) (size := m) (xs := ys) (by simp) k1 (heap_alloc_new w _) (by omega) (fun k y h => (hm y (List.mem_of_getElem? h)).2) fun k y j c hy' hc => by
      have hlt : k < vs.length := by have := (List.getElem?_eq_some_iff.1 hy').1; omega
      have hv := List.getElem?_eq_getElem hlt
      have hyv := hr' k y vs[k] hy' hv
      obtain ⟨c1, c2⟩ := hyv.cells (hm y (List.mem_of_getElem? hy')).1
      have hj : j < (vs[k]).cells.size := by rw [c1]; exact (List.getElem?_eq_some_iff.1 hc).1
      refine ⟨(vs[k]).cells[j], ?_, (c2 j c _ hc (by simp [hj])).mono k2 hg.rel.nodup⟩
      rw [Nat.zero_mul, Nat.zero_add]
      have := hws vs hvm k j vs[k] ((vs[k]).cells[j]) hv (by simp [hj])
      simpa [ws] using this
    simp only [Nat.zero_mul, Nat.zero_add, hyl] at hrow ⊢
    exact hrow
  · exfalso
    have h1 : n ≤ n * m := Nat.le_mul_of_pos_right n hpos
    have : (2 : Nat) ^ 24 = 16777216 := by decide
    simp only [maxLen] at hcap
    omega

/-- The end of a slice of one's own. -/
theorem S_cutOwn {t e : TypeId} {x lo : Operand} {ki : IntKind} {xs : List AV} {i m b k cap : Nat} (ho : o.op = .slice t x (some lo) none none) (hx : AEv env x (.row b (k * m) cap xs)) (hl : AEv env lo (.int ki i))
    (hu : P.underlying t = some (.slice e)) (hm : (P.info? e).map (·.size) = some m) (hs : ∀ x, x ∈ xs → x.cells.length = m) (hi : i ≤ xs.length) (hcap : xs.length ≤ cap) : PStep P N o env st (ownAV (if cap = i then .emp ⟨b, k * m, none⟩ else .row b (k + i) (cap - i)) m (xs.drop i)) := by
  have key : ∀ a w, Good N env st a w → (execOp a.eval o).run P w = .ok (.value (.slice (if cap = i then some ⟨b, k * m, none⟩ else some ⟨b, k * m + i * m, none⟩) (xs.length - i) (cap - i))) w := fun a w hg => by
    have hr := hx _ _ _ _ hg
    obtain ⟨e1, _⟩ := row_inv hr
    have e3 := (hl _ _ _ _ hg).lit_inv
    cases hq : P.info? e with
    | none => simp [hq] at hm
    | some q =>
      have hqm : q.size = m := by simpa [hq] using hm
      simp only [execOp, ho, e1, Instr.sliceAt, Instr.slice, Sem.run_bind, run_underlying hu, Result.andThen_ok, Option.map_none, Option.map_some, e3]
      simp only [Instr.sliceBounds, Sem.run_bind, Sem.run_pure, Result.andThen_ok]
      have hb := run_sliceBound (P := P) w ki (i : Int) xs.length .sliceB (by omega) (by omega)
      simp [hb, sizeOf, typeInfo, hq, hqm, Addr.add_mid]
  intro a w hg next Q hn
  have hrun := key a w hg
  unfold Oper.wp
  rw [hrun]
  refine hn _ _ _ w ⟨rfl, rfl⟩ ?_ hg.rel (.refl _ _)
  by_cases hc : cap = i
  · rw [if_pos hc, if_pos hc, show xs.length - i = 0 by omega, show cap - i = 0 by omega]
    exact .lit _
  · rw [if_neg hc, if_neg hc]
    have hr := hx _ _ _ _ hg
    generalize a.eval x = v at hr
    cases hr with
    | row _ _ _ _ sz f h1 h2 h3 h4 =>
      have hlen : (xs.drop i).length = xs.length - i := by simp
      by_cases h0 : xs.length = i
      · have hnil : xs.drop i = [] := List.drop_eq_nil_of_le (by omega)
        have h := R.row (st := st) (w := w) (xs.drop i) b ((k + i) * m) (cap - i) m f (by rw [hlen]; omega) (fun q x hq => by rw [hnil] at hq; simp at hq) (fun q x j c hq => by rw [hnil] at hq; simp at hq) (fun q x j c hq => by rw [hnil] at hq; simp at hq)
        rw [hlen, Nat.add_mul] at h
        simp only [ownAV, Nat.add_mul]
        exact h
      · have hszm : sz = m := by
          have h0 : 0 < xs.length := by omega
          have := h2 0 xs[0] (List.getElem?_eq_getElem h0)
          rw [hs _ (List.getElem_mem h0)] at this
          exact this.symm
        subst hszm
        have at_ : ∀ (q : Nat) x, (xs.drop i)[q]? = some x → xs[i + q]? = some x := fun q x hq => by rw [List.getElem?_drop] at hq; exact hq
        have h := R.row (st := st) (w := w) (xs.drop i) b (k * sz + i * sz) (cap - i) sz (fun q => f (i * sz + q)) (by rw [hlen]; omega) (fun q x hq => h2 _ x (at_ q x hq)) (fun q x j c hq hcc => by
          have := h3 (i + q) x j c (at_ q x hq) hcc
          rw [Nat.add_mul] at this
          rw [show k * sz + i * sz + q * sz + j = k * sz + (i * sz + q * sz) + j by omega, show i * sz + (q * sz + j) = i * sz + q * sz + j by omega]
          exact this) (fun q x j c hq hcc => by
          have := h4 (i + q) x j c (at_ q x hq) hcc
          rw [Nat.add_mul] at this
          rw [show i * sz + (q * sz + j) = i * sz + q * sz + j by omega]
          exact this)
        rw [hlen] at h
        simp only [ownAV, Nat.add_mul]
        exact h

/-- To append all of a slice to one without room. -/
theorem S_appendEmpAll {t e size bytes : Nat} {A : Addr} {x y : Operand} {ys : List AV} (ho : o.op = .call { callee := .builtin .append, args := #[x, y], argTypes := #[t, t] }) (hx : AEv env x (.lit (.slice (some A) 0 0))) (hy : AEv env y (.sl ys)) (hT : appT P t e size bytes = true)
    (hs : ∀ y, y ∈ ys → y.cells.length = size ∧ y.cells.all AV.one = true) (hb : ys.length * bytes ≤ 140737488355328) (h63 : ys.length ≤ 9223372036854775807) :
    Step P N o env st fun z st' => ∃ p : Own, p.ok ys ∧ z = ownAV p size ys ∧ st' = ownSt p e size ys ++ st := by
  by_cases h : ys = []
  · subst h
    obtain ⟨hu, ⟨i, z, hi, hz, h1, h2, hzs⟩, hpos⟩ := appT_spec hT
    intro a w hg next Q hn
    refine S_append0 ho hx hy hu (size := size) (by rw [hi]; simpa using h1) a w hg next Q ?_
    rintro z st' v w' ⟨rfl, rfl⟩ hr hrel hxx
    exact hn _ _ v w' ⟨.emp A, rfl, rfl, rfl⟩ hr hrel hxx
  · intro a w hg next Q hn
    refine S_appendEmp ho hx hy hT h hs hb h63 a w hg next Q ?_
    rintro z st' v w' ⟨b, cap, rfl, rfl⟩ hr hrel hxx
    refine hn (.row b 0 cap ys) _ v w' ⟨.row b 0 cap, (row_inv hr).2, by simp [ownAV], ?_⟩ hr hrel hxx
    simp [ownSt]

/-- A call that needs a part of the state, in some order. -/
theorem S_callP {f : FuncId} {xs : List Operand} {ts : Array TypeId} {args : List AV} {foot : St} {K : AV → St → Prop} (ho : o.op = .call { callee := .value (.func f), args := xs.toArray, argTypes := ts }) (hargs : AEvs env xs args) (hp : st.Perm foot) (hc : ACalls P f args foot K) : Step P N o env st K := by
  intro a w hg next Q hn
  have hsub : ∀ p, p ∈ foot → p ∈ st := fun p h => hp.mem_iff.2 h
  have hnd := (hp.map (·.1)).nodup_iff.1 hg.rel.nodup
  have hx : Ext st w foot w := Ext.sub hsub
  have hg2 : Good N env foot a w := ⟨hg.size, hg.defers, fun i x h => let ⟨v, h1, h2⟩ := hg.env i x h; ⟨v, h1, h2.mono hx hg.rel.nodup⟩, hg.rel.sub hsub hnd⟩
  exact S_call ho hargs hc a w hg2 next Q fun x st' v w' hk hr hrel hxx => hn x st' v w' hk hr hrel (hx.trans hxx hg.rel.nodup)

/-- A step that leaves the state. -/
theorem S_keep {V : AV} {K : AV → St → Prop} (h : Step P N o env st K) (hk : ∀ x st', K x st' → x = V ∧ st' = st) : PStep P N o env st V := fun a w hg next Q hn => h a w hg next Q fun x st' v w' k => hn x st' v w' (hk x st' k)

/-- A contract over the front of a state serves wherever that part lies. -/
theorem ACalls.pre {f : FuncId} {args : List AV} {foot : St} {K : AV → St → Prop} (h : ∀ F, ACalls P f args (foot ++ F) fun x st' => ∃ foot', K x foot' ∧ st' = foot' ++ F) (pre F : St) : ACalls P f args (pre ++ (foot ++ F)) fun x st' => ∃ foot', K x foot' ∧ st' = pre ++ (foot' ++ F) := by
  have perm : ∀ (a : St), (pre ++ (a ++ F)).Perm (a ++ (pre ++ F)) := fun a => by
    rw [← List.append_assoc, ← List.append_assoc]
    exact List.Perm.append_right F List.perm_append_comm
  have hc := h (pre ++ F)
  refine ⟨hc.enters, fun w vs hrel hs hr => ?_⟩
  have hx : Ext (pre ++ (foot ++ F)) w (foot ++ (pre ++ F)) w := Ext.sub fun p hp => (perm foot).mem_iff.2 hp
  have hrel2 : Rel (foot ++ (pre ++ F)) w := hrel.sub (fun p hp => (perm foot).mem_iff.2 hp) (((perm foot).map (·.1)).nodup_iff.1 hrel.nodup)
  refine (hc.calls w vs hrel2 hs fun i x v h1 h2 => (hr i x v h1 h2).mono hx hrel.nodup).mono ?_
  rintro e w' ⟨r, x, st', he, ⟨foot', hk, rfl⟩, hr', hrel', hext⟩
  have hy : Ext (foot' ++ (pre ++ F)) w' (pre ++ (foot' ++ F)) w' := Ext.sub fun p hp => (perm foot').mem_iff.1 hp
  exact ⟨r, x, _, he, ⟨foot', hk, rfl⟩, hr'.mono hy hrel'.nodup, hrel'.sub (fun p hp => (perm foot').mem_iff.1 hp) (((perm foot').map (·.1)).nodup_iff.2 hrel'.nodup), (hx.trans hext hrel.nodup).trans hy hrel.nodup⟩
end
end Go.AL
