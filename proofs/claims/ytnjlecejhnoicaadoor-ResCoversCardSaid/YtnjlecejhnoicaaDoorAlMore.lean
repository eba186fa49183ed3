/-
The logic AL: calls of functions that only compute; parts of tuples; the greater and the lesser of two.
Conditions: none; no program is in sight.
-/
import Derived.Test.YtnjlecejhnoicaaDoorAlDraw
set_option linter.unusedVariables false
set_option linter.unusedSimpArgs false
namespace Go.AL
open Go.RowKit

section
variable {P : Program} {N : Nat} {env : Env} {st : St} {o : Oper}

/-- A function that answers V, in whatever state, and leaves the state. -/
def PCalls (P : Program) (f : FuncId) (args : List AV) (V : AV) : Prop := ∀ st, ACalls P f args st fun x st' => x = V ∧ st' = st

theorem S_pcall {f : FuncId} {xs : List Operand} {ts : Array TypeId} {args : List AV} {V : AV} (ho : o.op = .call { callee := .value (.func f), args := xs.toArray, argTypes := ts }) (hargs : AEvs env xs args) (hc : PCalls P f args V) : PStep P N o env st V :=
  S_call ho hargs (hc st)

theorem PCalls.of_eq {f : FuncId} {args : List AV} {V V' : AV} (h : PCalls P f args V) (e : V = V') : PCalls P f args V' := e ▸ h

theorem S_extract {x : Operand} {xs : List AV} {y : AV} (i : Nat) (ho : o.op = .extract x i) (hx : AEv env x (.tup xs)) (hy : xs[i]? = some y) : PStep P N o env st y :=
  .of_val fun a w hg => by
    have h := hx _ _ _ _ hg
    obtain ⟨vs, e, hl, hr⟩ : ∃ vs, a.eval x = .tuple vs ∧ xs.length = vs.size ∧ ∀ (i : Nat) c v, xs[i]? = some c → vs[i]? = some v → R st w c v := by
      generalize a.eval x = u at h
      cases h with
      | tup _ vs hn h => exact ⟨vs, rfl, hn, h⟩
    have hi : i < vs.size := by have := (List.getElem?_eq_some_iff.1 hy).1; omega
    exact ⟨vs[i], by simp [execOp, ho, e, Instr.extract, hi], hr i y _ hy (by simp [hi])⟩

/-- The frame may be any that is not known more of. -/
theorem PStep.weak {env' : Env} {V : AV} (h : PStep P N o env' st V) (hl : EnvLe env env') : PStep P N o env st V := fun a w hg next Q hn => h a w (hg.weak hl) next Q hn

theorem S_max {x y : Operand} {ts : Array TypeId} {k : IntKind} {a b : Int} (ho : o.op = .call { callee := .builtin .max, args := #[x, y], argTypes := ts }) (hx : AEv env x (.int k a)) (hy : AEv env y (.int k b)) : PStep P N o env st (.int k (max a b)) :=
  .of_val fun c w hg => by
    have e1 := (hx _ _ _ _ hg).lit_inv
    have e2 := (hy _ _ _ _ hg).lit_inv
    refine ⟨.int k (max a b), ?_, .lit _⟩
    simp only [execOp, ho, resolve, invoke, builtin, Sem.run_bind, Sem.run_pure, Result.andThen_ok]
    have h3 : (if b > a then b else a) = max a b := by split <;> omega
    simp [e1, e2, Builtin.max_, Builtin.max2, h3]
theorem S_min {x y : Operand} {ts : Array TypeId} {k : IntKind} {a b : Int} (ho : o.op = .call { callee := .builtin .min, args := #[x, y], argTypes := ts }) (hx : AEv env x (.int k a)) (hy : AEv env y (.int k b)) : PStep P N o env st (.int k (min a b)) :=
  .of_val fun c w hg => by
    have e1 := (hx _ _ _ _ hg).lit_inv
    have e2 := (hy _ _ _ _ hg).lit_inv
    refine ⟨.int k (min a b), ?_, .lit _⟩
    simp only [execOp, ho, resolve, invoke, builtin, Sem.run_bind, Sem.run_pure, Result.andThen_ok]
    have h3 : (if b < a then b else a) = min a b := by split <;> omega
    simp [e1, e2, Builtin.min_, Builtin.min2, h3]

/-! ### Slices that are written out -/
/-- A value whose cells are told. -/
def AV.flat : AV → Bool
  | .agg _ => true
  | a => a.one
theorem R.cells {w : World} {y : AV} {v : Value} (h : R st w y v) (hf : y.flat = true) : v.cells.size = y.cells.length ∧ ∀ (j : Nat) c u, y.cells[j]? = some c → v.cells[j]? = some u → R st w c u := by
  have one : y.one = true → y.cells = [y] → v.cells.size = y.cells.length ∧ ∀ (j : Nat) c u, y.cells[j]? = some c → v.cells[j]? = some u → R st w c u := by
    intro h1 h2
    have h3 := h.one h1
    have h4 : v.cells = #[v] := by
      cases v <;> first | rfl | simp [Value.oneCell'] at h3
    rw [h2, h4]
    refine ⟨rfl, fun j c u hc hu => ?_⟩
    cases j with
    | zero => simp at hc hu; subst hc; subst hu; exact h
    | succ j => simp at hc
  cases y with
  | agg cs =>
    cases h with
    | agg _ vs hn k => exact ⟨hn.symm, k⟩
  | lit v => exact one hf rfl
  | sl xs => exact one hf rfl
  | row b off cap xs => exact one hf rfl
  | ip cs => exact one hf rfl
  | ifc T x => exact one hf rfl
  | nilB b T n => exact one hf rfl
  | any => simp [AV.flat, AV.one] at hf
  | tup xs => simp [AV.flat, AV.one] at hf
  | cond c a => simp [AV.flat, AV.one] at hf

/-- A block of the call's own that nobody writes. -/
theorem fresh_sl {w : World} (hrel : Rel st w) {vs : List Value} {ys : List AV} {T : TypeId} {m : Nat} (hl : vs.length = ys.length) (hm : ∀ y ∈ ys, y.flat = true ∧ y.cells.length = m) (hp : 0 < m) (hr : ∀ (i : Nat) y v, ys[i]? = some y → vs[i]? = some v → R st w y v) (cap : Nat) (hcap : ys.length ≤ cap) (more : Array Value) :
    Rel st (w.alloc (.cells ((vs.flatMap fun v => v.cells.toList).toArray ++ more) T)) ∧ Ext st w st (w.alloc (.cells ((vs.flatMap fun v => v.cells.toList).toArray ++ more) T)) ∧
      R st (w.alloc (.cells ((vs.flatMap fun v => v.cells.toList).toArray ++ more) T)) (.sl ys) (.slice (some ⟨w.heap.size, 0, none⟩) ys.length cap) := by
  have hn := hrel.nodup
  obtain ⟨h1, h2⟩ := alloc_rel hrel (ob := .cells (List.replicate ((vs.flatMap fun v => v.cells.toList).toArray ++ more).size AV.any)) (vs := (vs.flatMap fun v => v.cells.toList).toArray ++ more) (T := T) ⟨by simp, fun i c v hc hv => by
    rw [List.getElem?_replicate] at hc
    split at hc
    · cases hc; exact .any v
    · cases hc⟩
  have hd : List.Sublist st ((w.heap.size, Ob.cells (List.replicate ((vs.flatMap fun v => v.cells.toList).toArray ++ more).size AV.any)) :: st) := List.Sublist.cons _ (List.Sublist.refl _)
  have hxx := h2.trans (Ext.drop hd) hn
  refine ⟨h1.drop hd, hxx, ?_⟩
  have hvm : ∀ v ∈ vs, v.cells.size = m := fun v hv => by
    obtain ⟨i, hi⟩ := List.mem_iff_getElem?.1 hv
    have hlt : i < ys.length := by have := (List.getElem?_eq_some_iff.1 hi).1; omega
    have hy := hm ys[i] (List.getElem_mem hlt)
    have := (hr i ys[i] v (List.getElem?_eq_getElem hlt) hi).cells hy.1
    rw [this.1, hy.2]
  have hnew : ∀ (j : Nat), (w.alloc (.cells ((vs.flatMap fun v => v.cells.toList).toArray ++ more) T)).cell? ⟨w.heap.size, j, none⟩ = ((vs.flatMap fun v => v.cells.toList).toArray ++ more)[j]? := fun j => World.cell?_alloc_new _ _ _ _
  have key : ∀ (i : Nat) (x : AV) (j : Nat) (c : AV), ys[i]? = some x → x.cells[j]? = some c → ∃ u, ((vs.flatMap fun v => v.cells.toList).toArray ++ more)[i * m + j]? = some u ∧ R st w c u := by
    intro i x j c hx hc
    have hlt : i < vs.length := by have := (List.getElem?_eq_some_iff.1 hx).1; omega
    have hy := hm x (List.mem_iff_getElem?.2 ⟨i, hx⟩)
    have hj : j < m := by have := (List.getElem?_eq_some_iff.1 hc).1; omega
    have hvi := hvm vs[i] (List.getElem_mem hlt)
    have hju : j < vs[i].cells.size := by omega
    refine ⟨vs[i].cells[j], ?_, ((hr i x vs[i] hx (List.getElem?_eq_getElem hlt)).cells hy.1).2 j c _ hc (by simp [hju])⟩
    have e := Go.Great.flat_get hp vs hvm (i * m + j)
    have e1 : (i * m + j) / m = i := by rw [Nat.mul_comm, Nat.mul_add_div hp, Nat.div_eq_of_lt hj]; omega
    have e2 : (i * m + j) % m = j := by rw [Nat.mul_comm, Nat.mul_add_mod, Nat.mod_eq_of_lt hj]
    rw [e1, e2, List.getElem?_eq_getElem hlt] at e
    simp only [Option.bind_some] at e
    have hsz : i * m + j < (vs.flatMap fun v => v.cells.toList).length := by
      rcases Nat.lt_or_ge (i * m + j) (vs.flatMap fun v => v.cells.toList).length with h | h
      · exact h
      · rw [List.getElem?_eq_none h] at e; simp [hju] at e
    rw [Array.getElem?_append_left (by simpa using hsz)]
    rw [List.getElem?_toArray, e]
    simp [hju]
  refine .sl ys w.heap.size 0 cap m (fun k => ((vs.flatMap fun v => v.cells.toList).toArray ++ more)[k]?.getD undef) hcap (fun i x hx => (hm x (List.mem_iff_getElem?.2 ⟨i, hx⟩)).2) (fun i x j c hx hc => ?_) fun i x j c hx hc => ?_
  · obtain ⟨u, hu, _⟩ := key i x j c hx hc
    refine ⟨by rw [Nat.zero_add, hnew, hu]; simp [hu], fun ⟨o, ho, _⟩ => ?_⟩
    have := key_lt hrel ho
    omega
  · obtain ⟨u, hu, hru⟩ := key i x j c hx hc
    simp only [hu, Option.getD_some]
    exact hru.mono hxx hn

theorem S_buildSlice {t e : TypeId} {n : Nat} {parts : List (Nat × Operand)} {ys : List AV} (m : Nat) (ho : o.op = .buildSlice t n parts.toArray) (hxs : AEvs env (parts.map (·.2)) ys) (hp : parts.map (·.1) = List.range n) (hu : P.underlying t = some (.slice e))
    (hz : (P.info? e).map (fun i => (i.size, i.zero.map (·.cells.size))) = some (m, some m)) (hm : ∀ y ∈ ys, y.flat = true ∧ y.cells.length = m) (hpos : 0 < m) (hn : 0 < n) (hsm : n * m ≤ 2 ^ 24) : PStep P N o env st (.sl ys) := by
  intro a w hg next Q hnx
  obtain ⟨hl, hr⟩ := hxs.at_ hg
  have hpl : parts.length = n := by have := congrArg List.length hp; simpa using this
  have hyl : ys.length = n := by have := hl; simp at this; omega
  obtain ⟨i, hi⟩ : ∃ i, P.info? e = some i := by cases h : P.info? e with | none => simp [h] at hz | some i => exact ⟨i, rfl⟩
  have hz1 : i.size = m := by simp [hi] at hz; exact hz.1
  obtain ⟨z, hzz⟩ : ∃ z, i.zero = some z := by cases h : i.zero with | none => simp [hi, h] at hz | some z => exact ⟨z, rfl⟩
  let vs := parts.map fun p => a.eval p.2
  have hvs : vs.length = n := by simp [vs, hpl]
  have hpe : (parts.map fun p => (p.1, a.eval p.2)) = (vs.zipIdx 0).map fun x => (x.2, x.1) := by
    refine List.ext_getElem? fun k => ?_
    simp only [List.getElem?_map, List.getElem?_zipIdx, vs]
    cases hk : parts[k]? with
    | none => simp
    | some p =>
      have h1 := congrArg (fun l => l[k]?) hp
      have hkn : k < n := by have := (List.getElem?_eq_some_iff.1 hk).1; omega
      simp [hk, hkn] at h1
      simp [h1]
  have hr' : ∀ (k : Nat) y v, ys[k]? = some y → vs[k]? = some v → R st w y v := fun k y v hy hv => by
    simp only [vs, List.getElem?_map] at hv
    cases hk : parts[k]? with
    | none => simp [hk] at hv
    | some p =>
      simp [hk] at hv
      subst hv
      exact hr k y p.2 hy (by simp [hk])
  have hvm : ∀ v ∈ vs, v.cells.size = m := fun v hv => by
    obtain ⟨k, hk⟩ := List.mem_iff_getElem?.1 hv
    have hlt : k < ys.length := by have := (List.getElem?_eq_some_iff.1 hk).1; omega
    have hy := hm ys[k] (List.getElem_mem hlt)
    rw [((hr' k ys[k] v (List.getElem?_eq_getElem hlt) hk).cells hy.1).1, hy.2]
  have hnm : n * m ≠ 0 := Nat.mul_ne_zero (by omega) (by omega)
  have hfill := Go.Great.fill_whole hpos vs ((Array.range (n * i.size)).map (z.cells[· % z.cells.size]!)) hvm (by simp [hvs, hz1])
  have hrun : (execOp a.eval o).run P w = .ok (.value (.slice (some ⟨w.heap.size, 0, none⟩) n n)) (w.alloc (.cells ((vs.flatMap fun v => v.cells.toList).toArray ++ #[]) e)) := by
    have := run_buildSlice (P := P) w t e n ((parts.map fun p => (p.1, a.eval p.2)).toArray) _ i z hu hi hzz (by rw [hz1]; omega) (by rw [hz1]; exact hnm) (by rw [List.toList_toArray, hpe, hz1]; rw [hz1] at hfill; exact hfill)
    simp only [execOp, ho, Sem.run_bind, List.map_toArray]
    rw [this]
    simp
  unfold Oper.wp
  rw [hrun]
  obtain ⟨k1, k2, k3⟩ := fresh_sl hg.rel (T := e) (by rw [hvs, hyl]) hm hpos hr' n (by omega) #[]
  refine hnx _ _ _ _ ⟨rfl, rfl⟩ ?_ k1 k2
  rw [hyl] at k3
  exact k3

/-- The text of bytes. -/
def bytesAV (l : List UInt8) : List AV := l.map fun c => AV.int .u8 c.toNat
theorem S_bytesSl {src dst e : TypeId} {x : Operand} {ys : List AV} (l : List UInt8) (ho : o.op = .convert src dst x) (hx : AEv env x (.sl ys)) (hy : ys = bytesAV l)
    (hs : P.underlying src = some (.slice e)) (he : P.underlying e = some (.int .u8)) (hd : P.underlying dst = some .string) : PStep P N o env st (.S l) :=
  .of_val fun a w hg => by
    subst hy
    obtain ⟨A, cap, e1, h⟩ := sl_inv (hx _ _ _ _ hg)
    refine ⟨.string ⟨l.toArray⟩, ?_, .lit _⟩
    have hlen : (bytesAV l).length = l.length := by simp [bytesAV]
    rw [hlen] at e1
    cases l with
    | nil =>
      have hb : (Conv.bytesToString (.slice A ([] : List UInt8).length cap)).run P w = .ok (.string ⟨#[]⟩) w := by
        cases A with
        | none => rfl
        | some b => exact run_bytesToString (P := P) w b 0 cap [] (by rfl)
      simp only [execOp, ho, e1, Sem.run_bind, run_convert_bytes_string w src dst e _ _ _ hs he hd, hb, Result.andThen_ok, Sem.run_pure]
    | cons c0 l0 =>
      obtain ⟨b, off, size, f, rfl, k1, k2, k3, k4⟩ := h (by simp [bytesAV])
      generalize hl : c0 :: l0 = l at *
      have hsz : size = 1 := by rw [← k2 0 (AV.int .u8 c0.toNat) (by rw [← hl]; simp [bytesAV])]; rfl
      subst hsz
      have hload : (loadCells ⟨b, off, none⟩ l.length).run P w = .ok ((l.map fun c => (c.toNat : Int)).map (Value.int .u8)).toArray w := by
        have := run_loadCells_list (P := P) w ⟨b, off, none⟩ ((l.map fun c => (c.toNat : Int)).map (Value.int .u8)) fun j v hv => by
          have hj : j < l.length := by have := (List.getElem?_eq_some_iff.1 hv).1; simpa using this
          have hy : (bytesAV l)[j]? = some (AV.int .u8 l[j].toNat) := by simp [bytesAV, hj]
          have h1 := (k3 j _ 0 _ hy rfl).1
          have h2 := (k4 j _ 0 _ hy rfl).lit_inv
          rw [h2] at h1
          simp [hj] at hv
          subst hv
          rw [Addr.add_mid]
          simpa using h1
        simpa using this
      have hfold : ∀ (m : List UInt8) (s : ByteArray), (m.map fun c => (c.toNat : Int)).foldl (fun r n => r.push (UInt8.ofNat n.toNat)) s = ⟨s.data ++ m.toArray⟩ := by
        intro m
        induction m with
        | nil => intro s; simp
        | cons c m ih =>
          intro s
          simp only [List.map_cons, List.foldl_cons, Int.toNat_natCast, UInt8.ofNat_toNat]
          rw [ih]
          simp [ByteArray.push]
      simp only [execOp, ho, e1, Sem.run_bind, run_convert_bytes_string w src dst e _ _ _ hs he hd, run_bytesToString w _ _ cap _ hload, Result.andThen_ok, Sem.run_pure, hfold]
      simp only [show ByteArray.empty.data = #[] from rfl, Array.empty_append]
end


end Go.AL
