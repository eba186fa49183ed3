/-
The logic AL: what came in: how a claim's reading of an argument makes it an abstract value; what a contract says of a row.
Conditions: none; no program is in sight.
-/
import Derived.Test.YtnjlecejhnoicaaDoorAlAgg
import Derived.Test.YtnjlecejhnoicaaDoorNumLem
import Derived.ChangeArms
import Derived.Carry
import Derived.ChangeSame
import Derived.SizedLaws
set_option linter.unusedVariables false
set_option linter.unusedSimpArgs false
namespace Go.AL
open Go.RowKit Go.NumSpec Go.ChangeShapes Go.WideShapes

/-- Cells are so. -/
def RC (w : World) (cs : List AV) (vs : List Value) : Prop := cs.length = vs.length ∧ ∀ (i : Nat) c v, cs[i]? = some c → vs[i]? = some v → R [] w c v

/-- Whatever is read at type t is of α, and its cells are those. -/
structure Opens (P : Program) (t : TypeId) (α : Type) (toL : α → List AV) (ok : α → Prop) : Prop where
  run : ∀ {H : Type} (enc : TypeId × Value → H) (w : World) (fuel : Nat) (cs : List Value) x, DataW.trod enc P w 0 (fun _ => true) true fuel t cs = some x → ∃ y : α, ok y ∧ RC w (toL y) cs

section
variable {P : Program} {t : TypeId}
theorem RC.one {w : World} {c : AV} {v : Value} (h : R [] w c v) : RC w [c] [v] := ⟨rfl, fun i d u hd hu => by
  cases i with
  | zero => simp at hd hu; subst hd; subst hu; exact h
  | succ i => simp at hd⟩
theorem RC.append {w : World} {cs ds : List AV} {us vs : List Value} (h : RC w cs us) (k : RC w ds vs) : RC w (cs ++ ds) (us ++ vs) := ⟨by rw [List.length_append, List.length_append, h.1, k.1], fun i c v hc hv => by
  have hl := h.1
  rcases Nat.lt_or_ge i cs.length with hi | hi
  · rw [List.getElem?_append_left hi] at hc
    rw [List.getElem?_append_left (by omega)] at hv
    exact h.2 i c v hc hv
  · rw [List.getElem?_append_right hi] at hc
    rw [List.getElem?_append_right (by omega)] at hv
    rw [← hl] at hv
    exact k.2 _ c v hc hv⟩
theorem RC.agg {w : World} {cs : List AV} {vs : Array Value} (h : RC w cs vs.toList) : R [] w (.agg cs) (.agg vs) := .agg cs vs (by simpa using h.1) fun i c v hc hv => h.2 i c v hc (by simpa using hv)

theorem Opens.i64 (h : P.underlying t = some (.int .i64)) : Opens P t Int (fun n => [.int .i64 n]) fits := .mk fun enc w fuel cs x hx => by
  obtain ⟨n, rfl, _, hw⟩ := DataW.trod_int h hx
  exact ⟨n, fits_of_i64 hw, .one (.lit _)⟩
theorem Opens.u64 (h : P.underlying t = some (.int .u64)) : Opens P t Nat (fun n => [.int .u64 (n : Int)]) (fun n => n < 18446744073709551616) := .mk fun enc w fuel cs x hx => by
  obtain ⟨n, rfl, _, hw⟩ := DataW.trod_int h hx
  obtain ⟨m, rfl, hm⟩ := nat_of_u64 hw
  exact ⟨m, hm, .one (.lit _)⟩
theorem Opens.bool (h : P.underlying t = some .bool) : Opens P t Bool (fun b => [.bool b]) (fun _ => True) := .mk fun enc w fuel cs x hx => by
  obtain ⟨b, rfl, _⟩ := DataW.trod_bool h hx
  exact ⟨b, trivial, .one (.lit _)⟩
theorem Opens.str (h : P.underlying t = some .string) : Opens P t (List UInt8) (fun l => [.S l]) (fun l => l.length ≤ 9223372036854775807) := .mk fun enc w fuel cs x hx => by
  obtain ⟨s, rfl, _, hs⟩ := DataW.trod_string h hx
  refine ⟨s.data.toList, ?_, .one ?_⟩
  · have : maxLen = 9223372036854775807 := rfl
    rw [this] at hs
    show s.data.toList.length ≤ _
    rw [Array.length_toList]
    exact hs
  · have e : AV.S s.data.toList = .lit (.string s) := by cases s; simp
    rw [e]
    exact .lit _
theorem Opens.map {α β : Type} {toL : α → List AV} {ok : α → Prop} {toL' : β → List AV} {ok' : β → Prop} (h : Opens P t α toL ok) (f : α → β) (h1 : ∀ a, toL a = toL' (f a)) (h2 : ∀ a, ok a → ok' (f a)) : Opens P t β toL' ok' := .mk fun enc w fuel cs x hx => by
  obtain ⟨a, ha, hr⟩ := h.run enc w fuel cs x hx
  exact ⟨f a, h2 a ha, by rw [← h1]; exact hr⟩

theorem OpensF.last {f : Field} {off m : Nat} {α : Type} {toL : α → List AV} {ok : α → Prop} (ho : f.offset = off) (hm : P.cellsOf f.type = m) (h : Opens P f.type α toL ok) : ∀ {H : Type} (enc : TypeId × Value → H) (w : World) (fuel : Nat) (cs : List Value) (xs : List (DataW H × List MemPlace)), (∀ (i : Nat) g, [f][i]? = some g → DataW.trod enc P w 0 (fun _ => true) true fuel g.type ((cs.drop g.offset).take (P.cellsOf g.type)) = xs[i]?) → xs.length = 1 → cs.length = off + m → ∃ y : α, ok y ∧ RC w (toL y) (cs.drop off) := fun enc w fuel cs xs hx hl hc => by
  have h0 := hx 0 f rfl
  obtain ⟨x, hx0⟩ : ∃ x, xs[0]? = some x := ⟨xs[0]'(by omega), by simp [hl]⟩
  rw [hx0] at h0
  obtain ⟨y, hy, hr⟩ := h.run enc w fuel _ x h0
  rw [ho, hm, List.take_of_length_le (by simp; omega)] at hr
  exact ⟨y, hy, hr⟩

/-- The fields from one on, of so many cells in all. -/
structure OpensFs (P : Program) (fs : List Field) (off tot : Nat) (α : Type) (toL : α → List AV) (ok : α → Prop) : Prop where
  run : ∀ {H : Type} (enc : TypeId × Value → H) (w : World) (fuel : Nat) (cs : List Value) (xs : List (DataW H × List MemPlace)), (∀ (i : Nat) f, fs[i]? = some f → DataW.trod enc P w 0 (fun _ => true) true fuel f.type ((cs.drop f.offset).take (P.cellsOf f.type)) = xs[i]?) → xs.length = fs.length → cs.length = tot →
    ∃ y : α, ok y ∧ RC w (toL y) (cs.drop off)
theorem OpensFs.one {f : Field} {off tot m : Nat} {α : Type} {toL : α → List AV} {ok : α → Prop} (ho : f.offset = off) (hm : P.cellsOf f.type = m) (ht : tot = off + m) (h : Opens P f.type α toL ok) : OpensFs P [f] off tot α toL ok := .mk fun enc w fuel cs xs hx hl hc =>
  OpensF.last ho hm h enc w fuel cs xs hx hl (by omega)
theorem OpensFs.cons {f : Field} {fs : List Field} {off tot m : Nat} {α β : Type} {toL : α → List AV} {ok : α → Prop} {toL' : β → List AV} {ok' : β → Prop} (ho : f.offset = off) (hm : P.cellsOf f.type = m) (h : Opens P f.type α toL ok) (k : OpensFs P fs (off + m) tot β toL' ok') :
    OpensFs P (f :: fs) off tot (α × β) (fun p => toL p.1 ++ toL' p.2) (fun p => ok p.1 ∧ ok' p.2) := .mk fun enc w fuel cs xs hx hl hc => by
  cases xs with
  | nil => simp at hl
  | cons x xs =>
    have h0 := hx 0 f rfl
    simp only [List.getElem?_cons_zero] at h0
    obtain ⟨y, hy, hr⟩ := h.run enc w fuel _ x h0
    rw [ho, hm] at hr
    obtain ⟨z, hz, hr'⟩ := k.run enc w fuel cs xs (fun i g hg => by simpa using hx (i + 1) g (by simpa using hg)) (by simpa using hl) hc
    refine ⟨(y, z), ⟨hy, hz⟩, ?_⟩
    have := hr.append hr'
    rw [← List.drop_drop, List.take_append_drop] at this
    exact this
theorem Opens.struct {fs : List Field} {tot : Nat} {α : Type} {toL : α → List AV} {ok : α → Prop} (hu : P.underlying t = some (.struct fs.toArray)) (ht : P.cellsOf t = tot) (h : OpensFs P fs 0 tot α toL ok) : Opens P t α toL ok := .mk fun enc w fuel cs x hx => by
  obtain ⟨xs, n, rfl, _, hl, hlen, hf⟩ := DataW.trod_struct hu hx
  obtain ⟨y, hy, hr⟩ := h.run enc w n cs xs (fun i f hf' => hf i f (by simpa using hf')) (by simpa using hlen) (by rw [hl, ht])
  exact ⟨y, hy, by simpa using hr⟩

/-- A slice, nil or not. -/
theorem Opens.slice {e : TypeId} {m : Nat} {α : Type} {toL : α → List AV} {ok : α → Prop} (el : α → AV) (hu : P.underlying t = some (.slice e)) (hm : P.cellsOf e = m) (hpos : 0 < m) (h : Opens P e α toL ok) (hel : ∀ y, (el y).cells = toL y) :
    Opens P t (List α) (fun l => [.sl (l.map el)]) (fun l => ∀ y, y ∈ l → ok y) := .mk fun enc w fuel cs x hx => by
  rcases DataW.trod_slice hu hx with ⟨rfl, _⟩ | ⟨a, len, cap, elems, rest, n, rfl, rfl, _, _, hlc, _, hlen, hel', _, _⟩
  · exact ⟨[], fun y hy => by simp at hy, .one (.sl0 none 0)⟩
  · subst hlen
    have each : ∀ i, i < elems.length → ∃ (cs : List Value) (y : α), ok y ∧ cs.length = m ∧ (∀ j, j < m → w.cell? ((a.add (i * m)).add j) = cs[j]?) ∧ RC w (toL y) cs := fun i hi => by
      have h1 := hel' i hi
      rw [List.getElem?_eq_getElem hi, hm] at h1
      cases hc : w.cells? 0 (a.add (i * m)) m with
      | none => rw [hc] at h1; cases h1
      | some cs =>
        rw [hc] at h1
        obtain ⟨_, h2, h3⟩ := World.cells?_some hc
        obtain ⟨y, hy, hr⟩ := h.run enc w n cs _ h1
        exact ⟨cs, y, hy, h2, h3, hr⟩
    by_cases h0 : elems.length = 0
    · rw [h0]
      exact ⟨[], fun y hy => by simp at hy, .one (.sl0 _ _)⟩
    · obtain ⟨b, off, spot⟩ := a
      obtain ⟨cs0, y0, _, hl0, hc0, _⟩ := each 0 (by omega)
      have hspot : spot = none := by
        have h4 : w.cell? ((Addr.add ⟨b, off, spot⟩ (0 * m)).add 0) = some (cs0[0]'(by omega)) := by rw [hc0 0 hpos]; exact List.getElem?_eq_getElem _
        rw [show (Addr.add ⟨b, off, spot⟩ (0 * m)).add 0 = ⟨b, off, spot⟩ by rw [Nat.zero_mul]; rfl] at h4
        exact World.cell?_spot h4
      subst hspot
      have hch : ∃ (F : Nat → List Value) (Y : Nat → α), ∀ i, i < elems.length → ok (Y i) ∧ (F i).length = m ∧ (∀ j, j < m → w.cell? ⟨b, off + i * m + j, none⟩ = (F i)[j]?) ∧ RC w (toL (Y i)) (F i) := by
        refine ⟨fun i => if hi : i < elems.length then (each i hi).choose else [], fun i => if hi : i < elems.length then (each i hi).choose_spec.choose else y0, fun i hi => ?_⟩
        simp only [hi, dite_true]
        obtain ⟨k1, k2, k3, k4⟩ := (each i hi).choose_spec.choose_spec
        refine ⟨k1, k2, fun j hj => ?_, k4⟩
        rw [← k3 j hj]
        rw [Addr.add_mid, Addr.add_mid]
      obtain ⟨F, Y, hFY⟩ := hch
      have hget : ∀ (i : Nat) x, ((List.range elems.length).map fun i => el (Y i))[i]? = some x → i < elems.length ∧ x = el (Y i) := fun i x hx => by
        have hi : i < elems.length := by have := (List.getElem?_eq_some_iff.1 hx).1; simpa using this
        rw [List.getElem?_map, List.getElem?_range hi] at hx
        exact ⟨hi, (Option.some.inj hx).symm⟩
      refine ⟨(List.range elems.length).map Y, fun y hy => ?_, .one ?_⟩
      · obtain ⟨i, hi, rfl⟩ := List.mem_map.1 hy
        exact (hFY i (List.mem_range.1 hi)).1
      · rw [List.map_map]
        have hlen2 : ((List.range elems.length).map fun i => el (Y i)).length = elems.length := by simp
        have hr := R.sl (st := []) (w := w) ((List.range elems.length).map fun i => el (Y i)) b off cap m (fun k => ((F (k / m))[k % m]?).getD undef) (by rw [hlen2]; exact hlc) (fun i x hx => by
          obtain ⟨hi, rfl⟩ := hget i x hx
          obtain ⟨_, k2, _, k4⟩ := hFY i hi
          rw [hel, k4.1, k2]) (fun i x j c hx hc => by
          obtain ⟨hi, rfl⟩ := hget i x hx
          obtain ⟨_, k2, k3, k4⟩ := hFY i hi
          rw [hel] at hc
          have hj : j < m := by have := (List.getElem?_eq_some_iff.1 hc).1; rw [k4.1, k2] at this; exact this
          have e1 : (i * m + j) / m = i := by rw [Nat.mul_comm, Nat.mul_add_div hpos, Nat.div_eq_of_lt hj]; rfl
          have e2 : (i * m + j) % m = j := by rw [Nat.mul_comm, Nat.mul_add_mod, Nat.mod_eq_of_lt hj]
          refine ⟨?_, fun ⟨o, ho, _⟩ => by simp at ho⟩
          rw [e1, e2, k3 j hj]
          simp [k2, hj]) (fun i x j c hx hc => by
          obtain ⟨hi, rfl⟩ := hget i x hx
          obtain ⟨_, k2, k3, k4⟩ := hFY i hi
          rw [hel] at hc
          have hj : j < m := by have := (List.getElem?_eq_some_iff.1 hc).1; rw [k4.1, k2] at this; exact this
          have e1 : (i * m + j) / m = i := by rw [Nat.mul_comm, Nat.mul_add_div hpos, Nat.div_eq_of_lt hj]; rfl
          have e2 : (i * m + j) % m = j := by rw [Nat.mul_comm, Nat.mul_add_mod, Nat.mod_eq_of_lt hj]
          rw [e1, e2]
          exact k4.2 j c _ hc (by simp [k2, hj]))
        rw [hlen2] at hr
        exact hr

/-- An argument of one cell; an argument of many. -/
theorem Opens.arg1 {H : Type} {enc : TypeId × Value → H} {w : World} {α : Type} {toL : α → List AV} {ok : α → Prop} (h : Opens P t α toL ok) (el : α → AV) (hel : ∀ y, toL y = [el y]) {v : Value} {d : DataW H} {ps : List MemPlace} (ht : DataW.Trod enc P w 0 (fun _ => true) true t v d ps) (hv : ∀ cs, v ≠ .agg cs) (hv2 : ∀ cs, v ≠ .tuple cs) : ∃ y, ok y ∧ R [] w (el y) v := by
  obtain ⟨fuel, hx⟩ := ht
  obtain ⟨y, hy, hr⟩ := h.run enc w fuel _ _ hx
  rw [hel] at hr
  have hc : v.cells = #[v] := by cases v <;> first | rfl | exact absurd rfl (hv _) | exact absurd rfl (hv2 _)
  rw [hc] at hr
  exact ⟨y, hy, hr.2 0 _ _ rfl rfl⟩
theorem Opens.argN {H : Type} {enc : TypeId × Value → H} {w : World} {α : Type} {toL : α → List AV} {ok : α → Prop} (h : Opens P t α toL ok) {vs : Array Value} {d : DataW H} {ps : List MemPlace} (ht : DataW.Trod enc P w 0 (fun _ => true) true t (.agg vs) d ps) : ∃ y, ok y ∧ R [] w (.agg (toL y)) (.agg vs) := by
  obtain ⟨fuel, hx⟩ := ht
  obtain ⟨y, hy, hr⟩ := h.run enc w fuel _ _ hx
  exact ⟨y, hy, hr.agg⟩

/-- From a contract to a row's walk. -/
theorem PCalls.rowB {P : Program} {f : FuncId} {args : List AV} {v : Value} (h : PCalls P f args (.lit v)) {w : World} {vs : Array Value} (hs : vs.size = args.length) (hr : ∀ (i : Nat) x u, args[i]? = some x → vs[i]? = some u → R [] w x u) :
    Calls P f vs w fun e w' => e = .returned v ∧ RowKit.Below w.heap.size w w' :=
  ((h []).calls w vs ⟨by simp, fun _ _ hb => by simp at hb, fun _ _ _ _ _ hb => by simp at hb, fun _ _ hb => by simp at hb⟩ hs hr).mono fun e w' ⟨r, x, st', he, ⟨hx, hst⟩, hr', _, hext⟩ => by
    subst hx; subst hst
    exact ⟨by rw [he, hr'.lit_inv], ⟨hext.os, hext.tape, hext.output, hext.size, fun k hk => hext.keep k hk fun o ho => by simp at ho⟩⟩

theorem flat_arg {t : TypeId} {W : World} {r : Reach} {base : Nat} {v : Value} (ht : flatT P t = true) (hval : Value.okWide P W r base t v) : v.cells = #[v] := by
  obtain ⟨d, hu, hd⟩ := flatT_spec ht
  cases v <;> first
    | rfl
    | (exfalso; cases d <;> first
        | (simp [TypeDesc.isRow] at hd; done)
        | (simp [Value.okWide, hu, Cell.okWide, Cell.ok] at hval; done))
theorem Opens.argF {H : Type} {enc : TypeId × Value → H} {w : World} {r : Reach} {base : Nat} {α : Type} {toL : α → List AV} {ok : α → Prop} (h : Opens P t α toL ok) (el : α → AV) (hel : ∀ y, toL y = [el y]) {v : Value} {d : DataW H} {ps : List MemPlace} (hf : flatT P t = true) (hval : Value.okWide P w r base t v) (ht : DataW.Trod enc P w 0 (fun _ => true) true t v d ps) : ∃ y, ok y ∧ R [] w (el y) v := by
  obtain ⟨fuel, hx⟩ := ht
  obtain ⟨y, hy, hr⟩ := h.run enc w fuel _ _ hx
  rw [hel, flat_arg hf hval] at hr
  exact ⟨y, hy, hr.2 0 _ _ rfl rfl⟩
theorem Opens.argS {H : Type} {enc : TypeId × Value → H} {w : World} {r : Reach} {base : Nat} {α : Type} {toL : α → List AV} {ok : α → Prop} (h : Opens P t α toL ok) {fs : Array Field} (hu : P.underlying t = some (.struct fs)) {v : Value} {d : DataW H} {ps : List MemPlace} (hval : Value.okWide P w r base t v) (ht : DataW.Trod enc P w 0 (fun _ => true) true t v d ps) : ∃ y, ok y ∧ R [] w (.agg (toL y)) v := by
  simp only [Value.okWide, hu] at hval
  obtain ⟨cs, rfl, _⟩ := hval
  exact h.argN ht

theorem PCalls.rowC {P : Program} {f : FuncId} {args : List AV} {v : Value} (h : PCalls P f args (.lit v)) {w : World} {vs : Array Value} (hr : RC w args vs.toList) :
    Calls P f vs w fun e w' => e = .returned v ∧ RowKit.Below w.heap.size w w' :=
  h.rowB (by simpa using hr.1.symm) fun i x u hx hu => hr.2 i x u hx (by simpa using hu)

/-- An argument reads behind the call as it did. -/
theorem arg_stays {H : Type} {enc : TypeId × Value → H} {t : TypeId} (hl : laidOutB P = true) (hr : P.readableRec t = true) (hrow : t < P.types.size) {W W' : World} {v : Value} {d : DataW H} {ps : List MemPlace}
    (h : DataW.Trod enc P W 0 (fun _ => true) true t v d ps) (hb : Below W.heap.size W W') (hlt : ∀ x ∈ ps, x.block < W.heap.size) (sp : Nat → Bool) (hs : ∀ x ∈ ps, sp x.block = true) : DataW.Trod enc P W' 0 sp true t v d ps :=
  WideElems.Trod_stays hl hr hrow h (fun x hx => hb.same (hlt x hx)) hs

/-- What a row asks, where below the old size nothing has turned and what came in reads as before. -/
theorem post_below {H : Type} {enc : TypeId × Value → H} {f : Func} {s : ChangeSpec} {apart fresh handsOn again : Bool} {W W' : World} {args : Array Value} {v : Value} {ds gs : List (DataW H)} {before : List MemPlace} (hb : Below W.heap.size W W')
    (hW : DataW.Whole enc P f.params.toList s.vars apart W args.toList ds gs before) (hs : s.vars = []) (hgs : gs = []) (hargs' : (s.fn H (ds ++ gs)).args = ds) (hvars' : (s.fn H (ds ++ gs)).vars = [])
    (hres : ∀ (b : Nat) (sp : Nat → Bool) (hd : Bool), DataW.TrodAll enc P W' b sp hd f.resultTypes.toList (v.resultList f.resultTypes.size) (s.fn H (ds ++ gs)).results [])
    (hargs : ∀ sp : Nat → Bool, (∀ p ∈ before, sp p.block = true) → DataW.TrodAll enc P W' 0 sp true f.params.toList args.toList ds before)
    (hok : ∀ (j : Nat) (t : TypeId) (r : Value), f.resultTypes[j]? = some t → (v.resultList f.resultTypes.size)[j]? = some r → Value.okWide P W' .any 0 t r) :
    s.post enc P f apart fresh handsOn again W args v W' := by
  have hlt : ∀ p ∈ before, p.block < W.heap.size := fun p hp => by simpa using hW.lt p hp
  have hsp : ∀ p ∈ before, (fun b => decide (b < W.heap.size)) p.block = true := fun p hp => by simpa using hlt p hp
  have hv : ∀ sp : Nat → Bool, DataW.TrodVars enc P W' sp s.vars (s.fn H (ds ++ gs)).vars [] := fun sp => by rw [hs, hvars']; rfl
  have ha : ∀ sp : Nat → Bool, (∀ p ∈ before, sp p.block = true) → DataW.TrodAll enc P W' 0 sp true f.params.toList args.toList (s.fn H (ds ++ gs)).args before := fun sp h => by rw [hargs']; exact hargs sp h
  have hkb : W.keptBut W' fun _ => False := ⟨hb.os, hb.output, fun i hi => by
    rw [hb.block i hi]
    cases W.heap[i]? with
    | none => rfl
    | some o => cases o <;> first | rfl | exact ⟨rfl, rfl, rfl, fun _ _ => rfl⟩ | exact .inr ⟨rfl, rfl⟩⟩
  refine ⟨ds, gs, before, [], before, [], hW, hres _ _ _, ha _ hsp, hv _, World.keptBut_mono (fun p hp => hp.elim) hkb, fun _ => ?_⟩
  obtain ⟨_, _, _, _, _, hz, hn⟩ := hW
  refine ⟨hok, _, _, ([] ++ before) ++ [], ⟨[] ++ before, [], trodAll_append (ha _ fun _ _ => rfl) (hres _ _ _), hv _, rfl, fun b off hp => ?_, fun h => by simpa using hn h⟩, fun p hp _ => by simpa using hp⟩
  have hp' : MemPlace.cell b off ∈ before := by simpa using hp
  rw [hb.frozen (p := ⟨b, off, none⟩) (hlt _ hp')]
  exact hz b off hp'

/-! ### Programs whose tables are laid -/
/-- Tables: blocks that nobody writes. -/
def Gs (gs : List (Nat × List Value)) : St := gs.map fun p => (p.1, .konst p.2)
def GCalls (P : Program) (gs : List (Nat × List Value)) (f : FuncId) (args : List AV) (V : AV) : Prop := ∀ st, (∀ p, p ∈ Gs gs → p ∈ st) → ACalls P f args st fun x st' => x = V ∧ st' = st
theorem Gs_mut {gs : List (Nat × List Value)} {b off : Nat} : ¬ Mut (Gs gs) b off := fun ⟨o, h1, h2⟩ => by
  obtain ⟨p, _, hp⟩ := List.mem_map.1 h1
  cases hp
  exact h2
theorem Gs_ext {gs : List (Nat × List Value)} {w : World} : Ext [] w (Gs gs) w :=
  ⟨rfl, rfl, rfl, fun _ _ => rfl, Nat.le_refl _, fun _ _ _ => rfl, fun _ _ _ _ _ _ _ _ _ => rfl, fun b off _ h => absurd h Gs_mut, fun _ _ _ _ => rfl⟩
theorem GCalls.rowB {P : Program} {f : FuncId} {args : List AV} {v : Value} {gs : List (Nat × List Value)} (h : GCalls P gs f args (.lit v)) {w : World} {vs : Array Value} (hn : (gs.map (·.1)).Nodup) (hg : ∀ p, p ∈ gs → p.1 < w.heap.size ∧ ∀ (j : Nat) u, p.2[j]? = some u → w.cell? ⟨p.1, j, none⟩ = some u)
    (hs : vs.size = args.length) (hr : ∀ (i : Nat) x u, args[i]? = some x → vs[i]? = some u → R [] w x u) :
    Calls P f vs w fun e w' => e = .returned v ∧ RowKit.Below w.heap.size w w' := by
  have hrel : Rel (Gs gs) w := by
    refine ⟨?_, fun b cs hb => ?_, fun b e size n cap hb => ?_, fun b us hb => ?_⟩
    · have : (Gs gs).map (·.1) = gs.map (·.1) := by simp [Gs]
      rw [this]; exact hn
    · obtain ⟨p, _, hp⟩ := List.mem_map.1 hb; cases hp
    · obtain ⟨p, _, hp⟩ := List.mem_map.1 hb; cases hp
    · obtain ⟨p, h1, hp⟩ := List.mem_map.1 hb
      cases hp
      exact hg p h1
  refine ((h (Gs gs) fun p hp => hp).calls w vs hrel hs fun i x u h1 h2 => (hr i x u h1 h2).mono Gs_ext (by simp)).mono fun e w' ⟨r, x, st', he, ⟨hx, hst⟩, hr', _, hext⟩ => ?_
  subst hx; subst hst
  refine ⟨by rw [he, hr'.lit_inv], ⟨hext.os, hext.tape, hext.output, hext.size, fun k hk => ?_⟩⟩
  by_cases hk1 : ∀ o, (k, o) ∉ Gs gs
  · exact hext.keep k hk hk1
  · obtain ⟨o, ho⟩ : ∃ o, (k, o) ∈ Gs gs := Classical.byContradiction fun hh => hk1 fun o ho => hh ⟨o, ho⟩
    have ho' := ho
    obtain ⟨p, h1, hp⟩ := List.mem_map.1 ho
    cases hp
    exact hext.konst _ _ hk ho'
theorem GCalls.rowC {P : Program} {f : FuncId} {args : List AV} {v : Value} {gs : List (Nat × List Value)} (h : GCalls P gs f args (.lit v)) {w : World} {vs : Array Value} (hn : (gs.map (·.1)).Nodup) (hg : ∀ p, p ∈ gs → p.1 < w.heap.size ∧ ∀ (j : Nat) u, p.2[j]? = some u → w.cell? ⟨p.1, j, none⟩ = some u) (hr : RC w args vs.toList) :
    Calls P f vs w fun e w' => e = .returned v ∧ RowKit.Below w.heap.size w w' :=
  h.rowB hn hg (by simpa using hr.1.symm) fun i x u hx hu => hr.2 i x u hx (by simpa using hu)
end
end Go.AL
