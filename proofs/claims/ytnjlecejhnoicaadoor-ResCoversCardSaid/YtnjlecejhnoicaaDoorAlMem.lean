/-
The logic AL: memory: variables, fields, elements, slices; calls.
Conditions: none; no program is in sight.
-/
import Derived.Test.YtnjlecejhnoicaaDoorAlOps1
import Derived.Deep.MidRow
import Derived.Great.BuildSlice
import Derived.RowKit3
set_option linter.unusedVariables false
set_option linter.unusedSimpArgs false
namespace Go.AL
open Go.RowKit

theorem mem_at {st : St} {n b : Nat} {o : Ob} (h : st[n]? = some (b, o)) : (b, o) ∈ st := List.mem_of_getElem? h

section
variable {P : Program} {N : Nat} {env : Env} {st : St} {o : Oper} {w : World}

theorem Rel.at_ (h : Rel st w) {b : Nat} {cs : List AV} (hb : (b, Ob.cells cs) ∈ st) {i : Nat} {c : AV} (hc : cs[i]? = some c) : ∃ v, w.cell? ⟨b, i, none⟩ = some v ∧ R st w c v ∧ w.frozen? ⟨b, i, none⟩ = false := by
  obtain ⟨vs, T, h1, h2, h3⟩ := h.cells b cs hb
  have hi : i < vs.size := by have := (List.getElem?_eq_some_iff.1 hc).1; omega
  refine ⟨vs[i], by simp [World.cell?, h1, hi], h3 i c _ hc (by simp [hi]), by simp [World.frozen?, h1]⟩

theorem set_mem {st : St} {n b : Nat} {o o' : Ob} (h : st[n]? = some (b, o)) {p : Nat × Ob} (hp : p ∈ st.set n (b, o')) : p = (b, o') ∨ p ∈ st := (List.mem_or_eq_of_mem_set hp).symm

theorem set_nodup {st : St} {n b : Nat} {o o' : Ob} (h : st[n]? = some (b, o)) (hn : (st.map (·.1)).Nodup) : ((st.set n (b, o')).map (·.1)).Nodup := by
  have : (st.set n (b, o')).map (·.1) = st.map (·.1) := by
    rw [List.map_set]
    refine List.ext_getElem? fun i => ?_
    rw [List.getElem?_set]
    split
    · rename_i hi
      subst hi
      split
      · simp [h]
      · rename_i hlt
        simp at hlt
        simp [List.getElem?_eq_none hlt] at h
    · rfl
  rw [this]; exact hn

/-- What was written into one of the blocks that may be written. -/
theorem write_rel (hrel : Rel st w) {n b : Nat} {cs cs' : List AV} (hst : st[n]? = some (b, .cells cs)) {w' : World} {vs' : Array Value} {T : TypeId} (hb0 : ∃ us, w.heap[b]? = some (.cells us T (0, 0)) ∧ us.size = vs'.size)
    (hb : w'.heap[b]? = some (.cells vs' T (0, 0))) (ho : ∀ b', b' ≠ b → w'.heap[b']? = w.heap[b']?) (hs : w'.heap.size = w.heap.size) (h1 : w'.os = w.os) (h2 : w'.tape = w.tape) (h3 : w'.output = w.output)
    (hl : vs'.size = cs'.length) (hr : ∀ (i : Nat) c v, cs'[i]? = some c → vs'[i]? = some v → R st w c v) : Rel (st.set n (b, .cells cs')) w' ∧ Ext st w (st.set n (b, .cells cs')) w' := by
  have hn := hrel.nodup
  have hn' := set_nodup (o' := .cells cs') hst hn
  have hlen : n < st.length := (List.getElem?_eq_some_iff.1 hst).1
  have hshape : ∀ b', b' < w.heap.size → w'.shape? b' = w.shape? b' := fun b' _ => by
    by_cases ha : b' = b
    · subst ha
      obtain ⟨us, hu, hz⟩ := hb0
      simp only [World.shape?, hb, hu, hz]
    · simp only [World.shape?, ho _ ha]
  have hx : Ext st w (st.set n (b, .cells cs')) w' := by
    refine ⟨h1, h2, h3, hshape, by omega, fun b' hb' hk => ho b' fun e => hk _ (e ▸ mem_at hst), fun b' e size m cap hb' hg off hoff => ?_, fun b' off hb' hm => ?_, fun b' us hb' hg => ho b' fun e => by subst e; have := key_unique hn hg (mem_at hst); cases this⟩
    · have hne : b' ≠ b := fun e => by subst e; have := key_unique hn hg (mem_at hst); cases this
      exact World.cell?_of_block (w := w) (ho b' hne)
    · obtain ⟨o, ho1, ho2⟩ := hm
      rcases set_mem hst ho1 with e | e
      · cases e; exact ⟨_, mem_at hst, trivial⟩
      · exact ⟨o, e, ho2⟩
  refine ⟨⟨hn', fun b' ds hd => ?_, fun b' e size m cap hg => ?_, fun b' us hg => ?_⟩, hx⟩
  · by_cases he : b' = b
    · subst he
      have hmem : (b', Ob.cells cs') ∈ st.set n (b', .cells cs') := List.mem_iff_getElem?.2 ⟨n, by simp [hlen]⟩
      have := key_unique hn' hd hmem
      cases this
      exact ⟨vs', T, hb, hl, fun i c v hc hv => (hr i c v hc hv).mono hx hn⟩
    · rcases set_mem hst hd with e | e
      · cases e; exact absurd rfl he
      · obtain ⟨vs, T', k1, k2, k3⟩ := hrel.cells b' ds e
        exact ⟨vs, T', by rw [ho b' he]; exact k1, k2, fun i c v hc hv => (k3 i c v hc hv).mono hx hn⟩
  · rcases set_mem hst hg with e' | e'
    · cases e'
    · have hne : b' ≠ b := fun e => by subst e; have := key_unique hn e' (mem_at hst); cases this
      obtain ⟨vs, k1, k2⟩ := hrel.grow b' e size m cap e'
      exact ⟨vs, by rw [ho b' hne]; exact k1, k2⟩
  · rcases set_mem hst hg with e' | e'
    · cases e'
    · exact hx.konst_rel hrel e'

theorem key_lt (hrel : Rel st w) {b : Nat} {o : Ob} (h : (b, o) ∈ st) : b < w.heap.size := by
  have : ∃ x, w.heap[b]? = some x := by
    cases o with
    | cells cs => obtain ⟨vs, T, h1, _⟩ := hrel.cells b cs h; exact ⟨_, h1⟩
    | grow e size n cap => obtain ⟨vs, h1, _⟩ := hrel.grow b e size n cap h; exact ⟨_, h1⟩
    | konst vs => exact ⟨_, Array.getElem?_eq_getElem (hrel.konst b vs h).1⟩
  obtain ⟨x, hx⟩ := this
  exact (Array.getElem?_eq_some_iff.1 hx).1

/-- A new block. -/
theorem alloc_rel (hrel : Rel st w) {ob : Ob} {vs : Array Value} {T : TypeId}
    (hob : match ob with | .cells cs => vs.size = cs.length ∧ ∀ (i : Nat) c v, cs[i]? = some c → vs[i]? = some v → R st w c v | .grow e size n cap => e = T ∧ vs.size = cap * size ∧ n ≤ cap ∧ cap ≤ maxLen | .konst _ => False) :
    Rel ((w.heap.size, ob) :: st) (w.alloc (.cells vs T)) ∧ Ext st w ((w.heap.size, ob) :: st) (w.alloc (.cells vs T)) := by
  have hn := hrel.nodup
  have hold : ∀ b', b' < w.heap.size → (w.alloc (.cells vs T)).heap[b']? = w.heap[b']? := fun b' hb' => Below.heap_alloc w _ b' hb'
  have hx : Ext st w ((w.heap.size, ob) :: st) (w.alloc (.cells vs T)) := by
    refine ⟨rfl, rfl, rfl, fun b' hb' => by simp only [World.shape?, hold b' hb'], by simp, fun b' hb' _ => hold b' hb', fun b' e size m cap hb' hg off hoff => World.cell?_of_block (w := w) (hold b' hb'), fun b' off hb' hm => ?_, fun b' us hb' _ => hold b' hb'⟩
    obtain ⟨o, ho1, ho2⟩ := hm
    rcases List.mem_cons.1 ho1 with e | e
    · cases e; omega
    · exact ⟨o, e, ho2⟩
  have hnew : (w.alloc (.cells vs T)).heap[w.heap.size]? = some (.cells vs T) := heap_alloc_new w _
  have hn' : ((((w.heap.size, ob) :: st : St)).map (·.1)).Nodup := by
    simp only [List.map_cons, List.nodup_cons]
    refine ⟨fun h => ?_, hn⟩
    obtain ⟨p, hp, hp'⟩ := List.mem_map.1 h
    have := key_lt hrel (b := p.1) (o := p.2) hp
    omega
  refine ⟨⟨hn', fun b' ds hd => ?_, fun b' e size m cap hg => ?_, fun b' us hg => ?_⟩, hx⟩
  · rcases List.mem_cons.1 hd with e | e
    · cases e
      exact ⟨vs, T, hnew, hob.1, fun i c v hc hv => (hob.2 i c v hc hv).mono hx hn⟩
    · obtain ⟨us, T', k1, k2, k3⟩ := hrel.cells b' ds e
      exact ⟨us, T', by rw [hold b' (key_lt hrel e)]; exact k1, k2, fun i c v hc hv => (k3 i c v hc hv).mono hx hn⟩
  · rcases List.mem_cons.1 hg with e' | e'
    · cases e'
      obtain ⟨rfl, k⟩ := hob
      exact ⟨vs, hnew, k⟩
    · obtain ⟨us, k1, k2⟩ := hrel.grow b' e size m cap e'
      exact ⟨us, by rw [hold b' (key_lt hrel e')]; exact k1, k2⟩
  · rcases List.mem_cons.1 hg with e' | e'
    · cases e'; exact hob.elim
    · exact hx.konst_rel hrel e'

theorem eval_ptr {x : Operand} {b off : Nat} {a : Act} (hx : AEv env x (.ptr b off)) (hg : Good N env st a w) : a.eval x = .pointer (some ⟨b, off, none⟩) := (hx _ _ _ _ hg).lit_inv

theorem run_isAgg' {t : TypeId} {d : TypeDesc} (h : P.underlying t = some d) (hd : d.isRow = false) (w : World) : (isAgg t).run P w = .ok false w := by
  unfold isAgg
  rw [Sem.run_bind, run_underlying h w]
  cases d <;> simp_all

/-- A type whose values are one cell. -/
def flatT (P : Program) (t : TypeId) : Bool := match P.underlying t with | some d => !d.isRow | none => false
/-- A struct or an array of m cells. -/
def rowT (P : Program) (t : TypeId) (m : Nat) : Bool := match P.underlying t, P.info? t with | some d, some i => d.isRow && i.size == m | _, _ => false
theorem flatT_spec {t : TypeId} (h : flatT P t = true) : ∃ d, P.underlying t = some d ∧ d.isRow = false := by
  unfold flatT at h
  cases hu : P.underlying t with
  | none => simp [hu] at h
  | some d => exact ⟨d, rfl, by simpa [hu] using h⟩
theorem rowT_spec {t : TypeId} {m : Nat} (h : rowT P t m = true) : ∃ d, P.underlying t = some d ∧ d.isRow = true ∧ (P.info? t).map (·.size) = some m := by
  unfold rowT at h
  cases hu : P.underlying t with
  | none => simp [hu] at h
  | some d =>
    cases hi : P.info? t with
    | none => simp [hu, hi] at h
    | some i => simp [hu, hi] at h; exact ⟨d, rfl, by simpa using h.1, by simp [h.2]⟩

/-! ### Reading -/
theorem S_load {t : TypeId} {x : Operand} {b off : Nat} {cs : List AV} {c : AV} (n : Nat) (ho : o.op = .load t x) (hx : AEv env x (.ptr b off)) (hst : st[n]? = some (b, .cells cs)) (hc : cs[off]? = some c)
    (ht : flatT P t = true) : PStep P N o env st c :=
  .of_val fun a w hg => by
    obtain ⟨d, hu, hd⟩ := flatT_spec ht
    have e := eval_ptr hx hg
    obtain ⟨v, h1, h2, _⟩ := hg.rel.at_ (mem_at hst) hc
    refine ⟨v, ?_, h2⟩
    simp [execOp, ho, e, Instr.loadAt, Instr.sureAddr, loadVar, run_isAgg' hu hd, h1]
theorem S_loadN {t : TypeId} {x : Operand} {b off m : Nat} {cs : List AV} (n : Nat) (ho : o.op = .load t x) (hx : AEv env x (.ptr b off)) (hst : st[n]? = some (b, .cells cs))
    (ht : rowT P t m = true) (hm : off + m ≤ cs.length) : PStep P N o env st (.agg ((cs.drop off).take m)) :=
  .of_val fun a w hg => by
    obtain ⟨d, hu, hd, hi⟩ := rowT_spec ht
    have e := eval_ptr hx hg
    obtain ⟨vs, T, h1, h2, h3⟩ := hg.rel.cells b cs (mem_at hst)
    have hlen : ((vs.toList.drop off).take m).length = m := by simp; omega
    refine ⟨.agg ((vs.toList.drop off).take m).toArray, ?_, .agg _ _ (by simp; omega) fun i c v hc hv => ?_⟩
    · have hr : w.rangeAt b off ((vs.toList.drop off).take m) := fun j v hv => by
        have hj : j < m := by have := (List.getElem?_eq_some_iff.1 hv).1; omega
        rw [List.getElem?_take_of_lt hj, List.getElem?_drop] at hv
        simp [World.cell?, h1]; simpa using hv
      simp only [execOp, ho, e, Sem.run_bind, run_loadAt_mid (P := P) w b off t _ d hr hu hd (by rw [hi, hlen]), Result.andThen_ok, Sem.run_pure]
    · have hi : i < m := by have := (List.getElem?_eq_some_iff.1 hc).1; simp at this; omega
      rw [List.getElem?_take_of_lt hi, List.getElem?_drop] at hc
      rw [List.getElem?_toArray, List.getElem?_take_of_lt hi, List.getElem?_drop] at hv
      exact h3 _ c v hc (by simpa using hv)

theorem ip_inv {cs : List AV} {v : Value} (h : R st w (.ip cs) v) : ∃ b off, ∃ f : Nat → Value, v = .pointer (some ⟨b, off, none⟩) ∧ (∀ (j : Nat) c, cs[j]? = some c → w.cell? ⟨b, off + j, none⟩ = some (f j) ∧ ¬ Mut st b (off + j)) ∧ ∀ (j : Nat) c, cs[j]? = some c → R st w c (f j) := by
  cases h with
  | ip _ b off f h1 h2 => exact ⟨b, off, f, rfl, h1, h2⟩

theorem S_loadP {t : TypeId} {x : Operand} {cs : List AV} {c : AV} (ho : o.op = .load t x) (hx : AEv env x (.ip cs)) (hc : cs[0]? = some c)
    (ht : flatT P t = true) : PStep P N o env st c :=
  .of_val fun a w hg => by
    obtain ⟨d, hu, hd⟩ := flatT_spec ht
    obtain ⟨b, off, f, e, h1, h2⟩ := ip_inv (hx _ _ _ _ hg)
    refine ⟨f 0, ?_, h2 0 c hc⟩
    have := (h1 0 c hc).1
    simp only [Nat.add_zero] at this
    simp [execOp, ho, e, Instr.loadAt, Instr.sureAddr, loadVar, run_isAgg' hu hd, this]
theorem S_loadPN {t : TypeId} {x : Operand} {m : Nat} {cs : List AV} (ho : o.op = .load t x) (hx : AEv env x (.ip cs))
    (ht : rowT P t m = true) (hm : m ≤ cs.length) : PStep P N o env st (.agg (cs.take m)) :=
  .of_val fun a w hg => by
    obtain ⟨d, hu, hd, hi⟩ := rowT_spec ht
    obtain ⟨b, off, f, e, h1, h2⟩ := ip_inv (hx _ _ _ _ hg)
    have hlen : ((List.range m).map f).length = m := by simp
    refine ⟨.agg ((List.range m).map f).toArray, ?_, .agg _ _ (by simp; omega) fun i c v hc hv => ?_⟩
    · have hr : w.rangeAt b off ((List.range m).map f) := fun j v hv => by
        have hj : j < m := by have := (List.getElem?_eq_some_iff.1 hv).1; omega
        simp [hj] at hv
        subst hv
        exact (h1 j _ (List.getElem?_eq_getElem (by omega))).1
      simp only [execOp, ho, e, Sem.run_bind, run_loadAt_mid (P := P) w b off t _ d hr hu hd (by rw [hi, hlen]), Result.andThen_ok, Sem.run_pure]
    · have hi : i < m := by have := (List.getElem?_eq_some_iff.1 hc).1; simp at this; omega
      rw [List.getElem?_take_of_lt hi] at hc
      simp [hi] at hv
      subst hv
      exact h2 i c hc

/-! ### Addresses -/
theorem run_fieldAt' (w : World) (s : TypeId) (b off i : Nat) (fs : Array Field) (f : Field) (m : Nat) (hs : P.underlying s = some (.struct fs)) (hf : fs[i]? = some f) (hi : (P.info? f.type).map (·.size) = some m) (hm : m ≠ 0) :
    (Instr.fieldAt s (.pointer (some ⟨b, off, none⟩)) i).run P w = .ok (.pointer (some ⟨b, off + f.offset, none⟩)) w := by
  cases hq : P.info? f.type with
  | none => simp [hq] at hi
  | some k =>
    have : ¬ k.size = 0 := by simp [hq] at hi; omega
    simp [Instr.fieldAt, run_underlying hs, hf, Instr.sureAddr, fieldPlace, sizeOf, typeInfo, hq, this, Addr.add_mid]
/-- 'off', 'm' : where the field lies in its struct, and how many cells it has: a closed fact. -/
def fieldIs (P : Program) (s : TypeId) (i k : Nat) : Bool :=
  match P.underlying s with
  | some (.struct fs) => match fs[i]? with
    | some f => f.offset == k && (match P.info? f.type with | some t => t.size != 0 | none => false)
    | none => false
  | _ => false
theorem run_fieldAt'' (w : World) {s : TypeId} (b off : Nat) {i k : Nat} (h : fieldIs P s i k = true) :
    (Instr.fieldAt s (.pointer (some ⟨b, off, none⟩)) i).run P w = .ok (.pointer (some ⟨b, off + k, none⟩)) w := by
  unfold fieldIs at h
  cases hs : P.underlying s with
  | none => simp [hs] at h
  | some d =>
    cases d <;> simp only [hs] at h <;> try (exact absurd h (by decide))
    rename_i fs
    cases hf : fs[i]? with
    | none => simp [hf] at h
    | some f =>
      simp only [hf] at h
      cases ht : P.info? f.type with
      | none => simp [ht] at h
      | some t =>
        simp [ht] at h
        rw [← h.1]
        exact run_fieldAt' w s b off i fs f t.size hs hf (by simp [ht]) h.2
theorem S_field {s : TypeId} {x : Operand} {b off i : Nat} (k : Nat) (ho : o.op = .fieldAddr s x i) (hx : AEv env x (.ptr b off)) (hf : fieldIs P s i k = true) : PStep P N o env st (.ptr b (off + k)) :=
  .of_val fun a w hg => ⟨_, by simp only [execOp, ho, eval_ptr hx hg, Sem.run_bind, run_fieldAt'' w b off hf, Result.andThen_ok, Sem.run_pure], .lit _⟩
theorem S_fieldP {s : TypeId} {x : Operand} {cs : List AV} {i : Nat} (k : Nat) (ho : o.op = .fieldAddr s x i) (hx : AEv env x (.ip cs)) (hf : fieldIs P s i k = true) : PStep P N o env st (.ip (cs.drop k)) :=
  .of_val fun a w hg => by
    obtain ⟨b, off, f, e, h1, h2⟩ := ip_inv (hx _ _ _ _ hg)
    refine ⟨_, by simp only [execOp, ho, e, Sem.run_bind, run_fieldAt'' w b off hf, Result.andThen_ok, Sem.run_pure], .ip _ b (off + k) (fun j => f (k + j)) (fun j c hc => ?_) fun j c hc => ?_⟩
    · rw [List.getElem?_drop] at hc; rw [Nat.add_assoc]; exact h1 _ c hc
    · rw [List.getElem?_drop] at hc; exact h2 _ c hc
theorem S_nilCheck {x : Operand} {b off : Nat} (ho : o.op = .nilCheck x) (hx : AEv env x (.ptr b off)) : PStep P N o env st (.ptr b off) :=
  .of_val fun a w hg => ⟨_, by simp only [execOp, ho, eval_ptr hx hg]; rfl, .lit _⟩
theorem S_nilCheckP {x : Operand} {cs : List AV} (ho : o.op = .nilCheck x) (hx : AEv env x (.ip cs)) : PStep P N o env st (.ip cs) :=
  .of_val fun a w hg => by
    have h := hx _ _ _ _ hg
    obtain ⟨b, off, f, e, _⟩ := ip_inv h
    exact ⟨_, by simp only [execOp, ho, e]; rfl, by rw [← e]; exact h⟩

/-- An element's place in an array in memory. -/
theorem S_elemA {t e : TypeId} {len : Nat} {x y : Operand} {b off : Nat} {k : IntKind} {i : Int} (m : Nat) (ho : o.op = .indexAddr t x y) (hx : AEv env x (.ptr b off)) (hy : AEv env y (.int k i))
    (hu : P.underlying t = some (.array len e)) (hm : (P.info? e).map (·.size) = some m) (h0 : 0 ≤ i) (h1 : i < len) : PStep P N o env st (.ptr b (off + i.toNat * m)) :=
  .of_val fun a w hg => by
    refine ⟨_, ?_, .lit _⟩
    have e2 := (hy _ _ _ _ hg).lit_inv
    cases hq : P.info? e with
    | none => simp [hq] at hm
    | some q =>
      have hqm : q.size = m := by simpa [hq] using hm
      simp [execOp, ho, eval_ptr hx hg, e2, Instr.indexAt, asIntOf, run_underlying hu, Instr.sureAddr, h0, h1, sizeOf, typeInfo, hq, hqm, Addr.add_mid]
/-- .. in a slice that is an object's. -/
theorem S_elemO {t e : TypeId} {len cap : Nat} {x y : Operand} {b off : Nat} {k : IntKind} {i : Int} (m : Nat) (ho : o.op = .indexAddr t x y) (hx : AEv env x (.lit (.slice (some ⟨b, off, none⟩) len cap))) (hy : AEv env y (.int k i))
    (hu : P.underlying t = some (.slice e)) (hm : (P.info? e).map (·.size) = some m) (h0 : 0 ≤ i) (h1 : i < len) : PStep P N o env st (.ptr b (off + i.toNat * m)) :=
  .of_val fun a w hg => by
    refine ⟨_, ?_, .lit _⟩
    have e1 := (hx _ _ _ _ hg).lit_inv
    have e2 := (hy _ _ _ _ hg).lit_inv
    cases hq : P.info? e with
    | none => simp [hq] at hm
    | some q =>
      have hqm : q.size = m := by simpa [hq] using hm
      simp [execOp, ho, e1, e2, Instr.indexAt, asIntOf, run_underlying hu, h0, h1, sizeOf, typeInfo, hq, hqm, Addr.add_mid]

theorem sl_inv {xs : List AV} {v : Value} (h : R st w (.sl xs) v) : ∃ a cap, v = .slice a xs.length cap ∧ (xs ≠ [] → ∃ b off size, ∃ f : Nat → Value, a = some ⟨b, off, none⟩ ∧ xs.length ≤ cap ∧ (∀ (i : Nat) x, xs[i]? = some x → x.cells.length = size) ∧
    (∀ (i : Nat) x (j : Nat) c, xs[i]? = some x → x.cells[j]? = some c → Fz st w b (off + i * size + j) (f (i * size + j))) ∧ ∀ (i : Nat) x (j : Nat) c, xs[i]? = some x → x.cells[j]? = some c → R st w c (f (i * size + j))) := by
  cases h with
  | sl0 a cap => exact ⟨a, cap, rfl, fun h => absurd rfl h⟩
  | sl _ b off cap size f h1 h2 h3 h4 => exact ⟨_, cap, rfl, fun _ => ⟨b, off, size, f, rfl, h1, h2, h3, h4⟩⟩
theorem row_inv {b off cap : Nat} {xs : List AV} {v : Value} (h : R st w (.row b off cap xs) v) : v = .slice (some ⟨b, off, none⟩) xs.length cap ∧ xs.length ≤ cap := by
  cases h with
  | row _ _ _ _ size f h1 _ _ _ => exact ⟨rfl, h1⟩

/-- .. in a slice that stays. -/
theorem S_elem {t e : TypeId} {xs : List AV} {x y : Operand} {k : IntKind} {i : Int} {c : AV} (m : Nat) (ho : o.op = .indexAddr t x y) (hx : AEv env x (.sl xs)) (hy : AEv env y (.int k i))
    (hu : P.underlying t = some (.slice e)) (hm : (P.info? e).map (·.size) = some m) (h0 : 0 ≤ i) (hc : xs[i.toNat]? = some c) (hcm : c.cells.length = m) : PStep P N o env st (.ip c.cells) :=
  .of_val fun a w hg => by
    obtain ⟨A, cap, e1, h⟩ := sl_inv (hx _ _ _ _ hg)
    have hlt : i.toNat < xs.length := (List.getElem?_eq_some_iff.1 hc).1
    obtain ⟨b, off, size, f, rfl, k1, k2, k3, k4⟩ := h (by intro h; subst h; simp at hlt)
    have e2 := (hy _ _ _ _ hg).lit_inv
    have hsz : size = m := by rw [← hcm, k2 _ c hc]
    subst hsz
    have h1 : i < (xs.length : Int) := by omega
    refine ⟨.pointer (some ⟨b, off + i.toNat * size, none⟩), ?_, .ip _ b (off + i.toNat * size) (fun j => f (i.toNat * size + j)) (fun j u hu => k3 _ c j u hc hu) fun j u hu => k4 _ c j u hc hu⟩
    cases hq : P.info? e with
    | none => simp [hq] at hm
    | some q =>
      have hqm : q.size = size := by simpa [hq] using hm
      simp [execOp, ho, e1, e2, Instr.indexAt, asIntOf, run_underlying hu, h0, h1, sizeOf, typeInfo, hq, hqm, Addr.add_mid]

theorem S_len {t : TypeId} {e : TypeId} {x : Operand} {xs : List AV} (ho : o.op = .call { callee := .builtin .len, args := #[x], argTypes := #[t] }) (hx : AEv env x (.sl xs)) (hu : P.underlying t = some (.slice e)) : PStep P N o env st (.int .i64 xs.length) :=
  .of_val fun a w hg => by
    obtain ⟨A, cap, e1, _⟩ := sl_inv (hx _ _ _ _ hg)
    refine ⟨.int .i64 xs.length, ?_, .lit _⟩
    simp only [execOp, ho, resolve, invoke, builtin, Sem.run_bind, Sem.run_pure, Result.andThen_ok]
    simp [e1, Builtin.len_, run_underlying hu, goInt]
theorem S_lenO {t : TypeId} {e : TypeId} {x : Operand} {p : Option Addr} {n c : Nat} (ho : o.op = .call { callee := .builtin .len, args := #[x], argTypes := #[t] }) (hx : AEv env x (.lit (.slice p n c))) (hu : P.underlying t = some (.slice e)) : PStep P N o env st (.int .i64 n) :=
  .of_val fun a w hg => by
    have e1 := (hx _ _ _ _ hg).lit_inv
    refine ⟨.int .i64 n, ?_, .lit _⟩
    simp only [execOp, ho, resolve, invoke, builtin, Sem.run_bind, Sem.run_pure, Result.andThen_ok]
    simp [e1, Builtin.len_, run_underlying hu, goInt]

/-- A part of an array in memory. -/
theorem S_cutA {t e : TypeId} {len : Nat} {x : Operand} {lo hi : Option Operand} {b off i j : Nat} (m : Nat) (ho : o.op = .slice t x lo hi none) (hx : AEv env x (.ptr b off))
    (hl : match lo with | none => i = 0 | some l => ∃ k, AEv env l (.int k i)) (hh : match hi with | none => j = len | some l => ∃ k, AEv env l (.int k j))
    (hu : P.underlying t = some (.array len e)) (hm : (P.info? e).map (·.size) = some m) (h1 : i ≤ j) (h2 : j ≤ len) (h3 : i < len) : PStep P N o env st (.lit (.slice (some ⟨b, off + i * m, none⟩) (j - i) (len - i))) :=
  .of_val fun a w hg => by
    refine ⟨_, ?_, .lit _⟩
    cases hq : P.info? e with
    | none => simp [hq] at hm
    | some q =>
      have hqm : q.size = m := by simpa [hq] using hm
      have hne : ¬ len = i := by omega
      have hb : ∀ w, (Instr.sliceBounds false len len (lo.map a.eval) (hi.map a.eval) none).run P w = .ok (i, j, len) w := fun w => by
        unfold Instr.sliceBounds
        cases lo with
        | none =>
          cases hi with
          | none => simp at hl hh; subst hl; subst hh; simp
          | some l =>
            obtain ⟨k, hk⟩ := hh
            simp at hl; subst hl
            have e3 := (hk _ _ _ _ hg).lit_inv
            simp [e3, run_sliceBound (P := P) w k (j : Int) len .sliceAlen (by omega) (by omega)]
        | some l =>
          obtain ⟨k, hk⟩ := hl
          have e3 := (hk _ _ _ _ hg).lit_inv
          cases hi with
          | none => simp at hh; subst hh; simp [e3, run_sliceBound (P := P) w k (i : Int) j .sliceB (by omega) (by omega)]
          | some l2 =>
            obtain ⟨k2, hk2⟩ := hh
            have e4 := (hk2 _ _ _ _ hg).lit_inv
            simp [e3, e4, run_sliceBound (P := P) w k2 (j : Int) len .sliceAlen (by omega) (by omega), run_sliceBound (P := P) w k (i : Int) j .sliceB (by omega) (by omega)]
      simp only [execOp, ho, eval_ptr hx hg, Instr.sliceAt, Sem.run_bind, run_underlying hu, Result.andThen_ok, Instr.sureAddr, Sem.run_pure, Option.map_none, hb]
      simp [sizeOf, typeInfo, hq, hqm, hne, Addr.add_mid]

/-! ### Writing -/
theorem one_of {c : AV} {v : Value} (h : R st w c v) (hc : c ≠ .any) : True := trivial

/-- A value of one cell. -/
def AV.one : AV → Bool
  | .lit v => v.oneCell'
  | .sl _ | .row _ _ _ _ | .ip _ | .ifc _ _ | .nilB _ _ _ => true
  | _ => false
theorem R.one {c : AV} {v : Value} (h : R st w c v) (hc : c.one = true) : v.oneCell' = true := by
  cases h <;> first | rfl | exact hc | (simp [AV.one] at hc)

theorem S_store {t : TypeId} {x y : Operand} {b off : Nat} {cs : List AV} {c : AV} (n : Nat) (ho : o.op = .store t x y) (hx : AEv env x (.ptr b off)) (hy : AEv env y c) (hst : st[n]? = some (b, .cells cs)) (hoff : off < cs.length) (hone : c.one = true)
    (hi : (P.info? t).map (·.size) = some 1) : Step P N o env st fun x st' => x = .any ∧ st' = st.set n (b, .cells (cs.set off c)) := by
  intro a w hg next Q hn
  have e := eval_ptr hx hg
  have hr := hy _ _ _ _ hg
  have h1 := hr.one hone
  obtain ⟨vs, T, k1, k2, k3⟩ := hg.rel.cells b cs (mem_at hst)
  have hlt : off < vs.size := by omega
  have hcell : w.cell? ⟨b, off, none⟩ = some vs[off] := by simp [World.cell?, k1, hlt]
  have hfr : w.frozen? ⟨b, off, none⟩ = false := by simp [World.frozen?, k1]
  have hcells : (a.eval y).cells = #[a.eval y] := by
    cases hv : a.eval y <;> first | rfl | (rw [hv] at h1; simp [Value.oneCell'] at h1)
  have hrun : (execOp a.eval o).run P w = .ok .skip (w.setCell ⟨b, off, none⟩ (a.eval y)) := by
    cases hq : P.info? t with
    | none => simp [hq] at hi
    | some q =>
      have hqm : q.size = 1 := by simpa [hq] using hi
      have hs := run_store P w ⟨b, off, none⟩ (a.eval y) .plain h1
      simp only [hcell, hfr] at hs
      simp [execOp, ho, e, Instr.storeAt, Instr.sureAddr, storeVar, sizeOf, typeInfo, hq, hqm, hcells, storeCells, Addr.add_mid, hs]
  unfold Oper.wp
  rw [hrun]
  have hw := write_rel hg.rel (w' := w.setCell ⟨b, off, none⟩ (a.eval y)) (cs' := cs.set off c) (vs' := vs.setIfInBounds off (a.eval y)) (T := T) hst ⟨vs, k1, by simp⟩
    (heap_setCell_same w b off vs T (a.eval y) k1)
    (fun b' hb' => heap_setCell_other w ⟨b, off, none⟩ b' (a.eval y) hb') (by simp) rfl rfl rfl (by simp [k2]) (fun i d v hd hv => by
      rw [List.getElem?_set] at hd
      rw [Array.getElem?_setIfInBounds] at hv
      by_cases hio : off = i
      · subst hio
        simp [hoff] at hd
        simp [hlt] at hv
        subst hd; subst hv
        exact hr
      · simp only [hio, if_false] at hd hv
        exact k3 i d v hd hv)
  exact hn .any _ undef _ ⟨rfl, rfl⟩ (.any _) hw.1 hw.2

/-! ### New memory -/
theorem S_alloc {e : TypeId} (zs : List Value) (ho : o.op = .alloc e) (hz : (P.info? e).map (fun i => i.zero.map (·.cells.toList)) = some (some zs)) :
    Step P N o env st fun x st' => ∃ b, x = .ptr b 0 ∧ st' = (b, .cells (zs.map .lit)) :: st := by
  intro a w hg next Q hn
  have hrun : (execOp a.eval o).run P w = .ok (.value (.pointer (some ⟨w.heap.size, 0, none⟩))) (w.alloc (.cells zs.toArray e)) := by
    cases hq : P.info? e with
    | none => simp [hq] at hz
    | some q =>
      cases hqz : q.zero with
      | none => simp [hq, hqz] at hz
      | some z =>
        have hc : z.cells = zs.toArray := by simp [hq, hqz] at hz; rw [← hz]
        simp [execOp, ho, Instr.alloc, zeroValue, typeInfo, hq, hqz, newVar, newRow, hc]
  unfold Oper.wp
  rw [hrun]
  have hw := alloc_rel hg.rel (ob := .cells (zs.map .lit)) (vs := zs.toArray) (T := e) ⟨by simp, fun i c v hc hv => by
    simp only [List.getElem?_map] at hc
    simp only [List.getElem?_toArray] at hv
    rw [hv] at hc
    simp at hc
    subst hc
    exact .lit v⟩
  exact hn _ _ _ _ ⟨_, rfl, rfl⟩ (.lit _) hw.1 hw.2

theorem S_box {e : TypeId} {x : Operand} {cs : List AV} (ho : o.op = .box e x) (hx : AEv env x (.agg cs)) :
    Step P N o env st fun y st' => ∃ b, y = .ptr b 0 ∧ st' = (b, .cells cs) :: st := by
  intro a w hg next Q hn
  have hr := hx _ _ _ _ hg
  obtain ⟨vs, e1, hk⟩ : ∃ vs, a.eval x = .agg vs ∧ vs.size = cs.length ∧ ∀ (i : Nat) c v, cs[i]? = some c → vs[i]? = some v → R st w c v := by
    generalize a.eval x = u at hr
    cases hr with
    | agg _ vs hn h => exact ⟨vs, rfl, hn.symm, h⟩
  have hrun : (execOp a.eval o).run P w = .ok (.value (.pointer (some ⟨w.heap.size, 0, none⟩))) (w.alloc (.cells vs e)) := by
    simp [execOp, ho, e1, Instr.box, newVar, newRow, Value.cells]
  unfold Oper.wp
  rw [hrun]
  have hw := alloc_rel hg.rel (ob := .cells cs) (vs := vs) (T := e) hk
  exact hn _ _ _ _ ⟨_, rfl, rfl⟩ (.lit _) hw.1 hw.2
theorem S_box1 {e : TypeId} {x : Operand} {c : AV} (ho : o.op = .box e x) (hx : AEv env x c) (hone : c.one = true) :
    Step P N o env st fun y st' => ∃ b, y = .ptr b 0 ∧ st' = (b, .cells [c]) :: st := by
  intro a w hg next Q hn
  have hr := hx _ _ _ _ hg
  have h1 := hr.one hone
  have hcells : (a.eval x).cells = #[a.eval x] := by
    cases hv : a.eval x <;> first | rfl | (rw [hv] at h1; simp [Value.oneCell'] at h1)
  have hrun : (execOp a.eval o).run P w = .ok (.value (.pointer (some ⟨w.heap.size, 0, none⟩))) (w.alloc (.cells #[a.eval x] e)) := by
    simp [execOp, ho, Instr.box, newVar, newRow, hcells]
  unfold Oper.wp
  rw [hrun]
  have hw := alloc_rel hg.rel (ob := .cells [c]) (vs := #[a.eval x]) (T := e) ⟨rfl, fun i d v hd hv => by
    cases i with
    | zero => simp at hd hv; subst hd; subst hv; exact hr
    | succ i => simp at hd⟩
  exact hn _ _ _ _ ⟨_, rfl, rfl⟩ (.lit _) hw.1 hw.2

/-! ### Calls -/
def Enters (P : Program) (f : FuncId) : Prop := ∃ fn c, P.funcs[f]? = some fn ∧ (fn.name == "runtime.NumGoroutine") = false ∧ fn.body = some c

/-- A call of function f at these arguments, in this state, returns a value and leaves a state of which K holds. -/
structure ACalls (P : Program) (f : FuncId) (args : List AV) (st : St) (K : AV → St → Prop) : Prop where
  enters : Enters P f
  calls : ∀ w (vs : Array Value), Rel st w → vs.size = args.length → (∀ (i : Nat) x v, args[i]? = some x → vs[i]? = some v → R st w x v) →
    Calls P f vs w fun e w' => ∃ r x st', e = .returned r ∧ K x st' ∧ R st' w' x r ∧ Rel st' w' ∧ Ext st w st' w'

theorem ACalls.mono {f : FuncId} {args : List AV} {K K' : AV → St → Prop} (h : ACalls P f args st K) (hk : ∀ x st', K x st' → K' x st') : ACalls P f args st K' :=
  ⟨h.enters, fun w vs h1 h2 h3 => (h.calls w vs h1 h2 h3).mono fun e w' ⟨r, x, st', e1, k, k2⟩ => ⟨r, x, st', e1, hk _ _ k, k2⟩⟩

/-- The operands one by one. -/
inductive AEvs (env : Env) : List Operand → List AV → Prop
  | nil : AEvs env [] []
  | cons {x : Operand} {y : AV} {xs : List Operand} {ys : List AV} (h : AEv env x y) (t : AEvs env xs ys) : AEvs env (x :: xs) (y :: ys)
theorem AEvs.at_ {xs : List Operand} {ys : List AV} (h : AEvs env xs ys) {a : Act} (hg : Good N env st a w) : xs.length = ys.length ∧ ∀ (i : Nat) y x, ys[i]? = some y → xs[i]? = some x → R st w y (a.eval x) := by
  induction h with
  | nil => exact ⟨rfl, fun i y x hy => by simp at hy⟩
  | cons h t ih =>
    refine ⟨by simp [ih.1], fun i y x hy hx => ?_⟩
    cases i with
    | zero => simp at hy hx; subst hy; subst hx; exact h _ _ _ _ hg
    | succ i => exact ih.2 i y x (by simpa using hy) (by simpa using hx)

theorem run_callFunc' {f : FuncId} (h : Enters P f) (args : Array Value) (w : World) : (callFunc f args).run P w = .ok (.enter f args) w := by
  obtain ⟨fn, c, hf, hn, hb⟩ := h
  have h1 : ¬ fn.name = "runtime.NumGoroutine" := by simpa using hn
  simp [callFunc, hf, h1, hb]

theorem S_call {f : FuncId} {xs : List Operand} {ts : Array TypeId} {args : List AV} {K : AV → St → Prop} (ho : o.op = .call { callee := .value (.func f), args := xs.toArray, argTypes := ts }) (hargs : AEvs env xs args) (hc : ACalls P f args st K) : Step P N o env st K := by
  intro a w hg next Q hn
  obtain ⟨hl, hr⟩ := hargs.at_ hg
  have hrun : (execOp a.eval o).run P w = .ok (.enter f (xs.map a.eval).toArray) w := by
    simp [execOp, ho, resolve, Deferred.ofValue, Act.eval, invoke, run_callFunc' hc.enters]
  unfold Oper.wp
  rw [hrun]
  refine (hc.calls w _ hg.rel (by simp [hl]) fun i x v hx hv => ?_).mono ?_
  · simp at hv
    obtain ⟨u, hu, rfl⟩ := hv
    exact hr i x u hx hu
  · rintro e w' ⟨r, x, st', rfl, k, h1, h2, h3⟩
    exact hn x st' r w' k h1 h2 h3

end

end Go.AL
