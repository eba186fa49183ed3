/-
The logic AL: structs and arrays by value: parts, building, storing, comparing.
Conditions: none; no program is in sight.
-/
import Derived.Test.YtnjlecejhnoicaaDoorAlGen
import Derived.Laws.StructEq
import Derived.Laws.Tables
import Derived.ChangeKeysEq
set_option linter.unusedVariables false
set_option linter.unusedSimpArgs false
namespace Go.AL
open Go.RowKit

section
variable {P : Program} {N : Nat} {env : Env} {st : St} {o : Oper}

/-! By membership -/
theorem S_loadM {t : TypeId} {x : Operand} {b off : Nat} {cs : List AV} {c : AV} (ho : o.op = .load t x) (hx : AEv env x (.ptr b off)) (hst : (b, Ob.cells cs) ∈ st) (hc : cs[off]? = some c) (ht : flatT P t = true) : PStep P N o env st c := by
  obtain ⟨n, hn⟩ := List.mem_iff_getElem?.1 hst
  exact S_load n ho hx hn hc ht
theorem S_loadNM {t : TypeId} {x : Operand} {b off m : Nat} {cs : List AV} (ho : o.op = .load t x) (hx : AEv env x (.ptr b off)) (hst : (b, Ob.cells cs) ∈ st) (ht : rowT P t m = true) (hm : off + m ≤ cs.length) : PStep P N o env st (.agg ((cs.drop off).take m)) := by
  obtain ⟨n, hn⟩ := List.mem_iff_getElem?.1 hst
  exact S_loadN n ho hx hn ht hm

/-! Cells put over others -/
def putAt (cs : List AV) (off : Nat) (ds : List AV) : List AV := cs.take off ++ (ds ++ cs.drop (off + ds.length))
theorem putAt_len {cs ds : List AV} {off : Nat} (h : off + ds.length ≤ cs.length) : (putAt cs off ds).length = cs.length := by simp [putAt]; omega
theorem putAt_at {cs ds : List AV} {off i : Nat} (h : off + ds.length ≤ cs.length) : (putAt cs off ds)[i]? = if off ≤ i ∧ i < off + ds.length then ds[i - off]? else cs[i]? := by
  unfold putAt
  have hl : (cs.take off).length = off := by simp; omega
  rcases Nat.lt_or_ge i off with h1 | h1
  · rw [List.getElem?_append_left (by omega), if_neg (by omega), List.getElem?_take_of_lt h1]
  · rw [List.getElem?_append_right (by omega), hl]
    rcases Nat.lt_or_ge i (off + ds.length) with h2 | h2
    · rw [List.getElem?_append_left (by omega), if_pos ⟨h1, h2⟩]
    · rw [List.getElem?_append_right (by omega), if_neg (by omega), List.getElem?_drop]
      congr 1
      omega

theorem setCells_heap (b : Nat) : ∀ (us : List Value) (off : Nat) (w : World) (vs : Array Value) (T : TypeId), w.heap[b]? = some (.cells vs T (0, 0)) → off + us.length ≤ vs.size →
    (∃ vs', (w.setCells b off us).heap[b]? = some (.cells vs' T (0, 0)) ∧ vs'.size = vs.size ∧ ∀ i : Nat, vs'[i]? = if off ≤ i ∧ i < off + us.length then us[i - off]? else vs[i]?) ∧
      (∀ b', b' ≠ b → (w.setCells b off us).heap[b']? = w.heap[b']?) ∧ (w.setCells b off us).heap.size = w.heap.size ∧ (w.setCells b off us).os = w.os ∧ (w.setCells b off us).tape = w.tape ∧ (w.setCells b off us).output = w.output
  | [], off, w, vs, T, h, hl => ⟨⟨vs, h, rfl, fun i => by rw [if_neg (by simp only [List.length_nil]; omega)]⟩, fun _ _ => rfl, rfl, rfl, rfl, rfl⟩
  | v :: us, off, w, vs, T, h, hl => by
    simp only [List.length_cons] at hl
    have h1 : (w.setCell ⟨b, off, none⟩ v).heap[b]? = some (.cells (vs.setIfInBounds off v) T (0, 0)) := heap_setCell_same w b off vs T v h
    obtain ⟨⟨vs', k1, k2, k3⟩, k4, k5, k6, k7, k8⟩ := setCells_heap b us (off + 1) (w.setCell ⟨b, off, none⟩ v) _ T h1 (by simp; omega)
    refine ⟨⟨vs', k1, by simpa using k2, fun i => ?_⟩, fun b' hb' => ?_, ?_, k6, k7, k8⟩
    · rw [k3 i]
      by_cases hi : i = off
      · subst hi
        rw [if_neg (by omega), if_pos (by simp)]
        have : i < vs.size := by omega
        simp [this]
      · rcases Nat.lt_or_ge i off with h2 | h2
        · rw [if_neg (by omega), if_neg (by omega), Array.getElem?_setIfInBounds_ne (Ne.symm hi)]
        · rcases Nat.lt_or_ge i (off + 1 + us.length) with h3 | h3
          · rw [if_pos ⟨by omega, h3⟩, if_pos ⟨by omega, by simp; omega⟩]
            rw [show i - off = (i - (off + 1)) + 1 by omega, List.getElem?_cons_succ]
          · rw [if_neg (by omega), if_neg (by simp; omega), Array.getElem?_setIfInBounds_ne (Ne.symm hi)]
    · rw [show (w.setCells b off (v :: us)) = (w.setCell ⟨b, off, none⟩ v).setCells b (off + 1) us from rfl, k4 b' hb']
      simp only [World.setCell, Array.getElem?_modify]
      rw [if_neg (Ne.symm hb')]
    · rw [show (w.setCells b off (v :: us)) = (w.setCell ⟨b, off, none⟩ v).setCells b (off + 1) us from rfl, k5]
      simp [World.setCell]

theorem agg_inv {cs : List AV} {w : World} {v : Value} (h : R st w (.agg cs) v) : ∃ vs, v = .agg vs ∧ cs.length = vs.size ∧ ∀ (i : Nat) c u, cs[i]? = some c → vs[i]? = some u → R st w c u := by
  cases h with
  | agg _ vs hn h => exact ⟨vs, rfl, hn, h⟩

/-- A row of cells goes into a variable. -/
theorem S_storeN {t : TypeId} {x y : Operand} {b off : Nat} {cs ds : List AV} (n : Nat) (ho : o.op = .store t x y) (hx : AEv env x (.ptr b off)) (hy : AEv env y (.agg ds)) (hst : st[n]? = some (b, .cells cs)) (hoff : off + ds.length ≤ cs.length) (hone : ds.all AV.one = true)
    (hi : (P.info? t).map (·.size) = some ds.length) : Step P N o env st fun x st' => x = .any ∧ st' = st.set n (b, .cells (putAt cs off ds)) := by
  intro a w hg next Q hn
  have e := eval_ptr hx hg
  obtain ⟨us, e2, hus, hur⟩ := agg_inv (hy _ _ _ _ hg)
  obtain ⟨vs, T, k1, k2, k3⟩ := hg.rel.cells b cs (mem_at hst)
  have h1 : us.all (·.oneCell') = true := Array.all_eq_true_iff_forall_mem.2 fun u hu => by
    obtain ⟨i, hi', rfl⟩ := Array.getElem_of_mem hu
    have hd : i < ds.length := by omega
    exact (hur i ds[i] us[i] (List.getElem?_eq_getElem hd) (by simp [hi'])).one (List.all_eq_true.1 hone _ (List.getElem_mem hd))
  have hthere : w.there b off us.size := fun j hj => ⟨by simp [World.cell?, k1]; omega, by simp [World.frozen?, k1]⟩
  obtain ⟨⟨vs', j1, j2, j3⟩, j4, j5, j6, j7, j8⟩ := setCells_heap b us.toList off w vs T k1 (by simp; omega)
  have hrun : (execOp a.eval o).run P w = .ok .skip (w.setCells b off us.toList) := by
    have := run_storeAt_mid (P := P) w b off t us hthere (by rw [hi, hus]) h1
    simp only [execOp, ho, e, e2, Sem.run_bind, this, Result.andThen_ok, Sem.run_pure]
  unfold Oper.wp
  rw [hrun]
  have hw := write_rel hg.rel (w' := w.setCells b off us.toList) (cs' := putAt cs off ds) (vs' := vs') (T := T) hst ⟨vs, k1, j2.symm⟩ j1 j4 j5 j6 j7 j8 (by rw [j2, k2, putAt_len hoff]) (fun i d v hd hv => by
    rw [putAt_at hoff] at hd
    rw [j3 i] at hv
    simp only [Array.length_toList, ← hus] at hv
    by_cases hc : off ≤ i ∧ i < off + ds.length
    · rw [if_pos hc] at hd hv
      exact hur _ d v hd (by simpa using hv)
    · rw [if_neg hc] at hd hv
      exact k3 i d v hd hv)
  exact hn .any _ undef _ ⟨rfl, rfl⟩ (.any _) hw.1 hw.2

/-! Parts -/
def fieldT (P : Program) (s : TypeId) (i : Nat) : Option (Nat × TypeId) := match P.underlying s with | some (.struct fs) => (fs[i]?).map fun f => (f.offset, f.type) | _ => none
theorem fieldT_spec {s : TypeId} {i k t : Nat} (h : fieldT P s i = some (k, t)) : ∃ fs f, P.underlying s = some (.struct fs) ∧ fs[i]? = some f ∧ f.offset = k ∧ f.type = t := by
  unfold fieldT at h
  cases hu : P.underlying s with
  | none => simp [hu] at h
  | some d =>
    cases d <;> simp [hu] at h
    rename_i fs
    obtain ⟨f, hf, h1, h2⟩ := h
    exact ⟨fs, f, rfl, hf, h1, h2⟩
theorem run_part_flat {t : TypeId} {cs : Array Value} {k : Nat} {v : Value} (w : World) (ht : flatT P t = true) (hv : cs[k]? = some v) : (part t cs k).run P w = .ok v w := by
  obtain ⟨d, hu, hd⟩ := flatT_spec ht
  simp [part, run_isAgg' hu hd, hv]
theorem run_part_row {t : TypeId} {cs : Array Value} {k m : Nat} (w : World) (ht : rowT P t m = true) : (part t cs k).run P w = .ok (.agg (cs.extract k (k + m))) w := by
  obtain ⟨d, hu, hd, hi⟩ := rowT_spec ht
  cases hq : P.info? t with
  | none => simp [hq] at hi
  | some q =>
    have : q.size = m := by simpa [hq] using hi
    have hag : (isAgg t).run P w = .ok true w := by
      simp only [isAgg, Sem.run_bind, run_underlying hu, Result.andThen_ok]
      cases d <;> first | rfl | (simp [TypeDesc.isRow] at hd)
    simp [part, hag, sizeOf, typeInfo, hq, this]

theorem S_part {s : TypeId} {x : Operand} {cs : List AV} {c : AV} {i t : Nat} (k : Nat) (ho : o.op = .field s x i) (hx : AEv env x (.agg cs)) (hf : fieldT P s i = some (k, t)) (ht : flatT P t = true) (hc : cs[k]? = some c) : PStep P N o env st c :=
  .of_val fun a w hg => by
    obtain ⟨vs, e, hn, hr⟩ := agg_inv (hx _ _ _ _ hg)
    obtain ⟨fs, f, h1, h2, rfl, rfl⟩ := fieldT_spec hf
    have hk : f.offset < vs.size := by have := (List.getElem?_eq_some_iff.1 hc).1; omega
    refine ⟨vs[f.offset], ?_, hr _ _ _ hc (by simp [hk])⟩
    have := run_part_flat (P := P) w ht (show vs[f.offset]? = some vs[f.offset] by simp [hk])
    simp [execOp, ho, e, Instr.field, run_underlying h1, h2, asAgg, this]
theorem S_partN {s : TypeId} {x : Operand} {cs : List AV} {i t m : Nat} (k : Nat) (ho : o.op = .field s x i) (hx : AEv env x (.agg cs)) (hf : fieldT P s i = some (k, t)) (ht : rowT P t m = true) (hm : k + m ≤ cs.length) : PStep P N o env st (.agg ((cs.drop k).take m)) :=
  .of_val fun a w hg => by
    obtain ⟨vs, e, hn, hr⟩ := agg_inv (hx _ _ _ _ hg)
    obtain ⟨fs, f, h1, h2, rfl, rfl⟩ := fieldT_spec hf
    have := run_part_row (P := P) (cs := vs) (k := f.offset) w ht
    refine ⟨.agg (vs.extract f.offset (f.offset + m)), by simp [execOp, ho, e, Instr.field, run_underlying h1, h2, asAgg, this], .agg _ _ (by simp; omega) fun j c v hc hv => ?_⟩
    have hj : j < m := by have := (List.getElem?_eq_some_iff.1 hc).1; simp at this; omega
    rw [List.getElem?_take_of_lt hj, List.getElem?_drop] at hc
    refine hr _ c v hc ?_
    rw [Array.getElem?_extract] at hv
    split at hv
    · exact hv
    · cases hv

/-! Building -/
def fillA (place : Nat → Option (Nat × Nat)) (cells : List AV) : List (Nat × AV) → Option (List AV)
  | [] => some cells
  | (i, y) :: rest => match place i with
    | none => none
    | some (off, size) => if y.flat && y.cells.length == size && decide (off + size ≤ cells.length) then fillA place (putAt cells off y.cells) rest else none

theorem foldl_set (us : Array Value) (off : Nat) (cells : Array Value) (h : off + us.size ≤ cells.size) :
    (us.zipIdx.foldl (fun cs (c, j) => cs.setIfInBounds (off + j) c) cells).size = cells.size ∧ ∀ i : Nat, (us.zipIdx.foldl (fun cs (c, j) => cs.setIfInBounds (off + j) c) cells)[i]? = if off ≤ i ∧ i < off + us.size then us[i - off]? else cells[i]? := by
  have key : ∀ (l : List Value) (k : Nat) (cells : Array Value), off + k + l.length ≤ cells.size → ((l.zipIdx k).foldl (fun cs (x : Value × Nat) => cs.setIfInBounds (off + x.2) x.1) cells).size = cells.size ∧
      ∀ i : Nat, ((l.zipIdx k).foldl (fun cs (x : Value × Nat) => cs.setIfInBounds (off + x.2) x.1) cells)[i]? = if off + k ≤ i ∧ i < off + k + l.length then l[i - (off + k)]? else cells[i]? := by
    intro l
    induction l with
    | nil => intro k cells _; exact ⟨rfl, fun i => by rw [if_neg (by simp only [List.length_nil]; omega)]; rfl⟩
    | cons v l ih =>
      intro k cells h
      simp only [List.length_cons] at h
      obtain ⟨h1, h2⟩ := ih (k + 1) (cells.setIfInBounds (off + k) v) (by simp; omega)
      rw [List.zipIdx_cons, List.foldl_cons]
      refine ⟨by rw [h1]; simp, fun i => ?_⟩
      rw [h2 i]
      by_cases hi : i = off + k
      · subst hi
        rw [if_neg (by omega), if_pos (by simp)]
        have : off + k < cells.size := by omega
        simp [this]
      · rcases Nat.lt_or_ge i (off + k) with h3 | h3
        · rw [if_neg (by omega), if_neg (by omega), Array.getElem?_setIfInBounds_ne (Ne.symm hi)]
        · rcases Nat.lt_or_ge i (off + (k + 1) + l.length) with h4 | h4
          · rw [if_pos ⟨by omega, h4⟩, if_pos ⟨by omega, by simp; omega⟩, show i - (off + k) = (i - (off + (k + 1))) + 1 by omega, List.getElem?_cons_succ]
          · rw [if_neg (by omega), if_neg (by simp; omega), Array.getElem?_setIfInBounds_ne (Ne.symm hi)]
  have := key us.toList 0 cells (by simpa using h)
  rw [← Array.foldl_toList, Array.toList_zipIdx]
  simpa using this

theorem fill_R {w : World} {place : Nat → Option (Nat × Nat)} : ∀ (ps : List (Nat × AV)) (vs : List Value) (cells cells' : List AV) (us : Array Value), ps.length = vs.length → (∀ (i : Nat) p v, ps[i]? = some p → vs[i]? = some v → R st w p.2 v) →
    cells.length = us.size → (∀ (i : Nat) c u, cells[i]? = some c → us[i]? = some u → R st w c u) → fillA place cells ps = some cells' →
    ∃ us', Instr.fill place us ((ps.map (·.1)).zip vs) = some us' ∧ cells'.length = us'.size ∧ ∀ (i : Nat) c u, cells'[i]? = some c → us'[i]? = some u → R st w c u
  | [], vs, cells, cells', us, hl, _, hn, hr, h => by
    simp only [fillA, Option.some.injEq] at h
    subst h
    exact ⟨us, by simp [Instr.fill], hn, hr⟩
  | (i, y) :: ps, [], _, _, _, hl, _, _, _, _ => by simp at hl
  | (i, y) :: ps, v :: vs, cells, cells', us, hl, hp, hn, hr, h => by
    rw [fillA] at h
    cases hpl : place i with
    | none => simp [hpl] at h
    | some q =>
      obtain ⟨off, size⟩ := q
      simp only [hpl] at h
      split at h
      · rename_i hc
        simp only [Bool.and_eq_true, beq_iff_eq, decide_eq_true_eq] at hc
        obtain ⟨⟨c1, c2⟩, c3⟩ := hc
        obtain ⟨d1, d2⟩ := (hp 0 (i, y) v (by simp) (by simp)).cells c1
        dsimp only at d1 d2
        obtain ⟨f1, f2⟩ := foldl_set v.cells off us (by omega)
        have hle : off + y.cells.length ≤ cells.length := by omega
        obtain ⟨us', g1, g2, g3⟩ := fill_R ps vs (putAt cells off y.cells) cells' (v.cells.zipIdx.foldl (fun cs (c, j) => cs.setIfInBounds (off + j) c) us) (by simpa using hl) (fun k p u h1 h2 => hp (k + 1) p u (by simpa using h1) (by simpa using h2)) (by rw [putAt_len hle, f1, hn]) (fun k c u h1 h2 => by
          rw [putAt_at hle] at h1
          rw [f2 k, d1] at h2
          by_cases hk : off ≤ k ∧ k < off + y.cells.length
          · rw [if_pos hk] at h1 h2; exact d2 _ c u h1 h2
          · rw [if_neg hk] at h1 h2; exact hr _ c u h1 h2) h
        refine ⟨us', ?_, g2, g3⟩
        simp only [List.map_cons, List.zip_cons_cons, Instr.fill, hpl]
        rw [if_neg (by simp only [ne_eq, gt_iff_lt, Bool.or_eq_true, decide_eq_true_eq, not_or, Decidable.not_not, Nat.not_lt]; exact ⟨by omega, by omega⟩)]
        exact g1
      · cases h

/-- The places and the zero of what is built. -/
def builtT (P : Program) (t : TypeId) : Option (List (Nat × Nat) × List Value) := match P.info? t, P.underlying t with
  | some it, some (.array n e) => match it.zero, P.info? e with
    | some z, some ie => some ((List.range n).map (fun i => (i * ie.size, ie.size)), z.cells.toList)
    | _, _ => none
  | some it, some (.struct fields) => match it.zero, fields.toList.mapM (fun f => (P.info? f.type).map fun i => (f.offset, i.size)) with
    | some z, some places => some (places, z.cells.toList)
    | _, _ => none
  | _, _ => none
theorem fill_place {p q : Nat → Option (Nat × Nat)} (hpq : ∀ i x, p i = some x → q i = some x) : ∀ (ps : List (Nat × Value)) (us us' : Array Value), Instr.fill p us ps = some us' → Instr.fill q us ps = some us'
  | [], us, us', h => by simpa [Instr.fill] using h
  | (i, v) :: ps, us, us', h => by
    rw [Instr.fill] at h ⊢
    cases hp : p i with
    | none => simp [hp] at h
    | some x =>
      rw [hp] at h
      rw [hpq i x hp]
      dsimp only at h ⊢
      split at h
      · cases h
      · rename_i hc
        rw [if_neg hc]
        exact fill_place hpq ps _ _ h
theorem built_of {t : TypeId} {pl : List (Nat × Nat)} {zs : List Value} {parts : List (Nat × Value)} {us : Array Value} (h : builtT P t = some (pl, zs)) (hf : Instr.fill (fun i => pl[i]?) zs.toArray parts = some us) : P.built t parts = some us := by
  unfold builtT at h
  unfold Program.built
  cases hit : P.info? t with
  | none => simp [hit] at h
  | some it =>
    cases hu : P.underlying t with
    | none => simp [hit, hu] at h
    | some d =>
      cases d <;> simp [hit, hu] at h <;> dsimp only
      · cases hz : it.zero with
        | none => simp [hz] at h
        | some z =>
          rename_i n e
          cases he : P.info? e with
          | none => simp [hz, he] at h
          | some ie =>
            simp [hz, he] at h
            obtain ⟨rfl, rfl⟩ := h
            dsimp only
            refine fill_place (fun i x hx => ?_) _ _ _ (by simpa using hf)
            simp only [List.getElem?_map, Option.map_eq_some_iff] at hx
            obtain ⟨a, ha, rfl⟩ := hx
            have hlt : i < n := by have := (List.getElem?_eq_some_iff.1 ha).1; simpa using this
            rw [List.getElem?_range hlt] at ha
            cases ha
            rfl
      · cases hz : it.zero with
        | none => simp [hz] at h
        | some z =>
          rename_i fields
          cases he : fields.toList.mapM (fun f => (P.info? f.type).map fun i => (f.offset, i.size)) with
          | none => simp [hz, he] at h
          | some places =>
            simp [hz, he] at h
            obtain ⟨rfl, rfl⟩ := h
            simpa using hf

theorem S_build {t : TypeId} {parts : List (Nat × Operand)} {ys cells : List AV} {pl : List (Nat × Nat)} {zs : List Value} (ho : o.op = .build t parts.toArray) (hxs : AEvs env (parts.map (·.2)) ys) (hb : builtT P t = some (pl, zs))
    (hf : fillA (fun i => pl[i]?) (zs.map .lit) ((parts.map (·.1)).zip ys) = some cells) : PStep P N o env st (.agg cells) :=
  .of_val fun a w hg => by
    obtain ⟨hl, hr⟩ := hxs.at_ hg
    simp only [List.length_map] at hl
    have h1 : ((parts.map (·.1)).zip ys).map (·.1) = parts.map (·.1) := by rw [List.map_fst_zip (by simp; omega)]
    obtain ⟨us, k1, k2, k3⟩ := fill_R (place := fun i => pl[i]?) (st := st) (w := w) ((parts.map (·.1)).zip ys) (parts.map fun p => a.eval p.2) (zs.map .lit) cells zs.toArray (by simp; omega) (fun i p v hp hv => by
      rw [List.getElem?_zip_eq_some] at hp
      rw [List.getElem?_map] at hv
      cases hq : parts[i]? with
      | none => simp [hq] at hv
      | some q =>
        simp [hq] at hv
        subst hv
        exact hr i p.2 q.2 hp.2 (by simp [hq])) (by simp) (fun i c u hc hu => by
      simp only [List.getElem?_map, Option.map_eq_some_iff] at hc
      obtain ⟨z, hz, rfl⟩ := hc
      simp only [List.getElem?_toArray] at hu
      rw [hz] at hu
      cases hu
      exact .lit _) hf
    refine ⟨.agg us, ?_, .agg _ _ k2 k3⟩
    rw [h1] at k1
    have e : (parts.map (·.1)).zip (parts.map fun p => a.eval p.2) = parts.map fun p => (p.1, a.eval p.2) := by
      rw [List.zip_map', ]
    rw [e] at k1
    have := run_build (P := P) w t ((parts.map fun p => (p.1, a.eval p.2)).toArray) us (built_of hb (by simpa using k1))
    simp only [execOp, ho, Sem.run_bind, List.map_toArray]
    rw [this]
    simp

/-! Comparing -/
/-- Two values of a type compare so, whatever the world. -/
def EqAV (P : Program) (d : Nat) (t : TypeId) (x y : AV) (r : Bool) : Prop := ∀ st w u v, R st w x u → R st w y v → (Op.equalIn d t u v).run P w = .ok r w
theorem EqAV.int {d : Nat} {t : TypeId} {k k' : IntKind} {a b : Int} (h : P.underlying t = some (.int k')) : EqAV P (d + 1) t (.int k a) (.int k b) (decide (a = b)) := fun st w u v hu hv => by
  rw [hu.lit_inv, hv.lit_inv, run_equalIn_int w d t k k' a b h]
  rfl
theorem EqAV.bool {d : Nat} {t : TypeId} {a b : Bool} (h : P.underlying t = some .bool) : EqAV P (d + 1) t (.bool a) (.bool b) (a == b) := fun st w u v hu hv => by
  rw [hu.lit_inv, hv.lit_inv, run_equalIn_bool' w d t a b h]
theorem EqAV.S {d : Nat} {t : TypeId} {a b : List UInt8} (h : P.underlying t = some .string) : EqAV P (d + 1) t (.S a) (.S b) (decide (a = b)) := fun st w u v hu hv => by
  rw [hu.lit_inv, hv.lit_inv, run_equalIn_string w d t _ _ h, toList_S, toList_S]
  congr 1
  by_cases e : a = b <;> simp [e]

/-- Fields, one by one. -/
inductive EqFs (P : Program) (d : Nat) (xs ys : List AV) : List Field → Bool → Prop
  | nil : EqFs P d xs ys [] true
  | flat {f : Field} {fs : List Field} {x y : AV} {r s : Bool} (hn : (f.name == "_") = false) (ht : flatT P f.type = true) (hx : xs[f.offset]? = some x) (hy : ys[f.offset]? = some y) (he : EqAV P d f.type x y r) (h : EqFs P d xs ys fs s) : EqFs P d xs ys (f :: fs) (r && s)
  | row {f : Field} {fs : List Field} {m : Nat} {r s : Bool} (hn : (f.name == "_") = false) (ht : rowT P f.type m = true) (hx : f.offset + m ≤ xs.length) (hy : f.offset + m ≤ ys.length) (he : EqAV P d f.type (.agg ((xs.drop f.offset).take m)) (.agg ((ys.drop f.offset).take m)) r) (h : EqFs P d xs ys fs s) : EqFs P d xs ys (f :: fs) (r && s)

theorem R_extract {w : World} {cs : List AV} {vs : Array Value} {k m : Nat} (hn : cs.length = vs.size) (hr : ∀ (i : Nat) c v, cs[i]? = some c → vs[i]? = some v → R st w c v) (hm : k + m ≤ cs.length) : R st w (.agg ((cs.drop k).take m)) (.agg (vs.extract k (k + m))) := by
  refine .agg _ _ (by simp; omega) fun j c v hc hv => ?_
  have hj : j < m := by have := (List.getElem?_eq_some_iff.1 hc).1; simp at this; omega
  rw [List.getElem?_take_of_lt hj, List.getElem?_drop] at hc
  refine hr _ c v hc ?_
  rw [Array.getElem?_extract] at hv
  split at hv
  · exact hv
  · cases hv

theorem EqFs.run {d : Nat} {xs ys : List AV} {us vs : Array Value} {w : World} (hxn : xs.length = us.size) (hxr : ∀ (i : Nat) c v, xs[i]? = some c → us[i]? = some v → R st w c v) (hyn : ys.length = vs.size) (hyr : ∀ (i : Nat) c v, ys[i]? = some c → vs[i]? = some v → R st w c v) {fs : List Field} {r : Bool} (h : EqFs P d xs ys fs r) :
    (Op.eqFields d us vs fs).run P w = .ok r w := by
  induction h with
  | nil => simp [Op.eqFields]
  | @flat f fs x y r s hn ht hx hy he h ih =>
    have hn' : f.name ≠ "_" := by simpa using hn
    have h1 : f.offset < us.size := by have := (List.getElem?_eq_some_iff.1 hx).1; omega
    have h2 : f.offset < vs.size := by have := (List.getElem?_eq_some_iff.1 hy).1; omega
    have e1 := run_part_flat (P := P) (t := f.type) w ht (show us[f.offset]? = some us[f.offset] by simp [h1])
    have e2 := run_part_flat (P := P) (t := f.type) w ht (show vs[f.offset]? = some vs[f.offset] by simp [h2])
    have e3 := he st w _ _ (hxr _ _ _ hx (show us[f.offset]? = some us[f.offset] by simp [h1])) (hyr _ _ _ hy (show vs[f.offset]? = some vs[f.offset] by simp [h2]))
    rw [Op.eqFields]
    simp only [if_pos hn', Sem.run_bind, e1, e2, e3, Result.andThen_ok]
    cases r
    · simp
    · simpa using ih
  | @row f fs m r s hn ht hx hy he h ih =>
    have hn' : f.name ≠ "_" := by simpa using hn
    have e1 := run_part_row (P := P) (t := f.type) (cs := us) (k := f.offset) w ht
    have e2 := run_part_row (P := P) (t := f.type) (cs := vs) (k := f.offset) w ht
    have e3 := he st w _ _ (R_extract hxn hxr hx) (R_extract hyn hyr hy)
    rw [Op.eqFields]
    simp only [if_pos hn', Sem.run_bind, e1, e2, e3, Result.andThen_ok]
    cases r
    · simp
    · simpa using ih
theorem EqAV.struct {d : Nat} {t : TypeId} {fs : List Field} {xs ys : List AV} {r : Bool} (hu : P.underlying t = some (.struct fs.toArray)) (hp : P.stoodInHeld t = false) (h : EqFs P d xs ys fs r) : EqAV P (d + 1) t (.agg xs) (.agg ys) r := fun st w u v hu' hv' => by
  obtain ⟨us, rfl, h1, h2⟩ := agg_inv hu'
  obtain ⟨vs, rfl, h3, h4⟩ := agg_inv hv'
  have hf : P.fieldsOf t = fs.toArray := by simp [Program.fieldsOf, hu]
  rw [run_equalIn_struct w d t us vs (by rw [hf]; exact hu) hp, hf]
  exact h.run h1 h2 h3 h4
/-- Items, one by one. -/
inductive EqIs (P : Program) (d e m : Nat) (xs ys : List AV) : List Nat → Bool → Prop
  | nil : EqIs P d e m xs ys [] true
  | flat {i : Nat} {is : List Nat} {x y : AV} {r s : Bool} (ht : flatT P e = true) (hx : xs[i * m]? = some x) (hy : ys[i * m]? = some y) (he : EqAV P d e x y r) (h : EqIs P d e m xs ys is s) : EqIs P d e m xs ys (i :: is) (r && s)
theorem EqIs.run {d e m : Nat} {xs ys : List AV} {us vs : Array Value} {w : World} (hxn : xs.length = us.size) (hxr : ∀ (i : Nat) c v, xs[i]? = some c → us[i]? = some v → R st w c v) (hyn : ys.length = vs.size) (hyr : ∀ (i : Nat) c v, ys[i]? = some c → vs[i]? = some v → R st w c v) {is : List Nat} {r : Bool} (h : EqIs P d e m xs ys is r) :
    (Op.eqItems d e m us vs is).run P w = .ok r w := by
  induction h with
  | nil => simp [Op.eqItems]
  | @flat i is x y r s ht hx hy he h ih =>
    have h1 : i * m < us.size := by have := (List.getElem?_eq_some_iff.1 hx).1; omega
    have h2 : i * m < vs.size := by have := (List.getElem?_eq_some_iff.1 hy).1; omega
    have e1 := run_part_flat (P := P) (t := e) w ht (show us[i * m]? = some us[i * m] by simp [h1])
    have e2 := run_part_flat (P := P) (t := e) w ht (show vs[i * m]? = some vs[i * m] by simp [h2])
    have e3 := he st w _ _ (hxr _ _ _ hx (show us[i * m]? = some us[i * m] by simp [h1])) (hyr _ _ _ hy (show vs[i * m]? = some vs[i * m] by simp [h2]))
    rw [Op.eqItems]
    simp only [Sem.run_bind, e1, e2, e3, Result.andThen_ok]
    cases r
    · simp
    · simpa using ih
theorem EqAV.array {d n : Nat} {t e m : Nat} {xs ys : List AV} {r : Bool} (hu : P.underlying t = some (.array n e)) (hi : (P.info? e).isSome = true) (hm : P.cellsOf e = m) (h : EqIs P d e m xs ys (List.range n) r) : EqAV P (d + 1) t (.agg xs) (.agg ys) r := fun st w u v hu' hv' => by
  obtain ⟨us, rfl, h1, h2⟩ := agg_inv hu'
  obtain ⟨vs, rfl, h3, h4⟩ := agg_inv hv'
  obtain ⟨i, hi⟩ := Option.isSome_iff_exists.1 hi
  rw [run_equalIn_array w d us vs hu hi, hm]
  exact h.run h1 h2 h3 h4

theorem S_eqlAgg {t t2 : TypeId} {x y : Operand} {xs ys : List AV} {r : Bool} (ho : o.op = .binOp .eql t x y t2) (hx : AEv env x (.agg xs)) (hy : AEv env y (.agg ys)) (hg : P.eqGuardType P.depth t = false) (he : EqAV P Op.maxDepth t (.agg xs) (.agg ys) r) : PStep P N o env st (.bool r) :=
  .of_val fun a w hgd => by
    have r1 := hx _ _ _ _ hgd
    have r2 := hy _ _ _ _ hgd
    have h3 := he st w _ _ r1 r2
    obtain ⟨us, e1, _⟩ := agg_inv r1
    obtain ⟨vs, e2, _⟩ := agg_inv r2
    rw [e1, e2] at h3
    have h4 := run_eqGuard_agg (P := P) w .eql t x y us vs hg
    refine ⟨.bool r, ?_, .lit _⟩
    simp only [execOp, ho, e1, e2, Sem.run_bind, h4, Result.andThen_ok, binOp, Op.equal, h3, Sem.run_pure]
theorem S_neqAgg {t t2 : TypeId} {x y : Operand} {xs ys : List AV} {r : Bool} (ho : o.op = .binOp .neq t x y t2) (hx : AEv env x (.agg xs)) (hy : AEv env y (.agg ys)) (hg : P.eqGuardType P.depth t = false) (he : EqAV P Op.maxDepth t (.agg xs) (.agg ys) r) : PStep P N o env st (.bool (!r)) :=
  .of_val fun a w hgd => by
    have r1 := hx _ _ _ _ hgd
    have r2 := hy _ _ _ _ hgd
    have h3 := he st w _ _ r1 r2
    obtain ⟨us, e1, _⟩ := agg_inv r1
    obtain ⟨vs, e2, _⟩ := agg_inv r2
    rw [e1, e2] at h3
    have h4 := run_eqGuard_agg (P := P) w .neq t x y us vs hg
    refine ⟨.bool (!r), ?_, .lit _⟩
    simp only [execOp, ho, e1, e2, Sem.run_bind, h4, Result.andThen_ok, binOp, Op.equal, h3, Sem.run_pure]

/-! New blocks of a plan, one by one -/
inductive AllocsAt (P : Program) (N : Nat) (ops : Array Oper) : List (Nat × Nat × List Value) → Prop
  | nil : AllocsAt P N ops []
  | cons {i t : Nat} {zs : List Value} {o : Oper} {e : TypeId} {rest : List (Nat × Nat × List Value)} (h : ops[i]? = some o) (hg : o.guard = none) (hd : o.dst = some t) (ht : t < N) (ho : o.op = .alloc e) (hz : (P.info? e).map (fun i => i.zero.map (·.cells.toList)) = some (some zs)) (r : AllocsAt P N ops rest) : AllocsAt P N ops ((i, t, zs) :: rest)
theorem AllocsAt.all {ops : Array Oper} {js : List (Nat × Nat × List Value)} (h : AllocsAt P N ops js) : ∀ j, j ∈ js → AllocAt P N ops j := by
  induction h with
  | nil => intro j hj; simp at hj
  | cons h hg hd ht ho hz r ih =>
    intro j hj
    rcases List.mem_cons.1 hj with rfl | hj
    · exact .mk' _ h hg hd ht ho hz
    · exact ih j hj

/-! Results, some of them in memory -/
inductive OutsR (P : Program) (env : Env) (st : St) : List ResultVar → List AV → Prop
  | nil : OutsR P env st [] []
  | tmp {t : Nat} {x : AV} {rs : List ResultVar} {xs : List AV} (h : env.lookup t = some x) (k : OutsR P env st rs xs) : OutsR P env st (.tmp t :: rs) (x :: xs)
  | row {t b : Nat} {T : TypeId} {cs : List AV} {rs : List ResultVar} {xs : List AV} (n : Nat) (h : env.lookup t = some (.ptr b 0)) (hst : st[n]? = some (b, .cells cs)) (hT : rowT P T cs.length = true) (k : OutsR P env st rs xs) : OutsR P env st (.cell t T :: rs) (.agg cs :: xs)
  | flat {t b : Nat} {T : TypeId} {x : AV} {cs : List AV} {rs : List ResultVar} {xs : List AV} (n : Nat) (h : env.lookup t = some (.ptr b 0)) (hst : st[n]? = some (b, .cells cs)) (hc : cs[0]? = some x) (hT : flatT P T = true) (k : OutsR P env st rs xs) : OutsR P env st (.cell t T :: rs) (x :: xs)

theorem ret_outs {fn : Func} {K : AV → St → Prop} {rs : List ResultVar} {xs ys : List AV} (st' : St) (hr : fn.results = rs.toArray) (hn : rs.length ≠ 1) (ho : OutsR P env st rs xs) (hs : Sub st' st) (hc : Conv st st' (.tup xs) (.tup ys)) (hk : K (.tup ys) st') {e : Exit} (he : e = .ret ∨ e = .normal) : Fin P fn K e env st := by
  have key : ∀ N a w, Good N env st a w → ∃ v y st', (results fn a.tmps).run P w = .ok v w ∧ K y st' ∧ Sub st' st ∧ R st' w y v := by
    intro N a w hg
    have main : ∀ (f : ResultVar → Sem Value), (∀ t, f (.tmp t) = pure (a.tmps.getD t undef)) → (∀ t T b, a.tmps.getD t undef = .pointer (some ⟨b, 0, none⟩) → (f (.cell t T)).run P w = (loadVar T ⟨b, 0, none⟩).run P w) →
        ∀ {rs xs}, OutsR P env st rs xs → ∃ vs : List Value, (List.mapM f rs).run P w = .ok vs w ∧ xs.length = vs.length ∧ vs.length = rs.length ∧ ∀ (i : Nat) c v, xs[i]? = some c → vs[i]? = some v → R st w c v := by
      intro f hf1 hf2 rs xs h
      induction h with
      | nil => exact ⟨[], by simp, rfl, rfl, fun i c v h => by simp at h⟩
      | @tmp t x rs xs h k ih =>
        obtain ⟨vs, k1, k2, k2', k3⟩ := ih
        obtain ⟨v, hv, hx⟩ := hg.env t x h
        refine ⟨v :: vs, ?_, by simp [k2], by simp [k2'], fun i c u hc hu => ?_⟩
        · rw [List.mapM_cons, hf1]
          simp only [Sem.run_bind, Sem.run_pure, Result.andThen_ok, k1]
          simp [hv]
        · cases i with
          | zero => simp at hc hu; subst hc; subst hu; exact hx
          | succ i => exact k3 i c u (by simpa using hc) (by simpa using hu)
      | @row t b T cs rs xs n h hst hT k ih =>
        obtain ⟨vs, k1, k2, k2', k3⟩ := ih
        obtain ⟨v, hv, hx⟩ := hg.env t _ h
        have e := hx.lit_inv
        subst e
        obtain ⟨us, T', j1, j2, j3⟩ := hg.rel.cells b cs (mem_at hst)
        obtain ⟨d, hu, hd, hi⟩ := rowT_spec hT
        have hl : (loadVar T ⟨b, 0, none⟩).run P w = .ok (.agg us) w := by
          have := run_loadVar_mid (P := P) w b 0 T us.toList d (fun j u hj => by simp [World.cell?, j1]; simpa using hj) hu hd (by rw [hi]; simp [j2])
          simpa using this
        refine ⟨.agg us :: vs, ?_, by simp [k2], by simp [k2'], fun i c u hc hu => ?_⟩
        · rw [List.mapM_cons]
          simp only [Sem.run_bind, hf2 t T b (by simp [hv]), hl, Result.andThen_ok, k1, Sem.run_pure]
        · cases i with
          | zero => simp at hc hu; subst hc; subst hu; exact .agg cs us j2.symm j3
          | succ i => exact k3 i c u (by simpa using hc) (by simpa using hu)
      | @flat t b T x cs rs xs n h hst hcx hT k ih =>
        obtain ⟨vs, k1, k2, k2', k3⟩ := ih
        obtain ⟨v, hv, hx⟩ := hg.env t _ h
        have e := hx.lit_inv
        subst e
        obtain ⟨d, hu, hd⟩ := flatT_spec hT
        obtain ⟨u0, h1, h2, _⟩ := hg.rel.at_ (mem_at hst) hcx
        have hl : (loadVar T ⟨b, 0, none⟩).run P w = .ok u0 w := by simp [loadVar, run_isAgg' hu hd, h1]
        refine ⟨u0 :: vs, ?_, by simp [k2], by simp [k2'], fun i c u hc hu => ?_⟩
        · rw [List.mapM_cons]
          simp only [Sem.run_bind, hf2 t T b (by simp [hv]), hl, Result.andThen_ok, k1, Sem.run_pure]
        · cases i with
          | zero => simp at hc hu; subst hc; subst hu; exact h2
          | succ i => exact k3 i c u (by simpa using hc) (by simpa using hu)
    unfold results
    rw [hr]
    simp only [List.mapM_toArray, Sem.run_bind, Sem.run_map]
    obtain ⟨vs, k1, k2, k2', k3⟩ := main (fun x => match x with | .tmp t => pure (a.tmps.getD t undef) | .cell c t => do loadVar t (← asAddr (a.tmps.getD c undef))) (fun t => rfl) (fun t T b h => by
      simp only [h, asAddr, Sem.run_bind, Sem.run_pure, Result.andThen_ok]) ho
    erw [k1]
    simp only [Result.andThen_ok, Sem.run_pure]
    refine ⟨.tuple vs.toArray, .tup ys, st', ?_, hk, hs, hc w _ hg.rel (.tup xs _ (by simpa using k2) fun i c v h1 h2 => k3 i c v h1 (by simpa using h2))⟩
    rw [dif_neg (by simp; omega)]
  rcases he with rfl | rfl <;> exact key

/-! Loops whose rounds leave memory behind -/
theorem AC_loopS {Q : Post} {G : Type} {c : Code} (I : G → Prop) (envI : G → Env) (stI : G → St) (m : G → Nat) (g0 : G) (hI : I g0) (hst : Sub (stI g0) st) (henv : EnvLe env (envI g0))
    (round : ∀ g, I g → AC P N c (thenP (fun env' st' => ∃ g', I g' ∧ m g' < m g ∧ Sub (stI g') st' ∧ EnvLe env' (envI g')) Q) (envI g) (stI g)) : AC P N (.loop c) Q env st := by
  intro a w hg
  have drop : ∀ {env : Env} {st st' : St} {a : Act} {w : World}, Good N env st a w → Sub st' st → Good N env st' a w := fun hg h => ⟨hg.size, hg.defers, fun i x hx => let ⟨v, h1, h2⟩ := hg.env i x hx; ⟨v, h1, h2.mono (Ext.dropS h) hg.rel.nodup⟩, hg.rel.dropS h⟩
  refine wp_loop_ghost (fun n a' w' => ∃ g, I g ∧ m g = n ∧ Good N (envI g) (stI g) a' w' ∧ Ext st w (stI g) w') (m g0) ⟨g0, hI, rfl, (drop hg hst).weak henv, Ext.dropS hst⟩ ?_
  rintro n a1 w1 ⟨g, hig, rfl, hg1, hx⟩
  refine wp_mono (round g hig a1 w1 hg1) ?_
  rintro e a2 w2 ⟨env2, st2, q, g2, x2⟩
  cases e with
  | normal =>
    obtain ⟨g', hig', hm, hsub, henv'⟩ := q
    exact ⟨m g', hm, g', hig', rfl, (drop g2 hsub).weak henv', (hx.trans x2 hg.rel.nodup).trans (Ext.dropS hsub) hg.rel.nodup⟩
  | _ => exact ⟨env2, st2, q, g2, hx.trans x2 hg.rel.nodup⟩
def MeetS {G : Type} (I : G → Prop) (envI : G → Env) (stI : G → St) (env : Env) (st : St) : Prop := ∃ g, I g ∧ Sub (stI g) st ∧ EnvLe env (envI g)
theorem AC_joinS {Q : Post} {G : Type} {x y : Code} (I : G → Prop) (envI : G → Env) (stI : G → St) (h : AC P N x (thenP (MeetS I envI stI) Q) env st) (hy : ∀ g, I g → AC P N y Q (envI g) (stI g)) : AC P N (.seq x y) Q env st := by
  refine AC_seq (h.mono fun e env' st' hq => ?_)
  cases e with
  | normal =>
    obtain ⟨g, hi, hsub, hle⟩ := hq
    intro a w hg
    have hg' : Good N env' (stI g) a w := ⟨hg.size, hg.defers, fun i x hx => let ⟨v, h1, h2⟩ := hg.env i x hx; ⟨v, h1, h2.mono (Ext.dropS hsub) hg.rel.nodup⟩, hg.rel.dropS hsub⟩
    refine wp_mono (AC_weak _ hle (hy g hi) a w hg') fun e a2 w2 hs => hs.later (Ext.dropS hsub) hg.rel.nodup
  | _ => exact hq
end
end Go.AL
