/-
The logic AL: fresh slices whose elements may still be written (vec), and pure calls that read them.
Conditions: none; no program is in sight.
-/
import Derived.Test.YtnjlecejhnoicaaDoorAlMeth
set_option linter.unusedVariables false
set_option linter.unusedSimpArgs false
namespace Go.AL
open Go.RowKit

inductive Vec where
  | nil
  | emp (A : Addr)
  | at (b cap : Nat)
def vecV (q : Vec) (n : Nat) : Value := match q with | .nil => .slice none 0 0 | .emp A => .slice (some A) 0 0 | .at b cap => .slice (some ⟨b, 0, none⟩) n cap
def vecCells (size cap : Nat) (xs : List AV) : List AV := xs.flatMap AV.cells ++ List.replicate ((cap - xs.length) * size) .any
def vecSt (q : Vec) (size : Nat) (xs : List AV) : St := match q with | .at b cap => [(b, .cells (vecCells size cap xs))] | _ => []
def Vec.ok (q : Vec) (xs : List AV) : Prop := match q with | .at _ cap => xs.length ≤ cap | _ => xs = []

theorem flat_len {xs : List AV} {size : Nat} (hs : ∀ x, x ∈ xs → x.cells.length = size) : (xs.flatMap AV.cells).length = xs.length * size := by
  induction xs with
  | nil => simp
  | cons x xs ih => rw [List.flatMap_cons, List.length_append, ih fun y h => hs y (List.mem_cons_of_mem _ h), hs x List.mem_cons_self, List.length_cons, Nat.add_mul]; omega
theorem flat_at {xs : List AV} {size : Nat} (hs : ∀ x, x ∈ xs → x.cells.length = size) : ∀ {i : Nat} {x : AV} {j : Nat} {c : AV}, xs[i]? = some x → x.cells[j]? = some c → (xs.flatMap AV.cells)[i * size + j]? = some c := by
  induction xs with
  | nil => intro i x j c h; simp at h
  | cons y xs ih =>
    intro i x j c h hc
    have hy := hs y List.mem_cons_self
    rw [List.flatMap_cons]
    cases i with
    | zero =>
      simp only [List.getElem?_cons_zero, Option.some.injEq] at h
      subst h
      have : j < y.cells.length := (List.getElem?_eq_some_iff.1 hc).1
      rw [Nat.zero_mul, Nat.zero_add, List.getElem?_append_left this]
      exact hc
    | succ i =>
      simp only [List.getElem?_cons_succ] at h
      rw [List.getElem?_append_right (by rw [hy, Nat.add_mul]; omega), hy, show (i + 1) * size + j - size = i * size + j by rw [Nat.add_mul]; omega]
      exact ih (fun z hz => hs z (List.mem_cons_of_mem _ hz)) h hc
theorem flat_get {xs : List AV} {size : Nat} (hs : ∀ x, x ∈ xs → x.cells.length = size) : ∀ {q : Nat} {c : AV}, (xs.flatMap AV.cells)[q]? = some c → ∃ i x j, xs[i]? = some x ∧ x.cells[j]? = some c ∧ q = i * size + j := by
  induction xs with
  | nil => intro q c h; simp at h
  | cons y xs ih =>
    intro q c h
    have hy := hs y List.mem_cons_self
    rw [List.flatMap_cons] at h
    by_cases hq : q < y.cells.length
    · rw [List.getElem?_append_left hq] at h
      exact ⟨0, y, q, rfl, h, by simp⟩
    · rw [List.getElem?_append_right (by omega)] at h
      obtain ⟨i, x, j, h1, h2, h3⟩ := ih (fun z hz => hs z (List.mem_cons_of_mem _ hz)) h
      exact ⟨i + 1, x, j, h1, h2, by rw [Nat.add_mul]; omega⟩

section
variable {P : Program} {N : Nat} {Q : Post} {env : Env} {st : St} {o : Oper} {w : World}

/-- To append all of a slice to one without room: a slice of one's own, whose cells may be written. -/
theorem S_appendEmpV {t e size bytes : Nat} {A : Addr} {x y : Operand} {ys : List AV} (ho : o.op = .call { callee := .builtin .append, args := #[x, y], argTypes := #[t, t] }) (hx : AEv env x (.lit (.slice (some A) 0 0))) (hy : AEv env y (.sl ys)) (hT : appT P t e size bytes = true)
    (hs : ∀ y, y ∈ ys → y.cells.length = size ∧ y.cells.all AV.one = true) (hb : ys.length * bytes ≤ 140737488355328) (h63 : ys.length ≤ 9223372036854775807) :
    Step P N o env st fun z st' => ∃ q : Vec, q.ok ys ∧ z = .lit (vecV q ys.length) ∧ st' = vecSt q size ys ++ st := by
  by_cases hne : ys = []
  · subst hne
    obtain ⟨hu, ⟨i, z, hi, hz, h1, h2, hzs⟩, hpos⟩ := appT_spec hT
    intro a w hg next Q hn
    refine S_append0 ho hx hy hu (size := size) (by rw [hi]; simpa using h1) a w hg next Q ?_
    rintro z st' v w' ⟨rfl, rfl⟩ hr hrel hxx
    exact hn _ _ v w' ⟨.emp A, rfl, rfl, rfl⟩ hr hrel hxx
  · intro a w hg next Q hn
    obtain ⟨hu, ⟨i, z, hi, hz, rfl, rfl, hzs⟩, hpos⟩ := appT_spec hT
    have e1 := (hx _ _ _ _ hg).lit_inv
    obtain ⟨b, off, cap, news, e2, hl, hnews, hone, hR⟩ := sl_cells (hy _ _ _ _ hg) hne (fun i y h => (hs y (List.mem_of_getElem? h)).1) hpos (fun y hy => (hs y hy).2)
    have hlen : 0 < ys.length := List.length_pos_iff.2 hne
    have hrun := run_append_grow (P := P) w t o.type e i z hu hi hz A 0 0 [] (by simp) (fun j u h => by simp at h) ⟨b, off, none⟩ ys.length cap news hl hnews (by omega) (by omega) (growslice_fits (by omega) (by simpa using hb))
    have hge := grownCap_ge w (0 + ys.length) 0 e
    have hle := grownCap_le_maxLen w (0 + ys.length) 0 e (by simp only [maxLen]; omega)
    simp only [Nat.zero_add] at hrun hge hle
    generalize grownCap w ys.length 0 e = cp at *
    have hfl := flat_len (size := i.size) fun x hx => (hs x hx).1
    have hsz : (([] : List Value).toArray ++ news.toArray ++ Builtin.zeroCells z.cells (cp - ys.length)).size = (vecCells i.size cp ys).length := by
      simp only [Array.size_append, List.size_toArray, size_zeroCells, hzs, hl, List.length_nil, Nat.zero_add, vecCells, List.length_append, List.length_replicate, hfl]
    obtain ⟨k1, k2⟩ := alloc_rel (T := e) (hg.rel.drew) (ob := .cells (vecCells i.size cp ys)) (vs := (([] : List Value).toArray ++ news.toArray ++ Builtin.zeroCells z.cells (cp - ys.length))) ⟨hsz, fun k c v hc hv => by
      unfold vecCells at hc
      by_cases hk : k < (ys.flatMap AV.cells).length
      · rw [List.getElem?_append_left hk] at hc
        obtain ⟨i', x, j, h1, h2, h3⟩ := flat_get (fun x hx => (hs x hx).1) hc
        obtain ⟨u, h4, h5⟩ := hR i' x j c h1 h2
        rw [← h3] at h4
        have hlt : k < news.length := (List.getElem?_eq_some_iff.1 h4).1
        rw [Array.getElem?_append_left (by simpa using hlt)] at hv
        simp at hv
        rw [h4] at hv
        cases hv
        exact h5.mono Ext.drew hg.rel.nodup
      · rw [List.getElem?_append_right (by omega)] at hc
        have := List.mem_of_getElem? hc
        rw [List.mem_replicate] at this
        rw [this.2]
        exact .any _⟩
    have k2 := Ext.drew.trans k2 hg.rel.nodup
    have hexec : (execOp a.eval o).run P w = .ok (.value (.slice (some ⟨w.heap.size, 0, none⟩) ys.length cp)) (w.drew.alloc (.cells (([] : List Value).toArray ++ news.toArray ++ Builtin.zeroCells z.cells (cp - ys.length)) e)) := by
      simp only [execOp, ho, resolve, invoke, builtin, Sem.run_bind, Sem.run_pure, Result.andThen_ok, List.map_toArray, List.map_cons, List.map_nil, e1, e2, hrun]
    unfold Oper.wp
    rw [hexec]
    exact hn _ _ _ _ ⟨.at w.heap.size cp, hge, rfl, rfl⟩ (.lit _) k1 k2

/-- A slice of one's own is read only from here on. -/
theorem Conv.vec {st' : St} (h : Sub st' st) {q : Vec} {size : Nat} {xs : List AV} (hq : q.ok xs) (hs : ∀ x, x ∈ xs → x.cells.length = size) (hm : ∀ p, p ∈ vecSt q size xs → p ∈ st) (hn : ∀ b cap, q = .at b cap → ∀ o, (b, o) ∉ st') : Conv st st' (.lit (vecV q xs.length)) (.sl xs) := fun w v hr h1 => by
  cases h1
  cases q with
  | nil => have : xs = [] := hq; subst this; exact .sl0 _ _
  | emp A => have : xs = [] := hq; subst this; exact .sl0 _ _
  | «at» b cap =>
    obtain ⟨vs, T, g1, g2, g3⟩ := hr.cells b (vecCells size cap xs) (hm _ List.mem_cons_self)
    have hcell : ∀ (i : Nat) x (j : Nat) c, xs[i]? = some x → x.cells[j]? = some c → ∃ u, vs[i * size + j]? = some u ∧ R st w c u := fun i x j c hx hc => by
      have h2 := flat_at hs hx hc
      have h3 : (vecCells size cap xs)[i * size + j]? = some c := by unfold vecCells; rw [List.getElem?_append_left (List.getElem?_eq_some_iff.1 h2).1]; exact h2
      have hlt : i * size + j < vs.size := by rw [g2]; exact (List.getElem?_eq_some_iff.1 h3).1
      exact ⟨vs[i * size + j], by simp [hlt], g3 _ c _ h3 (by simp [hlt])⟩
    refine .sl xs b 0 cap size (fun k => (vs[k]?).getD undef) hq (fun i x hx => hs x (List.mem_of_getElem? hx)) (fun i x j c hx hc => ?_) fun i x j c hx hc => ?_
    · obtain ⟨u, k1, k2⟩ := hcell i x j c hx hc
      refine ⟨by simp only [World.cell?, g1, Option.isSome_none, Bool.false_eq_true, if_false, Nat.zero_add, k1, Option.getD_some], fun ⟨o, ho, _⟩ => hn b cap rfl o ho⟩
    · obtain ⟨u, k1, k2⟩ := hcell i x j c hx hc
      rw [k1]
      exact k2.mono (Ext.dropS h) hr.nodup

theorem Ext.widen {w' : World} (h : Ext [] w [] w') : Ext st w st w' :=
  ⟨h.os, h.tape, h.output, h.shape, h.size, fun b hb _ => h.keep b hb (by simp), fun b e size n cap hb _ off _ => World.cell?_of_block (w := w) (h.keep b hb (by simp)), fun _ _ _ h => h, fun b vs hb _ => h.keep b hb (by simp)⟩
theorem Rel.widen {w' : World} (hr : Rel st w) (h : Ext [] w [] w') : Rel st w' :=
  ⟨hr.nodup, fun b cs hb => let ⟨vs, T, k1, k2, k3⟩ := hr.cells b cs hb; ⟨vs, T, by rw [h.keep b (key_lt hr hb) (by simp)]; exact k1, k2, fun i c v hc hv => (k3 i c v hc hv).mono h.widen hr.nodup⟩,
    fun b e size n cap hb => let ⟨vs, k1, k2⟩ := hr.grow b e size n cap hb; ⟨vs, by rw [h.keep b (key_lt hr hb) (by simp)]; exact k1, k2⟩, fun b vs hb => h.widen.konst_rel hr hb⟩

/-- Each argument is, for one that only reads, what the callee wants. -/
inductive Lends (st : St) : List AV → List AV → Prop
  | nil : Lends st [] []
  | cons {a b : AV} {as bs : List AV} (h : Conv st [] a b) (t : Lends st as bs) : Lends st (a :: as) (b :: bs)
theorem Lends.len {as bs : List AV} (h : Lends st as bs) : as.length = bs.length := by induction h <;> simp [*]
theorem Lends.at_ {as bs : List AV} (h : Lends st as bs) : ∀ (i : Nat) b, bs[i]? = some b → ∃ a, as[i]? = some a ∧ Conv st [] a b := by
  induction h with
  | nil => intro i b h; simp at h
  | cons h t ih =>
    intro i b hb
    cases i with
    | zero => simp at hb; subst hb; exact ⟨_, rfl, h⟩
    | succ i => simp at hb; simpa using ih i b hb
theorem Sub.nil : Sub [] st := .l (List.nil_sublist _)

/-- A pure call that reads what may still be written. -/
theorem S_pcallB {f : FuncId} {xs : List Operand} {ts : Array TypeId} {as args : List AV} {v : Value} (ho : o.op = .call { callee := .value (.func f), args := xs.toArray, argTypes := ts }) (hargs : AEvs env xs as) (hl : Lends st as args) (hc : PCalls P f args (.lit v)) : PStep P N o env st (.lit v) := by
  intro a w hg next Q hn
  obtain ⟨hlen, hr⟩ := hargs.at_ hg
  have hrun : (execOp a.eval o).run P w = .ok (.enter f (xs.map a.eval).toArray) w := by
    simp [execOp, ho, resolve, Deferred.ofValue, Act.eval, invoke, run_callFunc' (hc []).enters]
  unfold Oper.wp
  rw [hrun]
  refine ((hc []).calls w _ (hg.rel.dropS Sub.nil) (by have := hl.len; simp; omega) fun i x u hx hv => ?_).mono ?_
  · simp at hv
    obtain ⟨y, hy, rfl⟩ := hv
    obtain ⟨z, hz, hcv⟩ := hl.at_ i x hx
    exact hcv w _ hg.rel (hr i z y hz hy)
  · rintro e w' ⟨r, x, st', rfl, ⟨rfl, rfl⟩, h1, h2, h3⟩
    cases h1
    exact hn _ st _ w' ⟨rfl, rfl⟩ (.lit _) (hg.rel.widen h3) h3.widen

/-- A step that only leaves new memory behind, which is dropped. -/
theorem S_keepC {V : AV} {K : AV → St → Prop} (h : Step P N o env st K) (hk : ∀ x st', K x st' → Sub st st' ∧ Conv st' st x V) : PStep P N o env st V := fun a w hg next Q hn =>
  h a w hg next Q fun x st' v w' k hr hrel hx => hn V st v w' ⟨rfl, rfl⟩ ((hk x st' k).2 w' v hrel hr) (hrel.dropS (hk x st' k).1) (hx.trans (Ext.dropS (hk x st' k).1) hg.rel.nodup)
/-- Memory may be left behind. -/
theorem AC_sub {c : Code} {st1 : St} (hs : Sub st1 st) (h : AC P N c Q env st1) : AC P N c Q env st := fun a w hg => by
  have hx := Ext.dropS (w := w) hs
  exact wp_mono (h a w ⟨hg.size, hg.defers, fun i x hi => let ⟨v, h1, h2⟩ := hg.env i x hi; ⟨v, h1, h2.mono hx hg.rel.nodup⟩, hg.rel.dropS hs⟩) fun e a w h => h.later hx hg.rel.nodup
def vecStC (q : Vec) (cs : List AV) : St := match q with | .at b _ => [(b, .cells cs)] | _ => []
def vecC (q : Vec) (size : Nat) (xs : List AV) : List AV := match q with | .at _ c => vecCells size c xs | _ => []
theorem vecStC_vecC (q : Vec) (size : Nat) (xs : List AV) : vecStC q (vecC q size xs) = vecSt q size xs := by cases q <;> rfl
theorem vecCells_len {size cap : Nat} {xs : List AV} (hs : ∀ x, x ∈ xs → x.cells.length = size) : xs.length * size ≤ (vecCells size cap xs).length := by
  rw [vecCells, List.length_append, flat_len hs]; omega
theorem Vec.at_of {q : Vec} {xs : List AV} (h : q.ok xs) (hn : xs ≠ []) : ∃ b cap, q = .at b cap ∧ xs.length ≤ cap := by
  cases q with
  | «at» b cap => exact ⟨b, cap, rfl, h⟩
  | _ => exact absurd h hn
theorem S_lenV {t e : TypeId} {x : Operand} {q : Vec} {xs : List AV} (hq : q.ok xs) (ho : o.op = .call { callee := .builtin .len, args := #[x], argTypes := #[t] }) (hx : AEv env x (.lit (vecV q xs.length))) (hu : P.underlying t = some (.slice e)) : PStep P N o env st (.int .i64 xs.length) := by
  cases q with
  | «at» b cap => exact S_lenO ho hx hu
  | nil => have : xs = [] := hq; subst this; exact S_lenO ho hx hu
  | emp A => have : xs = [] := hq; subst this; exact S_lenO ho hx hu
theorem Conv.lits {st' : St} (v : Value) : Conv st st' (.lit v) (.lit v) := fun w u _ h => by cases h; exact .lit v

inductive Les : List AV → List AV → Prop
  | nil : Les [] []
  | cons {a b : AV} {as bs : List AV} (h : Le a b) (t : Les as bs) : Les (a :: as) (b :: bs)
theorem Les.len {as bs : List AV} (h : Les as bs) : as.length = bs.length := by induction h <;> simp [*]
theorem Les.at_ {as bs : List AV} (h : Les as bs) : ∀ (i : Nat) c d, as[i]? = some c → bs[i]? = some d → Le c d := by
  induction h with
  | nil => intro i c d hc; simp at hc
  | cons h t ih =>
    intro i c d hc hd
    cases i with
    | zero => simp at hc hd; subst hc; subst hd; exact h
    | succ i => simp at hc hd; exact ih i c d hc hd
theorem Les.agg {as bs : List AV} (h : Les as bs) : Le (.agg as) (.agg bs) := Le.agg h.len h.at_
theorem Les.tup {as bs : List AV} (h : Les as bs) : Le (.tup as) (.tup bs) := Le.tup h.len h.at_
/-- Of memory less may be known. -/
theorem AC_cells {c : Code} {n b : Nat} {cs ds : List AV} (hst : st[n]? = some (b, .cells cs)) (hl : Les cs ds) (h : AC P N c Q env (st.set n (b, .cells ds))) : AC P N c Q env st := fun a w hg => by
  obtain ⟨vs, T, k1, k2, k3⟩ := hg.rel.cells b cs (mem_at hst)
  have hlen := hl.len
  obtain ⟨h1, h2⟩ := write_rel hg.rel hst (cs' := ds) (w' := w) ⟨vs, k1, rfl⟩ k1 (fun _ _ => rfl) rfl rfl rfl rfl (by omega) (fun i d v hd hv => by
    have hi : i < cs.length := by have := (List.getElem?_eq_some_iff.1 hd).1; omega
    exact hl.at_ i _ d (List.getElem?_eq_getElem hi) hd _ _ _ (k3 i _ v (List.getElem?_eq_getElem hi) hv))
  exact wp_mono (h a w ⟨hg.size, hg.defers, fun i x hi => let ⟨v, g1, g2⟩ := hg.env i x hi; ⟨v, g1, g2.mono h2 hg.rel.nodup⟩, h1⟩) fun e a w h => h.later h2 hg.rel.nodup
/-- An operation behind a guard that lets it be done. -/
theorem AL_gT {ops : Array Oper} {rest : List Oper} {K : AV → St → Prop} {g d : Nat} {want b : Bool} (hgd : o.guard = some (g, want)) (hj : ((ops[g]?).bind (·.dst)) = some d) (hb : AEv env (.tmp d) (.bool b)) (hw : gd b want = true) (hd : dstIn N o.dst = true) (hs : Step P N o env st K)
    (h : ∀ x st', K x st' → AL P N ops rest Q (putE o.dst x env) st') : AL P N ops (o :: rest) Q env st := by
  intro a w hg
  have hy := lookup_of hg hj hb
  unfold wpList
  have hbw : b = want := by cases want <;> simpa [gd] using hw
  rw [if_pos (by simp [Region.wanted, hgd, hy, hbw])]
  refine .inl (hs a w hg _ _ fun x st' v w' hk hr hrel hx => ?_)
  exact wpList_mono (fun e a w h => h.later hx hg.rel.nodup) _ _ _ (h x st' hk _ _ (hg.put (dstIn_spec hd) hr hrel hx))
theorem PStep.k {V : AV} {K : AV → St → Prop} (h : PStep P N o env st V) (hk : K V st) : Step P N o env st K := fun a w hg next Q hn => h a w hg next Q fun x st' v w' ⟨h1, h2⟩ => hn x st' v w' (by rw [h1, h2]; exact hk)
theorem AL_gTp {ops : Array Oper} {rest : List Oper} {V : AV} {g d : Nat} {want b : Bool} (hgd : o.guard = some (g, want)) (hj : ((ops[g]?).bind (·.dst)) = some d) (hb : AEv env (.tmp d) (.bool b)) (hw : gd b want = true) (hd : dstIn N o.dst = true) (hs : PStep P N o env st V)
    (h : AL P N ops rest Q (putE o.dst V env) st) : AL P N ops (o :: rest) Q env st :=
  AL_gT hgd hj hb hw hd hs fun x st' ⟨h1, h2⟩ => by subst h1; subst h2; exact h
/-- A cell of a table. -/
theorem S_loadK {t : TypeId} {x : Operand} {b off : Nat} {vs : List Value} {u : Value} (ho : o.op = .load t x) (hx : AEv env x (.ptr b off)) (hst : (b, Ob.konst vs) ∈ st) (hc : vs[off]? = some u) (ht : flatT P t = true) : PStep P N o env st (.lit u) :=
  .of_val fun a w hg => by
    obtain ⟨d, hu, hd⟩ := flatT_spec ht
    have e := eval_ptr hx hg
    refine ⟨u, ?_, .lit _⟩
    simp [execOp, ho, e, Instr.loadAt, Instr.sureAddr, loadVar, run_isAgg' hu hd, (hg.rel.konst b vs hst).2 off u hc]
theorem S_gcall {f : FuncId} {xs : List Operand} {ts : Array TypeId} {args : List AV} {V : AV} (ho : o.op = .call { callee := .value (.func f), args := xs.toArray, argTypes := ts }) (hargs : AEvs env xs args) (hc : ACalls P f args st fun x st' => x = V ∧ st' = st) : PStep P N o env st V := S_call ho hargs hc
end
end Go.AL
