/-
The logic AL: append to a slice of one's own.
Conditions: none; no program is in sight.
-/
import Derived.Test.YtnjlecejhnoicaaDoorAlAgg
import Derived.ArgAppend
set_option linter.unusedVariables false
set_option linter.unusedSimpArgs false
namespace Go.AL
open Go.RowKit

section
variable {P : Program} {N : Nat} {env : Env} {st : St} {o : Oper} {w : World}

theorem Ext.drew : Ext st w st w.drew := ⟨rfl, rfl, rfl, fun _ _ => rfl, Nat.le_refl _, fun _ _ _ => rfl, fun _ _ _ _ _ _ _ _ _ => rfl, fun _ _ _ h => h, fun _ _ _ _ => rfl⟩
theorem Rel.drew (hr : Rel st w) : Rel st w.drew := ⟨hr.nodup, fun b cs hb => let ⟨vs, T, k1, k2, k3⟩ := hr.cells b cs hb; ⟨vs, T, k1, k2, fun i c v hc hv => (k3 i c v hc hv).mono .drew hr.nodup⟩, hr.grow, hr.konst⟩

/-- A row of one's own has got more elements, where it is. -/
theorem grow_rel (hrel : Rel st w) {n b e size k k' cap : Nat} (hst : st[n]? = some (b, .grow e size k cap)) (hk : k ≤ k') (hk' : k' ≤ cap) {w' : World} {vs vs' : Array Value} (h0 : w.heap[b]? = some (.cells vs e (0, 0)))
    (hb : w'.heap[b]? = some (.cells vs' e (0, 0))) (hsz : vs'.size = cap * size) (hsame : ∀ i : Nat, i < k * size → vs'[i]? = vs[i]?) (ho : ∀ b', b' ≠ b → w'.heap[b']? = w.heap[b']?) (hs : w'.heap.size = w.heap.size) (h1 : w'.os = w.os) (h2 : w'.tape = w.tape) (h3 : w'.output = w.output) :
    Rel (st.set n (b, .grow e size k' cap)) w' ∧ Ext st w (st.set n (b, .grow e size k' cap)) w' := by
  have hn := hrel.nodup
  have hn' := set_nodup (o' := .grow e size k' cap) hst hn
  have hlen : n < st.length := (List.getElem?_eq_some_iff.1 hst).1
  have hshape0 : vs'.size = vs.size → ∀ b', b' < w.heap.size → w'.shape? b' = w.shape? b' := fun hz b' _ => by
    by_cases ha : b' = b
    · subst ha
      simp only [World.shape?, hb, h0, hz]
    · simp only [World.shape?, ho _ ha]
  obtain ⟨us, g1, g2, g3, g4⟩ := hrel.grow b e size k cap (mem_at hst)
  have hx : Ext st w (st.set n (b, .grow e size k' cap)) w' := by
    refine ⟨h1, h2, h3, hshape0 (by rw [h0] at g1; cases g1; omega), by omega, fun b' hb' hk => ho b' fun e => hk _ (e ▸ mem_at hst), fun b' e' size' m cap' hb' hg off hoff => ?_, fun b' off hb' hm => ?_, fun b' us hb' hg => ho b' fun e => by subst e; have := key_unique hn hg (mem_at hst); cases this⟩
    · by_cases hbb : b' = b
      · subst hbb
        have := key_unique hn hg (mem_at hst)
        cases this
        simp only [World.cell?, hb, h0, Option.isSome_none, Bool.false_eq_true, if_false]
        exact hsame off hoff
      · exact World.cell?_of_block (w := w) (ho b' hbb)
    · obtain ⟨o, ho1, ho2⟩ := hm
      rcases set_mem hst ho1 with e' | e'
      · cases e'
        refine ⟨_, mem_at hst, ?_⟩
        simp only [Ob.opens] at ho2 ⊢
        exact Nat.le_trans (Nat.mul_le_mul_right _ hk) ho2
      · exact ⟨o, e', ho2⟩
  refine ⟨⟨hn', fun b' ds hd => ?_, fun b' e' size' m cap' hg => ?_, fun b' us hg => by
    rcases set_mem hst hg with e' | e'
    · cases e'
    · exact hx.konst_rel hrel e'⟩, hx⟩
  · rcases set_mem hst hd with e' | e'
    · cases e'
    · have hne : b' ≠ b := fun h => by subst h; have := key_unique hn e' (mem_at hst); cases this
      obtain ⟨us', T', k1, k2, k3⟩ := hrel.cells b' ds e'
      exact ⟨us', T', by rw [ho b' hne]; exact k1, k2, fun i c v hc hv => (k3 i c v hc hv).mono hx hn⟩
  · by_cases hbb : b' = b
    · subst hbb
      have hmem : (b', Ob.grow e size k' cap) ∈ st.set n (b', .grow e size k' cap) := List.mem_iff_getElem?.2 ⟨n, by simp [hlen]⟩
      have := key_unique hn' hg hmem
      cases this
      exact ⟨vs', hb, hsz, hk', g4⟩
    · rcases set_mem hst hg with e' | e'
      · cases e'; exact absurd rfl hbb
      · obtain ⟨us', k1, k2⟩ := hrel.grow _ _ _ _ _ e'
        exact ⟨us', by rw [ho b' hbb]; exact k1, k2⟩

/-- The cells of a slice's elements, in a row. -/
theorem sl_cells {ys : List AV} {v : Value} (h : R st w (.sl ys) v) (hne : ys ≠ []) {size : Nat} (hs : ∀ (i : Nat) y, ys[i]? = some y → y.cells.length = size) (hpos : 0 < size) (hone : ∀ y, y ∈ ys → y.cells.all AV.one = true) :
    ∃ b off cap, ∃ news : List Value, v = .slice (some ⟨b, off, none⟩) ys.length cap ∧ news.length = ys.length * size ∧ (∀ (j : Nat) u, news[j]? = some u → w.cell? ((⟨b, off, none⟩ : Addr).add j) = some u) ∧ (∀ u ∈ news, u.oneCell' = true) ∧
      ∀ (i : Nat) y (j : Nat) c, ys[i]? = some y → y.cells[j]? = some c → ∃ u, news[i * size + j]? = some u ∧ R st w c u := by
  cases h with
  | sl0 => exact absurd rfl hne
  | sl _ b off cap sz f hcap hsz hc hr =>
    have hlen : 0 < ys.length := List.length_pos_iff.2 hne
    have hsz' : sz = size := by
      have h0 := hsz 0 ys[0] (List.getElem?_eq_getElem hlen)
      have h1 := hs 0 ys[0] (List.getElem?_eq_getElem hlen)
      omega
    subst hsz'
    have parts : ∀ j, j < ys.length * sz → ∃ y c, ys[j / sz]? = some y ∧ y.cells[j % sz]? = some c ∧ y ∈ ys := fun j hj => by
      have hi : j / sz < ys.length := Nat.div_lt_of_lt_mul (by rw [Nat.mul_comm]; exact hj)
      have hy : ys[j / sz]? = some ys[j / sz] := List.getElem?_eq_getElem hi
      have hm : j % sz < (ys[j / sz]).cells.length := by rw [hsz _ _ hy]; exact Nat.mod_lt _ hpos
      exact ⟨_, _, hy, List.getElem?_eq_getElem hm, List.getElem_mem hi⟩
    have split : ∀ j, j / sz * sz + j % sz = j := fun j => by rw [Nat.mul_comm]; exact Nat.div_add_mod j sz
    refine ⟨b, off, cap, (List.range (ys.length * sz)).map f, rfl, by simp, fun j u hu => ?_, fun u hu => ?_, fun i y j c hy hcj => ?_⟩
    · have hj : j < ys.length * sz := by have := (List.getElem?_eq_some_iff.1 hu).1; simpa using this
      rw [List.getElem?_map, List.getElem?_range hj] at hu
      cases hu
      obtain ⟨y, c, hy, hcc, _⟩ := parts j hj
      have := (hc _ y _ c hy hcc).1
      rw [split j] at this
      rw [Addr.add_mid, ← this, Nat.add_assoc, split j]
    · obtain ⟨j, hj, rfl⟩ := List.mem_map.1 hu
      rw [List.mem_range] at hj
      obtain ⟨y, c, hy, hcc, hm⟩ := parts j hj
      have := hr _ y _ c hy hcc
      rw [split j] at this
      exact this.one (List.all_eq_true.1 (hone y hm) c (List.mem_of_getElem? hcc))
    · have hi : i < ys.length := (List.getElem?_eq_some_iff.1 hy).1
      have hj : j < sz := by have := (List.getElem?_eq_some_iff.1 hcj).1; rw [hsz i y hy] at this; exact this
      have hlt : i * sz + j < ys.length * sz := by
        have : (i + 1) * sz ≤ ys.length * sz := Nat.mul_le_mul_right _ hi
        rw [Nat.add_mul, Nat.one_mul] at this
        omega
      exact ⟨f (i * sz + j), by rw [List.getElem?_map, List.getElem?_range hlt]; rfl, hr i y j c hy hcj⟩

theorem row_of {b k cap size e : Nat} {xs : List AV} {w' : World} {st' : St} {vs : Array Value} (hg : (b, Ob.grow e size (k + xs.length) (k + cap)) ∈ st') (hrel : Rel st' w') (hb : w'.heap[b]? = some (.cells vs e (0, 0))) (hcap : xs.length ≤ cap) (hs : ∀ (i : Nat) x, xs[i]? = some x → x.cells.length = size)
    (hv : ∀ (i : Nat) x (j : Nat) c, xs[i]? = some x → x.cells[j]? = some c → ∃ u, vs[k * size + (i * size + j)]? = some u ∧ R st' w' c u) : R st' w' (.row b (k * size) cap xs) (.slice (some ⟨b, k * size, none⟩) xs.length cap) := by
  refine .row xs b (k * size) cap size (fun q => (vs[k * size + q]?).getD undef) hcap hs (fun i x j c hx hc => ?_) fun i x j c hx hc => ?_
  · obtain ⟨u, h1, h2⟩ := hv i x j c hx hc
    have hi : i < xs.length := (List.getElem?_eq_some_iff.1 hx).1
    have hj : j < size := by have := (List.getElem?_eq_some_iff.1 hc).1; rw [hs i x hx] at this; exact this
    refine ⟨by simp only [World.cell?, hb, Option.isSome_none, Bool.false_eq_true, if_false, Nat.add_assoc, h1, Option.getD_some], fun ⟨o, ho, hop⟩ => ?_⟩
    have := key_unique hrel.nodup ho hg
    subst this
    simp only [Ob.opens] at hop
    have : (i + 1) * size ≤ xs.length * size := Nat.mul_le_mul_right _ hi
    rw [Nat.add_mul, Nat.one_mul] at this
    rw [Nat.add_mul] at hop
    omega
  · obtain ⟨u, h1, h2⟩ := hv i x j c hx hc
    rw [h1]
    exact h2

/-- What the type of an append's elements is. -/
structure AppT (P : Program) (t e size bytes : Nat) : Prop where
  under : P.underlying t = some (.slice e)
  info : ∃ i z, P.info? e = some i ∧ i.zero = some z ∧ i.size = size ∧ i.bytes = bytes ∧ z.cells.size = size
  pos : 0 < size
def appT (P : Program) (t e size bytes : Nat) : Bool := match P.underlying t, P.info? e with
  | some (.slice e'), some i => e' == e && (match i.zero with | some z => z.cells.size == size | none => false) && i.size == size && i.bytes == bytes && decide (0 < size)
  | _, _ => false
theorem appT_spec {t e size bytes : Nat} (h : appT P t e size bytes = true) : AppT P t e size bytes := by
  unfold appT at h
  cases hu : P.underlying t with
  | none => simp [hu] at h
  | some d =>
    cases hi : P.info? e with
    | none => cases d <;> simp [hu, hi] at h
    | some i =>
      cases d <;> simp [hu, hi] at h
      cases hz : i.zero with
      | none => simp [hz] at h
      | some z =>
        simp [hz] at h
        obtain ⟨⟨⟨⟨rfl, h1⟩, h2⟩, h3⟩, h4⟩ := h
        exact ⟨hu, ⟨i, z, hi, hz, h2, h3, h1⟩, h4⟩

theorem alloc_grow {ws : Array Value} {e size k cap : Nat} (hrel : Rel st w) (hsz : ws.size = cap * size) (hk : k ≤ cap) (hcap : cap ≤ maxLen) :
    Rel ((w.heap.size, .grow e size k cap) :: st) (w.drew.alloc (.cells ws e)) ∧ Ext st w ((w.heap.size, .grow e size k cap) :: st) (w.drew.alloc (.cells ws e)) := by
  obtain ⟨h1, h2⟩ := alloc_rel (T := e) (hrel.drew) (ob := .grow e size k cap) (vs := ws) ⟨rfl, hsz, hk, hcap⟩
  exact ⟨h1, Ext.drew.trans h2 hrel.nodup⟩

theorem nodup_set {α : Type} {l : List α} {n : Nat} {x : α} (h : l.Nodup) (hx : x ∉ l) : (l.set n x).Nodup := by
  induction l generalizing n with
  | nil => simp
  | cons y l ih =>
    simp only [List.nodup_cons] at h
    cases n with
    | zero => simp only [List.set_cons_zero, List.nodup_cons]; exact ⟨fun hm => hx (List.mem_cons_of_mem _ hm), h.2⟩
    | succ n =>
      simp only [List.set_cons_succ, List.nodup_cons]
      refine ⟨fun hm => ?_, ih h.2 fun hm => hx (List.mem_cons_of_mem _ hm)⟩
      rcases List.mem_or_eq_of_mem_set hm with h' | h'
      · exact h.1 h'
      · exact hx (h' ▸ List.mem_cons_self)

theorem S_appendNil {t e size bytes : Nat} {x y : Operand} {ys : List AV} (ho : o.op = .call { callee := .builtin .append, args := #[x, y], argTypes := #[t, t] }) (hx : AEv env x .nils) (hy : AEv env y (.sl ys)) (hT : appT P t e size bytes = true) (hne : ys ≠ [])
    (hs : ∀ y, y ∈ ys → y.cells.length = size ∧ y.cells.all AV.one = true) (hb : ys.length * bytes ≤ 140737488355328) (h63 : ys.length ≤ 9223372036854775807) :
    Step P N o env st fun z st' => ∃ b cap, z = .row b 0 cap ys ∧ st' = (b, .grow e size ys.length cap) :: st := by
  intro a w hg next Q hn
  obtain ⟨hu, ⟨i, z, hi, hz, rfl, rfl, hzs⟩, hpos⟩ := appT_spec hT
  have e1 := (hx _ _ _ _ hg).lit_inv
  obtain ⟨b, off, cap, news, e2, hl, hnews, hone, hR⟩ := sl_cells (hy _ _ _ _ hg) hne (fun i y h => (hs y (List.mem_of_getElem? h)).1) hpos (fun y hy => (hs y hy).2)
  have hlen : 0 < ys.length := List.length_pos_iff.2 hne
  have hrun := run_append_nil (P := P) w t o.type e i z hu hi hz ⟨b, off, none⟩ ys.length cap news hl hnews hlen (by omega) (by omega)
  have hge := grownCap_ge w ys.length 0 e
  have hle := grownCap_le_maxLen w ys.length 0 e (by simp only [maxLen]; omega)
  have hsz : (news.toArray ++ Builtin.zeroCells z.cells (grownCap w ys.length 0 e - ys.length)).size = grownCap w ys.length 0 e * i.size := by
    simp only [Array.size_append, List.size_toArray, size_zeroCells, hzs, hl, ← Nat.add_mul]
    congr 1; omega
  obtain ⟨k1, k2⟩ := alloc_grow (e := e) hg.rel hsz hge hle
  have hexec : (execOp a.eval o).run P w = .ok (.value (.slice (some ⟨w.heap.size, 0, none⟩) ys.length (grownCap w ys.length 0 e))) (w.drew.alloc (.cells (news.toArray ++ Builtin.zeroCells z.cells (grownCap w ys.length 0 e - ys.length)) e)) := by
    simp only [execOp, ho, resolve, invoke, builtin, Sem.run_bind, Sem.run_pure, Result.andThen_ok, List.map_toArray, List.map_cons, List.map_nil, e1, e2, hrun]
  unfold Oper.wp
  rw [hexec]
  refine hn _ _ _ _ ⟨w.heap.size, grownCap w ys.length 0 e, rfl, rfl⟩ ?_ k1 k2
  have hrow := row_of (k := 0) (e := e) (by simp) k1 (heap_alloc_new w.drew _) hge (fun i y h => (hs y (List.mem_of_getElem? h)).1) fun i y j c hy' hc => by
    obtain ⟨u, h1, h2⟩ := hR i y j c hy' hc
    refine ⟨u, ?_, h2.mono k2 hg.rel.nodup⟩
    have hlt : i * _ + j < news.length := (List.getElem?_eq_some_iff.1 h1).1
    rw [Nat.zero_mul, Nat.zero_add, Array.getElem?_append_left (by simpa using hlt)]
    simpa using h1
  simpa using hrow

theorem S_appendRow {t e size bytes b k cap : Nat} {x y : Operand} {xs ys : List AV} (n : Nat) (ho : o.op = .call { callee := .builtin .append, args := #[x, y], argTypes := #[t, t] }) (hx : AEv env x (.row b (k * size) cap xs)) (hy : AEv env y (.sl ys)) (hst : st[n]? = some (b, .grow e size (k + xs.length) (k + cap))) (hT : appT P t e size bytes = true) (hne : ys ≠ [])
    (hsx : ∀ x, x ∈ xs → x.cells.length = size) (hs : ∀ y, y ∈ ys → y.cells.length = size ∧ y.cells.all AV.one = true) (hb : (xs.length + ys.length) * bytes ≤ 140737488355328) (h63 : xs.length + ys.length ≤ 9223372036854775807) :
    Step P N o env st fun z st' => ∃ b' k' cap', z = .row b' (k' * size) cap' (xs ++ ys) ∧ st' = st.set n (b', .grow e size (k' + (xs ++ ys).length) (k' + cap')) := by
  intro a w hg next Q hn
  have hnd := hg.rel.nodup
  obtain ⟨hu, ⟨i, z, hi, hz, rfl, rfl, hzs⟩, hpos⟩ := appT_spec hT
  obtain ⟨b2, off, cap2, news, e2, hl, hnews, hone, hR⟩ := sl_cells (hy _ _ _ _ hg) hne (fun i y h => (hs y (List.mem_of_getElem? h)).1) hpos (fun y hy => (hs y hy).2)
  obtain ⟨vs, g1, g2, g3, g4⟩ := hg.rel.grow b e _ _ _ (mem_at hst)
  have hlen : 0 < ys.length := List.length_pos_iff.2 hne
  have hall : ∀ (i' : Nat) x, (xs ++ ys)[i']? = some x → x.cells.length = i.size := fun i' x h => by
    rcases List.mem_append.1 (List.mem_of_getElem? h) with h | h
    · exact hsx x h
    · exact (hs x h).1
  have hold : ∃ (f : Nat → Value), (a.eval x = .slice (some ⟨b, k * i.size, none⟩) xs.length cap) ∧ ∀ (i' : Nat) x (j : Nat) c, xs[i']? = some x → x.cells[j]? = some c → vs[k * i.size + (i' * i.size + j)]? = some (f (i' * i.size + j)) ∧ R st w c (f (i' * i.size + j)) := by
    have h := hx _ _ _ _ hg
    generalize a.eval x = v at h
    cases h with
    | row _ _ _ _ sz f h1 h2 h3 h4 =>
      refine ⟨f, rfl, fun i' x j c hx' hc => ?_⟩
      have hsz : sz = i.size := by
        have k1 := h2 i' x hx'
        have k2 := hsx x (List.mem_of_getElem? hx')
        omega
      subst hsz
      have k1 := (h3 i' x j c hx' hc).1
      simp only [World.cell?, g1, Nat.add_assoc] at k1
      exact ⟨by simpa using k1, h4 i' x j c hx' hc⟩
  obtain ⟨f, e1, hf⟩ := hold
  have hcells : ∀ (ws : Array Value) (q : Nat), (∀ m : Nat, m < xs.length * i.size → ws[q + m]? = vs[k * i.size + m]?) → (∀ m u, news[m]? = some u → ws[q + (xs.length * i.size + m)]? = some u) →
      ∀ (i' : Nat) x (j : Nat) c, (xs ++ ys)[i']? = some x → x.cells[j]? = some c → ∃ u, ws[q + (i' * i.size + j)]? = some u ∧ R st w c u := fun ws q h1 h2 i' x j c hx' hc => by
    have hj : j < i.size := by have := (List.getElem?_eq_some_iff.1 hc).1; rw [hall i' x hx'] at this; exact this
    rcases Nat.lt_or_ge i' xs.length with h | h
    · rw [List.getElem?_append_left h] at hx'
      obtain ⟨k1, k2⟩ := hf i' x j c hx' hc
      have : (i' + 1) * i.size ≤ xs.length * i.size := Nat.mul_le_mul_right _ h
      rw [Nat.add_mul, Nat.one_mul] at this
      exact ⟨_, by rw [h1 _ (by omega)]; exact k1, k2⟩
    · rw [List.getElem?_append_right h] at hx'
      obtain ⟨u, k1, k2⟩ := hR _ x j c hx' hc
      have := h2 _ u k1
      rw [← Nat.add_assoc (xs.length * i.size), ← Nat.add_mul, show xs.length + (i' - xs.length) = i' by omega] at this
      exact ⟨u, this, k2⟩
  have hused : k * i.size + xs.length * i.size + news.length = (k + (xs.length + ys.length)) * i.size := by rw [hl]; simp only [Nat.add_mul]; omega
  by_cases hroom : xs.length + ys.length ≤ cap
  · have hfit : k * i.size + xs.length * i.size + news.length ≤ vs.size := by rw [hused, g2]; exact Nat.mul_le_mul_right _ (by omega)
    have hcl : ∀ j, j < news.length → (w.cell? ⟨b, k * i.size + xs.length * i.size + j, none⟩).isSome = true := fun j hj => by simp [World.cell?, g1]; omega
    have hfz : ∀ j, j < news.length → w.frozen? ⟨b, k * i.size + xs.length * i.size + j, none⟩ = false := fun j hj => by simp [World.frozen?, g1]
    have hrun := run_append_room_cells (P := P) w t o.type e i hu hi b (k * i.size) xs.length cap ⟨b2, off, none⟩ ys.length cap2 news hl hnews hone hroom hcl hfz
    obtain ⟨⟨ws, j1, j2, j3⟩, j4, j5, j6, j7, j8⟩ := setCells_heap b news (k * i.size + xs.length * i.size) w vs e g1 hfit
    obtain ⟨k1, k2⟩ := grow_rel hg.rel hst (k' := k + (xs ++ ys).length) (by simp) (by simp; omega) g1 j1 (by rw [j2, g2]) (fun m hm => by rw [j3 m, if_neg (by rw [Nat.add_mul] at hm; omega)]) j4 j5 j6 j7 j8
    have hexec : (execOp a.eval o).run P w = .ok (.value (.slice (some ⟨b, k * i.size, none⟩) (xs.length + ys.length) cap)) (w.setCells b (k * i.size + xs.length * i.size) news) := by
      simp only [execOp, ho, resolve, invoke, builtin, Sem.run_bind, Sem.run_pure, Result.andThen_ok, List.map_toArray, List.map_cons, List.map_nil, e1, e2, hrun]
    unfold Oper.wp
    rw [hexec]
    refine hn _ _ _ _ ⟨b, k, cap, rfl, rfl⟩ ?_ k1 k2
    have hmem : (b, Ob.grow e i.size (k + (xs ++ ys).length) (k + cap)) ∈ st.set n (b, .grow e i.size (k + (xs ++ ys).length) (k + cap)) := List.mem_iff_getElem?.2 ⟨n, by simp [(List.getElem?_eq_some_iff.1 hst).1]⟩
    have := row_of hmem k1 j1 (by simpa using hroom) hall fun i' x j c hx' hc => by
      obtain ⟨u, h1, h2⟩ := hcells ws (k * i.size) (fun m hm => by rw [j3, if_neg (by omega)]) (fun m u hm => by
        have hml : m < news.length := (List.getElem?_eq_some_iff.1 hm).1
        rw [j3, if_pos ⟨by omega, by omega⟩, show k * i.size + (xs.length * i.size + m) - (k * i.size + xs.length * i.size) = m by omega]
        exact hm) i' x j c hx' hc
      exact ⟨u, h1, h2.mono k2 hnd⟩
    simpa using this
  · have hlv : k * i.size + xs.length * i.size ≤ vs.size := by rw [g2, ← Nat.add_mul]; exact Nat.mul_le_mul_right _ g3
    have ht : ((vs.toList.drop (k * i.size)).take (xs.length * i.size)).length = xs.length * i.size := by simp; omega
    have holds : ∀ (j : Nat) u, ((vs.toList.drop (k * i.size)).take (xs.length * i.size))[j]? = some u → w.cell? ((⟨b, k * i.size, none⟩ : Addr).add j) = some u := fun j u hu => by
      have hj : j < xs.length * i.size := by have := (List.getElem?_eq_some_iff.1 hu).1; rw [ht] at this; exact this
      rw [List.getElem?_take_of_lt hj, List.getElem?_drop] at hu
      rw [Addr.add_mid]
      simp only [World.cell?, g1]
      simpa using hu
    have hrun := run_append_grow (P := P) w t o.type e i z hu hi hz ⟨b, k * i.size, none⟩ xs.length cap ((vs.toList.drop (k * i.size)).take (xs.length * i.size)) ht holds ⟨b2, off, none⟩ ys.length cap2 news hl hnews (by omega) (by omega) (growslice_fits (by omega) hb)
    have hge := grownCap_ge w (xs.length + ys.length) cap e
    have hle := grownCap_le_maxLen w (xs.length + ys.length) cap e (by simp only [maxLen]; omega)
    let ws : Array Value := ((vs.toList.drop (k * i.size)).take (xs.length * i.size)).toArray ++ news.toArray ++ Builtin.zeroCells z.cells (grownCap w (xs.length + ys.length) cap e - (xs.length + ys.length))
    have hws1 : ∀ m : Nat, m < xs.length * i.size → ws[0 + m]? = vs[k * i.size + m]? := fun m hm => by
      simp only [ws, Nat.zero_add]
      rw [Array.getElem?_append_left (by simp only [Array.size_append, List.size_toArray, ht]; omega), Array.getElem?_append_left (by simp only [List.size_toArray, ht]; exact hm), List.getElem?_toArray, List.getElem?_take_of_lt hm, List.getElem?_drop]
      simp
    have hws2 : ∀ (m : Nat) u, news[m]? = some u → ws[0 + (xs.length * i.size + m)]? = some u := fun m u hm => by
      have hml : m < news.length := (List.getElem?_eq_some_iff.1 hm).1
      simp only [ws, Nat.zero_add]
      rw [Array.getElem?_append_left (by simp only [Array.size_append, List.size_toArray, ht]; omega), Array.getElem?_append_right (by simp only [List.size_toArray, ht]; omega)]
      simp only [List.size_toArray, ht, Nat.add_sub_cancel_left, List.getElem?_toArray]
      exact hm
    have hwsz : ws.size = grownCap w (xs.length + ys.length) cap e * i.size := by
      simp only [ws, Array.size_append, List.size_toArray, ht, size_zeroCells, hzs, hl, ← Nat.add_mul]
      congr 1; omega
    obtain ⟨k1, k2⟩ := alloc_grow (e := e) (k := 0 + (xs ++ ys).length) (cap := 0 + grownCap w (xs.length + ys.length) cap e) hg.rel (by rw [hwsz, Nat.zero_add]) (by simpa using hge) (by simpa using hle)
    have hexec : (execOp a.eval o).run P w = .ok (.value (.slice (some ⟨w.heap.size, 0, none⟩) (xs.length + ys.length) (grownCap w (xs.length + ys.length) cap e))) (w.drew.alloc (.cells ws e)) := by
      simp only [execOp, ho, resolve, invoke, builtin, Sem.run_bind, Sem.run_pure, Result.andThen_ok, List.map_toArray, List.map_cons, List.map_nil, e1, e2, hrun]
      rfl
    have hlt : n < st.length := (List.getElem?_eq_some_iff.1 hst).1
    have hsub : ∀ p, p ∈ st.set n (w.heap.size, .grow e i.size (0 + (xs ++ ys).length) (0 + grownCap w (xs.length + ys.length) cap e)) → p ∈ ((w.heap.size, .grow e i.size (0 + (xs ++ ys).length) (0 + grownCap w (xs.length + ys.length) cap e)) :: st : St) := fun p hp => by
      rcases List.mem_or_eq_of_mem_set hp with h | h
      · exact List.mem_cons_of_mem _ h
      · rw [h]; exact List.mem_cons_self
    have hfresh : ∀ o', (w.heap.size, o') ∉ st := fun o' h => by have := key_lt hg.rel h; omega
    have hnd2 : ((st.set n (w.heap.size, Ob.grow e i.size (0 + (xs ++ ys).length) (0 + grownCap w (xs.length + ys.length) cap e))).map (·.1)).Nodup := by
      rw [List.map_set]
      exact nodup_set hnd fun h => by
        obtain ⟨p, hp, hp'⟩ := List.mem_map.1 h
        have hp2 : p.1 = w.heap.size := hp'
        refine hfresh p.2 ?_
        rw [← hp2]
        exact hp
    have k1' := k1.sub hsub hnd2
    have k2' := k2.trans (Ext.sub (w := w.drew.alloc (.cells ws e)) hsub) hnd
    unfold Oper.wp
    rw [hexec]
    refine hn _ _ _ _ ⟨w.heap.size, 0, grownCap w (xs.length + ys.length) cap e, rfl, rfl⟩ ?_ k1' k2'
    have hmem : (w.heap.size, Ob.grow e i.size (0 + (xs ++ ys).length) (0 + grownCap w (xs.length + ys.length) cap e)) ∈ st.set n (w.heap.size, .grow e i.size (0 + (xs ++ ys).length) (0 + grownCap w (xs.length + ys.length) cap e)) := List.mem_iff_getElem?.2 ⟨n, by simp [hlt]⟩
    have := row_of (k := 0) hmem k1' (heap_alloc_new w.drew _) (by simpa using hge) hall fun i' x j c hx' hc => by
      obtain ⟨u, h1, h2⟩ := hcells ws (0 * i.size) (fun m hm => by rw [Nat.zero_mul]; exact hws1 m hm) (fun m u hm => by rw [Nat.zero_mul]; exact hws2 m u hm) i' x j c hx' hc
      exact ⟨u, h1, h2.mono k2' hnd⟩
    simpa using this

/-- To an empty slice without room, wherever it points. -/
theorem S_appendEmp {t e size bytes : Nat} {A : Addr} {x y : Operand} {ys : List AV} (ho : o.op = .call { callee := .builtin .append, args := #[x, y], argTypes := #[t, t] }) (hx : AEv env x (.lit (.slice (some A) 0 0))) (hy : AEv env y (.sl ys)) (hT : appT P t e size bytes = true) (hne : ys ≠ [])
    (hs : ∀ y, y ∈ ys → y.cells.length = size ∧ y.cells.all AV.one = true) (hb : ys.length * bytes ≤ 140737488355328) (h63 : ys.length ≤ 9223372036854775807) :
    Step P N o env st fun z st' => ∃ b cap, z = .row b 0 cap ys ∧ st' = (b, .grow e size ys.length cap) :: st := by
  intro a w hg next Q hn
  obtain ⟨hu, ⟨i, z, hi, hz, rfl, rfl, hzs⟩, hpos⟩ := appT_spec hT
  have e1 := (hx _ _ _ _ hg).lit_inv
  obtain ⟨b, off, cap, news, e2, hl, hnews, hone, hR⟩ := sl_cells (hy _ _ _ _ hg) hne (fun i y h => (hs y (List.mem_of_getElem? h)).1) hpos (fun y hy => (hs y hy).2)
  have hlen : 0 < ys.length := List.length_pos_iff.2 hne
  have hrun := run_append_grow (P := P) w t o.type e i z hu hi hz A 0 0 [] (by simp) (fun j u h => by simp at h) ⟨b, off, none⟩ ys.length cap news hl hnews (by omega) (by omega) (growslice_fits (by omega) (by simpa using hb))
  have hge := grownCap_ge w (0 + ys.length) 0 e
  have hle := grownCap_le_maxLen w (0 + ys.length) 0 e (by simp only [maxLen]; omega)
  simp only [Nat.zero_add] at hrun hge hle
  have hsz : (([] : List Value).toArray ++ news.toArray ++ Builtin.zeroCells z.cells (grownCap w ys.length 0 e - ys.length)).size = grownCap w ys.length 0 e * i.size := by
    simp only [Array.size_append, List.size_toArray, size_zeroCells, hzs, hl, List.length_nil, Nat.zero_add, ← Nat.add_mul]
    congr 1; omega
  obtain ⟨k1, k2⟩ := alloc_grow (e := e) hg.rel hsz hge hle
  have hexec : (execOp a.eval o).run P w = .ok (.value (.slice (some ⟨w.heap.size, 0, none⟩) ys.length (grownCap w ys.length 0 e))) (w.drew.alloc (.cells (([] : List Value).toArray ++ news.toArray ++ Builtin.zeroCells z.cells (grownCap w ys.length 0 e - ys.length)) e)) := by
    simp only [execOp, ho, resolve, invoke, builtin, Sem.run_bind, Sem.run_pure, Result.andThen_ok, List.map_toArray, List.map_cons, List.map_nil, e1, e2, hrun]
  unfold Oper.wp
  rw [hexec]
  refine hn _ _ _ _ ⟨w.heap.size, grownCap w ys.length 0 e, rfl, rfl⟩ ?_ k1 k2
  have hrow := row_of (k := 0) (e := e) (by simp) k1 (heap_alloc_new w.drew _) hge (fun i y h => (hs y (List.mem_of_getElem? h)).1) fun i y j c hy' hc => by
    obtain ⟨u, h1, h2⟩ := hR i y j c hy' hc
    refine ⟨u, ?_, h2.mono k2 hg.rel.nodup⟩
    have hlt : i * _ + j < news.length := (List.getElem?_eq_some_iff.1 h1).1
    rw [Nat.zero_mul, Nat.zero_add, Array.getElem?_append_left (by simpa using hlt)]
    simpa using h1
  simpa using hrow

/-- A part of a slice. -/
theorem S_cut {t e : TypeId} {x : Operand} {lo hi : Option Operand} {xs : List AV} {i j : Nat} (m : Nat) (ho : o.op = .slice t x lo hi none) (hx : AEv env x (.sl xs))
    (hl : match lo with | none => i = 0 | some l => ∃ k, AEv env l (.int k i)) (hh : match hi with | none => j = xs.length | some l => ∃ k, AEv env l (.int k j))
    (hu : P.underlying t = some (.slice e)) (hm : (P.info? e).map (·.size) = some m) (hs : ∀ x, x ∈ xs → x.cells.length = m) (h1 : i ≤ j) (h2 : j ≤ xs.length) : PStep P N o env st (.sl ((xs.take j).drop i)) :=
  .of_val fun a w hg => by
    have hr := hx _ _ _ _ hg
    generalize hv : a.eval x = v at hr
    cases hq : P.info? e with
    | none => simp [hq] at hm
    | some q =>
      have hqm : q.size = m := by simpa [hq] using hm
      have bounds : ∀ cap, xs.length ≤ cap → ∀ w, (Instr.sliceBounds true xs.length cap (lo.map a.eval) (hi.map a.eval) none).run P w = .ok (i, j, cap) w := fun cap hcap w => by
        unfold Instr.sliceBounds
        cases lo with
        | none =>
          cases hi with
          | none => simp at hl hh; subst hl; subst hh; simp
          | some l =>
            obtain ⟨k, hk⟩ := hh
            simp at hl; subst hl
            have e3 := (hk _ _ _ _ hg).lit_inv
            simp [e3, run_sliceBound (P := P) w k (j : Int) cap .sliceAcap (by omega) (by omega)]
        | some l =>
          obtain ⟨k, hk⟩ := hl
          have e3 := (hk _ _ _ _ hg).lit_inv
          cases hi with
          | none => simp at hh; subst hh; simp [e3, run_sliceBound (P := P) w k (i : Int) xs.length .sliceB (by omega) (by omega)]
          | some l2 =>
            obtain ⟨k2, hk2⟩ := hh
            have e4 := (hk2 _ _ _ _ hg).lit_inv
            simp [e3, e4, run_sliceBound (P := P) w k2 (j : Int) cap .sliceAcap (by omega) (by omega), run_sliceBound (P := P) w k (i : Int) j .sliceB (by omega) (by omega)]
      have hrun : ∀ (A : Option Addr) cap, xs.length ≤ cap → v = .slice A xs.length cap → (execOp a.eval o).run P w = .ok (.value (.slice (if cap = i then A else A.map (·.add (i * m))) (j - i) (cap - i))) w := fun A cap hcap hvv => by
        subst hvv
        simp only [execOp, ho, hv, Instr.sliceAt, Instr.slice, Sem.run_bind, run_underlying hu, Result.andThen_ok, Option.map_none, bounds cap hcap]
        simp [sizeOf, typeInfo, hq, hqm]
      have hlen : ((xs.take j).drop i).length = j - i := by simp; omega
      cases hr with
      | sl0 A cap =>
        refine ⟨_, hrun A cap (by simp) rfl, ?_⟩
        have : j = 0 := by simpa using h2
        subst this
        have : i = 0 := by omega
        subst this
        exact .sl0 _ _
      | sl _ b off cap sz f hcap hsz hc hrr =>
        refine ⟨_, hrun _ cap hcap rfl, ?_⟩
        by_cases hij : i = j
        · subst hij
          have : (xs.take i).drop i = [] := List.eq_nil_of_length_eq_zero (by omega)
          rw [this, Nat.sub_self]
          exact .sl0 _ _
        · have hne : ¬ cap = i := by omega
          have hszm : sz = m := by
            have h0 : 0 < xs.length := by omega
            have := hsz 0 xs[0] (List.getElem?_eq_getElem h0)
            rw [hs _ (List.getElem_mem h0)] at this
            exact this.symm
          subst hszm
          rw [if_neg hne]
          simp only [Option.map_some, Addr.add_mid]
          have at_ : ∀ (k : Nat) x, ((xs.take j).drop i)[k]? = some x → xs[i + k]? = some x := fun k x hk => by
            have : k < j - i := by have := (List.getElem?_eq_some_iff.1 hk).1; omega
            rw [List.getElem?_drop, List.getElem?_take_of_lt (by omega)] at hk
            exact hk
          have h := R.sl (st := st) (w := w) ((xs.take j).drop i) b (off + i * sz) (cap - i) sz (fun k => f (i * sz + k)) (by rw [hlen]; omega) (fun k x hk => hsz _ x (at_ k x hk)) (fun k x jj c hk hcc => by
            have := hc (i + k) x jj c (at_ k x hk) hcc
            rw [Nat.add_mul] at this
            rw [show off + i * sz + k * sz + jj = off + (i * sz + k * sz) + jj by omega, show i * sz + (k * sz + jj) = i * sz + k * sz + jj by omega]
            exact this) (fun k x jj c hk hcc => by
            have := hrr (i + k) x jj c (at_ k x hk) hcc
            rw [Nat.add_mul] at this
            rw [show i * sz + (k * sz + jj) = i * sz + k * sz + jj by omega]
            exact this)
          rw [hlen] at h
          exact h

/-! A slice of one's own: nil, a row, or empty without room -/
inductive Own where
  | nil
  | row (b k cap : Nat)
  | emp (A : Addr)
def ownAV (p : Own) (size : Nat) (xs : List AV) : AV := match p with | .nil => .nils | .row b k cap => .row b (k * size) cap xs | .emp A => .lit (.slice (some A) 0 0)
def ownSt (p : Own) (e size : Nat) (xs : List AV) : St := match p with | .row b k cap => [(b, .grow e size (k + xs.length) (k + cap))] | _ => []
/-- Without a row there is nothing. -/
def Own.ok (p : Own) (xs : List AV) : Prop := match p with | .row _ _ cap => xs.length ≤ cap | _ => xs = []
theorem Le_own {p : Own} {size : Nat} {xs : List AV} (h : p.ok xs) : Le (ownAV p size xs) (.sl xs) := by
  cases p with
  | nil => cases h; exact Le.nils
  | row b k cap => exact Le.row _ _ _ _
  | emp A => cases h; exact fun st w v hv => by rw [hv.lit_inv]; exact .sl0 _ _
theorem S_appendOwn {t e size bytes : Nat} {x y : Operand} {p : Own} {xs ys : List AV} (pre post : St) (ho : o.op = .call { callee := .builtin .append, args := #[x, y], argTypes := #[t, t] }) (hx : AEv env x (ownAV p size xs)) (hy : AEv env y (.sl ys)) (hst : st = pre ++ (ownSt p e size xs ++ post)) (h : p.ok xs) (hT : appT P t e size bytes = true) (hne : ys ≠ [])
    (hsx : ∀ x, x ∈ xs → x.cells.length = size) (hs : ∀ y, y ∈ ys → y.cells.length = size ∧ y.cells.all AV.one = true) (hb : (xs.length + ys.length) * bytes ≤ 140737488355328) (h63 : xs.length + ys.length ≤ 9223372036854775807) :
    Step P N o env st fun z st' => ∃ b k cap, (xs ++ ys).length ≤ cap ∧ z = ownAV (.row b k cap) size (xs ++ ys) ∧ st' = pre ++ (ownSt (.row b k cap) e size (xs ++ ys) ++ post) := by
  subst hst
  have fresh : ∀ (q : Own), ownSt q e size [] = [] → xs = [] → Step P N o env (pre ++ ([] ++ post)) (fun z st' => ∃ b cap, z = .row b 0 cap ys ∧ st' = (b, .grow e size ys.length cap) :: (pre ++ ([] ++ post))) → Step P N o env (pre ++ ([] ++ post)) fun z st' => ∃ b k cap, (xs ++ ys).length ≤ cap ∧ z = ownAV (.row b k cap) size (xs ++ ys) ∧ st' = pre ++ (ownSt (.row b k cap) e size (xs ++ ys) ++ post) := fun q hq hxs hstep => by
    subst hxs
    intro a w hg next Q hn
    refine hstep a w hg next Q ?_
    rintro z st' v w' ⟨b, cap, rfl, rfl⟩ hr hrel hxx
    have hsub : ∀ q, q ∈ pre ++ ([(b, Ob.grow e size ys.length cap)] ++ post) → q ∈ ((b, Ob.grow e size ys.length cap) :: (pre ++ ([] ++ post)) : St) := fun q hq => by
      simp at hq ⊢
      rcases hq with h | h | h
      · exact .inr (.inl h)
      · exact .inl h
      · exact .inr (.inr h)
    have hnd : ((pre ++ ([(b, Ob.grow e size ys.length cap)] ++ post)).map (·.1)).Nodup := by
      have h1 := hrel.nodup
      have hp : (pre ++ ([(b, Ob.grow e size ys.length cap)] ++ post)).Perm ((b, Ob.grow e size ys.length cap) :: (pre ++ ([] ++ post))) := by
        simp only [List.nil_append, List.singleton_append]
        exact List.perm_middle
      exact (hp.map (·.1)).nodup_iff.2 h1
    refine hn (.row b 0 cap ys) _ v w' ⟨b, 0, cap, by simpa using (row_inv hr).2, ?_, ?_⟩ ?_ (hrel.sub hsub hnd) (hxx.trans (Ext.sub hsub) hg.rel.nodup)
    · simp [ownAV]
    · simp [ownSt]
    · exact hr.mono (Ext.sub hsub) hrel.nodup
  cases p with
  | nil =>
    have : xs = [] := h
    subst this
    exact fresh .nil rfl rfl (S_appendNil ho hx hy hT hne hs (by simpa using hb) (by simpa using h63))
  | emp A =>
    have : xs = [] := h
    subst this
    exact fresh (.emp A) rfl rfl (S_appendEmp ho hx hy hT hne hs (by simpa using hb) (by simpa using h63))
  | row b0 k0 cap0 =>
    intro a w hg next Q hn
    refine S_appendRow pre.length ho hx hy (by simp [ownSt]) hT hne hsx hs hb h63 a w hg next Q ?_
    rintro z st' v w' ⟨b, k, cap, rfl, rfl⟩ hr hrel hxx
    have e1 : (pre ++ (ownSt (.row b0 k0 cap0) e size xs ++ post)).set pre.length (b, .grow e size (k + (xs ++ ys).length) (k + cap)) = pre ++ (ownSt (.row b k cap) e size (xs ++ ys) ++ post) := by
      simp [ownSt, List.set_append_right]
    rw [e1] at hr hrel hxx
    exact hn _ _ v w' ⟨b, k, cap, (row_inv hr).2, rfl, rfl⟩ hr hrel hxx
end
end Go.AL
