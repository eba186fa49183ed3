/- A part of the proof: laws of the logic and of the data, no program in sight.
Conditions: none beyond each theorem's own. -/
import Derived.Test.YtfdcadnaginnpaaGreatDoorL1
import Derived.ArgAppend
import Derived.Lib.Builder
import Derived.Lib.AppendStr
import Derived.Lib.UnsafeStr
import Derived.Laws.Externs
import Derived.Stop.Asserts
import Derived.Stop.IfaceNil
import Derived.LaidEql
import Derived.Lib.Join
import Derived.Below
import Derived.RowKit3
import Derived.Lib.IfaceEq
import Derived.ChangeArms
import Derived.Carry
import Derived.ChangeSame
import Derived.SizedLaws
import Derived.OpenShut
import Derived.Laws.MakeOwn
import Derived.Lib.Bytealg
set_option linter.unusedVariables false
set_option linter.unusedSimpArgs false
namespace Go.AL
open Go.RowKit

section
variable {P : Program} {N : Nat} {env : Env} {st : St} {o : Oper} {w : World}

theorem Ext.drew : Ext st w st w.drew := ⟨rfl, rfl, rfl, fun _ _ => rfl, Nat.le_refl _, fun _ _ _ => rfl, fun _ _ _ _ _ _ _ _ _ => rfl, fun _ _ _ h => h, fun _ _ _ _ => rfl⟩
theorem Rel.drew (hr : Rel st w) : Rel st w.drew := ⟨hr.nodup, fun b cs hb => let ⟨vs, T, k1, k2, k3⟩ := hr.cells b cs hb; ⟨vs, T, k1, k2, fun i c v hc hv => (k3 i c v hc hv).mono .drew hr.nodup⟩, hr.grow, hr.konst⟩

/-- A row of one's own has got more elements, where it is. -/
theorem grow_rel (hrel : Rel st w) {n b e size k k' cap : Nat} (hst : st[n]? = some (b, .grow e size k cap)) (hk : k ≤ k') (hk' : k' ≤ cap) {w' : World} {vs vs' : Array Value} (h0 : w.heap[b]? = some (.cells vs e (0, 0)))
    (hb : w'.heap[b]? = some (.cells vs' e (0, 0))) (hsz : vs'.size = cap * size) (hsame : ∀ i : Nat, i < k * size → vs'[i]? = vs[i]?) (ho : ∀ b', b' ≠ b → w'.heap[b']? = w.heap[b']?) (hs : w'.heap.size = w.heap.size) (h1 : w'.os = w.os) (h2 : w'.tape = w.tape) (h3 : w'.output = w.output) :
    Rel (st.set n (b, .grow e size k' cap)) w' ∧ Ext st w (st.set n (b, .grow e size k' cap)) w' := by
  have hn := hrel.nodup
  have hn' := set_nodup (o' := .grow e size k' cap) hst hn
  have hlen : n < st.length := (List.getElem?_eq_some_iff.1 hst).1
  have hshape0 : vs'.size = vs.size → ∀ b', b' < w.heap.size → w'.shape? b' = w.shape? b' := fun hz b' _ => by
    by_cases ha : b' = b
    · subst ha
      simp only [World.shape?, hb, h0, hz]
    · simp only [World.shape?, ho _ ha]
  obtain ⟨us, g1, g2, g3, g4⟩ := hrel.grow b e size k cap (mem_at hst)
  have hx : Ext st w (st.set n (b, .grow e size k' cap)) w' := by
    refine ⟨h1, h2, h3, hshape0 (by rw [h0] at g1; cases g1; omega), by omega, fun b' hb' hk => ho b' fun e => hk _ (e ▸ mem_at hst), fun b' e' size' m cap' hb' hg off hoff => ?_, fun b' off hb' hm => ?_, fun b' us hb' hg => ho b' fun e => by subst e; have := key_unique hn hg (mem_at hst); cases this⟩
    · by_cases hbb : b' = b
      · subst hbb
        have := key_unique hn hg (mem_at hst)
        cases this
        simp only [World.cell?, hb, h0, Option.isSome_none, Bool.false_eq_true, if_false]
        exact hsame off hoff
      · exact World.cell?_of_block (w := w) (ho b' hbb)
    · obtain ⟨o, ho1, ho2⟩ := hm
      rcases set_mem hst ho1 with e' | e'
      · cases e'
        refine ⟨_, mem_at hst, ?_⟩
        simp only [Ob.opens] at ho2 ⊢
        exact Nat.le_trans (Nat.mul_le_mul_right _ hk) ho2
      · exact ⟨o, e', ho2⟩
  refine ⟨⟨hn', fun b' ds hd => ?_, fun b' e' size' m cap' hg => ?_, fun b' us hg => by
    rcases set_mem hst hg with e' | e'
    · cases e'
    · exact hx.konst_rel hrel e'⟩, hx⟩
  · rcases set_mem hst hd with e' | e'
    · cases e'
    · have hne : b' ≠ b := fun h => by subst h; have := key_unique hn e' (mem_at hst); cases this
      obtain ⟨us', T', k1, k2, k3⟩ := hrel.cells b' ds e'
      exact ⟨us', T', by rw [ho b' hne]; exact k1, k2, fun i c v hc hv => (k3 i c v hc hv).mono hx hn⟩
  · by_cases hbb : b' = b
    · subst hbb
      have hmem : (b', Ob.grow e size k' cap) ∈ st.set n (b', .grow e size k' cap) := List.mem_iff_getElem?.2 ⟨n, by simp [hlen]⟩
      have := key_unique hn' hg hmem
      cases this
      exact ⟨vs', hb, hsz, hk', g4⟩
    · rcases set_mem hst hg with e' | e'
      · cases e'; exact absurd rfl hbb
      · obtain ⟨us', k1, k2⟩ := hrel.grow _ _ _ _ _ e'
        exact ⟨us', by rw [ho b' hbb]; exact k1, k2⟩

/-- The cells of a slice's elements, in a row. -/
theorem sl_cells {ys : List AV} {v : Value} (h : R st w (.sl ys) v) (hne : ys ≠ []) {size : Nat} (hs : ∀ (i : Nat) y, ys[i]? = some y → y.cells.length = size) (hpos : 0 < size) (hone : ∀ y, y ∈ ys → y.cells.all AV.one = true) :
    ∃ b off cap, ∃ news : List Value, v = .slice (some ⟨b, off, none⟩) ys.length cap ∧ news.length = ys.length * size ∧ (∀ (j : Nat) u, news[j]? = some u → w.cell? ((⟨b, off, none⟩ : Addr).add j) = some u) ∧ (∀ u ∈ news, u.oneCell' = true) ∧
      ∀ (i : Nat) y (j : Nat) c, ys[i]? = some y → y.cells[j]? = some c → ∃ u, news[i * size + j]? = some u ∧ R st w c u := by
  cases h with
  | sl0 => exact absurd rfl hne
  | sl _ b off cap sz f hcap hsz hc hr =>
    have hlen : 0 < ys.length := List.length_pos_iff.2 hne
    have hsz' : sz = size := by
      have h0 := hsz 0 ys[0] (List.getElem?_eq_getElem hlen)
      have h1 := hs 0 ys[0] (List.getElem?_eq_getElem hlen)
      omega
    subst hsz'
    have parts : ∀ j, j < ys.length * sz → ∃ y c, ys[j / sz]? = some y ∧ y.cells[j % sz]? = some c ∧ y ∈ ys := fun j hj => by
      have hi : j / sz < ys.length := Nat.div_lt_of_lt_mul (by rw [Nat.mul_comm]; exact hj)
      have hy : ys[j / sz]? = some ys[j / sz] := List.getElem?_eq_getElem hi
      have hm : j % sz < (ys[j / sz]).cells.length := by rw [hsz _ _ hy]; exact Nat.mod_lt _ hpos
      exact ⟨_, _, hy, List.getElem?_eq_getElem hm, List.getElem_mem hi⟩
    have split : ∀ j, j / sz * sz + j % sz = j := fun j => by rw [Nat.mul_comm]; exact Nat.div_add_mod j sz
    refine ⟨b, off, cap, (List.range (ys.length * sz)).map f, rfl, by simp, fun j u hu => ?_, fun u hu => ?_, fun i y j c hy hcj => ?_⟩
    · have hj : j < ys.length * sz := by have := (List.getElem?_eq_some_iff.1 hu).1; simpa using this
      rw [List.getElem?_map, List.getElem?_range hj] at hu
      cases hu
      obtain ⟨y, c, hy, hcc, _⟩ := parts j hj
      have := (hc _ y _ c hy hcc).1
      rw [split j] at this
      rw [Addr.add_mid, ← this, Nat.add_assoc, split j]
    · obtain ⟨j, hj, rfl⟩ := List.mem_map.1 hu
      rw [List.mem_range] at hj
      obtain ⟨y, c, hy, hcc, hm⟩ := parts j hj
      have := hr _ y _ c hy hcc
      rw [split j] at this
      exact this.one (List.all_eq_true.1 (hone y hm) c (List.mem_of_getElem? hcc))
    · have hi : i < ys.length := (List.getElem?_eq_some_iff.1 hy).1
      have hj : j < sz := by have := (List.getElem?_eq_some_iff.1 hcj).1; rw [hsz i y hy] at this; exact this
      have hlt : i * sz + j < ys.length * sz := by
        have : (i + 1) * sz ≤ ys.length * sz := Nat.mul_le_mul_right _ hi
        rw [Nat.add_mul, Nat.one_mul] at this
        omega
      exact ⟨f (i * sz + j), by rw [List.getElem?_map, List.getElem?_range hlt]; rfl, hr i y j c hy hcj⟩

theorem row_of {b k cap size e : Nat} {xs : List AV} {w' : World} {st' : St} {vs : Array Value} (hg : (b, Ob.grow e size (k + xs.length) (k + cap)) ∈ st') (hrel : Rel st' w') (hb : w'.heap[b]? = some (.cells vs e (0, 0))) (hcap : xs.length ≤ cap) (hs : ∀ (i : Nat) x, xs[i]? = some x → x.cells.length = size)
    (hv : ∀ (i : Nat) x (j : Nat) c, xs[i]? = some x → x.cells[j]? = some c → ∃ u, vs[k * size + (i * size + j)]? = some u ∧ R st' w' c u) : R st' w' (.row b (k * size) cap xs) (.slice (some ⟨b, k * size, none⟩) xs.length cap) := by
  refine .row xs b (k * size) cap size (fun q => (vs[k * size + q]?).getD undef) hcap hs (fun i x j c hx hc => ?_) fun i x j c hx hc => ?_
  · obtain ⟨u, h1, h2⟩ := hv i x j c hx hc
    have hi : i < xs.length := (List.getElem?_eq_some_iff.1 hx).1
    have hj : j < size := by have := (List.getElem?_eq_some_iff.1 hc).1; rw [hs i x hx] at this; exact this
    refine ⟨by simp only [World.cell?, hb, Option.isSome_none, Bool.false_eq_true, if_false, Nat.add_assoc, h1, Option.getD_some], fun ⟨o, ho, hop⟩ => ?_⟩
    have := key_unique hrel.nodup ho hg
    subst this
    simp only [Ob.opens] at hop
    have : (i + 1) * size ≤ xs.length * size := Nat.mul_le_mul_right _ hi
    rw [Nat.add_mul, Nat.one_mul] at this
    rw [Nat.add_mul] at hop
    omega
  · obtain ⟨u, h1, h2⟩ := hv i x j c hx hc
    rw [h1]
    exact h2

/-- What the type of an append's elements is. -/
structure AppT (P : Program) (t e size bytes : Nat) : Prop where
  under : P.underlying t = some (.slice e)
  info : ∃ i z, P.info? e = some i ∧ i.zero = some z ∧ i.size = size ∧ i.bytes = bytes ∧ z.cells.size = size
  pos : 0 < size
def appT (P : Program) (t e size bytes : Nat) : Bool := match P.underlying t, P.info? e with
  | some (.slice e'), some i => e' == e && (match i.zero with | some z => z.cells.size == size | none => false) && i.size == size && i.bytes == bytes && decide (0 < size)
  | _, _ => false
theorem appT_spec {t e size bytes : Nat} (h : appT P t e size bytes = true) : AppT P t e size bytes := by
  unfold appT at h
  cases hu : P.underlying t with
  | none => simp [hu] at h
  | some d =>
    cases hi : P.info? e with
    | none => cases d <;> simp [hu, hi] at h
    | some i =>
      cases d <;> simp [hu, hi] at h
      cases hz : i.zero with
      | none => simp [hz] at h
      | some z =>
        simp [hz] at h
        obtain ⟨⟨⟨⟨rfl, h1⟩, h2⟩, h3⟩, h4⟩ := h
        exact ⟨hu, ⟨i, z, hi, hz, h2, h3, h1⟩, h4⟩

theorem alloc_grow {ws : Array Value} {e size k cap : Nat} (hrel : Rel st w) (hsz : ws.size = cap * size) (hk : k ≤ cap) (hcap : cap ≤ maxLen) :
    Rel ((w.heap.size, .grow e size k cap) :: st) (w.drew.alloc (.cells ws e)) ∧ Ext st w ((w.heap.size, .grow e size k cap) :: st) (w.drew.alloc (.cells ws e)) := by
  obtain ⟨h1, h2⟩ := alloc_rel (T := e) (hrel.drew) (ob := .grow e size k cap) (vs := ws) ⟨rfl, hsz, hk, hcap⟩
  exact ⟨h1, Ext.drew.trans h2 hrel.nodup⟩

theorem nodup_set {α : Type} {l : List α} {n : Nat} {x : α} (h : l.Nodup) (hx : x ∉ l) : (l.set n x).Nodup := by
  induction l generalizing n with
  | nil => simp
  | cons y l ih =>
    simp only [List.nodup_cons] at h
    cases n with
    | zero => simp only [List.set_cons_zero, List.nodup_cons]; exact ⟨fun hm => hx (List.mem_cons_of_mem _ hm), h.2⟩
    | succ n =>
      simp only [List.set_cons_succ, List.nodup_cons]
      refine ⟨fun hm => ?_, ih h.2 fun hm => hx (List.mem_cons_of_mem _ hm)⟩
      rcases List.mem_or_eq_of_mem_set hm with h' | h'
      · exact h.1 h'
      · exact hx (h' ▸ List.mem_cons_self)

theorem S_appendNil {t e size bytes : Nat} {x y : Operand} {ys : List AV} (ho : o.op = .call { callee := .builtin .append, args := #[x, y], argTypes := #[t, t] }) (hx : AEv env x .nils) (hy : AEv env y (.sl ys)) (hT : appT P t e size bytes = true) (hne : ys ≠ [])
    (hs : ∀ y, y ∈ ys → y.cells.length = size ∧ y.cells.all AV.one = true) (hb : ys.length * bytes ≤ 140737488355328) (h63 : ys.length ≤ 9223372036854775807) :
    Step P N o env st fun z st' => ∃ b cap, z = .row b 0 cap ys ∧ st' = (b, .grow e size ys.length cap) :: st := by
  intro a w hg next Q hn
  obtain ⟨hu, ⟨i, z, hi, hz, rfl, rfl, hzs⟩, hpos⟩ := appT_spec hT
  have e1 := (hx _ _ _ _ hg).lit_inv
  obtain ⟨b, off, cap, news, e2, hl, hnews, hone, hR⟩ := sl_cells (hy _ _ _ _ hg) hne (fun i y h => (hs y (List.mem_of_getElem? h)).1) hpos (fun y hy => (hs y hy).2)
  have hlen : 0 < ys.length := List.length_pos_iff.2 hne
  have hrun := run_append_nil (P := P) w t o.type e i z hu hi hz ⟨b, off, none⟩ ys.length cap news hl hnews hlen (by omega) (by omega)
  have hge := grownCap_ge w ys.length 0 e
  have hle := grownCap_le_maxLen w ys.length 0 e (by simp only [maxLen]; omega)
  have hsz : (news.toArray ++ Builtin.zeroCells z.cells (grownCap w ys.length 0 e - ys.length)).size = grownCap w ys.length 0 e * i.size := by
    simp only [Array.size_append, List.size_toArray, size_zeroCells, hzs, hl, ← Nat.add_mul]
    congr 1; omega
  obtain ⟨k1, k2⟩ := alloc_grow (e := e) hg.rel hsz hge hle
  have hexec : (execOp a.eval o).run P w = .ok (.value (.slice (some ⟨w.heap.size, 0, none⟩) ys.length (grownCap w ys.length 0 e))) (w.drew.alloc (.cells (news.toArray ++ Builtin.zeroCells z.cells (grownCap w ys.length 0 e - ys.length)) e)) := by
    simp only [execOp, ho, resolve, invoke, builtin, Sem.run_bind, Sem.run_pure, Result.andThen_ok, List.map_toArray, List.map_cons, List.map_nil, e1, e2, hrun]
  unfold Oper.wp
  rw [hexec]
  refine hn _ _ _ _ ⟨w.heap.size, grownCap w ys.length 0 e, rfl, rfl⟩ ?_ k1 k2
  have hrow := row_of (k := 0) (e := e) (by simp) k1 (heap_alloc_new w.drew _) hge (fun i y h => (hs y (List.mem_of_getElem? h)).1) fun i y j c hy' hc => by
    obtain ⟨u, h1, h2⟩ := hR i y j c hy' hc
    refine ⟨u, ?_, h2.mono k2 hg.rel.nodup⟩
    have hlt : i * _ + j < news.length := (List.getElem?_eq_some_iff.1 h1).1
    rw [Nat.zero_mul, Nat.zero_add, Array.getElem?_append_left (by simpa using hlt)]
    simpa using h1
  simpa using hrow

theorem S_appendRow {t e size bytes b k cap : Nat} {x y : Operand} {xs ys : List AV} (n : Nat) (ho : o.op = .call { callee := .builtin .append, args := #[x, y], argTypes := #[t, t] }) (hx : AEv env x (.row b (k * size) cap xs)) (hy : AEv env y (.sl ys)) (hst : st[n]? = some (b, .grow e size (k + xs.length) (k + cap))) (hT : appT P t e size bytes = true) (hne : ys ≠ [])
    (hsx : ∀ x, x ∈ xs → x.cells.length = size) (hs : ∀ y, y ∈ ys → y.cells.length = size ∧ y.cells.all AV.one = true) (hb : (xs.length + ys.length) * bytes ≤ 140737488355328) (h63 : xs.length + ys.length ≤ 9223372036854775807) :
    Step P N o env st fun z st' => ∃ b' k' cap', z = .row b' (k' * size) cap' (xs ++ ys) ∧ st' = st.set n (b', .grow e size (k' + (xs ++ ys).length) (k' + cap')) := by
  intro a w hg next Q hn
  have hnd := hg.rel.nodup
  obtain ⟨hu, ⟨i, z, hi, hz, rfl, rfl, hzs⟩, hpos⟩ := appT_spec hT
  obtain ⟨b2, off, cap2, news, e2, hl, hnews, hone, hR⟩ := sl_cells (hy _ _ _ _ hg) hne (fun i y h => (hs y (List.mem_of_getElem? h)).1) hpos (fun y hy => (hs y hy).2)
  obtain ⟨vs, g1, g2, g3, g4⟩ := hg.rel.grow b e _ _ _ (mem_at hst)
  have hlen : 0 < ys.length := List.length_pos_iff.2 hne
  have hall : ∀ (i' : Nat) x, (xs ++ ys)[i']? = some x → x.cells.length = i.size := fun i' x h => by
    rcases List.mem_append.1 (List.mem_of_getElem? h) with h | h
    · exact hsx x h
    · exact (hs x h).1
  have hold : ∃ (f : Nat → Value), (a.eval x = .slice (some ⟨b, k * i.size, none⟩) xs.length cap) ∧ ∀ (i' : Nat) x (j : Nat) c, xs[i']? = some x → x.cells[j]? = some c → vs[k * i.size + (i' * i.size + j)]? = some (f (i' * i.size + j)) ∧ R st w c (f (i' * i.size + j)) := by
    have h := hx _ _ _ _ hg
    generalize a.eval x = v at h
    cases h with
    | row _ _ _ _ sz f h1 h2 h3 h4 =>
      refine ⟨f, rfl, fun i' x j c hx' hc => ?_⟩
      have hsz : sz = i.size := by
        have k1 := h2 i' x hx'
        have k2 := hsx x (List.mem_of_getElem? hx')
        omega
      subst hsz
      have k1 := (h3 i' x j c hx' hc).1
      simp only [World.cell?, g1, Nat.add_assoc] at k1
      exact ⟨by simpa using k1, h4 i' x j c hx' hc⟩
  obtain ⟨f, e1, hf⟩ := hold
  have hcells : ∀ (ws : Array Value) (q : Nat), (∀ m : Nat, m < xs.length * i.size → ws[q + m]? = vs[k * i.size + m]?) → (∀ m u, news[m]? = some u → ws[q + (xs.length * i.size + m)]? = some u) →
      ∀ (i' : Nat) x (j : Nat) c, (xs ++ ys)[i']? = some x → x.cells[j]? = some c → ∃ u, ws[q + (i' * i.size + j)]? = some u ∧ R st w c u := fun ws q h1 h2 i' x j c hx' hc => by
    have hj : j < i.size := by have := (List.getElem?_eq_some_iff.1 hc).1; rw [hall i' x hx'] at this; exact this
    rcases Nat.lt_or_ge i' xs.length with h | h
    · rw [List.getElem?_append_left h] at hx'
      obtain ⟨k1, k2⟩ := hf i' x j c hx' hc
      have : (i' + 1) * i.size ≤ xs.length * i.size := Nat.mul_le_mul_right _ h
      rw [Nat.add_mul, Nat.one_mul] at this
      exact ⟨_, by rw [h1 _ (by omega)]; exact k1, k2⟩
    · rw [List.getElem?_append_right h] at hx'
      obtain ⟨u, k1, k2⟩ := hR _ x j c hx' hc
      have := h2 _ u k1
      rw [← Nat.add_assoc (xs.length * i.size), ← Nat.add_mul, show xs.length + (i' - xs.length) = i' by omega] at this
      exact ⟨u, this, k2⟩
  have hused : k * i.size + xs.length * i.size + news.length = (k + (xs.length + ys.length)) * i.size := by rw [hl]; simp only [Nat.add_mul]; omega
  by_cases hroom : xs.length + ys.length ≤ cap
  · have hfit : k * i.size + xs.length * i.size + news.length ≤ vs.size := by rw [hused, g2]; exact Nat.mul_le_mul_right _ (by omega)
    have hcl : ∀ j, j < news.length → (w.cell? ⟨b, k * i.size + xs.length * i.size + j, none⟩).isSome = true := fun j hj => by simp [World.cell?, g1]; omega
    have hfz : ∀ j, j < news.length → w.frozen? ⟨b, k * i.size + xs.length * i.size + j, none⟩ = false := fun j hj => by simp [World.frozen?, g1]
    have hrun := run_append_room_cells (P := P) w t o.type e i hu hi b (k * i.size) xs.length cap ⟨b2, off, none⟩ ys.length cap2 news hl hnews hone hroom hcl hfz
    obtain ⟨⟨ws, j1, j2, j3⟩, j4, j5, j6, j7, j8⟩ := setCells_heap b news (k * i.size + xs.length * i.size) w vs e g1 hfit
    obtain ⟨k1, k2⟩ := grow_rel hg.rel hst (k' := k + (xs ++ ys).length) (by simp) (by simp; omega) g1 j1 (by rw [j2, g2]) (fun m hm => by rw [j3 m, if_neg (by rw [Nat.add_mul] at hm; omega)]) j4 j5 j6 j7 j8
    have hexec : (execOp a.eval o).run P w = .ok (.value (.slice (some ⟨b, k * i.size, none⟩) (xs.length + ys.length) cap)) (w.setCells b (k * i.size + xs.length * i.size) news) := by
      simp only [execOp, ho, resolve, invoke, builtin, Sem.run_bind, Sem.run_pure, Result.andThen_ok, List.map_toArray, List.map_cons, List.map_nil, e1, e2, hrun]
    unfold Oper.wp
    rw [hexec]
    refine hn _ _ _ _ ⟨b, k, cap, rfl, rfl⟩ ?_ k1 k2
    have hmem : (b, Ob.grow e i.size (k + (xs ++ ys).length) (k + cap)) ∈ st.set n (b, .grow e i.size (k + (xs ++ ys).length) (k + cap)) := List.mem_iff_getElem?.2 ⟨n, by simp [(List.getElem?_eq_some_iff.1 hst).1]⟩
    have := row_of hmem k1 j1 (by simpa using hroom) hall fun i' x j c hx' hc => by
      obtain ⟨u, h1, h2⟩ := hcells ws (k * i.size) (fun m hm => by rw [j3, if_neg (by omega)]) (fun m u hm => by
        have hml : m < news.length := (List.getElem?_eq_some_iff.1 hm).1
        rw [j3, if_pos ⟨by omega, by omega⟩, show k * i.size + (xs.length * i.size + m) - (k * i.size + xs.length * i.size) = m by omega]
        exact hm) i' x j c hx' hc
      exact ⟨u, h1, h2.mono k2 hnd⟩
    simpa using this
  · have hlv : k * i.size + xs.length * i.size ≤ vs.size := by rw [g2, ← Nat.add_mul]; exact Nat.mul_le_mul_right _ g3
    have ht : ((vs.toList.drop (k * i.size)).take (xs.length * i.size)).length = xs.length * i.size := by simp; omega
    have holds : ∀ (j : Nat) u, ((vs.toList.drop (k * i.size)).take (xs.length * i.size))[j]? = some u → w.cell? ((⟨b, k * i.size, none⟩ : Addr).add j) = some u := fun j u hu => by
      have hj : j < xs.length * i.size := by have := (List.getElem?_eq_some_iff.1 hu).1; rw [ht] at this; exact this
      rw [List.getElem?_take_of_lt hj, List.getElem?_drop] at hu
      rw [Addr.add_mid]
      simp only [World.cell?, g1]
      simpa using hu
    have hrun := run_append_grow (P := P) w t o.type e i z hu hi hz ⟨b, k * i.size, none⟩ xs.length cap ((vs.toList.drop (k * i.size)).take (xs.length * i.size)) ht holds ⟨b2, off, none⟩ ys.length cap2 news hl hnews (by omega) (by omega) (growslice_fits (by omega) hb)
    have hge := grownCap_ge w (xs.length + ys.length) cap e
    have hle := grownCap_le_maxLen w (xs.length + ys.length) cap e (by simp only [maxLen]; omega)
    let ws : Array Value := ((vs.toList.drop (k * i.size)).take (xs.length * i.size)).toArray ++ news.toArray ++ Builtin.zeroCells z.cells (grownCap w (xs.length + ys.length) cap e - (xs.length + ys.length))
    have hws1 : ∀ m : Nat, m < xs.length * i.size → ws[0 + m]? = vs[k * i.size + m]? := fun m hm => by
      simp only [ws, Nat.zero_add]
      rw [Array.getElem?_append_left (by simp only [Array.size_append, List.size_toArray, ht]; omega), Array.getElem?_append_left (by simp only [List.size_toArray, ht]; exact hm), List.getElem?_toArray, List.getElem?_take_of_lt hm, List.getElem?_drop]
      simp
    have hws2 : ∀ (m : Nat) u, news[m]? = some u → ws[0 + (xs.length * i.size + m)]? = some u := fun m u hm => by
      have hml : m < news.length := (List.getElem?_eq_some_iff.1 hm).1
      simp only [ws, Nat.zero_add]
      rw [Array.getElem?_append_left (by simp only [Array.size_append, List.size_toArray, ht]; omega), Array.getElem?_append_right (by simp only [List.size_toArray, ht]; omega)]
      simp only [List.size_toArray, ht, Nat.add_sub_cancel_left, List.getElem?_toArray]
      exact hm
    have hwsz : ws.size = grownCap w (xs.length + ys.length) cap e * i.size := by
      simp only [ws, Array.size_append, List.size_toArray, ht, size_zeroCells, hzs, hl, ← Nat.add_mul]
      congr 1; omega
    obtain ⟨k1, k2⟩ := alloc_grow (e := e) (k := 0 + (xs ++ ys).length) (cap := 0 + grownCap w (xs.length + ys.length) cap e) hg.rel (by rw [hwsz, Nat.zero_add]) (by simpa using hge) (by simpa using hle)
    have hexec : (execOp a.eval o).run P w = .ok (.value (.slice (some ⟨w.heap.size, 0, none⟩) (xs.length + ys.length) (grownCap w (xs.length + ys.length) cap e))) (w.drew.alloc (.cells ws e)) := by
      simp only [execOp, ho, resolve, invoke, builtin, Sem.run_bind, Sem.run_pure, Result.andThen_ok, List.map_toArray, List.map_cons, List.map_nil, e1, e2, hrun]
      rfl
    have hlt : n < st.length := (List.getElem?_eq_some_iff.1 hst).1
    have hsub : ∀ p, p ∈ st.set n (w.heap.size, .grow e i.size (0 + (xs ++ ys).length) (0 + grownCap w (xs.length + ys.length) cap e)) → p ∈ ((w.heap.size, .grow e i.size (0 + (xs ++ ys).length) (0 + grownCap w (xs.length + ys.length) cap e)) :: st : St) := fun p hp => by
      rcases List.mem_or_eq_of_mem_set hp with h | h
      · exact List.mem_cons_of_mem _ h
      · rw [h]; exact List.mem_cons_self
    have hfresh : ∀ o', (w.heap.size, o') ∉ st := fun o' h => by have := key_lt hg.rel h; omega
    have hnd2 : ((st.set n (w.heap.size, Ob.grow e i.size (0 + (xs ++ ys).length) (0 + grownCap w (xs.length + ys.length) cap e))).map (·.1)).Nodup := by
      rw [List.map_set]
      exact nodup_set hnd fun h => by
        obtain ⟨p, hp, hp'⟩ := List.mem_map.1 h
        have hp2 : p.1 = w.heap.size := hp'
        refine hfresh p.2 ?_
        rw [← hp2]
        exact hp
    have k1' := k1.sub hsub hnd2
    have k2' := k2.trans (Ext.sub (w := w.drew.alloc (.cells ws e)) hsub) hnd
    unfold Oper.wp
    rw [hexec]
    refine hn _ _ _ _ ⟨w.heap.size, 0, grownCap w (xs.length + ys.length) cap e, rfl, rfl⟩ ?_ k1' k2'
    have hmem : (w.heap.size, Ob.grow e i.size (0 + (xs ++ ys).length) (0 + grownCap w (xs.length + ys.length) cap e)) ∈ st.set n (w.heap.size, .grow e i.size (0 + (xs ++ ys).length) (0 + grownCap w (xs.length + ys.length) cap e)) := List.mem_iff_getElem?.2 ⟨n, by simp [hlt]⟩
    have := row_of (k := 0) hmem k1' (heap_alloc_new w.drew _) (by simpa using hge) hall fun i' x j c hx' hc => by
      obtain ⟨u, h1, h2⟩ := hcells ws (0 * i.size) (fun m hm => by rw [Nat.zero_mul]; exact hws1 m hm) (fun m u hm => by rw [Nat.zero_mul]; exact hws2 m u hm) i' x j c hx' hc
      exact ⟨u, h1, h2.mono k2' hnd⟩
    simpa using this

/-- To an empty slice without room, wherever it points. -/
theorem S_appendEmp {t e size bytes : Nat} {A : Addr} {x y : Operand} {ys : List AV} (ho : o.op = .call { callee := .builtin .append, args := #[x, y], argTypes := #[t, t] }) (hx : AEv env x (.lit (.slice (some A) 0 0))) (hy : AEv env y (.sl ys)) (hT : appT P t e size bytes = true) (hne : ys ≠ [])
    (hs : ∀ y, y ∈ ys → y.cells.length = size ∧ y.cells.all AV.one = true) (hb : ys.length * bytes ≤ 140737488355328) (h63 : ys.length ≤ 9223372036854775807) :
    Step P N o env st fun z st' => ∃ b cap, z = .row b 0 cap ys ∧ st' = (b, .grow e size ys.length cap) :: st := by
  intro a w hg next Q hn
  obtain ⟨hu, ⟨i, z, hi, hz, rfl, rfl, hzs⟩, hpos⟩ := appT_spec hT
  have e1 := (hx _ _ _ _ hg).lit_inv
  obtain ⟨b, off, cap, news, e2, hl, hnews, hone, hR⟩ := sl_cells (hy _ _ _ _ hg) hne (fun i y h => (hs y (List.mem_of_getElem? h)).1) hpos (fun y hy => (hs y hy).2)
  have hlen : 0 < ys.length := List.length_pos_iff.2 hne
  have hrun := run_append_grow (P := P) w t o.type e i z hu hi hz A 0 0 [] (by simp) (fun j u h => by simp at h) ⟨b, off, none⟩ ys.length cap news hl hnews (by omega) (by omega) (growslice_fits (by omega) (by simpa using hb))
  have hge := grownCap_ge w (0 + ys.length) 0 e
  have hle := grownCap_le_maxLen w (0 + ys.length) 0 e (by simp only [maxLen]; omega)
  simp only [Nat.zero_add] at hrun hge hle
  have hsz : (([] : List Value).toArray ++ news.toArray ++ Builtin.zeroCells z.cells (grownCap w ys.length 0 e - ys.length)).size = grownCap w ys.length 0 e * i.size := by
    simp only [Array.size_append, List.size_toArray, size_zeroCells, hzs, hl, List.length_nil, Nat.zero_add, ← Nat.add_mul]
    congr 1; omega
  obtain ⟨k1, k2⟩ := alloc_grow (e := e) hg.rel hsz hge hle
  have hexec : (execOp a.eval o).run P w = .ok (.value (.slice (some ⟨w.heap.size, 0, none⟩) ys.length (grownCap w ys.length 0 e))) (w.drew.alloc (.cells (([] : List Value).toArray ++ news.toArray ++ Builtin.zeroCells z.cells (grownCap w ys.length 0 e - ys.length)) e)) := by
    simp only [execOp, ho, resolve, invoke, builtin, Sem.run_bind, Sem.run_pure, Result.andThen_ok, List.map_toArray, List.map_cons, List.map_nil, e1, e2, hrun]
  unfold Oper.wp
  rw [hexec]
  refine hn _ _ _ _ ⟨w.heap.size, grownCap w ys.length 0 e, rfl, rfl⟩ ?_ k1 k2
  have hrow := row_of (k := 0) (e := e) (by simp) k1 (heap_alloc_new w.drew _) hge (fun i y h => (hs y (List.mem_of_getElem? h)).1) fun i y j c hy' hc => by
    obtain ⟨u, h1, h2⟩ := hR i y j c hy' hc
    refine ⟨u, ?_, h2.mono k2 hg.rel.nodup⟩
    have hlt : i * _ + j < news.length := (List.getElem?_eq_some_iff.1 h1).1
    rw [Nat.zero_mul, Nat.zero_add, Array.getElem?_append_left (by simpa using hlt)]
    simpa using h1
  simpa using hrow

/-! A slice of one's own: nil, a row, or empty without room -/
inductive Own where
  | nil
  | row (b k cap : Nat)
  | emp (A : Addr)
def ownAV (p : Own) (size : Nat) (xs : List AV) : AV := match p with | .nil => .nils | .row b k cap => .row b (k * size) cap xs | .emp A => .lit (.slice (some A) 0 0)
def ownSt (p : Own) (e size : Nat) (xs : List AV) : St := match p with | .row b k cap => [(b, .grow e size (k + xs.length) (k + cap))] | _ => []
/-- Without a row there is nothing. -/
def Own.ok (p : Own) (xs : List AV) : Prop := match p with | .row _ _ cap => xs.length ≤ cap | _ => xs = []
theorem Le_own {p : Own} {size : Nat} {xs : List AV} (h : p.ok xs) : Le (ownAV p size xs) (.sl xs) := by
  cases p with
  | nil => cases h; exact Le.nils
  | row b k cap => exact Le.row _ _ _ _
  | emp A => cases h; exact fun st w v hv => by rw [hv.lit_inv]; exact .sl0 _ _
theorem S_appendOwn {t e size bytes : Nat} {x y : Operand} {p : Own} {xs ys : List AV} (pre post : St) (ho : o.op = .call { callee := .builtin .append, args := #[x, y], argTypes := #[t, t] }) (hx : AEv env x (ownAV p size xs)) (hy : AEv env y (.sl ys)) (hst : st = pre ++ (ownSt p e size xs ++ post)) (h : p.ok xs) (hT : appT P t e size bytes = true) (hne : ys ≠ [])
    (hsx : ∀ x, x ∈ xs → x.cells.length = size) (hs : ∀ y, y ∈ ys → y.cells.length = size ∧ y.cells.all AV.one = true) (hb : (xs.length + ys.length) * bytes ≤ 140737488355328) (h63 : xs.length + ys.length ≤ 9223372036854775807) :
    Step P N o env st fun z st' => ∃ b k cap, (xs ++ ys).length ≤ cap ∧ z = ownAV (.row b k cap) size (xs ++ ys) ∧ st' = pre ++ (ownSt (.row b k cap) e size (xs ++ ys) ++ post) := by
  subst hst
  have fresh : ∀ (q : Own), ownSt q e size [] = [] → xs = [] → Step P N o env (pre ++ ([] ++ post)) (fun z st' => ∃ b cap, z = .row b 0 cap ys ∧ st' = (b, .grow e size ys.length cap) :: (pre ++ ([] ++ post))) → Step P N o env (pre ++ ([] ++ post)) fun z st' => ∃ b k cap, (xs ++ ys).length ≤ cap ∧ z = ownAV (.row b k cap) size (xs ++ ys) ∧ st' = pre ++ (ownSt (.row b k cap) e size (xs ++ ys) ++ post) := fun q hq hxs hstep => by
    subst hxs
    intro a w hg next Q hn
    refine hstep a w hg next Q ?_
    rintro z st' v w' ⟨b, cap, rfl, rfl⟩ hr hrel hxx
    have hsub : ∀ q, q ∈ pre ++ ([(b, Ob.grow e size ys.length cap)] ++ post) → q ∈ ((b, Ob.grow e size ys.length cap) :: (pre ++ ([] ++ post)) : St) := fun q hq => by
      simp at hq ⊢
      rcases hq with h | h | h
      · exact .inr (.inl h)
      · exact .inl h
      · exact .inr (.inr h)
    have hnd : ((pre ++ ([(b, Ob.grow e size ys.length cap)] ++ post)).map (·.1)).Nodup := by
      have h1 := hrel.nodup
      have hp : (pre ++ ([(b, Ob.grow e size ys.length cap)] ++ post)).Perm ((b, Ob.grow e size ys.length cap) :: (pre ++ ([] ++ post))) := by
        simp only [List.nil_append, List.singleton_append]
        exact List.perm_middle
      exact (hp.map (·.1)).nodup_iff.2 h1
    refine hn (.row b 0 cap ys) _ v w' ⟨b, 0, cap, by simpa using (row_inv hr).2, ?_, ?_⟩ ?_ (hrel.sub hsub hnd) (hxx.trans (Ext.sub hsub) hg.rel.nodup)
    · simp [ownAV]
    · simp [ownSt]
    · exact hr.mono (Ext.sub hsub) hrel.nodup
  cases p with
  | nil =>
    have : xs = [] := h
    subst this
    exact fresh .nil rfl rfl (S_appendNil ho hx hy hT hne hs (by simpa using hb) (by simpa using h63))
  | emp A =>
    have : xs = [] := h
    subst this
    exact fresh (.emp A) rfl rfl (S_appendEmp ho hx hy hT hne hs (by simpa using hb) (by simpa using h63))
  | row b0 k0 cap0 =>
    intro a w hg next Q hn
    refine S_appendRow pre.length ho hx hy (by simp [ownSt]) hT hne hsx hs hb h63 a w hg next Q ?_
    rintro z st' v w' ⟨b, k, cap, rfl, rfl⟩ hr hrel hxx
    have e1 : (pre ++ (ownSt (.row b0 k0 cap0) e size xs ++ post)).set pre.length (b, .grow e size (k + (xs ++ ys).length) (k + cap)) = pre ++ (ownSt (.row b k cap) e size (xs ++ ys) ++ post) := by
      simp [ownSt, List.set_append_right]
    rw [e1] at hr hrel hxx
    exact hn _ _ v w' ⟨b, k, cap, (row_inv hr).2, rfl, rfl⟩ hr hrel hxx
end
end Go.AL

namespace Go.AL
open Go.RowKit

section
variable {P : Program} {N : Nat} {env : Env} {st : St} {o : Oper} {w : World}

theorem ownAV_one (p : Own) (size : Nat) (xs : List AV) : (ownAV p size xs).one = true := by cases p <;> rfl

/-! Comparing with nil -/
theorem run_eqIn_sl_nil {t e : TypeId} {A : Option Addr} {n c : Nat} (d : Nat) (w : World) (hu : P.underlying t = some (.slice e)) : (Op.equalIn (d + 1) t (.slice A n c) (.slice none 0 0)).run P w = .ok A.isNone w := by
  cases A <;> simp [Op.equalIn, run_underlying hu]
theorem run_eq_sl_nil {t e : TypeId} {A : Option Addr} {n c : Nat} (w : World) (hu : P.underlying t = some (.slice e)) : (Op.equal t (.slice A n c) (.slice none 0 0)).run P w = .ok A.isNone w := run_eqIn_sl_nil 9999 w hu
/-- A slice against nil: what is true is known only where it holds something. -/
theorem S_eqlNilSl {t t2 e : TypeId} {x y : Operand} {xs : List AV} (ho : o.op = .binOp .eql t x y t2) (hx : AEv env x (.sl xs)) (hy : AEv env y .nils) (hu : P.underlying t = some (.slice e)) : Step P N o env st fun z st' => ∃ c, z = .bool c ∧ (c = true → xs = []) ∧ st' = st := by
  intro a w hg next Q hn
  have e2 := (hy _ _ _ _ hg).lit_inv
  obtain ⟨A, cap, e1, hne⟩ := sl_inv (hx _ _ _ _ hg)
  have hrun : (execOp a.eval o).run P w = .ok (.value (.bool A.isNone)) w := by
    simp only [execOp, ho, e1, e2, eqGuard_at_slice, Sem.run_bind, Sem.run_pure, Result.andThen_ok, binOp, run_eq_sl_nil w hu]
  unfold Oper.wp
  rw [hrun]
  refine hn (.bool A.isNone) st _ w ⟨A.isNone, rfl, fun hc => ?_, rfl⟩ (.lit _) hg.rel (.refl _ _)
  rcases Decidable.em (xs = []) with h | h
  · exact h
  · obtain ⟨b, off, size, f, rfl, _⟩ := hne h
    simp at hc

/-! Own slices -/
/-- To append nothing. -/
theorem S_append0 {t e : TypeId} {size : Nat} {x y : Operand} {A : Addr} (ho : o.op = .call { callee := .builtin .append, args := #[x, y], argTypes := #[t, t] }) (hx : AEv env x (.lit (.slice (some A) 0 0))) (hy : AEv env y (.sl [])) (hu : P.underlying t = some (.slice e)) (hm : (P.info? e).map (·.size) = some size) :
    PStep P N o env st (.lit (.slice (some A) 0 0)) :=
  .of_val fun a w hg => by
    have e1 := (hx _ _ _ _ hg).lit_inv
    obtain ⟨B, cap, e2, _⟩ := sl_inv (hy _ _ _ _ hg)
    cases hq : P.info? e with
    | none => simp [hq] at hm
    | some q =>
      have hqm : q.size = size := by simpa [hq] using hm
      refine ⟨.slice (some A) 0 0, ?_, .lit _⟩
      simp only [execOp, ho, resolve, invoke, builtin, Sem.run_bind, Sem.run_pure, Result.andThen_ok, List.map_toArray, List.map_cons, List.map_nil, e1, e2]
      cases B <;> simp [Builtin.append_, run_underlying hu, sizeOf, typeInfo, hq, Builtin.lenOf, Builtin.firstCells, loadCells, loadCellsFrom, storeCells]

/-- Nothing, in a slice that is not nil. -/
theorem S_build0 {t e : TypeId} {parts : List (Nat × Operand)} (ho : o.op = .buildSlice t 0 parts.toArray) (hp : parts = []) (hu : P.underlying t = some (.slice e)) (hz : (P.info? e).isSome = true) :
    Step P N o env st fun z st' => ∃ A, z = .lit (.slice (some A) 0 0) ∧ st' = st := by
  subst hp
  intro a w hg next Q hn
  obtain ⟨i, hi⟩ := Option.isSome_iff_exists.1 hz
  have hrun : (execOp a.eval o).run P w = .ok (.value (.slice (some ⟨w.heap.size, 0, none⟩) 0 0)) (w.alloc (.cells #[] e)) := by
    simp [execOp, ho, Instr.buildSlice, run_underlying hu, sizeOf, typeInfo, hi, Instr.fill, newRow]
    congr 2
    exact Array.eq_empty_of_size_eq_zero (by simp)
  unfold Oper.wp
  rw [hrun]
  obtain ⟨h1, h2⟩ := alloc_rel hg.rel (T := e) (ob := .cells []) (vs := #[]) ⟨rfl, fun i c v hc => by simp at hc⟩
  have hd : List.Sublist st ((w.heap.size, Ob.cells []) :: st) := List.Sublist.cons _ (List.Sublist.refl _)
  exact hn _ _ _ _ ⟨_, rfl, rfl⟩ (.lit _) (h1.drop hd) (h2.trans (Ext.drop hd) hg.rel.nodup)

/-- A contract over the front of a state serves wherever that part lies. -/
theorem ACalls.pre {f : FuncId} {args : List AV} {foot : St} {K : AV → St → Prop} (h : ∀ F, ACalls P f args (foot ++ F) fun x st' => ∃ foot', K x foot' ∧ st' = foot' ++ F) (pre F : St) : ACalls P f args (pre ++ (foot ++ F)) fun x st' => ∃ foot', K x foot' ∧ st' = pre ++ (foot' ++ F) := by
  have perm : ∀ (a : St), (pre ++ (a ++ F)).Perm (a ++ (pre ++ F)) := fun a => by
    rw [← List.append_assoc, ← List.append_assoc]
    exact List.Perm.append_right F List.perm_append_comm
  have hc := h (pre ++ F)
  refine ⟨hc.enters, fun w vs hrel hs hr => ?_⟩
  have hx : Ext (pre ++ (foot ++ F)) w (foot ++ (pre ++ F)) w := Ext.sub fun p hp => (perm foot).mem_iff.2 hp
  have hrel2 : Rel (foot ++ (pre ++ F)) w := hrel.sub (fun p hp => (perm foot).mem_iff.2 hp) (((perm foot).map (·.1)).nodup_iff.1 hrel.nodup)
  refine (hc.calls w vs hrel2 hs fun i x v h1 h2 => (hr i x v h1 h2).mono hx hrel.nodup).mono ?_
  rintro e w' ⟨r, x, st', he, ⟨foot', hk, rfl⟩, hr', hrel', hext⟩
  have hy : Ext (foot' ++ (pre ++ F)) w' (pre ++ (foot' ++ F)) w' := Ext.sub fun p hp => (perm foot').mem_iff.1 hp
  exact ⟨r, x, _, he, ⟨foot', hk, rfl⟩, hr'.mono hy hrel'.nodup, hrel'.sub (fun p hp => (perm foot').mem_iff.1 hp) (((perm foot').map (·.1)).nodup_iff.2 hrel'.nodup), (hx.trans hext hrel.nodup).trans hy hrel.nodup⟩
end
end Go.AL

namespace Go.AL
open Go.RowKit

inductive Vec where
  | nil
  | emp (A : Addr)
  | at (b cap : Nat)
def vecV (q : Vec) (n : Nat) : Value := match q with | .nil => .slice none 0 0 | .emp A => .slice (some A) 0 0 | .at b cap => .slice (some ⟨b, 0, none⟩) n cap
def vecCells (size cap : Nat) (xs : List AV) : List AV := xs.flatMap AV.cells ++ List.replicate ((cap - xs.length) * size) .any
def vecSt (q : Vec) (size : Nat) (xs : List AV) : St := match q with | .at b cap => [(b, .cells (vecCells size cap xs))] | _ => []
def Vec.ok (q : Vec) (xs : List AV) : Prop := match q with | .at _ cap => xs.length ≤ cap | _ => xs = []

theorem flat_len {xs : List AV} {size : Nat} (hs : ∀ x, x ∈ xs → x.cells.length = size) : (xs.flatMap AV.cells).length = xs.length * size := by
  induction xs with
  | nil => simp
  | cons x xs ih => rw [List.flatMap_cons, List.length_append, ih fun y h => hs y (List.mem_cons_of_mem _ h), hs x List.mem_cons_self, List.length_cons, Nat.add_mul]; omega
theorem flat_at {xs : List AV} {size : Nat} (hs : ∀ x, x ∈ xs → x.cells.length = size) : ∀ {i : Nat} {x : AV} {j : Nat} {c : AV}, xs[i]? = some x → x.cells[j]? = some c → (xs.flatMap AV.cells)[i * size + j]? = some c := by
  induction xs with
  | nil => intro i x j c h; simp at h
  | cons y xs ih =>
    intro i x j c h hc
    have hy := hs y List.mem_cons_self
    rw [List.flatMap_cons]
    cases i with
    | zero =>
      simp only [List.getElem?_cons_zero, Option.some.injEq] at h
      subst h
      have : j < y.cells.length := (List.getElem?_eq_some_iff.1 hc).1
      rw [Nat.zero_mul, Nat.zero_add, List.getElem?_append_left this]
      exact hc
    | succ i =>
      simp only [List.getElem?_cons_succ] at h
      rw [List.getElem?_append_right (by rw [hy, Nat.add_mul]; omega), hy, show (i + 1) * size + j - size = i * size + j by rw [Nat.add_mul]; omega]
      exact ih (fun z hz => hs z (List.mem_cons_of_mem _ hz)) h hc
theorem flat_get {xs : List AV} {size : Nat} (hs : ∀ x, x ∈ xs → x.cells.length = size) : ∀ {q : Nat} {c : AV}, (xs.flatMap AV.cells)[q]? = some c → ∃ i x j, xs[i]? = some x ∧ x.cells[j]? = some c ∧ q = i * size + j := by
  induction xs with
  | nil => intro q c h; simp at h
  | cons y xs ih =>
    intro q c h
    have hy := hs y List.mem_cons_self
    rw [List.flatMap_cons] at h
    by_cases hq : q < y.cells.length
    · rw [List.getElem?_append_left hq] at h
      exact ⟨0, y, q, rfl, h, by simp⟩
    · rw [List.getElem?_append_right (by omega)] at h
      obtain ⟨i, x, j, h1, h2, h3⟩ := ih (fun z hz => hs z (List.mem_cons_of_mem _ hz)) h
      exact ⟨i + 1, x, j, h1, h2, by rw [Nat.add_mul]; omega⟩

section
variable {P : Program} {N : Nat} {Q : Post} {env : Env} {st : St} {o : Oper} {w : World}

/-- To append all of a slice to one without room: a slice of one's own, whose cells may be written. -/
theorem S_appendEmpV {t e size bytes : Nat} {A : Addr} {x y : Operand} {ys : List AV} (ho : o.op = .call { callee := .builtin .append, args := #[x, y], argTypes := #[t, t] }) (hx : AEv env x (.lit (.slice (some A) 0 0))) (hy : AEv env y (.sl ys)) (hT : appT P t e size bytes = true)
    (hs : ∀ y, y ∈ ys → y.cells.length = size ∧ y.cells.all AV.one = true) (hb : ys.length * bytes ≤ 140737488355328) (h63 : ys.length ≤ 9223372036854775807) :
    Step P N o env st fun z st' => ∃ q : Vec, q.ok ys ∧ z = .lit (vecV q ys.length) ∧ st' = vecSt q size ys ++ st := by
  by_cases hne : ys = []
  · subst hne
    obtain ⟨hu, ⟨i, z, hi, hz, h1, h2, hzs⟩, hpos⟩ := appT_spec hT
    intro a w hg next Q hn
    refine S_append0 ho hx hy hu (size := size) (by rw [hi]; simpa using h1) a w hg next Q ?_
    rintro z st' v w' ⟨rfl, rfl⟩ hr hrel hxx
    exact hn _ _ v w' ⟨.emp A, rfl, rfl, rfl⟩ hr hrel hxx
  · intro a w hg next Q hn
    obtain ⟨hu, ⟨i, z, hi, hz, rfl, rfl, hzs⟩, hpos⟩ := appT_spec hT
    have e1 := (hx _ _ _ _ hg).lit_inv
    obtain ⟨b, off, cap, news, e2, hl, hnews, hone, hR⟩ := sl_cells (hy _ _ _ _ hg) hne (fun i y h => (hs y (List.mem_of_getElem? h)).1) hpos (fun y hy => (hs y hy).2)
    have hlen : 0 < ys.length := List.length_pos_iff.2 hne
    have hrun := run_append_grow (P := P) w t o.type e i z hu hi hz A 0 0 [] (by simp) (fun j u h => by simp at h) ⟨b, off, none⟩ ys.length cap news hl hnews (by omega) (by omega) (growslice_fits (by omega) (by simpa using hb))
    have hge := grownCap_ge w (0 + ys.length) 0 e
    have hle := grownCap_le_maxLen w (0 + ys.length) 0 e (by simp only [maxLen]; omega)
    simp only [Nat.zero_add] at hrun hge hle
    generalize grownCap w ys.length 0 e = cp at *
    have hfl := flat_len (size := i.size) fun x hx => (hs x hx).1
    have hsz : (([] : List Value).toArray ++ news.toArray ++ Builtin.zeroCells z.cells (cp - ys.length)).size = (vecCells i.size cp ys).length := by
      simp only [Array.size_append, List.size_toArray, size_zeroCells, hzs, hl, List.length_nil, Nat.zero_add, vecCells, List.length_append, List.length_replicate, hfl]
    obtain ⟨k1, k2⟩ := alloc_rel (T := e) (hg.rel.drew) (ob := .cells (vecCells i.size cp ys)) (vs := (([] : List Value).toArray ++ news.toArray ++ Builtin.zeroCells z.cells (cp - ys.length))) ⟨hsz, fun k c v hc hv => by
      unfold vecCells at hc
      by_cases hk : k < (ys.flatMap AV.cells).length
      · rw [List.getElem?_append_left hk] at hc
        obtain ⟨i', x, j, h1, h2, h3⟩ := flat_get (fun x hx => (hs x hx).1) hc
        obtain ⟨u, h4, h5⟩ := hR i' x j c h1 h2
        rw [← h3] at h4
        have hlt : k < news.length := (List.getElem?_eq_some_iff.1 h4).1
        rw [Array.getElem?_append_left (by simpa using hlt)] at hv
        simp at hv
        rw [h4] at hv
        cases hv
        exact h5.mono Ext.drew hg.rel.nodup
      · rw [List.getElem?_append_right (by omega)] at hc
        have := List.mem_of_getElem? hc
        rw [List.mem_replicate] at this
        rw [this.2]
        exact .any _⟩
    have k2 := Ext.drew.trans k2 hg.rel.nodup
    have hexec : (execOp a.eval o).run P w = .ok (.value (.slice (some ⟨w.heap.size, 0, none⟩) ys.length cp)) (w.drew.alloc (.cells (([] : List Value).toArray ++ news.toArray ++ Builtin.zeroCells z.cells (cp - ys.length)) e)) := by
      simp only [execOp, ho, resolve, invoke, builtin, Sem.run_bind, Sem.run_pure, Result.andThen_ok, List.map_toArray, List.map_cons, List.map_nil, e1, e2, hrun]
    unfold Oper.wp
    rw [hexec]
    exact hn _ _ _ _ ⟨.at w.heap.size cp, hge, rfl, rfl⟩ (.lit _) k1 k2

/-- A slice of one's own is read only from here on. -/
theorem Conv.vec {st' : St} (h : Sub st' st) {q : Vec} {size : Nat} {xs : List AV} (hq : q.ok xs) (hs : ∀ x, x ∈ xs → x.cells.length = size) (hm : ∀ p, p ∈ vecSt q size xs → p ∈ st) (hn : ∀ b cap, q = .at b cap → ∀ o, (b, o) ∉ st') : Conv st st' (.lit (vecV q xs.length)) (.sl xs) := fun w v hr h1 => by
  cases h1
  cases q with
  | nil => have : xs = [] := hq; subst this; exact .sl0 _ _
  | emp A => have : xs = [] := hq; subst this; exact .sl0 _ _
  | «at» b cap =>
    obtain ⟨vs, T, g1, g2, g3⟩ := hr.cells b (vecCells size cap xs) (hm _ List.mem_cons_self)
    have hcell : ∀ (i : Nat) x (j : Nat) c, xs[i]? = some x → x.cells[j]? = some c → ∃ u, vs[i * size + j]? = some u ∧ R st w c u := fun i x j c hx hc => by
      have h2 := flat_at hs hx hc
      have h3 : (vecCells size cap xs)[i * size + j]? = some c := by unfold vecCells; rw [List.getElem?_append_left (List.getElem?_eq_some_iff.1 h2).1]; exact h2
      have hlt : i * size + j < vs.size := by rw [g2]; exact (List.getElem?_eq_some_iff.1 h3).1
      exact ⟨vs[i * size + j], by simp [hlt], g3 _ c _ h3 (by simp [hlt])⟩
    refine .sl xs b 0 cap size (fun k => (vs[k]?).getD undef) hq (fun i x hx => hs x (List.mem_of_getElem? hx)) (fun i x j c hx hc => ?_) fun i x j c hx hc => ?_
    · obtain ⟨u, k1, k2⟩ := hcell i x j c hx hc
      refine ⟨by simp only [World.cell?, g1, Option.isSome_none, Bool.false_eq_true, if_false, Nat.zero_add, k1, Option.getD_some], fun ⟨o, ho, _⟩ => hn b cap rfl o ho⟩
    · obtain ⟨u, k1, k2⟩ := hcell i x j c hx hc
      rw [k1]
      exact k2.mono (Ext.dropS h) hr.nodup

/-- Each argument is, for one that only reads, what the callee wants. -/
inductive Lends (st : St) : List AV → List AV → Prop
  | nil : Lends st [] []
  | cons {a b : AV} {as bs : List AV} (h : Conv st [] a b) (t : Lends st as bs) : Lends st (a :: as) (b :: bs)
theorem Lends.len {as bs : List AV} (h : Lends st as bs) : as.length = bs.length := by induction h <;> simp [*]
theorem Lends.at_ {as bs : List AV} (h : Lends st as bs) : ∀ (i : Nat) b, bs[i]? = some b → ∃ a, as[i]? = some a ∧ Conv st [] a b := by
  induction h with
  | nil => intro i b h; simp at h
  | cons h t ih =>
    intro i b hb
    cases i with
    | zero => simp at hb; subst hb; exact ⟨_, rfl, h⟩
    | succ i => simp at hb; simpa using ih i b hb
theorem Sub.nil : Sub [] st := .l (List.nil_sublist _)

theorem vecCells_len {size cap : Nat} {xs : List AV} (hs : ∀ x, x ∈ xs → x.cells.length = size) : xs.length * size ≤ (vecCells size cap xs).length := by
  rw [vecCells, List.length_append, flat_len hs]; omega
theorem Vec.at_of {q : Vec} {xs : List AV} (h : q.ok xs) (hn : xs ≠ []) : ∃ b cap, q = .at b cap ∧ xs.length ≤ cap := by
  cases q with
  | «at» b cap => exact ⟨b, cap, rfl, h⟩
  | _ => exact absurd h hn
theorem S_lenV {t e : TypeId} {x : Operand} {q : Vec} {xs : List AV} (hq : q.ok xs) (ho : o.op = .call { callee := .builtin .len, args := #[x], argTypes := #[t] }) (hx : AEv env x (.lit (vecV q xs.length))) (hu : P.underlying t = some (.slice e)) : PStep P N o env st (.int .i64 xs.length) := by
  cases q with
  | «at» b cap => exact S_lenO ho hx hu
  | nil => have : xs = [] := hq; subst this; exact S_lenO ho hx hu
  | emp A => have : xs = [] := hq; subst this; exact S_lenO ho hx hu
theorem Conv.lits {st' : St} (v : Value) : Conv st st' (.lit v) (.lit v) := fun w u _ h => by cases h; exact .lit v

inductive Les : List AV → List AV → Prop
  | nil : Les [] []
  | cons {a b : AV} {as bs : List AV} (h : Le a b) (t : Les as bs) : Les (a :: as) (b :: bs)
theorem Les.len {as bs : List AV} (h : Les as bs) : as.length = bs.length := by induction h <;> simp [*]
theorem Les.at_ {as bs : List AV} (h : Les as bs) : ∀ (i : Nat) c d, as[i]? = some c → bs[i]? = some d → Le c d := by
  induction h with
  | nil => intro i c d hc; simp at hc
  | cons h t ih =>
    intro i c d hc hd
    cases i with
    | zero => simp at hc hd; subst hc; subst hd; exact h
    | succ i => simp at hc hd; exact ih i c d hc hd
theorem Les.agg {as bs : List AV} (h : Les as bs) : Le (.agg as) (.agg bs) := Le.agg h.len h.at_
theorem Les.tup {as bs : List AV} (h : Les as bs) : Le (.tup as) (.tup bs) := Le.tup h.len h.at_
/-- An operation behind a guard that lets it be done. -/
theorem AL_gT {ops : Array Oper} {rest : List Oper} {K : AV → St → Prop} {g d : Nat} {want b : Bool} (hgd : o.guard = some (g, want)) (hj : ((ops[g]?).bind (·.dst)) = some d) (hb : AEv env (.tmp d) (.bool b)) (hw : gd b want = true) (hd : dstIn N o.dst = true) (hs : Step P N o env st K)
    (h : ∀ x st', K x st' → AL P N ops rest Q (putE o.dst x env) st') : AL P N ops (o :: rest) Q env st := by
  intro a w hg
  have hy := lookup_of hg hj hb
  unfold wpList
  have hbw : b = want := by cases want <;> simpa [gd] using hw
  rw [if_pos (by simp [Region.wanted, hgd, hy, hbw])]
  refine .inl (hs a w hg _ _ fun x st' v w' hk hr hrel hx => ?_)
  exact wpList_mono (fun e a w h => h.later hx hg.rel.nodup) _ _ _ (h x st' hk _ _ (hg.put (dstIn_spec hd) hr hrel hx))
theorem PStep.k {V : AV} {K : AV → St → Prop} (h : PStep P N o env st V) (hk : K V st) : Step P N o env st K := fun a w hg next Q hn => h a w hg next Q fun x st' v w' ⟨h1, h2⟩ => hn x st' v w' (by rw [h1, h2]; exact hk)
theorem AL_gTp {ops : Array Oper} {rest : List Oper} {V : AV} {g d : Nat} {want b : Bool} (hgd : o.guard = some (g, want)) (hj : ((ops[g]?).bind (·.dst)) = some d) (hb : AEv env (.tmp d) (.bool b)) (hw : gd b want = true) (hd : dstIn N o.dst = true) (hs : PStep P N o env st V)
    (h : AL P N ops rest Q (putE o.dst V env) st) : AL P N ops (o :: rest) Q env st :=
  AL_gT hgd hj hb hw hd hs fun x st' ⟨h1, h2⟩ => by subst h1; subst h2; exact h
/-- A cell of a table. -/
theorem S_loadK {t : TypeId} {x : Operand} {b off : Nat} {vs : List Value} {u : Value} (ho : o.op = .load t x) (hx : AEv env x (.ptr b off)) (hst : (b, Ob.konst vs) ∈ st) (hc : vs[off]? = some u) (ht : flatT P t = true) : PStep P N o env st (.lit u) :=
  .of_val fun a w hg => by
    obtain ⟨d, hu, hd⟩ := flatT_spec ht
    have e := eval_ptr hx hg
    refine ⟨u, ?_, .lit _⟩
    simp [execOp, ho, e, Instr.loadAt, Instr.sureAddr, loadVar, run_isAgg' hu hd, (hg.rel.konst b vs hst).2 off u hc]
theorem S_gcall {f : FuncId} {xs : List Operand} {ts : Array TypeId} {args : List AV} {V : AV} (ho : o.op = .call { callee := .value (.func f), args := xs.toArray, argTypes := ts }) (hargs : AEvs env xs args) (hc : ACalls P f args st fun x st' => x = V ∧ st' = st) : PStep P N o env st V := S_call ho hargs hc
end
end Go.AL

namespace Go.AL
open Go.RowKit

inductive Buf where
  | nil
  | at (b cap : Nat)
def Buf.ok (q : Buf) (l : List UInt8) : Prop := match q with | .at _ cap => l.length ≤ cap ∧ 0 < cap | .nil => l = []
section
variable {P : Program} {N : Nat} {Q : Post} {env : Env} {st : St} {o : Oper} {w : World}

/-! The steps of strings.Builder -/
end
end Go.AL

namespace Go.AL
open Go.RowKit

def vec1C (cap : Nat) (xs : List AV) : List AV := xs ++ List.replicate (cap - xs.length) .any
abbrev vec1V (b cap : Nat) (xs : List AV) : AV := .lit (.slice (some ⟨b, 0, none⟩) xs.length cap)
theorem vec1C_at {cap i : Nat} {xs : List AV} {x : AV} (h : xs[i]? = some x) : (vec1C cap xs)[i]? = some x := by
  rw [vec1C, List.getElem?_append_left (List.getElem?_eq_some_iff.1 h).1]; exact h
section
variable {P : Program} {N : Nat} {Q : Post} {env : Env} {st : St} {o : Oper} {w : World}

theorem Conv.vec1 {st' : St} (h : Sub st' st) {b cap : Nat} {xs : List AV} (hq : xs.length ≤ cap) (hs : ∀ x, x ∈ xs → x.cells = [x]) (hm : (b, Ob.cells (vec1C cap xs)) ∈ st) (hn : ∀ o, (b, o) ∉ st') : Conv st st' (vec1V b cap xs) (.sl xs) := fun w v hr h1 => by
  cases h1
  obtain ⟨vs, T, g1, g2, g3⟩ := hr.cells b _ hm
  have hcell : ∀ (i : Nat) x (j : Nat) c, xs[i]? = some x → x.cells[j]? = some c → ∃ u, vs[i * 1 + j]? = some u ∧ R st w c u := fun i x j c hx hc => by
    rw [hs x (List.mem_of_getElem? hx)] at hc
    cases j with
    | succ j => simp at hc
    | zero =>
      simp at hc
      subst hc
      have h3 := vec1C_at (cap := cap) hx
      have hlt : i < vs.size := by rw [g2]; exact (List.getElem?_eq_some_iff.1 h3).1
      exact ⟨vs[i], by simp [hlt], g3 i _ _ h3 (by simp [hlt])⟩
  refine .sl xs b 0 cap 1 (fun k => (vs[k]?).getD undef) hq (fun i x hx => by rw [hs x (List.mem_of_getElem? hx)]; rfl) (fun i x j c hx hc => ?_) fun i x j c hx hc => ?_
  · obtain ⟨u, k1, k2⟩ := hcell i x j c hx hc
    exact ⟨by simp only [World.cell?, g1, Option.isSome_none, Bool.false_eq_true, if_false, Nat.zero_add, k1, Option.getD_some], fun ⟨o, ho, _⟩ => hn o ho⟩
  · obtain ⟨u, k1, k2⟩ := hcell i x j c hx hc
    rw [k1]
    exact k2.mono (Ext.dropS h) hr.nodup

/-! The first place of a byte -/
def idxV (s : List UInt8) (c : UInt8) : Int := if c ∈ s then ((s.takeWhile (fun x => x != c)).length : Int) else -1
theorem tw_lt {s : List UInt8} {c : UInt8} (h : c ∈ s) : (s.takeWhile (fun x => x != c)).length < s.length ∧ s[(s.takeWhile (fun x => x != c)).length]? = some c := by
  induction s with
  | nil => simp at h
  | cons x t ih =>
    by_cases hx : x = c
    · subst hx; simp
    · have hm : c ∈ t := by
        rcases List.mem_cons.1 h with e | e
        · exact absurd e.symm hx
        · exact e
      obtain ⟨h1, h2⟩ := ih hm
      have : (x :: t).takeWhile (fun y => y != c) = x :: t.takeWhile (fun y => y != c) := by rw [List.takeWhile_cons, if_pos (by simpa using hx)]
      rw [this]
      simp only [List.length_cons, List.getElem?_cons_succ]
      exact ⟨by omega, h2⟩
theorem tw_ne {s : List UInt8} {c : UInt8} {i : Nat} (h : i < (s.takeWhile (fun x => x != c)).length) : ∀ y, s[i]? = some y → y ≠ c := fun y hy => by
  have h1 : (s.takeWhile (fun x => x != c))[i]? = some y := by
    have hp : s.takeWhile (fun x => x != c) <+: s := List.takeWhile_prefix _
    obtain ⟨t, ht⟩ := hp
    rw [← ht, List.getElem?_append_left h] at hy
    exact hy
  have hm := List.mem_of_getElem? h1
  have := List.all_eq_true.1 List.all_takeWhile y hm
  simpa using this
theorem firstIdx_idx (s : List UInt8) (c : UInt8) : firstIdx ⟨s.toArray⟩ c = idxV s c := by
  have hget : ∀ i, i < s.length → ((⟨s.toArray⟩ : ByteArray)[i]! == c) = (s[i]! == c) := fun i hi => by
    rw [getElem!_pos (⟨s.toArray⟩ : ByteArray) i (by simpa [ByteArray.size] using hi), getElem!_pos s i hi]
    rfl
  unfold firstIdx idxV
  have hsz : (⟨s.toArray⟩ : ByteArray).size = s.length := by simp [ByteArray.size]
  rw [hsz]
  by_cases h : c ∈ s
  · rw [if_pos h]
    obtain ⟨h1, h2⟩ := tw_lt h
    have : (List.range s.length).find? (fun i => (⟨s.toArray⟩ : ByteArray)[i]! == c) = some (s.takeWhile (fun x => x != c)).length := by
      rw [List.find?_range_eq_some]
      refine ⟨?_, List.mem_range.2 h1, fun j hj => ?_⟩
      · rw [hget _ h1, List.getElem!_eq_getElem?_getD, h2]; simp
      · rw [hget _ (by omega)]
        have hjl : j < s.length := by omega
        have := tw_ne hj s[j] (List.getElem?_eq_getElem hjl)
        rw [List.getElem!_eq_getElem?_getD, List.getElem?_eq_getElem hjl]
        simpa using this
    rw [this]
  · rw [if_neg h]
    have : (List.range s.length).find? (fun i => (⟨s.toArray⟩ : ByteArray)[i]! == c) = none := by
      rw [List.find?_range_eq_none]
      intro j hj
      rw [hget _ hj, List.getElem!_eq_getElem?_getD, List.getElem?_eq_getElem hj]
      have : s[j] ≠ c := fun e => h (e ▸ List.getElem_mem hj)
      simpa using this
    rw [this]
theorem S_indexByte {f : FuncId} {fn : Func} {x y : Operand} {ts : Array TypeId} {s : List UInt8} {c : UInt8} (ho : o.op = .call { callee := .value (.func f), args := #[x, y], argTypes := ts }) (hx : AEv env x (.S s)) (hy : AEv env y (.int .u8 (c.toNat : Int))) (hf : P.funcs[f]? = some fn) (h1 : (fn.name == "runtime.NumGoroutine") = false) (h2 : fn.body.isNone = true) (h3 : Extern.findNext fn = none) (h4 : Extern.find fn = some Extern.BytealgIndexByte.indexByte) : PStep P N o env st (.int .i64 (idxV s c)) :=
  .of_val fun a w hg => by
    have e1 := (hx _ _ _ _ hg).lit_inv
    have e2 := (hy _ _ _ _ hg).lit_inv
    refine ⟨.int .i64 (idxV s c), ?_, .lit _⟩
    have hc : ((c.toNat : Int)).toNat.toUInt8 = c := by simp
    simp only [execOp, ho, resolve, Deferred.ofValue, Act.eval, invoke, Sem.run_bind, Sem.run_pure, Result.andThen_ok, List.map_toArray, List.map_cons, List.map_nil, run_callFunc_extern hf h1 h2 h3 h4]
    rw [← firstIdx_idx]
    have hr := run_indexByte_string (P := P) ⟨s.toArray⟩ (c.toNat : Int) w
    rw [hc] at hr
    unfold Act.eval at e1 e2
    simp only [e1, e2, hr, Result.andThen_ok, Array.append_empty, Array.empty_append]
end
end Go.AL

namespace Go.AL
open Go.RowKit Go.Extern Go.Stop

section
variable {P : Program} {N : Nat} {Q : Post} {env : Env} {st : St} {o : Oper} {w : World}

theorem ifc_inv {T : TypeId} {x : AV} {v : Value} (h : R st w (.ifc T x) v) : ∃ u, v = .iface T u ∧ R st w x u := by
  cases h with
  | ifc _ _ u h => exact ⟨u, rfl, h⟩

theorem S_ifc {T T2 : TypeId} {x : Operand} {y : AV} (ho : o.op = .makeInterface T x) (hx : AEv env x y) (hc : P.concrete T = true) : PStep P N o env st (.ifc T y) :=
  .of_val fun a w hg => ⟨.iface T (a.eval x), by simp only [execOp, ho, Sem.run_bind, run_makeInterface w T _ hc, Result.andThen_ok, Sem.run_pure], .ifc _ _ _ (hx _ _ _ _ hg)⟩
/-- Is it nil? -/
def ErrIs (y : AV) (b : Bool) : Prop := match b with | true => y = .nili | false => ∃ T z, y = .ifc T z
theorem S_eqlE {t t2 : TypeId} {x : Operand} {y : AV} {b : Bool} (he : ErrIs y b) (ho : o.op = .binOp .eql t x (.const .nilIface) t2) (hx : AEv env x y) (hi : P.isIface t = true) : PStep P N o env st (.bool b) :=
  .of_val fun a w hg => by
    have e2 : a.eval (.const .nilIface) = .nilIface := rfl
    cases b with
    | true =>
      have hy : y = .nili := he
      subst hy
      have e1 := (hx _ _ _ _ hg).lit_inv
      exact ⟨.bool true, by simp only [execOp, ho, e1, e2, eqGuard_nil_constR, Sem.run_bind, Sem.run_pure, Result.andThen_ok, run_eql_nil_nil_at w t hi], .lit _⟩
    | false =>
      obtain ⟨T, z, rfl⟩ := he
      obtain ⟨u, e1, _⟩ := ifc_inv (hx _ _ _ _ hg)
      exact ⟨.bool false, by simp only [execOp, ho, e1, e2, eqGuard_at_iface, Sem.run_bind, Sem.run_pure, run_eql_iface_nil w t hi T u, Result.andThen_ok], .lit _⟩
theorem S_neqE {t t2 : TypeId} {x : Operand} {y : AV} {b : Bool} (he : ErrIs y b) (ho : o.op = .binOp .neq t x (.const .nilIface) t2) (hx : AEv env x y) (hi : P.isIface t = true) : PStep P N o env st (.bool (!b)) :=
  .of_val fun a w hg => by
    have e2 : a.eval (.const .nilIface) = .nilIface := rfl
    cases b with
    | true =>
      have hy : y = .nili := he
      subst hy
      have e1 := (hx _ _ _ _ hg).lit_inv
      exact ⟨.bool false, by simp only [execOp, ho, e1, e2, eqGuard_nil_constR, Sem.run_bind, Sem.run_pure, Result.andThen_ok, run_neq_nil_nil_at w t hi], .lit _⟩
    | false =>
      obtain ⟨T, z, rfl⟩ := he
      obtain ⟨u, e1, _⟩ := ifc_inv (hx _ _ _ _ hg)
      exact ⟨.bool true, by simp only [execOp, ho, e1, e2, eqGuard_at_iface, Sem.run_bind, Sem.run_pure, run_neq_iface_nil w t hi T u, Result.andThen_ok], .lit _⟩
theorem S_assertNo {X t a : TypeId} {x : Operand} {T : TypeId} {y : AV} {want : Array (String × TypeId)} (ho : o.op = .typeAssert x t a true) (hx : AEv env x (.ifc T y)) (hu : P.underlying a = some (.interface want)) (h : (P.info? T).map (fun i => (lacking want i.methods).isEmpty) = some false) (hz : (P.info? a).map (·.zero) = some (some .nilIface)) :
    PStep P N o env st (.tup [.nili, .bool false]) :=
  .of_val fun c w hg => by
    obtain ⟨u, e1, _⟩ := ifc_inv (hx _ _ _ _ hg)
    refine ⟨.tuple #[.nilIface, .bool false], ?_, .tup _ _ rfl fun i c v hc hv => ?_⟩
    · simp only [execOp, ho, e1, Sem.run_bind, run_typeAssert_lacksB hu h hz u t w, Result.andThen_ok, Sem.run_pure]
    · match i with
      | 0 => simp at hc hv; subst hc; subst hv; exact .lit _
      | 1 => simp at hc hv; subst hc; subst hv; exact .lit _
      | i + 2 => simp at hc
theorem S_assertYes {t a : TypeId} {x : Operand} {T : TypeId} {y : AV} {want : Array (String × TypeId)} (ho : o.op = .typeAssert x t a true) (hx : AEv env x (.ifc T y)) (hu : P.underlying a = some (.interface want)) (h : (P.info? T).map (fun i => (lacking want i.methods).isEmpty) = some true) :
    PStep P N o env st (.tup [.ifc T y, .bool true]) :=
  .of_val fun c w hg => by
    obtain ⟨u, e1, hr⟩ := ifc_inv (hx _ _ _ _ hg)
    refine ⟨.tuple #[.iface T u, .bool true], ?_, .tup _ _ rfl fun i c v hc hv => ?_⟩
    · simp only [execOp, ho, e1, Sem.run_bind, run_typeAssert_hasB hu h u t w, Result.andThen_ok, Sem.run_pure]
    · match i with
      | 0 => simp at hc hv; subst hc; subst hv; exact .ifc _ _ _ hr
      | 1 => simp at hc hv; subst hc; subst hv; exact .lit _
      | i + 2 => simp at hc

/-- A function that has no text, but a meaning in the model. -/
def ExtOf (P : Program) (f : FuncId) (e : Array Value → Sem Value) : Prop := ∃ fn, P.funcs[f]? = some fn ∧ (fn.name == "runtime.NumGoroutine") = false ∧ fn.body.isNone = true ∧ Extern.findNext fn = none ∧ Extern.find fn = some e
theorem ExtOf.run {f : FuncId} {e : Array Value → Sem Value} (h : ExtOf P f e) (args : Array Value) (w : World) : (callFunc f args).run P w = ((e args).run P w).andThen fun v w' => .ok (.value v) w' := by
  obtain ⟨fn, h0, h1, h2, h3, h4⟩ := h
  exact run_callFunc_extern h0 h1 h2 h3 h4 args w

/-- A call of such a function. -/
theorem S_ext {f : FuncId} {e : Array Value → Sem Value} {xs : List Operand} {ts : Array TypeId} {args : List AV} {K : AV → St → Prop} (ho : o.op = .call { callee := .value (.func f), args := xs.toArray, argTypes := ts }) (hargs : AEvs env xs args) (hf : ExtOf P f e)
    (hrun : ∀ w (vs : List Value), Rel st w → vs.length = args.length → (∀ (i : Nat) x v, args[i]? = some x → vs[i]? = some v → R st w x v) → ∃ v w' x st', (e vs.toArray).run P w = .ok v w' ∧ K x st' ∧ R st' w' x v ∧ Rel st' w' ∧ Ext st w st' w') : Step P N o env st K := by
  intro a w hg next Q hn
  obtain ⟨hl, hr⟩ := hargs.at_ hg
  obtain ⟨v, w', x, st', h1, h2, h3, h4, h5⟩ := hrun w (xs.map a.eval) hg.rel (by simpa using hl) (fun i x v hx hv => by
    simp at hv
    obtain ⟨u, hu, rfl⟩ := hv
    exact hr i x u hx hu)
  have hexec : (execOp a.eval o).run P w = .ok (.value v) w' := by
    have : (execOp a.eval o).run P w = (callFunc f (xs.map a.eval).toArray).run P w := by
      simp [execOp, ho, resolve, Deferred.ofValue, Act.eval, invoke]
    rw [this, hf.run, h1]
    rfl
  unfold Oper.wp
  rw [hexec]
  exact hn x st' v w' h2 h3 h4 h5
/-- A method, through an interface value that is known. -/
theorem S_invL {f : FuncId} {T : TypeId} {u r : Value} {name : String} {e : Array Value → Sem Value} {x : Operand} {ys : List Operand} {ts : Array TypeId} {vals : List Value} {v : Value} (ho : o.op = .call { callee := .invoke x name, args := ys.toArray, argTypes := ts }) (hx : AEv env x (.lit (.iface T u))) (hargs : AEvs env ys (vals.map .lit))
    (hm : ∀ w, (Go.method (P.types.size + Made.depth) T u name).run P w = .ok (f, r) w) (hf : ExtOf P f e) (hrun : ∀ w, (e (r :: vals).toArray).run P w = .ok v w) : PStep P N o env st (.lit v) :=
  .of_val fun a w hg => by
    have e1 := (hx _ _ _ _ hg).lit_inv
    obtain ⟨hl, hr⟩ := hargs.at_ hg
    have e2 : ys.map a.eval = vals := by
      refine List.ext_getElem? fun i => ?_
      by_cases hi : i < vals.length
      · have h2 : i < ys.length := by simp at hl; omega
        have := (hr i (.lit vals[i]) ys[i] (by simp [hi]) (List.getElem?_eq_getElem h2)).lit_inv
        rw [List.getElem?_eq_getElem hi, List.getElem?_map, List.getElem?_eq_getElem h2, Option.map_some, this]
      · rw [List.getElem?_eq_none (by simp at hl ⊢; omega), List.getElem?_eq_none (by omega)]
    refine ⟨v, ?_, .lit _⟩
    have ht : List.take ys.length (ys.map a.eval) = ys.map a.eval := List.take_of_length_le (by simp)
    have h3 : (execOp a.eval o).run P w = (callMethod (a.eval x) name (ys.map a.eval).toArray).run P w := by
      simp [execOp, ho, resolve, invoke, ht]
    have h4 : (callMethod (.iface T u) name vals.toArray).run P w = (callFunc f (r :: vals).toArray).run P w := by
      unfold callMethod
      simp only [Sem.run_bind, run_program, Result.andThen_ok, hm]
      simp
    rw [h3, e1, e2, h4, hf.run, hrun]
    rfl
/-- A method with a contract, through an interface value. -/
theorem S_invC {f : FuncId} {T : TypeId} {X : AV} {name : String} {x : Operand} {ts : Array TypeId} {K : AV → St → Prop} (ho : o.op = .call { callee := .invoke x name, args := #[], argTypes := ts }) (hx : AEv env x (.ifc T X))
    (hm : ∀ u w, (Go.method (P.types.size + Made.depth) T u name).run P w = .ok (f, u) w) (hc : ACalls P f [X] st K) : Step P N o env st K := by
  intro a w hg next Q hn
  obtain ⟨u, e1, hr⟩ := ifc_inv (hx _ _ _ _ hg)
  have hrun : (execOp a.eval o).run P w = .ok (.enter f #[u]) w := by
    have h3 : (execOp a.eval o).run P w = (callMethod (a.eval x) name #[]).run P w := by
      simp [execOp, ho, resolve, invoke]
    have h4 : (callMethod (.iface T u) name #[]).run P w = (callFunc f #[u]).run P w := by
      unfold callMethod
      simp only [Sem.run_bind, run_program, Result.andThen_ok, hm]
      simp
    rw [h3, e1, h4, run_callFunc' hc.enters]
  unfold Oper.wp
  rw [hrun]
  refine (hc.calls w #[u] hg.rel rfl fun i y v hy hv => ?_).mono ?_
  · match i with
    | 0 => simp at hy hv; subst hy; subst hv; exact hr
    | i + 1 => simp at hy
  · rintro e w' ⟨r, x, st', rfl, k, h1, h2, h3⟩
    exact hn x st' r w' k h1 h2 h3

/-! reflectlite's values: a type's handle, a place, flags -/
abbrev rvAV (h : Value) (b : Nat) (fl : Value) : AV := .agg [.lit h, .ptr b 0, .lit fl]
theorem rv_inv {h fl : Value} {b : Nat} {v : Value} (hr : R st w (rvAV h b fl) v) : v = .agg #[h, .pointer (some ⟨b, 0, none⟩), fl] := by
  obtain ⟨vs, rfl, hl, hk⟩ := agg_inv hr
  simp at hl
  obtain ⟨a, b', c, rfl⟩ : ∃ a b c, vs = #[a, b, c] := by
    obtain ⟨l⟩ := vs
    match l, hl with
    | [a, b, c], _ => exact ⟨a, b, c, rfl⟩
  have h0 := (hk 0 _ a rfl rfl).lit_inv
  have h1 := (hk 1 _ b' rfl rfl).lit_inv
  have h2 := (hk 2 _ c rfl rfl).lit_inv
  rw [h0, h1, h2]
theorem rv_R {st : St} {w : World} {h fl : Value} {b : Nat} : R st w (rvAV h b fl) (.agg #[h, .pointer (some ⟨b, 0, none⟩), fl]) :=
  .agg _ _ rfl fun i c v hc hv => by
    match i with
    | 0 => simp at hc hv; subst hc; subst hv; exact .lit _
    | 1 => simp at hc hv; subst hc; subst hv; exact .lit _
    | 2 => simp at hc hv; subst hc; subst hv; exact .lit _
    | i + 3 => simp at hc
theorem one_arg {x : AV} {vs : List Value} (hl : vs.length = [x].length) (hr : ∀ (i : Nat) y v, [x][i]? = some y → vs[i]? = some v → R st w y v) : ∃ v, vs = [v] ∧ R st w x v := by
  match vs, hl with
  | [v], _ => exact ⟨v, rfl, hr 0 x v rfl rfl⟩
theorem two_args {x y : AV} {vs : List Value} (hl : vs.length = [x, y].length) (hr : ∀ (i : Nat) z v, [x, y][i]? = some z → vs[i]? = some v → R st w z v) : ∃ u v, vs = [u, v] ∧ R st w x u ∧ R st w y v := by
  match vs, hl with
  | [u, v], _ => exact ⟨u, v, rfl, hr 0 x u rfl rfl, hr 1 y v rfl rfl⟩
theorem S_valueOf {f : FuncId} {e : Array Value → Sem Value} {x : Operand} {ts : Array TypeId} {T : TypeId} {X : AV} {h fl : Value} (ho : o.op = .call { callee := .value (.func f), args := #[x], argTypes := ts }) (hx : AEv env x (.ifc T X)) (hf : ExtOf P f e)
    (hv : ∀ w u, R st w X u → (e #[.iface T u]).run P w = .ok (.agg #[h, .pointer (some ⟨w.heap.size, 0, none⟩), fl]) (w.alloc (.cells #[u] T))) : Step P N o env st fun z st' => ∃ b, z = rvAV h b fl ∧ st' = (b, .cells [X]) :: st :=
  S_ext (xs := [x]) ho (.cons hx .nil) hf fun w vs hrel hl hr => by
    obtain ⟨v, rfl, hv1⟩ := one_arg hl hr
    obtain ⟨u, rfl, hu⟩ := ifc_inv hv1
    obtain ⟨k1, k2⟩ := alloc_rel hrel (T := T) (ob := .cells [X]) (vs := #[u]) ⟨rfl, fun i c v hc hv => by
      match i with
      | 0 => simp at hc hv; subst hc; subst hv; exact hu
      | i + 1 => simp at hc⟩
    exact ⟨_, _, _, _, hv w u hu, ⟨w.heap.size, rfl, rfl⟩, rv_R, k1, k2⟩
theorem S_rvP {f : FuncId} {e : Array Value → Sem Value} {x : Operand} {ts : Array TypeId} {h fl r : Value} {a : Nat} (ho : o.op = .call { callee := .value (.func f), args := #[x], argTypes := ts }) (hx : AEv env x (rvAV h a fl)) (hf : ExtOf P f e)
    (hv : ∀ w, (e #[.agg #[h, .pointer (some ⟨a, 0, none⟩), fl]]).run P w = .ok r w) : PStep P N o env st (.lit r) :=
  S_ext (xs := [x]) ho (.cons hx .nil) hf fun w vs hrel hl hr => by
    obtain ⟨v, rfl, hv1⟩ := one_arg hl hr
    rw [rv_inv hv1]
    exact ⟨r, w, .lit r, st, hv w, ⟨rfl, rfl⟩, .lit _, hrel, .refl _ _⟩
theorem cell_of {a : Nat} {X : AV} (hrel : Rel st w) (hm : (a, Ob.cells [X]) ∈ st) : ∃ u, w.cell? ⟨a, 0, none⟩ = some u ∧ R st w X u ∧ w.frozen? ⟨a, 0, none⟩ = false := hrel.at_ hm (i := 0) rfl
theorem S_isNilV {f : FuncId} {e : Array Value → Sem Value} {x : Operand} {ts : Array TypeId} {h fl : Value} {a b : Nat} (ho : o.op = .call { callee := .value (.func f), args := #[x], argTypes := ts }) (hx : AEv env x (rvAV h a fl)) (hm : (a, Ob.cells [.ptr b 0]) ∈ st) (hf : ExtOf P f e)
    (hv : ∀ w, w.cell? ⟨a, 0, none⟩ = some (.pointer (some ⟨b, 0, none⟩)) → (e #[.agg #[h, .pointer (some ⟨a, 0, none⟩), fl]]).run P w = .ok (.bool false) w) : PStep P N o env st (.bool false) :=
  S_ext (xs := [x]) ho (.cons hx .nil) hf fun w vs hrel hl hr => by
    obtain ⟨v, rfl, hv1⟩ := one_arg hl hr
    rw [rv_inv hv1]
    obtain ⟨u, k1, k2, _⟩ := cell_of hrel hm
    rw [k2.lit_inv] at k1
    exact ⟨_, w, _, st, hv w k1, ⟨rfl, rfl⟩, .lit _, hrel, .refl _ _⟩
theorem S_elemV {f : FuncId} {e : Array Value → Sem Value} {x : Operand} {ts : Array TypeId} {h fl h' fl' : Value} {a b : Nat} (ho : o.op = .call { callee := .value (.func f), args := #[x], argTypes := ts }) (hx : AEv env x (rvAV h a fl)) (hm : (a, Ob.cells [.ptr b 0]) ∈ st) (hf : ExtOf P f e)
    (hv : ∀ w, w.cell? ⟨a, 0, none⟩ = some (.pointer (some ⟨b, 0, none⟩)) → (e #[.agg #[h, .pointer (some ⟨a, 0, none⟩), fl]]).run P w = .ok (.agg #[h', .pointer (some ⟨b, 0, none⟩), fl']) w) : PStep P N o env st (rvAV h' b fl') :=
  S_ext (xs := [x]) ho (.cons hx .nil) hf fun w vs hrel hl hr => by
    obtain ⟨v, rfl, hv1⟩ := one_arg hl hr
    rw [rv_inv hv1]
    obtain ⟨u, k1, k2, _⟩ := cell_of hrel hm
    rw [k2.lit_inv] at k1
    exact ⟨_, w, _, st, hv w k1, ⟨rfl, rfl⟩, rv_R, hrel, .refl _ _⟩
theorem S_setV {f : FuncId} {e : Array Value → Sem Value} {x y : Operand} {ts : Array TypeId} {h fl h' fl' : Value} {t b n : Nat} {X Y : AV} (ho : o.op = .call { callee := .value (.func f), args := #[x, y], argTypes := ts }) (hx : AEv env x (rvAV h t fl)) (hy : AEv env y (rvAV h' b fl')) (hst : st[n]? = some (t, .cells [Y])) (hm : (b, Ob.cells [X]) ∈ st) (hf : ExtOf P f e)
    (hv : ∀ w u old, R st w X u → w.cell? ⟨b, 0, none⟩ = some u → w.cell? ⟨t, 0, none⟩ = some old → w.frozen? ⟨t, 0, none⟩ = false → (e #[.agg #[h, .pointer (some ⟨t, 0, none⟩), fl], .agg #[h', .pointer (some ⟨b, 0, none⟩), fl']]).run P w = .ok (.tuple #[]) (w.setCell ⟨t, 0, none⟩ u)) :
    Step P N o env st fun z st' => z = .tup [] ∧ st' = st.set n (t, .cells [X]) :=
  S_ext (xs := [x, y]) ho (.cons hx (.cons hy .nil)) hf fun w vs hrel hl hr => by
    obtain ⟨v1, v2, rfl, hv1, hv2⟩ := two_args hl hr
    rw [rv_inv hv1, rv_inv hv2]
    obtain ⟨u, k1, k2, _⟩ := cell_of hrel hm
    obtain ⟨old, j1, j2, j3⟩ := cell_of hrel (mem_at hst)
    obtain ⟨vs, T, g1, g2, g3⟩ := hrel.cells t [Y] (mem_at hst)
    have hw := write_rel hrel (w' := w.setCell ⟨t, 0, none⟩ u) (cs' := [X]) (vs' := vs.setIfInBounds 0 u) (T := T) hst ⟨vs, g1, by simp⟩ (heap_setCell_same w t 0 vs T u g1)
      (fun b' hb' => heap_setCell_other w ⟨t, 0, none⟩ b' u hb') (by simp) rfl rfl rfl (by simpa using g2) (fun i d v hd hv => by
        match i with
        | 0 =>
          simp at hd
          subst hd
          have hs : 0 < vs.size := by rw [g2]; simp
          rw [Array.getElem?_setIfInBounds] at hv
          simp [hs] at hv
          subst hv
          exact k2
        | i + 1 => simp at hd)
    exact ⟨_, _, .tup [], _, hv w u old k2 k1 j1 j3, ⟨rfl, rfl⟩, .tup [] #[] rfl (fun i c v hc => by simp at hc), hw.1, hw.2⟩
end
end Go.AL

namespace Go.AL
open Go.RowKit

section
variable {P : Program}
/-- A call that leaves all that was there as it was. -/
theorem Ext.below {st : St} {w w' : World} (h : Below w.heap.size w w') : Ext st w st w' :=
  ⟨h.os, h.tape, h.output, fun b hb => by simp only [World.shape?, h.block b hb], h.size, fun b hb _ => h.block b hb, fun b e size n cap hb _ off _ => World.cell?_of_block (w := w) (h.block b hb), fun _ _ _ h => h, fun b vs hb _ => h.block b hb⟩
theorem Rel.below {st : St} {w w' : World} (hr : Rel st w) (h : Below w.heap.size w w') : Rel st w' := by
  refine ⟨hr.nodup, fun b cs hb => ?_, fun b e size n cap hb => ?_, fun b vs hb => (Ext.below h).konst_rel hr hb⟩
  · obtain ⟨vs, T, k1, k2, k3⟩ := hr.cells b cs hb
    exact ⟨vs, T, by rw [h.block b (key_lt hr hb)]; exact k1, k2, fun i c v hc hv => (k3 i c v hc hv).mono (Ext.below h) hr.nodup⟩
  · obtain ⟨vs, k1, k2⟩ := hr.grow b e size n cap hb
    exact ⟨vs, by rw [h.block b (key_lt hr hb)]; exact k1, k2⟩

theorem texts_map : ∀ ls : List (List UInt8), (ls.map fun l => (⟨l.toArray⟩ : ByteArray)).map (·.data.toList) = ls
  | [] => rfl
  | l :: ls => by simp only [List.map_cons, texts_map ls]

/-- strings.Join. -/
theorem PCalls_join {f : FuncId} (he : Enters P f)
    (hnone : ∀ (a : Option Addr) (c : Nat) (sep : ByteArray) (w : World), Calls P f #[.slice a 0 c, .string sep] w fun e w' => e = .returned (.string ⟨#[]⟩) ∧ w' = w)
    (hmany : ∀ (bk o c : Nat) (xs : List ByteArray) (sep : ByteArray) (w : World), (∀ (j : Nat) x, xs[j]? = some x → w.cell? ⟨bk, o + j, none⟩ = some (.string x)) → bk < w.heap.size → xs.length ≤ 140737488355328 → xs.length ≤ c → (Lib.join (xs.map (·.data.toList)) sep.data.toList).length ≤ 140737488355328 →
      Calls P f #[.slice (some ⟨bk, o, none⟩) xs.length c, .string sep] w fun e w' => e = .returned (.string ⟨(Lib.join (xs.map (·.data.toList)) sep.data.toList).toArray⟩) ∧ Below w.heap.size w w')
    (ls : List (List UInt8)) (sep : List UInt8) (hN : ls.length ≤ 140737488355328) (hlen : (Lib.join ls sep).length ≤ 140737488355328) : PCalls P f [.sl (ls.map fun l => .S l), .S sep] (.S (Lib.join ls sep)) := fun st => by
  refine ⟨he, fun w vs hrel hs hr => ?_⟩
  obtain ⟨v0, v1, rfl⟩ : ∃ v0 v1, vs = #[v0, v1] := by
    obtain ⟨l⟩ := vs
    match l, hs with
    | [a, b], _ => exact ⟨a, b, rfl⟩
  have r0 := hr 0 _ v0 rfl rfl
  have r1 := (hr 1 _ v1 rfl rfl).lit_inv
  subst r1
  obtain ⟨A, cap, rfl, hne⟩ := sl_inv r0
  simp only [List.length_map]
  by_cases h0 : ls = []
  · subst h0
    refine (hnone A cap ⟨sep.toArray⟩ w).mono fun e w' ⟨he, hw⟩ => ⟨_, .S [], st, ?_, ⟨rfl, rfl⟩, .lit _, ?_, ?_⟩
    · rw [he]
    · rw [hw]; exact hrel
    · rw [hw]; exact .refl _ _
  · obtain ⟨b, off, size, f', rfl, hcap, hsz, hc, hrr⟩ := hne (by simpa using h0)
    have hlen0 : 0 < ls.length := List.length_pos_iff.2 h0
    have hs1 : size = 1 := by
      have := hsz 0 (.S ls[0]) (by simp [hlen0])
      simpa [AV.cells] using this.symm
    subst hs1
    have hcell : ∀ (j : Nat) l, ls[j]? = some l → w.cell? ⟨b, off + j, none⟩ = some (.string ⟨l.toArray⟩) := fun j l hj => by
      have hm : (ls.map fun l => AV.S l)[j]? = some (.S l) := by rw [List.getElem?_map, hj]; rfl
      have h1 := (hc j _ 0 (.S l) hm (by simp [AV.cells])).1
      have h2 := (hrr j _ 0 (.S l) hm (by simp [AV.cells])).lit_inv
      rw [h2] at h1
      simpa using h1
    have hb : b < w.heap.size := cell_lt (hcell 0 ls[0] (by simp [hlen0]))
    have hmap := texts_map ls
    have hm := hmany b off cap (ls.map fun l => (⟨l.toArray⟩ : ByteArray)) ⟨sep.toArray⟩ w (fun j x hx => by
      rw [List.getElem?_map, Option.map_eq_some_iff] at hx
      obtain ⟨l, hl, rfl⟩ := hx
      exact hcell j l hl) hb (by simpa using hN) (by simpa using hcap) (by rw [hmap]; exact hlen)
    rw [hmap, List.length_map] at hm
    exact hm.mono fun e w' ⟨he, hw⟩ => ⟨_, _, st, he, ⟨rfl, rfl⟩, .lit _, hrel.below hw, .below hw⟩
end
end Go.AL

namespace Go.NumSpec

def lo : Int := -9223372036854775808
def hi : Int := 9223372036854775807
/-- It fits an int. -/
def fits (a : Int) : Prop := -9223372036854775808 ≤ a ∧ a ≤ 9223372036854775807
instance (a : Int) : Decidable (fits a) := by unfold fits; infer_instance

/-! ### Numbers as bytes -/
def putL (n : Nat) : List UInt8 := if n < 128 then [UInt8.ofNat n] else UInt8.ofNat (n % 128 + 128) :: putL (n / 128)
termination_by n
decreasing_by omega

/-- The bytes of a number: all but the last have their highest bit. -/
structure Form (l : List UInt8) (c : UInt8) : Prop where
  more : ∀ x ∈ l, 128 ≤ x.toNat
  last : c.toNat < 128
  least : l = [] ∨ c.toNat ≠ 0

/-- The bytes ahead of the first one without the highest bit. -/
def lead (s : List UInt8) : List UInt8 := s.takeWhile fun c => decide (128 ≤ c.toNat)

/-! ### Numbers as digits -/
def digL (n : Nat) : List UInt8 := if n < 10 then [UInt8.ofNat (48 + n)] else digL (n / 10) ++ [UInt8.ofNat (48 + n % 10)]
termination_by n
decreasing_by omega
def textL (a : Int) : List UInt8 := if a < 0 then 45 :: digL a.natAbs else digL a.natAbs

def isDig (c : UInt8) : Prop := 48 ≤ c.toNat ∧ c.toNat ≤ 57
instance (c : UInt8) : Decidable (isDig c) := by unfold isDig; infer_instance

theorem digL_ne (n : Nat) : digL n ≠ [] := by rw [digL]; split <;> simp
theorem digL_len (n k : Nat) (h : n < 10 ^ (k + 1)) : (digL n).length ≤ k + 1 := by
  induction k generalizing n with
  | zero => rw [digL, if_pos (by simpa using h)]; simp
  | succ k ih =>
    rw [digL]
    split
    · simp
    · have := ih (n / 10) (by rw [Nat.div_lt_iff_lt_mul (by omega)]; rw [Nat.pow_succ] at h; exact h)
      simp; omega
theorem digL_20 {n : Nat} (h : n < 18446744073709551616) : (digL n).length ≤ 20 := by
  refine digL_len n 19 ?_
  have : (10 : Nat) ^ (19 + 1) = 100000000000000000000 := by decide
  omega
theorem digL_19 {n : Nat} (h : n ≤ 9223372036854775808) : (digL n).length ≤ 19 := by
  refine digL_len n 18 ?_
  have : (10 : Nat) ^ (18 + 1) = 10000000000000000000 := by decide
  omega
theorem textL_len {a : Int} (h : fits a) : (textL a).length ≤ 20 := by
  unfold fits at h
  have : (digL a.natAbs).length ≤ 19 := digL_len _ 18 (by have : (10 : Nat) ^ 19 = 10000000000000000000 := by decide
                                                          omega)
  unfold textL
  split <;> simp <;> omega
end Go.NumSpec

namespace Go.AL
open Go.NumSpec

theorem u64w (n : Int) : IntKind.u64.wrap n = n % 18446744073709551616 := by simp [IntKind.wrap, IntKind.bits, IntKind.signed]
/-! The bytes of a number, in an array of ten -/
structure PutInv (n : Nat) (g : Nat × List UInt8) : Prop where
  eq : g.2 ++ putL g.1 = putL n
  lt : g.1 * 128 ^ g.2.length < 18446744073709551616
  le : g.2.length ≤ 9
/-! The digits of a number, in an array of twenty, from behind -/
def padR (l : List UInt8) : List AV := List.replicate (20 - l.length) (.int .u8 0) ++ l.map fun c => AV.int .u8 c.toNat
structure DigInv (n : Nat) (g : Nat × List UInt8) : Prop where
  eq : digL g.1 ++ g.2 = digL n
  lt : g.1 < 18446744073709551616
  len : (digL n).length ≤ 20
theorem dig_le {n m : Nat} {l : List UInt8} (h : DigInv n (m, l)) : l.length ≤ 19 := by
  have h1 := congrArg List.length h.eq
  have h2 := h.len
  have h3 := List.length_pos_iff.2 (digL_ne m)
  simp at h1
  omega
theorem dig_end {n m : Nat} {l : List UInt8} (h : DigInv n (m, l)) (hm : m / 10 = 0) : UInt8.ofNat (48 + m % 10) :: l = digL n := by
  rw [← h.eq]
  rw [digL, if_pos (by omega), show m % 10 = m by omega]
  rfl
theorem dig_next {n m : Nat} {l : List UInt8} (h : DigInv n (m, l)) (hm : m / 10 ≠ 0) : DigInv n (m / 10, UInt8.ofNat (48 + m % 10) :: l) := by
  have h2 := h.lt
  dsimp only at h2
  refine ⟨?_, by dsimp only; omega, h.len⟩
  rw [← h.eq]
  conv => rhs; rw [digL, if_neg (by omega)]
  simp
theorem padR_set {l : List UInt8} {c : UInt8} {i j : Int} (hj : j = ((20 - l.length : Nat) : Int) - 1) (hi : i = c.toNat) (h : l.length ≤ 19) : (padR l).set (0 + j.toNat * 1) (.int .u8 i) = padR (c :: l) := by
  subst hi
  have e1 : 0 + j.toNat * 1 = 19 - l.length := by omega
  unfold padR
  rw [e1, List.set_append_left _ _ (by simp; omega)]
  have e2 : List.replicate (20 - l.length) (AV.int .u8 0) = List.replicate (19 - l.length) (.int .u8 0) ++ [.int .u8 0] := by
    rw [show 20 - l.length = (19 - l.length) + 1 by omega, List.replicate_succ']
  rw [e2, List.set_append_right _ _ (by simp)]
  simp
theorem padR_len {l : List UInt8} (h : l.length ≤ 20) : (padR l).length = 20 := by simp [padR]; omega
theorem padR_drop {l : List UInt8} (h : l.length ≤ 20) : ((padR l).drop (0 + (20 - l.length) * 1)).take l.length = l.map fun c => AV.int .u8 c.toNat := by
  unfold padR
  rw [List.drop_append_of_le_length (by simp)]
  simp
  rw [List.take_of_length_le (by simp)]

/-! Taking a number's bytes -/
/-! Parsing -/
/-- What a parse has come to behind k letters. -/
structure ParseInv (l : List UInt8) (k : Nat) : Prop where
  le : k ≤ l.length
  dig : ∀ j, j < k → isDig (l.getD j 0)
theorem ParseInv.next {l : List UInt8} {k : Nat} (h : ParseInv l k) (hk : k < l.length) (hc : isDig (l.getD k 0)) : ParseInv l (k + 1) :=
  ⟨hk, fun j hj => by
    rcases Nat.lt_or_ge j k with h1 | h1
    · exact h.dig j h1
    · rw [show j = k by omega]; exact hc⟩
theorem ParseInv.all {l : List UInt8} {k : Nat} (h : ParseInv l k) (hk : ¬ k < l.length) : ∀ c ∈ l, isDig c := fun c hc => by
  obtain ⟨j, hj, rfl⟩ := List.getElem_of_mem hc
  have := h.dig j (by have := h.le; omega)
  simpa [hj] using this
/-! The reference's text: digits from behind -/
structure TextInv (n : Nat) (g : Nat × List UInt8) : Prop where
  few : (digL n).length ≤ 19
  low : g.2.length ≤ 19
  lt : g.1 < 18446744073709551616
  is : (g.2 = [] ∧ g.1 = n) ∨ (g.2 ≠ [] ∧ g.1 = 0 ∧ g.2 = digL n) ∨ (g.2 ≠ [] ∧ g.1 ≠ 0 ∧ digL g.1 ++ g.2 = digL n)
/-! What came in -/
theorem nat_of_u64 {a : Int} (h : (Lit.int .u64 a).wf = true) : ∃ n : Nat, a = (n : Int) ∧ n < 18446744073709551616 := by
  simp [Lit.wf, IntKind.min, IntKind.max, IntKind.signed, IntKind.bits] at h
  exact ⟨a.toNat, by omega, by omega⟩
theorem fits_of_i64 {a : Int} (h : (Lit.int .i64 a).wf = true) : fits a := by
  simp [Lit.wf, IntKind.min, IntKind.max, IntKind.signed, IntKind.bits] at h
  unfold fits
  omega
end Go.AL

namespace Go.AL
open Go.NumSpec Go.RowKit

def marksI : List Int := [0,0,0,0,0,0,0,0,0,0,0,0,0,7,6,0,0,0,0,0,0,0,0,0,0,0,0,0,0,0,0,0,0,0,0,0,0,0,0,0,0,0,0,0,0,0,0,0,0,0,0,0,0,0,0,0,0,0,0,0,0,0,0,4]
def marksV : List Value := marksI.map fun n => .int .i64 n
def ofV (c : UInt8) : Int := if (97 ≤ c.toNat ∧ c.toNat ≤ 122) ∨ (48 ≤ c.toNat ∧ c.toNat ≤ 57) then 7 else if 65 ≤ c.toNat ∧ c.toNat ≤ 90 then 4 else if 32 ≤ c.toNat ∧ c.toNat - 32 < 64 then marksI.getD (c.toNat - 32) 0 else 0
def smallB (c : UInt8) : Bool := decide ((97 ≤ c.toNat ∧ c.toNat ≤ 122) ∨ (48 ≤ c.toNat ∧ c.toNat ≤ 57))
def inC (w : Int) (c : UInt8) : Bool := if w = 1 then smallB c || decide (c.toNat = 45) else if w = 2 then smallB c || decide (c.toNat = 45) || decide (c.toNat = 46) else smallB c || decide (65 ≤ c.toNat ∧ c.toNat ≤ 90) || decide (c.toNat = 45) || decide (c.toNat = 46) || decide (c.toNat = 95)
theorem of_bits_all : ((List.range 256).all fun n => ([1, 2, 4].all fun w => decide (bits .and .i64 (ofV (UInt8.ofNat n)) w = 0) == !inC w (UInt8.ofNat n))) = true := by decide +kernel
theorem of_bits (c : UInt8) {w : Int} (hw : w = 1 ∨ w = 2 ∨ w = 4) : decide (bits .and .i64 (ofV c) w = 0) = !inC w c := by
  have h := List.all_eq_true.1 of_bits_all c.toNat (List.mem_range.2 c.toNat_lt)
  have h2 := List.all_eq_true.1 h w (by rcases hw with rfl | rfl | rfl <;> simp)
  simp only [UInt8.ofNat_toNat, beq_iff_eq] at h2
  exact h2
theorem atL_get {l : List UInt8} {i : Nat} (h : i < l.length) : atL l (i : Int) = ((l[i]'h).toNat : Int) := by simp [atL, h]
def nameV (s : List UInt8) : Bool := (((!decide (s = []) && decide ((s.length : Int) ≤ 16)) && s.all (inC 1)) && !decide (atL s 0 = 45)) && !decide (atL s ((s.length : Int) - 1) = 45)
def cutV (c : UInt8) (s : List UInt8) : List UInt8 × List UInt8 × Bool := if c ∈ s then (s.takeWhile (fun x => x != c), s.drop ((s.takeWhile (fun x => x != c)).length + 1), true) else (s, [], false)
def namesR : Nat → List UInt8 → Bool
  | 0, _ => false
  | k + 1, s => if nameV (cutV 47 s).1 = true then (if (cutV 47 s).2.2 = true then namesR k (cutV 47 s).2.1 else true) else false
def repoV (s : List UInt8) : Bool := decide ((s.length : Int) ≤ 24) && namesR 24 s
def tagV (s : List UInt8) : Bool := (!decide (s = []) && decide ((s.length : Int) ≤ 8)) && s.all (inC 2)
def tparts (s : List UInt8) : List UInt8 × List UInt8 × Bool := if (cutV 58 s).2.2 = true ∧ repoV (cutV 58 s).1 = true ∧ tagV (cutV 58 s).2.1 = true then ((cutV 58 s).1, (cutV 58 s).2.1, true) else ([], [], false)
def valV (s : List UInt8) : Bool := decide ((s.length : Int) ≤ 16) && s.all (inC 4)
def strsV (l : List (List UInt8)) : List AV := l.map fun s => .S s
/-- What stands between the bytes c. -/
def partsB (c : UInt8) : List UInt8 → List (List UInt8)
  | [] => [[]]
  | x :: t => if x = c then [] :: partsB c t else match partsB c t with
    | [] => [[x]]
    | p :: ps => (x :: p) :: ps
theorem partsB_ne (c : UInt8) (s : List UInt8) : partsB c s ≠ [] := by
  cases s with
  | nil => simp [partsB]
  | cons x t =>
    unfold partsB
    split
    · simp
    · split <;> simp
theorem partsB_cons {c x : UInt8} {t : List UInt8} (h : x ≠ c) : partsB c (x :: t) = (x :: (partsB c t).headD []) :: (partsB c t).tail := by
  rw [partsB, if_neg h]
  cases hp : partsB c t with
  | nil => exact absurd hp (partsB_ne c t)
  | cons p ps => rfl
theorem partsB_cut (c : UInt8) (s : List UInt8) : partsB c s = if (cutV c s).2.2 = true then (cutV c s).1 :: partsB c (cutV c s).2.1 else [s] := by
  induction s with
  | nil => simp [cutV, partsB]
  | cons x t ih =>
    by_cases hx : x = c
    · subst hx; simp [cutV, partsB]
    · rw [partsB_cons hx, ih]
      have htw : (x :: t).takeWhile (fun y => y != c) = x :: t.takeWhile (fun y => y != c) := by rw [List.takeWhile_cons, if_pos (by simpa using hx)]
      by_cases hc : c ∈ t
      · have : c ∈ x :: t := List.mem_cons_of_mem _ hc
        simp [cutV, hc, this, htw]
      · have : c ∉ x :: t := fun h => by
          rcases List.mem_cons.1 h with e | e
          · exact hx e.symm
          · exact hc e
        simp [cutV, hc, this]
theorem cutV_len {c : UInt8} {s : List UInt8} (h : (cutV c s).2.2 = true) : s.length = (cutV c s).1.length + 1 + (cutV c s).2.1.length := by
  unfold cutV at h ⊢
  split at h
  · rename_i hc
    have := (tw_lt hc).1
    rw [if_pos hc]
    simp; omega
  · cases h
theorem cutV_no {c : UInt8} {s : List UInt8} (h : (cutV c s).2.2 = false) : (cutV c s).1 = s := by
  unfold cutV at h ⊢
  split at h
  · cases h
  · rename_i hc; rw [if_neg hc]
theorem namesR_parts (k : Nat) (s : List UInt8) : namesR k s = (decide ((partsB 47 s).length ≤ k) && (partsB 47 s).all nameV) := by
  induction k generalizing s with
  | zero =>
    have := List.length_pos_iff.2 (partsB_ne 47 s)
    rw [namesR, show decide ((partsB 47 s).length ≤ 0) = false by simp; exact partsB_ne 47 s]; rfl
  | succ k ih =>
    rw [namesR, partsB_cut 47 s]
    cases hc : (cutV 47 s).2.2 with
    | true =>
      rw [if_pos rfl, if_pos rfl, ih]
      cases hn : nameV (cutV 47 s).1 <;> simp [hn]
    | false =>
      rw [cutV_no hc]
      cases hn : nameV s <;> simp [hn]
theorem parts_sum (c : UInt8) (s : List UInt8) : ((partsB c s).map fun p => p.length + 1).sum = s.length + 1 := by
  induction s with
  | nil => simp [partsB]
  | cons x t ih =>
    by_cases hx : x = c
    · subst hx
      rw [partsB, if_pos rfl]
      simp [ih]; omega
    · rw [partsB_cons hx]
      cases hp : partsB c t with
      | nil => exact absurd hp (partsB_ne c t)
      | cons p ps =>
        rw [hp] at ih
        simp at ih ⊢
        omega
theorem nameV_len {s : List UInt8} (h : nameV s = true) : 1 ≤ s.length ∧ s.length ≤ 16 := by
  unfold nameV at h
  simp only [Bool.and_eq_true, Bool.not_eq_true', decide_eq_true_eq, decide_eq_false_iff_not] at h
  obtain ⟨⟨⟨⟨h1, h2⟩, _⟩, _⟩, _⟩ := h
  exact ⟨List.length_pos_iff.2 h1, by omega⟩
theorem sum_names {l : List (List UInt8)} (h : l.all nameV = true) : 2 * l.length ≤ (l.map fun p => p.length + 1).sum ∧ (l.map fun p => p.length + 1).sum ≤ 17 * l.length := by
  induction l with
  | nil => simp
  | cons p ps ih =>
    simp only [List.all_cons, Bool.and_eq_true] at h
    have := nameV_len h.1
    have := ih h.2
    simp
    omega
theorem parts_names {s : List UInt8} (h : (partsB 47 s).all nameV = true) : 2 * (partsB 47 s).length ≤ s.length + 1 ∧ s.length + 1 ≤ 17 * (partsB 47 s).length := by
  have := sum_names h
  rw [parts_sum] at this
  exact this
theorem repo_eq (s : List UInt8) : repoV s = (decide ((s.length : Int) ≤ 24) && (partsB 47 s).all nameV) := by
  unfold repoV
  rw [namesR_parts]
  cases h : (partsB 47 s).all nameV with
  | false => simp
  | true =>
    have := parts_names h
    by_cases h2 : (s.length : Int) ≤ 24
    · simp only [Bool.and_true]
      rw [show decide ((partsB 47 s).length ≤ 24) = true by simp; omega]; simp
    · rw [show decide ((s.length : Int) ≤ 24) = false by simpa using h2]; simp
theorem tparts_no {s : List UInt8} (h : ¬ ((cutV 58 s).2.2 = true ∧ repoV (cutV 58 s).1 = true ∧ tagV (cutV 58 s).2.1 = true)) : tparts s = ([], [], false) := by
  unfold tparts; rw [if_neg h]
theorem marks_at {i : Nat} (h : i < 64) : marksV[i]? = some (.int .i64 (marksI.getD i 0)) := by
  have hl : marksI.length = 64 := by decide
  rw [marksV, List.getElem?_map, List.getElem?_eq_getElem (by omega)]
  simp [hl, h]
theorem tw_take (c : UInt8) (s : List UInt8) : s.take (s.takeWhile (fun x => x != c)).length = s.takeWhile (fun x => x != c) := by
  obtain ⟨t, ht⟩ := List.takeWhile_prefix (fun x => x != c) (l := s)
  conv => lhs; arg 2; rw [← ht]
  simp
theorem all_take_succ {s : List UInt8} {i : Nat} {p : UInt8 → Bool} (h : i < s.length) : (s.take (i + 1)).all p = ((s.take i).all p && p s[i]) := by
  rw [List.take_succ_eq_append_getElem h, List.all_append]; simp
theorem cutV_le (c : UInt8) (s : List UInt8) : (cutV c s).1.length ≤ s.length := by
  unfold cutV
  split
  · exact (List.takeWhile_prefix _).length_le
  · exact Nat.le_refl _
theorem cutV_le2 (c : UInt8) (s : List UInt8) : (cutV c s).2.1.length ≤ s.length := by
  unfold cutV
  split <;> simp
def saysV (b : Bool) (c : Int) : Int := if b = true then 0 else c
def sameV (a b : List UInt8) : Bool := ((tparts a).2.2 && (tparts b).2.2) && decide ((tparts a).1 = (tparts b).1)
section
variable {P : Program} {N : Nat} {env : Env} {st : St} {o : Oper}
theorem PStep.ofV {V V' : AV} (h : PStep P N o env st V) (e : V = V') : PStep P N o env st V' := e ▸ h
end
theorem strsV_len (l : List (List UInt8)) : (strsV l).length = l.length := by simp [strsV]
/-! The laws -/
theorem tw_append {c : UInt8} {a b : List UInt8} (h : c ∉ a) : (a ++ c :: b).takeWhile (fun x => x != c) = a := by
  induction a with
  | nil => simp
  | cons x t ih =>
    have hx : x ≠ c := fun e => h (e ▸ List.mem_cons_self)
    rw [List.cons_append, List.takeWhile_cons, if_pos (by simpa using hx), ih fun hm => h (List.mem_cons_of_mem _ hm)]
theorem cutV_sep {c : UInt8} {a b : List UInt8} (h : c ∉ a) : cutV c (a ++ c :: b) = (a, b, true) := by
  unfold cutV
  rw [if_pos (by simp), tw_append h]
  simp
theorem cutV_join {c : UInt8} {s : List UInt8} (h : (cutV c s).2.2 = true) : (cutV c s).1 ++ c :: (cutV c s).2.1 = s := by
  unfold cutV at h ⊢
  split at h
  · rename_i hc
    rw [if_pos hc]
    obtain ⟨h1, h2⟩ := tw_lt hc
    dsimp only
    have h3 : s.drop (s.takeWhile (fun x => x != c)).length = c :: s.drop ((s.takeWhile (fun x => x != c)).length + 1) := by
      rw [List.drop_eq_getElem_cons h1]
      congr 1
      rw [List.getElem?_eq_getElem h1] at h2
      exact Option.some.inj h2
    have h4 := List.take_append_drop (s.takeWhile (fun x => x != c)).length s
    rw [tw_take, h3] at h4
    exact h4
  · cases h
theorem name_inC {s : List UInt8} (h : nameV s = true) : s.all (inC 1) = true := by
  unfold nameV at h
  simp only [Bool.and_eq_true] at h
  exact h.1.1.2
theorem not_mem_of {p : UInt8 → Bool} {s : List UInt8} {c : UInt8} (h : s.all p = true) (hc : p c = false) : c ∉ s := fun hm => by
  have := List.all_eq_true.1 h c hm
  rw [hc] at this; cases this
theorem name_no58 {s : List UInt8} (h : nameV s = true) : (58 : UInt8) ∉ s := not_mem_of (name_inC h) (by decide)
theorem repo_no58 {s : List UInt8} (h : repoV s = true) : (58 : UInt8) ∉ s := by
  rw [repo_eq] at h
  simp only [Bool.and_eq_true] at h
  have key : ∀ n, ∀ s : List UInt8, s.length ≤ n → (partsB 47 s).all nameV = true → (58 : UInt8) ∉ s := fun n => by
    induction n with
    | zero => intro s hs _; have : s = [] := List.eq_nil_of_length_eq_zero (by omega); subst this; simp
    | succ n ih =>
      intro s hs hall
      cases hc : (cutV 47 s).2.2 with
      | false =>
        rw [partsB_cut, hc, if_neg (by simp)] at hall
        exact name_no58 (by simpa using hall)
      | true =>
        rw [partsB_cut, hc, if_pos rfl] at hall
        simp only [List.all_cons, Bool.and_eq_true] at hall
        have hl := cutV_len hc
        have h2 := ih _ (by omega) hall.2
        have hj := cutV_join hc
        rw [← hj]
        simp only [List.mem_append, List.mem_cons, not_or]
        exact ⟨name_no58 hall.1, by decide, h2⟩
  exact key _ s (Nat.le_refl _) h.2
theorem sameV_comm (a b : List UInt8) : sameV a b = sameV b a := by
  unfold sameV
  rw [Bool.and_comm (tparts a).2.2]
  congr 1
  exact decide_eq_decide.2 eq_comm
theorem says_zero {b : Bool} {c : Int} (hc : c ≠ 0) : saysV b c = 0 ↔ b = true := by
  unfold saysV
  cases b
  · simp [hc]
  · simp
/-! The chapter's examples -/
end Go.AL

namespace Go.AL
open Go.RowKit Go.NumSpec Go.Stop

/-- A code (type C), under steps (type S). -/
def chainV (C S : TypeId) (c : Int) : List (List UInt8) → AV
  | [] => .ifc C (.int .i64 c)
  | p :: ps => .ifc S (.ip [.S p, chainV C S c ps])
abbrev Er := Option (Int × List (List UInt8))
def erV (C S : TypeId) : Er → AV
  | none => .nili
  | some (c, ps) => chainV C S c ps
def erNew (c : Int) (ps : List (List UInt8)) : Er := if c = 0 then none else some (c, ps)
def erIn (e : Er) (p : List UInt8) : Er := e.map fun x => (x.1, p :: x.2)
def erCode (e : Er) : Int := match e with | none => 0 | some (c, _) => c
def erPath (e : Er) : List (List UInt8) := match e with | none => [] | some (_, ps) => ps
theorem chain_ifc (C S : TypeId) (c : Int) (ps : List (List UInt8)) : ∃ T z, chainV C S c ps = .ifc T z := by cases ps <;> exact ⟨_, _, rfl⟩
theorem er_is (C S : TypeId) (e : Er) : ErrIs (erV C S e) e.isNone := by
  cases e with
  | none => rfl
  | some x => exact chain_ifc C S x.1 x.2
theorem chain_is (C S : TypeId) (c : Int) (ps : List (List UInt8)) : ErrIs (chainV C S c ps) false := chain_ifc C S c ps
def typV (C S : TypeId) (ps : List (List UInt8)) : TypeId := match ps with | [] => C | _ => S
theorem erNew_none {c : Int} {ps : List (List UInt8)} (h : c = 0) : erNew c ps = none := by rw [erNew, if_pos h]
theorem erNew_some {c : Int} {ps : List (List UInt8)} (h : c ≠ 0) : erNew c ps = some (c, ps) := by rw [erNew, if_neg h]
theorem ifc_is (T : TypeId) (x : AV) : ErrIs (.ifc T x) false := ⟨T, x, rfl⟩
theorem chain_cells (C S : TypeId) (c : Int) (ps : List (List UInt8)) : (chainV C S c ps).cells = [chainV C S c ps] := by cases ps <;> rfl
theorem er_cells (C S : TypeId) (e : Er) : (erV C S e).cells = [erV C S e] := by
  cases e with
  | none => rfl
  | some x => exact chain_cells C S x.1 x.2
theorem er_flat (C S : TypeId) (e : Er) : (erV C S e).flat = true := by
  cases e with
  | none => rfl
  | some x => obtain ⟨c, ps⟩ := x; cases ps <;> rfl
def firstE : List Er → Er
  | [] => none
  | e :: es => match e with | some x => some x | none => firstE es
theorem first_none {es : List Er} {i : Nat} (h : i < es.length) (he : es[i] = none) : firstE (es.drop i) = firstE (es.drop (i + 1)) := by
  rw [List.drop_eq_getElem_cons h, he]; rfl
theorem first_some {es : List Er} {i : Nat} (h : i < es.length) {x : Int × List (List UInt8)} (he : es[i] = some x) : firstE (es.drop i) = some x := by
  rw [List.drop_eq_getElem_cons h, he]; rfl
def ersV (C S : TypeId) (es : List Er) : List AV := es.map (erV C S)

def stepV (C S : TypeId) (e : Er) (Y : AV) : AV := match e with | some (c, p :: ps) => .ip [.S p, chainV C S c ps] | _ => Y
def stepB (e : Er) : Bool := match e with | some (_, _ :: _) => true | _ => false
def intsV (l : List Int) : List AV := l.map fun n => .int .i64 n
section
variable {P : Program} {N : Nat} {Q : Post} {env : Env} {st : St} {o : Oper} {w : World}
/-- reflectlite.TypeOf at an interface value whose type is known. -/
theorem S_typeOf {f : FuncId} {e : Array Value → Sem Value} {x : Operand} {ts : Array TypeId} {T : TypeId} {X : AV} {r : Value} (ho : o.op = .call { callee := .value (.func f), args := #[x], argTypes := ts }) (hx : AEv env x (.ifc T X)) (hf : ExtOf P f e)
    (hv : ∀ u w, (e #[.iface T u]).run P w = .ok r w) : PStep P N o env st (.lit r) :=
  S_ext (xs := [x]) ho (.cons hx .nil) hf fun w vs hrel hl hr => by
    obtain ⟨v, rfl, hv1⟩ := one_arg hl hr
    obtain ⟨u, rfl, hu⟩ := ifc_inv hv1
    exact ⟨r, w, .lit r, st, hv u w, ⟨rfl, rfl⟩, .lit _, hrel, .refl _ _⟩
theorem S_appendRowNil {t e size b off cap : Nat} {x y : Operand} {xs : List AV} (ho : o.op = .call { callee := .builtin .append, args := #[x, y], argTypes := #[t, t] }) (hx : AEv env x (.row b off cap xs)) (hy : AEv env y (.sl [])) (hu : P.underlying t = some (.slice e)) (hm : (P.info? e).map (·.size) = some size) :
    PStep P N o env st (.row b off cap xs) :=
  .of_val fun a w hg => by
    have h0 := hx _ _ _ _ hg
    obtain ⟨e1, hcap⟩ := row_inv h0
    obtain ⟨B, cap2, e2, _⟩ := sl_inv (hy _ _ _ _ hg)
    cases hq : P.info? e with
    | none => simp [hq] at hm
    | some q =>
      have hqm : q.size = size := by simpa [hq] using hm
      refine ⟨.slice (some ⟨b, off, none⟩) xs.length cap, ?_, by rw [← e1]; exact h0⟩
      simp only [execOp, ho, resolve, invoke, builtin, Sem.run_bind, Sem.run_pure, Result.andThen_ok, List.map_toArray, List.map_cons, List.map_nil, e1, e2]
      cases B <;> simp [Builtin.append_, run_underlying hu, sizeOf, typeInfo, hq, Builtin.lenOf, Builtin.firstCells, loadCells, loadCellsFrom, storeCells, hcap]
/-- A pointer to cells of one's own, as one to cells that stay. -/
theorem Conv.ipT {st' : St} {b : Nat} {cs : List AV} (h : Sub st' st) (hb : (b, Ob.cells cs) ∈ st) (hn : (st.map (·.1)).Nodup → ∀ o, (b, o) ∉ st') : Conv st st' (.ptr b 0) (.ip cs) := fun w v hr h1 =>
  Conv.ip h hb (hn hr.nodup) rfl (fun i c d hc hd => by rw [hc] at hd; cases hd; exact Conv.refl h c) w v hr h1
end
end Go.AL

namespace Go.AL
open Go.RowKit
section
variable {P : Program} {N : Nat} {Q : Post} {env : Env} {st : St}
theorem EnvLe.app {e a b : Env} (h : EnvLe e a) (k : EnvLe e b) : EnvLe e (a ++ b) := by
  induction h with
  | nil => exact k
  | cons h1 h2 _ ih => exact .cons h1 h2 ih

theorem AC_loopK {G : Type} {c : Code} (K : Env) (I : G → Prop) (vars : G → Env) (stI : G → St) (m : G → Nat) (g0 : G) (hI : I g0) (hst : Sub (stI g0) st) (hK : EnvLe env K) (henv : EnvLe env (vars g0))
    (round : ∀ g, I g → AC P N c (thenP (fun env' st' => ∃ g', I g' ∧ m g' < m g ∧ Sub (stI g') st' ∧ EnvLe env' (vars g') ∧ EnvLe env' K) Q) (vars g ++ K) (stI g)) : AC P N (.loop c) Q env st :=
  AC_loopS I (fun g => vars g ++ K) stI m g0 hI hst (henv.app hK) fun g hg => (round g hg).mono fun e env' st' hq => by
    cases e with
    | normal => obtain ⟨g', h1, h2, h3, h4, h5⟩ := hq; exact ⟨g', h1, h2, h3, h4.app h5⟩
    | _ => exact hq

end

section
variable {P : Program} {N : Nat} {env : Env} {st : St} {o : Oper}
theorem map_at {α : Type} {f : α → AV} {l : List α} {i : Nat} (h : i < l.length) : (l.map f)[i]? = some (f (l[i]'h)) := by simp [h]

theorem S_elemN {α : Type} {f : α → AV} {l : List α} {t e : TypeId} {x y : Operand} {k : IntKind} {i : Nat} (m : Nat) (ho : o.op = .indexAddr t x y) (hx : AEv env x (.sl (l.map f))) (hy : AEv env y (.int k ((i : Nat) : Int)))
    (hu : P.underlying t = some (.slice e)) (hm : (P.info? e).map (·.size) = some m) (h : i < l.length) (hcm : ∀ a, (f a).cells.length = m) : PStep P N o env st (.ip (f (l[i]'h)).cells) :=
  S_elem m ho hx hy hu hm (by omega) (by rw [Int.toNat_natCast]; exact map_at h) (hcm _)

theorem S_lenM {α : Type} {f : α → AV} {l : List α} {t e : TypeId} {x : Operand} (ho : o.op = .call { callee := .builtin .len, args := #[x], argTypes := #[t] }) (hx : AEv env x (.sl (l.map f))) (hu : P.underlying t = some (.slice e)) : PStep P N o env st (.int .i64 (l.length : Int)) := by
  have h := S_len (P := P) (N := N) (st := st) ho hx hu
  rwa [List.length_map] at h

/-- One's own slice of values grows by some. -/
theorem S_appendM {α : Type} {f : α → AV} {l l2 : List α} {t e size bytes : Nat} {x y : Operand} {p : Own} (pre post : St) (ho : o.op = .call { callee := .builtin .append, args := #[x, y], argTypes := #[t, t] }) (hx : AEv env x (ownAV p size (l.map f))) (hy : AEv env y (.sl (l2.map f))) (hst : st = pre ++ (ownSt p e size (l.map f) ++ post)) (h : p.ok (l.map f)) (hT : appT P t e size bytes = true) (hne : l2 ≠ [])
    (hs : ∀ a, (f a).cells.length = size ∧ (f a).cells.all AV.one = true) (hb : (l.length + l2.length) * bytes ≤ 140737488355328) (h63 : l.length + l2.length ≤ 9223372036854775807) :
    Step P N o env st fun z st' => ∃ b k cap, Own.ok (.row b k cap) ((l ++ l2).map f) ∧ z = ownAV (.row b k cap) size ((l ++ l2).map f) ∧ st' = pre ++ (ownSt (.row b k cap) e size ((l ++ l2).map f) ++ post) := by
  have h := S_appendOwn (P := P) (N := N) (env := env) (xs := l.map f) (ys := l2.map f) pre post ho hx hy hst h hT (by simpa using hne) (fun x hx => by obtain ⟨a, _, rfl⟩ := List.mem_map.1 hx; exact (hs a).1) (fun x hx => by obtain ⟨a, _, rfl⟩ := List.mem_map.1 hx; exact hs a) (by simpa using hb) (by simpa using h63)
  intro a w hg next Q hn
  refine h a w hg next Q fun z st' v w' hk => ?_
  obtain ⟨b, k, cap, h1, h2, h3⟩ := hk
  refine hn z st' v w' ⟨b, k, cap, ?_, ?_, ?_⟩
  · rw [List.map_append]; exact h1
  · rw [List.map_append]; exact h2
  · rw [List.map_append]; exact h3
theorem S_storeW {t : TypeId} {x y : Operand} {b : Nat} {cs ds : List AV} (n : Nat) (ho : o.op = .store t x y) (hx : AEv env x (.ptr b 0)) (hy : AEv env y (.agg ds)) (hst : st[n]? = some (b, .cells cs)) (hl : ds.length = cs.length) (hone : ds.all AV.one = true)
    (hi : (P.info? t).map (·.size) = some ds.length) : Step P N o env st fun x st' => x = .any ∧ st' = st.set n (b, .cells ds) := by
  have h := S_storeN (P := P) (N := N) n ho hx hy hst (by omega) hone hi
  have e : putAt cs 0 ds = ds := by
    unfold putAt
    rw [List.take_zero, List.nil_append, Nat.zero_add, List.drop_of_length_le (by omega), List.append_nil]
  rwa [e] at h
theorem S_appendNN {t e : TypeId} {size : Nat} {x y : Operand} (ho : o.op = .call { callee := .builtin .append, args := #[x, y], argTypes := #[t, t] }) (hx : AEv env x .nils) (hy : AEv env y (.sl [])) (hu : P.underlying t = some (.slice e)) (hm : (P.info? e).map (·.size) = some size) :
    PStep P N o env st .nils :=
  .of_val fun a w hg => by
    have e1 := (hx _ _ _ _ hg).lit_inv
    obtain ⟨B, cap, e2, _⟩ := sl_inv (hy _ _ _ _ hg)
    cases hq : P.info? e with
    | none => simp [hq] at hm
    | some q =>
      have hqm : q.size = size := by simpa [hq] using hm
      refine ⟨.slice none 0 0, ?_, .lit _⟩
      simp only [execOp, ho, resolve, invoke, builtin, Sem.run_bind, Sem.run_pure, Result.andThen_ok, List.map_toArray, List.map_cons, List.map_nil, e1, e2]
      cases B <;> simp [Builtin.append_, run_underlying hu, sizeOf, typeInfo, hq, Builtin.lenOf, Builtin.firstCells, loadCells, loadCellsFrom, storeCells]

/-- One's own slice, nil or not, grows by any others, or none. -/
theorem S_appendAny {α : Type} {f : α → AV} {l l2 : List α} {t e size bytes : Nat} {x y : Operand} {p : Own} (pre post : St) (ho : o.op = .call { callee := .builtin .append, args := #[x, y], argTypes := #[t, t] }) (hx : AEv env x (ownAV p size (l.map f))) (hy : AEv env y (.sl (l2.map f))) (hst : st = pre ++ (ownSt p e size (l.map f) ++ post)) (h : p.ok (l.map f)) (hT : appT P t e size bytes = true)
    (hs : ∀ a, (f a).cells.length = size ∧ (f a).cells.all AV.one = true) (hb : (l.length + l2.length) * bytes ≤ 140737488355328) (h63 : l.length + l2.length ≤ 9223372036854775807) :
    Step P N o env st fun z st' => ∃ p' : Own, p'.ok ((l ++ l2).map f) ∧ z = ownAV p' size ((l ++ l2).map f) ∧ st' = pre ++ (ownSt p' e size ((l ++ l2).map f) ++ post) := by
  by_cases hn : l2 = []
  · subst hn
    have hA := appT_spec hT
    have hu : P.underlying t = some (.slice e) := hA.under
    have hm : (P.info? e).map (·.size) = some size := by obtain ⟨i, z, h1, h2, h3, h4, h5⟩ := hA.info; rw [h1]; simp [h3]
    rw [List.append_nil]
    have hk : PStep P N o env st (ownAV p size (l.map f)) := by
      cases p with
      | nil => exact S_appendNN ho hx hy hu hm
      | row b k cap => exact S_appendRowNil ho hx hy hu hm
      | emp A => exact S_append0 ho hx hy hu hm
    intro a w hg next Q hn
    exact hk a w hg next Q fun z st' v w' ⟨hz, hs'⟩ => hn z st' v w' ⟨p, h, hz, hs'.trans hst⟩
  · intro a w hg next Q hnx
    refine S_appendM pre post ho hx hy hst h hT hn hs hb h63 a w hg next Q fun z st' v w' hk => ?_
    obtain ⟨b, k, cap, h1, h2, h3⟩ := hk
    exact hnx z st' v w' ⟨.row b k cap, h1, h2, h3⟩
end
end Go.AL

namespace Go.AL
open Go.RowKit
variable {P : Program} {N : Nat} {env : Env} {st : St} {Q : Exit → Env → St → Prop}
theorem AEv.cd {x : Operand} {c : Bool} {y : AV} (h : AEv env x (.cond c y)) (hc : c = true := by first | assumption | exact gdT (by assumption) | exact gdF (by assumption) | exact gdAnd (by assumption) (by assumption) | exact gdAnd (by assumption) (gdT (by assumption)) | exact gdAnd (by assumption) (gdF (by assumption))) : AEv env x y := h.cond hc
section
variable {ops : Array Oper} {o : Oper} {rest : List Oper} {V : AV} {s t : TypeId} {x y z : Operand} {b off i d g : Nat} {cs ds : List AV} {c : AV} {want p q : Bool}
theorem mv {t : Nat} (hgd : o.guard = none) (hd : dstIn N o.dst = true) (ho : o.op = .move (.tmp t)) (hx : env.lookup t = some V) (h : AL P N ops rest Q (putE o.dst V env) st) : AL P N ops (o :: rest) Q env st := AL_p hgd hd (S_move ho (.tmp hx)) h
theorem as_ {t : Nat} (hgd : o.guard = none) (hd : dstIn N o.dst = true) (ho : o.op = .assign (.tmp t)) (hx : env.lookup t = some V) (h : AL P N ops rest Q (putE o.dst V env) st) : AL P N ops (o :: rest) Q env st := AL_p hgd hd (S_assign ho (.tmp hx)) h
theorem ac {v : Value} (hgd : o.guard = none) (hd : dstIn N o.dst = true) (ho : o.op = .assign (.const v)) (h : AL P N ops rest Q (putE o.dst (.lit v) env) st) : AL P N ops (o :: rest) Q env st := AL_p hgd hd (S_assign ho (.const v)) h
theorem p_ (hs : PStep P N o env st V) (h : AL P N ops rest Q (putE o.dst V env) st) (hgd : o.guard = none := by exact rfl) (hd : dstIn N o.dst = true := by exact rfl) : AL P N ops (o :: rest) Q env st := AL_p hgd hd hs h
theorem s_ {K : AV → St → Prop} (hs : Step P N o env st K) (h : ∀ x st', K x st' → AL P N ops rest Q (putE o.dst x env) st') (hgd : o.guard = none := by exact rfl) (hd : dstIn N o.dst = true := by exact rfl) : AL P N ops (o :: rest) Q env st := AL_step hgd hd hs h
theorem g_ (hs : gd p want = true → PStep P N o env st V) (h : AL P N ops rest Q (putE o.dst (.cond (gd p want) V) env) st) (hgd : o.guard = some (g, want) := by exact rfl) (hj : ((ops[g]?).bind (·.dst)) = some d := by exact rfl) (hb : AEv env (.tmp d) (.bool p) := by exact .tmp rfl) (hd : dstIn N o.dst = true := by exact rfl) : AL P N ops (o :: rest) Q env st := AL_g hgd hj hb hd hs h
theorem fl (n : Nat) (h : AL P N ops rest Q (putE o.dst (.ptr b (off + n)) env) st) (hgd : o.guard = none := by exact rfl) (hd : dstIn N o.dst = true := by exact rfl) (ho : o.op = .fieldAddr s x i := by exact rfl) (hx : AEv env x (.ptr b off) := by exact .tmp rfl) (hf : fieldIs P s i n = true := by kernel_rfl) : AL P N ops (o :: rest) Q env st := AL_p hgd hd (S_field n ho hx hf) h
theorem ld (n : Nat) (h : AL P N ops rest Q (putE o.dst c env) st) (hgd : o.guard = none := by exact rfl) (hd : dstIn N o.dst = true := by exact rfl) (ho : o.op = .load t x := by exact rfl) (hx : AEv env x (.ptr b off) := by exact .tmp rfl) (hst : st[n]? = some (b, .cells cs) := by exact rfl) (hc : cs[off]? = some c := by exact rfl) (ht : flatT P t = true := by kernel_rfl) : AL P N ops (o :: rest) Q env st := AL_p hgd hd (S_load n ho hx hst hc ht) h
theorem ldN (m n : Nat) (h : AL P N ops rest Q (putE o.dst (.agg ((cs.drop off).take m)) env) st) (hgd : o.guard = none := by exact rfl) (hd : dstIn N o.dst = true := by exact rfl) (ho : o.op = .load t x := by exact rfl) (hx : AEv env x (.ptr b off) := by exact .tmp rfl) (hst : st[n]? = some (b, .cells cs) := by exact rfl) (ht : rowT P t m = true := by kernel_rfl) (hm : off + m ≤ cs.length := by first | exact Nat.le_of_ble_eq_true rfl | (simp; omega) | simp) : AL P N ops (o :: rest) Q env st := AL_p hgd hd (S_loadN n ho hx hst ht hm) h
theorem an (h : AL P N ops rest Q (putE o.dst (.bool (p && q)) env) st) (hgd : o.guard = none := by exact rfl) (hd : dstIn N o.dst = true := by exact rfl) (ho : o.op = .pick z x (.const (.bool false)) := by exact rfl) (hc : AEv env z (.bool p) := by exact .tmp rfl) (hx : p = true → AEv env x (.bool q) := by exact fun _ => AEv.cd (.tmp rfl)) : AL P N ops (o :: rest) Q env st := AL_p hgd hd (S_and ho hc hx) h
theorem ex (n : Nat) {xs : List AV} (h : AL P N ops rest Q (putE o.dst c env) st) (hgd : o.guard = none := by exact rfl) (hd : dstIn N o.dst = true := by exact rfl) (ho : o.op = .extract x n := by exact rfl) (hx : AEv env x (.tup xs) := by exact .tmp rfl) (hy : xs[n]? = some c := by exact rfl) : AL P N ops (o :: rest) Q env st := AL_p hgd hd (S_extract n ho hx hy) h
theorem stN (n : Nat) (h : AL P N ops rest Q (putE o.dst .any env) (st.set n (b, .cells (putAt cs off ds)))) (hgd : o.guard = none := by exact rfl) (hd : dstIn N o.dst = true := by exact rfl) (ho : o.op = .store t x y := by exact rfl) (hx : AEv env x (.ptr b off) := by exact .tmp rfl) (hy : AEv env y (.agg ds) := by exact .tmp rfl) (hst : st[n]? = some (b, .cells cs) := by exact rfl) (hoff : off + ds.length ≤ cs.length := by first | exact Nat.le_of_ble_eq_true rfl | (simp; omega) | simp) (hone : ds.all AV.one = true := by first | rfl | simp [AV.one, Value.oneCell']) (hi : (P.info? t).map (·.size) = some ds.length := by kernel_rfl) : AL P N ops (o :: rest) Q env st := AL_step hgd hd (S_storeN n ho hx hy hst hoff hone hi) fun _ _ ⟨h1, h2⟩ => by subst h1; subst h2; exact h
theorem stW (n : Nat) (h : AL P N ops rest Q (putE o.dst .any env) (st.set n (b, .cells ds))) (hgd : o.guard = none := by exact rfl) (hd : dstIn N o.dst = true := by exact rfl) (ho : o.op = .store t x y := by exact rfl) (hx : AEv env x (.ptr b 0) := by exact .tmp rfl) (hy : AEv env y (.agg ds) := by exact .tmp rfl) (hst : st[n]? = some (b, .cells cs) := by exact rfl) (hl : ds.length = cs.length := by exact rfl) (hone : ds.all AV.one = true := by exact rfl) (hi : (P.info? t).map (·.size) = some ds.length := by kernel_rfl) : AL P N ops (o :: rest) Q env st := AL_step hgd hd (S_storeW n ho hx hy hst hl hone hi) fun _ _ ⟨h1, h2⟩ => by subst h1; subst h2; exact h
theorem st1 (n : Nat) (h : AL P N ops rest Q (putE o.dst .any env) (st.set n (b, .cells (cs.set off c)))) (hgd : o.guard = none := by exact rfl) (hd : dstIn N o.dst = true := by exact rfl) (ho : o.op = .store t x y := by exact rfl) (hx : AEv env x (.ptr b off) := by exact .tmp rfl) (hy : AEv env y c := by exact .tmp rfl) (hst : st[n]? = some (b, .cells cs) := by exact rfl) (hoff : off < cs.length := by first | exact Nat.le_of_ble_eq_true rfl | simp) (hone : c.one = true := by exact rfl) (hi : (P.info? t).map (·.size) = some 1 := by kernel_rfl) : AL P N ops (o :: rest) Q env st := AL_step hgd hd (S_store n ho hx hy hst hoff hone hi) fun _ _ ⟨h1, h2⟩ => by subst h1; subst h2; exact h
theorem fA (n : Nat) (ho : o.op = .fieldAddr s x i := by exact rfl) (hx : AEv env x (.ptr b off) := by exact .tmp rfl) (hf : fieldIs P s i n = true := by kernel_rfl) : PStep P N o env st (.ptr b (off + n)) := S_field n ho hx hf
theorem lA (n : Nat) (ho : o.op = .load t x := by exact rfl) (hx : AEv env x (.ptr b off) := by exact AEv.cd (.tmp rfl)) (hst : st[n]? = some (b, .cells cs) := by exact rfl) (hc : cs[off]? = some c := by exact rfl) (ht : flatT P t = true := by kernel_rfl) : PStep P N o env st c := S_load n ho hx hst hc ht
theorem lN (m n : Nat) (ho : o.op = .load t x := by exact rfl) (hx : AEv env x (.ptr b off) := by exact AEv.cd (.tmp rfl)) (hst : st[n]? = some (b, .cells cs) := by exact rfl) (ht : rowT P t m = true := by kernel_rfl) (hm : off + m ≤ cs.length := by first | exact Nat.le_of_ble_eq_true rfl | (simp; omega) | simp) : PStep P N o env st (.agg ((cs.drop off).take m)) := S_loadN n ho hx hst ht hm
theorem mA (ho : o.op = .move x := by exact rfl) (hx : AEv env x V := by exact .tmp rfl) : PStep P N o env st V := S_move ho hx
end
theorem co {f : FuncId} (N : Nat) {fn : Func} {c : Code} {args : List AV} {K : AV → St → Prop} (hf : P.funcs[f]? = some fn) (h : AC P N c (Fin P fn K) (envOf 0 args) st) (hname : (fn.name == "runtime.NumGoroutine") = false := by kernel_rfl) (hb : fn.body = some c := by exact rfl) (hN : fn.ntmps = N := by exact rfl) (hl : Nat.ble args.length N = true := by exact rfl) : ACalls P f args st K := ACalls_of hf hname hb hN hl h
end Go.AL

namespace Go.AL
open Go.RowKit Go.NumSpec Go.ChangeShapes Go.WideShapes

/-- Cells are so. -/
def RC (w : World) (cs : List AV) (vs : List Value) : Prop := cs.length = vs.length ∧ ∀ (i : Nat) c v, cs[i]? = some c → vs[i]? = some v → R [] w c v

/-- Whatever is read at type t is of α, and its cells are those. -/
structure Opens (P : Program) (t : TypeId) (α : Type) (toL : α → List AV) (ok : α → Prop) : Prop where
  run : ∀ {H : Type} (enc : TypeId × Value → H) (w : World) (fuel : Nat) (cs : List Value) x, DataW.trod enc P w 0 (fun _ => true) true fuel t cs = some x → ∃ y : α, ok y ∧ RC w (toL y) cs

section
variable {P : Program} {t : TypeId}
theorem RC.one {w : World} {c : AV} {v : Value} (h : R [] w c v) : RC w [c] [v] := ⟨rfl, fun i d u hd hu => by
  cases i with
  | zero => simp at hd hu; subst hd; subst hu; exact h
  | succ i => simp at hd⟩
theorem RC.append {w : World} {cs ds : List AV} {us vs : List Value} (h : RC w cs us) (k : RC w ds vs) : RC w (cs ++ ds) (us ++ vs) := ⟨by rw [List.length_append, List.length_append, h.1, k.1], fun i c v hc hv => by
  have hl := h.1
  rcases Nat.lt_or_ge i cs.length with hi | hi
  · rw [List.getElem?_append_left hi] at hc
    rw [List.getElem?_append_left (by omega)] at hv
    exact h.2 i c v hc hv
  · rw [List.getElem?_append_right hi] at hc
    rw [List.getElem?_append_right (by omega)] at hv
    rw [← hl] at hv
    exact k.2 _ c v hc hv⟩
theorem RC.agg {w : World} {cs : List AV} {vs : Array Value} (h : RC w cs vs.toList) : R [] w (.agg cs) (.agg vs) := .agg cs vs (by simpa using h.1) fun i c v hc hv => h.2 i c v hc (by simpa using hv)

theorem Opens.i64 (h : P.underlying t = some (.int .i64)) : Opens P t Int (fun n => [.int .i64 n]) fits := .mk fun enc w fuel cs x hx => by
  obtain ⟨n, rfl, _, hw⟩ := DataW.trod_int h hx
  exact ⟨n, fits_of_i64 hw, .one (.lit _)⟩
theorem Opens.u64 (h : P.underlying t = some (.int .u64)) : Opens P t Nat (fun n => [.int .u64 (n : Int)]) (fun n => n < 18446744073709551616) := .mk fun enc w fuel cs x hx => by
  obtain ⟨n, rfl, _, hw⟩ := DataW.trod_int h hx
  obtain ⟨m, rfl, hm⟩ := nat_of_u64 hw
  exact ⟨m, hm, .one (.lit _)⟩
theorem Opens.bool (h : P.underlying t = some .bool) : Opens P t Bool (fun b => [.bool b]) (fun _ => True) := .mk fun enc w fuel cs x hx => by
  obtain ⟨b, rfl, _⟩ := DataW.trod_bool h hx
  exact ⟨b, trivial, .one (.lit _)⟩
theorem Opens.str (h : P.underlying t = some .string) : Opens P t (List UInt8) (fun l => [.S l]) (fun l => l.length ≤ 9223372036854775807) := .mk fun enc w fuel cs x hx => by
  obtain ⟨s, rfl, _, hs⟩ := DataW.trod_string h hx
  refine ⟨s.data.toList, ?_, .one ?_⟩
  · have : maxLen = 9223372036854775807 := rfl
    rw [this] at hs
    show s.data.toList.length ≤ _
    rw [Array.length_toList]
    exact hs
  · have e : AV.S s.data.toList = .lit (.string s) := by cases s; simp
    rw [e]
    exact .lit _
theorem Opens.map {α β : Type} {toL : α → List AV} {ok : α → Prop} {toL' : β → List AV} {ok' : β → Prop} (h : Opens P t α toL ok) (f : α → β) (h1 : ∀ a, toL a = toL' (f a)) (h2 : ∀ a, ok a → ok' (f a)) : Opens P t β toL' ok' := .mk fun enc w fuel cs x hx => by
  obtain ⟨a, ha, hr⟩ := h.run enc w fuel cs x hx
  exact ⟨f a, h2 a ha, by rw [← h1]; exact hr⟩

theorem OpensF.last {f : Field} {off m : Nat} {α : Type} {toL : α → List AV} {ok : α → Prop} (ho : f.offset = off) (hm : P.cellsOf f.type = m) (h : Opens P f.type α toL ok) : ∀ {H : Type} (enc : TypeId × Value → H) (w : World) (fuel : Nat) (cs : List Value) (xs : List (DataW H × List MemPlace)), (∀ (i : Nat) g, [f][i]? = some g → DataW.trod enc P w 0 (fun _ => true) true fuel g.type ((cs.drop g.offset).take (P.cellsOf g.type)) = xs[i]?) → xs.length = 1 → cs.length = off + m → ∃ y : α, ok y ∧ RC w (toL y) (cs.drop off) := fun enc w fuel cs xs hx hl hc => by
  have h0 := hx 0 f rfl
  obtain ⟨x, hx0⟩ : ∃ x, xs[0]? = some x := ⟨xs[0]'(by omega), by simp [hl]⟩
  rw [hx0] at h0
  obtain ⟨y, hy, hr⟩ := h.run enc w fuel _ x h0
  rw [ho, hm, List.take_of_length_le (by simp; omega)] at hr
  exact ⟨y, hy, hr⟩

/-- The fields from one on, of so many cells in all. -/
structure OpensFs (P : Program) (fs : List Field) (off tot : Nat) (α : Type) (toL : α → List AV) (ok : α → Prop) : Prop where
  run : ∀ {H : Type} (enc : TypeId × Value → H) (w : World) (fuel : Nat) (cs : List Value) (xs : List (DataW H × List MemPlace)), (∀ (i : Nat) f, fs[i]? = some f → DataW.trod enc P w 0 (fun _ => true) true fuel f.type ((cs.drop f.offset).take (P.cellsOf f.type)) = xs[i]?) → xs.length = fs.length → cs.length = tot →
    ∃ y : α, ok y ∧ RC w (toL y) (cs.drop off)
theorem OpensFs.one {f : Field} {off tot m : Nat} {α : Type} {toL : α → List AV} {ok : α → Prop} (ho : f.offset = off) (hm : P.cellsOf f.type = m) (ht : tot = off + m) (h : Opens P f.type α toL ok) : OpensFs P [f] off tot α toL ok := .mk fun enc w fuel cs xs hx hl hc =>
  OpensF.last ho hm h enc w fuel cs xs hx hl (by omega)
theorem OpensFs.cons {f : Field} {fs : List Field} {off tot m : Nat} {α β : Type} {toL : α → List AV} {ok : α → Prop} {toL' : β → List AV} {ok' : β → Prop} (ho : f.offset = off) (hm : P.cellsOf f.type = m) (h : Opens P f.type α toL ok) (k : OpensFs P fs (off + m) tot β toL' ok') :
    OpensFs P (f :: fs) off tot (α × β) (fun p => toL p.1 ++ toL' p.2) (fun p => ok p.1 ∧ ok' p.2) := .mk fun enc w fuel cs xs hx hl hc => by
  cases xs with
  | nil => simp at hl
  | cons x xs =>
    have h0 := hx 0 f rfl
    simp only [List.getElem?_cons_zero] at h0
    obtain ⟨y, hy, hr⟩ := h.run enc w fuel _ x h0
    rw [ho, hm] at hr
    obtain ⟨z, hz, hr'⟩ := k.run enc w fuel cs xs (fun i g hg => by simpa using hx (i + 1) g (by simpa using hg)) (by simpa using hl) hc
    refine ⟨(y, z), ⟨hy, hz⟩, ?_⟩
    have := hr.append hr'
    rw [← List.drop_drop, List.take_append_drop] at this
    exact this
theorem Opens.struct {fs : List Field} {tot : Nat} {α : Type} {toL : α → List AV} {ok : α → Prop} (hu : P.underlying t = some (.struct fs.toArray)) (ht : P.cellsOf t = tot) (h : OpensFs P fs 0 tot α toL ok) : Opens P t α toL ok := .mk fun enc w fuel cs x hx => by
  obtain ⟨xs, n, rfl, _, hl, hlen, hf⟩ := DataW.trod_struct hu hx
  obtain ⟨y, hy, hr⟩ := h.run enc w n cs xs (fun i f hf' => hf i f (by simpa using hf')) (by simpa using hlen) (by rw [hl, ht])
  exact ⟨y, hy, by simpa using hr⟩

/-- A slice, nil or not. -/
theorem Opens.slice {e : TypeId} {m : Nat} {α : Type} {toL : α → List AV} {ok : α → Prop} (el : α → AV) (hu : P.underlying t = some (.slice e)) (hm : P.cellsOf e = m) (hpos : 0 < m) (h : Opens P e α toL ok) (hel : ∀ y, (el y).cells = toL y) :
    Opens P t (List α) (fun l => [.sl (l.map el)]) (fun l => ∀ y, y ∈ l → ok y) := .mk fun enc w fuel cs x hx => by
  rcases DataW.trod_slice hu hx with ⟨rfl, _⟩ | ⟨a, len, cap, elems, rest, n, rfl, rfl, _, _, hlc, _, hlen, hel', _, _⟩
  · exact ⟨[], fun y hy => by simp at hy, .one (.sl0 none 0)⟩
  · subst hlen
    have each : ∀ i, i < elems.length → ∃ (cs : List Value) (y : α), ok y ∧ cs.length = m ∧ (∀ j, j < m → w.cell? ((a.add (i * m)).add j) = cs[j]?) ∧ RC w (toL y) cs := fun i hi => by
      have h1 := hel' i hi
      rw [List.getElem?_eq_getElem hi, hm] at h1
      cases hc : w.cells? 0 (a.add (i * m)) m with
      | none => rw [hc] at h1; cases h1
      | some cs =>
        rw [hc] at h1
        obtain ⟨_, h2, h3⟩ := World.cells?_some hc
        obtain ⟨y, hy, hr⟩ := h.run enc w n cs _ h1
        exact ⟨cs, y, hy, h2, h3, hr⟩
    by_cases h0 : elems.length = 0
    · rw [h0]
      exact ⟨[], fun y hy => by simp at hy, .one (.sl0 _ _)⟩
    · obtain ⟨b, off, spot⟩ := a
      obtain ⟨cs0, y0, _, hl0, hc0, _⟩ := each 0 (by omega)
      have hspot : spot = none := by
        have h4 : w.cell? ((Addr.add ⟨b, off, spot⟩ (0 * m)).add 0) = some (cs0[0]'(by omega)) := by rw [hc0 0 hpos]; exact List.getElem?_eq_getElem _
        rw [show (Addr.add ⟨b, off, spot⟩ (0 * m)).add 0 = ⟨b, off, spot⟩ by rw [Nat.zero_mul]; rfl] at h4
        exact World.cell?_spot h4
      subst hspot
      have hch : ∃ (F : Nat → List Value) (Y : Nat → α), ∀ i, i < elems.length → ok (Y i) ∧ (F i).length = m ∧ (∀ j, j < m → w.cell? ⟨b, off + i * m + j, none⟩ = (F i)[j]?) ∧ RC w (toL (Y i)) (F i) := by
        refine ⟨fun i => if hi : i < elems.length then (each i hi).choose else [], fun i => if hi : i < elems.length then (each i hi).choose_spec.choose else y0, fun i hi => ?_⟩
        simp only [hi, dite_true]
        obtain ⟨k1, k2, k3, k4⟩ := (each i hi).choose_spec.choose_spec
        refine ⟨k1, k2, fun j hj => ?_, k4⟩
        rw [← k3 j hj]
        rw [Addr.add_mid, Addr.add_mid]
      obtain ⟨F, Y, hFY⟩ := hch
      have hget : ∀ (i : Nat) x, ((List.range elems.length).map fun i => el (Y i))[i]? = some x → i < elems.length ∧ x = el (Y i) := fun i x hx => by
        have hi : i < elems.length := by have := (List.getElem?_eq_some_iff.1 hx).1; simpa using this
        rw [List.getElem?_map, List.getElem?_range hi] at hx
        exact ⟨hi, (Option.some.inj hx).symm⟩
      refine ⟨(List.range elems.length).map Y, fun y hy => ?_, .one ?_⟩
      · obtain ⟨i, hi, rfl⟩ := List.mem_map.1 hy
        exact (hFY i (List.mem_range.1 hi)).1
      · rw [List.map_map]
        have hlen2 : ((List.range elems.length).map fun i => el (Y i)).length = elems.length := by simp
        have hr := R.sl (st := []) (w := w) ((List.range elems.length).map fun i => el (Y i)) b off cap m (fun k => ((F (k / m))[k % m]?).getD undef) (by rw [hlen2]; exact hlc) (fun i x hx => by
          obtain ⟨hi, rfl⟩ := hget i x hx
          obtain ⟨_, k2, _, k4⟩ := hFY i hi
          rw [hel, k4.1, k2]) (fun i x j c hx hc => by
          obtain ⟨hi, rfl⟩ := hget i x hx
          obtain ⟨_, k2, k3, k4⟩ := hFY i hi
          rw [hel] at hc
          have hj : j < m := by have := (List.getElem?_eq_some_iff.1 hc).1; rw [k4.1, k2] at this; exact this
          have e1 : (i * m + j) / m = i := by rw [Nat.mul_comm, Nat.mul_add_div hpos, Nat.div_eq_of_lt hj]; rfl
          have e2 : (i * m + j) % m = j := by rw [Nat.mul_comm, Nat.mul_add_mod, Nat.mod_eq_of_lt hj]
          refine ⟨?_, fun ⟨o, ho, _⟩ => by simp at ho⟩
          rw [e1, e2, k3 j hj]
          simp [k2, hj]) (fun i x j c hx hc => by
          obtain ⟨hi, rfl⟩ := hget i x hx
          obtain ⟨_, k2, k3, k4⟩ := hFY i hi
          rw [hel] at hc
          have hj : j < m := by have := (List.getElem?_eq_some_iff.1 hc).1; rw [k4.1, k2] at this; exact this
          have e1 : (i * m + j) / m = i := by rw [Nat.mul_comm, Nat.mul_add_div hpos, Nat.div_eq_of_lt hj]; rfl
          have e2 : (i * m + j) % m = j := by rw [Nat.mul_comm, Nat.mul_add_mod, Nat.mod_eq_of_lt hj]
          rw [e1, e2]
          exact k4.2 j c _ hc (by simp [k2, hj]))
        rw [hlen2] at hr
        exact hr

theorem Opens.argN {H : Type} {enc : TypeId × Value → H} {w : World} {α : Type} {toL : α → List AV} {ok : α → Prop} (h : Opens P t α toL ok) {vs : Array Value} {d : DataW H} {ps : List MemPlace} (ht : DataW.Trod enc P w 0 (fun _ => true) true t (.agg vs) d ps) : ∃ y, ok y ∧ R [] w (.agg (toL y)) (.agg vs) := by
  obtain ⟨fuel, hx⟩ := ht
  obtain ⟨y, hy, hr⟩ := h.run enc w fuel _ _ hx
  exact ⟨y, hy, hr.agg⟩

/-- From a contract to a row's walk. -/
theorem PCalls.rowB {P : Program} {f : FuncId} {args : List AV} {v : Value} (h : PCalls P f args (.lit v)) {w : World} {vs : Array Value} (hs : vs.size = args.length) (hr : ∀ (i : Nat) x u, args[i]? = some x → vs[i]? = some u → R [] w x u) :
    Calls P f vs w fun e w' => e = .returned v ∧ RowKit.Below w.heap.size w w' :=
  ((h []).calls w vs ⟨by simp, fun _ _ hb => by simp at hb, fun _ _ _ _ _ hb => by simp at hb, fun _ _ hb => by simp at hb⟩ hs hr).mono fun e w' ⟨r, x, st', he, ⟨hx, hst⟩, hr', _, hext⟩ => by
    subst hx; subst hst
    exact ⟨by rw [he, hr'.lit_inv], ⟨hext.os, hext.tape, hext.output, hext.size, fun k hk => hext.keep k hk fun o ho => by simp at ho⟩⟩

theorem flat_arg {t : TypeId} {W : World} {r : Reach} {base : Nat} {v : Value} (ht : flatT P t = true) (hval : Value.okWide P W r base t v) : v.cells = #[v] := by
  obtain ⟨d, hu, hd⟩ := flatT_spec ht
  cases v <;> first
    | rfl
    | (exfalso; cases d <;> first
        | (simp [TypeDesc.isRow] at hd; done)
        | (simp [Value.okWide, hu, Cell.okWide, Cell.ok] at hval; done))
theorem Opens.argF {H : Type} {enc : TypeId × Value → H} {w : World} {r : Reach} {base : Nat} {α : Type} {toL : α → List AV} {ok : α → Prop} (h : Opens P t α toL ok) (el : α → AV) (hel : ∀ y, toL y = [el y]) {v : Value} {d : DataW H} {ps : List MemPlace} (hf : flatT P t = true) (hval : Value.okWide P w r base t v) (ht : DataW.Trod enc P w 0 (fun _ => true) true t v d ps) : ∃ y, ok y ∧ R [] w (el y) v := by
  obtain ⟨fuel, hx⟩ := ht
  obtain ⟨y, hy, hr⟩ := h.run enc w fuel _ _ hx
  rw [hel, flat_arg hf hval] at hr
  exact ⟨y, hy, hr.2 0 _ _ rfl rfl⟩
theorem Opens.argS {H : Type} {enc : TypeId × Value → H} {w : World} {r : Reach} {base : Nat} {α : Type} {toL : α → List AV} {ok : α → Prop} (h : Opens P t α toL ok) {fs : Array Field} (hu : P.underlying t = some (.struct fs)) {v : Value} {d : DataW H} {ps : List MemPlace} (hval : Value.okWide P w r base t v) (ht : DataW.Trod enc P w 0 (fun _ => true) true t v d ps) : ∃ y, ok y ∧ R [] w (.agg (toL y)) v := by
  simp only [Value.okWide, hu] at hval
  obtain ⟨cs, rfl, _⟩ := hval
  exact h.argN ht

theorem PCalls.rowC {P : Program} {f : FuncId} {args : List AV} {v : Value} (h : PCalls P f args (.lit v)) {w : World} {vs : Array Value} (hr : RC w args vs.toList) :
    Calls P f vs w fun e w' => e = .returned v ∧ RowKit.Below w.heap.size w w' :=
  h.rowB (by simpa using hr.1.symm) fun i x u hx hu => hr.2 i x u hx (by simpa using hu)

/-- An argument reads behind the call as it did. -/
theorem arg_stays {H : Type} {enc : TypeId × Value → H} {t : TypeId} (hl : laidOutB P = true) (hr : P.readableRec t = true) (hrow : t < P.types.size) {W W' : World} {v : Value} {d : DataW H} {ps : List MemPlace}
    (h : DataW.Trod enc P W 0 (fun _ => true) true t v d ps) (hb : Below W.heap.size W W') (hlt : ∀ x ∈ ps, x.block < W.heap.size) (sp : Nat → Bool) (hs : ∀ x ∈ ps, sp x.block = true) : DataW.Trod enc P W' 0 sp true t v d ps :=
  WideElems.Trod_stays hl hr hrow h (fun x hx => hb.same (hlt x hx)) hs

/-- What a row asks, where below the old size nothing has turned and what came in reads as before. -/
theorem post_below {H : Type} {enc : TypeId × Value → H} {f : Func} {s : ChangeSpec} {apart fresh handsOn again : Bool} {W W' : World} {args : Array Value} {v : Value} {ds gs : List (DataW H)} {before : List MemPlace} (hb : Below W.heap.size W W')
    (hW : DataW.Whole enc P f.params.toList s.vars apart W args.toList ds gs before) (hs : s.vars = []) (hgs : gs = []) (hargs' : (s.fn H (ds ++ gs)).args = ds) (hvars' : (s.fn H (ds ++ gs)).vars = [])
    (hres : ∀ (b : Nat) (sp : Nat → Bool) (hd : Bool), DataW.TrodAll enc P W' b sp hd f.resultTypes.toList (v.resultList f.resultTypes.size) (s.fn H (ds ++ gs)).results [])
    (hargs : ∀ sp : Nat → Bool, (∀ p ∈ before, sp p.block = true) → DataW.TrodAll enc P W' 0 sp true f.params.toList args.toList ds before)
    (hok : ∀ (j : Nat) (t : TypeId) (r : Value), f.resultTypes[j]? = some t → (v.resultList f.resultTypes.size)[j]? = some r → Value.okWide P W' .any 0 t r) :
    s.post enc P f apart fresh handsOn again W args v W' := by
  have hlt : ∀ p ∈ before, p.block < W.heap.size := fun p hp => by simpa using hW.lt p hp
  have hsp : ∀ p ∈ before, (fun b => decide (b < W.heap.size)) p.block = true := fun p hp => by simpa using hlt p hp
  have hv : ∀ sp : Nat → Bool, DataW.TrodVars enc P W' sp s.vars (s.fn H (ds ++ gs)).vars [] := fun sp => by rw [hs, hvars']; rfl
  have ha : ∀ sp : Nat → Bool, (∀ p ∈ before, sp p.block = true) → DataW.TrodAll enc P W' 0 sp true f.params.toList args.toList (s.fn H (ds ++ gs)).args before := fun sp h => by rw [hargs']; exact hargs sp h
  have hkb : W.keptBut W' fun _ => False := ⟨hb.os, hb.output, fun i hi => by
    rw [hb.block i hi]
    cases W.heap[i]? with
    | none => rfl
    | some o => cases o <;> first | rfl | exact ⟨rfl, rfl, rfl, fun _ _ => rfl⟩ | exact .inr ⟨rfl, rfl⟩⟩
  refine ⟨ds, gs, before, [], before, [], hW, hres _ _ _, ha _ hsp, hv _, World.keptBut_mono (fun p hp => hp.elim) hkb, fun _ => ?_⟩
  obtain ⟨_, _, _, _, _, hz, hn⟩ := hW
  refine ⟨hok, _, _, ([] ++ before) ++ [], ⟨[] ++ before, [], trodAll_append (ha _ fun _ _ => rfl) (hres _ _ _), hv _, rfl, fun b off hp => ?_, fun h => by simpa using hn h⟩, fun p hp _ => by simpa using hp⟩
  have hp' : MemPlace.cell b off ∈ before := by simpa using hp
  rw [hb.frozen (p := ⟨b, off, none⟩) (hlt _ hp')]
  exact hz b off hp'

/-! ### Programs whose tables are laid -/
/-- Tables: blocks that nobody writes. -/
def Gs (gs : List (Nat × List Value)) : St := gs.map fun p => (p.1, .konst p.2)
def GCalls (P : Program) (gs : List (Nat × List Value)) (f : FuncId) (args : List AV) (V : AV) : Prop := ∀ st, (∀ p, p ∈ Gs gs → p ∈ st) → ACalls P f args st fun x st' => x = V ∧ st' = st
theorem Gs_mut {gs : List (Nat × List Value)} {b off : Nat} : ¬ Mut (Gs gs) b off := fun ⟨o, h1, h2⟩ => by
  obtain ⟨p, _, hp⟩ := List.mem_map.1 h1
  cases hp
  exact h2
theorem Gs_ext {gs : List (Nat × List Value)} {w : World} : Ext [] w (Gs gs) w :=
  ⟨rfl, rfl, rfl, fun _ _ => rfl, Nat.le_refl _, fun _ _ _ => rfl, fun _ _ _ _ _ _ _ _ _ => rfl, fun b off _ h => absurd h Gs_mut, fun _ _ _ _ => rfl⟩
theorem GCalls.rowB {P : Program} {f : FuncId} {args : List AV} {v : Value} {gs : List (Nat × List Value)} (h : GCalls P gs f args (.lit v)) {w : World} {vs : Array Value} (hn : (gs.map (·.1)).Nodup) (hg : ∀ p, p ∈ gs → p.1 < w.heap.size ∧ ∀ (j : Nat) u, p.2[j]? = some u → w.cell? ⟨p.1, j, none⟩ = some u)
    (hs : vs.size = args.length) (hr : ∀ (i : Nat) x u, args[i]? = some x → vs[i]? = some u → R [] w x u) :
    Calls P f vs w fun e w' => e = .returned v ∧ RowKit.Below w.heap.size w w' := by
  have hrel : Rel (Gs gs) w := by
    refine ⟨?_, fun b cs hb => ?_, fun b e size n cap hb => ?_, fun b us hb => ?_⟩
    · have : (Gs gs).map (·.1) = gs.map (·.1) := by simp [Gs]
      rw [this]; exact hn
    · obtain ⟨p, _, hp⟩ := List.mem_map.1 hb; cases hp
    · obtain ⟨p, _, hp⟩ := List.mem_map.1 hb; cases hp
    · obtain ⟨p, h1, hp⟩ := List.mem_map.1 hb
      cases hp
      exact hg p h1
  refine ((h (Gs gs) fun p hp => hp).calls w vs hrel hs fun i x u h1 h2 => (hr i x u h1 h2).mono Gs_ext (by simp)).mono fun e w' ⟨r, x, st', he, ⟨hx, hst⟩, hr', _, hext⟩ => ?_
  subst hx; subst hst
  refine ⟨by rw [he, hr'.lit_inv], ⟨hext.os, hext.tape, hext.output, hext.size, fun k hk => ?_⟩⟩
  by_cases hk1 : ∀ o, (k, o) ∉ Gs gs
  · exact hext.keep k hk hk1
  · obtain ⟨o, ho⟩ : ∃ o, (k, o) ∈ Gs gs := Classical.byContradiction fun hh => hk1 fun o ho => hh ⟨o, ho⟩
    have ho' := ho
    obtain ⟨p, h1, hp⟩ := List.mem_map.1 ho
    cases hp
    exact hext.konst _ _ hk ho'
theorem GCalls.rowC {P : Program} {f : FuncId} {args : List AV} {v : Value} {gs : List (Nat × List Value)} (h : GCalls P gs f args (.lit v)) {w : World} {vs : Array Value} (hn : (gs.map (·.1)).Nodup) (hg : ∀ p, p ∈ gs → p.1 < w.heap.size ∧ ∀ (j : Nat) u, p.2[j]? = some u → w.cell? ⟨p.1, j, none⟩ = some u) (hr : RC w args vs.toList) :
    Calls P f vs w fun e w' => e = .returned v ∧ RowKit.Below w.heap.size w w' :=
  h.rowB hn hg (by simpa using hr.1.symm) fun i x u hx hu => hr.2 i x u hx (by simpa using hu)
end
end Go.AL

namespace Go.AL
open Go.RowKit Go.NumSpec Go.ChangeShapes Go.WideShapes
section
variable {P : Program} {t : TypeId}
end
end Go.AL

namespace Go.AL
open Go.RowKit Go.NumSpec
end Go.AL

namespace Go.AL
open Go.RowKit Go.NumSpec
def vst (q : Vec) (xs : List AV) : St := match q with | .at b cap => [(b, .cells (vec1C cap xs))] | _ => []
section
variable {P : Program} {N : Nat} {Q : Post} {env : Env} {st : St} {o : Oper} {w : World}
/-- Memory may be left behind, or stand in another order. -/
theorem Step.sub {K K' : AV → St → Prop} (h : Step P N o env st K) (hk : ∀ x st', K x st' → ∃ st'', Sub st'' st' ∧ K' x st'') : Step P N o env st K' := fun a w hg next Q hn =>
  h a w hg next Q fun x st' v w' k hr hrel hx => by
    obtain ⟨st'', hs, hk'⟩ := hk x st' k
    exact hn x st'' v w' hk' (hr.mono (Ext.dropS hs) hrel.nodup) (hrel.dropS hs) (hx.trans (Ext.dropS hs) hg.rel.nodup)
/-- .. read only, from here on. -/
theorem Conv.v1 {st' : St} (h : Sub st' st) {q : Vec} {xs : List AV} (hq : q.ok xs) (hs : ∀ x, x ∈ xs → x.cells = [x]) (hm : ∀ p, p ∈ vst q xs → p ∈ st) (hn : ∀ b cap, q = .at b cap → ∀ o, (b, o) ∉ st') : Conv st st' (.lit (vecV q xs.length)) (.sl xs) := by
  cases q with
  | emp A => have h0 : xs = [] := hq; subst h0; intro w v hr h1; cases h1; exact .sl0 _ _
  | nil => have h0 : xs = [] := hq; subst h0; intro w v hr h1; cases h1; exact .sl0 _ _
  | «at» b cap => exact Conv.vec1 h hq hs (hm _ List.mem_cons_self) (hn b cap rfl)
end
end Go.AL

namespace Go.AL
open Go.RowKit Go.NumSpec
end Go.AL

namespace Go.AL
open Go.NumSpec

abbrev Tri := Int × Int × Int
abbrev resL (r : Tri) : List AV := [.int .i64 r.1, .int .i64 r.2.1, .int .i64 r.2.2]
abbrev resAV (r : Tri) : AV := .agg (resL r)
def fits3 (r : Tri) : Prop := fits r.1 ∧ fits r.2.1 ∧ fits r.2.2
instance (r : Tri) : Decidable (fits3 r) := by unfold fits3; infer_instance
def belowV (x n : Int) : Int := if x.tmod n < 0 then x.tmod n + n else x.tmod n
theorem tmod_lt {x n : Int} (hn : 0 < n) : -n < x.tmod n ∧ x.tmod n < n := by
  have h1 := Int.natAbs_tmod x n
  have h2 : x.natAbs % n.natAbs < n.natAbs := Nat.mod_lt _ (by omega)
  omega
theorem below_in {x n : Int} (hn : 0 < n) : 0 ≤ belowV x n ∧ belowV x n < n := by
  have := tmod_lt (x := x) hn
  unfold belowV; split <;> omega
/-! Sums in any order -/
def tot : List Tri → Tri
  | [] => (0, 0, 0)
  | r :: l => (r.1 + (tot l).1, r.2.1 + (tot l).2.1, r.2.2 + (tot l).2.2)
end Go.AL

namespace Go.AL
open Go.RowKit Go.NumSpec
def withinE (name : List UInt8) (n lo hi : Int) : Er := if n < lo ∨ hi < n then some (1, [name]) else none
def atMostE (name : List UInt8) (n lo hi : Int) : Er := if n < lo ∨ hi < n then some (2, [name]) else none
def mostE (name : List UInt8) (n lo : Int) : Er := if n = 0 then none else withinE name n lo 1099511627776
def reqE (r : Int × Int × Int) : Er := erIn (firstE [withinE [99, 112, 117] r.1 0 1099511627776, withinE [109, 101, 109] r.2.1 0 1099511627776, withinE [112, 105, 100, 115] r.2.2 0 1099511627776]) [114, 101, 113]
def limE (l r : Int × Int × Int) : Er := erIn (firstE [mostE [99, 112, 117] l.1 r.1, mostE [109, 101, 109] l.2.1 r.2.1, mostE [112, 105, 100, 115] l.2.2 r.2.2]) [108, 105, 109]
def probeE (p : Int × Int) (every : Int) : Er := erIn (firstE [withinE [101, 118, 101, 114, 121] p.1 0 every, withinE [102, 97, 105, 108, 115] p.2 (if p.1 = 0 then 0 else 1) (if p.1 = 0 then 0 else 10)]) [112, 114, 111, 98, 101]
def atT (name : List UInt8) (i : Int) : List UInt8 := ((name ++ [91]) ++ textL i) ++ [93]
def probeAV (p : Int × Int) : AV := .agg [.int .i64 p.1, .int .i64 p.2]
abbrev Lab := List UInt8 × List UInt8
def labAV (p : Lab) : AV := .agg [.S p.1, .S p.2]
def labsV (l : List Lab) : List AV := l.map labAV
def keyE (l : List Lab) (i : Nat) : Er := if (erNew (saysV (namesR 2 (l.getD i ([], [])).1) 31) [[107, 101, 121]]).isNone = true ∧ 0 < i ∧ (Op.bytesLess (l.getD i ([], [])).1 (l.getD (i - 1) ([], [])).1 || decide ((l.getD i ([], [])).1 = (l.getD (i - 1) ([], [])).1)) = true then some (4, [[107, 101, 121]]) else erNew (saysV (namesR 2 (l.getD i ([], [])).1) 31) [[107, 101, 121]]
def labelE (name : List UInt8) (l : List Lab) (i : Nat) : Er := erIn (firstE [keyE l i, erNew (saysV (valV (l.getD i ([], [])).2) 32) [[118, 97, 108]]]) (atT name (i : Int))
/-- Where a value stands in a list. -/
def idxG {α : Type} [DecidableEq α] : List α → α → Int
  | [], _ => -1
  | x :: l, s => if x = s then 0 else if idxG l s < 0 then -1 else idxG l s + 1
theorem idxG_hit {α : Type} [DecidableEq α] {s : α} : ∀ {l : List α} {i : Nat} (h : i < l.length), l[i] = s → (∀ j (hj : j < i), l[j]'(by omega) ≠ s) → idxG l s = (i : Int)
  | x :: l, 0, h, e, _ => by simp only [List.getElem_cons_zero] at e; rw [idxG, if_pos e]; rfl
  | x :: l, i + 1, h, e, hn => by
    have h0 := hn 0 (by omega)
    simp only [List.getElem_cons_zero] at h0
    have ih := idxG_hit (l := l) (i := i) (by simpa using h) (by simpa using e) fun j hj => by simpa using hn (j + 1) (by omega)
    rw [idxG, if_neg h0, ih, if_neg (by omega)]
    omega
theorem idxG_none {α : Type} [DecidableEq α] {s : α} : ∀ {l : List α}, (∀ j (hj : j < l.length), l[j] ≠ s) → idxG l s = -1
  | [], _ => rfl
  | x :: l, hn => by
    have h0 := hn 0 (by simp)
    simp only [List.getElem_cons_zero] at h0
    have ih := idxG_none (l := l) fun j hj => by have := hn (j + 1) (by simpa using hj); rw [List.getElem_cons_succ] at this; exact this
    rw [idxG, if_neg h0, ih, if_pos (by omega)]
theorem idxG_mem {α : Type} [DecidableEq α] (s : α) : ∀ (l : List α), (0 ≤ idxG l s) ↔ s ∈ l
  | [] => by simp [idxG]
  | x :: l => by
    have ih := idxG_mem s l
    rw [idxG]
    by_cases h : x = s
    · simp [h]
    · rw [if_neg h]
      have h' : ¬ s = x := fun e => h e.symm
      by_cases hl : idxG l s < 0
      · rw [if_pos hl]
        have : ¬ s ∈ l := fun hm => by have := ih.2 hm; omega
        simp [h', this]
      · rw [if_neg hl]
        have : s ∈ l := ih.1 (by omega)
        simp [this]
        omega
end Go.AL

namespace Go.AL
open Go.RowKit Go.NumSpec
theorem firstE_at : ∀ {es : List Er} {i : Nat} (h : i < es.length) {x : Int × List (List UInt8)}, es[i] = some x → (∀ j (hj : j < i), es[j]'(by omega) = none) → firstE es = some x
  | e :: es, 0, h, x, hx, _ => by simp only [List.getElem_cons_zero] at hx; rw [hx]; rfl
  | e :: es, i + 1, h, x, hx, hn => by
    have h0 := hn 0 (by omega)
    simp only [List.getElem_cons_zero] at h0
    subst h0
    exact firstE_at (es := es) (i := i) (by simpa using h) (by simpa using hx) fun j hj => by have := hn (j + 1) (by omega); rw [List.getElem_cons_succ] at this; exact this
theorem firstE_all : ∀ {es : List Er}, (∀ j (hj : j < es.length), es[j] = none) → firstE es = none
  | [], _ => rfl
  | e :: es, hn => by
    have h0 := hn 0 (by simp)
    simp only [List.getElem_cons_zero] at h0
    subst h0
    exact firstE_all (es := es) fun j hj => by have := hn (j + 1) (by simpa using hj); rw [List.getElem_cons_succ] at this; exact this
def eachE (n : Nat) (f : Nat → Er) : Er := firstE ((List.range n).map f)
theorem eachE_at {n i : Nat} {f : Nat → Er} {x : Int × List (List UInt8)} (h : i < n) (hx : f i = some x) (hn : ∀ j, j < i → f j = none) : eachE n f = some x :=
  firstE_at (i := i) (by simpa using h) (by simpa using hx) fun j hj => by simpa using hn j hj
theorem eachE_all {n : Nat} {f : Nat → Er} (hn : ∀ j, j < n → f j = none) : eachE n f = none := firstE_all fun j hj => by simpa using hn j (by simpa using hj)
theorem eachE_none {n : Nat} {f : Nat → Er} (h : eachE n f = none) : ∀ j, j < n → f j = none := by
  intro j
  induction j using Nat.strongRecOn with
  | ind j ih =>
    intro hj
    cases hf : f j with
    | none => rfl
    | some x => rw [eachE_at hj hf fun k hk => ih k hk (by omega)] at h; cases h
def labelsE (name : List UInt8) (l : List Lab) : Er := match atMostE name (l.length : Int) 0 4 with | some x => some x | none => eachE l.length (labelE name l)
theorem labelsE_bad {name : List UInt8} {l : List Lab} (h : atMostE name (l.length : Int) 0 4 ≠ none) : labelsE name l = atMostE name (l.length : Int) 0 4 := by
  unfold labelsE
  cases hh : atMostE name (l.length : Int) 0 4 with
  | none => exact absurd hh h
  | some x => rfl
theorem labelsE_good {name : List UInt8} {l : List Lab} (h : atMostE name (l.length : Int) 0 4 = none) : labelsE name l = eachE l.length (labelE name l) := by
  unfold labelsE
  rw [h]
end Go.AL
namespace Go.AL
open Go.RowKit Go.NumSpec
structure Ctr where
  name : List UInt8
  image : List UInt8
  req : Int × Int × Int
  lim : Int × Int × Int
  ports : List Int
  probe : Int × Int
def ctrL (c : Ctr) : List AV := [.S c.name, .S c.image, .int .i64 c.req.1, .int .i64 c.req.2.1, .int .i64 c.req.2.2, .int .i64 c.lim.1, .int .i64 c.lim.2.1, .int .i64 c.lim.2.2, .sl (intsV c.ports), .int .i64 c.probe.1, .int .i64 c.probe.2]
def ctrAV (c : Ctr) : AV := .agg (ctrL c)
def nameE (ns : List (List UInt8)) (s : List UInt8) : Er := if (erNew (saysV (nameV s) 30) [[110, 97, 109, 101]]).isNone = true ∧ s ∈ ns then some (7, [[110, 97, 109, 101]]) else erNew (saysV (nameV s) 30) [[110, 97, 109, 101]]
end Go.AL
namespace Go.AL
open Go.RowKit Go.NumSpec
abbrev portsN : List UInt8 := [112, 111, 114, 116, 115]
def portAt (ps l : List Int) (i : Nat) : Er := if (withinE (atT portsN (i : Int)) (l.getD i 0) 1 65535).isNone = true ∧ l.getD i 0 ∈ ps ++ l.take i then some (150, [atT portsN (i : Int)]) else withinE (atT portsN (i : Int)) (l.getD i 0) 1 65535
def portE (ps l : List Int) (n : Int) : Er := match atMostE portsN (l.length : Int) 0 n with | some x => some x | none => eachE l.length (portAt ps l)
theorem portE_bad {ps l : List Int} {n : Int} (h : atMostE portsN (l.length : Int) 0 n ≠ none) : portE ps l n = atMostE portsN (l.length : Int) 0 n := by
  unfold portE
  cases hh : atMostE portsN (l.length : Int) 0 n with
  | none => exact absurd hh h
  | some x => rfl
theorem portE_good {ps l : List Int} {n : Int} (h : atMostE portsN (l.length : Int) 0 n = none) : portE ps l n = eachE l.length (portAt ps l) := by
  unfold portE
  rw [h]
end Go.AL
namespace Go.AL
section
variable {P : Program}
/-- A contract over the front of a state, with a premise on what is behind, serves behind memory of the caller's own. -/
theorem ACalls.preP {G : St → Prop} (hG : ∀ pre F, G F → G (pre ++ F)) {f : FuncId} {args : List AV} {foot : St} {K : AV → St → Prop} (h : ∀ F, G F → ACalls P f args (foot ++ F) fun x st' => ∃ foot', K x foot' ∧ st' = foot' ++ F) (pre F : St) (hF : G F) : ACalls P f args (pre ++ (foot ++ F)) fun x st' => ∃ foot', K x foot' ∧ st' = pre ++ (foot' ++ F) := by
  have perm : ∀ (a : St), (pre ++ (a ++ F)).Perm (a ++ (pre ++ F)) := fun a => by
    rw [← List.append_assoc, ← List.append_assoc]
    exact List.Perm.append_right F List.perm_append_comm
  have hc := h (pre ++ F) (hG pre F hF)
  refine ⟨hc.enters, fun w vs hrel hs hr => ?_⟩
  have hx : Ext (pre ++ (foot ++ F)) w (foot ++ (pre ++ F)) w := Ext.sub fun p hp => (perm foot).mem_iff.2 hp
  have hrel2 : Rel (foot ++ (pre ++ F)) w := hrel.sub (fun p hp => (perm foot).mem_iff.2 hp) (((perm foot).map (·.1)).nodup_iff.1 hrel.nodup)
  refine (hc.calls w vs hrel2 hs fun i x v h1 h2 => (hr i x v h1 h2).mono hx hrel.nodup).mono ?_
  rintro e w' ⟨r, x, st', he, ⟨foot', hk, rfl⟩, hr', hrel', hext⟩
  have hy : Ext (foot' ++ (pre ++ F)) w' (pre ++ (foot' ++ F)) w' := Ext.sub fun p hp => (perm foot').mem_iff.1 hp
  exact ⟨r, x, _, he, ⟨foot', hk, rfl⟩, hr'.mono hy hrel'.nodup, hrel'.sub (fun p hp => (perm foot').mem_iff.1 hp) (((perm foot').map (·.1)).nodup_iff.2 hrel'.nodup), (hx.trans hext hrel.nodup).trans hy hrel.nodup⟩
end
end Go.AL

namespace Go.AL
open Go.RowKit Go.NumSpec
def ctrsV (l : List Ctr) : List AV := l.map ctrAV
def lightC (c : Ctr) : Bool := decide (c.name.length ≤ 100 ∧ c.image.length ≤ 100 ∧ c.ports.length ≤ 10)
theorem intsV_len (l : List Int) : (intsV l).length = l.length := by simp [intsV]
structure Spc where
  name : List UInt8
  labels : List Lab
  init : List Ctr
  main : List Ctr
  restart : Int
  grace : Int
  prio : Int
def spcL (s : Spc) : List AV := [.S s.name, .sl (labsV s.labels), .sl (ctrsV s.init), .sl (ctrsV s.main), .int .i64 s.restart, .int .i64 s.grace, .int .i64 s.prio]
def spcAV (s : Spc) : AV := .agg (spcL s)
def lightL (p : Lab) : Bool := decide (p.1.length ≤ 100 ∧ p.2.length ≤ 100)
def lightS (s : Spc) : Bool := decide (s.name.length ≤ 100 ∧ s.labels.length ≤ 10 ∧ s.init.length ≤ 8 ∧ s.main.length ≤ 8) && s.labels.all lightL && (s.init.all lightC && s.main.all lightC)
end Go.AL
namespace Go.AL
open Go.RowKit Go.NumSpec
def seenSt (ST IT : Nat) (b : Nat) (p q : Own) (ns : List (List UInt8)) (ps : List Int) : St := (b, .cells [ownAV p 1 (strsV ns), ownAV q 1 (intsV ps)]) :: (ownSt p ST 1 (strsV ns) ++ ownSt q IT 1 (intsV ps))
def ctrE (ns : List (List UInt8)) (ps : List Int) (c : Ctr) (ports every : Int) : Er := firstE [nameE ns c.name, erNew (saysV (tparts c.image).2.2 33) [[105, 109, 97, 103, 101]], reqE c.req, limE c.lim c.req, portE ps c.ports ports, probeE c.probe every]
end Go.AL

namespace Go.AL
open Go.RowKit Go.NumSpec
theorem firstE_none : ∀ {es : List Er}, firstE es = none → ∀ e ∈ es, e = none
  | [], _, e, he => by cases he
  | a :: es, h, e, he => by
    cases a with
    | some x => cases h
    | none =>
      rcases List.mem_cons.1 he with rfl | he
      · rfl
      · exact firstE_none (es := es) h e he
theorem ctrE_port {ns : List (List UInt8)} {ps : List Int} {c : Ctr} {ports every : Int} (h : ctrE ns ps c ports every = none) : portE ps c.ports ports = none := firstE_none h _ (by simp)
def namesTo (ns : List (List UInt8)) (l : List Ctr) (i : Nat) : List (List UInt8) := ns ++ (l.take i).map Ctr.name
def portsTo (ps : List Int) (l : List Ctr) (i : Nat) : List Int := ps ++ (l.take i).flatMap Ctr.ports
def ctrAt (ns : List (List UInt8)) (ps : List Int) (l : List Ctr) (ports every : Int) (i : Nat) : Er := match l[i]? with | some c => ctrE (namesTo ns l i) (portsTo ps l i) c ports every | none => none
def ctrsE (name : List UInt8) (ns : List (List UInt8)) (ps : List Int) (l : List Ctr) (ports every : Int) : Er := eachE l.length fun i => erIn (ctrAt ns ps l ports every i) (atT name (i : Int))
theorem ctrAt_at {ns : List (List UInt8)} {ps : List Int} {l : List Ctr} {ports every : Int} {i : Nat} (h : i < l.length) : ctrAt ns ps l ports every i = ctrE (namesTo ns l i) (portsTo ps l i) l[i] ports every := by
  unfold ctrAt; rw [List.getElem?_eq_getElem h]
theorem namesTo_next {ns : List (List UInt8)} {l : List Ctr} {i : Nat} (h : i < l.length) : namesTo ns l (i + 1) = namesTo ns l i ++ [l[i].name] := by
  unfold namesTo; rw [List.take_succ_eq_append_getElem h, List.map_append, ← List.append_assoc]; rfl
theorem portsTo_next {ps : List Int} {l : List Ctr} {i : Nat} (h : i < l.length) : portsTo ps l (i + 1) = portsTo ps l i ++ l[i].ports := by
  unfold portsTo; rw [List.take_succ_eq_append_getElem h, List.flatMap_append, ← List.append_assoc, List.flatMap_singleton]
theorem flat_le {l : List Ctr} (h : ∀ c ∈ l, c.ports.length ≤ 10) : (l.flatMap Ctr.ports).length ≤ 10 * l.length := by
  induction l with
  | nil => simp
  | cons c l ih =>
    have h1 := h c List.mem_cons_self
    have h2 := ih fun x hx => h x (List.mem_cons_of_mem _ hx)
    simp only [List.flatMap_cons, List.length_append, List.length_cons]
    omega
theorem portsTo_le {ps : List Int} {l : List Ctr} {i : Nat} (h : ∀ c ∈ l, c.ports.length ≤ 10) (hl : l.length ≤ 8) (hp : ps.length ≤ 100) : (portsTo ps l i).length ≤ 180 := by
  have h1 := flat_le (l := l.take i) fun c hc => h c (List.mem_of_mem_take hc)
  have h2 : (l.take i).length ≤ l.length := by rw [List.length_take]; omega
  unfold portsTo
  rw [List.length_append]
  omega
theorem namesTo_le {ns : List (List UInt8)} {l : List Ctr} {i : Nat} (hl : l.length ≤ 8) (hp : ns.length ≤ 100) : (namesTo ns l i).length ≤ 108 := by
  have h2 : (l.take i).length ≤ l.length := by rw [List.length_take]; omega
  unfold namesTo
  rw [List.length_append, List.length_map]
  omega
end Go.AL

namespace Go.AL
open Go.RowKit Go.NumSpec
abbrev nameN : List UInt8 := [110, 97, 109, 101]
abbrev labelsN : List UInt8 := [108, 97, 98, 101, 108, 115]
abbrev initN : List UInt8 := [105, 110, 105, 116]
abbrev mainN : List UInt8 := [109, 97, 105, 110]
abbrev check1 (s : Spc) : List Er := [erNew (saysV (nameV s.name) 30) [nameN], labelsE labelsN s.labels, atMostE initN (s.init.length : Int) 0 3]
abbrev check2 (s : Spc) : List Er := [ctrsE initN [] [] s.init 0 0, atMostE mainN (s.main.length : Int) 1 4]
abbrev check3 (s : Spc) : List Er := [ctrsE mainN (namesTo [] s.init s.init.length) (portsTo [] s.init s.init.length) s.main 3 1000, withinE [114, 101, 115, 116, 97, 114, 116] s.restart 1 3, withinE [103, 114, 97, 99, 101] s.grace 0 1000, withinE [112, 114, 105, 111] s.prio 0 10]
def checkE (s : Spc) : Er := match firstE (check1 s) with | some x => some x | none => match firstE (check2 s) with | some x => some x | none => firstE (check3 s)
theorem check_bad1 {s : Spc} {x : Int × List (List UInt8)} (h : firstE (check1 s) = some x) : checkE s = some x := by unfold checkE; rw [h]
theorem check_bad2 {s : Spc} {x : Int × List (List UInt8)} (h : firstE (check1 s) = none) (h2 : firstE (check2 s) = some x) : checkE s = some x := by unfold checkE; rw [h, h2]
theorem check_good {s : Spc} (h : firstE (check1 s) = none) (h2 : firstE (check2 s) = none) : checkE s = firstE (check3 s) := by unfold checkE; rw [h, h2]
theorem check_all {s : Spc} (h : checkE s = none) : firstE (check1 s) = none ∧ firstE (check2 s) = none ∧ firstE (check3 s) = none := by
  unfold checkE at h
  cases h1 : firstE (check1 s) with
  | some x => rw [h1] at h; cases h
  | none =>
    rw [h1] at h
    cases h2 : firstE (check2 s) with
    | some x => rw [h2] at h; cases h
    | none => rw [h2] at h; exact ⟨rfl, rfl, h⟩
theorem lightS_out {s : Spc} (h : lightS s = true) : s.name.length ≤ 100 ∧ s.labels.length ≤ 10 ∧ s.init.length ≤ 8 ∧ s.main.length ≤ 8 ∧ (∀ x ∈ s.labels, x.1.length ≤ 1000000 ∧ x.2.length ≤ 1000000) ∧ (∀ c ∈ s.init, lightC c = true) ∧ ∀ c ∈ s.main, lightC c = true := by
  unfold lightS at h
  simp only [Bool.and_eq_true, decide_eq_true_eq, List.all_eq_true] at h
  obtain ⟨⟨⟨h1, h2, h3, h4⟩, h5⟩, h6, h7⟩ := h
  refine ⟨h1, h2, h3, h4, fun x hx => ?_, h6, h7⟩
  have := h5 x hx
  unfold lightL at this
  rw [decide_eq_true_eq] at this
  omega

theorem check_seen {s : Spc} (h : firstE (check1 s) = none) (hc : ∀ c ∈ s.init, lightC c = true) : (namesTo [] s.init s.init.length).length ≤ 100 ∧ (portsTo [] s.init s.init.length).length ≤ 100 := by
  have h3 := firstE_none h (atMostE initN (s.init.length : Int) 0 3) (List.mem_cons_of_mem _ (List.mem_cons_of_mem _ List.mem_cons_self))
  have h3 : s.init.length ≤ 3 := by
    unfold atMostE at h3
    split at h3
    · cases h3
    · omega
  have h1 := flat_le (l := s.init) fun c h => (of_decide_eq_true (hc c h)).2.2
  unfold namesTo portsTo
  rw [List.take_length, List.length_append, List.length_append, List.length_map]
  simp only [List.length_nil]
  omega

/-! ### What a pod asks for covers all -/
def leR (a b : Tri) : Prop := a.1 ≤ b.1 ∧ a.2.1 ≤ b.2.1 ∧ a.2.2 ≤ b.2.2
theorem leR.refl (a : Tri) : leR a a := ⟨Int.le_refl _, Int.le_refl _, Int.le_refl _⟩
theorem leR.trans {a b c : Tri} (h : leR a b) (k : leR b c) : leR a c := ⟨Int.le_trans h.1 k.1, Int.le_trans h.2.1 k.2.1, Int.le_trans h.2.2 k.2.2⟩
theorem within_none {name : List UInt8} {n lo hi : Int} (h : withinE name n lo hi = none) : lo ≤ n ∧ n ≤ hi := by
  unfold withinE at h
  split at h
  · cases h
  · omega
theorem erIn_none {e : Er} {p : List UInt8} (h : erIn e p = none) : e = none := by cases e with | none => rfl | some x => cases h
theorem ctrsE_each {name : List UInt8} {ns : List (List UInt8)} {ps : List Int} {l : List Ctr} {ports every : Int} (h : ctrsE name ns ps l ports every = none) {i : Nat} (hi : i < l.length) : ctrE (namesTo ns l i) (portsTo ps l i) l[i] ports every = none := by
  have := erIn_none (eachE_none h i hi)
  rwa [ctrAt_at hi] at this
end Go.AL

namespace Go.AL
open Go.RowKit Go.NumSpec
def sameL {α : Type} (f : α → α → Bool) : List α → List α → Bool
  | [], [] => true
  | a :: l, b :: m => f a b && sameL f l m
  | _, _ => false
theorem sameL_len {α : Type} {f : α → α → Bool} : ∀ {l m : List α}, l.length ≠ m.length → sameL f l m = false
  | [], [], h => absurd rfl h
  | a :: l, b :: m, h => by unfold sameL; rw [sameL_len (l := l) (m := m) (fun e => h (by simp [e])), Bool.and_false]
  | [], b :: m, _ => rfl
  | a :: l, [], _ => rfl
theorem sameL_bad {α : Type} {f : α → α → Bool} : ∀ {l m : List α} {i : Nat} (h : i < l.length) (h' : i < m.length), f l[i] m[i] = false → sameL f l m = false
  | a :: l, b :: m, 0, _, _, h => by simp only [List.getElem_cons_zero] at h; unfold sameL; rw [h, Bool.false_and]
  | a :: l, b :: m, i + 1, h1, h2, h => by unfold sameL; rw [sameL_bad (l := l) (m := m) (i := i) (by simpa using h1) (by simpa using h2) (by simpa using h), Bool.and_false]
theorem sameL_all {α : Type} {f : α → α → Bool} : ∀ {l m : List α}, l.length = m.length → (∀ i (h : i < l.length) (h' : i < m.length), f l[i] m[i] = true) → sameL f l m = true
  | [], [], _, _ => rfl
  | a :: l, b :: m, hl, h => by
    unfold sameL
    rw [show f a b = true from h 0 (by simp) (by simp), sameL_all (l := l) (m := m) (by simpa using hl) fun i h1 h2 => h (i + 1) (Nat.succ_lt_succ h1) (Nat.succ_lt_succ h2), Bool.and_true]
theorem sameL_eq {α : Type} [DecidableEq α] {l m : List α} : sameL (fun a b => decide (a = b)) l m = decide (l = m) := by
  induction l generalizing m with
  | nil => cases m <;> simp [sameL]
  | cons a l ih => cases m <;> simp [sameL, ih]
theorem sameL_iff {α : Type} {f : α → α → Bool} (hf : ∀ a b, f a b = true ↔ a = b) : ∀ {l m : List α}, sameL f l m = true ↔ l = m
  | [], [] => by simp [sameL]
  | a :: l, b :: m => by simp [sameL, hf, sameL_iff hf (l := l) (m := m)]
  | [], b :: m => by simp [sameL]
  | a :: l, [] => by simp [sameL]
def alikeC (a b : Ctr) : Bool := decide (a.name = b.name) && (decide (a.req = b.req) && (decide (a.lim = b.lim) && (decide (a.ports = b.ports) && decide (a.probe = b.probe))))
def exactC (a b : Ctr) : Bool := alikeC a b && decide (a.image = b.image)
theorem exactC_iff {a b : Ctr} : exactC a b = true ↔ a = b := by
  cases a; cases b
  simp only [exactC, alikeC, Bool.and_eq_true, decide_eq_true_eq, Ctr.mk.injEq]
  constructor
  · rintro ⟨⟨h1, h2, h3, h4, h5⟩, h6⟩; exact ⟨h1, h6, h2, h3, h4, h5⟩
  · rintro ⟨h1, h2, h3, h4, h5, h6⟩; exact ⟨⟨h1, h3, h4, h5, h6⟩, h2⟩
theorem alikeC_refl (a : Ctr) : alikeC a a = true := by simp [alikeC]
theorem exactC_refl (a : Ctr) : exactC a a = true := exactC_iff.2 rfl
theorem sameL_refl {α : Type} {f : α → α → Bool} (hf : ∀ a, f a a = true) : ∀ l : List α, sameL f l l = true
  | [] => rfl
  | a :: l => by simp [sameL, hf, sameL_refl hf l]
def portsS (s : Spc) : List Int := s.main.flatMap Ctr.ports
/-- What of the main container i an update changes. -/
def frozenAt (a b : List Ctr) (i : Nat) : Er := match a[i]?, b[i]? with
  | some x, some y => if alikeC x y = false then some (4, [atT mainN (i : Int)]) else if x.image ≠ y.image ∧ sameV x.image y.image = false then some (33, [atT mainN (i : Int), [105, 109, 97, 103, 101]]) else none
  | _, _ => none
def frozenE (a b : Spc) : Er := if a.name ≠ b.name then some (4, [nameN]) else if sameL exactC a.init b.init = false then some (4, [initN]) else if a.main.length ≠ b.main.length then some (4, [mainN]) else eachE a.main.length (frozenAt a.main b.main)
theorem frozenAt_at {a b : List Ctr} {i : Nat} (h : i < a.length) (h' : i < b.length) : frozenAt a b i = if alikeC a[i] b[i] = false then some (4, [atT mainN (i : Int)]) else if a[i].image ≠ b[i].image ∧ sameV a[i].image b[i].image = false then some (33, [atT mainN (i : Int), [105, 109, 97, 103, 101]]) else none := by
  unfold frozenAt; rw [List.getElem?_eq_getElem h, List.getElem?_eq_getElem h']
theorem res_eqB {a b : Tri} : (decide (a.1 = b.1) && (decide (a.2.1 = b.2.1) && (decide (a.2.2 = b.2.2) && true))) = decide (a = b) := by
  rw [Bool.eq_iff_iff]; simp only [Bool.and_eq_true, decide_eq_true_eq, and_true]
  exact ⟨fun ⟨h1, h2, h3⟩ => Prod.ext h1 (Prod.ext h2 h3), fun h => by subst h; exact ⟨rfl, rfl, rfl⟩⟩
theorem probe_eqB {a b : Int × Int} : (decide (a.1 = b.1) && (decide (a.2 = b.2) && true)) = decide (a = b) := by
  rw [Bool.eq_iff_iff]; simp only [Bool.and_eq_true, decide_eq_true_eq, and_true]
  exact ⟨fun ⟨h1, h2⟩ => Prod.ext h1 h2, fun h => by subst h; exact ⟨rfl, rfl⟩⟩
theorem lab_eqB {a b : Lab} : (decide (a.1 = b.1) && (decide (a.2 = b.2) && true)) = decide (a = b) := by
  rw [Bool.eq_iff_iff]; simp only [Bool.and_eq_true, decide_eq_true_eq, and_true]
  exact ⟨fun ⟨h1, h2⟩ => Prod.ext h1 h2, fun h => by subst h; exact ⟨rfl, rfl⟩⟩
theorem flat_snoc {α β : Type} {f : α → List β} {l : List α} {i : Nat} (h : i < l.length) : (l.take i).flatMap f ++ f l[i] = (l.take (i + 1)).flatMap f := by
  rw [List.take_succ_eq_append_getElem h, List.flatMap_append, List.flatMap_singleton]
/-! the chapter's example -/
def ctrA6 : Ctr := ⟨[97], [119, 101, 98, 58, 49], (0, 0, 0), (0, 0, 0), [], (0, 0)⟩
def ctrB6 (name : List UInt8) : Ctr := ⟨name, [119, 101, 98, 58, 50], (0, 0, 0), (0, 0, 0), [80], (0, 0)⟩
def plain6 (name : List UInt8) : Spc := ⟨[119, 101, 98], [], [], [ctrA6, ctrB6 name], 3, 0, 0⟩
end Go.AL

namespace Go.AL
open Go.RowKit
section
variable {P : Program} {N : Nat} {env : Env} {st : St} {o : Oper}
/-- A literal slice that may be written. -/
theorem S_buildV {t e : TypeId} {n : Nat} {parts : List (Nat × Operand)} {ys : List AV} (m : Nat) (ho : o.op = .buildSlice t n parts.toArray) (hxs : AEvs env (parts.map (·.2)) ys) (hp : parts.map (·.1) = List.range n) (hu : P.underlying t = some (.slice e))
    (hz : (P.info? e).map (fun i => (i.size, i.zero.map (·.cells.size))) = some (m, some m)) (hm : ∀ y ∈ ys, y.flat = true ∧ y.cells.length = m) (hpos : 0 < m) (hn : 0 < n) (hsm : n * m ≤ 2 ^ 24) :
    Step P N o env st fun z st' => ∃ b, z = .lit (.slice (some ⟨b, 0, none⟩) n n) ∧ st' = (b, .cells (ys.flatMap AV.cells)) :: st := by
  intro a w hg next Q hnx
  obtain ⟨hl, hr⟩ := hxs.at_ hg
  have hpl : parts.length = n := by have := congrArg List.length hp; simpa using this
  have hyl : ys.length = n := by have := hl; simp at this; omega
  obtain ⟨i, hi⟩ : ∃ i, P.info? e = some i := by cases h : P.info? e with | none => simp [h] at hz | some i => exact ⟨i, rfl⟩
  have hz1 : i.size = m := by simp [hi] at hz; exact hz.1
  obtain ⟨z, hzz⟩ : ∃ z, i.zero = some z := by cases h : i.zero with | none => simp [hi, h] at hz | some z => exact ⟨z, rfl⟩
  let vs := parts.map fun p => a.eval p.2
  have hvs : vs.length = n := by simp [vs, hpl]
  have hpe : (parts.map fun p => (p.1, a.eval p.2)) = (vs.zipIdx 0).map fun x => (x.2, x.1) := by
    refine List.ext_getElem? fun k => ?_
    simp only [List.getElem?_map, List.getElem?_zipIdx, vs]
    cases hk : parts[k]? with
    | none => simp
    | some p =>
      have h1 := congrArg (fun l => l[k]?) hp
      have hkn : k < n := by have := (List.getElem?_eq_some_iff.1 hk).1; omega
      simp [hk, hkn] at h1
      simp [h1]
  have hr' : ∀ (k : Nat) y v, ys[k]? = some y → vs[k]? = some v → R st w y v := fun k y v hy hv => by
    simp only [vs, List.getElem?_map] at hv
    cases hk : parts[k]? with
    | none => simp [hk] at hv
    | some p =>
      simp [hk] at hv
      subst hv
      exact hr k y p.2 hy (by simp [hk])
  have hvm : ∀ v ∈ vs, v.cells.size = m := fun v hv => by
    obtain ⟨k, hk⟩ := List.mem_iff_getElem?.1 hv
    have hlt : k < ys.length := by have := (List.getElem?_eq_some_iff.1 hk).1; omega
    have hy := hm ys[k] (List.getElem_mem hlt)
    rw [((hr' k ys[k] v (List.getElem?_eq_getElem hlt) hk).cells hy.1).1, hy.2]
  have hnm : n * m ≠ 0 := Nat.mul_ne_zero (by omega) (by omega)
  have hfill := Go.Great.fill_whole hpos vs ((Array.range (n * i.size)).map (z.cells[· % z.cells.size]!)) hvm (by simp [hvs, hz1])
  let ws : Array Value := (vs.flatMap fun v => v.cells.toList).toArray
  have hwsz : ∀ l : List Value, (∀ v ∈ l, v.cells.size = m) → (l.flatMap fun v => v.cells.toList).length = l.length * m := fun l => by
    induction l with
    | nil => intro _; simp
    | cons v l ih =>
      intro h
      rw [List.flatMap_cons, List.length_append, ih fun x hx => h x (List.mem_cons_of_mem _ hx), List.length_cons, Nat.add_mul, Array.length_toList, h v List.mem_cons_self]
      omega
  have hws : ∀ (l : List Value), (∀ v ∈ l, v.cells.size = m) → ∀ (k j : Nat) v u, l[k]? = some v → v.cells[j]? = some u → (l.flatMap fun v => v.cells.toList)[k * m + j]? = some u := fun l => by
    induction l with
    | nil => intro _ k j v u h; simp at h
    | cons v l ih =>
      intro h k j x u hx hu'
      rw [List.flatMap_cons]
      have hv := h v List.mem_cons_self
      cases k with
      | zero =>
        simp at hx; subst hx
        have hj : j < v.cells.toList.length := by have := (Array.getElem?_eq_some_iff.1 hu').1; simpa using this
        rw [Nat.zero_mul, Nat.zero_add, List.getElem?_append_left hj]
        simpa using hu'
      | succ k =>
        have := ih (fun y hy => h y (List.mem_cons_of_mem _ hy)) k j x u (by simpa using hx) hu'
        rw [List.getElem?_append_right (by rw [Array.length_toList, hv, Nat.add_mul]; omega), Array.length_toList, hv, Nat.add_mul, Nat.one_mul, show k * m + m + j - m = k * m + j by omega]
        exact this
  have hsz : ws.size = n * m := by simp only [ws, List.size_toArray]; rw [hwsz vs hvm, hvs]
  have hrun : (execOp a.eval o).run P w = .ok (.value (.slice (some ⟨w.heap.size, 0, none⟩) n n)) (w.alloc (.cells ws e)) := by
    have := run_buildSlice (P := P) w t e n ((parts.map fun p => (p.1, a.eval p.2)).toArray) _ i z hu hi hzz (by rw [hz1]; omega) (by rw [hz1]; exact hnm) (by rw [List.toList_toArray, hpe, hz1]; rw [hz1] at hfill; exact hfill)
    simp only [execOp, ho, Sem.run_bind, List.map_toArray]
    rw [this]
    simp [ws]
  have hfl : (ys.flatMap AV.cells).length = n * m := by rw [flat_len fun y hy => (hm y hy).2, hyl]
  obtain ⟨k1, k2⟩ := alloc_rel hg.rel (T := e) (ob := .cells (ys.flatMap AV.cells)) (vs := ws) ⟨by rw [hsz, hfl], fun q c u hc hu' => by
    obtain ⟨k, y, j, hy, hcj, rfl⟩ := flat_get (fun y hy => (hm y hy).2) hc
    have hlt : k < vs.length := by have := (List.getElem?_eq_some_iff.1 hy).1; omega
    have hv := List.getElem?_eq_getElem hlt
    obtain ⟨c1, c2⟩ := (hr' k y vs[k] hy hv).cells (hm y (List.mem_of_getElem? hy)).1
    have hj : j < (vs[k]).cells.size := by rw [c1]; exact (List.getElem?_eq_some_iff.1 hcj).1
    have h1 := hws vs hvm k j vs[k] ((vs[k]).cells[j]) hv (by simp [hj])
    have h2 : u = (vs[k]).cells[j] := by
      have h3 : (vs.flatMap fun v => v.cells.toList)[k * m + j]? = some u := by simpa [ws] using hu'
      rw [h1] at h3
      exact (Option.some.inj h3).symm
    rw [h2]
    exact c2 j c _ hcj (by simp [hj])⟩
  unfold Oper.wp
  rw [hrun]
  exact hnx _ _ _ _ ⟨w.heap.size, rfl, rfl⟩ (.lit _) k1 k2

theorem Ext.widenG {gs : List (Nat × List Value)} {w w' : World} (hrel : Rel st w) (hs : ∀ p, p ∈ Gs gs → p ∈ st) (h : Ext (Gs gs) w (Gs gs) w') : Ext st w st w' := by
  have hk : ∀ b o, (b, o) ∈ st → (∀ vs, o ≠ .konst vs) → ∀ o', (b, o') ∉ Gs gs := fun b o ho hne o' ho' => by
    obtain rfl := key_unique hrel.nodup ho (hs _ ho')
    obtain ⟨p, _, hp⟩ := List.mem_map.1 ho'
    cases hp
    exact hne _ rfl
  refine ⟨h.os, h.tape, h.output, h.shape, h.size, fun b hb hn => h.keep b hb fun o ho => hn o (hs _ ho), fun b e size n cap hb hg off _ => World.cell?_of_block (w := w) (h.keep b hb (hk b _ hg fun vs hh => by cases hh)), fun _ _ _ h => h, fun b vs hb hg => ?_⟩
  by_cases hin : ∃ o, (b, o) ∈ Gs gs
  · obtain ⟨o, ho⟩ := hin
    obtain rfl := key_unique hrel.nodup hg (hs _ ho)
    exact h.konst b vs hb ho
  · exact h.keep b hb fun o ho => hin ⟨o, ho⟩
theorem Rel.widenG {gs : List (Nat × List Value)} {w w' : World} (hr : Rel st w) (hs : ∀ p, p ∈ Gs gs → p ∈ st) (h : Ext (Gs gs) w (Gs gs) w') : Rel st w' := by
  have hx := Ext.widenG hr hs h
  have hk : ∀ b o, (b, o) ∈ st → (∀ vs, o ≠ .konst vs) → w'.heap[b]? = w.heap[b]? := fun b o ho hne => h.keep b (key_lt hr ho) fun o' ho' => by
    obtain rfl := key_unique hr.nodup ho (hs _ ho')
    obtain ⟨p, _, hp⟩ := List.mem_map.1 ho'
    cases hp
    exact hne _ rfl
  exact ⟨hr.nodup, fun b cs hb => let ⟨vs, T, k1, k2, k3⟩ := hr.cells b cs hb; ⟨vs, T, by rw [hk b _ hb fun vs hh => by cases hh]; exact k1, k2, fun i c v hc hv => (k3 i c v hc hv).mono hx hr.nodup⟩,
    fun b e size n cap hb => let ⟨vs, k1, k2⟩ := hr.grow b e size n cap hb; ⟨vs, by rw [hk b _ hb fun vs hh => by cases hh]; exact k1, k2⟩, fun b vs hb => hx.konst_rel hr hb⟩

theorem GCalls.of_eq {gs : List (Nat × List Value)} {f : FuncId} {args : List AV} {V V' : AV} (h : GCalls P gs f args V) (e : V = V') : GCalls P gs f args V' := e ▸ h
/-- What a call over tables wants of each argument, where it only reads. -/
inductive LendsG (st : St) (g : St) : List AV → List AV → Prop
  | nil : LendsG st g [] []
  | cons {a b : AV} {as bs : List AV} (h : Conv st g a b) (t : LendsG st g as bs) : LendsG st g (a :: as) (b :: bs)
theorem LendsG.len {g : St} {as bs : List AV} (h : LendsG st g as bs) : as.length = bs.length := by induction h <;> simp [*]
theorem LendsG.at_ {g : St} {as bs : List AV} (h : LendsG st g as bs) : ∀ (i : Nat) b, bs[i]? = some b → ∃ a, as[i]? = some a ∧ Conv st g a b := by
  induction h with
  | nil => intro i b h; simp at h
  | cons h t ih =>
    intro i b hb
    cases i with
    | zero => simp at hb; subst hb; exact ⟨_, rfl, h⟩
    | succ i => simp at hb; simpa using ih i b hb

/-- A call over tables that reads what may still be written, and yields a plain value. -/
theorem S_gcallB {gs : List (Nat × List Value)} {f : FuncId} {xs : List Operand} {ts : Array TypeId} {as args : List AV} {v : Value} (hG : ∀ p, p ∈ Gs gs → p ∈ st) (hnd : ((Gs gs).map (·.1)).Nodup) (ho : o.op = .call { callee := .value (.func f), args := xs.toArray, argTypes := ts }) (hargs : AEvs env xs as) (hl : LendsG st (Gs gs) as args) (hc : GCalls P gs f args (.lit v)) : PStep P N o env st (.lit v) := by
  intro a w hg next Q hn
  obtain ⟨hlen, hr⟩ := hargs.at_ hg
  have hc0 := hc (Gs gs) fun p hp => hp
  have hrun : (execOp a.eval o).run P w = .ok (.enter f (xs.map a.eval).toArray) w := by
    simp [execOp, ho, resolve, Deferred.ofValue, Act.eval, invoke, run_callFunc' hc0.enters]
  unfold Oper.wp
  rw [hrun]
  refine (hc0.calls w _ (hg.rel.sub hG hnd) (by have := hl.len; simp; omega) fun i x u hx hv => ?_).mono ?_
  · simp at hv
    obtain ⟨y, hy, rfl⟩ := hv
    obtain ⟨z, hz, hcv⟩ := hl.at_ i x hx
    exact hcv w _ hg.rel (hr i z y hz hy)
  · rintro e w' ⟨r, x, st', rfl, ⟨rfl, rfl⟩, h1, h2, h3⟩
    cases h1
    exact hn _ st _ w' ⟨rfl, rfl⟩ (.lit _) (hg.rel.widenG hG h3) (Ext.widenG hg.rel hG h3)

/-- What may be written there may be written here. -/
def MutLe (st st' : St) : Prop := ∀ b off, Mut st' b off → Mut st b off
theorem MutLe.memb {st' : St} (h : ∀ p, p ∈ st' → p ∈ st) : MutLe st st' := fun b off ⟨o, ho, hop⟩ => ⟨o, h _ ho, hop⟩
theorem MutLe.cells {s' : St} {k : Nat} {cs ds : List AV} (h : MutLe st s') : MutLe ((k, .cells cs) :: st) ((k, .cells ds) :: s') := fun b off ⟨o, ho, hop⟩ => by
  rcases List.mem_cons.1 ho with h1 | h1
  · cases h1; exact ⟨_, List.mem_cons_self, trivial⟩
  · obtain ⟨o', h2, h3⟩ := h b off ⟨o, h1, hop⟩; exact ⟨o', List.mem_cons_of_mem _ h2, h3⟩
theorem MutLe.drop {s' : St} {p : Nat × Ob} (h : MutLe st s') : MutLe (p :: st) s' := fun b off hm => let ⟨o', h2, h3⟩ := h b off hm; ⟨o', List.mem_cons_of_mem _ h2, h3⟩
theorem MutLe.refl (s : St) : MutLe s s := fun _ _ h => h
theorem MutLe.ext {st' : St} (h : MutLe st st') (w : World) : Ext st w st' w := ⟨rfl, rfl, rfl, fun _ _ => rfl, Nat.le_refl _, fun _ _ _ => rfl, fun _ _ _ _ _ _ _ _ _ => rfl, fun b off _ hm => h b off hm, fun _ _ _ _ => rfl⟩
theorem Conv.mut {st' : St} (h : MutLe st st') {a b : AV} (hl : Le a b) : Conv st st' a b := fun w v hr h1 => hl _ _ _ (h1.mono (h.ext w) hr.nodup)
theorem Conv.memb {st' : St} (h : ∀ p, p ∈ st' → p ∈ st) {a b : AV} (hl : Le a b) : Conv st st' a b := Conv.mut (MutLe.memb h) hl
theorem Conv.nd {st' : St} {a b : AV} (h : (st.map (·.1)).Nodup → Conv st st' a b) : Conv st st' a b := fun w v hr => h hr.nodup w v hr
theorem LendsG.agg {g : St} {as bs : List AV} (h : LendsG st g as bs) : Conv st g (.agg as) (.agg bs) := .agg h.len fun i c d hc hd => by
  obtain ⟨a, ha, hcv⟩ := h.at_ i d hd
  rw [hc] at ha; cases ha; exact hcv
/-- One's own vector, seen where it is no longer written. -/
theorem Conv.vecM {st' : St} (hs' : MutLe st st') {q : Vec} {size : Nat} {xs : List AV} (hq : q.ok xs) (hs : ∀ x, x ∈ xs → x.cells.length = size) (hm : ∀ p, p ∈ vecSt q size xs → p ∈ st) (hn : ∀ b cap, q = .at b cap → ∀ o, (b, o) ∉ st') : Conv st st' (.lit (vecV q xs.length)) (.sl xs) := fun w v hr h1 => by
  have h2 := Conv.vec (st := st) (st' := []) Sub.nil hq hs hm (fun _ _ _ o h => by cases h) w v hr h1
  cases q with
  | nil => have : xs = [] := hq; subst this; cases h1; exact .sl0 _ _
  | emp A => have : xs = [] := hq; subst this; cases h1; exact .sl0 _ _
  | «at» b cap =>
    cases h1
    obtain ⟨vs, T, g1, g2, g3⟩ := hr.cells b (vecCells size cap xs) (hm _ List.mem_cons_self)
    have hcell : ∀ (i : Nat) x (j : Nat) c, xs[i]? = some x → x.cells[j]? = some c → ∃ u, vs[i * size + j]? = some u ∧ R st w c u := fun i x j c hx hc => by
      have h2 := flat_at hs hx hc
      have h3 : (vecCells size cap xs)[i * size + j]? = some c := by unfold vecCells; rw [List.getElem?_append_left (List.getElem?_eq_some_iff.1 h2).1]; exact h2
      have hlt : i * size + j < vs.size := by rw [g2]; exact (List.getElem?_eq_some_iff.1 h3).1
      exact ⟨vs[i * size + j], by simp [hlt], g3 _ c _ h3 (by simp [hlt])⟩
    refine .sl xs b 0 cap size (fun k => (vs[k]?).getD undef) hq (fun i x hx => hs x (List.mem_of_getElem? hx)) (fun i x j c hx hc => ?_) fun i x j c hx hc => ?_
    · obtain ⟨u, k1, k2⟩ := hcell i x j c hx hc
      refine ⟨by simp only [World.cell?, g1, Option.isSome_none, Bool.false_eq_true, if_false, Nat.zero_add, k1, Option.getD_some], fun ⟨o, ho, _⟩ => hn b cap rfl o ho⟩
    · obtain ⟨u, k1, k2⟩ := hcell i x j c hx hc
      rw [k1]
      exact k2.mono (hs'.ext w) hr.nodup
theorem not_table {gs : List (Nat × List Value)} {b : Nat} {cs : List AV} (hn : (st.map (·.1)).Nodup) (hG : ∀ p, p ∈ Gs gs → p ∈ st) (hb : (b, Ob.cells cs) ∈ st) : ∀ o, (b, o) ∉ Gs gs := fun o ho => by
  have h := key_unique hn hb (hG _ ho)
  obtain ⟨p, _, hp⟩ := List.mem_map.1 ho
  cases hp
  cases h
/-- The slots' values as they are in another state. -/
inductive EnvConv (st st' : St) (env : Env) : Env → Prop
  | nil : EnvConv st st' env []
  | cons {i : Nat} {x y : AV} {rest : Env} (h : env.lookup i = some y) (hl : Conv st st' y x) (t : EnvConv st st' env rest) : EnvConv st st' env ((i, x) :: rest)
theorem EnvConv.spec {st' : St} {env' : Env} (h : EnvConv st st' env env') : ∀ i x, env'.lookup i = some x → ∃ y, env.lookup i = some y ∧ Conv st st' y x := by
  induction h with
  | nil => intro i x hi; simp at hi
  | @cons j u v rest h1 h2 t ih =>
    intro i x hi
    simp only [List.lookup_cons] at hi
    by_cases hij : i = j
    · subst hij
      simp only [beq_self_eq_true] at hi
      cases hi
      exact ⟨v, h1, h2⟩
    · have : (i == j) = false := by simpa using hij
      simp only [this] at hi
      exact ih i x hi
/-- One state's memory, in another one: the same, or cells whose values are seen otherwise. -/
inductive StConv (st st' : St) : St → St → Prop
  | nil : StConv st st' [] []
  | drop {p : Nat × Ob} {a b : St} (t : StConv st st' a b) : StConv st st' (p :: a) b
  | same {p : Nat × Ob} {a b : St} (t : StConv st st' a b) (h : ∀ cs, p.2 = .cells cs → ∀ c ∈ cs, Conv st st' c c) : StConv st st' (p :: a) (p :: b)
  | cells {k : Nat} {cs ds : List AV} {a b : St} (hl : ds.length = cs.length) (h : ∀ (i : Nat) c d, cs[i]? = some c → ds[i]? = some d → Conv st st' c d) (t : StConv st st' a b) : StConv st st' ((k, .cells cs) :: a) ((k, .cells ds) :: b)
  | rest (a : St) (h : ∀ c, Conv st st' c c) : StConv st st' a a
theorem StConv.cellsL {st st' : St} {k : Nat} {cs ds : List AV} {a b : St} (h : LendsG st st' cs ds) (t : StConv st st' a b) : StConv st st' ((k, .cells cs) :: a) ((k, .cells ds) :: b) := .cells h.len.symm (fun i c d hc hd => by
  obtain ⟨x, hx, hcv⟩ := h.at_ i d hd
  rw [hc] at hx; cases hx; exact hcv) t
theorem StConv.keys {s s' a b : St} (h : StConv s s' a b) : List.Sublist (b.map (·.1)) (a.map (·.1)) := by
  induction h with
  | nil => exact .refl _
  | drop _ ih => exact ih.cons _
  | same _ _ ih => exact ih.cons_cons _
  | cells _ _ _ ih => exact ih.cons_cons _
  | rest _ _ => exact .refl _
theorem StConv.mem {s s' a b : St} (h : StConv s s' a b) : ∀ k o, (k, o) ∈ b → (∃ cs ds, o = .cells ds ∧ (k, .cells cs) ∈ a ∧ ds.length = cs.length ∧ ∀ (i : Nat) c d, cs[i]? = some c → ds[i]? = some d → Conv s s' c d) ∨ ((k, o) ∈ a ∧ ∀ cs, o ≠ .cells cs) := by
  induction h with
  | nil => intro k o h; cases h
  | drop _ ih =>
    intro k o h
    rcases ih k o h with ⟨cs, ds, h1, h2, h3⟩ | ⟨h1, h2⟩
    · exact .inl ⟨cs, ds, h1, List.mem_cons_of_mem _ h2, h3⟩
    · exact .inr ⟨List.mem_cons_of_mem _ h1, h2⟩
  | @same p a b t hp ih =>
    intro k o h
    rcases List.mem_cons.1 h with h | h
    · subst h
      cases o with
      | cells cs => exact .inl ⟨cs, cs, rfl, List.mem_cons_self, rfl, fun i c d hc hd => by rw [hc] at hd; cases hd; exact hp cs rfl c (List.mem_of_getElem? hc)⟩
      | grow e size n cap => exact .inr ⟨List.mem_cons_self, fun cs hh => by cases hh⟩
      | konst vs => exact .inr ⟨List.mem_cons_self, fun cs hh => by cases hh⟩
    · rcases ih k o h with ⟨cs, ds, h1, h2, h3⟩ | ⟨h1, h2⟩
      · exact .inl ⟨cs, ds, h1, List.mem_cons_of_mem _ h2, h3⟩
      · exact .inr ⟨List.mem_cons_of_mem _ h1, h2⟩
  | @cells k' cs ds a b hl hc t ih =>
    intro k o h
    rcases List.mem_cons.1 h with h | h
    · cases h; exact .inl ⟨cs, ds, rfl, List.mem_cons_self, hl, hc⟩
    · rcases ih k o h with ⟨cs, ds, h1, h2, h3⟩ | ⟨h1, h2⟩
      · exact .inl ⟨cs, ds, h1, List.mem_cons_of_mem _ h2, h3⟩
      · exact .inr ⟨List.mem_cons_of_mem _ h1, h2⟩
  | rest a hc =>
    intro k o h
    cases o with
    | cells cs => exact .inl ⟨cs, cs, rfl, h, rfl, fun i c d h1 h2 => by rw [h1] at h2; cases h2; exact hc c⟩
    | grow e size n cap => exact .inr ⟨h, fun cs hh => by cases hh⟩
    | konst vs => exact .inr ⟨h, fun cs hh => by cases hh⟩

theorem AC_conv {Q : Post} {c : Code} {st' : St} {env' : Env} (hs : StConv st st' st st') (he : EnvConv st st' env env') (h : AC P N c Q env' st') : AC P N c Q env st := fun a w hg => by
  have hopen : ∀ b off, Mut st' b off → Mut st b off := fun b off ⟨o, ho, hop⟩ => by
    rcases hs.mem b o ho with ⟨cs, ds, rfl, h2, _⟩ | ⟨h1, _⟩
    · exact ⟨_, h2, trivial⟩
    · exact ⟨_, h1, hop⟩
  have hx : Ext st w st' w := ⟨rfl, rfl, rfl, fun _ _ => rfl, Nat.le_refl _, fun _ _ _ => rfl, fun _ _ _ _ _ _ _ _ _ => rfl, fun b off _ hm => hopen b off hm, fun _ _ _ _ => rfl⟩
  have hrel : Rel st' w := by
    refine ⟨hs.keys.nodup hg.rel.nodup, fun b ds hb => ?_, fun b e size n cap hb => ?_, fun b vs hb => ?_⟩
    · rcases hs.mem b _ hb with ⟨cs, ds', h1, h2, h3, h4⟩ | ⟨_, h2⟩
      · cases h1
        obtain ⟨vs, T, k1, k2, k3⟩ := hg.rel.cells b cs h2
        refine ⟨vs, T, k1, by rw [k2, h3], fun i c v hc hv => ?_⟩
        have hi : i < cs.length := by rw [← h3]; exact (List.getElem?_eq_some_iff.1 hc).1
        exact h4 i _ c (List.getElem?_eq_getElem hi) hc w v hg.rel (k3 i _ v (List.getElem?_eq_getElem hi) hv)
      · exact absurd rfl (h2 ds)
    · rcases hs.mem b _ hb with ⟨cs, ds', h1, _⟩ | ⟨h1, _⟩
      · cases h1
      · exact hg.rel.grow b e size n cap h1
    · rcases hs.mem b _ hb with ⟨cs, ds', h1, _⟩ | ⟨h1, _⟩
      · cases h1
      · exact hg.rel.konst b vs h1
  exact wp_mono (h a w ⟨hg.size, hg.defers, fun i x hi => by
    obtain ⟨y, hy, hcv⟩ := he.spec i x hi
    obtain ⟨v, h1, h2⟩ := hg.env i y hy
    exact ⟨v, h1, hcv w v hg.rel h2⟩, hrel⟩) fun e a w h => h.later hx hg.rel.nodup
end
end Go.AL

namespace Go.AL
open Go.RowKit
section
variable {P : Program} {N : Nat} {env : Env} {st : St} {o : Oper}
/-- A function's value: what it is, and what it holds. -/
abbrev AV.fn (f : FuncId) (caps : List Value) : AV := .lit (.func (.func f) #[] caps.toArray)
theorem AEv.fn (f : FuncId) : AEv env (.func f) (.fn f []) := AEv.func f
theorem S_callF {f : FuncId} {x : Operand} {caps : List Value} {xs : List Operand} {ts : Array TypeId} {args : List AV} {K : AV → St → Prop} (ho : o.op = .call { callee := .value x, args := xs.toArray, argTypes := ts }) (hx : AEv env x (.fn f caps)) (hargs : AEvs env xs args) (hc : ACalls P f (args ++ caps.map .lit) st K) : Step P N o env st K := by
  intro a w hg next Q hn
  obtain ⟨hl, hr⟩ := hargs.at_ hg
  have hf := (hx _ _ _ _ hg).lit_inv
  have hrun : (execOp a.eval o).run P w = .ok (.enter f ((xs.map a.eval) ++ caps).toArray) w := by
    simp [execOp, ho, resolve, Deferred.ofValue, hf, invoke, run_callFunc' hc.enters]
  unfold Oper.wp
  rw [hrun]
  have hl2 : args.length = xs.length := hl.symm
  refine (hc.calls w _ hg.rel (by simp [hl2]) fun i y v hy hv => ?_).mono ?_
  · simp only [List.getElem?_toArray] at hv
    rcases Nat.lt_or_ge i args.length with hi | hi
    · rw [List.getElem?_append_left hi] at hy
      rw [List.getElem?_append_left (by simp; omega)] at hv
      simp at hv
      obtain ⟨u, hu, rfl⟩ := hv
      exact hr i y u hy hu
    · rw [List.getElem?_append_right hi] at hy
      rw [List.getElem?_append_right (by simp; omega)] at hv
      simp only [List.length_map] at hv
      rw [← hl2] at hv
      simp only [List.getElem?_map, hv, Option.map_some, Option.some.injEq] at hy
      subst hy
      exact .lit v
  · rintro e w' ⟨r, y, st', rfl, k, h1, h2, h3⟩
    exact hn y st' r w' k h1 h2 h3
end
end Go.AL

namespace Go.AL
open Go.RowKit Go.NumSpec
theorem nameE_out {ns : List (List UInt8)} {s : List UInt8} (h : nameE ns s = none) : erNew (saysV (nameV s) 30) [[110, 97, 109, 101]] = none ∧ s ∉ ns := by
  unfold nameE at h
  split at h
  · cases h
  · rename_i hk
    exact ⟨h, fun hm => hk ⟨by rw [h]; rfl, hm⟩⟩
theorem portAt_out {ps l : List Int} {i : Nat} (h : portAt ps l i = none) : withinE (atT portsN (i : Int)) (l.getD i 0) 1 65535 = none ∧ l.getD i 0 ∉ ps ++ l.take i := by
  unfold portAt at h
  split at h
  · cases h
  · rename_i hk
    exact ⟨h, fun hm => hk ⟨by rw [h]; rfl, hm⟩⟩
theorem portE_out {ps l : List Int} {n : Int} (h : portE ps l n = none) : atMostE portsN (l.length : Int) 0 n = none ∧ ∀ j, j < l.length → portAt ps l j = none := by
  cases ha : atMostE portsN (l.length : Int) 0 n with
  | some x => rw [portE_bad (by rw [ha]; simp), ha] at h; cases h
  | none => rw [portE_good ha] at h; exact ⟨rfl, eachE_none h⟩
theorem light_out {s : Spc} (h : lightS s = true) : (s.name.length ≤ 100 ∧ s.labels.length ≤ 10 ∧ s.init.length ≤ 8 ∧ s.main.length ≤ 8) ∧ (∀ x ∈ s.labels, lightL x = true) ∧ (∀ c ∈ s.init, lightC c = true) ∧ ∀ c ∈ s.main, lightC c = true := by
  unfold lightS at h
  simp only [Bool.and_eq_true, decide_eq_true_eq, List.all_eq_true] at h
  exact ⟨h.1.1, h.1.2, h.2⟩
end Go.AL

namespace Go.AL
open Go.RowKit Go.NumSpec
def erText (e : Er) : List UInt8 := Lib.join (erPath e) [46]
/-- An error with a code and a path. -/
def WellE (e : Er) : Prop := ∀ c ps, e = some (c, ps) → c ≠ 0 ∧ ps ≠ []
theorem WellE.code {e : Er} (h : WellE e) : erCode e = 0 ↔ e = none := by
  cases e with
  | none => simp [erCode]
  | some x => obtain ⟨c, ps⟩ := x; simp [erCode, (h c ps rfl).1]
theorem WellE.isNone {e : Er} (h : WellE e) : e.isNone = decide (erCode e = 0) := by
  cases e with
  | none => simp [erCode]
  | some x => obtain ⟨c, ps⟩ := x; simp [erCode, (h c ps rfl).1]
/-! numbers -/
/-! one container -/
section
variable {ns : List (List UInt8)} {ps : List Int} {c : Ctr} {a b : Int} {x : Int × List (List UInt8)}
end
end Go.AL

namespace Go.AL
open Go.RowKit Go.NumSpec
theorem u8_lt (a b : UInt8) : a < b ↔ a.toNat < b.toNat := UInt8.lt_iff_toNat_lt
theorem bytesLess_ge : ∀ {a b : List UInt8}, Op.bytesLess b a = false → Op.bytesLess a b = true ∨ a = b
  | [], [], _ => .inr rfl
  | [], _ :: _, _ => .inl rfl
  | _ :: _, [], h => by cases h
  | x :: a, y :: b, h => by
    unfold Op.bytesLess at h ⊢
    simp only [Bool.or_eq_false_iff, decide_eq_false_iff_not, Bool.and_eq_false_iff, beq_eq_false_iff_ne, ne_eq] at h
    simp only [Bool.or_eq_true, decide_eq_true_eq, Bool.and_eq_true, beq_iff_eq, List.cons.injEq]
    obtain ⟨h1, h2⟩ := h
    rw [u8_lt] at h1
    by_cases hxy : x = y
    · subst hxy
      rcases h2 with h2 | h2
      · exact absurd rfl h2
      · rcases bytesLess_ge h2 with k | k
        · exact .inl (.inr ⟨rfl, k⟩)
        · exact .inr ⟨rfl, k⟩
    · have : x.toNat ≠ y.toNat := fun e => hxy (UInt8.toNat_inj.1 e)
      exact .inl (.inl (by rw [u8_lt]; omega))
theorem bytesLess_lt : ∀ {a b : List UInt8}, Op.bytesLess b a = true → Op.bytesLess a b = false ∧ a ≠ b
  | [], b, h => by cases b <;> simp [Op.bytesLess] at h
  | _ :: _, [], _ => ⟨rfl, by simp⟩
  | x :: a, y :: b, h => by
    unfold Op.bytesLess at h ⊢
    simp only [Bool.or_eq_true, decide_eq_true_eq, Bool.and_eq_true, beq_iff_eq] at h
    simp only [Bool.or_eq_false_iff, decide_eq_false_iff_not, Bool.and_eq_false_iff, beq_eq_false_iff_ne, ne_eq, List.cons.injEq, not_and]
    rcases h with h | ⟨h1, h2⟩
    · rw [u8_lt] at h
      refine ⟨⟨by rw [u8_lt]; omega, .inl fun e => by subst e; omega⟩, fun e => by subst e; omega⟩
    · subst h1
      obtain ⟨k1, k2⟩ := bytesLess_lt h2
      exact ⟨⟨by rw [u8_lt]; omega, .inr k1⟩, fun _ => k2⟩
section
variable {P : Program} {N : Nat} {env : Env} {st : St} {o : Oper}
end
section
variable {l : List Lab} {i : Nat} {name : List UInt8}
theorem getD_lab (h : i < l.length) : l.getD i ([], []) = l[i] := by rw [List.getD_eq_getElem?_getD, List.getElem?_eq_getElem h]; rfl
theorem label_key (h : i < l.length) (h1 : namesR 2 (l[i]'h).1 = false) : labelE name l i = some (31, [atT name (i : Int), [107, 101, 121]]) := by
  have hk : keyE l i = some (31, [[107, 101, 121]]) := by
    unfold keyE
    rw [getD_lab h, if_neg (by rw [h1]; rintro ⟨k, _⟩; cases k), h1]; rfl
  unfold labelE
  rw [hk]; rfl
theorem label_order (h : i < l.length) (h1 : namesR 2 (l[i]'h).1 = true) (h0 : 0 < i) (h2 : Op.bytesLess (l[i - 1]'(by omega)).1 (l[i]'h).1 = false) : labelE name l i = some (4, [atT name (i : Int), [107, 101, 121]]) := by
  have hk : keyE l i = some (4, [[107, 101, 121]]) := by
    unfold keyE
    rw [getD_lab h, getD_lab (show i - 1 < l.length by omega), if_pos]
    refine ⟨by rw [h1]; rfl, h0, ?_⟩
    rcases bytesLess_ge h2 with k | k
    · rw [k]; rfl
    · rw [k]; simp
  unfold labelE
  rw [hk]; rfl
theorem label_val (h : i < l.length) (h1 : namesR 2 (l[i]'h).1 = true) (h2 : ∀ h : 0 < i, Op.bytesLess (l[i - 1]'(by omega)).1 (l[i]'(by omega)).1 = true) (h3 : valV (l[i]'h).2 = false) : labelE name l i = some (32, [atT name (i : Int), [118, 97, 108]]) := by
  have hk : keyE l i = none := by
    unfold keyE
    rw [getD_lab h, if_neg]
    · rw [h1]; rfl
    · rintro ⟨_, k1, k2⟩
      rw [getD_lab (show i - 1 < l.length by omega)] at k2
      obtain ⟨q1, q2⟩ := bytesLess_lt (h2 k1)
      rw [q1] at k2
      simp at k2
      exact q2 k2
  unfold labelE
  rw [hk, getD_lab h, h3]; rfl
end
section
variable {ps l : List Int} {i : Nat} {n : Int}
end
end Go.AL
namespace Go.AL
open Go.RowKit Go.NumSpec
theorem erText_len {e : Er} {n : Nat} (h : ∀ c ps, e = some (c, ps) → (Lib.join ps [46]).length ≤ n) : (erText e).length ≤ n := by
  cases e with
  | none => simp [erText, erPath, Lib.join_nil]
  | some x => obtain ⟨c, ps⟩ := x; exact h c ps rfl
end Go.AL
namespace Go.AL
open Go.RowKit Go.NumSpec
/-- A path whose text has so many bytes at most. -/
def ShortE (n : Nat) (e : Er) : Prop := ∀ c ps, e = some (c, ps) → (Lib.join ps [46]).length ≤ n
theorem ShortE.mono {n m : Nat} {e : Er} (h : ShortE n e) (k : n ≤ m) : ShortE m e := fun c ps he => Nat.le_trans (h c ps he) k
theorem ShortE.text {n : Nat} {e : Er} (h : ShortE n e) : (erText e).length ≤ n := erText_len h
theorem join_count (l : List (List UInt8)) : l.length ≤ (Lib.join l [46]).length + 1 := by
  cases l with
  | nil => simp
  | cons x r => rw [Lib.join_length]; simp only [List.length_cons, List.length_nil]; omega
theorem ShortE.path {n : Nat} {e : Er} (h : ShortE n e) : (erPath e).length ≤ n + 1 := by
  cases e with
  | none => simp [erPath]
  | some x => obtain ⟨c, ps⟩ := x; have h1 := h c ps rfl; have h2 := join_count ps; show ps.length ≤ _; omega
end Go.AL
namespace Go.AL
open Go.RowKit Go.NumSpec
end Go.AL

namespace Go.AL
open Go.RowKit Go.NumSpec
section
variable {α : Type} {f : α → α → Bool}
end
def sameS (a b : Spc) : Bool := decide (a.name = b.name) && decide (a.labels = b.labels) && sameL exactC a.init b.init && sameL exactC a.main b.main && decide (a.restart = b.restart) && decide (a.grace = b.grace) && decide (a.prio = b.prio)
theorem sameS_iff {a b : Spc} : sameS a b = true ↔ a = b := by
  cases a; cases b
  simp only [sameS, Bool.and_eq_true, decide_eq_true_eq, Spc.mk.injEq, sameL_iff (fun a b => exactC_iff)]
  constructor
  · rintro ⟨⟨⟨⟨⟨⟨h1, h2⟩, h3⟩, h4⟩, h5⟩, h6⟩, h7⟩; exact ⟨h1, h2, h3, h4, h5, h6, h7⟩
  · rintro ⟨h1, h2, h3, h4, h5, h6, h7⟩; exact ⟨⟨⟨⟨⟨⟨h1, h2⟩, h3⟩, h4⟩, h5⟩, h6⟩, h7⟩
end Go.AL
namespace Go.AL
open Go.RowKit Go.NumSpec
/-- No list of it is too long to be walked. -/
def shortS (s : Spc) : Prop := s.labels.length ≤ 1000000 ∧ s.init.length ≤ 1000000 ∧ s.main.length ≤ 1000000 ∧ (∀ c ∈ s.init, c.ports.length ≤ 1000000) ∧ ∀ c ∈ s.main, c.ports.length ≤ 1000000
theorem light_short {s : Spc} (h : lightS s = true) : shortS s := by
  obtain ⟨⟨h1, h2, h3, h4⟩, h5, h6, h7⟩ := light_out h
  exact ⟨by omega, by omega, by omega, fun c hc => by have := (of_decide_eq_true (h6 c hc)).2.2; omega, fun c hc => by have := (of_decide_eq_true (h7 c hc)).2.2; omega⟩
end Go.AL

namespace Go.AL
open Go.RowKit
/-- What is in no memory. -/
def Stay (x : AV) : Prop := ∀ st w st2 w2 v, R st w x v → R st2 w2 x v
theorem Stay.lit (v : Value) : Stay (.lit v) := fun st w st2 w2 u h => by cases h; exact .lit v
theorem Stay.any : Stay .any := fun st w st2 w2 u h => .any u
theorem Stay.agg {cs : List AV} (h : ∀ c ∈ cs, Stay c) : Stay (.agg cs) := fun st w st2 w2 u hr => by
  cases hr with
  | agg _ vs hn k => exact .agg cs vs hn fun i c v hc hv => h c (List.mem_of_getElem? hc) _ _ _ _ _ (k i c v hc hv)
def StaySt (s : St) : Prop := ∀ b o, (b, o) ∈ s → ∃ cs, o = .cells cs ∧ ∀ c ∈ cs, Stay c
theorem StaySt.nil : StaySt [] := fun b o h => by cases h
theorem StaySt.append {a b : St} (h : StaySt a) (k : StaySt b) : StaySt (a ++ b) := fun x o hx => (List.mem_append.1 hx).elim (h x o) (k x o)
theorem StaySt.vec {q : Vec} {size : Nat} {xs : List AV} (h : ∀ x ∈ xs, ∀ c ∈ x.cells, Stay c) : StaySt (vecSt q size xs) := fun b o hb => by
  cases q with
  | «at» b' cap =>
    simp only [vecSt, List.mem_singleton] at hb
    cases hb
    refine ⟨_, rfl, fun c hc => ?_⟩
    unfold vecCells at hc
    rcases List.mem_append.1 hc with h1 | h1
    · obtain ⟨x, h2, h3⟩ := List.mem_flatMap.1 h1; exact h x h2 c h3
    · rw [(List.mem_replicate.1 h1).2]; exact .any
  | nil => cases hb
  | emp A => cases hb
/-- What may be spoilt: a slice into cells, or nothing. -/
def Spoil (m : Nat) (x : AV) (foot : St) : Prop := (∃ b off n cap cs, x = .lit (.slice (some ⟨b, off, none⟩) n cap) ∧ off + n * m ≤ cs.length ∧ n ≤ 1000000 ∧ foot = [(b, .cells cs)]) ∨ (∃ A cap, x = .lit (.slice A 0 cap) ∧ foot = [])
section
variable {P : Program} {N : Nat} {env : Env} {st : St} {o : Oper}
end
/-- One's own vector, and what its cells point to, seen where it is no longer written. -/
theorem Conv.vecD {st st' : St} {q : Vec} {size : Nat} {xs ys : List AV} (hq : q.ok xs) (hl : xs.length = ys.length) (hs : ∀ x, x ∈ xs → x.cells.length = size) (hs' : ∀ y, y ∈ ys → y.cells.length = size) (hm : ∀ p, p ∈ vecSt q size xs → p ∈ st) (hn : ∀ b cap, q = .at b cap → ∀ o, (b, o) ∉ st')
    (hc : ∀ (i : Nat) x y (j : Nat) c d, xs[i]? = some x → ys[i]? = some y → x.cells[j]? = some c → y.cells[j]? = some d → Conv st st' c d) : Conv st st' (.lit (vecV q xs.length)) (.sl ys) := fun w v hr h1 => by
  cases h1
  cases q with
  | nil => have : xs = [] := hq; subst this; cases ys with
    | nil => exact .sl0 _ _
    | cons y ys => simp at hl
  | emp A => have : xs = [] := hq; subst this; cases ys with
    | nil => exact .sl0 _ _
    | cons y ys => simp at hl
  | «at» b cap =>
    obtain ⟨vs, T, g1, g2, g3⟩ := hr.cells b (vecCells size cap xs) (hm _ List.mem_cons_self)
    have hcell : ∀ (i : Nat) y (j : Nat) d, ys[i]? = some y → y.cells[j]? = some d → ∃ u, vs[i * size + j]? = some u ∧ R st' w d u := fun i y j d hy hd => by
      have hi : i < xs.length := by have := (List.getElem?_eq_some_iff.1 hy).1; omega
      have hx := List.getElem?_eq_getElem hi
      have hj : j < (xs[i]).cells.length := by rw [hs _ (List.getElem_mem hi), ← hs' y (List.mem_of_getElem? hy)]; exact (List.getElem?_eq_some_iff.1 hd).1
      have hcc := List.getElem?_eq_getElem hj
      have h2 := flat_at hs hx hcc
      have h3 : (vecCells size cap xs)[i * size + j]? = some ((xs[i]).cells[j]) := by unfold vecCells; rw [List.getElem?_append_left (List.getElem?_eq_some_iff.1 h2).1]; exact h2
      have hlt : i * size + j < vs.size := by rw [g2]; exact (List.getElem?_eq_some_iff.1 h3).1
      exact ⟨vs[i * size + j], by simp [hlt], hc i _ y j _ d hx hy hcc hd w _ hr (g3 _ _ _ h3 (by simp [hlt]))⟩
    have e : (Value.slice (some ⟨b, 0, none⟩) xs.length cap) = .slice (some ⟨b, 0, none⟩) ys.length cap := by rw [hl]
    show R st' w (.sl ys) (.slice (some ⟨b, 0, none⟩) xs.length cap)
    rw [e]
    refine .sl ys b 0 cap size (fun k => (vs[k]?).getD undef) (by rw [← hl]; exact hq) (fun i x hx => hs' x (List.mem_of_getElem? hx)) (fun i x j c hx hc => ?_) fun i x j c hx hc => ?_
    · obtain ⟨u, k1, k2⟩ := hcell i x j c hx hc
      refine ⟨by simp only [World.cell?, g1, Option.isSome_none, Bool.false_eq_true, if_false, Nat.zero_add, k1, Option.getD_some], fun ⟨o, ho, _⟩ => hn b cap rfl o ho⟩
    · obtain ⟨u, k1, k2⟩ := hcell i x j c hx hc
      rw [k1]
      exact k2
/-- A cell of a vector's element is written. -/
theorem flat_set {size : Nat} : ∀ {xs : List AV} {i j : Nat} {c : AV} {ds : List AV}, (∀ x, x ∈ xs → x.cells.length = size) → xs[i]? = some (.agg ds) → j < size → (xs.flatMap AV.cells).set (i * size + j) c = (xs.set i (.agg (ds.set j c))).flatMap AV.cells := fun {xs} => by
  induction xs with
  | nil => intro i j c ds _ h; simp at h
  | cons x xs ih =>
    intro i j c ds hs hi hj
    have hx := hs x List.mem_cons_self
    cases i with
    | zero =>
      simp only [List.getElem?_cons_zero, Option.some.injEq] at hi
      subst hi
      simp only [List.set_cons_zero, List.flatMap_cons, AV.cells, Nat.zero_mul, Nat.zero_add] at hx ⊢
      rw [List.set_append_left _ _ (by omega)]
    | succ i =>
      simp only [List.getElem?_cons_succ] at hi
      rw [List.set_cons_succ, List.flatMap_cons, List.flatMap_cons, List.set_append_right _ _ (by rw [hx, Nat.add_mul]; omega), hx, show (i + 1) * size + j - size = i * size + j by rw [Nat.add_mul]; omega, ih (fun y hy => hs y (List.mem_cons_of_mem _ hy)) hi hj]
theorem vecCells_set {size cap : Nat} {xs : List AV} {i j : Nat} {c : AV} {ds : List AV} (hs : ∀ x, x ∈ xs → x.cells.length = size) (hi : xs[i]? = some (.agg ds)) (hj : j < size) : (vecCells size cap xs).set (i * size + j) c = vecCells size cap (xs.set i (.agg (ds.set j c))) := by
  have hil : i < xs.length := (List.getElem?_eq_some_iff.1 hi).1
  unfold vecCells
  rw [List.set_append_left _ _ (by
    rw [flat_len hs]
    have h1 : (i + 1) * size ≤ xs.length * size := Nat.mul_le_mul_right _ hil
    rw [Nat.add_mul] at h1
    omega), flat_set hs hi hj, List.length_set]
theorem vecV_one (q : Vec) (n : Nat) : (AV.lit (vecV q n)).one = true := by cases q <;> rfl
theorem Vec.ok_len {q : Vec} {xs ys : List AV} (h : q.ok xs) (hl : xs.length = ys.length) : q.ok ys := by
  cases q with
  | «at» b cap => exact (hl ▸ h : ys.length ≤ cap)
  | nil => have h0 : xs = [] := h; subst h0; cases ys with | nil => exact rfl | cons y ys => simp at hl
  | emp A => have h0 : xs = [] := h; subst h0; cases ys with | nil => exact rfl | cons y ys => simp at hl
theorem Spoil.vec {q : Vec} {m : Nat} {xs : List AV} (hq : q.ok xs) (hs : ∀ x, x ∈ xs → x.cells.length = m) (hl : xs.length ≤ 1000000) : Spoil m (.lit (vecV q xs.length)) (vecSt q m xs) := by
  cases q with
  | «at» b cap => exact .inl ⟨b, 0, xs.length, cap, _, rfl, by rw [Nat.zero_add]; exact vecCells_len hs, hl, rfl⟩
  | nil => have h0 : xs = [] := hq; subst h0; exact .inr ⟨none, 0, rfl, rfl⟩
  | emp A => have h0 : xs = [] := hq; subst h0; exact .inr ⟨some A, 0, rfl, rfl⟩
end Go.AL

namespace Go.AL
open Go.RowKit Go.NumSpec
structure CO where
  c : Ctr
  p : Vec
def coL (x : CO) : List AV := [.S x.c.name, .S x.c.image, .int .i64 x.c.req.1, .int .i64 x.c.req.2.1, .int .i64 x.c.req.2.2, .int .i64 x.c.lim.1, .int .i64 x.c.lim.2.1, .int .i64 x.c.lim.2.2, .lit (vecV x.p (intsV x.c.ports).length), .int .i64 x.c.probe.1, .int .i64 x.c.probe.2]
def coAV (x : CO) : AV := .agg (coL x)
def cosV (l : List CO) : List AV := l.map coAV
def coSt : List CO → St
  | [] => []
  | x :: l => vecSt x.p 1 (intsV x.c.ports) ++ coSt l
def coOk (l : List CO) : Prop := ∀ x ∈ l, x.p.ok (intsV x.c.ports)
structure SO where
  name : List UInt8
  labels : List Lab
  lq : Vec
  is : List CO
  iq : Vec
  ms : List CO
  mq : Vec
  restart : Int
  grace : Int
  prio : Int
def SO.s (o : SO) : Spc := ⟨o.name, o.labels, o.is.map CO.c, o.ms.map CO.c, o.restart, o.grace, o.prio⟩
def soL (o : SO) : List AV := [.S o.name, .lit (vecV o.lq (labsV o.labels).length), .lit (vecV o.iq (cosV o.is).length), .lit (vecV o.mq (cosV o.ms).length), .int .i64 o.restart, .int .i64 o.grace, .int .i64 o.prio]
def ctrsSt (q : Vec) (l : List CO) : St := vecSt q 11 (cosV l) ++ coSt l
def soSt (o : SO) : St := ctrsSt o.mq o.ms ++ (ctrsSt o.iq o.is ++ vecSt o.lq 2 (labsV o.labels))
structure soOk (o : SO) : Prop where
  lq : o.lq.ok (labsV o.labels)
  iq : o.iq.ok (cosV o.is)
  mq : o.mq.ok (cosV o.ms)
  is : coOk o.is
  ms : coOk o.ms
theorem cosV_len (l : List CO) : (cosV l).length = l.length := by simp [cosV]
theorem ctrsV_len' (l : List Ctr) : (ctrsV l).length = l.length := by simp [ctrsV]
theorem cosV_size (l : List CO) : ∀ x, x ∈ cosV l → x.cells.length = 11 := fun x hx => by obtain ⟨r, _, rfl⟩ := List.mem_map.1 hx; rfl
theorem ctrsV_size (l : List Ctr) : ∀ x, x ∈ ctrsV l → x.cells.length = 11 := fun x hx => by obtain ⟨r, _, rfl⟩ := List.mem_map.1 hx; rfl
theorem intsV_size (l : List Int) : ∀ x, x ∈ intsV l → x.cells.length = 1 := fun x hx => by obtain ⟨r, _, rfl⟩ := List.mem_map.1 hx; rfl
theorem coSt_mem {x : CO} : ∀ {l : List CO}, x ∈ l → ∀ p, p ∈ vecSt x.p 1 (intsV x.c.ports) → p ∈ coSt l
  | y :: l, h, p, hp => by
    rcases List.mem_cons.1 h with rfl | h
    · exact List.mem_append_left _ hp
    · exact List.mem_append_right _ (coSt_mem h p hp)
theorem coSt_append : ∀ (a b : List CO), coSt (a ++ b) = coSt a ++ coSt b
  | [], b => rfl
  | x :: a, b => by rw [List.cons_append, coSt, coSt, coSt_append a b, List.append_assoc]
theorem coSt_reverse : ∀ (a : List CO), (coSt a.reverse).Perm (coSt a)
  | [] => .refl _
  | x :: a => by
    rw [List.reverse_cons, coSt_append, coSt, coSt, coSt, List.append_nil]
    exact List.perm_append_comm.trans ((coSt_reverse a).append_left _)
/-! what only reads sees -/
theorem LendsG.ofAt {st g : St} {as bs : List AV} (hl : as.length = bs.length) (h : ∀ (i : Nat) a b, as[i]? = some a → bs[i]? = some b → Conv st g a b) : LendsG st g as bs := by
  induction as generalizing bs with
  | nil => cases bs with | nil => exact .nil | cons b bs => simp at hl
  | cons a as ih => cases bs with
    | nil => simp at hl
    | cons b bs => exact .cons (h 0 a b rfl rfl) (ih (by simpa using hl) fun i x y hx hy => h (i + 1) x y (by simpa using hx) (by simpa using hy))
section
variable {st st' : St}
theorem ints_conv {q : Vec} {l : List Int} (hq : q.ok (intsV l)) (hm : ∀ p, p ∈ vecSt q 1 (intsV l) → p ∈ st) (hn : ∀ b ob, (b, ob) ∈ vecSt q 1 (intsV l) → ∀ o, (b, o) ∉ st') : Conv st st' (.lit (vecV q (intsV l).length)) (.sl (intsV l)) :=
  Conv.vecD hq rfl (intsV_size l) (intsV_size l) hm (fun b cap h o => by subst h; exact hn b _ List.mem_cons_self o) fun i x y j c d hx hy hc hd => by
    rw [hx] at hy; cases hy
    rw [hc] at hd; cases hd
    obtain ⟨n, _, rfl⟩ := List.mem_map.1 (List.mem_of_getElem? hx)
    match j, hc with
    | 0, hc => simp [AV.cells] at hc; subst hc; exact Conv.lits _
theorem co_lends {x : CO} (hx : x.p.ok (intsV x.c.ports)) (hm : ∀ p, p ∈ vecSt x.p 1 (intsV x.c.ports) → p ∈ st) (hn : ∀ b ob, (b, ob) ∈ vecSt x.p 1 (intsV x.c.ports) → ∀ o, (b, o) ∉ st') : LendsG st st' (coL x) (ctrL x.c) :=
  .cons (Conv.lits _) (.cons (Conv.lits _) (.cons (Conv.lits _) (.cons (Conv.lits _) (.cons (Conv.lits _) (.cons (Conv.lits _) (.cons (Conv.lits _) (.cons (Conv.lits _) (.cons (ints_conv hx hm hn) (.cons (Conv.lits _) (.cons (Conv.lits _) .nil))))))))))
theorem ctrs_conv {q : Vec} {l : List CO} (hq : q.ok (cosV l)) (hk : coOk l) (hm : ∀ p, p ∈ ctrsSt q l → p ∈ st) (hn : ∀ b ob, (b, ob) ∈ ctrsSt q l → ∀ o, (b, o) ∉ st') : Conv st st' (.lit (vecV q (cosV l).length)) (.sl (ctrsV (l.map CO.c))) :=
  Conv.vecD hq (by simp [cosV, ctrsV]) (cosV_size l) (ctrsV_size _) (fun p hp => hm p (List.mem_append_left _ hp)) (fun b cap h o => by subst h; exact hn b _ (List.mem_append_left _ List.mem_cons_self) o) fun i x y j c d hx hy hc hd => by
    simp only [cosV, List.getElem?_map, Option.map_eq_some_iff] at hx
    obtain ⟨r, hr, rfl⟩ := hx
    simp only [ctrsV, List.getElem?_map, hr, Option.map_some, Option.some.injEq] at hy
    subst hy
    have hmem := List.mem_of_getElem? hr
    obtain ⟨a, h1, h2⟩ := (co_lends (hk r hmem) (fun p hp => hm p (List.mem_append_right _ (coSt_mem hmem p hp))) fun b ob hb => hn b ob (List.mem_append_right _ (coSt_mem hmem _ hb))).at_ j d hd
    have : (coL r)[j]? = some c := hc
    rw [this] at h1; cases h1
    exact h2
end
/-! what is in no memory -/
theorem coSt_stay : ∀ (l : List CO), StaySt (coSt l)
  | [] => StaySt.nil
  | x :: l => StaySt.append (StaySt.vec fun y hy c hc => by obtain ⟨n, _, rfl⟩ := List.mem_map.1 hy; simp [AV.cells] at hc; subst hc; exact Stay.lit _) (coSt_stay l)
theorem coL_stay (x : CO) : ∀ c ∈ coL x, Stay c := fun c hc => by
  simp only [coL, List.mem_cons, List.not_mem_nil, or_false] at hc
  rcases hc with rfl | rfl | rfl | rfl | rfl | rfl | rfl | rfl | rfl | rfl | rfl <;> exact Stay.lit _
theorem ctrsSt_stay (q : Vec) (l : List CO) : StaySt (ctrsSt q l) := StaySt.append (StaySt.vec fun y hy c hc => by obtain ⟨n, _, rfl⟩ := List.mem_map.1 hy; exact coL_stay n c hc) (coSt_stay l)
theorem StaySt.cellsOf {s : St} (h : StaySt s) {b : Nat} {ob : Ob} (hb : (b, ob) ∈ s) : ∃ cs, ob = .cells cs := let ⟨cs, e, _⟩ := h b ob hb; ⟨cs, e⟩
/-! the walk of clones -/
def halfV (rs : List CO) (l : List Ctr) : List AV := cosV rs.reverse ++ ctrsV (l.drop rs.length)
theorem halfV_size (rs : List CO) (l : List Ctr) : ∀ x, x ∈ halfV rs l → x.cells.length = 11 := fun x hx => (List.mem_append.1 hx).elim (cosV_size _ x) (ctrsV_size _ x)
theorem halfV_len {rs : List CO} {l : List Ctr} (h : rs.length ≤ l.length) : (halfV rs l).length = l.length := by simp [halfV, cosV, ctrsV]; omega
theorem halfV_at {rs : List CO} {l : List Ctr} (h : rs.length < l.length) : (halfV rs l)[rs.length]? = some (.agg (ctrL (l[rs.length]'h))) := by
  unfold halfV
  rw [List.getElem?_append_right (by simp [cosV])]
  simp only [cosV, ctrsV, List.length_map, List.length_reverse, Nat.sub_self, List.getElem?_map, List.getElem?_drop, Nat.add_zero, List.getElem?_eq_getElem h, Option.map_some]
  rfl
theorem halfV_step {rs : List CO} {l : List Ctr} (h : rs.length < l.length) (p : Vec) : (halfV rs l).set rs.length (.agg ((ctrL (l[rs.length]'h)).set 8 (.lit (vecV p (intsV (l[rs.length]'h).ports).length)))) = halfV (⟨l[rs.length]'h, p⟩ :: rs) l := by
  unfold halfV
  rw [List.set_append_right _ _ (by simp [cosV])]
  have e : (cosV rs.reverse).length = rs.length := by simp [cosV]
  rw [e, Nat.sub_self, List.drop_eq_getElem_cons h, ctrsV, List.map_cons, List.set_cons_zero]
  simp only [List.reverse_cons, cosV, List.map_append, List.map_cons, List.map_nil, List.append_assoc, List.cons_append, List.nil_append, List.length_cons, ctrsV]
  rfl
theorem halfV_full {rs : List CO} {l : List Ctr} (h : rs.length = l.length) : halfV rs l = cosV rs.reverse := by
  unfold halfV; rw [h, List.drop_length]; simp [ctrsV]
/-! what is spoilt -/
theorem soL_one (o : SO) : (soL o).all AV.one = true := by
  simp only [soL, List.all_cons, List.all_nil, vecV_one, Bool.and_true, Bool.true_and]
  rfl
theorem clones_next {rs : List CO} {l : List Ctr} (h : rs.length < l.length) (p : Vec) (b cap : Nat) (F : St) : Sub (vecSt (.at b cap) 11 (halfV (⟨l[rs.length]'h, p⟩ :: rs) l) ++ (coSt (⟨l[rs.length]'h, p⟩ :: rs) ++ F)) ((b, .cells ((vecCells 11 cap (halfV rs l)).set (0 + (rs.length : Int).toNat * 11 + 8) (.lit (vecV p (intsV (l[rs.length]'h).ports).length)))) :: (vecSt p 1 (intsV (l[rs.length]'h).ports) ++ (coSt rs ++ F))) := by
  rw [Int.toNat_natCast, Nat.zero_add, vecCells_set (halfV_size rs l) (halfV_at h) (by decide), halfV_step h p, coSt, List.append_assoc]
  exact Sub.l (List.Sublist.refl _)
theorem clones_end {rs : List CO} {l : List Ctr} (h : rs.length = l.length) (q : Vec) (F : St) : Sub (ctrsSt q rs.reverse ++ F) (vecSt q 11 (halfV rs l) ++ (coSt rs ++ F)) := by
  rw [halfV_full h, ctrsSt, List.append_assoc]
  exact Sub.p (((coSt_reverse rs).append_right F).append_left _) (List.Sublist.refl _)
theorem clones_ok {rs : List CO} {l : List Ctr} (h : rs.length = l.length) {q : Vec} (hq : q.ok (ctrsV l)) : q.ok (cosV rs.reverse) := Vec.ok_len hq (by simp [cosV, ctrsV, h])
theorem clones_len {rs : List CO} {l : List Ctr} (h : rs.length = l.length) (q : Vec) : AV.lit (vecV q (ctrsV l).length) = .lit (vecV q (cosV rs.reverse).length) := by rw [ctrsV_len', cosV_len, List.length_reverse, h]
theorem vec_cells_ne {q : Vec} {xs : List AV} (h : q.ok xs) (hn : 0 < xs.length) : ∃ b cap, q = .at b cap ∧ xs.length ≤ cap := Vec.at_of h (by intro h0; rw [h0] at hn; exact absurd hn (by decide))
end Go.AL

namespace Go.AL
open Go.RowKit Go.NumSpec
theorem light_counts {s : Spc} (h : lightS s = true) : s.labels.length ≤ 10 ∧ s.init.length ≤ 8 ∧ s.main.length ≤ 8 := by
  obtain ⟨⟨h1, h2, h3, h4⟩, h5, h6, h7⟩ := light_out h
  exact ⟨by omega, by omega, by omega⟩
theorem light_ports {s : Spc} (h : lightS s = true) : (∀ c ∈ s.init, c.ports.length ≤ 1000) ∧ ∀ c ∈ s.main, c.ports.length ≤ 1000 := by
  obtain ⟨⟨h1, h2, h3, h4⟩, h5, h6, h7⟩ := light_out h
  exact ⟨fun c hc => by have := (of_decide_eq_true (h6 c hc)).2.2; omega, fun c hc => by have := (of_decide_eq_true (h7 c hc)).2.2; omega⟩
end Go.AL

namespace Go.AL
open Go.NumSpec

/-! What was written is read again -/
/-! The chapter's example -/
/-! What is written -/
abbrev Act4 := Int × Int × Nat × List UInt8
structure WG where
  i : Nat
  u : Bool
  q : Buf
  lw : List UInt8
  c : Int
  want : List UInt8
def WG.ok (g : WG) : Prop := g.q.ok g.lw ∧ (g.c = 0 → g.lw = g.want) ∧ g.lw.length ≤ 310 * g.i ∧ g.want.length ≤ 310 * g.i ∧ g.i ≤ 60
/-! Written and read -/
def enc (a : Act4) : List UInt8 := if a.1 = 0 then putL (max a.2.1 0).toNat else if a.1 = 1 then putL a.2.2.1 else if a.1 = 2 then putL a.2.2.2.length ++ a.2.2.2 else [if decide (0 < a.2.1) then 1 else 0]
/-! Just the bytes -/
structure CG where
  i : Nat
  u : Bool
  q : Buf
  lw : List UInt8
  s : List UInt8
  c : Int
end Go.AL

namespace Go.AL
open Go.RowKit Go.NumSpec
abbrev Rd (α : Type) := List UInt8 → Int → α × List UInt8 × Int
structure Codec {α : Type} (f : Rd α) (e : α → List UInt8) (ok : α → Prop) : Prop where
  back : ∀ x t, ok x → f (e x ++ t) 0 = (x, t, 0)
  canon : ∀ s, (f s 0).2.2 = 0 → s = e (f s 0).1 ++ (f s 0).2.1 ∧ ok (f s 0).1
  err : ∀ s c, c ≠ 0 → (f s c).2.1 = s ∧ (f s c).2.2 = c
  cut : ∀ x p, ok x → p <+: e x → p.length < (e x).length → (f p 0).2.2 = 40
  len : ∀ s c, (f s c).2.1.length ≤ s.length
section
variable {α : Type} {f : Rd α} {e : α → List UInt8} {ok : α → Prop}
end
end Go.AL

namespace Go.AL
open Go.RowKit
section
variable {P : Program} {N : Nat} {env : Env} {st : St} {o : Oper}
end
end Go.AL

namespace Go.AL
open Go.RowKit Go.NumSpec
end Go.AL

namespace Go.AL
open Go.RowKit Go.NumSpec
abbrev lessK (x y : Lab) : Bool := Op.bytesLess x.1 y.1
abbrev d0 : Lab := ([], [])
section
variable {a b : List Lab}
end
theorem map_cons {m : Option (List Lab)} {out : List Lab} {x : Lab} : (m.map (x :: ·)).map (out ++ ·) = m.map ((out ++ [x]) ++ ·) := by cases m <;> simp
end Go.AL

namespace Go.AL
open Go.RowKit Go.NumSpec
theorem bytesLess_trans : ∀ {a b c : List UInt8}, Op.bytesLess a b = true → Op.bytesLess b c = true → Op.bytesLess a c = true
  | _, [], _, h, _ => by cases ‹List UInt8› <;> simp [Op.bytesLess] at h
  | _, _ :: _, [], _, h => by simp [Op.bytesLess] at h
  | [], _ :: _, _ :: _, _, _ => rfl
  | x :: a, y :: b, z :: c, h, k => by
    unfold Op.bytesLess at h k ⊢
    simp only [Bool.or_eq_true, decide_eq_true_eq, Bool.and_eq_true, beq_iff_eq] at h k ⊢
    simp only [u8_lt] at h k ⊢
    rcases h with h | ⟨rfl, h⟩
    · rcases k with k | ⟨rfl, k⟩
      · exact .inl (by omega)
      · exact .inl h
    · rcases k with k | ⟨rfl, k⟩
      · exact .inl k
      · exact .inr ⟨rfl, bytesLess_trans h k⟩
abbrev sortedL (l : List Lab) : Prop := l.Pairwise fun x y => lessK x y = true
theorem sorted_of {l : List Lab} (h : ∀ i (hi : i < l.length), 0 < i → lessK (l[i - 1]'(by omega)) l[i] = true) : sortedL l := by
  refine List.pairwise_iff_getElem.2 fun i j hi hj hij => ?_
  induction j with
  | zero => omega
  | succ j ih =>
    have h1 := h (j + 1) hj (by omega)
    simp only [Nat.add_sub_cancel] at h1
    rcases Nat.lt_or_ge i j with k | k
    · exact bytesLess_trans (ih (by omega) k) h1
    · have : i = j := by omega
      subst this; exact h1
theorem label_out {name : List UInt8} {l : List Lab} {i : Nat} (hi : i < l.length) (h : labelE name l i = none) : namesR 2 l[i].1 = true ∧ (∀ h0 : 0 < i, lessK (l[i - 1]'(by omega)) l[i] = true) ∧ valV l[i].2 = true := by
  cases h1 : namesR 2 l[i].1 with
  | false => rw [label_key hi h1] at h; cases h
  | true =>
    have h2 : ∀ h0 : 0 < i, lessK (l[i - 1]'(by omega)) l[i] = true := fun h0 => by
      cases h2 : lessK (l[i - 1]'(by omega)) l[i] with
      | true => rfl
      | false => rw [label_order hi h1 h0 h2] at h; cases h
    refine ⟨rfl, h2, ?_⟩
    cases h3 : valV l[i].2 with
    | true => rfl
    | false => rw [label_val hi h1 h2 h3] at h; cases h
theorem labels_out {name : List UInt8} {l : List Lab} (h : labelsE name l = none) : l.length ≤ 4 ∧ sortedL l ∧ ∀ x ∈ l, namesR 2 x.1 = true ∧ valV x.2 = true := by
  cases ha : atMostE name (l.length : Int) 0 4 with
  | some x => rw [labelsE_bad (by rw [ha]; simp), ha] at h; cases h
  | none =>
    rw [labelsE_good ha] at h
    have hl : l.length ≤ 4 := by
      unfold atMostE at ha
      split at ha
      · cases ha
      · omega
    have hall := eachE_none h
    refine ⟨hl, sorted_of fun i hi h0 => (label_out hi (hall i hi)).2.1 h0, fun x hx => ?_⟩
    obtain ⟨i, hi, rfl⟩ := List.mem_iff_getElem.1 hx
    exact ⟨(label_out hi (hall i hi)).1, (label_out hi (hall i hi)).2.2⟩
end Go.AL

namespace Go.AL
open Go.RowKit Go.NumSpec
theorem key_short {s : List UInt8} (h : namesR 2 s = true) : s.length ≤ 33 := by
  rw [namesR_parts, Bool.and_eq_true, decide_eq_true_eq] at h
  have := parts_names h.2
  omega
theorem val_short {s : List UInt8} (h : valV s = true) : s.length ≤ 16 := by
  unfold valV at h
  simp only [Bool.and_eq_true, decide_eq_true_eq] at h
  omega
end Go.AL

namespace Go.AL
open Go.RowKit Go.NumSpec
abbrev MR : Int := 1099511627776
def LabOk (x : Lab) : Prop := (x.1.length : Int) ≤ 33 ∧ (x.2.length : Int) ≤ 16
def LabsOk (l : List Lab) : Prop := (l.length : Int) ≤ 4 ∧ ∀ x ∈ l, LabOk x
def TriOk (r : Tri) : Prop := (0 ≤ r.1 ∧ r.1 ≤ MR) ∧ ((0 ≤ r.2.1 ∧ r.2.1 ≤ MR) ∧ (0 ≤ r.2.2 ∧ r.2.2 ≤ MR))
def PortsOk (l : List Int) : Prop := (l.length : Int) ≤ 3 ∧ ∀ x ∈ l, 0 ≤ x ∧ x ≤ 65535
def CtrOk (c : Ctr) : Prop := (c.name.length : Int) ≤ 16 ∧ ((c.image.length : Int) ≤ 33 ∧ (TriOk c.req ∧ (TriOk c.lim ∧ (PortsOk c.ports ∧ ((0 ≤ c.probe.1 ∧ c.probe.1 ≤ 1000) ∧ (0 ≤ c.probe.2 ∧ c.probe.2 ≤ 10))))))
def CtrsOk (n : Int) (l : List Ctr) : Prop := (l.length : Int) ≤ n ∧ ∀ x ∈ l, CtrOk x
def SpcOk (s : Spc) : Prop := (s.name.length : Int) ≤ 16 ∧ (LabsOk s.labels ∧ (CtrsOk 3 s.init ∧ (CtrsOk 4 s.main ∧ ((0 ≤ s.restart ∧ s.restart ≤ 3) ∧ ((0 ≤ s.grace ∧ s.grace ≤ 1000) ∧ (0 ≤ s.prio ∧ s.prio ≤ 10))))))
/-! What may be is within its bounds -/
theorem atMost_none {name : List UInt8} {n lo hi : Int} (h : atMostE name n lo hi = none) : lo ≤ n ∧ n ≤ hi := by
  unfold atMostE at h
  split at h
  · cases h
  · omega
theorem new_none {b : Bool} {c : Int} {ps : List (List UInt8)} (hc : c ≠ 0) (h : erNew (saysV b c) ps = none) : b = true := by
  unfold erNew at h
  split at h
  · rename_i h1; exact (says_zero hc).1 h1
  · cases h
theorem image_len {s : List UInt8} (h : (tparts s).2.2 = true) : (s.length : Int) ≤ 33 := by
  unfold tparts at h
  split at h
  · rename_i h1
    have h2 := cutV_len h1.1
    have h3 := h1.2.1
    have h4 := h1.2.2
    unfold repoV at h3; unfold tagV at h4
    simp only [Bool.and_eq_true, decide_eq_true_eq] at h3 h4
    have := h3.1; have := h4.1.2
    omega
  · cases h
theorem req_ok {r : Tri} (h : reqE r = none) : TriOk r := by
  have h0 := erIn_none h
  exact ⟨within_none (firstE_none h0 _ List.mem_cons_self), within_none (firstE_none h0 (withinE [109, 101, 109] r.2.1 0 1099511627776) (by simp)), within_none (firstE_none h0 (withinE [112, 105, 100, 115] r.2.2 0 1099511627776) (by simp))⟩
theorem most_ok {name : List UInt8} {n lo : Int} (h0 : 0 ≤ lo) (h : mostE name n lo = none) : 0 ≤ n ∧ n ≤ MR := by
  unfold mostE at h
  split at h
  · rename_i h1; subst h1; exact ⟨by decide, by decide⟩
  · have := within_none h
    unfold MR; omega
theorem lim_ok {l r : Tri} (hr : TriOk r) (h : limE l r = none) : TriOk l := by
  have h0 := erIn_none h
  exact ⟨most_ok hr.1.1 (firstE_none h0 _ List.mem_cons_self), most_ok hr.2.1.1 (firstE_none h0 (mostE [109, 101, 109] l.2.1 r.2.1) (by simp)), most_ok hr.2.2.1 (firstE_none h0 (mostE [112, 105, 100, 115] l.2.2 r.2.2) (by simp))⟩
theorem port_ok {ps l : List Int} {n : Int} (hn : n ≤ 3) (h : portE ps l n = none) : PortsOk l := by
  obtain ⟨h1, h2⟩ := portE_out h
  refine ⟨by have := atMost_none h1; omega, fun x hx => ?_⟩
  obtain ⟨j, hj, rfl⟩ := List.mem_iff_getElem.1 hx
  have := within_none (portAt_out (h2 j hj)).1
  rw [List.getD_eq_getElem?_getD, List.getElem?_eq_getElem hj] at this
  simp only [Option.getD_some] at this
  omega
theorem ctr_ok {ns : List (List UInt8)} {ps : List Int} {c : Ctr} {a b : Int} (ha : a ≤ 3) (hb : b ≤ 1000) (h : ctrE ns ps c a b = none) : CtrOk c := by
  have h1 := new_none (by decide) (nameE_out (firstE_none h (nameE ns c.name) (by simp))).1
  have h2 := new_none (by decide) (firstE_none h (erNew (saysV (tparts c.image).2.2 33) [[105, 109, 97, 103, 101]]) (by simp))
  have h3 := req_ok (firstE_none h (reqE c.req) (by simp))
  have h4 := lim_ok h3 (firstE_none h (limE c.lim c.req) (by simp))
  have h5 := port_ok ha (firstE_none h (portE ps c.ports a) (by simp))
  have h6 := erIn_none (firstE_none h (probeE c.probe b) (by simp))
  have h7 := within_none (firstE_none h6 _ List.mem_cons_self)
  have h8 := within_none (firstE_none h6 _ (List.mem_cons_of_mem _ List.mem_cons_self))
  have h9 := nameV_len h1
  refine ⟨by omega, image_len h2, h3, h4, h5, by omega, ?_⟩
  by_cases hp : c.probe.1 = 0
  · rw [if_pos hp, if_pos hp] at h8; omega
  · rw [if_neg hp, if_neg hp] at h8; omega
theorem ctrs_ok {name : List UInt8} {ns : List (List UInt8)} {ps : List Int} {l : List Ctr} {a b : Int} (ha : a ≤ 3) (hb : b ≤ 1000) (h : ctrsE name ns ps l a b = none) : ∀ x ∈ l, CtrOk x := fun x hx => by
  obtain ⟨j, hj, rfl⟩ := List.mem_iff_getElem.1 hx
  have := erIn_none (eachE_none h j hj)
  rw [ctrAt_at hj] at this
  exact ctr_ok ha hb this
theorem check_ok {s : Spc} (h : checkE s = none) : SpcOk s := by
  obtain ⟨h1, h2, h3⟩ := check_all h
  have n1 := nameV_len (new_none (by decide) (firstE_none h1 _ List.mem_cons_self))
  have n2 := labels_out (firstE_none h1 (labelsE labelsN s.labels) (by simp))
  have n3 := atMost_none (firstE_none h1 (atMostE initN (s.init.length : Int) 0 3) (by simp))
  have n4 := ctrs_ok (by decide) (by decide) (firstE_none h2 (ctrsE initN [] [] s.init 0 0) (by simp))
  have n5 := atMost_none (firstE_none h2 (atMostE mainN (s.main.length : Int) 1 4) (by simp))
  have n6 := ctrs_ok (by decide) (by decide) (firstE_none h3 _ List.mem_cons_self)
  have n7 := within_none (firstE_none h3 (withinE [114, 101, 115, 116, 97, 114, 116] s.restart 1 3) (by simp))
  have n8 := within_none (firstE_none h3 (withinE [103, 114, 97, 99, 101] s.grace 0 1000) (by simp))
  have n9 := within_none (firstE_none h3 (withinE [112, 114, 105, 111] s.prio 0 10) (by simp))
  refine ⟨by omega, ⟨by have := n2.1; omega, fun x hx => ?_⟩, ⟨n3.2, n4⟩, ⟨n5.2, n6⟩, by omega, n8, n9⟩
  have := n2.2.2 x hx
  have k1 := key_short this.1
  have k2 := val_short this.2
  exact ⟨by omega, by omega⟩
/-! How long -/
theorem ACalls.preQ {P : Program} {f : FuncId} {args : List AV} {foot pre F : St} {K : AV → St → Prop} (hc : ACalls P f args (foot ++ (pre ++ F)) fun x st' => ∃ foot', K x foot' ∧ st' = foot' ++ (pre ++ F)) : ACalls P f args (pre ++ (foot ++ F)) fun x st' => ∃ foot', K x foot' ∧ st' = pre ++ (foot' ++ F) := by
  have perm : ∀ (a : St), (pre ++ (a ++ F)).Perm (a ++ (pre ++ F)) := fun a => by
    rw [← List.append_assoc, ← List.append_assoc]
    exact List.Perm.append_right F List.perm_append_comm
  refine ⟨hc.enters, fun w vs hrel hs hr => ?_⟩
  have hx : Ext (pre ++ (foot ++ F)) w (foot ++ (pre ++ F)) w := Ext.sub fun p hp => (perm foot).mem_iff.2 hp
  have hrel2 : Rel (foot ++ (pre ++ F)) w := hrel.sub (fun p hp => (perm foot).mem_iff.2 hp) (((perm foot).map (·.1)).nodup_iff.1 hrel.nodup)
  refine (hc.calls w vs hrel2 hs fun i x v h1 h2 => (hr i x v h1 h2).mono hx hrel.nodup).mono ?_
  rintro e w' ⟨r, x, st', he, ⟨foot', hk, rfl⟩, hr', hrel', hext⟩
  have hy : Ext (foot' ++ (pre ++ F)) w' (pre ++ (foot' ++ F)) w' := Ext.sub fun p hp => (perm foot').mem_iff.1 hp
  exact ⟨r, x, _, he, ⟨foot', hk, rfl⟩, hr'.mono hy hrel'.nodup, hrel'.sub (fun p hp => (perm foot').mem_iff.1 hp) (((perm foot').map (·.1)).nodup_iff.2 hrel'.nodup), (hx.trans hext hrel.nodup).trans hy hrel.nodup⟩
end Go.AL
