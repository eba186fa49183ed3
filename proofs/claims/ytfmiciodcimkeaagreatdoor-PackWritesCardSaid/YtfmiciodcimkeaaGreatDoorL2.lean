/- A part of the proof: laws of the logic and of the data, no program in sight.
Conditions: none beyond each theorem's own. -/
import Derived.Test.YtfmiciodcimkeaaGreatDoorL1
import Derived.ArgAppend
import Derived.Lib.Builder
import Derived.Lib.AppendStr
import Derived.Lib.UnsafeStr
import Derived.Laws.Externs
import Derived.Stop.Asserts
import Derived.Stop.IfaceNil
import Derived.LaidEql
import Derived.Lib.Join
import Derived.Below
import Derived.RowKit3
import Derived.Lib.IfaceEq
import Derived.ChangeArms
import Derived.Carry
import Derived.ChangeSame
import Derived.SizedLaws
import Derived.OpenShut
set_option linter.unusedVariables false
set_option linter.unusedSimpArgs false
namespace Go.AL
open Go.RowKit

section
variable {P : Program} {N : Nat} {env : Env} {st : St} {o : Oper} {w : World}

theorem Ext.drew : Ext st w st w.drew := ⟨rfl, rfl, rfl, fun _ _ => rfl, Nat.le_refl _, fun _ _ _ => rfl, fun _ _ _ _ _ _ _ _ _ => rfl, fun _ _ _ h => h, fun _ _ _ _ => rfl⟩
theorem Rel.drew (hr : Rel st w) : Rel st w.drew := ⟨hr.nodup, fun b cs hb => let ⟨vs, T, k1, k2, k3⟩ := hr.cells b cs hb; ⟨vs, T, k1, k2, fun i c v hc hv => (k3 i c v hc hv).mono .drew hr.nodup⟩, hr.grow, hr.konst⟩

/-- A row of one's own has got more elements, where it is. -/
theorem grow_rel (hrel : Rel st w) {n b e size k k' cap : Nat} (hst : st[n]? = some (b, .grow e size k cap)) (hk : k ≤ k') (hk' : k' ≤ cap) {w' : World} {vs vs' : Array Value} {fz : Nat × Nat} (h0 : w.heap[b]? = some (.cells vs e fz))
    (hb : w'.heap[b]? = some (.cells vs' e fz)) (hsz : vs'.size = cap * size) (hsame : ∀ i : Nat, i < k * size → vs'[i]? = vs[i]?) (ho : ∀ b', b' ≠ b → w'.heap[b']? = w.heap[b']?) (hs : w'.heap.size = w.heap.size) (h1 : w'.os = w.os) (h2 : w'.tape = w.tape) (h3 : w'.output = w.output) (hfz : fz.2 ≤ k * size) :
    Rel (st.set n (b, .grow e size k' cap)) w' ∧ Ext st w (st.set n (b, .grow e size k' cap)) w' := by
  have hn := hrel.nodup
  have hn' := set_nodup (o' := .grow e size k' cap) hst hn
  have hlen : n < st.length := (List.getElem?_eq_some_iff.1 hst).1
  have hshape0 : vs'.size = vs.size → ∀ b', b' < w.heap.size → w'.shape? b' = w.shape? b' := fun hz b' _ => by
    by_cases ha : b' = b
    · subst ha
      simp only [World.shape?, hb, h0, hz]
    · simp only [World.shape?, ho _ ha]
  obtain ⟨us, ⟨fz', g1, _⟩, g2, g3, g4⟩ := hrel.grow b e size k cap (mem_at hst)
  have hx : Ext st w (st.set n (b, .grow e size k' cap)) w' := by
    refine ⟨h1, h2, h3, hshape0 (by rw [h0] at g1; cases g1; omega), by omega, fun b' hb' hk => ho b' fun e => hk _ (e ▸ mem_at hst), fun b' e' size' m cap' hb' hg off hoff => ?_, fun b' off hb' hm => ?_, fun b' us hb' hg => ho b' fun e => by subst e; have := key_unique hn hg (mem_at hst); cases this⟩
    · by_cases hbb : b' = b
      · subst hbb
        have := key_unique hn hg (mem_at hst)
        cases this
        simp only [World.cell?, hb, h0, Option.isSome_none, Bool.false_eq_true, if_false]
        exact hsame off hoff
      · exact World.cell?_of_block (w := w) (ho b' hbb)
    · obtain ⟨o, ho1, ho2⟩ := hm
      rcases set_mem hst ho1 with e' | e'
      · cases e'
        refine ⟨_, mem_at hst, ?_⟩
        simp only [Ob.opens] at ho2 ⊢
        exact Nat.le_trans (Nat.mul_le_mul_right _ hk) ho2
      · exact ⟨o, e', ho2⟩
  refine ⟨⟨hn', fun b' ds hd => ?_, fun b' e' size' m cap' hg => ?_, fun b' us hg => by
    rcases set_mem hst hg with e' | e'
    · cases e'
    · exact hx.konst_rel hrel e'⟩, hx⟩
  · rcases set_mem hst hd with e' | e'
    · cases e'
    · have hne : b' ≠ b := fun h => by subst h; have := key_unique hn e' (mem_at hst); cases this
      obtain ⟨us', T', k1, k2, k3⟩ := hrel.cells b' ds e'
      exact ⟨us', T', by rw [ho b' hne]; exact k1, k2, fun i c v hc hv => (k3 i c v hc hv).mono hx hn⟩
  · by_cases hbb : b' = b
    · subst hbb
      have hmem : (b', Ob.grow e size k' cap) ∈ st.set n (b', .grow e size k' cap) := List.mem_iff_getElem?.2 ⟨n, by simp [hlen]⟩
      have := key_unique hn' hg hmem
      cases this
      exact ⟨vs', ⟨fz, hb, Nat.le_trans hfz (Nat.mul_le_mul_right _ hk)⟩, hsz, hk', g4⟩
    · rcases set_mem hst hg with e' | e'
      · cases e'; exact absurd rfl hbb
      · obtain ⟨us', k1, k2⟩ := hrel.grow _ _ _ _ _ e'
        exact ⟨us', by rw [ho b' hbb]; exact k1, k2⟩

/-- The cells of a slice's elements, in a row. -/
theorem sl_cells {ys : List AV} {v : Value} (h : R st w (.sl ys) v) (hne : ys ≠ []) {size : Nat} (hs : ∀ (i : Nat) y, ys[i]? = some y → y.cells.length = size) (hpos : 0 < size) (hone : ∀ y, y ∈ ys → y.cells.all AV.one = true) :
    ∃ b off cap, ∃ news : List Value, v = .slice (some ⟨b, off, none⟩) ys.length cap ∧ news.length = ys.length * size ∧ (∀ (j : Nat) u, news[j]? = some u → w.cell? ((⟨b, off, none⟩ : Addr).add j) = some u) ∧ (∀ u ∈ news, u.oneCell' = true) ∧
      ∀ (i : Nat) y (j : Nat) c, ys[i]? = some y → y.cells[j]? = some c → ∃ u, news[i * size + j]? = some u ∧ R st w c u := by
  cases h with
  | sl0 => exact absurd rfl hne
  | sl _ b off cap sz f hcap hsz hc hr =>
    have hlen : 0 < ys.length := List.length_pos_iff.2 hne
    have hsz' : sz = size := by
      have h0 := hsz 0 ys[0] (List.getElem?_eq_getElem hlen)
      have h1 := hs 0 ys[0] (List.getElem?_eq_getElem hlen)
      omega
    subst hsz'
    have parts : ∀ j, j < ys.length * sz → ∃ y c, ys[j / sz]? = some y ∧ y.cells[j % sz]? = some c ∧ y ∈ ys := fun j hj => by
      have hi : j / sz < ys.length := Nat.div_lt_of_lt_mul (by rw [Nat.mul_comm]; exact hj)
      have hy : ys[j / sz]? = some ys[j / sz] := List.getElem?_eq_getElem hi
      have hm : j % sz < (ys[j / sz]).cells.length := by rw [hsz _ _ hy]; exact Nat.mod_lt _ hpos
      exact ⟨_, _, hy, List.getElem?_eq_getElem hm, List.getElem_mem hi⟩
    have split : ∀ j, j / sz * sz + j % sz = j := fun j => by rw [Nat.mul_comm]; exact Nat.div_add_mod j sz
    refine ⟨b, off, cap, (List.range (ys.length * sz)).map f, rfl, by simp, fun j u hu => ?_, fun u hu => ?_, fun i y j c hy hcj => ?_⟩
    · have hj : j < ys.length * sz := by have := (List.getElem?_eq_some_iff.1 hu).1; simpa using this
      rw [List.getElem?_map, List.getElem?_range hj] at hu
      cases hu
      obtain ⟨y, c, hy, hcc, _⟩ := parts j hj
      have := (hc _ y _ c hy hcc).1
      rw [split j] at this
      rw [Addr.add_mid, ← this, Nat.add_assoc, split j]
    · obtain ⟨j, hj, rfl⟩ := List.mem_map.1 hu
      rw [List.mem_range] at hj
      obtain ⟨y, c, hy, hcc, hm⟩ := parts j hj
      have := hr _ y _ c hy hcc
      rw [split j] at this
      exact this.one (List.all_eq_true.1 (hone y hm) c (List.mem_of_getElem? hcc))
    · have hi : i < ys.length := (List.getElem?_eq_some_iff.1 hy).1
      have hj : j < sz := by have := (List.getElem?_eq_some_iff.1 hcj).1; rw [hsz i y hy] at this; exact this
      have hlt : i * sz + j < ys.length * sz := by
        have : (i + 1) * sz ≤ ys.length * sz := Nat.mul_le_mul_right _ hi
        rw [Nat.add_mul, Nat.one_mul] at this
        omega
      exact ⟨f (i * sz + j), by rw [List.getElem?_map, List.getElem?_range hlt]; rfl, hr i y j c hy hcj⟩

theorem row_of {b k cap size e : Nat} {xs : List AV} {w' : World} {st' : St} {vs : Array Value} {fz : Nat × Nat} (hg : (b, Ob.grow e size (k + xs.length) (k + cap)) ∈ st') (hrel : Rel st' w') (hb : w'.heap[b]? = some (.cells vs e fz)) (hcap : xs.length ≤ cap) (hs : ∀ (i : Nat) x, xs[i]? = some x → x.cells.length = size)
    (hv : ∀ (i : Nat) x (j : Nat) c, xs[i]? = some x → x.cells[j]? = some c → ∃ u, vs[k * size + (i * size + j)]? = some u ∧ R st' w' c u) : R st' w' (.row b (k * size) cap xs) (.slice (some ⟨b, k * size, none⟩) xs.length cap) := by
  refine .row xs b (k * size) cap size (fun q => (vs[k * size + q]?).getD undef) hcap hs (fun i x j c hx hc => ?_) fun i x j c hx hc => ?_
  · obtain ⟨u, h1, h2⟩ := hv i x j c hx hc
    have hi : i < xs.length := (List.getElem?_eq_some_iff.1 hx).1
    have hj : j < size := by have := (List.getElem?_eq_some_iff.1 hc).1; rw [hs i x hx] at this; exact this
    refine ⟨by simp only [World.cell?, hb, Option.isSome_none, Bool.false_eq_true, if_false, Nat.add_assoc, h1, Option.getD_some], fun ⟨o, ho, hop⟩ => ?_⟩
    have := key_unique hrel.nodup ho hg
    subst this
    simp only [Ob.opens] at hop
    have : (i + 1) * size ≤ xs.length * size := Nat.mul_le_mul_right _ hi
    rw [Nat.add_mul, Nat.one_mul] at this
    rw [Nat.add_mul] at hop
    omega
  · obtain ⟨u, h1, h2⟩ := hv i x j c hx hc
    rw [h1]
    exact h2

/-- What the type of an append's elements is. -/
structure AppT (P : Program) (t e size bytes : Nat) : Prop where
  under : P.underlying t = some (.slice e)
  info : ∃ i z, P.info? e = some i ∧ i.zero = some z ∧ i.size = size ∧ i.bytes = bytes ∧ z.cells.size = size
  pos : 0 < size
def appT (P : Program) (t e size bytes : Nat) : Bool := match P.underlying t, P.info? e with
  | some (.slice e'), some i => e' == e && (match i.zero with | some z => z.cells.size == size | none => false) && i.size == size && i.bytes == bytes && decide (0 < size)
  | _, _ => false
theorem appT_spec {t e size bytes : Nat} (h : appT P t e size bytes = true) : AppT P t e size bytes := by
  unfold appT at h
  cases hu : P.underlying t with
  | none => simp [hu] at h
  | some d =>
    cases hi : P.info? e with
    | none => cases d <;> simp [hu, hi] at h
    | some i =>
      cases d <;> simp [hu, hi] at h
      cases hz : i.zero with
      | none => simp [hz] at h
      | some z =>
        simp [hz] at h
        obtain ⟨⟨⟨⟨rfl, h1⟩, h2⟩, h3⟩, h4⟩ := h
        exact ⟨hu, ⟨i, z, hi, hz, h2, h3, h1⟩, h4⟩

theorem alloc_grow {ws : Array Value} {e size k cap : Nat} (hrel : Rel st w) (hsz : ws.size = cap * size) (hk : k ≤ cap) (hcap : cap ≤ maxLen) :
    Rel ((w.heap.size, .grow e size k cap) :: st) (w.drew.alloc (.cells ws e)) ∧ Ext st w ((w.heap.size, .grow e size k cap) :: st) (w.drew.alloc (.cells ws e)) := by
  obtain ⟨h1, h2⟩ := alloc_rel (T := e) (hrel.drew) (ob := .grow e size k cap) (vs := ws) ⟨rfl, hsz, hk, hcap⟩
  exact ⟨h1, Ext.drew.trans h2 hrel.nodup⟩

theorem nodup_set {α : Type} {l : List α} {n : Nat} {x : α} (h : l.Nodup) (hx : x ∉ l) : (l.set n x).Nodup := by
  induction l generalizing n with
  | nil => simp
  | cons y l ih =>
    simp only [List.nodup_cons] at h
    cases n with
    | zero => simp only [List.set_cons_zero, List.nodup_cons]; exact ⟨fun hm => hx (List.mem_cons_of_mem _ hm), h.2⟩
    | succ n =>
      simp only [List.set_cons_succ, List.nodup_cons]
      refine ⟨fun hm => ?_, ih h.2 fun hm => hx (List.mem_cons_of_mem _ hm)⟩
      rcases List.mem_or_eq_of_mem_set hm with h' | h'
      · exact h.1 h'
      · exact hx (h' ▸ List.mem_cons_self)

theorem S_appendNil {t e size bytes : Nat} {x y : Operand} {ys : List AV} (ho : o.op = .call { callee := .builtin .append, args := #[x, y], argTypes := #[t, t] }) (hx : AEv env x .nils) (hy : AEv env y (.sl ys)) (hT : appT P t e size bytes = true) (hne : ys ≠ [])
    (hs : ∀ y, y ∈ ys → y.cells.length = size ∧ y.cells.all AV.one = true) (hb : ys.length * bytes ≤ 140737488355328) (h63 : ys.length ≤ 9223372036854775807) :
    Step P N o env st fun z st' => ∃ b cap, z = .row b 0 cap ys ∧ st' = (b, .grow e size ys.length cap) :: st := by
  intro a w hg next Q hn
  obtain ⟨hu, ⟨i, z, hi, hz, rfl, rfl, hzs⟩, hpos⟩ := appT_spec hT
  have e1 := (hx _ _ _ _ hg).lit_inv
  obtain ⟨b, off, cap, news, e2, hl, hnews, hone, hR⟩ := sl_cells (hy _ _ _ _ hg) hne (fun i y h => (hs y (List.mem_of_getElem? h)).1) hpos (fun y hy => (hs y hy).2)
  have hlen : 0 < ys.length := List.length_pos_iff.2 hne
  have hrun := run_append_nil (P := P) w t o.type e i z hu hi hz ⟨b, off, none⟩ ys.length cap news hl hnews hlen (by omega) (by omega)
  have hge := grownCap_ge w ys.length 0 e
  have hle := grownCap_le_maxLen w ys.length 0 e (by simp only [maxLen]; omega)
  have hsz : (news.toArray ++ Builtin.zeroCells z.cells (grownCap w ys.length 0 e - ys.length)).size = grownCap w ys.length 0 e * i.size := by
    simp only [Array.size_append, List.size_toArray, size_zeroCells, hzs, hl, ← Nat.add_mul]
    congr 1; omega
  obtain ⟨k1, k2⟩ := alloc_grow (e := e) hg.rel hsz hge hle
  have hexec : (execOp a.eval o).run P w = .ok (.value (.slice (some ⟨w.heap.size, 0, none⟩) ys.length (grownCap w ys.length 0 e))) (w.drew.alloc (.cells (news.toArray ++ Builtin.zeroCells z.cells (grownCap w ys.length 0 e - ys.length)) e)) := by
    simp only [execOp, ho, resolve, invoke, builtin, Sem.run_bind, Sem.run_pure, Result.andThen_ok, List.map_toArray, List.map_cons, List.map_nil, e1, e2, hrun]
  unfold Oper.wp
  rw [hexec]
  refine hn _ _ _ _ ⟨w.heap.size, grownCap w ys.length 0 e, rfl, rfl⟩ ?_ k1 k2
  have hrow := row_of (k := 0) (e := e) (by simp) k1 (heap_alloc_new w.drew _) hge (fun i y h => (hs y (List.mem_of_getElem? h)).1) fun i y j c hy' hc => by
    obtain ⟨u, h1, h2⟩ := hR i y j c hy' hc
    refine ⟨u, ?_, h2.mono k2 hg.rel.nodup⟩
    have hlt : i * _ + j < news.length := (List.getElem?_eq_some_iff.1 h1).1
    rw [Nat.zero_mul, Nat.zero_add, Array.getElem?_append_left (by simpa using hlt)]
    simpa using h1
  simpa using hrow

theorem S_appendRow {t e size bytes b k cap : Nat} {x y : Operand} {xs ys : List AV} (n : Nat) (ho : o.op = .call { callee := .builtin .append, args := #[x, y], argTypes := #[t, t] }) (hx : AEv env x (.row b (k * size) cap xs)) (hy : AEv env y (.sl ys)) (hst : st[n]? = some (b, .grow e size (k + xs.length) (k + cap))) (hT : appT P t e size bytes = true) (hne : ys ≠ [])
    (hsx : ∀ x, x ∈ xs → x.cells.length = size) (hs : ∀ y, y ∈ ys → y.cells.length = size ∧ y.cells.all AV.one = true) (hb : (xs.length + ys.length) * bytes ≤ 140737488355328) (h63 : xs.length + ys.length ≤ 9223372036854775807) :
    Step P N o env st fun z st' => ∃ b' k' cap', z = .row b' (k' * size) cap' (xs ++ ys) ∧ st' = st.set n (b', .grow e size (k' + (xs ++ ys).length) (k' + cap')) := by
  intro a w hg next Q hn
  have hnd := hg.rel.nodup
  obtain ⟨hu, ⟨i, z, hi, hz, rfl, rfl, hzs⟩, hpos⟩ := appT_spec hT
  obtain ⟨b2, off, cap2, news, e2, hl, hnews, hone, hR⟩ := sl_cells (hy _ _ _ _ hg) hne (fun i y h => (hs y (List.mem_of_getElem? h)).1) hpos (fun y hy => (hs y hy).2)
  obtain ⟨vs, ⟨⟨flo, fhi⟩, g1, gz⟩, g2, g3, g4⟩ := hg.rel.grow b e _ _ _ (mem_at hst)
  dsimp only at gz
  rw [Nat.add_mul] at gz
  have hlen : 0 < ys.length := List.length_pos_iff.2 hne
  have hall : ∀ (i' : Nat) x, (xs ++ ys)[i']? = some x → x.cells.length = i.size := fun i' x h => by
    rcases List.mem_append.1 (List.mem_of_getElem? h) with h | h
    · exact hsx x h
    · exact (hs x h).1
  have hold : ∃ (f : Nat → Value), (a.eval x = .slice (some ⟨b, k * i.size, none⟩) xs.length cap) ∧ ∀ (i' : Nat) x (j : Nat) c, xs[i']? = some x → x.cells[j]? = some c → vs[k * i.size + (i' * i.size + j)]? = some (f (i' * i.size + j)) ∧ R st w c (f (i' * i.size + j)) := by
    have h := hx _ _ _ _ hg
    generalize a.eval x = v at h
    cases h with
    | row _ _ _ _ sz f h1 h2 h3 h4 =>
      refine ⟨f, rfl, fun i' x j c hx' hc => ?_⟩
      have hsz : sz = i.size := by
        have k1 := h2 i' x hx'
        have k2 := hsx x (List.mem_of_getElem? hx')
        omega
      subst hsz
      have k1 := (h3 i' x j c hx' hc).1
      simp only [World.cell?, g1, Nat.add_assoc] at k1
      exact ⟨by simpa using k1, h4 i' x j c hx' hc⟩
  obtain ⟨f, e1, hf⟩ := hold
  have hcells : ∀ (ws : Array Value) (q : Nat), (∀ m : Nat, m < xs.length * i.size → ws[q + m]? = vs[k * i.size + m]?) → (∀ m u, news[m]? = some u → ws[q + (xs.length * i.size + m)]? = some u) →
      ∀ (i' : Nat) x (j : Nat) c, (xs ++ ys)[i']? = some x → x.cells[j]? = some c → ∃ u, ws[q + (i' * i.size + j)]? = some u ∧ R st w c u := fun ws q h1 h2 i' x j c hx' hc => by
    have hj : j < i.size := by have := (List.getElem?_eq_some_iff.1 hc).1; rw [hall i' x hx'] at this; exact this
    rcases Nat.lt_or_ge i' xs.length with h | h
    · rw [List.getElem?_append_left h] at hx'
      obtain ⟨k1, k2⟩ := hf i' x j c hx' hc
      have : (i' + 1) * i.size ≤ xs.length * i.size := Nat.mul_le_mul_right _ h
      rw [Nat.add_mul, Nat.one_mul] at this
      exact ⟨_, by rw [h1 _ (by omega)]; exact k1, k2⟩
    · rw [List.getElem?_append_right h] at hx'
      obtain ⟨u, k1, k2⟩ := hR _ x j c hx' hc
      have := h2 _ u k1
      rw [← Nat.add_assoc (xs.length * i.size), ← Nat.add_mul, show xs.length + (i' - xs.length) = i' by omega] at this
      exact ⟨u, this, k2⟩
  have hused : k * i.size + xs.length * i.size + news.length = (k + (xs.length + ys.length)) * i.size := by rw [hl]; simp only [Nat.add_mul]; omega
  by_cases hroom : xs.length + ys.length ≤ cap
  · have hfit : k * i.size + xs.length * i.size + news.length ≤ vs.size := by rw [hused, g2]; exact Nat.mul_le_mul_right _ (by omega)
    have hcl : ∀ j, j < news.length → (w.cell? ⟨b, k * i.size + xs.length * i.size + j, none⟩).isSome = true := fun j hj => by simp [World.cell?, g1]; omega
    have hfz : ∀ j, j < news.length → w.frozen? ⟨b, k * i.size + xs.length * i.size + j, none⟩ = false := fun j hj => by simp [World.frozen?, g1]; omega
    have hrun := run_append_room_cells (P := P) w t o.type e i hu hi b (k * i.size) xs.length cap ⟨b2, off, none⟩ ys.length cap2 news hl hnews hone hroom hcl hfz
    obtain ⟨⟨ws, j1, j2, j3⟩, j4, j5, j6, j7, j8⟩ := setCells_heap b news (k * i.size + xs.length * i.size) w vs e g1 hfit
    obtain ⟨k1, k2⟩ := grow_rel hg.rel hst (k' := k + (xs ++ ys).length) (by simp) (by simp; omega) g1 j1 (by rw [j2, g2]) (fun m hm => by rw [j3 m, if_neg (by rw [Nat.add_mul] at hm; omega)]) j4 j5 j6 j7 j8 (by rw [Nat.add_mul]; exact gz)
    have hexec : (execOp a.eval o).run P w = .ok (.value (.slice (some ⟨b, k * i.size, none⟩) (xs.length + ys.length) cap)) (w.setCells b (k * i.size + xs.length * i.size) news) := by
      simp only [execOp, ho, resolve, invoke, builtin, Sem.run_bind, Sem.run_pure, Result.andThen_ok, List.map_toArray, List.map_cons, List.map_nil, e1, e2, hrun]
    unfold Oper.wp
    rw [hexec]
    refine hn _ _ _ _ ⟨b, k, cap, rfl, rfl⟩ ?_ k1 k2
    have hmem : (b, Ob.grow e i.size (k + (xs ++ ys).length) (k + cap)) ∈ st.set n (b, .grow e i.size (k + (xs ++ ys).length) (k + cap)) := List.mem_iff_getElem?.2 ⟨n, by simp [(List.getElem?_eq_some_iff.1 hst).1]⟩
    have := row_of hmem k1 j1 (by simpa using hroom) hall fun i' x j c hx' hc => by
      obtain ⟨u, h1, h2⟩ := hcells ws (k * i.size) (fun m hm => by rw [j3, if_neg (by omega)]) (fun m u hm => by
        have hml : m < news.length := (List.getElem?_eq_some_iff.1 hm).1
        rw [j3, if_pos ⟨by omega, by omega⟩, show k * i.size + (xs.length * i.size + m) - (k * i.size + xs.length * i.size) = m by omega]
        exact hm) i' x j c hx' hc
      exact ⟨u, h1, h2.mono k2 hnd⟩
    simpa using this
  · have hlv : k * i.size + xs.length * i.size ≤ vs.size := by rw [g2, ← Nat.add_mul]; exact Nat.mul_le_mul_right _ g3
    have ht : ((vs.toList.drop (k * i.size)).take (xs.length * i.size)).length = xs.length * i.size := by simp; omega
    have holds : ∀ (j : Nat) u, ((vs.toList.drop (k * i.size)).take (xs.length * i.size))[j]? = some u → w.cell? ((⟨b, k * i.size, none⟩ : Addr).add j) = some u := fun j u hu => by
      have hj : j < xs.length * i.size := by have := (List.getElem?_eq_some_iff.1 hu).1; rw [ht] at this; exact this
      rw [List.getElem?_take_of_lt hj, List.getElem?_drop] at hu
      rw [Addr.add_mid]
      simp only [World.cell?, g1]
      simpa using hu
    have hrun := run_append_grow (P := P) w t o.type e i z hu hi hz ⟨b, k * i.size, none⟩ xs.length cap ((vs.toList.drop (k * i.size)).take (xs.length * i.size)) ht holds ⟨b2, off, none⟩ ys.length cap2 news hl hnews (by omega) (by omega) (growslice_fits (by omega) hb)
    have hge := grownCap_ge w (xs.length + ys.length) cap e
    have hle := grownCap_le_maxLen w (xs.length + ys.length) cap e (by simp only [maxLen]; omega)
    let ws : Array Value := ((vs.toList.drop (k * i.size)).take (xs.length * i.size)).toArray ++ news.toArray ++ Builtin.zeroCells z.cells (grownCap w (xs.length + ys.length) cap e - (xs.length + ys.length))
    have hws1 : ∀ m : Nat, m < xs.length * i.size → ws[0 + m]? = vs[k * i.size + m]? := fun m hm => by
      simp only [ws, Nat.zero_add]
      rw [Array.getElem?_append_left (by simp only [Array.size_append, List.size_toArray, ht]; omega), Array.getElem?_append_left (by simp only [List.size_toArray, ht]; exact hm), List.getElem?_toArray, List.getElem?_take_of_lt hm, List.getElem?_drop]
      simp
    have hws2 : ∀ (m : Nat) u, news[m]? = some u → ws[0 + (xs.length * i.size + m)]? = some u := fun m u hm => by
      have hml : m < news.length := (List.getElem?_eq_some_iff.1 hm).1
      simp only [ws, Nat.zero_add]
      rw [Array.getElem?_append_left (by simp only [Array.size_append, List.size_toArray, ht]; omega), Array.getElem?_append_right (by simp only [List.size_toArray, ht]; omega)]
      simp only [List.size_toArray, ht, Nat.add_sub_cancel_left, List.getElem?_toArray]
      exact hm
    have hwsz : ws.size = grownCap w (xs.length + ys.length) cap e * i.size := by
      simp only [ws, Array.size_append, List.size_toArray, ht, size_zeroCells, hzs, hl, ← Nat.add_mul]
      congr 1; omega
    obtain ⟨k1, k2⟩ := alloc_grow (e := e) (k := 0 + (xs ++ ys).length) (cap := 0 + grownCap w (xs.length + ys.length) cap e) hg.rel (by rw [hwsz, Nat.zero_add]) (by simpa using hge) (by simpa using hle)
    have hexec : (execOp a.eval o).run P w = .ok (.value (.slice (some ⟨w.heap.size, 0, none⟩) (xs.length + ys.length) (grownCap w (xs.length + ys.length) cap e))) (w.drew.alloc (.cells ws e)) := by
      simp only [execOp, ho, resolve, invoke, builtin, Sem.run_bind, Sem.run_pure, Result.andThen_ok, List.map_toArray, List.map_cons, List.map_nil, e1, e2, hrun]
      rfl
    have hlt : n < st.length := (List.getElem?_eq_some_iff.1 hst).1
    have hsub : ∀ p, p ∈ st.set n (w.heap.size, .grow e i.size (0 + (xs ++ ys).length) (0 + grownCap w (xs.length + ys.length) cap e)) → p ∈ ((w.heap.size, .grow e i.size (0 + (xs ++ ys).length) (0 + grownCap w (xs.length + ys.length) cap e)) :: st : St) := fun p hp => by
      rcases List.mem_or_eq_of_mem_set hp with h | h
      · exact List.mem_cons_of_mem _ h
      · rw [h]; exact List.mem_cons_self
    have hfresh : ∀ o', (w.heap.size, o') ∉ st := fun o' h => by have := key_lt hg.rel h; omega
    have hnd2 : ((st.set n (w.heap.size, Ob.grow e i.size (0 + (xs ++ ys).length) (0 + grownCap w (xs.length + ys.length) cap e))).map (·.1)).Nodup := by
      rw [List.map_set]
      exact nodup_set hnd fun h => by
        obtain ⟨p, hp, hp'⟩ := List.mem_map.1 h
        have hp2 : p.1 = w.heap.size := hp'
        refine hfresh p.2 ?_
        rw [← hp2]
        exact hp
    have k1' := k1.sub hsub hnd2
    have k2' := k2.trans (Ext.sub (w := w.drew.alloc (.cells ws e)) hsub) hnd
    unfold Oper.wp
    rw [hexec]
    refine hn _ _ _ _ ⟨w.heap.size, 0, grownCap w (xs.length + ys.length) cap e, rfl, rfl⟩ ?_ k1' k2'
    have hmem : (w.heap.size, Ob.grow e i.size (0 + (xs ++ ys).length) (0 + grownCap w (xs.length + ys.length) cap e)) ∈ st.set n (w.heap.size, .grow e i.size (0 + (xs ++ ys).length) (0 + grownCap w (xs.length + ys.length) cap e)) := List.mem_iff_getElem?.2 ⟨n, by simp [hlt]⟩
    have := row_of (k := 0) hmem k1' (heap_alloc_new w.drew _) (by simpa using hge) hall fun i' x j c hx' hc => by
      obtain ⟨u, h1, h2⟩ := hcells ws (0 * i.size) (fun m hm => by rw [Nat.zero_mul]; exact hws1 m hm) (fun m u hm => by rw [Nat.zero_mul]; exact hws2 m u hm) i' x j c hx' hc
      exact ⟨u, h1, h2.mono k2' hnd⟩
    simpa using this

/-- To an empty slice without room, wherever it points. -/
theorem S_appendEmp {t e size bytes : Nat} {A : Addr} {x y : Operand} {ys : List AV} (ho : o.op = .call { callee := .builtin .append, args := #[x, y], argTypes := #[t, t] }) (hx : AEv env x (.lit (.slice (some A) 0 0))) (hy : AEv env y (.sl ys)) (hT : appT P t e size bytes = true) (hne : ys ≠ [])
    (hs : ∀ y, y ∈ ys → y.cells.length = size ∧ y.cells.all AV.one = true) (hb : ys.length * bytes ≤ 140737488355328) (h63 : ys.length ≤ 9223372036854775807) :
    Step P N o env st fun z st' => ∃ b cap, z = .row b 0 cap ys ∧ st' = (b, .grow e size ys.length cap) :: st := by
  intro a w hg next Q hn
  obtain ⟨hu, ⟨i, z, hi, hz, rfl, rfl, hzs⟩, hpos⟩ := appT_spec hT
  have e1 := (hx _ _ _ _ hg).lit_inv
  obtain ⟨b, off, cap, news, e2, hl, hnews, hone, hR⟩ := sl_cells (hy _ _ _ _ hg) hne (fun i y h => (hs y (List.mem_of_getElem? h)).1) hpos (fun y hy => (hs y hy).2)
  have hlen : 0 < ys.length := List.length_pos_iff.2 hne
  have hrun := run_append_grow (P := P) w t o.type e i z hu hi hz A 0 0 [] (by simp) (fun j u h => by simp at h) ⟨b, off, none⟩ ys.length cap news hl hnews (by omega) (by omega) (growslice_fits (by omega) (by simpa using hb))
  have hge := grownCap_ge w (0 + ys.length) 0 e
  have hle := grownCap_le_maxLen w (0 + ys.length) 0 e (by simp only [maxLen]; omega)
  simp only [Nat.zero_add] at hrun hge hle
  have hsz : (([] : List Value).toArray ++ news.toArray ++ Builtin.zeroCells z.cells (grownCap w ys.length 0 e - ys.length)).size = grownCap w ys.length 0 e * i.size := by
    simp only [Array.size_append, List.size_toArray, size_zeroCells, hzs, hl, List.length_nil, Nat.zero_add, ← Nat.add_mul]
    congr 1; omega
  obtain ⟨k1, k2⟩ := alloc_grow (e := e) hg.rel hsz hge hle
  have hexec : (execOp a.eval o).run P w = .ok (.value (.slice (some ⟨w.heap.size, 0, none⟩) ys.length (grownCap w ys.length 0 e))) (w.drew.alloc (.cells (([] : List Value).toArray ++ news.toArray ++ Builtin.zeroCells z.cells (grownCap w ys.length 0 e - ys.length)) e)) := by
    simp only [execOp, ho, resolve, invoke, builtin, Sem.run_bind, Sem.run_pure, Result.andThen_ok, List.map_toArray, List.map_cons, List.map_nil, e1, e2, hrun]
  unfold Oper.wp
  rw [hexec]
  refine hn _ _ _ _ ⟨w.heap.size, grownCap w ys.length 0 e, rfl, rfl⟩ ?_ k1 k2
  have hrow := row_of (k := 0) (e := e) (by simp) k1 (heap_alloc_new w.drew _) hge (fun i y h => (hs y (List.mem_of_getElem? h)).1) fun i y j c hy' hc => by
    obtain ⟨u, h1, h2⟩ := hR i y j c hy' hc
    refine ⟨u, ?_, h2.mono k2 hg.rel.nodup⟩
    have hlt : i * _ + j < news.length := (List.getElem?_eq_some_iff.1 h1).1
    rw [Nat.zero_mul, Nat.zero_add, Array.getElem?_append_left (by simpa using hlt)]
    simpa using h1
  simpa using hrow

/-- A part of a slice. -/
theorem S_cut {t e : TypeId} {x : Operand} {lo hi : Option Operand} {xs : List AV} {i j : Nat} (m : Nat) (ho : o.op = .slice t x lo hi none) (hx : AEv env x (.sl xs))
    (hl : match lo with | none => i = 0 | some l => ∃ k, AEv env l (.int k i)) (hh : match hi with | none => j = xs.length | some l => ∃ k, AEv env l (.int k j))
    (hu : P.underlying t = some (.slice e)) (hm : (P.info? e).map (·.size) = some m) (hs : ∀ x, x ∈ xs → x.cells.length = m) (h1 : i ≤ j) (h2 : j ≤ xs.length) : PStep P N o env st (.sl ((xs.take j).drop i)) :=
  .of_val fun a w hg => by
    have hr := hx _ _ _ _ hg
    generalize hv : a.eval x = v at hr
    cases hq : P.info? e with
    | none => simp [hq] at hm
    | some q =>
      have hqm : q.size = m := by simpa [hq] using hm
      have bounds : ∀ cap, xs.length ≤ cap → ∀ w, (Instr.sliceBounds true xs.length cap (lo.map a.eval) (hi.map a.eval) none).run P w = .ok (i, j, cap) w := fun cap hcap w => by
        unfold Instr.sliceBounds
        cases lo with
        | none =>
          cases hi with
          | none => simp at hl hh; subst hl; subst hh; simp
          | some l =>
            obtain ⟨k, hk⟩ := hh
            simp at hl; subst hl
            have e3 := (hk _ _ _ _ hg).lit_inv
            simp [e3, run_sliceBound (P := P) w k (j : Int) cap .sliceAcap (by omega) (by omega)]
        | some l =>
          obtain ⟨k, hk⟩ := hl
          have e3 := (hk _ _ _ _ hg).lit_inv
          cases hi with
          | none => simp at hh; subst hh; simp [e3, run_sliceBound (P := P) w k (i : Int) xs.length .sliceB (by omega) (by omega)]
          | some l2 =>
            obtain ⟨k2, hk2⟩ := hh
            have e4 := (hk2 _ _ _ _ hg).lit_inv
            simp [e3, e4, run_sliceBound (P := P) w k2 (j : Int) cap .sliceAcap (by omega) (by omega), run_sliceBound (P := P) w k (i : Int) j .sliceB (by omega) (by omega)]
      have hrun : ∀ (A : Option Addr) cap, xs.length ≤ cap → v = .slice A xs.length cap → (execOp a.eval o).run P w = .ok (.value (.slice (if cap = i then A else A.map (·.add (i * m))) (j - i) (cap - i))) w := fun A cap hcap hvv => by
        subst hvv
        simp only [execOp, ho, hv, Instr.sliceAt, Instr.slice, Sem.run_bind, run_underlying hu, Result.andThen_ok, Option.map_none, bounds cap hcap]
        simp [sizeOf, typeInfo, hq, hqm]
      have hlen : ((xs.take j).drop i).length = j - i := by simp; omega
      cases hr with
      | sl0 A cap =>
        refine ⟨_, hrun A cap (by simp) rfl, ?_⟩
        have : j = 0 := by simpa using h2
        subst this
        have : i = 0 := by omega
        subst this
        exact .sl0 _ _
      | sl _ b off cap sz f hcap hsz hc hrr =>
        refine ⟨_, hrun _ cap hcap rfl, ?_⟩
        by_cases hij : i = j
        · subst hij
          have : (xs.take i).drop i = [] := List.eq_nil_of_length_eq_zero (by omega)
          rw [this, Nat.sub_self]
          exact .sl0 _ _
        · have hne : ¬ cap = i := by omega
          have hszm : sz = m := by
            have h0 : 0 < xs.length := by omega
            have := hsz 0 xs[0] (List.getElem?_eq_getElem h0)
            rw [hs _ (List.getElem_mem h0)] at this
            exact this.symm
          subst hszm
          rw [if_neg hne]
          simp only [Option.map_some, Addr.add_mid]
          have at_ : ∀ (k : Nat) x, ((xs.take j).drop i)[k]? = some x → xs[i + k]? = some x := fun k x hk => by
            have : k < j - i := by have := (List.getElem?_eq_some_iff.1 hk).1; omega
            rw [List.getElem?_drop, List.getElem?_take_of_lt (by omega)] at hk
            exact hk
          have h := R.sl (st := st) (w := w) ((xs.take j).drop i) b (off + i * sz) (cap - i) sz (fun k => f (i * sz + k)) (by rw [hlen]; omega) (fun k x hk => hsz _ x (at_ k x hk)) (fun k x jj c hk hcc => by
            have := hc (i + k) x jj c (at_ k x hk) hcc
            rw [Nat.add_mul] at this
            rw [show off + i * sz + k * sz + jj = off + (i * sz + k * sz) + jj by omega, show i * sz + (k * sz + jj) = i * sz + k * sz + jj by omega]
            exact this) (fun k x jj c hk hcc => by
            have := hrr (i + k) x jj c (at_ k x hk) hcc
            rw [Nat.add_mul] at this
            rw [show i * sz + (k * sz + jj) = i * sz + k * sz + jj by omega]
            exact this)
          rw [hlen] at h
          exact h

/-! A slice of one's own: nil, a row, or empty without room -/
inductive Own where
  | nil
  | row (b k cap : Nat)
  | emp (A : Addr)
def ownAV (p : Own) (size : Nat) (xs : List AV) : AV := match p with | .nil => .nils | .row b k cap => .row b (k * size) cap xs | .emp A => .lit (.slice (some A) 0 0)
def ownSt (p : Own) (e size : Nat) (xs : List AV) : St := match p with | .row b k cap => [(b, .grow e size (k + xs.length) (k + cap))] | _ => []
/-- Without a row there is nothing. -/
def Own.ok (p : Own) (xs : List AV) : Prop := match p with | .row _ _ cap => xs.length ≤ cap | _ => xs = []
theorem Le_own {p : Own} {size : Nat} {xs : List AV} (h : p.ok xs) : Le (ownAV p size xs) (.sl xs) := by
  cases p with
  | nil => cases h; exact Le.nils
  | row b k cap => exact Le.row _ _ _ _
  | emp A => cases h; exact fun st w v hv => by rw [hv.lit_inv]; exact .sl0 _ _
theorem S_appendOwn {t e size bytes : Nat} {x y : Operand} {p : Own} {xs ys : List AV} (pre post : St) (ho : o.op = .call { callee := .builtin .append, args := #[x, y], argTypes := #[t, t] }) (hx : AEv env x (ownAV p size xs)) (hy : AEv env y (.sl ys)) (hst : st = pre ++ (ownSt p e size xs ++ post)) (h : p.ok xs) (hT : appT P t e size bytes = true) (hne : ys ≠ [])
    (hsx : ∀ x, x ∈ xs → x.cells.length = size) (hs : ∀ y, y ∈ ys → y.cells.length = size ∧ y.cells.all AV.one = true) (hb : (xs.length + ys.length) * bytes ≤ 140737488355328) (h63 : xs.length + ys.length ≤ 9223372036854775807) :
    Step P N o env st fun z st' => ∃ b k cap, (xs ++ ys).length ≤ cap ∧ z = ownAV (.row b k cap) size (xs ++ ys) ∧ st' = pre ++ (ownSt (.row b k cap) e size (xs ++ ys) ++ post) := by
  subst hst
  have fresh : ∀ (q : Own), ownSt q e size [] = [] → xs = [] → Step P N o env (pre ++ ([] ++ post)) (fun z st' => ∃ b cap, z = .row b 0 cap ys ∧ st' = (b, .grow e size ys.length cap) :: (pre ++ ([] ++ post))) → Step P N o env (pre ++ ([] ++ post)) fun z st' => ∃ b k cap, (xs ++ ys).length ≤ cap ∧ z = ownAV (.row b k cap) size (xs ++ ys) ∧ st' = pre ++ (ownSt (.row b k cap) e size (xs ++ ys) ++ post) := fun q hq hxs hstep => by
    subst hxs
    intro a w hg next Q hn
    refine hstep a w hg next Q ?_
    rintro z st' v w' ⟨b, cap, rfl, rfl⟩ hr hrel hxx
    have hsub : ∀ q, q ∈ pre ++ ([(b, Ob.grow e size ys.length cap)] ++ post) → q ∈ ((b, Ob.grow e size ys.length cap) :: (pre ++ ([] ++ post)) : St) := fun q hq => by
      simp at hq ⊢
      rcases hq with h | h | h
      · exact .inr (.inl h)
      · exact .inl h
      · exact .inr (.inr h)
    have hnd : ((pre ++ ([(b, Ob.grow e size ys.length cap)] ++ post)).map (·.1)).Nodup := by
      have h1 := hrel.nodup
      have hp : (pre ++ ([(b, Ob.grow e size ys.length cap)] ++ post)).Perm ((b, Ob.grow e size ys.length cap) :: (pre ++ ([] ++ post))) := by
        simp only [List.nil_append, List.singleton_append]
        exact List.perm_middle
      exact (hp.map (·.1)).nodup_iff.2 h1
    refine hn (.row b 0 cap ys) _ v w' ⟨b, 0, cap, by simpa using (row_inv hr).2, ?_, ?_⟩ ?_ (hrel.sub hsub hnd) (hxx.trans (Ext.sub hsub) hg.rel.nodup)
    · simp [ownAV]
    · simp [ownSt]
    · exact hr.mono (Ext.sub hsub) hrel.nodup
  cases p with
  | nil =>
    have : xs = [] := h
    subst this
    exact fresh .nil rfl rfl (S_appendNil ho hx hy hT hne hs (by simpa using hb) (by simpa using h63))
  | emp A =>
    have : xs = [] := h
    subst this
    exact fresh (.emp A) rfl rfl (S_appendEmp ho hx hy hT hne hs (by simpa using hb) (by simpa using h63))
  | row b0 k0 cap0 =>
    intro a w hg next Q hn
    refine S_appendRow pre.length ho hx hy (by simp [ownSt]) hT hne hsx hs hb h63 a w hg next Q ?_
    rintro z st' v w' ⟨b, k, cap, rfl, rfl⟩ hr hrel hxx
    have e1 : (pre ++ (ownSt (.row b0 k0 cap0) e size xs ++ post)).set pre.length (b, .grow e size (k + (xs ++ ys).length) (k + cap)) = pre ++ (ownSt (.row b k cap) e size (xs ++ ys) ++ post) := by
      simp [ownSt, List.set_append_right]
    rw [e1] at hr hrel hxx
    exact hn _ _ v w' ⟨b, k, cap, (row_inv hr).2, rfl, rfl⟩ hr hrel hxx
end
end Go.AL

namespace Go.AL
open Go.RowKit

section
variable {P : Program} {N : Nat} {env : Env} {st : St} {o : Oper} {w : World}

theorem ownAV_one (p : Own) (size : Nat) (xs : List AV) : (ownAV p size xs).one = true := by cases p <;> rfl

/-! Comparing with nil -/
def isPtr (P : Program) (t : TypeId) : Bool := match P.underlying t with | some (.pointer _) => true | _ => false
theorem isPtr_spec {t : TypeId} (h : isPtr P t = true) : ∃ e, P.underlying t = some (.pointer e) := by
  unfold isPtr at h
  cases hu : P.underlying t with
  | none => simp [hu] at h
  | some d => cases d <;> simp [hu] at h; exact ⟨_, rfl⟩
theorem run_eqIn_ptr_nil {t : TypeId} {a : Addr} (d : Nat) (w : World) (h : isPtr P t = true) : (Op.equalIn (d + 1) t (.pointer (some a)) (.pointer none)).run P w = .ok false w := by
  obtain ⟨e, hu⟩ := isPtr_spec h
  simp [Op.equalIn, run_underlying hu]
theorem run_eq_ptr_nil {t : TypeId} {a : Addr} (w : World) (h : isPtr P t = true) : (Op.equal t (.pointer (some a)) (.pointer none)).run P w = .ok false w := run_eqIn_ptr_nil 9999 w h
theorem S_eqlNil {t t2 : TypeId} {x y : Operand} {b off : Nat} (ho : o.op = .binOp .eql t x y t2) (hx : AEv env x (.ptr b off)) (hy : AEv env y (.lit (.pointer none))) (hu : isPtr P t = true) : PStep P N o env st (.bool false) :=
  S_bin ho hx hy (eqGuard_at_pointer ..) fun w => by simp only [binOp, Sem.run_bind, run_eq_ptr_nil w hu, Result.andThen_ok, Sem.run_pure]
/-! Own slices -/
/-- A contract over the front of a state serves wherever that part lies. -/
theorem ACalls.pre {f : FuncId} {args : List AV} {foot : St} {K : AV → St → Prop} (h : ∀ F, ACalls P f args (foot ++ F) fun x st' => ∃ foot', K x foot' ∧ st' = foot' ++ F) (pre F : St) : ACalls P f args (pre ++ (foot ++ F)) fun x st' => ∃ foot', K x foot' ∧ st' = pre ++ (foot' ++ F) := by
  have perm : ∀ (a : St), (pre ++ (a ++ F)).Perm (a ++ (pre ++ F)) := fun a => by
    rw [← List.append_assoc, ← List.append_assoc]
    exact List.Perm.append_right F List.perm_append_comm
  have hc := h (pre ++ F)
  refine ⟨hc.enters, fun w vs hrel hs hr => ?_⟩
  have hx : Ext (pre ++ (foot ++ F)) w (foot ++ (pre ++ F)) w := Ext.sub fun p hp => (perm foot).mem_iff.2 hp
  have hrel2 : Rel (foot ++ (pre ++ F)) w := hrel.sub (fun p hp => (perm foot).mem_iff.2 hp) (((perm foot).map (·.1)).nodup_iff.1 hrel.nodup)
  refine (hc.calls w vs hrel2 hs fun i x v h1 h2 => (hr i x v h1 h2).mono hx hrel.nodup).mono ?_
  rintro e w' ⟨r, x, st', he, ⟨foot', hk, rfl⟩, hr', hrel', hext⟩
  have hy : Ext (foot' ++ (pre ++ F)) w' (pre ++ (foot' ++ F)) w' := Ext.sub fun p hp => (perm foot').mem_iff.1 hp
  exact ⟨r, x, _, he, ⟨foot', hk, rfl⟩, hr'.mono hy hrel'.nodup, hrel'.sub (fun p hp => (perm foot').mem_iff.1 hp) (((perm foot').map (·.1)).nodup_iff.2 hrel'.nodup), (hx.trans hext hrel.nodup).trans hy hrel.nodup⟩
end
end Go.AL

namespace Go.AL
open Go.RowKit

inductive Vec where
  | nil
  | emp (A : Addr)
  | at (b cap : Nat)
def vecV (q : Vec) (n : Nat) : Value := match q with | .nil => .slice none 0 0 | .emp A => .slice (some A) 0 0 | .at b cap => .slice (some ⟨b, 0, none⟩) n cap
def vecCells (size cap : Nat) (xs : List AV) : List AV := xs.flatMap AV.cells ++ List.replicate ((cap - xs.length) * size) .any
def vecSt (q : Vec) (size : Nat) (xs : List AV) : St := match q with | .at b cap => [(b, .cells (vecCells size cap xs))] | _ => []
def Vec.ok (q : Vec) (xs : List AV) : Prop := match q with | .at _ cap => xs.length ≤ cap | _ => xs = []

theorem flat_at {xs : List AV} {size : Nat} (hs : ∀ x, x ∈ xs → x.cells.length = size) : ∀ {i : Nat} {x : AV} {j : Nat} {c : AV}, xs[i]? = some x → x.cells[j]? = some c → (xs.flatMap AV.cells)[i * size + j]? = some c := by
  induction xs with
  | nil => intro i x j c h; simp at h
  | cons y xs ih =>
    intro i x j c h hc
    have hy := hs y List.mem_cons_self
    rw [List.flatMap_cons]
    cases i with
    | zero =>
      simp only [List.getElem?_cons_zero, Option.some.injEq] at h
      subst h
      have : j < y.cells.length := (List.getElem?_eq_some_iff.1 hc).1
      rw [Nat.zero_mul, Nat.zero_add, List.getElem?_append_left this]
      exact hc
    | succ i =>
      simp only [List.getElem?_cons_succ] at h
      rw [List.getElem?_append_right (by rw [hy, Nat.add_mul]; omega), hy, show (i + 1) * size + j - size = i * size + j by rw [Nat.add_mul]; omega]
      exact ih (fun z hz => hs z (List.mem_cons_of_mem _ hz)) h hc
theorem flat_get {xs : List AV} {size : Nat} (hs : ∀ x, x ∈ xs → x.cells.length = size) : ∀ {q : Nat} {c : AV}, (xs.flatMap AV.cells)[q]? = some c → ∃ i x j, xs[i]? = some x ∧ x.cells[j]? = some c ∧ q = i * size + j := by
  induction xs with
  | nil => intro q c h; simp at h
  | cons y xs ih =>
    intro q c h
    have hy := hs y List.mem_cons_self
    rw [List.flatMap_cons] at h
    by_cases hq : q < y.cells.length
    · rw [List.getElem?_append_left hq] at h
      exact ⟨0, y, q, rfl, h, by simp⟩
    · rw [List.getElem?_append_right (by omega)] at h
      obtain ⟨i, x, j, h1, h2, h3⟩ := ih (fun z hz => hs z (List.mem_cons_of_mem _ hz)) h
      exact ⟨i + 1, x, j, h1, h2, by rw [Nat.add_mul]; omega⟩

section
variable {P : Program} {N : Nat} {Q : Post} {env : Env} {st : St} {o : Oper} {w : World}

/-- A slice of one's own is read only from here on. -/
theorem Conv.vec {st' : St} (h : Sub st' st) {q : Vec} {size : Nat} {xs : List AV} (hq : q.ok xs) (hs : ∀ x, x ∈ xs → x.cells.length = size) (hm : ∀ p, p ∈ vecSt q size xs → p ∈ st) (hn : ∀ b cap, q = .at b cap → ∀ o, (b, o) ∉ st') : Conv st st' (.lit (vecV q xs.length)) (.sl xs) := fun w v hr h1 => by
  cases h1
  cases q with
  | nil => have : xs = [] := hq; subst this; exact .sl0 _ _
  | emp A => have : xs = [] := hq; subst this; exact .sl0 _ _
  | «at» b cap =>
    obtain ⟨vs, T, g1, g2, g3⟩ := hr.cells b (vecCells size cap xs) (hm _ List.mem_cons_self)
    have hcell : ∀ (i : Nat) x (j : Nat) c, xs[i]? = some x → x.cells[j]? = some c → ∃ u, vs[i * size + j]? = some u ∧ R st w c u := fun i x j c hx hc => by
      have h2 := flat_at hs hx hc
      have h3 : (vecCells size cap xs)[i * size + j]? = some c := by unfold vecCells; rw [List.getElem?_append_left (List.getElem?_eq_some_iff.1 h2).1]; exact h2
      have hlt : i * size + j < vs.size := by rw [g2]; exact (List.getElem?_eq_some_iff.1 h3).1
      exact ⟨vs[i * size + j], by simp [hlt], g3 _ c _ h3 (by simp [hlt])⟩
    refine .sl xs b 0 cap size (fun k => (vs[k]?).getD undef) hq (fun i x hx => hs x (List.mem_of_getElem? hx)) (fun i x j c hx hc => ?_) fun i x j c hx hc => ?_
    · obtain ⟨u, k1, k2⟩ := hcell i x j c hx hc
      refine ⟨by simp only [World.cell?, g1, Option.isSome_none, Bool.false_eq_true, if_false, Nat.zero_add, k1, Option.getD_some], fun ⟨o, ho, _⟩ => hn b cap rfl o ho⟩
    · obtain ⟨u, k1, k2⟩ := hcell i x j c hx hc
      rw [k1]
      exact k2.mono (Ext.dropS h) hr.nodup

/-- Each argument is, for one that only reads, what the callee wants. -/
inductive Lends (st : St) : List AV → List AV → Prop
  | nil : Lends st [] []
  | cons {a b : AV} {as bs : List AV} (h : Conv st [] a b) (t : Lends st as bs) : Lends st (a :: as) (b :: bs)
theorem Lends.len {as bs : List AV} (h : Lends st as bs) : as.length = bs.length := by induction h <;> simp [*]
theorem Lends.at_ {as bs : List AV} (h : Lends st as bs) : ∀ (i : Nat) b, bs[i]? = some b → ∃ a, as[i]? = some a ∧ Conv st [] a b := by
  induction h with
  | nil => intro i b h; simp at h
  | cons h t ih =>
    intro i b hb
    cases i with
    | zero => simp at hb; subst hb; exact ⟨_, rfl, h⟩
    | succ i => simp at hb; simpa using ih i b hb
theorem Sub.nil : Sub [] st := .l (List.nil_sublist _)

inductive Les : List AV → List AV → Prop
  | nil : Les [] []
  | cons {a b : AV} {as bs : List AV} (h : Le a b) (t : Les as bs) : Les (a :: as) (b :: bs)
theorem Les.len {as bs : List AV} (h : Les as bs) : as.length = bs.length := by induction h <;> simp [*]
theorem Les.at_ {as bs : List AV} (h : Les as bs) : ∀ (i : Nat) c d, as[i]? = some c → bs[i]? = some d → Le c d := by
  induction h with
  | nil => intro i c d hc; simp at hc
  | cons h t ih =>
    intro i c d hc hd
    cases i with
    | zero => simp at hc hd; subst hc; subst hd; exact h
    | succ i => simp at hc hd; exact ih i c d hc hd
theorem Les.agg {as bs : List AV} (h : Les as bs) : Le (.agg as) (.agg bs) := Le.agg h.len h.at_
theorem Les.tup {as bs : List AV} (h : Les as bs) : Le (.tup as) (.tup bs) := Le.tup h.len h.at_
/-- An operation behind a guard that lets it be done. -/
theorem AL_gT {ops : Array Oper} {rest : List Oper} {K : AV → St → Prop} {g d : Nat} {want b : Bool} (hgd : o.guard = some (g, want)) (hj : ((ops[g]?).bind (·.dst)) = some d) (hb : AEv env (.tmp d) (.bool b)) (hw : gd b want = true) (hd : dstIn N o.dst = true) (hs : Step P N o env st K)
    (h : ∀ x st', K x st' → AL P N ops rest Q (putE o.dst x env) st') : AL P N ops (o :: rest) Q env st := by
  intro a w hg
  have hy := lookup_of hg hj hb
  unfold wpList
  have hbw : b = want := by cases want <;> simpa [gd] using hw
  rw [if_pos (by simp [Region.wanted, hgd, hy, hbw])]
  refine .inl (hs a w hg _ _ fun x st' v w' hk hr hrel hx => ?_)
  exact wpList_mono (fun e a w h => h.later hx hg.rel.nodup) _ _ _ (h x st' hk _ _ (hg.put (dstIn_spec hd) hr hrel hx))
theorem PStep.k {V : AV} {K : AV → St → Prop} (h : PStep P N o env st V) (hk : K V st) : Step P N o env st K := fun a w hg next Q hn => h a w hg next Q fun x st' v w' ⟨h1, h2⟩ => hn x st' v w' (by rw [h1, h2]; exact hk)
theorem AL_gTp {ops : Array Oper} {rest : List Oper} {V : AV} {g d : Nat} {want b : Bool} (hgd : o.guard = some (g, want)) (hj : ((ops[g]?).bind (·.dst)) = some d) (hb : AEv env (.tmp d) (.bool b)) (hw : gd b want = true) (hd : dstIn N o.dst = true) (hs : PStep P N o env st V)
    (h : AL P N ops rest Q (putE o.dst V env) st) : AL P N ops (o :: rest) Q env st :=
  AL_gT hgd hj hb hw hd hs fun x st' ⟨h1, h2⟩ => by subst h1; subst h2; exact h
/-- A cell of a table. -/
theorem S_loadK {t : TypeId} {x : Operand} {b off : Nat} {vs : List Value} {u : Value} (ho : o.op = .load t x) (hx : AEv env x (.ptr b off)) (hst : (b, Ob.konst vs) ∈ st) (hc : vs[off]? = some u) (ht : flatT P t = true) : PStep P N o env st (.lit u) :=
  .of_val fun a w hg => by
    obtain ⟨d, hu, hd⟩ := flatT_spec ht
    have e := eval_ptr hx hg
    refine ⟨u, ?_, .lit _⟩
    simp [execOp, ho, e, Instr.loadAt, Instr.sureAddr, loadVar, run_isAgg' hu hd, (hg.rel.konst b vs hst).2 off u hc]
theorem S_gcall {f : FuncId} {xs : List Operand} {ts : Array TypeId} {args : List AV} {V : AV} (ho : o.op = .call { callee := .value (.func f), args := xs.toArray, argTypes := ts }) (hargs : AEvs env xs args) (hc : ACalls P f args st fun x st' => x = V ∧ st' = st) : PStep P N o env st V := S_call ho hargs hc
end
end Go.AL

namespace Go.AL
open Go.RowKit

inductive Buf where
  | nil
  | at (b cap : Nat)
abbrev byteV (x : UInt8) : AV := .int .u8 (x.toNat : Int)
def bytesV (l : List UInt8) : List AV := l.map byteV
def bufAV (q : Buf) (l : List UInt8) : AV := match q with | .nil => .nils | .at b cap => .row b 0 cap (bytesV l)
def bufSt (q : Buf) (e : TypeId) (l : List UInt8) : St := match q with | .at b cap => [(b, .grow e 1 l.length cap)] | .nil => []
def Buf.ok (q : Buf) (l : List UInt8) : Prop := match q with | .at _ cap => l.length ≤ cap ∧ 0 < cap | .nil => l = []
def bufPtr (q : Buf) : AV := match q with | .nil => .nilptr | .at b _ => .ptr b 0
theorem bytesV_len (l : List UInt8) : (bytesV l).length = l.length := by simp [bytesV]
theorem bytesV_at {l : List UInt8} {i : Nat} {x : AV} (h : (bytesV l)[i]? = some x) : ∃ c, l[i]? = some c ∧ x = byteV c := by
  simp only [bytesV, List.getElem?_map, Option.map_eq_some_iff] at h
  obtain ⟨c, h1, h2⟩ := h
  exact ⟨c, h1, h2.symm⟩
theorem bufAV_one (q : Buf) (l : List UInt8) : (bufAV q l).one = true := by cases q <;> rfl

section
variable {P : Program} {N : Nat} {Q : Post} {env : Env} {st : St} {o : Oper} {w : World}

theorem row_bytes {st' : St} {w' : World} {b cap e : Nat} {l : List UInt8} {vs : Array Value} {fz : Nat × Nat} (hg : (b, Ob.grow e 1 l.length cap) ∈ st') (hrel : Rel st' w') (hb : w'.heap[b]? = some (.cells vs e fz)) (hcap : l.length ≤ cap)
    (hv : ∀ (i : Nat) c, l[i]? = some c → vs[i]? = some (.int .u8 c.toNat)) : R st' w' (.row b 0 cap (bytesV l)) (.slice (some ⟨b, 0, none⟩) l.length cap) := by
  have := row_of (k := 0) (xs := bytesV l) (size := 1) (e := e) (cap := cap) (by simpa [bytesV_len] using hg) hrel hb (by simpa [bytesV_len] using hcap) (fun i x hx => by obtain ⟨c, _, rfl⟩ := bytesV_at hx; rfl) (fun i x j c hx hc => by
    obtain ⟨d, h1, rfl⟩ := bytesV_at hx
    cases j with
    | zero =>
      simp [AV.cells] at hc
      subst hc
      exact ⟨_, by simpa using hv i d h1, .lit _⟩
    | succ j => simp [AV.cells] at hc)
  simpa [bytesV_len] using this

theorem buf_inv {q : Buf} {l : List UInt8} {v : Value} (h : R st w (bufAV q l) v) : match q with
    | .nil => v = .slice none 0 0
    | .at b cap => v = .slice (some ⟨b, 0, none⟩) l.length cap ∧ ∀ (i : Nat) c, l[i]? = some c → w.cell? ⟨b, i, none⟩ = some (.int .u8 c.toNat) := by
  cases q with
  | nil => exact h.lit_inv
  | «at» b cap =>
    have h : R st w (.row b 0 cap (bytesV l)) v := h
    cases h with
    | row _ _ _ _ sz f h1 h2 h3 h4 =>
      refine ⟨by rw [bytesV_len], fun i c hc => ?_⟩
      have hx : (bytesV l)[i]? = some (byteV c) := by simp [bytesV, hc]
      have hsz : sz = 1 := by have := h2 i _ hx; simpa [AV.cells] using this.symm
      subst hsz
      have k1 := (h3 i _ 0 (byteV c) hx rfl).1
      have k2 := (h4 i _ 0 (byteV c) hx rfl).lit_inv
      rw [k2] at k1
      simpa using k1

theorem strCells_at {s : List UInt8} {i : Nat} : (Lib.strCells ⟨s.toArray⟩)[i]? = (s[i]?).map fun c => Value.int .u8 c.toNat := by
  simp [Lib.strCells]

/-- Bytes of a text behind a buffer's. -/
theorem S_appendStr {t u e : TypeId} {x y : Operand} {q : Buf} {l s : List UInt8} (pre post : St) (ho : o.op = .call { callee := .builtin .append, args := #[x, y], argTypes := #[t, u] }) (hx : AEv env x (bufAV q l)) (hy : AEv env y (.S s)) (hst : st = pre ++ (bufSt q e l ++ post)) (hq : q.ok l)
    (hT : appT P t e 1 1 = true) (hU : P.underlying u = some .string) (hb : l.length + s.length ≤ 140737488355328) :
    Step P N o env st fun z st' => ∃ q' : Buf, q'.ok (l ++ s) ∧ z = bufAV q' (l ++ s) ∧ st' = pre ++ (bufSt q' e (l ++ s) ++ post) := by
  intro a w hg next Q hn
  have hnd := hg.rel.nodup
  obtain ⟨hu, ⟨i, z, hi, hz, hs1, hs2, hzs⟩, _⟩ := appT_spec hT
  have e2 := (hy _ _ _ _ hg).lit_inv
  have hsz : (⟨s.toArray⟩ : ByteArray).size = s.length := by simp [ByteArray.size]
  have h1 := buf_inv (hx _ _ _ _ hg)
  have hsl := Lib.strCells_length ⟨s.toArray⟩
  rw [hsz] at hsl
  have fin : ∀ (v : Value) (w' : World) (b cap : Nat) (vs' : Array Value) (fz : Nat × Nat), (execOp a.eval o).run P w = .ok (.value v) w' → v = .slice (some ⟨b, 0, none⟩) (l ++ s).length cap → (l ++ s).length ≤ cap → 0 < cap → w'.heap[b]? = some (.cells vs' e fz) →
      (∀ (i : Nat) c, (l ++ s)[i]? = some c → vs'[i]? = some (.int .u8 c.toNat)) → Rel (pre ++ ((b, .grow e 1 (l ++ s).length cap) :: post)) w' → Ext st w (pre ++ ((b, .grow e 1 (l ++ s).length cap) :: post)) w' → o.wp P a w next Q := fun v w' b cap vs' fz hrun hv hc h0 hh hcells hrel hext => by
    unfold Oper.wp
    rw [hrun, hv]
    exact hn _ _ _ w' ⟨.at b cap, ⟨hc, h0⟩, rfl, rfl⟩ (row_bytes (by simp [bufSt]) hrel hh hc hcells) hrel hext
  have alloc : ∀ (ws : Array Value) (cap : Nat), (execOp a.eval o).run P w = .ok (.value (.slice (some ⟨w.heap.size, 0, none⟩) (l ++ s).length cap)) (w.drew.alloc (.cells ws e)) → ws.size = cap → (l ++ s).length ≤ cap → 0 < cap → cap ≤ maxLen →
      (∀ (i : Nat) c, (l ++ s)[i]? = some c → ws[i]? = some (.int .u8 c.toNat)) → o.wp P a w next Q := fun ws cap hrun hw hc h0 hm hcells => by
    obtain ⟨k1, k2⟩ := alloc_grow (e := e) (size := 1) (k := (l ++ s).length) (cap := cap) (ws := ws) hg.rel (by omega) hc hm
    have hsub : ∀ p, p ∈ (pre ++ ((w.heap.size, .grow e 1 (l ++ s).length cap) :: post) : St) → p ∈ ((w.heap.size, .grow e 1 (l ++ s).length cap) :: st : St) := fun p hp => by
      rw [hst]
      simp only [List.mem_append, List.mem_cons] at hp ⊢
      rcases hp with h | h | h
      · exact .inr (.inl h)
      · exact .inl h
      · exact .inr (.inr (.inr h))
    have hnd2 : ((pre ++ ((w.heap.size, Ob.grow e 1 (l ++ s).length cap) :: post) : St).map (·.1)).Nodup := by
      have h3 := k1.nodup
      rw [hst] at h3
      have hp : ((pre ++ ((w.heap.size, Ob.grow e 1 (l ++ s).length cap) :: post) : St)).Perm ((w.heap.size, Ob.grow e 1 (l ++ s).length cap) :: (pre ++ post)) := List.perm_middle
      refine ((hp.map (·.1)).nodup_iff).2 (List.Nodup.sublist ?_ h3)
      exact (List.Sublist.cons_cons _ (List.Sublist.append (List.Sublist.refl _) (List.sublist_append_right _ _))).map _
    exact fin _ _ w.heap.size cap ws (0, 0) hrun rfl hc h0 (heap_alloc_new w.drew _) hcells (k1.sub hsub hnd2) (k2.trans (Ext.sub hsub) hnd)
  have hmax : (140737488355328 : Nat) ≤ maxLen := by decide
  cases q with
  | nil =>
    have hl : l = [] := hq
    subst hl
    have e1 : a.eval x = .slice none 0 0 := h1
    by_cases hs0 : s = []
    · subst hs0
      have hf := Lib.run_firstCells_string (P := P) w 1 ⟨([] : List UInt8).toArray⟩
      rw [hsz] at hf
      have hn0 : Lib.strCells ⟨([] : List UInt8).toArray⟩ = [] := rfl
      have hrun : (execOp a.eval o).run P w = .ok (.value (.slice none 0 0)) w := by
        simp only [execOp, ho, resolve, invoke, builtin, Sem.run_bind, Sem.run_pure, Result.andThen_ok, List.map_toArray, List.map_cons, List.map_nil, e1, e2]
        simp only [List.length_nil] at hf
        simp [Builtin.append_, run_underlying hu, run_underlying hU, sizeOf, typeInfo, hi, hs1, Builtin.lenOf, hsz, hf]
      unfold Oper.wp
      rw [hrun]
      refine hn _ _ _ w ⟨.nil, rfl, rfl, rfl⟩ (.lit _) ?_ ?_
      · have := hg.rel; rw [hst] at this; exact this
      · rw [hst]; exact .refl _ _
    · have hp : 0 < s.length := List.length_pos_iff.2 hs0
      have hr := run_append_nil_string (P := P) w t u o.type e i z hu hU hi hz ⟨s.toArray⟩ (by omega) (by omega) (by rw [hs2]; omega)
      rw [hsz] at hr
      have hge := grownCap_ge w s.length 0 e
      refine alloc ((⟨s.toArray⟩ : ByteArray).data.map (fun b => Value.int .u8 b.toNat) ++ Builtin.zeroCells z.cells (grownCap w s.length 0 e - s.length)) (grownCap w s.length 0 e) ?_ ?_ (by simpa using hge) (by omega) (grownCap_le_maxLen w s.length 0 e (by omega)) ?_
      · simp only [execOp, ho, resolve, invoke, builtin, Sem.run_bind, Sem.run_pure, Result.andThen_ok, List.map_toArray, List.map_cons, List.map_nil, e1, e2, hr, List.nil_append]
      · simp [size_zeroCells, hzs, hs1]; omega
      · intro k c hc
        simp only [List.nil_append] at hc
        have hk : k < s.length := (List.getElem?_eq_some_iff.1 hc).1
        rw [Array.getElem?_append_left (by simpa using hk)]
        simp [hc]
  | «at» b cap =>
    obtain ⟨hlc, hc0⟩ := hq
    obtain ⟨e1, hcell⟩ := h1
    have hmem : (b, Ob.grow e 1 l.length cap) ∈ st := by rw [hst]; simp [bufSt]
    obtain ⟨vs, ⟨⟨flo, fhi⟩, g1, gz⟩, g2, g3, g4⟩ := hg.rel.grow b e 1 l.length cap hmem
    dsimp only at gz
    have hvs : ∀ (i : Nat) c, l[i]? = some c → vs[i]? = some (.int .u8 c.toNat) := fun i c hc => by
      have := hcell i c hc
      simpa [World.cell?, g1] using this
    by_cases hroom : l.length + s.length ≤ cap
    · have hfit : l.length + (Lib.strCells ⟨s.toArray⟩).length ≤ vs.size := by omega
      have hr : (Builtin.append_ #[t, u] o.type #[.slice (some ⟨b, 0, none⟩) l.length cap, .string ⟨s.toArray⟩]).run P w = .ok (.slice (some ⟨b, 0, none⟩) (l.length + s.length) cap) (w.setCells b l.length (Lib.strCells ⟨s.toArray⟩)) := by
        have hf := Lib.run_firstCells_string (P := P) w 1 ⟨s.toArray⟩
        have hst' := run_storeCells_cells (P := P) b l.length (Lib.strCells ⟨s.toArray⟩) 0 w (fun j hj => by simp [World.cell?, g1]; omega) (fun j hj => by simp [World.frozen?, g1]; omega) (fun v hv => Lib.strCells_oneCell _ v hv)
        rw [hsz] at hf
        simp only [Nat.add_zero] at hst'
        simp [Builtin.append_, run_underlying hu, run_underlying hU, sizeOf, typeInfo, hi, hs1, Builtin.lenOf, hsz, hroom, hf, Addr.add_lit, hst']
      obtain ⟨⟨ws, j1, j2, j3⟩, j4, j5, j6, j7, j8⟩ := setCells_heap b (Lib.strCells ⟨s.toArray⟩) l.length w vs e g1 hfit
      have hat : st[pre.length]? = some (b, .grow e 1 l.length cap) := by rw [hst]; simp [bufSt]
      obtain ⟨k1, k2⟩ := grow_rel hg.rel hat (k' := (l ++ s).length) (by simp) (by simpa using hroom) g1 j1 (by rw [j2, g2]) (fun m hm => by rw [j3 m, if_neg (by omega)]) j4 j5 j6 j7 j8 gz
      have hset : st.set pre.length (b, .grow e 1 (l ++ s).length cap) = pre ++ ((b, .grow e 1 (l ++ s).length cap) :: post) := by
        rw [hst]
        simp [bufSt]
      rw [hset] at k1 k2
      refine fin _ _ b cap ws _ ?_ rfl (by simpa using hroom) hc0 j1 ?_ k1 k2
      · simp only [execOp, ho, resolve, invoke, builtin, Sem.run_bind, Sem.run_pure, Result.andThen_ok, List.map_toArray, List.map_cons, List.map_nil, e1, e2, hr, List.length_append]
      · intro k c hc
        rw [j3 k]
        by_cases hk : k < l.length
        · rw [List.getElem?_append_left hk] at hc
          rw [if_neg (by omega)]
          exact hvs k c hc
        · rw [List.getElem?_append_right (by omega)] at hc
          have hks : k - l.length < s.length := (List.getElem?_eq_some_iff.1 hc).1
          rw [if_pos ⟨by omega, by omega⟩, strCells_at, hc]
          rfl
    · have hpos : 0 < s.length := by omega
      have hlv : l.length ≤ vs.size := by omega
      have holds : ∀ (j : Nat) v, (l.map fun c => Value.int .u8 (c.toNat : Int))[j]? = some v → w.cell? ((⟨b, 0, none⟩ : Addr).add j) = some v := fun j v hv => by
        simp only [List.getElem?_map, Option.map_eq_some_iff] at hv
        obtain ⟨c, hc, rfl⟩ := hv
        have := hcell j c hc
        rw [Addr.add_mid, Nat.zero_add]
        exact this
      have hr := Lib.run_append_grow_string (P := P) w t u o.type e i z hu hU hi hz ⟨b, 0, none⟩ l.length cap (l.map fun c => Value.int .u8 (c.toNat : Int)) (by simp [hs1]) holds ⟨s.toArray⟩ (by omega) (by omega) (by rw [hs2]; exact growslice_fits (by omega) (by omega))
      rw [hsz] at hr
      have hge := grownCap_ge w (l.length + s.length) cap e
      refine alloc ((l.map fun c => Value.int .u8 (c.toNat : Int)).toArray ++ (Lib.strCells ⟨s.toArray⟩).toArray ++ Builtin.zeroCells z.cells (grownCap w (l.length + s.length) cap e - (l.length + s.length))) (grownCap w (l.length + s.length) cap e) ?_ ?_ (by simpa using hge) (by omega) (grownCap_le_maxLen w (l.length + s.length) cap e (by omega)) ?_
      · simp only [execOp, ho, resolve, invoke, builtin, Sem.run_bind, Sem.run_pure, Result.andThen_ok, List.map_toArray, List.map_cons, List.map_nil, e1, e2, hr, List.length_append]
      · simp [size_zeroCells, hzs, hs1, hsl]; omega
      · intro k c hc
        have hk : k < (l ++ s).length := (List.getElem?_eq_some_iff.1 hc).1
        rw [Array.getElem?_append_left (by simp [hsl]; simpa using hk)]
        by_cases hkl : k < l.length
        · rw [List.getElem?_append_left hkl] at hc
          rw [Array.getElem?_append_left (by simpa using hkl)]
          simp [hc]
        · rw [List.getElem?_append_right (by omega)] at hc
          rw [Array.getElem?_append_right (by simp; omega)]
          simp [strCells_at, hc]

/-! The steps of strings.Builder -/
theorem S_toUnsafe {src dst t : TypeId} {x : Operand} {b off T m k : Nat} {cs : List AV} (n : Nat) (ho : o.op = .convert src dst x) (hx : AEv env x (.ptr b off)) (hst : st[n]? = some (b, .cells cs)) (hc : cs[k]? = some (.nilB b T m)) (hs : P.underlying src = some (.pointer t)) (hd : P.underlying dst = some .unsafePointer)
    (hi : (P.info? t).any (fun j => j.size != 0) = true) (hoff : off < m) : PStep P N o env st (.ptr b off) :=
  .of_val fun a w hg => by
    obtain ⟨v, h1, h2, _⟩ := hg.rel.at_ (mem_at hst) hc
    have e := eval_ptr hx hg
    cases h2 with
    | nilB _ _ _ hb hsh =>
      obtain ⟨j, hj, hj0⟩ : ∃ j, P.info? t = some j ∧ j.size ≠ 0 := by
        cases hq : P.info? t with
        | none => simp [hq] at hi
        | some j => exact ⟨j, rfl, by simpa [hq] using hi⟩
      refine ⟨_, ?_, .lit _⟩
      simp only [execOp, ho, e, Sem.run_bind, Lib.run_to_unsafe (P := P) (w := w) ⟨b, off, none⟩ hs hd hj hj0 hsh hoff, Result.andThen_ok, Sem.run_pure]
theorem S_fromUnsafe {src dst t : TypeId} {x : Operand} {b off T m k : Nat} {cs : List AV} (n : Nat) (ho : o.op = .convert src dst x) (hx : AEv env x (.ptr b off)) (hst : st[n]? = some (b, .cells cs)) (hc : cs[k]? = some (.nilB b T m)) (hs : P.underlying src = some .unsafePointer) (hd : P.underlying dst = some (.pointer t))
    (hi : (P.info? t).isSome = true) (hl : liesAt P P.depth T (m / P.cellsOf T) off t 1 = true) : PStep P N o env st (.ptr b off) :=
  .of_val fun a w hg => by
    obtain ⟨v, h1, h2, _⟩ := hg.rel.at_ (mem_at hst) hc
    have e := eval_ptr hx hg
    cases h2 with
    | nilB _ _ _ hb hsh =>
      obtain ⟨j, hj⟩ := Option.isSome_iff_exists.1 hi
      refine ⟨_, ?_, .lit _⟩
      simp only [execOp, ho, e, Sem.run_bind, Lib.run_from_unsafe (P := P) (w := w) ⟨b, off, none⟩ hs hd hj hsh hl, Result.andThen_ok, Sem.run_pure]
theorem S_noEscape {f : FuncId} {fn : Func} {x : Operand} {ts : Array TypeId} {y : AV} (ho : o.op = .call { callee := .value (.func f), args := #[x], argTypes := ts }) (hx : AEv env x y) (hf : P.funcs[f]? = some fn) (h1 : (fn.name == "runtime.NumGoroutine") = false) (h2 : fn.body.isNone = true) (h3 : Extern.findNext fn = none) (h4 : Extern.find fn = some Extern.AbiNoEscape.same) : PStep P N o env st y :=
  .of_val fun a w hg => ⟨a.eval x, by
    simp only [execOp, ho, resolve, Deferred.ofValue, Act.eval, invoke, Sem.run_bind, Sem.run_pure, Result.andThen_ok, List.map_toArray, List.map_cons, List.map_nil, run_callFunc_extern hf h1 h2 h3 h4, Lib.run_noEscape]
    rfl, hx _ _ _ _ hg⟩
def isPtrI (P : Program) (t : TypeId) : Bool := match P.underlying t with | some (.pointer e) => (P.info? e).isSome | _ => false
theorem isPtrI_spec {t : TypeId} (h : isPtrI P t = true) : ∃ e i, P.underlying t = some (.pointer e) ∧ P.info? e = some i := by
  unfold isPtrI at h
  cases hu : P.underlying t with
  | none => simp [hu] at h
  | some d =>
    cases d <;> simp [hu] at h
    obtain ⟨i, hi⟩ := Option.isSome_iff_exists.1 h
    exact ⟨_, i, rfl, hi⟩
theorem run_eqIn_ptr {t : TypeId} {p : Option Addr} (d : Nat) (w : World) (h : isPtrI P t = true) : (Op.equalIn (d + 1) t (.pointer p) (.pointer p)).run P w = .ok true w := by
  obtain ⟨e, i, hu, hi⟩ := isPtrI_spec h
  have hsame : ∀ a : Addr, (sameAddr a a).run P w = .ok true w := fun a => by simp [sameAddr]
  cases p with
  | none => simp [Op.equalIn, run_underlying hu]
  | some a =>
    simp only [Op.equalIn, Sem.run_bind, run_underlying hu, Result.andThen_ok, sizeOf, typeInfo]
    simp [hi, hsame]
theorem run_eq_ptr {t : TypeId} {p : Option Addr} (w : World) (h : isPtrI P t = true) : (Op.equal t (.pointer p) (.pointer p)).run P w = .ok true w := run_eqIn_ptr 9999 w h
theorem S_eqlPtr {t t2 : TypeId} {x y : Operand} {p : Option Addr} (ho : o.op = .binOp .eql t x y t2) (hx : AEv env x (.lit (.pointer p))) (hy : AEv env y (.lit (.pointer p))) (hu : isPtrI P t = true) : PStep P N o env st (.bool true) :=
  S_bin ho hx hy (eqGuard_at_pointer ..) fun w => by simp only [binOp, Sem.run_bind, run_eq_ptr w hu, Result.andThen_ok, Sem.run_pure]
theorem S_neqPtr {t t2 : TypeId} {x y : Operand} {p : Option Addr} (ho : o.op = .binOp .neq t x y t2) (hx : AEv env x (.lit (.pointer p))) (hy : AEv env y (.lit (.pointer p))) (hu : isPtrI P t = true) : PStep P N o env st (.bool false) :=
  S_bin ho hx hy (eqGuard_at_pointer ..) fun w => by simp only [binOp, Sem.run_bind, run_eq_ptr w hu, Result.andThen_ok, Sem.run_pure]; rfl
theorem S_unsafeData {t : TypeId} {x : Operand} {q : Buf} {l : List UInt8} (ho : o.op = .call { callee := .builtin .unsafeSliceData, args := #[x], argTypes := #[t] }) (hx : AEv env x (bufAV q l)) (hq : q.ok l) : PStep P N o env st (bufPtr q) :=
  .of_val fun a w hg => by
    have h := buf_inv (hx _ _ _ _ hg)
    cases q with
    | nil =>
      have h : a.eval x = .slice none 0 0 := h
      refine ⟨.pointer none, ?_, .lit _⟩
      simp only [execOp, ho, resolve, invoke, builtin, Sem.run_bind, Sem.run_pure, Result.andThen_ok, List.map_toArray, List.map_cons, List.map_nil, h, Lib.run_unsafeSliceData_nil]
    | «at» b cap =>
      have h := h.1
      have hc := hq.2
      refine ⟨.pointer (some ⟨b, 0, none⟩), ?_, .lit _⟩
      simp only [execOp, ho, resolve, invoke, builtin, Sem.run_bind, Sem.run_pure, Result.andThen_ok, List.map_toArray, List.map_cons, List.map_nil, h, Lib.run_unsafeSliceData_row w _ _ _ _ _ (show cap ≠ 0 by omega), Result.andThen_ok]

/-- A text out of a buffer: its bytes stay as they are from here on. -/
theorem S_unsafeStringK {pt it e : TypeId} {x y : Operand} {q : Buf} {l : List UInt8} {b0 n k : Nat} {cs : List AV} (pre post : St) (ho : o.op = .call { callee := .builtin .unsafeString, args := #[x, y], argTypes := #[pt, it] }) (hx : AEv env x (bufPtr q)) (hy : AEv env y (.int .i64 l.length)) (hat : st[n]? = some (b0, .cells cs)) (hck : cs[k]? = some (bufAV q l)) (hst : st = pre ++ (bufSt q e l ++ post)) (hq : q.ok l)
    (hp : P.underlying pt = some (.pointer e)) (hc : P.cellsOf e = 1) : PStep P N o env st (.S l) := by
  intro a w hg next Q hn
  have hnd := hg.rel.nodup
  have e2 := (hy _ _ _ _ hg).lit_inv
  have e1 : a.eval x = (match q with | .nil => .pointer none | .at b _ => .pointer (some ⟨b, 0, none⟩)) := by
    cases q <;> exact (hx _ _ _ _ hg).lit_inv
  obtain ⟨vb, _, hvb, _⟩ := hg.rel.at_ (mem_at hat) hck
  have hb := buf_inv hvb
  by_cases hl : l = []
  · subst hl
    have hrun : (execOp a.eval o).run P w = .ok (.value (.string .empty)) w := by
      simp only [execOp, ho, resolve, invoke, builtin, Sem.run_bind, Sem.run_pure, Result.andThen_ok, List.map_toArray, List.map_cons, List.map_nil, e1, e2, List.length_nil]
      cases q <;> simp only [show ((0 : Nat) : Int) = 0 from rfl, Lib.run_unsafeString_none, Result.andThen_ok] <;> rfl
    unfold Oper.wp
    rw [hrun]
    exact hn (.S []) _ _ w ⟨rfl, rfl⟩ (.lit _) hg.rel (.refl _ _)
  · cases q with
    | nil => exact absurd hq hl
    | «at» b cap =>
      obtain ⟨hlc, hc0⟩ := hq
      obtain ⟨_, hcell⟩ := hb
      have hmem : (b, Ob.grow e 1 l.length cap) ∈ st := by rw [hst]; simp [bufSt]
      obtain ⟨vs, ⟨⟨flo, fhi⟩, g1, gz⟩, g2, g3, g4⟩ := hg.rel.grow b e 1 l.length cap hmem
      dsimp only at gz
      have hpos : 0 < l.length := List.length_pos_iff.2 hl
      have h63 : cap ≤ 9223372036854775807 := by unfold maxLen at g4; omega
      have hrun : (execOp a.eval o).run P w = .ok (.value (.string ⟨l.toArray⟩)) (w.freeze ⟨b, 0, none⟩ l.length) := by
        simp only [execOp, ho, resolve, invoke, builtin, Sem.run_bind, Sem.run_pure, Result.andThen_ok, List.map_toArray, List.map_cons, List.map_nil, e1, e2,
          Lib.run_unsafeString_row (P := P) w pt it o.type e hp hc b vs.size (by simp [World.shape?, g1]) l hl (by omega) (by omega) (fun j c hj => by rw [Addr.add_mid, Nat.zero_add]; exact hcell j c hj)]
      have hfz : w.freeze ⟨b, 0, none⟩ l.length = { w with heap := w.heap.modify b fun | .cells c elem (lo, hi) => .cells c elem (if lo == hi then (0, 0 + l.length) else (min lo 0, max hi (0 + l.length))) | o => o } := by
        unfold World.freeze
        rw [if_neg (by omega)]
        rfl
      have hother : ∀ b', b' ≠ b → (w.freeze ⟨b, 0, none⟩ l.length).heap[b']? = w.heap[b']? := fun b' hne => by
        rw [hfz]; simp only [Array.getElem?_modify]; rw [if_neg (fun h => hne h.symm)]
      have hthis : ∃ fz : Nat × Nat, (w.freeze ⟨b, 0, none⟩ l.length).heap[b]? = some (.cells vs e fz) ∧ fz.2 ≤ l.length * 1 := by
        refine ⟨if flo == fhi then (0, 0 + l.length) else (min flo 0, max fhi (0 + l.length)), ?_, ?_⟩
        · rw [hfz]; simp only [Array.getElem?_modify, if_true, g1, Option.map_some]
        · split
          · dsimp only; omega
          · dsimp only; omega
      obtain ⟨fz, hthis, hfzl⟩ := hthis
      have hcells : ∀ a : Addr, (w.freeze ⟨b, 0, none⟩ l.length).cell? a = w.cell? a := fun a => by
        by_cases h : a.block = b
        · simp only [World.cell?, h, hthis, g1]
        · simp only [World.cell?, hother _ h]
      have hext : Ext st w st (w.freeze ⟨b, 0, none⟩ l.length) := by
        refine ⟨by rw [hfz], by rw [hfz], by rw [hfz], fun b' hb' => ?_, by rw [hfz]; simp, fun b' hb' hk => hother b' (fun h => by subst h; exact hk _ hmem), fun b' e' size n cap' hb' hm off hoff => hcells _, fun b' off hb' hm => hm, fun b' us hb' hg => hother b' fun h => by subst h; have := key_unique hnd hg hmem; cases this⟩
        by_cases h : b' = b
        · subst h; simp only [World.shape?, hthis, g1]
        · simp only [World.shape?, hother _ h]
      unfold Oper.wp
      rw [hrun]
      refine hn (.S l) _ _ _ ⟨rfl, rfl⟩ (.lit _) ⟨hnd, fun b' cs hb' => ?_, fun b' e' size n cap' hb' => ?_, fun b' us hb' => hext.konst_rel hg.rel hb'⟩ hext
      · obtain ⟨us, T, k1, k2, k3⟩ := hg.rel.cells b' cs hb'
        have hne : b' ≠ b := fun h => by subst h; have := key_unique hnd hb' hmem; cases this
        exact ⟨us, T, by rw [hother b' hne]; exact k1, k2, fun i c v h1 h2 => (k3 i c v h1 h2).mono hext hnd⟩
      · by_cases hbb : b' = b
        · subst hbb
          have := key_unique hnd hb' hmem
          cases this
          exact ⟨vs, ⟨fz, hthis, hfzl⟩, g2, g3, g4⟩
        · obtain ⟨us, k1, k2⟩ := hg.rel.grow b' e' size n cap' hb'
          exact ⟨us, by rw [hother b' hbb]; exact k1, k2⟩
/-- .., and the buffer is not needed any more. -/
theorem S_unsafeString {pt it e : TypeId} {x y : Operand} {q : Buf} {l : List UInt8} {b0 n k : Nat} {cs : List AV} (pre post : St) (ho : o.op = .call { callee := .builtin .unsafeString, args := #[x, y], argTypes := #[pt, it] }) (hx : AEv env x (bufPtr q)) (hy : AEv env y (.int .i64 l.length)) (hat : st[n]? = some (b0, .cells cs)) (hck : cs[k]? = some (bufAV q l)) (hst : st = pre ++ (bufSt q e l ++ post)) (hq : q.ok l)
    (hp : P.underlying pt = some (.pointer e)) (hc : P.cellsOf e = 1) : Step P N o env st fun z st' => z = .S l ∧ st' = pre ++ post := by
  have hsub : Sub (pre ++ post) st := by rw [hst]; exact .l (List.Sublist.append (List.Sublist.refl _) (List.sublist_append_right _ _))
  intro a w hg next Q hn
  refine S_unsafeStringK pre post ho hx hy hat hck hst hq hp hc a w hg next Q ?_
  rintro x' st' v w' ⟨rfl, rfl⟩ hr hrel hxx
  exact hn (.S l) (pre ++ post) v w' ⟨rfl, rfl⟩ (by rw [hr.lit_inv]; exact .lit _) (hrel.dropS hsub) (hxx.trans (Ext.dropS hsub) hg.rel.nodup)

/-- A new variable whose first cell is a builder's that was not used. -/
theorem S_boxB {e : TypeId} {x : Operand} {cs : List AV} (ho : o.op = .box e x) (hx : AEv env x (.agg (.nilptr :: cs))) :
    Step P N o env st fun y st' => ∃ b, y = .ptr b 0 ∧ st' = (b, .cells (.nilB b e (cs.length + 1) :: cs)) :: st := by
  intro a w hg next Q hn
  have hr := hx _ _ _ _ hg
  obtain ⟨vs, e1, hk⟩ : ∃ vs, a.eval x = .agg vs ∧ vs.size = (AV.nilptr :: cs).length ∧ ∀ (i : Nat) c v, (AV.nilptr :: cs)[i]? = some c → vs[i]? = some v → R st w c v := by
    generalize a.eval x = u at hr
    cases hr with
    | agg _ vs hn h => exact ⟨vs, rfl, hn.symm, h⟩
  have hrun : (execOp a.eval o).run P w = .ok (.value (.pointer (some ⟨w.heap.size, 0, none⟩))) (w.alloc (.cells vs e)) := by
    simp [execOp, ho, e1, Instr.box, newVar, newRow, Value.cells]
  obtain ⟨h1, h2⟩ := alloc_rel hg.rel (ob := .cells (.nilptr :: cs)) (vs := vs) (T := e) hk
  have hnew : (w.alloc (.cells vs e)).heap[w.heap.size]? = some (.cells vs e) := heap_alloc_new w _
  obtain ⟨h3, h4⟩ := write_rel (n := 0) (cs' := .nilB w.heap.size e (cs.length + 1) :: cs) (w' := w.alloc (.cells vs e)) h1 rfl ⟨vs, hnew, rfl⟩ hnew (fun _ _ => rfl) rfl rfl rfl rfl (by simpa using hk.1) (fun i c v hc hv => by
    have h0 := hk.2
    cases i with
    | zero =>
      simp at hc
      subst hc
      have := (h0 0 _ v rfl hv).lit_inv
      subst this
      exact .nilB _ _ _ (by simp) (by simp only [World.shape?, hnew]; rw [hk.1]; simp)
    | succ i => exact (h0 (i + 1) c v hc hv).mono h2 hg.rel.nodup)
  unfold Oper.wp
  rw [hrun]
  exact hn _ _ _ _ ⟨_, rfl, rfl⟩ (.lit _) h3 (h2.trans h4 hg.rel.nodup)
/-- What a builder's first cell is. -/
def addrB (u : Bool) (b : Nat) (T : TypeId) (m : Nat) : AV := match u with | true => .ptr b 0 | false => .nilB b T m
end
end Go.AL

namespace Go.AL
open Go.RowKit

def vec1C (cap : Nat) (xs : List AV) : List AV := xs ++ List.replicate (cap - xs.length) .any
abbrev vec1V (b cap : Nat) (xs : List AV) : AV := .lit (.slice (some ⟨b, 0, none⟩) xs.length cap)
theorem vec1C_at {cap i : Nat} {xs : List AV} {x : AV} (h : xs[i]? = some x) : (vec1C cap xs)[i]? = some x := by
  rw [vec1C, List.getElem?_append_left (List.getElem?_eq_some_iff.1 h).1]; exact h
theorem vec1C_set {cap i : Nat} {xs : List AV} {x : AV} (h : i < xs.length) : (vec1C cap xs).set i x = vec1C cap (xs.set i x) := by
  rw [vec1C, vec1C, List.set_append_left _ _ h, List.length_set]
theorem vec1C_len {cap : Nat} {xs : List AV} (h : xs.length ≤ cap) : (vec1C cap xs).length = cap := by simp [vec1C]; omega

section
variable {P : Program} {N : Nat} {Q : Post} {env : Env} {st : St} {o : Oper} {w : World}

theorem Conv.vec1 {st' : St} (h : Sub st' st) {b cap : Nat} {xs : List AV} (hq : xs.length ≤ cap) (hs : ∀ x, x ∈ xs → x.cells = [x]) (hm : (b, Ob.cells (vec1C cap xs)) ∈ st) (hn : ∀ o, (b, o) ∉ st') : Conv st st' (vec1V b cap xs) (.sl xs) := fun w v hr h1 => by
  cases h1
  obtain ⟨vs, T, g1, g2, g3⟩ := hr.cells b _ hm
  have hcell : ∀ (i : Nat) x (j : Nat) c, xs[i]? = some x → x.cells[j]? = some c → ∃ u, vs[i * 1 + j]? = some u ∧ R st w c u := fun i x j c hx hc => by
    rw [hs x (List.mem_of_getElem? hx)] at hc
    cases j with
    | succ j => simp at hc
    | zero =>
      simp at hc
      subst hc
      have h3 := vec1C_at (cap := cap) hx
      have hlt : i < vs.size := by rw [g2]; exact (List.getElem?_eq_some_iff.1 h3).1
      exact ⟨vs[i], by simp [hlt], g3 i _ _ h3 (by simp [hlt])⟩
  refine .sl xs b 0 cap 1 (fun k => (vs[k]?).getD undef) hq (fun i x hx => by rw [hs x (List.mem_of_getElem? hx)]; rfl) (fun i x j c hx hc => ?_) fun i x j c hx hc => ?_
  · obtain ⟨u, k1, k2⟩ := hcell i x j c hx hc
    exact ⟨by simp only [World.cell?, g1, Option.isSome_none, Bool.false_eq_true, if_false, Nat.zero_add, k1, Option.getD_some], fun ⟨o, ho, _⟩ => hn o ho⟩
  · obtain ⟨u, k1, k2⟩ := hcell i x j c hx hc
    rw [k1]
    exact k2.mono (Ext.dropS h) hr.nodup

/-- A literal slice of one element, whose cell may be written. -/
theorem S_buildVec1 {t e : TypeId} {x : Operand} {y : AV} (ho : o.op = .buildSlice t 1 #[(0, x)]) (hx : AEv env x y) (hone : y.one = true) (hu : P.underlying t = some (.slice e)) (hz : (P.info? e).map (fun i => (i.size, i.zero.map (·.cells.size))) = some (1, some 1)) :
    Step P N o env st fun z st' => ∃ b, z = vec1V b 1 [y] ∧ st' = (b, .cells (vec1C 1 [y])) :: st := by
  intro a w hg next Q hn
  have hr := hx _ _ _ _ hg
  have h1 := hr.one hone
  have hcells : (a.eval x).cells = #[a.eval x] := by cases hv : a.eval x <;> first | rfl | (rw [hv] at h1; simp [Value.oneCell'] at h1)
  obtain ⟨i, hi⟩ : ∃ i, P.info? e = some i := by cases h : P.info? e with | none => simp [h] at hz | some i => exact ⟨i, rfl⟩
  have hz1 : i.size = 1 := by simp [hi] at hz; exact hz.1
  obtain ⟨z, hzz⟩ : ∃ z, i.zero = some z := by cases h : i.zero with | none => simp [hi, h] at hz | some z => exact ⟨z, rfl⟩
  have hz2 : z.cells.size = 1 := by simp [hi, hzz] at hz; exact hz.2
  obtain ⟨k1, k2⟩ := alloc_rel hg.rel (T := e) (ob := .cells (vec1C 1 [y])) (vs := #[a.eval x]) ⟨by simp [vec1C], fun k c v hc hv => by
    cases k with
    | zero => simp [vec1C] at hc hv; subst hc; subst hv; exact hr
    | succ k => simp at hv⟩
  have hrun : (execOp a.eval o).run P w = .ok (.value (.slice (some ⟨w.heap.size, 0, none⟩) 1 1)) (w.alloc (.cells #[a.eval x] e)) := by
    have hfill := Go.Great.fill_whole (s := 1) (by decide) [a.eval x] ((Array.range (1 * 1)).map (z.cells[· % z.cells.size]!)) (fun v hv => by simp at hv; subst hv; rw [hcells]; rfl) (by simp)
    have := run_buildSlice (P := P) w t e 1 (#[(0, a.eval x)]) _ i z hu hi hzz (by rw [hz1]; decide) (by rw [hz1]; decide) (by rw [hz1]; exact hfill)
    simp only [execOp, ho, Sem.run_bind, List.map_toArray, List.map_cons, List.map_nil]
    rw [this]
    simp [hcells]
  unfold Oper.wp
  rw [hrun]
  exact hn _ _ _ _ ⟨_, rfl, rfl⟩ (.lit _) k1 k2

/-- One more element. -/
theorem S_appendVec1 {t e bytes : Nat} {x y : Operand} {b cap : Nat} {xs : List AV} {z : AV} (pre post : St) (ho : o.op = .call { callee := .builtin .append, args := #[x, y], argTypes := #[t, t] }) (hx : AEv env x (vec1V b cap xs)) (hy : AEv env y (.sl [z])) (hst : st = pre ++ ((b, .cells (vec1C cap xs)) :: post)) (hq : xs.length ≤ cap) (hT : appT P t e 1 bytes = true)
    (hone : z.one = true) (hzc : z.cells = [z]) (hb : (xs.length + 1) * bytes ≤ 140737488355328) (h63 : xs.length + 1 ≤ 9223372036854775807) :
    Step P N o env st fun v st' => ∃ b' cap', (xs ++ [z]).length ≤ cap' ∧ v = vec1V b' cap' (xs ++ [z]) ∧ st' = pre ++ ((b', .cells (vec1C cap' (xs ++ [z]))) :: post) := by
  intro a w hg next Q hn
  have hnd := hg.rel.nodup
  obtain ⟨hu, ⟨i, zz, hi, hz, hsize, rfl, hzs⟩, hpos⟩ := appT_spec hT
  obtain ⟨b2, off, cap2, news, e2, hl, hnews, hone2, hR⟩ := sl_cells (size := i.size) (hy _ _ _ _ hg) (by simp) (fun i y h => by cases i with | zero => simp at h; subst h; rw [hzc, hsize]; rfl | succ i => simp at h) (by omega) (fun y hy => by simp at hy; subst hy; rw [hzc]; simp [hone])
  have e1 := (hx _ _ _ _ hg).lit_inv
  have hmem : (b, Ob.cells (vec1C cap xs)) ∈ st := by rw [hst]; simp
  obtain ⟨vs, T, g1, g2, g3⟩ := hg.rel.cells b _ hmem
  have hlen : news.length = 1 := by rw [hl, hsize]; rfl
  obtain ⟨u, rfl⟩ : ∃ u, news = [u] := by
    match news, hlen with
    | [u], _ => exact ⟨u, rfl⟩
  have hRu : R st w z u := by
    obtain ⟨u', h1, h2⟩ := hR 0 z 0 z rfl (by rw [hzc]; rfl)
    simp at h1
    subst h1
    exact h2
  rw [vec1C_len hq] at g2
  by_cases hroom : xs.length + 1 ≤ cap
  · have hrun := run_append_room_cells (P := P) w t o.type e i hu hi b 0 xs.length cap ⟨b2, off, none⟩ 1 cap2 [u] (by rw [hsize]; rfl) hnews hone2 hroom (fun j hj => by simp at hj; subst hj; simp [World.cell?, g1, hsize]; omega) (fun j hj => by simp [World.frozen?, g1])
    obtain ⟨⟨ws, j1, j2, j3⟩, j4, j5, j6, j7, j8⟩ := setCells_heap b [u] (0 + xs.length * i.size) w vs T g1 (by simp [hsize]; omega)
    have hat : st[pre.length]? = some (b, .cells (vec1C cap xs)) := by rw [hst]; simp
    have hlen2 : (xs ++ [z]).length ≤ cap := by simpa using hroom
    obtain ⟨k1, k2⟩ := write_rel (cs' := vec1C cap (xs ++ [z])) hg.rel hat ⟨vs, g1, j2.symm⟩ j1 j4 j5 j6 j7 j8 (by rw [j2, g2, vec1C_len hlen2]) (fun k c v hc hv => by
      rw [j3 k] at hv
      simp only [hsize, Nat.mul_one, Nat.zero_add, List.length_singleton] at hv
      by_cases hk : k < xs.length
      · rw [if_neg (by omega)] at hv
        refine g3 k c v ?_ hv
        rw [vec1C, List.append_assoc, List.getElem?_append_left hk] at hc
        rw [vec1C, List.getElem?_append_left hk]; exact hc
      · by_cases hk2 : k = xs.length
        · subst hk2
          rw [if_pos (by omega)] at hv
          rw [vec1C, List.getElem?_append_left (by simp), List.getElem?_append_right (by omega)] at hc
          simp at hc hv
          subst hc; subst hv
          exact hRu
        · rw [vec1C, List.getElem?_append_right (by simp; omega)] at hc
          have := List.mem_of_getElem? hc
          rw [List.mem_replicate] at this
          rw [this.2]
          exact .any _)
    have hset : st.set pre.length (b, .cells (vec1C cap (xs ++ [z]))) = pre ++ ((b, .cells (vec1C cap (xs ++ [z]))) :: post) := by rw [hst]; simp
    rw [hset] at k1 k2
    have hexec : (execOp a.eval o).run P w = .ok (.value (.slice (some ⟨b, 0, none⟩) (xs ++ [z]).length cap)) (w.setCells b (0 + xs.length * i.size) [u]) := by
      simp only [execOp, ho, resolve, invoke, builtin, Sem.run_bind, Sem.run_pure, Result.andThen_ok, List.map_toArray, List.map_cons, List.map_nil, e1, e2, List.length_singleton, hrun, List.length_append]
    unfold Oper.wp
    rw [hexec]
    exact hn _ _ _ _ ⟨b, cap, hlen2, rfl, rfl⟩ (.lit _) k1 k2
  · have hlt : (vs.toList.take xs.length).length = xs.length * i.size := by rw [hsize]; simp; omega
    have holds : ∀ (j : Nat) v, (vs.toList.take xs.length)[j]? = some v → w.cell? ((⟨b, 0, none⟩ : Addr).add j) = some v := fun j v hv => by
      have hj : j < xs.length := by have := (List.getElem?_eq_some_iff.1 hv).1; simp at this; omega
      rw [List.getElem?_take_of_lt hj] at hv
      rw [Addr.add_mid, Nat.zero_add]
      simp only [World.cell?, g1]
      simpa using hv
    have hrun := run_append_grow (P := P) w t o.type e i zz hu hi hz ⟨b, 0, none⟩ xs.length cap (vs.toList.take xs.length) hlt holds ⟨b2, off, none⟩ 1 cap2 [u] (by rw [hsize]; rfl) hnews (by omega) (by omega) (growslice_fits (by omega) hb)
    have hge := grownCap_ge w (xs.length + 1) cap e
    have hle := grownCap_le_maxLen w (xs.length + 1) cap e (by simp only [maxLen]; omega)
    generalize grownCap w (xs.length + 1) cap e = cp at *
    have hlen2 : (xs ++ [z]).length ≤ cp := by simpa using hge
    let ws : Array Value := (vs.toList.take xs.length).toArray ++ [u].toArray ++ Builtin.zeroCells zz.cells (cp - (xs.length + 1))
    obtain ⟨k1, k2⟩ := alloc_rel (T := e) hg.rel.drew (ob := .cells (vec1C cp (xs ++ [z]))) (vs := ws) ⟨by
        rw [vec1C_len hlen2]
        simp only [ws, Array.size_append, List.size_toArray, hlt, size_zeroCells, hzs, hsize, List.length_singleton]
        omega, fun k c v hc hv => by
      refine R.mono (Ext.drew (st := st)) hnd ?_
      by_cases hk : k < xs.length
      · rw [vec1C, List.append_assoc, List.getElem?_append_left hk] at hc
        refine g3 k c v (by rw [vec1C, List.getElem?_append_left hk]; exact hc) ?_
        simp only [ws] at hv
        rw [Array.getElem?_append_left (by simp; omega), Array.getElem?_append_left (by simp; omega), List.getElem?_toArray, List.getElem?_take_of_lt hk] at hv
        simpa using hv
      · by_cases hk2 : k = xs.length
        · subst hk2
          rw [vec1C, List.getElem?_append_left (by simp), List.getElem?_append_right (by omega)] at hc
          simp only [ws] at hv
          have htl : (vs.toList.take xs.length).toArray.size = xs.length := by simp; omega
          rw [Array.getElem?_append_left (by rw [Array.size_append, htl]; simp), Array.getElem?_append_right (by omega), htl] at hv
          simp at hc hv
          subst hc; subst hv
          exact hRu
        · rw [vec1C, List.getElem?_append_right (by simp; omega)] at hc
          have := List.mem_of_getElem? hc
          rw [List.mem_replicate] at this
          rw [this.2]
          exact .any _⟩
    have k2 := Ext.drew.trans k2 hnd
    have hsub : ∀ p, p ∈ (pre ++ ((w.heap.size, .cells (vec1C cp (xs ++ [z]))) :: post) : St) → p ∈ ((w.heap.size, .cells (vec1C cp (xs ++ [z]))) :: st : St) := fun p hp => by
      rw [hst]
      simp only [List.mem_append, List.mem_cons] at hp ⊢
      rcases hp with h | h | h
      · exact .inr (.inl h)
      · exact .inl h
      · exact .inr (.inr (.inr h))
    have hnd2 : ((pre ++ ((w.heap.size, Ob.cells (vec1C cp (xs ++ [z]))) :: post) : St).map (·.1)).Nodup := by
      have h3 := k1.nodup
      have hp : ((pre ++ ((w.heap.size, Ob.cells (vec1C cp (xs ++ [z]))) :: post) : St)).Perm ((w.heap.size, Ob.cells (vec1C cp (xs ++ [z]))) :: (pre ++ post)) := List.perm_middle
      refine ((hp.map (·.1)).nodup_iff).2 (List.Nodup.sublist ?_ h3)
      refine List.Sublist.map _ (List.Sublist.cons_cons _ ?_)
      rw [hst]
      exact List.Sublist.append (List.Sublist.refl _) (List.Sublist.cons _ (List.Sublist.refl _))
    have hexec : (execOp a.eval o).run P w = .ok (.value (.slice (some ⟨w.heap.size, 0, none⟩) (xs ++ [z]).length cp)) (w.drew.alloc (.cells ws e)) := by
      simp only [execOp, ho, resolve, invoke, builtin, Sem.run_bind, Sem.run_pure, Result.andThen_ok, List.map_toArray, List.map_cons, List.map_nil, e1, e2, List.length_singleton, hrun, List.length_append]
      rfl
    unfold Oper.wp
    rw [hexec]
    exact hn _ _ _ _ ⟨w.heap.size, cp, hlen2, rfl, rfl⟩ (.lit _) (k1.sub hsub hnd2) (k2.trans (Ext.sub hsub) hnd)

/-! The first place of a byte -/
def idxV (s : List UInt8) (c : UInt8) : Int := if c ∈ s then ((s.takeWhile (fun x => x != c)).length : Int) else -1
theorem tw_lt {s : List UInt8} {c : UInt8} (h : c ∈ s) : (s.takeWhile (fun x => x != c)).length < s.length ∧ s[(s.takeWhile (fun x => x != c)).length]? = some c := by
  induction s with
  | nil => simp at h
  | cons x t ih =>
    by_cases hx : x = c
    · subst hx; simp
    · have hm : c ∈ t := by
        rcases List.mem_cons.1 h with e | e
        · exact absurd e.symm hx
        · exact e
      obtain ⟨h1, h2⟩ := ih hm
      have : (x :: t).takeWhile (fun y => y != c) = x :: t.takeWhile (fun y => y != c) := by rw [List.takeWhile_cons, if_pos (by simpa using hx)]
      rw [this]
      simp only [List.length_cons, List.getElem?_cons_succ]
      exact ⟨by omega, h2⟩
theorem tw_ne {s : List UInt8} {c : UInt8} {i : Nat} (h : i < (s.takeWhile (fun x => x != c)).length) : ∀ y, s[i]? = some y → y ≠ c := fun y hy => by
  have h1 : (s.takeWhile (fun x => x != c))[i]? = some y := by
    have hp : s.takeWhile (fun x => x != c) <+: s := List.takeWhile_prefix _
    obtain ⟨t, ht⟩ := hp
    rw [← ht, List.getElem?_append_left h] at hy
    exact hy
  have hm := List.mem_of_getElem? h1
  have := List.all_eq_true.1 List.all_takeWhile y hm
  simpa using this
theorem firstIdx_idx (s : List UInt8) (c : UInt8) : firstIdx ⟨s.toArray⟩ c = idxV s c := by
  have hget : ∀ i, i < s.length → ((⟨s.toArray⟩ : ByteArray)[i]! == c) = (s[i]! == c) := fun i hi => by
    rw [getElem!_pos (⟨s.toArray⟩ : ByteArray) i (by simpa [ByteArray.size] using hi), getElem!_pos s i hi]
    rfl
  unfold firstIdx idxV
  have hsz : (⟨s.toArray⟩ : ByteArray).size = s.length := by simp [ByteArray.size]
  rw [hsz]
  by_cases h : c ∈ s
  · rw [if_pos h]
    obtain ⟨h1, h2⟩ := tw_lt h
    have : (List.range s.length).find? (fun i => (⟨s.toArray⟩ : ByteArray)[i]! == c) = some (s.takeWhile (fun x => x != c)).length := by
      rw [List.find?_range_eq_some]
      refine ⟨?_, List.mem_range.2 h1, fun j hj => ?_⟩
      · rw [hget _ h1, List.getElem!_eq_getElem?_getD, h2]; simp
      · rw [hget _ (by omega)]
        have hjl : j < s.length := by omega
        have := tw_ne hj s[j] (List.getElem?_eq_getElem hjl)
        rw [List.getElem!_eq_getElem?_getD, List.getElem?_eq_getElem hjl]
        simpa using this
    rw [this]
  · rw [if_neg h]
    have : (List.range s.length).find? (fun i => (⟨s.toArray⟩ : ByteArray)[i]! == c) = none := by
      rw [List.find?_range_eq_none]
      intro j hj
      rw [hget _ hj, List.getElem!_eq_getElem?_getD, List.getElem?_eq_getElem hj]
      have : s[j] ≠ c := fun e => h (e ▸ List.getElem_mem hj)
      simpa using this
    rw [this]
theorem S_indexByte {f : FuncId} {fn : Func} {x y : Operand} {ts : Array TypeId} {s : List UInt8} {c : UInt8} (ho : o.op = .call { callee := .value (.func f), args := #[x, y], argTypes := ts }) (hx : AEv env x (.S s)) (hy : AEv env y (.int .u8 (c.toNat : Int))) (hf : P.funcs[f]? = some fn) (h1 : (fn.name == "runtime.NumGoroutine") = false) (h2 : fn.body.isNone = true) (h3 : Extern.findNext fn = none) (h4 : Extern.find fn = some Extern.BytealgIndexByte.indexByte) : PStep P N o env st (.int .i64 (idxV s c)) :=
  .of_val fun a w hg => by
    have e1 := (hx _ _ _ _ hg).lit_inv
    have e2 := (hy _ _ _ _ hg).lit_inv
    refine ⟨.int .i64 (idxV s c), ?_, .lit _⟩
    have hc : ((c.toNat : Int)).toNat.toUInt8 = c := by simp
    simp only [execOp, ho, resolve, Deferred.ofValue, Act.eval, invoke, Sem.run_bind, Sem.run_pure, Result.andThen_ok, List.map_toArray, List.map_cons, List.map_nil, run_callFunc_extern hf h1 h2 h3 h4]
    rw [← firstIdx_idx]
    have hr := run_indexByte_string (P := P) ⟨s.toArray⟩ (c.toNat : Int) w
    rw [hc] at hr
    unfold Act.eval at e1 e2
    simp only [e1, e2, hr, Result.andThen_ok, Array.append_empty, Array.empty_append]
end
end Go.AL

namespace Go.AL
open Go.RowKit Go.Extern Go.Stop

section
variable {P : Program} {N : Nat} {Q : Post} {env : Env} {st : St} {o : Oper} {w : World}

theorem ifc_inv {T : TypeId} {x : AV} {v : Value} (h : R st w (.ifc T x) v) : ∃ u, v = .iface T u ∧ R st w x u := by
  cases h with
  | ifc _ _ u h => exact ⟨u, rfl, h⟩

theorem S_ifc {T T2 : TypeId} {x : Operand} {y : AV} (ho : o.op = .makeInterface T x) (hx : AEv env x y) (hc : P.concrete T = true) : PStep P N o env st (.ifc T y) :=
  .of_val fun a w hg => ⟨.iface T (a.eval x), by simp only [execOp, ho, Sem.run_bind, run_makeInterface w T _ hc, Result.andThen_ok, Sem.run_pure], .ifc _ _ _ (hx _ _ _ _ hg)⟩
/-- Is it nil? -/
def ErrIs (y : AV) (b : Bool) : Prop := match b with | true => y = .nili | false => ∃ T z, y = .ifc T z
theorem S_eqlE {t t2 : TypeId} {x : Operand} {y : AV} {b : Bool} (he : ErrIs y b) (ho : o.op = .binOp .eql t x (.const .nilIface) t2) (hx : AEv env x y) (hi : P.isIface t = true) : PStep P N o env st (.bool b) :=
  .of_val fun a w hg => by
    have e2 : a.eval (.const .nilIface) = .nilIface := rfl
    cases b with
    | true =>
      have hy : y = .nili := he
      subst hy
      have e1 := (hx _ _ _ _ hg).lit_inv
      exact ⟨.bool true, by simp only [execOp, ho, e1, e2, eqGuard_nil_constR, Sem.run_bind, Sem.run_pure, Result.andThen_ok, run_eql_nil_nil_at w t hi], .lit _⟩
    | false =>
      obtain ⟨T, z, rfl⟩ := he
      obtain ⟨u, e1, _⟩ := ifc_inv (hx _ _ _ _ hg)
      exact ⟨.bool false, by simp only [execOp, ho, e1, e2, eqGuard_at_iface, Sem.run_bind, Sem.run_pure, run_eql_iface_nil w t hi T u, Result.andThen_ok], .lit _⟩
theorem S_neqE {t t2 : TypeId} {x : Operand} {y : AV} {b : Bool} (he : ErrIs y b) (ho : o.op = .binOp .neq t x (.const .nilIface) t2) (hx : AEv env x y) (hi : P.isIface t = true) : PStep P N o env st (.bool (!b)) :=
  .of_val fun a w hg => by
    have e2 : a.eval (.const .nilIface) = .nilIface := rfl
    cases b with
    | true =>
      have hy : y = .nili := he
      subst hy
      have e1 := (hx _ _ _ _ hg).lit_inv
      exact ⟨.bool false, by simp only [execOp, ho, e1, e2, eqGuard_nil_constR, Sem.run_bind, Sem.run_pure, Result.andThen_ok, run_neq_nil_nil_at w t hi], .lit _⟩
    | false =>
      obtain ⟨T, z, rfl⟩ := he
      obtain ⟨u, e1, _⟩ := ifc_inv (hx _ _ _ _ hg)
      exact ⟨.bool true, by simp only [execOp, ho, e1, e2, eqGuard_at_iface, Sem.run_bind, Sem.run_pure, run_neq_iface_nil w t hi T u, Result.andThen_ok], .lit _⟩
theorem S_assertNo {X t a : TypeId} {x : Operand} {T : TypeId} {y : AV} {want : Array (String × TypeId)} (ho : o.op = .typeAssert x t a true) (hx : AEv env x (.ifc T y)) (hu : P.underlying a = some (.interface want)) (h : (P.info? T).map (fun i => (lacking want i.methods).isEmpty) = some false) (hz : (P.info? a).map (·.zero) = some (some .nilIface)) :
    PStep P N o env st (.tup [.nili, .bool false]) :=
  .of_val fun c w hg => by
    obtain ⟨u, e1, _⟩ := ifc_inv (hx _ _ _ _ hg)
    refine ⟨.tuple #[.nilIface, .bool false], ?_, .tup _ _ rfl fun i c v hc hv => ?_⟩
    · simp only [execOp, ho, e1, Sem.run_bind, run_typeAssert_lacksB hu h hz u t w, Result.andThen_ok, Sem.run_pure]
    · match i with
      | 0 => simp at hc hv; subst hc; subst hv; exact .lit _
      | 1 => simp at hc hv; subst hc; subst hv; exact .lit _
      | i + 2 => simp at hc
theorem S_assertYes {t a : TypeId} {x : Operand} {T : TypeId} {y : AV} {want : Array (String × TypeId)} (ho : o.op = .typeAssert x t a true) (hx : AEv env x (.ifc T y)) (hu : P.underlying a = some (.interface want)) (h : (P.info? T).map (fun i => (lacking want i.methods).isEmpty) = some true) :
    PStep P N o env st (.tup [.ifc T y, .bool true]) :=
  .of_val fun c w hg => by
    obtain ⟨u, e1, hr⟩ := ifc_inv (hx _ _ _ _ hg)
    refine ⟨.tuple #[.iface T u, .bool true], ?_, .tup _ _ rfl fun i c v hc hv => ?_⟩
    · simp only [execOp, ho, e1, Sem.run_bind, run_typeAssert_hasB hu h u t w, Result.andThen_ok, Sem.run_pure]
    · match i with
      | 0 => simp at hc hv; subst hc; subst hv; exact .ifc _ _ _ hr
      | 1 => simp at hc hv; subst hc; subst hv; exact .lit _
      | i + 2 => simp at hc

/-- A function that has no text, but a meaning in the model. -/
def ExtOf (P : Program) (f : FuncId) (e : Array Value → Sem Value) : Prop := ∃ fn, P.funcs[f]? = some fn ∧ (fn.name == "runtime.NumGoroutine") = false ∧ fn.body.isNone = true ∧ Extern.findNext fn = none ∧ Extern.find fn = some e
theorem ExtOf.run {f : FuncId} {e : Array Value → Sem Value} (h : ExtOf P f e) (args : Array Value) (w : World) : (callFunc f args).run P w = ((e args).run P w).andThen fun v w' => .ok (.value v) w' := by
  obtain ⟨fn, h0, h1, h2, h3, h4⟩ := h
  exact run_callFunc_extern h0 h1 h2 h3 h4 args w

/-- A call of such a function. -/
theorem S_ext {f : FuncId} {e : Array Value → Sem Value} {xs : List Operand} {ts : Array TypeId} {args : List AV} {K : AV → St → Prop} (ho : o.op = .call { callee := .value (.func f), args := xs.toArray, argTypes := ts }) (hargs : AEvs env xs args) (hf : ExtOf P f e)
    (hrun : ∀ w (vs : List Value), Rel st w → vs.length = args.length → (∀ (i : Nat) x v, args[i]? = some x → vs[i]? = some v → R st w x v) → ∃ v w' x st', (e vs.toArray).run P w = .ok v w' ∧ K x st' ∧ R st' w' x v ∧ Rel st' w' ∧ Ext st w st' w') : Step P N o env st K := by
  intro a w hg next Q hn
  obtain ⟨hl, hr⟩ := hargs.at_ hg
  obtain ⟨v, w', x, st', h1, h2, h3, h4, h5⟩ := hrun w (xs.map a.eval) hg.rel (by simpa using hl) (fun i x v hx hv => by
    simp at hv
    obtain ⟨u, hu, rfl⟩ := hv
    exact hr i x u hx hu)
  have hexec : (execOp a.eval o).run P w = .ok (.value v) w' := by
    have : (execOp a.eval o).run P w = (callFunc f (xs.map a.eval).toArray).run P w := by
      simp [execOp, ho, resolve, Deferred.ofValue, Act.eval, invoke]
    rw [this, hf.run, h1]
    rfl
  unfold Oper.wp
  rw [hexec]
  exact hn x st' v w' h2 h3 h4 h5
/-- A method, through an interface value that is known. -/
theorem S_invL {f : FuncId} {T : TypeId} {u r : Value} {name : String} {e : Array Value → Sem Value} {x : Operand} {ys : List Operand} {ts : Array TypeId} {vals : List Value} {v : Value} (ho : o.op = .call { callee := .invoke x name, args := ys.toArray, argTypes := ts }) (hx : AEv env x (.lit (.iface T u))) (hargs : AEvs env ys (vals.map .lit))
    (hm : ∀ w, (Go.method (P.types.size + Made.depth) T u name).run P w = .ok (f, r) w) (hf : ExtOf P f e) (hrun : ∀ w, (e (r :: vals).toArray).run P w = .ok v w) : PStep P N o env st (.lit v) :=
  .of_val fun a w hg => by
    have e1 := (hx _ _ _ _ hg).lit_inv
    obtain ⟨hl, hr⟩ := hargs.at_ hg
    have e2 : ys.map a.eval = vals := by
      refine List.ext_getElem? fun i => ?_
      by_cases hi : i < vals.length
      · have h2 : i < ys.length := by simp at hl; omega
        have := (hr i (.lit vals[i]) ys[i] (by simp [hi]) (List.getElem?_eq_getElem h2)).lit_inv
        rw [List.getElem?_eq_getElem hi, List.getElem?_map, List.getElem?_eq_getElem h2, Option.map_some, this]
      · rw [List.getElem?_eq_none (by simp at hl ⊢; omega), List.getElem?_eq_none (by omega)]
    refine ⟨v, ?_, .lit _⟩
    have ht : List.take ys.length (ys.map a.eval) = ys.map a.eval := List.take_of_length_le (by simp)
    have h3 : (execOp a.eval o).run P w = (callMethod (a.eval x) name (ys.map a.eval).toArray).run P w := by
      simp [execOp, ho, resolve, invoke, ht]
    have h4 : (callMethod (.iface T u) name vals.toArray).run P w = (callFunc f (r :: vals).toArray).run P w := by
      unfold callMethod
      simp only [Sem.run_bind, run_program, Result.andThen_ok, hm]
      simp
    rw [h3, e1, e2, h4, hf.run, hrun]
    rfl
/-- A method with a contract, through an interface value. -/
theorem S_invC {f : FuncId} {T : TypeId} {X : AV} {name : String} {x : Operand} {ts : Array TypeId} {K : AV → St → Prop} (ho : o.op = .call { callee := .invoke x name, args := #[], argTypes := ts }) (hx : AEv env x (.ifc T X))
    (hm : ∀ u w, (Go.method (P.types.size + Made.depth) T u name).run P w = .ok (f, u) w) (hc : ACalls P f [X] st K) : Step P N o env st K := by
  intro a w hg next Q hn
  obtain ⟨u, e1, hr⟩ := ifc_inv (hx _ _ _ _ hg)
  have hrun : (execOp a.eval o).run P w = .ok (.enter f #[u]) w := by
    have h3 : (execOp a.eval o).run P w = (callMethod (a.eval x) name #[]).run P w := by
      simp [execOp, ho, resolve, invoke]
    have h4 : (callMethod (.iface T u) name #[]).run P w = (callFunc f #[u]).run P w := by
      unfold callMethod
      simp only [Sem.run_bind, run_program, Result.andThen_ok, hm]
      simp
    rw [h3, e1, h4, run_callFunc' hc.enters]
  unfold Oper.wp
  rw [hrun]
  refine (hc.calls w #[u] hg.rel rfl fun i y v hy hv => ?_).mono ?_
  · match i with
    | 0 => simp at hy hv; subst hy; subst hv; exact hr
    | i + 1 => simp at hy
  · rintro e w' ⟨r, x, st', rfl, k, h1, h2, h3⟩
    exact hn x st' r w' k h1 h2 h3

/-! reflectlite's values: a type's handle, a place, flags -/
abbrev rvAV (h : Value) (b : Nat) (fl : Value) : AV := .agg [.lit h, .ptr b 0, .lit fl]
theorem rv_inv {h fl : Value} {b : Nat} {v : Value} (hr : R st w (rvAV h b fl) v) : v = .agg #[h, .pointer (some ⟨b, 0, none⟩), fl] := by
  obtain ⟨vs, rfl, hl, hk⟩ := agg_inv hr
  simp at hl
  obtain ⟨a, b', c, rfl⟩ : ∃ a b c, vs = #[a, b, c] := by
    obtain ⟨l⟩ := vs
    match l, hl with
    | [a, b, c], _ => exact ⟨a, b, c, rfl⟩
  have h0 := (hk 0 _ a rfl rfl).lit_inv
  have h1 := (hk 1 _ b' rfl rfl).lit_inv
  have h2 := (hk 2 _ c rfl rfl).lit_inv
  rw [h0, h1, h2]
theorem rv_R {st : St} {w : World} {h fl : Value} {b : Nat} : R st w (rvAV h b fl) (.agg #[h, .pointer (some ⟨b, 0, none⟩), fl]) :=
  .agg _ _ rfl fun i c v hc hv => by
    match i with
    | 0 => simp at hc hv; subst hc; subst hv; exact .lit _
    | 1 => simp at hc hv; subst hc; subst hv; exact .lit _
    | 2 => simp at hc hv; subst hc; subst hv; exact .lit _
    | i + 3 => simp at hc
theorem one_arg {x : AV} {vs : List Value} (hl : vs.length = [x].length) (hr : ∀ (i : Nat) y v, [x][i]? = some y → vs[i]? = some v → R st w y v) : ∃ v, vs = [v] ∧ R st w x v := by
  match vs, hl with
  | [v], _ => exact ⟨v, rfl, hr 0 x v rfl rfl⟩
theorem two_args {x y : AV} {vs : List Value} (hl : vs.length = [x, y].length) (hr : ∀ (i : Nat) z v, [x, y][i]? = some z → vs[i]? = some v → R st w z v) : ∃ u v, vs = [u, v] ∧ R st w x u ∧ R st w y v := by
  match vs, hl with
  | [u, v], _ => exact ⟨u, v, rfl, hr 0 x u rfl rfl, hr 1 y v rfl rfl⟩
theorem S_valueOf {f : FuncId} {e : Array Value → Sem Value} {x : Operand} {ts : Array TypeId} {T : TypeId} {X : AV} {h fl : Value} (ho : o.op = .call { callee := .value (.func f), args := #[x], argTypes := ts }) (hx : AEv env x (.ifc T X)) (hf : ExtOf P f e)
    (hv : ∀ w u, R st w X u → (e #[.iface T u]).run P w = .ok (.agg #[h, .pointer (some ⟨w.heap.size, 0, none⟩), fl]) (w.alloc (.cells #[u] T))) : Step P N o env st fun z st' => ∃ b, z = rvAV h b fl ∧ st' = (b, .cells [X]) :: st :=
  S_ext (xs := [x]) ho (.cons hx .nil) hf fun w vs hrel hl hr => by
    obtain ⟨v, rfl, hv1⟩ := one_arg hl hr
    obtain ⟨u, rfl, hu⟩ := ifc_inv hv1
    obtain ⟨k1, k2⟩ := alloc_rel hrel (T := T) (ob := .cells [X]) (vs := #[u]) ⟨rfl, fun i c v hc hv => by
      match i with
      | 0 => simp at hc hv; subst hc; subst hv; exact hu
      | i + 1 => simp at hc⟩
    exact ⟨_, _, _, _, hv w u hu, ⟨w.heap.size, rfl, rfl⟩, rv_R, k1, k2⟩
theorem S_rvP {f : FuncId} {e : Array Value → Sem Value} {x : Operand} {ts : Array TypeId} {h fl r : Value} {a : Nat} (ho : o.op = .call { callee := .value (.func f), args := #[x], argTypes := ts }) (hx : AEv env x (rvAV h a fl)) (hf : ExtOf P f e)
    (hv : ∀ w, (e #[.agg #[h, .pointer (some ⟨a, 0, none⟩), fl]]).run P w = .ok r w) : PStep P N o env st (.lit r) :=
  S_ext (xs := [x]) ho (.cons hx .nil) hf fun w vs hrel hl hr => by
    obtain ⟨v, rfl, hv1⟩ := one_arg hl hr
    rw [rv_inv hv1]
    exact ⟨r, w, .lit r, st, hv w, ⟨rfl, rfl⟩, .lit _, hrel, .refl _ _⟩
theorem cell_of {a : Nat} {X : AV} (hrel : Rel st w) (hm : (a, Ob.cells [X]) ∈ st) : ∃ u, w.cell? ⟨a, 0, none⟩ = some u ∧ R st w X u ∧ w.frozen? ⟨a, 0, none⟩ = false := hrel.at_ hm (i := 0) rfl
theorem S_isNilV {f : FuncId} {e : Array Value → Sem Value} {x : Operand} {ts : Array TypeId} {h fl : Value} {a b : Nat} (ho : o.op = .call { callee := .value (.func f), args := #[x], argTypes := ts }) (hx : AEv env x (rvAV h a fl)) (hm : (a, Ob.cells [.ptr b 0]) ∈ st) (hf : ExtOf P f e)
    (hv : ∀ w, w.cell? ⟨a, 0, none⟩ = some (.pointer (some ⟨b, 0, none⟩)) → (e #[.agg #[h, .pointer (some ⟨a, 0, none⟩), fl]]).run P w = .ok (.bool false) w) : PStep P N o env st (.bool false) :=
  S_ext (xs := [x]) ho (.cons hx .nil) hf fun w vs hrel hl hr => by
    obtain ⟨v, rfl, hv1⟩ := one_arg hl hr
    rw [rv_inv hv1]
    obtain ⟨u, k1, k2, _⟩ := cell_of hrel hm
    rw [k2.lit_inv] at k1
    exact ⟨_, w, _, st, hv w k1, ⟨rfl, rfl⟩, .lit _, hrel, .refl _ _⟩
theorem S_elemV {f : FuncId} {e : Array Value → Sem Value} {x : Operand} {ts : Array TypeId} {h fl h' fl' : Value} {a b : Nat} (ho : o.op = .call { callee := .value (.func f), args := #[x], argTypes := ts }) (hx : AEv env x (rvAV h a fl)) (hm : (a, Ob.cells [.ptr b 0]) ∈ st) (hf : ExtOf P f e)
    (hv : ∀ w, w.cell? ⟨a, 0, none⟩ = some (.pointer (some ⟨b, 0, none⟩)) → (e #[.agg #[h, .pointer (some ⟨a, 0, none⟩), fl]]).run P w = .ok (.agg #[h', .pointer (some ⟨b, 0, none⟩), fl']) w) : PStep P N o env st (rvAV h' b fl') :=
  S_ext (xs := [x]) ho (.cons hx .nil) hf fun w vs hrel hl hr => by
    obtain ⟨v, rfl, hv1⟩ := one_arg hl hr
    rw [rv_inv hv1]
    obtain ⟨u, k1, k2, _⟩ := cell_of hrel hm
    rw [k2.lit_inv] at k1
    exact ⟨_, w, _, st, hv w k1, ⟨rfl, rfl⟩, rv_R, hrel, .refl _ _⟩
theorem S_setV {f : FuncId} {e : Array Value → Sem Value} {x y : Operand} {ts : Array TypeId} {h fl h' fl' : Value} {t b n : Nat} {X Y : AV} (ho : o.op = .call { callee := .value (.func f), args := #[x, y], argTypes := ts }) (hx : AEv env x (rvAV h t fl)) (hy : AEv env y (rvAV h' b fl')) (hst : st[n]? = some (t, .cells [Y])) (hm : (b, Ob.cells [X]) ∈ st) (hf : ExtOf P f e)
    (hv : ∀ w u old, R st w X u → w.cell? ⟨b, 0, none⟩ = some u → w.cell? ⟨t, 0, none⟩ = some old → w.frozen? ⟨t, 0, none⟩ = false → (e #[.agg #[h, .pointer (some ⟨t, 0, none⟩), fl], .agg #[h', .pointer (some ⟨b, 0, none⟩), fl']]).run P w = .ok (.tuple #[]) (w.setCell ⟨t, 0, none⟩ u)) :
    Step P N o env st fun z st' => z = .tup [] ∧ st' = st.set n (t, .cells [X]) :=
  S_ext (xs := [x, y]) ho (.cons hx (.cons hy .nil)) hf fun w vs hrel hl hr => by
    obtain ⟨v1, v2, rfl, hv1, hv2⟩ := two_args hl hr
    rw [rv_inv hv1, rv_inv hv2]
    obtain ⟨u, k1, k2, _⟩ := cell_of hrel hm
    obtain ⟨old, j1, j2, j3⟩ := cell_of hrel (mem_at hst)
    obtain ⟨vs, T, g1, g2, g3⟩ := hrel.cells t [Y] (mem_at hst)
    have hw := write_rel hrel (w' := w.setCell ⟨t, 0, none⟩ u) (cs' := [X]) (vs' := vs.setIfInBounds 0 u) (T := T) hst ⟨vs, g1, by simp⟩ (heap_setCell_same w t 0 vs T u g1)
      (fun b' hb' => heap_setCell_other w ⟨t, 0, none⟩ b' u hb') (by simp) rfl rfl rfl (by simpa using g2) (fun i d v hd hv => by
        match i with
        | 0 =>
          simp at hd
          subst hd
          have hs : 0 < vs.size := by rw [g2]; simp
          rw [Array.getElem?_setIfInBounds] at hv
          simp [hs] at hv
          subst hv
          exact k2
        | i + 1 => simp at hd)
    exact ⟨_, _, .tup [], _, hv w u old k2 k1 j1 j3, ⟨rfl, rfl⟩, .tup [] #[] rfl (fun i c v hc => by simp at hc), hw.1, hw.2⟩
end
end Go.AL

namespace Go.AL
open Go.RowKit

section
variable {P : Program}
/-- A call that leaves all that was there as it was. -/
theorem Ext.below {st : St} {w w' : World} (h : Below w.heap.size w w') : Ext st w st w' :=
  ⟨h.os, h.tape, h.output, fun b hb => by simp only [World.shape?, h.block b hb], h.size, fun b hb _ => h.block b hb, fun b e size n cap hb _ off _ => World.cell?_of_block (w := w) (h.block b hb), fun _ _ _ h => h, fun b vs hb _ => h.block b hb⟩
theorem Rel.below {st : St} {w w' : World} (hr : Rel st w) (h : Below w.heap.size w w') : Rel st w' := by
  refine ⟨hr.nodup, fun b cs hb => ?_, fun b e size n cap hb => ?_, fun b vs hb => (Ext.below h).konst_rel hr hb⟩
  · obtain ⟨vs, T, k1, k2, k3⟩ := hr.cells b cs hb
    exact ⟨vs, T, by rw [h.block b (key_lt hr hb)]; exact k1, k2, fun i c v hc hv => (k3 i c v hc hv).mono (Ext.below h) hr.nodup⟩
  · obtain ⟨vs, k1, k2⟩ := hr.grow b e size n cap hb
    exact ⟨vs, by rw [h.block b (key_lt hr hb)]; exact k1, k2⟩

theorem texts_map : ∀ ls : List (List UInt8), (ls.map fun l => (⟨l.toArray⟩ : ByteArray)).map (·.data.toList) = ls
  | [] => rfl
  | l :: ls => by simp only [List.map_cons, texts_map ls]

/-- strings.Join. -/
theorem PCalls_join {f : FuncId} (he : Enters P f)
    (hnone : ∀ (a : Option Addr) (c : Nat) (sep : ByteArray) (w : World), Calls P f #[.slice a 0 c, .string sep] w fun e w' => e = .returned (.string ⟨#[]⟩) ∧ w' = w)
    (hmany : ∀ (bk o c : Nat) (xs : List ByteArray) (sep : ByteArray) (w : World), (∀ (j : Nat) x, xs[j]? = some x → w.cell? ⟨bk, o + j, none⟩ = some (.string x)) → bk < w.heap.size → xs.length ≤ 140737488355328 → xs.length ≤ c → (Lib.join (xs.map (·.data.toList)) sep.data.toList).length ≤ 140737488355328 →
      Calls P f #[.slice (some ⟨bk, o, none⟩) xs.length c, .string sep] w fun e w' => e = .returned (.string ⟨(Lib.join (xs.map (·.data.toList)) sep.data.toList).toArray⟩) ∧ Below w.heap.size w w')
    (ls : List (List UInt8)) (sep : List UInt8) (hN : ls.length ≤ 140737488355328) (hlen : (Lib.join ls sep).length ≤ 140737488355328) : PCalls P f [.sl (ls.map fun l => .S l), .S sep] (.S (Lib.join ls sep)) := fun st => by
  refine ⟨he, fun w vs hrel hs hr => ?_⟩
  obtain ⟨v0, v1, rfl⟩ : ∃ v0 v1, vs = #[v0, v1] := by
    obtain ⟨l⟩ := vs
    match l, hs with
    | [a, b], _ => exact ⟨a, b, rfl⟩
  have r0 := hr 0 _ v0 rfl rfl
  have r1 := (hr 1 _ v1 rfl rfl).lit_inv
  subst r1
  obtain ⟨A, cap, rfl, hne⟩ := sl_inv r0
  simp only [List.length_map]
  by_cases h0 : ls = []
  · subst h0
    refine (hnone A cap ⟨sep.toArray⟩ w).mono fun e w' ⟨he, hw⟩ => ⟨_, .S [], st, ?_, ⟨rfl, rfl⟩, .lit _, ?_, ?_⟩
    · rw [he]
    · rw [hw]; exact hrel
    · rw [hw]; exact .refl _ _
  · obtain ⟨b, off, size, f', rfl, hcap, hsz, hc, hrr⟩ := hne (by simpa using h0)
    have hlen0 : 0 < ls.length := List.length_pos_iff.2 h0
    have hs1 : size = 1 := by
      have := hsz 0 (.S ls[0]) (by simp [hlen0])
      simpa [AV.cells] using this.symm
    subst hs1
    have hcell : ∀ (j : Nat) l, ls[j]? = some l → w.cell? ⟨b, off + j, none⟩ = some (.string ⟨l.toArray⟩) := fun j l hj => by
      have hm : (ls.map fun l => AV.S l)[j]? = some (.S l) := by rw [List.getElem?_map, hj]; rfl
      have h1 := (hc j _ 0 (.S l) hm (by simp [AV.cells])).1
      have h2 := (hrr j _ 0 (.S l) hm (by simp [AV.cells])).lit_inv
      rw [h2] at h1
      simpa using h1
    have hb : b < w.heap.size := cell_lt (hcell 0 ls[0] (by simp [hlen0]))
    have hmap := texts_map ls
    have hm := hmany b off cap (ls.map fun l => (⟨l.toArray⟩ : ByteArray)) ⟨sep.toArray⟩ w (fun j x hx => by
      rw [List.getElem?_map, Option.map_eq_some_iff] at hx
      obtain ⟨l, hl, rfl⟩ := hx
      exact hcell j l hl) hb (by simpa using hN) (by simpa using hcap) (by rw [hmap]; exact hlen)
    rw [hmap, List.length_map] at hm
    exact hm.mono fun e w' ⟨he, hw⟩ => ⟨_, _, st, he, ⟨rfl, rfl⟩, .lit _, hrel.below hw, .below hw⟩
end
end Go.AL

namespace Go.NumSpec

def lo : Int := -9223372036854775808
def hi : Int := 9223372036854775807
/-- It fits an int. -/
def fits (a : Int) : Prop := -9223372036854775808 ≤ a ∧ a ≤ 9223372036854775807
instance (a : Int) : Decidable (fits a) := by unfold fits; infer_instance

/-! ### Numbers as bytes -/
def putL (n : Nat) : List UInt8 := if n < 128 then [UInt8.ofNat n] else UInt8.ofNat (n % 128 + 128) :: putL (n / 128)
termination_by n
decreasing_by omega

theorem putL_big {n : Nat} (h : 128 ≤ n) : putL n = UInt8.ofNat (n % 128 + 128) :: putL (n / 128) := by
  conv => lhs; rw [putL, if_neg (by omega)]
theorem putL_small {n : Nat} (h : n < 128) : putL n = [UInt8.ofNat n] := by rw [putL, if_pos h]

/-- The value of bytes. -/
def dv : List UInt8 → Nat
  | [] => 0
  | c :: cs => c.toNat % 128 + 128 * dv cs

theorem dv_snoc (l : List UInt8) (c : UInt8) : dv (l ++ [c]) = dv l + c.toNat % 128 * 128 ^ l.length := by
  induction l with
  | nil => simp [dv]
  | cons x l ih =>
    simp only [List.cons_append, dv, ih, List.length_cons, Nat.pow_succ, Nat.mul_add]
    have : 128 * (c.toNat % 128 * 128 ^ l.length) = c.toNat % 128 * (128 ^ l.length * 128) := by
      rw [Nat.mul_comm 128, Nat.mul_assoc]
    omega
theorem dv_lt (l : List UInt8) : dv l < 128 ^ l.length := by
  induction l with
  | nil => simp [dv]
  | cons c l ih => simp only [dv, List.length_cons, Nat.pow_succ]; omega

/-- The bytes of a number: all but the last have their highest bit. -/
structure Form (l : List UInt8) (c : UInt8) : Prop where
  more : ∀ x ∈ l, 128 ≤ x.toNat
  last : c.toNat < 128
  least : l = [] ∨ c.toNat ≠ 0

theorem putL_form (n : Nat) : ∃ l c, putL n = l ++ [c] ∧ Form l c ∧ dv (l ++ [c]) = n := by
  induction n using Nat.strongRecOn with
  | _ n ih =>
    rw [putL]
    split
    · rename_i h
      refine ⟨[], UInt8.ofNat n, rfl, ⟨by simp, ?_, .inl rfl⟩, ?_⟩
      · simp; omega
      · simp [dv]; omega
    · rename_i h
      obtain ⟨l, c, h1, h2, h3⟩ := ih (n / 128) (by omega)
      refine ⟨UInt8.ofNat (n % 128 + 128) :: l, c, by simp [h1], ⟨fun x hx => ?_, h2.last, .inr fun h0 => ?_⟩, ?_⟩
      · rcases List.mem_cons.1 hx with rfl | hx
        · simp; omega
        · exact h2.more x hx
      · rcases h2.least with rfl | h4
        · simp [dv, h0] at h3; omega
        · exact h4 h0
      · simp only [List.cons_append, dv, h3]; simp; omega

theorem putL_dv (l : List UInt8) (c : UInt8) (h : Form l c) : putL (dv (l ++ [c])) = l ++ [c] := by
  induction l with
  | nil =>
    have := h.last
    rw [putL, if_pos (by simp [dv]; omega)]
    simp [dv]
    rw [Nat.mod_eq_of_lt this, UInt8.ofNat_toNat]
  | cons x l ih =>
    have hc : c.toNat ≠ 0 := h.least.resolve_left (by simp)
    have hx := h.more x List.mem_cons_self
    have hxl := x.toNat_lt
    have ih' := ih ⟨fun y hy => h.more y (List.mem_cons_of_mem _ hy), h.last, .inr hc⟩
    have hpos : 1 ≤ dv (l ++ [c]) := by
      rw [dv_snoc]
      have h1 := h.last
      rw [Nat.mod_eq_of_lt h1]
      have : 1 * 1 ≤ c.toNat * 128 ^ l.length := Nat.mul_le_mul (by omega) (Nat.pos_of_ne_zero (by simp))
      omega
    rw [List.cons_append, putL, if_neg (by simp only [dv]; omega)]
    simp only [dv]
    rw [show (x.toNat % 128 + 128 * dv (l ++ [c])) % 128 + 128 = x.toNat by omega, show (x.toNat % 128 + 128 * dv (l ++ [c])) / 128 = dv (l ++ [c]) by omega, ih', UInt8.ofNat_toNat]

theorem putL_pos (n : Nat) : 1 ≤ (putL n).length := by
  obtain ⟨l, c, h, _⟩ := putL_form n
  rw [h]; simp
theorem pow128 (k : Nat) : 1 ≤ 128 ^ k := Nat.pos_of_ne_zero (by simp)

/-- How many bytes a number has, and the tenth one. -/
theorem form_few {l : List UInt8} {c : UInt8} (h : Form l c) (hn : dv (l ++ [c]) < 18446744073709551616) : l.length ≤ 8 ∨ l.length = 9 ∧ c.toNat ≤ 1 := by
  rw [dv_snoc, Nat.mod_eq_of_lt h.last] at hn
  rcases Nat.lt_or_ge l.length 10 with hl | hl
  · by_cases h9 : l.length = 9
    · refine .inr ⟨h9, ?_⟩
      rw [h9] at hn
      omega
    · omega
  · have hne : l ≠ [] := by intro e; rw [e] at hl; simp at hl
    have hc : c.toNat ≠ 0 := h.least.resolve_left hne
    have h1 : 128 ^ 10 ≤ 128 ^ l.length := Nat.pow_le_pow_right (by omega) hl
    have h2 : 1 * 128 ^ l.length ≤ c.toNat * 128 ^ l.length := Nat.mul_le_mul_right _ (by omega)
    have h3 : (128 : Nat) ^ 10 = 1180591620717411303424 := by decide
    omega
theorem form_fits {l : List UInt8} {c : UInt8} (h : Form l c) (hn : l.length ≤ 8 ∨ l.length = 9 ∧ c.toNat ≤ 1) : dv (l ++ [c]) < 18446744073709551616 := by
  rcases hn with hn | ⟨hn, hc⟩
  · have h1 := dv_lt (l ++ [c])
    have h2 : 128 ^ (l ++ [c]).length ≤ 128 ^ 9 := Nat.pow_le_pow_right (by omega) (by simp; omega)
    have h3 : (128 : Nat) ^ 9 = 9223372036854775808 := by decide
    omega
  · rw [dv_snoc, hn, Nat.mod_eq_of_lt h.last]
    have h1 := dv_lt l
    rw [hn] at h1
    have h3 : (128 : Nat) ^ 9 = 9223372036854775808 := by decide
    rw [h3] at h1 ⊢
    have : c.toNat * 9223372036854775808 ≤ 1 * 9223372036854775808 := Nat.mul_le_mul_right _ hc
    omega

theorem putL_few (n : Nat) (hn : n < 18446744073709551616) : (putL n).length ≤ 10 := by
  obtain ⟨l, c, h1, h2, h3⟩ := putL_form n
  have := form_few h2 (by rw [h3]; exact hn)
  rw [h1]; simp; omega

/-- The bytes ahead of the first one without the highest bit. -/
def lead (s : List UInt8) : List UInt8 := s.takeWhile fun c => decide (128 ≤ c.toNat)

/-- What a number's bytes begin with. -/
def takeV (s : List UInt8) : Nat × Nat :=
  match s.drop (lead s).length with
  | [] => (0, 0)
  | c :: _ => if ((lead s).length ≤ 8 ∨ (lead s).length = 9 ∧ c.toNat ≤ 1) ∧ (lead s = [] ∨ c.toNat ≠ 0) then (dv (lead s ++ [c]), (lead s).length + 1) else (0, 0)

theorem lead_more (s : List UInt8) : ∀ x ∈ lead s, 128 ≤ x.toNat := fun x hx => by
  have := List.all_takeWhile (p := fun c : UInt8 => decide (128 ≤ c.toNat)) (l := s)
  simp only [List.all_eq_true] at this
  simpa using this x hx
theorem lead_append (l : List UInt8) (c : UInt8) (t : List UInt8) (h : ∀ x ∈ l, 128 ≤ x.toNat) (hc : c.toNat < 128) : lead (l ++ c :: t) = l := by
  induction l with
  | nil => simp [lead, List.takeWhile_cons]; omega
  | cons x l ih =>
    have hx := h x List.mem_cons_self
    unfold lead at *
    rw [List.cons_append, List.takeWhile_cons]
    simp only [hx, decide_true, if_true]
    rw [ih fun y hy => h y (List.mem_cons_of_mem _ hy)]
theorem drop_takeWhile (p : UInt8 → Bool) : ∀ (s : List UInt8), s.drop (s.takeWhile p).length = s.dropWhile p
  | [] => rfl
  | c :: s => by
    rw [List.takeWhile_cons, List.dropWhile_cons]
    cases h : p c with
    | true => simpa using drop_takeWhile p s
    | false => rfl
theorem split_lead (s : List UInt8) : s = lead s ++ s.drop (lead s).length := by
  unfold lead
  rw [drop_takeWhile]
  exact List.takeWhile_append_dropWhile.symm
theorem next_small (s : List UInt8) (c : UInt8) (t : List UInt8) (h : s.drop (lead s).length = c :: t) : c.toNat < 128 := by
  have hs := split_lead s
  rw [h] at hs
  rcases Nat.lt_or_ge c.toNat 128 with h1 | h1
  · exact h1
  · exfalso
    have h2 : lead s = lead (lead s ++ c :: t) := by rw [← hs]
    have h3 : ∀ (l : List UInt8), (∀ x ∈ l, 128 ≤ x.toNat) → (lead (l ++ c :: t)).length > l.length := by
      intro l hl
      induction l with
      | nil => simp [lead, List.takeWhile_cons, h1]
      | cons x l ih =>
        have hx := hl x List.mem_cons_self
        have := ih fun y hy => hl y (List.mem_cons_of_mem _ hy)
        unfold lead at *
        rw [List.cons_append, List.takeWhile_cons]
        simp only [hx, decide_true, if_true, List.length_cons]
        omega
    have := h3 (lead s) (lead_more s)
    rw [← h2] at this
    omega

/-- What is put is taken. -/
theorem take_put (n : Nat) (t : List UInt8) (hn : n < 18446744073709551616) : takeV (putL n ++ t) = (n, (putL n).length) := by
  obtain ⟨l, c, h1, h2, h3⟩ := putL_form n
  have e : putL n ++ t = l ++ c :: t := by rw [h1]; simp
  rw [e]
  unfold takeV
  rw [lead_append l c t h2.more h2.last]
  have hd : (l ++ c :: t).drop l.length = c :: t := by simp
  rw [hd]
  have hf := form_few h2 (by rw [h3]; exact hn)
  simp only
  rw [if_pos ⟨hf, h2.least⟩, h3, h1]
  simp
/-- What is taken is put as just these bytes. -/
theorem put_take (s : List UInt8) : takeV s = (0, 0) ∨ 0 < (takeV s).2 ∧ (takeV s).2 ≤ s.length ∧ putL (takeV s).1 = s.take (takeV s).2 ∧ (takeV s).1 < 18446744073709551616 := by
  unfold takeV
  split
  · exact .inl rfl
  · rename_i c t h
    split
    · rename_i hc
      refine .inr ?_
      have hf : Form (lead s) c := ⟨lead_more s, next_small s c t h, hc.2⟩
      have hs := split_lead s
      rw [h] at hs
      refine ⟨by simp, ?_, ?_, form_fits hf hc.1⟩
      · generalize lead s = L at *
        subst hs
        simp
      · simp only
        rw [putL_dv _ _ hf]
        generalize lead s = L at *
        subst hs
        rw [show L ++ c :: t = (L ++ [c]) ++ t by simp, List.take_left' (by simp)]
    · exact .inl rfl

/-! ### Numbers as digits -/
def digL (n : Nat) : List UInt8 := if n < 10 then [UInt8.ofNat (48 + n)] else digL (n / 10) ++ [UInt8.ofNat (48 + n % 10)]
termination_by n
decreasing_by omega
def textL (a : Int) : List UInt8 := if a < 0 then 45 :: digL a.natAbs else digL a.natAbs

def isDig (c : UInt8) : Prop := 48 ≤ c.toNat ∧ c.toNat ≤ 57
instance (c : UInt8) : Decidable (isDig c) := by unfold isDig; infer_instance

theorem digL_ne (n : Nat) : digL n ≠ [] := by rw [digL]; split <;> simp
theorem digL_len (n k : Nat) (h : n < 10 ^ (k + 1)) : (digL n).length ≤ k + 1 := by
  induction k generalizing n with
  | zero => rw [digL, if_pos (by simpa using h)]; simp
  | succ k ih =>
    rw [digL]
    split
    · simp
    · have := ih (n / 10) (by rw [Nat.div_lt_iff_lt_mul (by omega)]; rw [Nat.pow_succ] at h; exact h)
      simp; omega
theorem digL_20 {n : Nat} (h : n < 18446744073709551616) : (digL n).length ≤ 20 := by
  refine digL_len n 19 ?_
  have : (10 : Nat) ^ (19 + 1) = 100000000000000000000 := by decide
  omega
theorem digL_19 {n : Nat} (h : n ≤ 9223372036854775808) : (digL n).length ≤ 19 := by
  refine digL_len n 18 ?_
  have : (10 : Nat) ^ (18 + 1) = 10000000000000000000 := by decide
  omega
theorem textL_len {a : Int} (h : fits a) : (textL a).length ≤ 20 := by
  unfold fits at h
  have : (digL a.natAbs).length ≤ 19 := digL_len _ 18 (by have : (10 : Nat) ^ 19 = 10000000000000000000 := by decide
                                                          omega)
  unfold textL
  split <;> simp <;> omega
end Go.NumSpec

namespace Go.AL
open Go.NumSpec

theorem u64w (n : Int) : IntKind.u64.wrap n = n % 18446744073709551616 := by simp [IntKind.wrap, IntKind.bits, IntKind.signed]
/-! The bytes of a number, in an array of ten -/
def pad (l : List UInt8) (m : Nat) : List AV := (l.map fun c => AV.int .u8 c.toNat) ++ List.replicate (m - l.length) (.int .u8 0)
structure PutInv (n : Nat) (g : Nat × List UInt8) : Prop where
  eq : g.2 ++ putL g.1 = putL n
  lt : g.1 * 128 ^ g.2.length < 18446744073709551616
  le : g.2.length ≤ 9
theorem put_next {n m : Nat} {l : List UInt8} (h : PutInv n (m, l)) (hm : 128 ≤ m) : PutInv n (m / 128, l ++ [UInt8.ofNat (m % 128 + 128)]) := by
  have h1 := h.eq
  have h2 := h.lt
  have h3 := h.le
  dsimp only at h1 h2 h3
  have h4 : m / 128 * 128 ^ (l.length + 1) < 18446744073709551616 := by
    rw [Nat.pow_succ, Nat.mul_comm (128 ^ l.length), ← Nat.mul_assoc]
    refine Nat.lt_of_le_of_lt (Nat.mul_le_mul_right _ ?_) h2
    omega
  refine ⟨?_, by simpa using h4, ?_⟩
  · rw [← h1]
    conv => rhs; rw [putL, if_neg (by omega)]
    simp
  · simp only [List.length_append, List.length_cons, List.length_nil]
    rcases Nat.lt_or_ge l.length 9 with h | h
    · omega
    · exfalso
      have e : l.length = 9 := by omega
      rw [e] at h4
      have h5 : (128 : Nat) ^ (9 + 1) = 1180591620717411303424 := by decide
      rw [h5] at h4
      have : 1 * 1180591620717411303424 ≤ m / 128 * 1180591620717411303424 := Nat.mul_le_mul_right _ (by omega)
      omega
theorem pad_set {l : List UInt8} {c : UInt8} {i : Int} (hi : i = c.toNat) (h : l.length ≤ 9) : (pad l 10).set (0 + (l.length : Int).toNat * 1) (.int .u8 i) = pad (l ++ [c]) 10 := by
  subst hi
  have e1 : 0 + (l.length : Int).toNat * 1 = (l.map fun c => AV.int .u8 c.toNat).length + 0 := by simp
  unfold pad
  rw [e1, List.set_append_right _ _ (by omega)]
  have e2 : List.replicate (10 - l.length) (AV.int .u8 0) = AV.int .u8 0 :: List.replicate (10 - (l.length + 1)) (.int .u8 0) := by
    rw [show 10 - l.length = (10 - (l.length + 1)) + 1 by omega, List.replicate_succ]
  rw [e2]
  simp
theorem pad_len {l : List UInt8} (h : l.length ≤ 10) : (pad l 10).length = 10 := by simp [pad]; omega
theorem pad_take {l : List UInt8} : ((pad l 10).drop (0 + 0 * 1)).take l.length = l.map fun c => AV.int .u8 c.toNat := by
  unfold pad
  simp

/-! The digits of a number, in an array of twenty, from behind -/
def padR (l : List UInt8) : List AV := List.replicate (20 - l.length) (.int .u8 0) ++ l.map fun c => AV.int .u8 c.toNat
structure DigInv (n : Nat) (g : Nat × List UInt8) : Prop where
  eq : digL g.1 ++ g.2 = digL n
  lt : g.1 < 18446744073709551616
  len : (digL n).length ≤ 20
theorem dig_le {n m : Nat} {l : List UInt8} (h : DigInv n (m, l)) : l.length ≤ 19 := by
  have h1 := congrArg List.length h.eq
  have h2 := h.len
  have h3 := List.length_pos_iff.2 (digL_ne m)
  simp at h1
  omega
theorem dig_end {n m : Nat} {l : List UInt8} (h : DigInv n (m, l)) (hm : m / 10 = 0) : UInt8.ofNat (48 + m % 10) :: l = digL n := by
  rw [← h.eq]
  rw [digL, if_pos (by omega), show m % 10 = m by omega]
  rfl
theorem dig_next {n m : Nat} {l : List UInt8} (h : DigInv n (m, l)) (hm : m / 10 ≠ 0) : DigInv n (m / 10, UInt8.ofNat (48 + m % 10) :: l) := by
  have h2 := h.lt
  dsimp only at h2
  refine ⟨?_, by dsimp only; omega, h.len⟩
  rw [← h.eq]
  conv => rhs; rw [digL, if_neg (by omega)]
  simp
theorem padR_set {l : List UInt8} {c : UInt8} {i j : Int} (hj : j = ((20 - l.length : Nat) : Int) - 1) (hi : i = c.toNat) (h : l.length ≤ 19) : (padR l).set (0 + j.toNat * 1) (.int .u8 i) = padR (c :: l) := by
  subst hi
  have e1 : 0 + j.toNat * 1 = 19 - l.length := by omega
  unfold padR
  rw [e1, List.set_append_left _ _ (by simp; omega)]
  have e2 : List.replicate (20 - l.length) (AV.int .u8 0) = List.replicate (19 - l.length) (.int .u8 0) ++ [.int .u8 0] := by
    rw [show 20 - l.length = (19 - l.length) + 1 by omega, List.replicate_succ']
  rw [e2, List.set_append_right _ _ (by simp)]
  simp
theorem padR_len {l : List UInt8} (h : l.length ≤ 20) : (padR l).length = 20 := by simp [padR]; omega
theorem padR_drop {l : List UInt8} (h : l.length ≤ 20) : ((padR l).drop (0 + (20 - l.length) * 1)).take l.length = l.map fun c => AV.int .u8 c.toNat := by
  unfold padR
  rw [List.drop_append_of_le_length (by simp)]
  simp
  rw [List.take_of_length_le (by simp)]

/-- Bits that don't meet. -/
theorem or_add (n c k : Nat) (hn : n < 2 ^ k) : n ||| c * 2 ^ k = n + c * 2 ^ k := by
  rw [Nat.or_comm, Nat.mul_comm]
  have := Nat.two_pow_add_eq_or_of_lt hn c
  omega

theorem bits_or (m n : Nat) (hm : m < 18446744073709551616) (hn : n < 18446744073709551616) : bits .or .u64 (m : Int) (n : Int) = IntKind.u64.wrap ((m ||| n : Nat) : Int) := by
  simp only [bits]
  congr 2
  rw [BitVec.toNat_or, BitVec.toNat_ofInt, BitVec.toNat_ofInt]
  have : (2 ^ IntKind.u64.bits : Nat) = 18446744073709551616 := by decide
  rw [this]
  congr 1 <;> omega

/-! Taking a number's bytes -/
theorem lead_take {l : List UInt8} {k : Nat} (h : k ≤ (lead l).length) : l.take k = (lead l).take k := by
  conv => lhs; rw [split_lead l]
  rw [List.take_append_of_le_length h]
theorem getD_drop {l : List UInt8} {k : Nat} (h : k < l.length) : l.drop k = l.getD k 0 :: l.drop (k + 1) := by
  rw [List.drop_eq_getElem_cons h]
  simp [h]
theorem lead_lt {l : List UInt8} {k : Nat} (h : k < (lead l).length) : 128 ≤ (l.getD k 0).toNat := by
  have h1 : l.getD k 0 = (lead l).getD k 0 := by
    conv => lhs; rw [split_lead l]
    simp only [List.getD_eq_getElem?_getD]
    rw [List.getElem?_append_left h]
  rw [h1]
  refine lead_more l _ ?_
  simp [h]
theorem lead_grow {l : List UInt8} {k : Nat} (h : k ≤ (lead l).length) (hk : k < l.length) (hc : 128 ≤ (l.getD k 0).toNat) : k + 1 ≤ (lead l).length := by
  rcases Nat.lt_or_ge k (lead l).length with h1 | h1
  · exact h1
  · have e : k = (lead l).length := by omega
    have := next_small l (l.getD k 0) (l.drop (k + 1)) (by rw [← e]; exact getD_drop hk)
    omega
theorem lead_stop {l : List UInt8} {k : Nat} (h : k ≤ (lead l).length) (hk : k < l.length) (hc : (l.getD k 0).toNat < 128) : (lead l).length = k ∧ lead l = l.take k := by
  have h1 : (lead l).length = k := by
    rcases Nat.lt_or_ge k (lead l).length with h1 | h1
    · have := lead_lt h1; omega
    · omega
  exact ⟨h1, by rw [lead_take h, ← h1, List.take_length]⟩
theorem take_end {l : List UInt8} (h : l.length ≤ (lead l).length) : takeV l = (0, 0) := by
  unfold takeV
  rw [List.drop_eq_nil_of_le h]
theorem take_long {l : List UInt8} (h : 10 ≤ (lead l).length) : takeV l = (0, 0) := by
  unfold takeV
  split
  · rfl
  · rw [if_neg (by omega)]
theorem take_at {l : List UInt8} {k : Nat} (h : k ≤ (lead l).length) (hk : k < l.length) (hc : (l.getD k 0).toNat < 128) :
    takeV l = if (k ≤ 8 ∨ k = 9 ∧ (l.getD k 0).toNat ≤ 1) ∧ (k = 0 ∨ (l.getD k 0).toNat ≠ 0) then (dv (l.take (k + 1)), k + 1) else (0, 0) := by
  obtain ⟨h1, h2⟩ := lead_stop h hk hc
  unfold takeV
  rw [h1, getD_drop hk]
  simp only
  have e : l.take (k + 1) = l.take k ++ [l.getD k 0] := by
    rw [List.take_succ_eq_append_getElem hk]; simp [hk]
  have e2 : (lead l = []) ↔ k = 0 := by
    rw [← h1]; exact ⟨fun h => by rw [h]; rfl, fun h => List.eq_nil_of_length_eq_zero h⟩
  rw [e, ← h2]
  simp only [e2]
theorem dv_take {l : List UInt8} {k : Nat} (hk : k < l.length) : dv (l.take (k + 1)) = dv (l.take k) + (l.getD k 0).toNat % 128 * 128 ^ k := by
  have e : l.take (k + 1) = l.take k ++ [l.getD k 0] := by
    rw [List.take_succ_eq_append_getElem hk]; simp [hk]
  rw [e, dv_snoc, List.length_take, Nat.min_eq_left (by omega)]
theorem atL_nat (l : List UInt8) (k : Nat) : atL l (k : Int) = ((l.getD k 0).toNat : Int) := by simp [atL]
/-- One byte more, as the program reckons it. -/
theorem take_step {l : List UInt8} {k : Nat} (hk : k < l.length) (h9 : k ≤ 9) (hc : k = 9 → (l.getD k 0).toNat ≤ 1) :
    bits .or .u64 (dv (l.take k) : Int) (IntKind.u64.wrap ((IntKind.u64.wrap (atL l (k : Int))).tmod 128 * 2 ^ (IntKind.u64.wrap (7 * IntKind.u64.wrap (k : Int))).toNat)) = (dv (l.take (k + 1)) : Int) := by
  have h255 := (l.getD k 0).toNat_lt
  rw [atL_nat, wrap_u64 (n := ((l.getD k 0).toNat : Int)) (by omega) (by omega), wrap_u64 (n := (k : Int)) (by omega) (by omega), wrap_u64 (n := 7 * (k : Int)) (by omega) (by omega)]
  have e1 : ((l.getD k 0).toNat : Int).tmod 128 = (((l.getD k 0).toNat % 128 : Nat) : Int) := by rw [Int.tmod_eq_emod_of_nonneg (by omega)]; rfl
  have e2 : (7 * (k : Int)).toNat = 7 * k := by omega
  rw [e1, e2]
  have hp : (128 : Nat) ^ k = 2 ^ (7 * k) := by rw [show 128 = 2 ^ 7 by decide, ← Nat.pow_mul]
  have e3 : ((((l.getD k 0).toNat % 128 : Nat) : Int)) * 2 ^ (7 * k) = (((l.getD k 0).toNat % 128 * 2 ^ (7 * k) : Nat) : Int) := by push_cast; rfl
  rw [e3]
  have hd : dv (l.take k) < 2 ^ (7 * k) := by
    have h1 := dv_lt (l.take k)
    rw [← hp]
    refine Nat.lt_of_lt_of_le h1 (Nat.pow_le_pow_right (by omega) ?_)
    simp; omega
  have h63 : 2 ^ (7 * k) ≤ 9223372036854775808 := by
    have : 2 ^ (7 * k) ≤ 2 ^ 63 := Nat.pow_le_pow_right (by omega) (by omega)
    have e : (2 : Nat) ^ 63 = 9223372036854775808 := by decide
    omega
  have hx : (l.getD k 0).toNat % 128 * 2 ^ (7 * k) ≤ 18446744073709551615 - 9223372036854775807 := by
    rcases Nat.lt_or_ge k 9 with h | h
    · have h1 : 2 ^ (7 * k) ≤ 2 ^ 56 := Nat.pow_le_pow_right (by omega) (by omega)
      have e : (2 : Nat) ^ 56 = 72057594037927936 := by decide
      have h2 : (l.getD k 0).toNat % 128 * 2 ^ (7 * k) ≤ 127 * 2 ^ 56 := Nat.mul_le_mul (by omega) h1
      omega
    · have h1 := hc (by omega)
      have h2 : (l.getD k 0).toNat % 128 * 2 ^ (7 * k) ≤ 1 * 2 ^ (7 * k) := Nat.mul_le_mul_right _ (by omega)
      omega
  rw [wrap_u64 (by omega) (by omega), dv_take hk, hp]
  generalize hA : (l.getD k 0).toNat % 128 = A at *
  have hor := or_add (dv (l.take k)) A (7 * k) hd
  have hs : dv (l.take k) + A * 2 ^ (7 * k) ≤ 18446744073709551615 := by omega
  have eb : bits .or .u64 (dv (l.take k) : Int) ((A * 2 ^ (7 * k) : Nat) : Int) = IntKind.u64.wrap (((dv (l.take k)) ||| (A * 2 ^ (7 * k)) : Nat) : Int) := bits_or _ _ (by omega) (by omega)
  rw [eb, hor, wrap_u64 (by omega) (by omega)]

abbrev takeAV (p : Nat × Nat) : AV := .tup [.int .u64 (p.1 : Int), .int .i64 (p.2 : Int)]
theorem take_no {p : Nat × Nat} (h : p = (0, 0)) : AV.tup [.int .u64 0, .int .i64 0] = takeAV p := by rw [h]; rfl
theorem take_yes {p : Nat × Nat} {a b : Nat} (h : p = (a, b)) {x y : Int} (hx : x = (a : Int)) (hy : y = (b : Int)) : AV.tup [.int .u64 x, .int .i64 y] = takeAV p := by rw [h, hx, hy]
theorem take_nine {l : List UInt8} (h : 9 ≤ (lead l).length) (hk : 9 < l.length) (hc : 1 < (l.getD 9 0).toNat) : takeV l = (0, 0) := by
  rcases Nat.lt_or_ge (l.getD 9 0).toNat 128 with h1 | h1
  · rw [take_at h hk h1, if_neg (by omega)]
  · exact take_long (lead_grow h hk h1)
theorem take_fits (l : List UInt8) : (takeV l).1 < 18446744073709551616 := by
  rcases put_take l with h | h
  · rw [h]; decide
  · exact h.2.2.2

/-! Parsing -/
/-- What a parse has come to behind k letters. -/
structure ParseInv (l : List UInt8) (k : Nat) : Prop where
  le : k ≤ l.length
  dig : ∀ j, j < k → isDig (l.getD j 0)
theorem ParseInv.next {l : List UInt8} {k : Nat} (h : ParseInv l k) (hk : k < l.length) (hc : isDig (l.getD k 0)) : ParseInv l (k + 1) :=
  ⟨hk, fun j hj => by
    rcases Nat.lt_or_ge j k with h1 | h1
    · exact h.dig j h1
    · rw [show j = k by omega]; exact hc⟩
theorem ParseInv.all {l : List UInt8} {k : Nat} (h : ParseInv l k) (hk : ¬ k < l.length) : ∀ c ∈ l, isDig c := fun c hc => by
  obtain ⟨j, hj, rfl⟩ := List.getElem_of_mem hc
  have := h.dig j (by have := h.le; omega)
  simpa [hj] using this
/-! The reference's text: digits from behind -/
structure TextInv (n : Nat) (g : Nat × List UInt8) : Prop where
  few : (digL n).length ≤ 19
  low : g.2.length ≤ 19
  lt : g.1 < 18446744073709551616
  is : (g.2 = [] ∧ g.1 = n) ∨ (g.2 ≠ [] ∧ g.1 = 0 ∧ g.2 = digL n) ∨ (g.2 ≠ [] ∧ g.1 ≠ 0 ∧ digL g.1 ++ g.2 = digL n)
theorem text_next {n u : Nat} {s : List UInt8} (h : TextInv n (u, s)) (hs : s = [] ∨ u ≠ 0) : TextInv n (u / 10, UInt8.ofNat (48 + u % 10) :: s) := by
  have e : digL u ++ s = digL n := by
    rcases h.is with ⟨h1, h2⟩ | ⟨h1, h2, h3⟩ | ⟨h1, h2, h3⟩
    · dsimp only at h1 h2; rw [h1, h2]; simp
    · dsimp only at h1 h2; rcases hs with hs | hs
      · exact absurd hs h1
      · exact absurd h2 hs
    · exact h3
  have hf := h.few
  by_cases h10 : u / 10 = 0
  · have e2 : UInt8.ofNat (48 + u % 10) :: s = digL n := by
      rw [← e, digL, if_pos (by omega), show u % 10 = u by omega]; rfl
    exact ⟨h.few, by dsimp only; rw [e2]; exact hf, by have := h.lt; dsimp only at this ⊢; omega, .inr (.inl ⟨by simp, h10, e2⟩)⟩
  · have e2 : digL (u / 10) ++ (UInt8.ofNat (48 + u % 10) :: s) = digL n := by
      rw [← e]; conv => rhs; rw [digL, if_neg (by omega)]
      simp
    refine ⟨h.few, ?_, by have := h.lt; dsimp only at this ⊢; omega, .inr (.inr ⟨by simp, h10, e2⟩)⟩
    have h3 := congrArg List.length e2
    simp only [List.length_append, List.length_cons] at h3 ⊢
    have := List.length_pos_iff.2 (digL_ne (u / 10))
    omega
theorem text_end {n u : Nat} {s : List UInt8} (h : TextInv n (u, s)) (hs : s ≠ []) (hu : ¬ (0 < u ∧ s.length < 20)) : s = digL n := by
  rcases h.is with ⟨h1, _⟩ | ⟨_, _, h3⟩ | ⟨_, h2, _⟩
  · exact absurd h1 hs
  · exact h3
  · have := h.low; dsimp only at this h2; omega

theorem takeV_le (l : List UInt8) : (takeV l).2 ≤ l.length := by
  rcases put_take l with h | h
  · rw [h]; simp
  · exact h.2.1

/-! What came in -/
theorem nat_of_u64 {a : Int} (h : (Lit.int .u64 a).wf = true) : ∃ n : Nat, a = (n : Int) ∧ n < 18446744073709551616 := by
  simp [Lit.wf, IntKind.min, IntKind.max, IntKind.signed, IntKind.bits] at h
  exact ⟨a.toNat, by omega, by omega⟩
theorem fits_of_i64 {a : Int} (h : (Lit.int .i64 a).wf = true) : fits a := by
  simp [Lit.wf, IntKind.min, IntKind.max, IntKind.signed, IntKind.bits] at h
  unfold fits
  omega
end Go.AL

namespace Go.AL
open Go.NumSpec Go.RowKit

def marksI : List Int := [0,0,0,0,0,0,0,0,0,0,0,0,0,7,6,0,0,0,0,0,0,0,0,0,0,0,0,0,0,0,0,0,0,0,0,0,0,0,0,0,0,0,0,0,0,0,0,0,0,0,0,0,0,0,0,0,0,0,0,0,0,0,0,4]
def marksV : List Value := marksI.map fun n => .int .i64 n
def ofV (c : UInt8) : Int := if (97 ≤ c.toNat ∧ c.toNat ≤ 122) ∨ (48 ≤ c.toNat ∧ c.toNat ≤ 57) then 7 else if 65 ≤ c.toNat ∧ c.toNat ≤ 90 then 4 else if 32 ≤ c.toNat ∧ c.toNat - 32 < 64 then marksI.getD (c.toNat - 32) 0 else 0
def smallB (c : UInt8) : Bool := decide ((97 ≤ c.toNat ∧ c.toNat ≤ 122) ∨ (48 ≤ c.toNat ∧ c.toNat ≤ 57))
def inC (w : Int) (c : UInt8) : Bool := if w = 1 then smallB c || decide (c.toNat = 45) else if w = 2 then smallB c || decide (c.toNat = 45) || decide (c.toNat = 46) else smallB c || decide (65 ≤ c.toNat ∧ c.toNat ≤ 90) || decide (c.toNat = 45) || decide (c.toNat = 46) || decide (c.toNat = 95)
theorem of_bits_all : ((List.range 256).all fun n => ([1, 2, 4].all fun w => decide (bits .and .i64 (ofV (UInt8.ofNat n)) w = 0) == !inC w (UInt8.ofNat n))) = true := by decide +kernel
theorem of_bits (c : UInt8) {w : Int} (hw : w = 1 ∨ w = 2 ∨ w = 4) : decide (bits .and .i64 (ofV c) w = 0) = !inC w c := by
  have h := List.all_eq_true.1 of_bits_all c.toNat (List.mem_range.2 c.toNat_lt)
  have h2 := List.all_eq_true.1 h w (by rcases hw with rfl | rfl | rfl <;> simp)
  simp only [UInt8.ofNat_toNat, beq_iff_eq] at h2
  exact h2
theorem atL_get {l : List UInt8} {i : Nat} (h : i < l.length) : atL l (i : Int) = ((l[i]'h).toNat : Int) := by simp [atL, h]
def nameV (s : List UInt8) : Bool := (((!decide (s = []) && decide ((s.length : Int) ≤ 16)) && s.all (inC 1)) && !decide (atL s 0 = 45)) && !decide (atL s ((s.length : Int) - 1) = 45)
def cutV (c : UInt8) (s : List UInt8) : List UInt8 × List UInt8 × Bool := if c ∈ s then (s.takeWhile (fun x => x != c), s.drop ((s.takeWhile (fun x => x != c)).length + 1), true) else (s, [], false)
def namesR : Nat → List UInt8 → Bool
  | 0, _ => false
  | k + 1, s => if nameV (cutV 47 s).1 = true then (if (cutV 47 s).2.2 = true then namesR k (cutV 47 s).2.1 else true) else false
def repoV (s : List UInt8) : Bool := decide ((s.length : Int) ≤ 24) && namesR 24 s
def tagV (s : List UInt8) : Bool := (!decide (s = []) && decide ((s.length : Int) ≤ 8)) && s.all (inC 2)
def tparts (s : List UInt8) : List UInt8 × List UInt8 × Bool := if (cutV 58 s).2.2 = true ∧ repoV (cutV 58 s).1 = true ∧ tagV (cutV 58 s).2.1 = true then ((cutV 58 s).1, (cutV 58 s).2.1, true) else ([], [], false)
def valV (s : List UInt8) : Bool := decide ((s.length : Int) ≤ 16) && s.all (inC 4)
def strsV (l : List (List UInt8)) : List AV := l.map fun s => .S s
/-- What stands between the bytes c. -/
def partsB (c : UInt8) : List UInt8 → List (List UInt8)
  | [] => [[]]
  | x :: t => if x = c then [] :: partsB c t else match partsB c t with
    | [] => [[x]]
    | p :: ps => (x :: p) :: ps
theorem partsB_ne (c : UInt8) (s : List UInt8) : partsB c s ≠ [] := by
  cases s with
  | nil => simp [partsB]
  | cons x t =>
    unfold partsB
    split
    · simp
    · split <;> simp
theorem partsB_cons {c x : UInt8} {t : List UInt8} (h : x ≠ c) : partsB c (x :: t) = (x :: (partsB c t).headD []) :: (partsB c t).tail := by
  rw [partsB, if_neg h]
  cases hp : partsB c t with
  | nil => exact absurd hp (partsB_ne c t)
  | cons p ps => rfl
theorem partsB_snoc_eq (c : UInt8) (s : List UInt8) : partsB c (s ++ [c]) = partsB c s ++ [[]] := by
  induction s with
  | nil => simp [partsB]
  | cons x t ih =>
    by_cases hx : x = c
    · subst hx; simp [partsB, ih]
    · rw [List.cons_append, partsB_cons hx, partsB_cons hx, ih]
      cases hp : partsB c t with
      | nil => exact absurd hp (partsB_ne c t)
      | cons p ps => rfl
theorem partsB_snoc_ne {c y : UInt8} (hy : y ≠ c) (s : List UInt8) : partsB c (s ++ [y]) = (partsB c s).set ((partsB c s).length - 1) ((partsB c s).getD ((partsB c s).length - 1) [] ++ [y]) := by
  induction s with
  | nil => simp [partsB, hy]
  | cons x t ih =>
    by_cases hx : x = c
    · subst hx
      have : partsB x (x :: t) = [] :: partsB x t := by rw [partsB, if_pos rfl]
      rw [List.cons_append, this]
      have : partsB x (x :: (t ++ [y])) = [] :: partsB x (t ++ [y]) := by rw [partsB, if_pos rfl]
      rw [this, ih]
      cases hp : partsB x t with
      | nil => exact absurd hp (partsB_ne x t)
      | cons p ps => simp
    · rw [List.cons_append, partsB_cons hx, partsB_cons hx, ih]
      cases hp : partsB c t with
      | nil => exact absurd hp (partsB_ne c t)
      | cons p ps =>
        cases ps with
        | nil => simp
        | cons q qs => simp
theorem partsB_cut (c : UInt8) (s : List UInt8) : partsB c s = if (cutV c s).2.2 = true then (cutV c s).1 :: partsB c (cutV c s).2.1 else [s] := by
  induction s with
  | nil => simp [cutV, partsB]
  | cons x t ih =>
    by_cases hx : x = c
    · subst hx; simp [cutV, partsB]
    · rw [partsB_cons hx, ih]
      have htw : (x :: t).takeWhile (fun y => y != c) = x :: t.takeWhile (fun y => y != c) := by rw [List.takeWhile_cons, if_pos (by simpa using hx)]
      by_cases hc : c ∈ t
      · have : c ∈ x :: t := List.mem_cons_of_mem _ hc
        simp [cutV, hc, this, htw]
      · have : c ∉ x :: t := fun h => by
          rcases List.mem_cons.1 h with e | e
          · exact hx e.symm
          · exact hc e
        simp [cutV, hc, this]
theorem cutV_len {c : UInt8} {s : List UInt8} (h : (cutV c s).2.2 = true) : s.length = (cutV c s).1.length + 1 + (cutV c s).2.1.length := by
  unfold cutV at h ⊢
  split at h
  · rename_i hc
    have := (tw_lt hc).1
    rw [if_pos hc]
    simp; omega
  · cases h
theorem cutV_no {c : UInt8} {s : List UInt8} (h : (cutV c s).2.2 = false) : (cutV c s).1 = s := by
  unfold cutV at h ⊢
  split at h
  · cases h
  · rename_i hc; rw [if_neg hc]
theorem namesR_parts (k : Nat) (s : List UInt8) : namesR k s = (decide ((partsB 47 s).length ≤ k) && (partsB 47 s).all nameV) := by
  induction k generalizing s with
  | zero =>
    have := List.length_pos_iff.2 (partsB_ne 47 s)
    rw [namesR, show decide ((partsB 47 s).length ≤ 0) = false by simp; exact partsB_ne 47 s]; rfl
  | succ k ih =>
    rw [namesR, partsB_cut 47 s]
    cases hc : (cutV 47 s).2.2 with
    | true =>
      rw [if_pos rfl, if_pos rfl, ih]
      cases hn : nameV (cutV 47 s).1 <;> simp [hn]
    | false =>
      rw [cutV_no hc]
      cases hn : nameV s <;> simp [hn]
theorem parts_sum (c : UInt8) (s : List UInt8) : ((partsB c s).map fun p => p.length + 1).sum = s.length + 1 := by
  induction s with
  | nil => simp [partsB]
  | cons x t ih =>
    by_cases hx : x = c
    · subst hx
      rw [partsB, if_pos rfl]
      simp [ih]; omega
    · rw [partsB_cons hx]
      cases hp : partsB c t with
      | nil => exact absurd hp (partsB_ne c t)
      | cons p ps =>
        rw [hp] at ih
        simp at ih ⊢
        omega
theorem nameV_len {s : List UInt8} (h : nameV s = true) : 1 ≤ s.length ∧ s.length ≤ 16 := by
  unfold nameV at h
  simp only [Bool.and_eq_true, Bool.not_eq_true', decide_eq_true_eq, decide_eq_false_iff_not] at h
  obtain ⟨⟨⟨⟨h1, h2⟩, _⟩, _⟩, _⟩ := h
  exact ⟨List.length_pos_iff.2 h1, by omega⟩
theorem sum_names {l : List (List UInt8)} (h : l.all nameV = true) : 2 * l.length ≤ (l.map fun p => p.length + 1).sum ∧ (l.map fun p => p.length + 1).sum ≤ 17 * l.length := by
  induction l with
  | nil => simp
  | cons p ps ih =>
    simp only [List.all_cons, Bool.and_eq_true] at h
    have := nameV_len h.1
    have := ih h.2
    simp
    omega
theorem parts_names {s : List UInt8} (h : (partsB 47 s).all nameV = true) : 2 * (partsB 47 s).length ≤ s.length + 1 ∧ s.length + 1 ≤ 17 * (partsB 47 s).length := by
  have := sum_names h
  rw [parts_sum] at this
  exact this
theorem key_eq (s : List UInt8) : (if 100 < s.length then false else ((partsB 47 s).all nameV && decide (((partsB 47 s).length : Int) ≤ 2))) = namesR 2 s := by
  rw [namesR_parts]
  cases h : (partsB 47 s).all nameV with
  | false => simp
  | true =>
    have := parts_names h
    by_cases h2 : (partsB 47 s).length ≤ 2
    · rw [if_neg (by omega)]; simp; omega
    · simp only [Bool.true_and, Bool.and_true]
      rw [show decide ((partsB 47 s).length ≤ 2) = false by simpa using h2, show decide (((partsB 47 s).length : Int) ≤ 2) = false by simp; omega]
      split <;> rfl
theorem repo_eq (s : List UInt8) : repoV s = (decide ((s.length : Int) ≤ 24) && (partsB 47 s).all nameV) := by
  unfold repoV
  rw [namesR_parts]
  cases h : (partsB 47 s).all nameV with
  | false => simp
  | true =>
    have := parts_names h
    by_cases h2 : (s.length : Int) ≤ 24
    · simp only [Bool.and_true]
      rw [show decide ((partsB 47 s).length ≤ 24) = true by simp; omega]; simp
    · rw [show decide ((s.length : Int) ≤ 24) = false by simpa using h2]; simp
def splitRef (s : List UInt8) : List UInt8 × List UInt8 × Bool :=
  if 100 < s.length then ([], [], false) else
  if (partsB 58 s).length ≠ 2 ∨ 24 < ((partsB 58 s).getD 0 []).length ∨ ((partsB 58 s).getD 1 []).length < 1 ∨ 8 < ((partsB 58 s).getD 1 []).length then ([], [], false) else
  if ((partsB 47 ((partsB 58 s).getD 0 [])).all nameV && ((partsB 58 s).getD 1 []).all (inC 2)) = true then ((partsB 58 s).getD 0 [], (partsB 58 s).getD 1 [], true) else ([], [], false)
theorem inC_58 : inC 2 58 = false := by decide
theorem splitRef_no {s : List UInt8} (h : (partsB 58 s).length ≠ 2 ∨ 24 < ((partsB 58 s).getD 0 []).length ∨ ((partsB 58 s).getD 1 []).length < 1 ∨ 8 < ((partsB 58 s).getD 1 []).length) : splitRef s = ([], [], false) := by
  unfold splitRef
  split <;> first | rfl | rw [if_pos h]
theorem tparts_no {s : List UInt8} (h : ¬ ((cutV 58 s).2.2 = true ∧ repoV (cutV 58 s).1 = true ∧ tagV (cutV 58 s).2.1 = true)) : tparts s = ([], [], false) := by
  unfold tparts; rw [if_neg h]
theorem split_eq (s : List UInt8) : splitRef s = tparts s := by
  have hcut := partsB_cut 58 s
  cases hc : (cutV 58 s).2.2 with
  | false =>
    rw [hc] at hcut
    rw [splitRef_no (.inl (by rw [hcut]; simp)), tparts_no (fun h => by rw [hc] at h; cases h.1)]
  | true =>
    rw [hc, if_pos rfl] at hcut
    have hlen := cutV_len hc
    have hT : tparts s = if repoV (cutV 58 s).1 = true ∧ tagV (cutV 58 s).2.1 = true then ((cutV 58 s).1, (cutV 58 s).2.1, true) else ([], [], false) := by
      unfold tparts; rw [hc]; simp only [true_and]
    rw [hT]
    generalize (cutV 58 s).1 = a at *
    generalize (cutV 58 s).2.1 = b at *
    have hcb := partsB_cut 58 b
    cases hb : (cutV 58 b).2.2 with
    | true =>
      have hmem : (58 : UInt8) ∈ b := by
        unfold cutV at hb
        split at hb
        · assumption
        · cases hb
      have htag : tagV b = false := by
        unfold tagV
        have : b.all (inC 2) = false := List.all_eq_false.2 ⟨58, hmem, by rw [inC_58]; simp⟩
        rw [this]; simp
      rw [hb, if_pos rfl] at hcb
      have := List.length_pos_iff.2 (partsB_ne 58 (cutV 58 b).2.1)
      rw [splitRef_no (.inl (by rw [hcut, hcb, List.length_cons, List.length_cons]; omega)), htag, if_neg (by simp)]
    | false =>
      rw [hb, if_neg (by simp)] at hcb
      rw [hcb] at hcut
      have g0 : (partsB 58 s).getD 0 [] = a := by rw [hcut]; rfl
      have g1 : (partsB 58 s).getD 1 [] = b := by rw [hcut]; rfl
      have gl : (partsB 58 s).length = 2 := by rw [hcut]; rfl
      by_cases h1 : a.length ≤ 24
      · by_cases h2 : b.length ≤ 8
        · by_cases h3 : b = []
          · rw [splitRef_no (.inr (.inr (.inl (by rw [g1, h3]; simp)))), if_neg (fun h => by have := h.2; rw [h3] at this; simp [tagV] at this)]
          · have := List.length_pos_iff.2 h3
            have e1 : repoV a = (partsB 47 a).all nameV := by rw [repo_eq, show decide ((a.length : Int) ≤ 24) = true by simp; omega, Bool.true_and]
            have e2 : tagV b = b.all (inC 2) := by
              unfold tagV
              rw [show decide (b = []) = false by simpa using h3, show decide ((b.length : Int) ≤ 8) = true by simp; omega]; simp
            unfold splitRef
            rw [if_neg (by omega), g0, g1, gl, if_neg (by omega), e1, e2]
            simp only [Bool.and_eq_true]
        · rw [splitRef_no (.inr (.inr (.inr (by rw [g1]; omega)))), if_neg (fun h => by have := h.2; simp [tagV] at this; omega)]
      · rw [splitRef_no (.inr (.inl (by rw [g0]; omega))), if_neg (fun h => by have := h.1; simp [repoV] at this; omega)]
theorem marks_at {i : Nat} (h : i < 64) : marksV[i]? = some (.int .i64 (marksI.getD i 0)) := by
  have hl : marksI.length = 64 := by decide
  rw [marksV, List.getElem?_map, List.getElem?_eq_getElem (by omega)]
  simp [hl, h]
theorem tw_take (c : UInt8) (s : List UInt8) : s.take (s.takeWhile (fun x => x != c)).length = s.takeWhile (fun x => x != c) := by
  obtain ⟨t, ht⟩ := List.takeWhile_prefix (fun x => x != c) (l := s)
  conv => lhs; arg 2; rw [← ht]
  simp
theorem all_take_succ {s : List UInt8} {i : Nat} {p : UInt8 → Bool} (h : i < s.length) : (s.take (i + 1)).all p = ((s.take i).all p && p s[i]) := by
  rw [List.take_succ_eq_append_getElem h, List.all_append]; simp
theorem cutV_le (c : UInt8) (s : List UInt8) : (cutV c s).1.length ≤ s.length := by
  unfold cutV
  split
  · exact (List.takeWhile_prefix _).length_le
  · exact Nat.le_refl _
theorem cutV_le2 (c : UInt8) (s : List UInt8) : (cutV c s).2.1.length ≤ s.length := by
  unfold cutV
  split <;> simp
def saysV (b : Bool) (c : Int) : Int := if b = true then 0 else c
section
variable {P : Program} {N : Nat} {env : Env} {st : St} {o : Oper}
theorem PStep.ofV {V V' : AV} (h : PStep P N o env st V) (e : V = V') : PStep P N o env st V' := e ▸ h
end
theorem name_no {s : List UInt8} (h : (((s.length : Int) < 1 ∨ 16 < (s.length : Int)) ∨ atL s 0 = 45) ∨ atL s ((s.length : Int) - 1) = 45) : nameV s = false := by
  unfold nameV
  rcases h with ((h | h) | h) | h
  · have : s = [] := List.eq_nil_of_length_eq_zero (by omega)
    subst this; rfl
  · rw [show decide ((s.length : Int) ≤ 16) = false by simp; omega]; simp
  · rw [show decide (atL s 0 = 45) = true by simpa using h]; simp
  · rw [show decide (atL s ((s.length : Int) - 1) = 45) = true by simpa using h]; simp
theorem name_all {s : List UInt8} (h : ¬ ((((s.length : Int) < 1 ∨ 16 < (s.length : Int)) ∨ atL s 0 = 45) ∨ atL s ((s.length : Int) - 1) = 45)) : nameV s = s.all (inC 1) := by
  unfold nameV
  have h0 : s ≠ [] := fun e => by subst e; exact h (.inl (.inl (.inl (by decide))))
  rw [show decide (s = []) = false by simpa using h0, show decide ((s.length : Int) ≤ 16) = true by simp; omega, show decide (atL s 0 = 45) = false by simp; omega, show decide (atL s ((s.length : Int) - 1) = 45) = false by simp; omega]
  simp
theorem inC1 (c : UInt8) : inC 1 c = (smallB c || decide ((c.toNat : Int) = 45)) := by
  unfold inC; rw [if_pos rfl]; congr 1; exact decide_eq_decide.2 (by omega)
theorem inC2 (c : UInt8) : inC 2 c = ((smallB c || decide ((c.toNat : Int) = 45)) || decide ((c.toNat : Int) = 46)) := by
  unfold inC; rw [if_neg (by decide), if_pos rfl]
  congr 1
  · congr 1; exact decide_eq_decide.2 (by omega)
  · exact decide_eq_decide.2 (by omega)
theorem parts_le {c : UInt8} {s p : List UInt8} (h : p ∈ partsB c s) : p.length ≤ s.length := by
  have h1 := parts_sum c s
  have h2 : ∀ l : List (List UInt8), p ∈ l → p.length + 1 ≤ (l.map fun p => p.length + 1).sum := fun l => by
    induction l with
    | nil => intro h; simp at h
    | cons q l ih =>
      intro h
      rcases List.mem_cons.1 h with rfl | h
      · simp
      · have := ih h; simp; omega
  have := h2 _ h
  omega
theorem strsV_len (l : List (List UInt8)) : (strsV l).length = l.length := by simp [strsV]
theorem strsV_at {l : List (List UInt8)} {i : Nat} (h : i < l.length) : (strsV l)[i]? = some (.S (l.getD i [])) := by
  simp [strsV, h]
theorem take_drop_one {s : List UInt8} {i : Nat} (h : i < s.length) : (s.take (i + 1)).drop i = [s[i]] := by
  rw [List.take_succ_eq_append_getElem h, List.drop_append_of_le_length (by simp; omega)]
  simp
theorem parts_next_eq {c : UInt8} {s : List UInt8} {i : Nat} (h : i < s.length) (hc : s[i] = c) : strsV (partsB c (s.take (i + 1))) = strsV (partsB c (s.take i)) ++ [.S []] := by
  rw [List.take_succ_eq_append_getElem h, hc, partsB_snoc_eq]; simp [strsV]
theorem parts_next_ne {c : UInt8} {s : List UInt8} {i : Nat} (h : i < s.length) (hc : s[i] ≠ c) : strsV (partsB c (s.take (i + 1))) = (strsV (partsB c (s.take i))).set ((partsB c (s.take i)).length - 1) (.S ((partsB c (s.take i)).getD ((partsB c (s.take i)).length - 1) [] ++ [s[i]])) := by
  rw [List.take_succ_eq_append_getElem h, partsB_snoc_ne hc]; simp [strsV, List.map_set]
theorem parts_pos (c : UInt8) (s : List UInt8) : 0 < (partsB c s).length := List.length_pos_iff.2 (partsB_ne c s)
def valR (s : List UInt8) : Bool := (s.take 17).all (inC 4) && decide ((s.length : Int) ≤ 16)
theorem val_eq (s : List UInt8) : valR s = valV s := by
  unfold valR valV
  by_cases h : (s.length : Int) ≤ 16
  · rw [List.take_of_length_le (by omega), Bool.and_comm]
  · rw [show decide ((s.length : Int) ≤ 16) = false by simpa using h]; simp
theorem inC4 (c : UInt8) (h : ((((smallB c = false ∧ ((c.toNat : Int) < 65 ∨ 90 < (c.toNat : Int))) ∧ ¬ (c.toNat : Int) = 45) ∧ ¬ (c.toNat : Int) = 46) ∧ ¬ (c.toNat : Int) = 95)) : inC 4 c = false := by
  obtain ⟨⟨⟨⟨h1, h2⟩, h3⟩, h4⟩, h5⟩ := h
  unfold inC
  rw [if_neg (by decide), if_neg (by decide), h1, show decide (65 ≤ c.toNat ∧ c.toNat ≤ 90) = false by simp; omega, show decide (c.toNat = 45) = false by simp; omega, show decide (c.toNat = 46) = false by simp; omega, show decide (c.toNat = 95) = false by simp; omega]
  rfl
theorem inC4' (c : UInt8) (h : ¬ ((((smallB c = false ∧ ((c.toNat : Int) < 65 ∨ 90 < (c.toNat : Int))) ∧ ¬ (c.toNat : Int) = 45) ∧ ¬ (c.toNat : Int) = 46) ∧ ¬ (c.toNat : Int) = 95)) : inC 4 c = true := by
  unfold inC
  rw [if_neg (by decide), if_neg (by decide)]
  cases h1 : smallB c with
  | true => simp
  | false =>
    simp only [h1, true_and] at h
    simp only [Bool.false_or, Bool.or_eq_true, decide_eq_true_eq]
    omega
/-! The laws -/
theorem says_zero {b : Bool} {c : Int} (hc : c ≠ 0) : saysV b c = 0 ↔ b = true := by
  unfold saysV
  cases b
  · simp [hc]
  · simp
/-! The chapter's examples -/
end Go.AL

namespace Go.AL
open Go.RowKit Go.NumSpec Go.Stop

/-- A code (type C), under steps (type S). -/
def chainV (C S : TypeId) (c : Int) : List (List UInt8) → AV
  | [] => .ifc C (.int .i64 c)
  | p :: ps => .ifc S (.ip [.S p, chainV C S c ps])
abbrev Er := Option (Int × List (List UInt8))
def erV (C S : TypeId) : Er → AV
  | none => .nili
  | some (c, ps) => chainV C S c ps
def erNew (c : Int) (ps : List (List UInt8)) : Er := if c = 0 then none else some (c, ps)
def erIn (e : Er) (p : List UInt8) : Er := e.map fun x => (x.1, p :: x.2)
def erCode (e : Er) : Int := match e with | none => 0 | some (c, _) => c
def erPath (e : Er) : List (List UInt8) := match e with | none => [] | some (_, ps) => ps
theorem chain_ifc (C S : TypeId) (c : Int) (ps : List (List UInt8)) : ∃ T z, chainV C S c ps = .ifc T z := by cases ps <;> exact ⟨_, _, rfl⟩
theorem er_is (C S : TypeId) (e : Er) : ErrIs (erV C S e) e.isNone := by
  cases e with
  | none => rfl
  | some x => exact chain_ifc C S x.1 x.2
theorem chain_is (C S : TypeId) (c : Int) (ps : List (List UInt8)) : ErrIs (chainV C S c ps) false := chain_ifc C S c ps
def typV (C S : TypeId) (ps : List (List UInt8)) : TypeId := match ps with | [] => C | _ => S
theorem erNew_none {c : Int} {ps : List (List UInt8)} (h : c = 0) : erNew c ps = none := by rw [erNew, if_pos h]
theorem erNew_some {c : Int} {ps : List (List UInt8)} (h : c ≠ 0) : erNew c ps = some (c, ps) := by rw [erNew, if_neg h]
theorem ifc_is (T : TypeId) (x : AV) : ErrIs (.ifc T x) false := ⟨T, x, rfl⟩
theorem chain_cells (C S : TypeId) (c : Int) (ps : List (List UInt8)) : (chainV C S c ps).cells = [chainV C S c ps] := by cases ps <;> rfl
theorem er_cells (C S : TypeId) (e : Er) : (erV C S e).cells = [erV C S e] := by
  cases e with
  | none => rfl
  | some x => exact chain_cells C S x.1 x.2
theorem er_flat (C S : TypeId) (e : Er) : (erV C S e).flat = true := by
  cases e with
  | none => rfl
  | some x => obtain ⟨c, ps⟩ := x; cases ps <;> rfl
def firstE : List Er → Er
  | [] => none
  | e :: es => match e with | some x => some x | none => firstE es
theorem first_none {es : List Er} {i : Nat} (h : i < es.length) (he : es[i] = none) : firstE (es.drop i) = firstE (es.drop (i + 1)) := by
  rw [List.drop_eq_getElem_cons h, he]; rfl
theorem first_some {es : List Er} {i : Nat} (h : i < es.length) {x : Int × List (List UInt8)} (he : es[i] = some x) : firstE (es.drop i) = some x := by
  rw [List.drop_eq_getElem_cons h, he]; rfl
def ersV (C S : TypeId) (es : List Er) : List AV := es.map (erV C S)

def stepV (C S : TypeId) (e : Er) (Y : AV) : AV := match e with | some (c, p :: ps) => .ip [.S p, chainV C S c ps] | _ => Y
def stepB (e : Er) : Bool := match e with | some (_, _ :: _) => true | _ => false
def intsV (l : List Int) : List AV := l.map fun n => .int .i64 n
section
variable {P : Program} {N : Nat} {Q : Post} {env : Env} {st : St} {o : Oper} {w : World}
/-- reflectlite.TypeOf at an interface value whose type is known. -/
theorem S_typeOf {f : FuncId} {e : Array Value → Sem Value} {x : Operand} {ts : Array TypeId} {T : TypeId} {X : AV} {r : Value} (ho : o.op = .call { callee := .value (.func f), args := #[x], argTypes := ts }) (hx : AEv env x (.ifc T X)) (hf : ExtOf P f e)
    (hv : ∀ u w, (e #[.iface T u]).run P w = .ok r w) : PStep P N o env st (.lit r) :=
  S_ext (xs := [x]) ho (.cons hx .nil) hf fun w vs hrel hl hr => by
    obtain ⟨v, rfl, hv1⟩ := one_arg hl hr
    obtain ⟨u, rfl, hu⟩ := ifc_inv hv1
    exact ⟨r, w, .lit r, st, hv u w, ⟨rfl, rfl⟩, .lit _, hrel, .refl _ _⟩
/-- A pointer to cells of one's own, as one to cells that stay. -/
theorem Conv.ipT {st' : St} {b : Nat} {cs : List AV} (h : Sub st' st) (hb : (b, Ob.cells cs) ∈ st) (hn : (st.map (·.1)).Nodup → ∀ o, (b, o) ∉ st') : Conv st st' (.ptr b 0) (.ip cs) := fun w v hr h1 =>
  Conv.ip h hb (hn hr.nodup) rfl (fun i c d hc hd => by rw [hc] at hd; cases hd; exact Conv.refl h c) w v hr h1
end
end Go.AL

namespace Go.AL
open Go.RowKit
section
variable {P : Program} {N : Nat} {Q : Post} {env : Env} {st : St}
theorem EnvLe.app {e a b : Env} (h : EnvLe e a) (k : EnvLe e b) : EnvLe e (a ++ b) := by
  induction h with
  | nil => exact k
  | cons h1 h2 _ ih => exact .cons h1 h2 ih

theorem AC_loopK {G : Type} {c : Code} (K : Env) (I : G → Prop) (vars : G → Env) (stI : G → St) (m : G → Nat) (g0 : G) (hI : I g0) (hst : Sub (stI g0) st) (hK : EnvLe env K) (henv : EnvLe env (vars g0))
    (round : ∀ g, I g → AC P N c (thenP (fun env' st' => ∃ g', I g' ∧ m g' < m g ∧ Sub (stI g') st' ∧ EnvLe env' (vars g') ∧ EnvLe env' K) Q) (vars g ++ K) (stI g)) : AC P N (.loop c) Q env st :=
  AC_loopS I (fun g => vars g ++ K) stI m g0 hI hst (henv.app hK) fun g hg => (round g hg).mono fun e env' st' hq => by
    cases e with
    | normal => obtain ⟨g', h1, h2, h3, h4, h5⟩ := hq; exact ⟨g', h1, h2, h3, h4.app h5⟩
    | _ => exact hq

end

section
variable {P : Program} {N : Nat} {env : Env} {st : St} {o : Oper}
theorem map_at {α : Type} {f : α → AV} {l : List α} {i : Nat} (h : i < l.length) : (l.map f)[i]? = some (f (l[i]'h)) := by simp [h]

theorem S_elemN {α : Type} {f : α → AV} {l : List α} {t e : TypeId} {x y : Operand} {k : IntKind} {i : Nat} (m : Nat) (ho : o.op = .indexAddr t x y) (hx : AEv env x (.sl (l.map f))) (hy : AEv env y (.int k ((i : Nat) : Int)))
    (hu : P.underlying t = some (.slice e)) (hm : (P.info? e).map (·.size) = some m) (h : i < l.length) (hcm : ∀ a, (f a).cells.length = m) : PStep P N o env st (.ip (f (l[i]'h)).cells) :=
  S_elem m ho hx hy hu hm (by omega) (by rw [Int.toNat_natCast]; exact map_at h) (hcm _)

theorem S_lenM {α : Type} {f : α → AV} {l : List α} {t e : TypeId} {x : Operand} (ho : o.op = .call { callee := .builtin .len, args := #[x], argTypes := #[t] }) (hx : AEv env x (.sl (l.map f))) (hu : P.underlying t = some (.slice e)) : PStep P N o env st (.int .i64 (l.length : Int)) := by
  have h := S_len (P := P) (N := N) (st := st) ho hx hu
  rwa [List.length_map] at h

theorem S_cutM {α : Type} {f : α → AV} {l : List α} {t e : TypeId} {x : Operand} {lo hi : Option Operand} {i j : Nat} (m : Nat) (ho : o.op = .slice t x lo hi none) (hx : AEv env x (.sl (l.map f)))
    (hl : match lo with | none => i = 0 | some l => ∃ k, AEv env l (.int k i)) (hh : match hi with | none => j = l.length | some l => ∃ k, AEv env l (.int k j))
    (hu : P.underlying t = some (.slice e)) (hm : (P.info? e).map (·.size) = some m) (hs : ∀ a, (f a).cells.length = m) (h1 : i ≤ j) (h2 : j ≤ l.length) : PStep P N o env st (.sl (((l.take j).drop i).map f)) := by
  have h := S_cut (P := P) (N := N) (st := st) (i := i) (j := j) m ho hx hl (by cases hi with | none => simpa using hh | some _ => exact hh) hu hm (fun x hx => by obtain ⟨a, _, rfl⟩ := List.mem_map.1 hx; exact hs a) h1 (by simpa using h2)
  rwa [← List.map_take, ← List.map_drop] at h

theorem S_cutHM {α : Type} {f : α → AV} {l : List α} {t e : TypeId} {x hi : Operand} {k : IntKind} {j : Nat} (m : Nat) (ho : o.op = .slice t x none (some hi) none) (hx : AEv env x (.sl (l.map f))) (hh : AEv env hi (.int k ((j : Nat) : Int)))
    (hu : P.underlying t = some (.slice e)) (hm : (P.info? e).map (·.size) = some m) (hs : ∀ a, (f a).cells.length = m) (h1 : j ≤ l.length) : PStep P N o env st (.sl ((l.take j).map f)) :=
  S_cutM (P := P) (N := N) (st := st) (i := 0) (j := j) m ho hx rfl ⟨k, hh⟩ hu hm hs (Nat.zero_le _) h1
/-- One's own slice of values grows by some. -/
theorem S_appendM {α : Type} {f : α → AV} {l l2 : List α} {t e size bytes : Nat} {x y : Operand} {p : Own} (pre post : St) (ho : o.op = .call { callee := .builtin .append, args := #[x, y], argTypes := #[t, t] }) (hx : AEv env x (ownAV p size (l.map f))) (hy : AEv env y (.sl (l2.map f))) (hst : st = pre ++ (ownSt p e size (l.map f) ++ post)) (h : p.ok (l.map f)) (hT : appT P t e size bytes = true) (hne : l2 ≠ [])
    (hs : ∀ a, (f a).cells.length = size ∧ (f a).cells.all AV.one = true) (hb : (l.length + l2.length) * bytes ≤ 140737488355328) (h63 : l.length + l2.length ≤ 9223372036854775807) :
    Step P N o env st fun z st' => ∃ b k cap, Own.ok (.row b k cap) ((l ++ l2).map f) ∧ z = ownAV (.row b k cap) size ((l ++ l2).map f) ∧ st' = pre ++ (ownSt (.row b k cap) e size ((l ++ l2).map f) ++ post) := by
  have h := S_appendOwn (P := P) (N := N) (env := env) (xs := l.map f) (ys := l2.map f) pre post ho hx hy hst h hT (by simpa using hne) (fun x hx => by obtain ⟨a, _, rfl⟩ := List.mem_map.1 hx; exact (hs a).1) (fun x hx => by obtain ⟨a, _, rfl⟩ := List.mem_map.1 hx; exact hs a) (by simpa using hb) (by simpa using h63)
  intro a w hg next Q hn
  refine h a w hg next Q fun z st' v w' hk => ?_
  obtain ⟨b, k, cap, h1, h2, h3⟩ := hk
  refine hn z st' v w' ⟨b, k, cap, ?_, ?_, ?_⟩
  · rw [List.map_append]; exact h1
  · rw [List.map_append]; exact h2
  · rw [List.map_append]; exact h3
theorem S_storeW {t : TypeId} {x y : Operand} {b : Nat} {cs ds : List AV} (n : Nat) (ho : o.op = .store t x y) (hx : AEv env x (.ptr b 0)) (hy : AEv env y (.agg ds)) (hst : st[n]? = some (b, .cells cs)) (hl : ds.length = cs.length) (hone : ds.all AV.one = true)
    (hi : (P.info? t).map (·.size) = some ds.length) : Step P N o env st fun x st' => x = .any ∧ st' = st.set n (b, .cells ds) := by
  have h := S_storeN (P := P) (N := N) n ho hx hy hst (by omega) hone hi
  have e : putAt cs 0 ds = ds := by
    unfold putAt
    rw [List.take_zero, List.nil_append, Nat.zero_add, List.drop_of_length_le (by omega), List.append_nil]
  rwa [e] at h
theorem take_snoc {α : Type} {l : List α} {i : Nat} (h : i < l.length) : l.take i ++ [l[i]'h] = l.take (i + 1) := (List.take_succ_eq_append_getElem h).symm

/-- One's own slice takes the next of another list's values. -/
theorem S_appendT {α : Type} {f : α → AV} {l : List α} {i : Nat} {t e size bytes : Nat} {x y : Operand} {p : Own} (h1 : i < l.length) (pre post : St) (ho : o.op = .call { callee := .builtin .append, args := #[x, y], argTypes := #[t, t] }) (hx : AEv env x (ownAV p size ((l.take i).map f))) (hy : AEv env y (.sl [f (l[i]'h1)])) (hst : st = pre ++ (ownSt p e size ((l.take i).map f) ++ post)) (h : p.ok ((l.take i).map f)) (hT : appT P t e size bytes = true)
    (hs : ∀ a, (f a).cells.length = size ∧ (f a).cells.all AV.one = true) (hb : (i + 1) * bytes ≤ 140737488355328) (h63 : i + 1 ≤ 9223372036854775807) :
    Step P N o env st fun z st' => ∃ b k cap, Own.ok (.row b k cap) ((l.take (i + 1)).map f) ∧ z = ownAV (.row b k cap) size ((l.take (i + 1)).map f) ∧ st' = pre ++ (ownSt (.row b k cap) e size ((l.take (i + 1)).map f) ++ post) := by
  have hl : (l.take i).length = i := by rw [List.length_take]; omega
  have h := S_appendM (P := P) (N := N) (env := env) (l := l.take i) (l2 := [l[i]'h1]) pre post ho hx hy hst h hT (by simp) hs (by rw [hl]; exact hb) (by rw [hl]; exact h63)
  rwa [take_snoc h1] at h
end
end Go.AL

namespace Go.AL
open Go.RowKit
variable {P : Program} {N : Nat} {env : Env} {st : St} {Q : Exit → Env → St → Prop}
theorem AEv.cd {x : Operand} {c : Bool} {y : AV} (h : AEv env x (.cond c y)) (hc : c = true := by first | assumption | exact gdT (by assumption) | exact gdF (by assumption) | exact gdAnd (by assumption) (by assumption) | exact gdAnd (by assumption) (gdT (by assumption)) | exact gdAnd (by assumption) (gdF (by assumption))) : AEv env x y := h.cond hc
section
variable {ops : Array Oper} {o : Oper} {rest : List Oper} {V : AV} {s t : TypeId} {x y z : Operand} {b off i d g : Nat} {cs ds : List AV} {c : AV} {want p q : Bool}
theorem mv {t : Nat} (hgd : o.guard = none) (hd : dstIn N o.dst = true) (ho : o.op = .move (.tmp t)) (hx : env.lookup t = some V) (h : AL P N ops rest Q (putE o.dst V env) st) : AL P N ops (o :: rest) Q env st := AL_p hgd hd (S_move ho (.tmp hx)) h
theorem as_ {t : Nat} (hgd : o.guard = none) (hd : dstIn N o.dst = true) (ho : o.op = .assign (.tmp t)) (hx : env.lookup t = some V) (h : AL P N ops rest Q (putE o.dst V env) st) : AL P N ops (o :: rest) Q env st := AL_p hgd hd (S_assign ho (.tmp hx)) h
theorem ac {v : Value} (hgd : o.guard = none) (hd : dstIn N o.dst = true) (ho : o.op = .assign (.const v)) (h : AL P N ops rest Q (putE o.dst (.lit v) env) st) : AL P N ops (o :: rest) Q env st := AL_p hgd hd (S_assign ho (.const v)) h
theorem p_ (hs : PStep P N o env st V) (h : AL P N ops rest Q (putE o.dst V env) st) (hgd : o.guard = none := by exact rfl) (hd : dstIn N o.dst = true := by exact rfl) : AL P N ops (o :: rest) Q env st := AL_p hgd hd hs h
theorem s_ {K : AV → St → Prop} (hs : Step P N o env st K) (h : ∀ x st', K x st' → AL P N ops rest Q (putE o.dst x env) st') (hgd : o.guard = none := by exact rfl) (hd : dstIn N o.dst = true := by exact rfl) : AL P N ops (o :: rest) Q env st := AL_step hgd hd hs h
theorem g_ (hs : gd p want = true → PStep P N o env st V) (h : AL P N ops rest Q (putE o.dst (.cond (gd p want) V) env) st) (hgd : o.guard = some (g, want) := by exact rfl) (hj : ((ops[g]?).bind (·.dst)) = some d := by exact rfl) (hb : AEv env (.tmp d) (.bool p) := by exact .tmp rfl) (hd : dstIn N o.dst = true := by exact rfl) : AL P N ops (o :: rest) Q env st := AL_g hgd hj hb hd hs h
theorem fl (n : Nat) (h : AL P N ops rest Q (putE o.dst (.ptr b (off + n)) env) st) (hgd : o.guard = none := by exact rfl) (hd : dstIn N o.dst = true := by exact rfl) (ho : o.op = .fieldAddr s x i := by exact rfl) (hx : AEv env x (.ptr b off) := by exact .tmp rfl) (hf : fieldIs P s i n = true := by kernel_rfl) : AL P N ops (o :: rest) Q env st := AL_p hgd hd (S_field n ho hx hf) h
theorem ld (n : Nat) (h : AL P N ops rest Q (putE o.dst c env) st) (hgd : o.guard = none := by exact rfl) (hd : dstIn N o.dst = true := by exact rfl) (ho : o.op = .load t x := by exact rfl) (hx : AEv env x (.ptr b off) := by exact .tmp rfl) (hst : st[n]? = some (b, .cells cs) := by exact rfl) (hc : cs[off]? = some c := by exact rfl) (ht : flatT P t = true := by kernel_rfl) : AL P N ops (o :: rest) Q env st := AL_p hgd hd (S_load n ho hx hst hc ht) h
theorem ldN (m n : Nat) (h : AL P N ops rest Q (putE o.dst (.agg ((cs.drop off).take m)) env) st) (hgd : o.guard = none := by exact rfl) (hd : dstIn N o.dst = true := by exact rfl) (ho : o.op = .load t x := by exact rfl) (hx : AEv env x (.ptr b off) := by exact .tmp rfl) (hst : st[n]? = some (b, .cells cs) := by exact rfl) (ht : rowT P t m = true := by kernel_rfl) (hm : off + m ≤ cs.length := by first | exact Nat.le_of_ble_eq_true rfl | (simp; omega) | simp) : AL P N ops (o :: rest) Q env st := AL_p hgd hd (S_loadN n ho hx hst ht hm) h
theorem an (h : AL P N ops rest Q (putE o.dst (.bool (p && q)) env) st) (hgd : o.guard = none := by exact rfl) (hd : dstIn N o.dst = true := by exact rfl) (ho : o.op = .pick z x (.const (.bool false)) := by exact rfl) (hc : AEv env z (.bool p) := by exact .tmp rfl) (hx : p = true → AEv env x (.bool q) := by exact fun _ => AEv.cd (.tmp rfl)) : AL P N ops (o :: rest) Q env st := AL_p hgd hd (S_and ho hc hx) h
theorem ex (n : Nat) {xs : List AV} (h : AL P N ops rest Q (putE o.dst c env) st) (hgd : o.guard = none := by exact rfl) (hd : dstIn N o.dst = true := by exact rfl) (ho : o.op = .extract x n := by exact rfl) (hx : AEv env x (.tup xs) := by exact .tmp rfl) (hy : xs[n]? = some c := by exact rfl) : AL P N ops (o :: rest) Q env st := AL_p hgd hd (S_extract n ho hx hy) h
theorem stN (n : Nat) (h : AL P N ops rest Q (putE o.dst .any env) (st.set n (b, .cells (putAt cs off ds)))) (hgd : o.guard = none := by exact rfl) (hd : dstIn N o.dst = true := by exact rfl) (ho : o.op = .store t x y := by exact rfl) (hx : AEv env x (.ptr b off) := by exact .tmp rfl) (hy : AEv env y (.agg ds) := by exact .tmp rfl) (hst : st[n]? = some (b, .cells cs) := by exact rfl) (hoff : off + ds.length ≤ cs.length := by first | exact Nat.le_of_ble_eq_true rfl | (simp; omega) | simp) (hone : ds.all AV.one = true := by first | rfl | simp [AV.one, Value.oneCell']) (hi : (P.info? t).map (·.size) = some ds.length := by kernel_rfl) : AL P N ops (o :: rest) Q env st := AL_step hgd hd (S_storeN n ho hx hy hst hoff hone hi) fun _ _ ⟨h1, h2⟩ => by subst h1; subst h2; exact h
theorem stW (n : Nat) (h : AL P N ops rest Q (putE o.dst .any env) (st.set n (b, .cells ds))) (hgd : o.guard = none := by exact rfl) (hd : dstIn N o.dst = true := by exact rfl) (ho : o.op = .store t x y := by exact rfl) (hx : AEv env x (.ptr b 0) := by exact .tmp rfl) (hy : AEv env y (.agg ds) := by exact .tmp rfl) (hst : st[n]? = some (b, .cells cs) := by exact rfl) (hl : ds.length = cs.length := by exact rfl) (hone : ds.all AV.one = true := by exact rfl) (hi : (P.info? t).map (·.size) = some ds.length := by kernel_rfl) : AL P N ops (o :: rest) Q env st := AL_step hgd hd (S_storeW n ho hx hy hst hl hone hi) fun _ _ ⟨h1, h2⟩ => by subst h1; subst h2; exact h
theorem st1 (n : Nat) (h : AL P N ops rest Q (putE o.dst .any env) (st.set n (b, .cells (cs.set off c)))) (hgd : o.guard = none := by exact rfl) (hd : dstIn N o.dst = true := by exact rfl) (ho : o.op = .store t x y := by exact rfl) (hx : AEv env x (.ptr b off) := by exact .tmp rfl) (hy : AEv env y c := by exact .tmp rfl) (hst : st[n]? = some (b, .cells cs) := by exact rfl) (hoff : off < cs.length := by first | exact Nat.le_of_ble_eq_true rfl | simp) (hone : c.one = true := by exact rfl) (hi : (P.info? t).map (·.size) = some 1 := by kernel_rfl) : AL P N ops (o :: rest) Q env st := AL_step hgd hd (S_store n ho hx hy hst hoff hone hi) fun _ _ ⟨h1, h2⟩ => by subst h1; subst h2; exact h
theorem fA (n : Nat) (ho : o.op = .fieldAddr s x i := by exact rfl) (hx : AEv env x (.ptr b off) := by exact .tmp rfl) (hf : fieldIs P s i n = true := by kernel_rfl) : PStep P N o env st (.ptr b (off + n)) := S_field n ho hx hf
theorem lA (n : Nat) (ho : o.op = .load t x := by exact rfl) (hx : AEv env x (.ptr b off) := by exact AEv.cd (.tmp rfl)) (hst : st[n]? = some (b, .cells cs) := by exact rfl) (hc : cs[off]? = some c := by exact rfl) (ht : flatT P t = true := by kernel_rfl) : PStep P N o env st c := S_load n ho hx hst hc ht
theorem lN (m n : Nat) (ho : o.op = .load t x := by exact rfl) (hx : AEv env x (.ptr b off) := by exact AEv.cd (.tmp rfl)) (hst : st[n]? = some (b, .cells cs) := by exact rfl) (ht : rowT P t m = true := by kernel_rfl) (hm : off + m ≤ cs.length := by first | exact Nat.le_of_ble_eq_true rfl | (simp; omega) | simp) : PStep P N o env st (.agg ((cs.drop off).take m)) := S_loadN n ho hx hst ht hm
theorem mA (ho : o.op = .move x := by exact rfl) (hx : AEv env x V := by exact .tmp rfl) : PStep P N o env st V := S_move ho hx
end
theorem co {f : FuncId} (N : Nat) {fn : Func} {c : Code} {args : List AV} {K : AV → St → Prop} (hf : P.funcs[f]? = some fn) (h : AC P N c (Fin P fn K) (envOf 0 args) st) (hname : (fn.name == "runtime.NumGoroutine") = false := by kernel_rfl) (hb : fn.body = some c := by exact rfl) (hN : fn.ntmps = N := by exact rfl) (hl : Nat.ble args.length N = true := by exact rfl) : ACalls P f args st K := ACalls_of hf hname hb hN hl h
end Go.AL

namespace Go.AL
open Go.RowKit Go.NumSpec Go.ChangeShapes Go.WideShapes

/-- Cells are so. -/
def RC (w : World) (cs : List AV) (vs : List Value) : Prop := cs.length = vs.length ∧ ∀ (i : Nat) c v, cs[i]? = some c → vs[i]? = some v → R [] w c v

/-- Whatever is read at type t is of α, and its cells are those. -/
structure Opens (P : Program) (t : TypeId) (α : Type) (toL : α → List AV) (ok : α → Prop) : Prop where
  run : ∀ {H : Type} (enc : TypeId × Value → H) (w : World) (fuel : Nat) (cs : List Value) x, DataW.trod enc P w 0 (fun _ => true) true fuel t cs = some x → ∃ y : α, ok y ∧ RC w (toL y) cs

section
variable {P : Program} {t : TypeId}
theorem RC.one {w : World} {c : AV} {v : Value} (h : R [] w c v) : RC w [c] [v] := ⟨rfl, fun i d u hd hu => by
  cases i with
  | zero => simp at hd hu; subst hd; subst hu; exact h
  | succ i => simp at hd⟩
theorem RC.append {w : World} {cs ds : List AV} {us vs : List Value} (h : RC w cs us) (k : RC w ds vs) : RC w (cs ++ ds) (us ++ vs) := ⟨by rw [List.length_append, List.length_append, h.1, k.1], fun i c v hc hv => by
  have hl := h.1
  rcases Nat.lt_or_ge i cs.length with hi | hi
  · rw [List.getElem?_append_left hi] at hc
    rw [List.getElem?_append_left (by omega)] at hv
    exact h.2 i c v hc hv
  · rw [List.getElem?_append_right hi] at hc
    rw [List.getElem?_append_right (by omega)] at hv
    rw [← hl] at hv
    exact k.2 _ c v hc hv⟩
theorem RC.agg {w : World} {cs : List AV} {vs : Array Value} (h : RC w cs vs.toList) : R [] w (.agg cs) (.agg vs) := .agg cs vs (by simpa using h.1) fun i c v hc hv => h.2 i c v hc (by simpa using hv)

theorem Opens.i64 (h : P.underlying t = some (.int .i64)) : Opens P t Int (fun n => [.int .i64 n]) fits := .mk fun enc w fuel cs x hx => by
  obtain ⟨n, rfl, _, hw⟩ := DataW.trod_int h hx
  exact ⟨n, fits_of_i64 hw, .one (.lit _)⟩
theorem Opens.u64 (h : P.underlying t = some (.int .u64)) : Opens P t Nat (fun n => [.int .u64 (n : Int)]) (fun n => n < 18446744073709551616) := .mk fun enc w fuel cs x hx => by
  obtain ⟨n, rfl, _, hw⟩ := DataW.trod_int h hx
  obtain ⟨m, rfl, hm⟩ := nat_of_u64 hw
  exact ⟨m, hm, .one (.lit _)⟩
theorem Opens.bool (h : P.underlying t = some .bool) : Opens P t Bool (fun b => [.bool b]) (fun _ => True) := .mk fun enc w fuel cs x hx => by
  obtain ⟨b, rfl, _⟩ := DataW.trod_bool h hx
  exact ⟨b, trivial, .one (.lit _)⟩
theorem Opens.str (h : P.underlying t = some .string) : Opens P t (List UInt8) (fun l => [.S l]) (fun l => l.length ≤ 9223372036854775807) := .mk fun enc w fuel cs x hx => by
  obtain ⟨s, rfl, _, hs⟩ := DataW.trod_string h hx
  refine ⟨s.data.toList, ?_, .one ?_⟩
  · have : maxLen = 9223372036854775807 := rfl
    rw [this] at hs
    show s.data.toList.length ≤ _
    rw [Array.length_toList]
    exact hs
  · have e : AV.S s.data.toList = .lit (.string s) := by cases s; simp
    rw [e]
    exact .lit _
theorem Opens.map {α β : Type} {toL : α → List AV} {ok : α → Prop} {toL' : β → List AV} {ok' : β → Prop} (h : Opens P t α toL ok) (f : α → β) (h1 : ∀ a, toL a = toL' (f a)) (h2 : ∀ a, ok a → ok' (f a)) : Opens P t β toL' ok' := .mk fun enc w fuel cs x hx => by
  obtain ⟨a, ha, hr⟩ := h.run enc w fuel cs x hx
  exact ⟨f a, h2 a ha, by rw [← h1]; exact hr⟩

theorem OpensF.last {f : Field} {off m : Nat} {α : Type} {toL : α → List AV} {ok : α → Prop} (ho : f.offset = off) (hm : P.cellsOf f.type = m) (h : Opens P f.type α toL ok) : ∀ {H : Type} (enc : TypeId × Value → H) (w : World) (fuel : Nat) (cs : List Value) (xs : List (DataW H × List MemPlace)), (∀ (i : Nat) g, [f][i]? = some g → DataW.trod enc P w 0 (fun _ => true) true fuel g.type ((cs.drop g.offset).take (P.cellsOf g.type)) = xs[i]?) → xs.length = 1 → cs.length = off + m → ∃ y : α, ok y ∧ RC w (toL y) (cs.drop off) := fun enc w fuel cs xs hx hl hc => by
  have h0 := hx 0 f rfl
  obtain ⟨x, hx0⟩ : ∃ x, xs[0]? = some x := ⟨xs[0]'(by omega), by simp [hl]⟩
  rw [hx0] at h0
  obtain ⟨y, hy, hr⟩ := h.run enc w fuel _ x h0
  rw [ho, hm, List.take_of_length_le (by simp; omega)] at hr
  exact ⟨y, hy, hr⟩

/-- The fields from one on, of so many cells in all. -/
structure OpensFs (P : Program) (fs : List Field) (off tot : Nat) (α : Type) (toL : α → List AV) (ok : α → Prop) : Prop where
  run : ∀ {H : Type} (enc : TypeId × Value → H) (w : World) (fuel : Nat) (cs : List Value) (xs : List (DataW H × List MemPlace)), (∀ (i : Nat) f, fs[i]? = some f → DataW.trod enc P w 0 (fun _ => true) true fuel f.type ((cs.drop f.offset).take (P.cellsOf f.type)) = xs[i]?) → xs.length = fs.length → cs.length = tot →
    ∃ y : α, ok y ∧ RC w (toL y) (cs.drop off)
theorem OpensFs.one {f : Field} {off tot m : Nat} {α : Type} {toL : α → List AV} {ok : α → Prop} (ho : f.offset = off) (hm : P.cellsOf f.type = m) (ht : tot = off + m) (h : Opens P f.type α toL ok) : OpensFs P [f] off tot α toL ok := .mk fun enc w fuel cs xs hx hl hc =>
  OpensF.last ho hm h enc w fuel cs xs hx hl (by omega)
theorem OpensFs.cons {f : Field} {fs : List Field} {off tot m : Nat} {α β : Type} {toL : α → List AV} {ok : α → Prop} {toL' : β → List AV} {ok' : β → Prop} (ho : f.offset = off) (hm : P.cellsOf f.type = m) (h : Opens P f.type α toL ok) (k : OpensFs P fs (off + m) tot β toL' ok') :
    OpensFs P (f :: fs) off tot (α × β) (fun p => toL p.1 ++ toL' p.2) (fun p => ok p.1 ∧ ok' p.2) := .mk fun enc w fuel cs xs hx hl hc => by
  cases xs with
  | nil => simp at hl
  | cons x xs =>
    have h0 := hx 0 f rfl
    simp only [List.getElem?_cons_zero] at h0
    obtain ⟨y, hy, hr⟩ := h.run enc w fuel _ x h0
    rw [ho, hm] at hr
    obtain ⟨z, hz, hr'⟩ := k.run enc w fuel cs xs (fun i g hg => by simpa using hx (i + 1) g (by simpa using hg)) (by simpa using hl) hc
    refine ⟨(y, z), ⟨hy, hz⟩, ?_⟩
    have := hr.append hr'
    rw [← List.drop_drop, List.take_append_drop] at this
    exact this
theorem Opens.struct {fs : List Field} {tot : Nat} {α : Type} {toL : α → List AV} {ok : α → Prop} (hu : P.underlying t = some (.struct fs.toArray)) (ht : P.cellsOf t = tot) (h : OpensFs P fs 0 tot α toL ok) : Opens P t α toL ok := .mk fun enc w fuel cs x hx => by
  obtain ⟨xs, n, rfl, _, hl, hlen, hf⟩ := DataW.trod_struct hu hx
  obtain ⟨y, hy, hr⟩ := h.run enc w n cs xs (fun i f hf' => hf i f (by simpa using hf')) (by simpa using hlen) (by rw [hl, ht])
  exact ⟨y, hy, by simpa using hr⟩

/-- A slice, nil or not. -/
theorem Opens.slice {e : TypeId} {m : Nat} {α : Type} {toL : α → List AV} {ok : α → Prop} (el : α → AV) (hu : P.underlying t = some (.slice e)) (hm : P.cellsOf e = m) (hpos : 0 < m) (h : Opens P e α toL ok) (hel : ∀ y, (el y).cells = toL y) :
    Opens P t (List α) (fun l => [.sl (l.map el)]) (fun l => ∀ y, y ∈ l → ok y) := .mk fun enc w fuel cs x hx => by
  rcases DataW.trod_slice hu hx with ⟨rfl, _⟩ | ⟨a, len, cap, elems, rest, n, rfl, rfl, _, _, hlc, _, hlen, hel', _, _⟩
  · exact ⟨[], fun y hy => by simp at hy, .one (.sl0 none 0)⟩
  · subst hlen
    have each : ∀ i, i < elems.length → ∃ (cs : List Value) (y : α), ok y ∧ cs.length = m ∧ (∀ j, j < m → w.cell? ((a.add (i * m)).add j) = cs[j]?) ∧ RC w (toL y) cs := fun i hi => by
      have h1 := hel' i hi
      rw [List.getElem?_eq_getElem hi, hm] at h1
      cases hc : w.cells? 0 (a.add (i * m)) m with
      | none => rw [hc] at h1; cases h1
      | some cs =>
        rw [hc] at h1
        obtain ⟨_, h2, h3⟩ := World.cells?_some hc
        obtain ⟨y, hy, hr⟩ := h.run enc w n cs _ h1
        exact ⟨cs, y, hy, h2, h3, hr⟩
    by_cases h0 : elems.length = 0
    · rw [h0]
      exact ⟨[], fun y hy => by simp at hy, .one (.sl0 _ _)⟩
    · obtain ⟨b, off, spot⟩ := a
      obtain ⟨cs0, y0, _, hl0, hc0, _⟩ := each 0 (by omega)
      have hspot : spot = none := by
        have h4 : w.cell? ((Addr.add ⟨b, off, spot⟩ (0 * m)).add 0) = some (cs0[0]'(by omega)) := by rw [hc0 0 hpos]; exact List.getElem?_eq_getElem _
        rw [show (Addr.add ⟨b, off, spot⟩ (0 * m)).add 0 = ⟨b, off, spot⟩ by rw [Nat.zero_mul]; rfl] at h4
        exact World.cell?_spot h4
      subst hspot
      have hch : ∃ (F : Nat → List Value) (Y : Nat → α), ∀ i, i < elems.length → ok (Y i) ∧ (F i).length = m ∧ (∀ j, j < m → w.cell? ⟨b, off + i * m + j, none⟩ = (F i)[j]?) ∧ RC w (toL (Y i)) (F i) := by
        refine ⟨fun i => if hi : i < elems.length then (each i hi).choose else [], fun i => if hi : i < elems.length then (each i hi).choose_spec.choose else y0, fun i hi => ?_⟩
        simp only [hi, dite_true]
        obtain ⟨k1, k2, k3, k4⟩ := (each i hi).choose_spec.choose_spec
        refine ⟨k1, k2, fun j hj => ?_, k4⟩
        rw [← k3 j hj]
        rw [Addr.add_mid, Addr.add_mid]
      obtain ⟨F, Y, hFY⟩ := hch
      have hget : ∀ (i : Nat) x, ((List.range elems.length).map fun i => el (Y i))[i]? = some x → i < elems.length ∧ x = el (Y i) := fun i x hx => by
        have hi : i < elems.length := by have := (List.getElem?_eq_some_iff.1 hx).1; simpa using this
        rw [List.getElem?_map, List.getElem?_range hi] at hx
        exact ⟨hi, (Option.some.inj hx).symm⟩
      refine ⟨(List.range elems.length).map Y, fun y hy => ?_, .one ?_⟩
      · obtain ⟨i, hi, rfl⟩ := List.mem_map.1 hy
        exact (hFY i (List.mem_range.1 hi)).1
      · rw [List.map_map]
        have hlen2 : ((List.range elems.length).map fun i => el (Y i)).length = elems.length := by simp
        have hr := R.sl (st := []) (w := w) ((List.range elems.length).map fun i => el (Y i)) b off cap m (fun k => ((F (k / m))[k % m]?).getD undef) (by rw [hlen2]; exact hlc) (fun i x hx => by
          obtain ⟨hi, rfl⟩ := hget i x hx
          obtain ⟨_, k2, _, k4⟩ := hFY i hi
          rw [hel, k4.1, k2]) (fun i x j c hx hc => by
          obtain ⟨hi, rfl⟩ := hget i x hx
          obtain ⟨_, k2, k3, k4⟩ := hFY i hi
          rw [hel] at hc
          have hj : j < m := by have := (List.getElem?_eq_some_iff.1 hc).1; rw [k4.1, k2] at this; exact this
          have e1 : (i * m + j) / m = i := by rw [Nat.mul_comm, Nat.mul_add_div hpos, Nat.div_eq_of_lt hj]; rfl
          have e2 : (i * m + j) % m = j := by rw [Nat.mul_comm, Nat.mul_add_mod, Nat.mod_eq_of_lt hj]
          refine ⟨?_, fun ⟨o, ho, _⟩ => by simp at ho⟩
          rw [e1, e2, k3 j hj]
          simp [k2, hj]) (fun i x j c hx hc => by
          obtain ⟨hi, rfl⟩ := hget i x hx
          obtain ⟨_, k2, k3, k4⟩ := hFY i hi
          rw [hel] at hc
          have hj : j < m := by have := (List.getElem?_eq_some_iff.1 hc).1; rw [k4.1, k2] at this; exact this
          have e1 : (i * m + j) / m = i := by rw [Nat.mul_comm, Nat.mul_add_div hpos, Nat.div_eq_of_lt hj]; rfl
          have e2 : (i * m + j) % m = j := by rw [Nat.mul_comm, Nat.mul_add_mod, Nat.mod_eq_of_lt hj]
          rw [e1, e2]
          exact k4.2 j c _ hc (by simp [k2, hj]))
        rw [hlen2] at hr
        exact hr

theorem Opens.argN {H : Type} {enc : TypeId × Value → H} {w : World} {α : Type} {toL : α → List AV} {ok : α → Prop} (h : Opens P t α toL ok) {vs : Array Value} {d : DataW H} {ps : List MemPlace} (ht : DataW.Trod enc P w 0 (fun _ => true) true t (.agg vs) d ps) : ∃ y, ok y ∧ R [] w (.agg (toL y)) (.agg vs) := by
  obtain ⟨fuel, hx⟩ := ht
  obtain ⟨y, hy, hr⟩ := h.run enc w fuel _ _ hx
  exact ⟨y, hy, hr.agg⟩

/-- From a contract to a row's walk. -/
theorem PCalls.rowB {P : Program} {f : FuncId} {args : List AV} {v : Value} (h : PCalls P f args (.lit v)) {w : World} {vs : Array Value} (hs : vs.size = args.length) (hr : ∀ (i : Nat) x u, args[i]? = some x → vs[i]? = some u → R [] w x u) :
    Calls P f vs w fun e w' => e = .returned v ∧ RowKit.Below w.heap.size w w' :=
  ((h []).calls w vs ⟨by simp, fun _ _ hb => by simp at hb, fun _ _ _ _ _ hb => by simp at hb, fun _ _ hb => by simp at hb⟩ hs hr).mono fun e w' ⟨r, x, st', he, ⟨hx, hst⟩, hr', _, hext⟩ => by
    subst hx; subst hst
    exact ⟨by rw [he, hr'.lit_inv], ⟨hext.os, hext.tape, hext.output, hext.size, fun k hk => hext.keep k hk fun o ho => by simp at ho⟩⟩

theorem flat_arg {t : TypeId} {W : World} {r : Reach} {base : Nat} {v : Value} (ht : flatT P t = true) (hval : Value.okWide P W r base t v) : v.cells = #[v] := by
  obtain ⟨d, hu, hd⟩ := flatT_spec ht
  cases v <;> first
    | rfl
    | (exfalso; cases d <;> first
        | (simp [TypeDesc.isRow] at hd; done)
        | (simp [Value.okWide, hu, Cell.okWide, Cell.ok] at hval; done))
theorem Opens.argF {H : Type} {enc : TypeId × Value → H} {w : World} {r : Reach} {base : Nat} {α : Type} {toL : α → List AV} {ok : α → Prop} (h : Opens P t α toL ok) (el : α → AV) (hel : ∀ y, toL y = [el y]) {v : Value} {d : DataW H} {ps : List MemPlace} (hf : flatT P t = true) (hval : Value.okWide P w r base t v) (ht : DataW.Trod enc P w 0 (fun _ => true) true t v d ps) : ∃ y, ok y ∧ R [] w (el y) v := by
  obtain ⟨fuel, hx⟩ := ht
  obtain ⟨y, hy, hr⟩ := h.run enc w fuel _ _ hx
  rw [hel, flat_arg hf hval] at hr
  exact ⟨y, hy, hr.2 0 _ _ rfl rfl⟩
theorem Opens.argS {H : Type} {enc : TypeId × Value → H} {w : World} {r : Reach} {base : Nat} {α : Type} {toL : α → List AV} {ok : α → Prop} (h : Opens P t α toL ok) {fs : Array Field} (hu : P.underlying t = some (.struct fs)) {v : Value} {d : DataW H} {ps : List MemPlace} (hval : Value.okWide P w r base t v) (ht : DataW.Trod enc P w 0 (fun _ => true) true t v d ps) : ∃ y, ok y ∧ R [] w (.agg (toL y)) v := by
  simp only [Value.okWide, hu] at hval
  obtain ⟨cs, rfl, _⟩ := hval
  exact h.argN ht

theorem PCalls.rowC {P : Program} {f : FuncId} {args : List AV} {v : Value} (h : PCalls P f args (.lit v)) {w : World} {vs : Array Value} (hr : RC w args vs.toList) :
    Calls P f vs w fun e w' => e = .returned v ∧ RowKit.Below w.heap.size w w' :=
  h.rowB (by simpa using hr.1.symm) fun i x u hx hu => hr.2 i x u hx (by simpa using hu)

/-- An argument reads behind the call as it did. -/
theorem arg_stays {H : Type} {enc : TypeId × Value → H} {t : TypeId} (hl : laidOutB P = true) (hr : P.readableRec t = true) (hrow : t < P.types.size) {W W' : World} {v : Value} {d : DataW H} {ps : List MemPlace}
    (h : DataW.Trod enc P W 0 (fun _ => true) true t v d ps) (hb : Below W.heap.size W W') (hlt : ∀ x ∈ ps, x.block < W.heap.size) (sp : Nat → Bool) (hs : ∀ x ∈ ps, sp x.block = true) : DataW.Trod enc P W' 0 sp true t v d ps :=
  WideElems.Trod_stays hl hr hrow h (fun x hx => hb.same (hlt x hx)) hs

/-- What a row asks, where below the old size nothing has turned and what came in reads as before. -/
theorem post_below {H : Type} {enc : TypeId × Value → H} {f : Func} {s : ChangeSpec} {apart fresh handsOn again : Bool} {W W' : World} {args : Array Value} {v : Value} {ds gs : List (DataW H)} {before : List MemPlace} (hb : Below W.heap.size W W')
    (hW : DataW.Whole enc P f.params.toList s.vars apart W args.toList ds gs before) (hs : s.vars = []) (hgs : gs = []) (hargs' : (s.fn H (ds ++ gs)).args = ds) (hvars' : (s.fn H (ds ++ gs)).vars = [])
    (hres : ∀ (b : Nat) (sp : Nat → Bool) (hd : Bool), DataW.TrodAll enc P W' b sp hd f.resultTypes.toList (v.resultList f.resultTypes.size) (s.fn H (ds ++ gs)).results [])
    (hargs : ∀ sp : Nat → Bool, (∀ p ∈ before, sp p.block = true) → DataW.TrodAll enc P W' 0 sp true f.params.toList args.toList ds before)
    (hok : ∀ (j : Nat) (t : TypeId) (r : Value), f.resultTypes[j]? = some t → (v.resultList f.resultTypes.size)[j]? = some r → Value.okWide P W' .any 0 t r) :
    s.post enc P f apart fresh handsOn again W args v W' := by
  have hlt : ∀ p ∈ before, p.block < W.heap.size := fun p hp => by simpa using hW.lt p hp
  have hsp : ∀ p ∈ before, (fun b => decide (b < W.heap.size)) p.block = true := fun p hp => by simpa using hlt p hp
  have hv : ∀ sp : Nat → Bool, DataW.TrodVars enc P W' sp s.vars (s.fn H (ds ++ gs)).vars [] := fun sp => by rw [hs, hvars']; rfl
  have ha : ∀ sp : Nat → Bool, (∀ p ∈ before, sp p.block = true) → DataW.TrodAll enc P W' 0 sp true f.params.toList args.toList (s.fn H (ds ++ gs)).args before := fun sp h => by rw [hargs']; exact hargs sp h
  have hkb : W.keptBut W' fun _ => False := ⟨hb.os, hb.output, fun i hi => by
    rw [hb.block i hi]
    cases W.heap[i]? with
    | none => rfl
    | some o => cases o <;> first | rfl | exact ⟨rfl, rfl, rfl, fun _ _ => rfl⟩ | exact .inr ⟨rfl, rfl⟩⟩
  refine ⟨ds, gs, before, [], before, [], hW, hres _ _ _, ha _ hsp, hv _, World.keptBut_mono (fun p hp => hp.elim) hkb, fun _ => ?_⟩
  obtain ⟨_, _, _, _, _, hz, hn⟩ := hW
  refine ⟨hok, _, _, ([] ++ before) ++ [], ⟨[] ++ before, [], trodAll_append (ha _ fun _ _ => rfl) (hres _ _ _), hv _, rfl, fun b off hp => ?_, fun h => by simpa using hn h⟩, fun p hp _ => by simpa using hp⟩
  have hp' : MemPlace.cell b off ∈ before := by simpa using hp
  rw [hb.frozen (p := ⟨b, off, none⟩) (hlt _ hp')]
  exact hz b off hp'

/-! ### Programs whose tables are laid -/
/-- Tables: blocks that nobody writes. -/
def Gs (gs : List (Nat × List Value)) : St := gs.map fun p => (p.1, .konst p.2)
def GCalls (P : Program) (gs : List (Nat × List Value)) (f : FuncId) (args : List AV) (V : AV) : Prop := ∀ st, (∀ p, p ∈ Gs gs → p ∈ st) → ACalls P f args st fun x st' => x = V ∧ st' = st
theorem Gs_mut {gs : List (Nat × List Value)} {b off : Nat} : ¬ Mut (Gs gs) b off := fun ⟨o, h1, h2⟩ => by
  obtain ⟨p, _, hp⟩ := List.mem_map.1 h1
  cases hp
  exact h2
theorem Gs_ext {gs : List (Nat × List Value)} {w : World} : Ext [] w (Gs gs) w :=
  ⟨rfl, rfl, rfl, fun _ _ => rfl, Nat.le_refl _, fun _ _ _ => rfl, fun _ _ _ _ _ _ _ _ _ => rfl, fun b off _ h => absurd h Gs_mut, fun _ _ _ _ => rfl⟩
theorem GCalls.rowB {P : Program} {f : FuncId} {args : List AV} {v : Value} {gs : List (Nat × List Value)} (h : GCalls P gs f args (.lit v)) {w : World} {vs : Array Value} (hn : (gs.map (·.1)).Nodup) (hg : ∀ p, p ∈ gs → p.1 < w.heap.size ∧ ∀ (j : Nat) u, p.2[j]? = some u → w.cell? ⟨p.1, j, none⟩ = some u)
    (hs : vs.size = args.length) (hr : ∀ (i : Nat) x u, args[i]? = some x → vs[i]? = some u → R [] w x u) :
    Calls P f vs w fun e w' => e = .returned v ∧ RowKit.Below w.heap.size w w' := by
  have hrel : Rel (Gs gs) w := by
    refine ⟨?_, fun b cs hb => ?_, fun b e size n cap hb => ?_, fun b us hb => ?_⟩
    · have : (Gs gs).map (·.1) = gs.map (·.1) := by simp [Gs]
      rw [this]; exact hn
    · obtain ⟨p, _, hp⟩ := List.mem_map.1 hb; cases hp
    · obtain ⟨p, _, hp⟩ := List.mem_map.1 hb; cases hp
    · obtain ⟨p, h1, hp⟩ := List.mem_map.1 hb
      cases hp
      exact hg p h1
  refine ((h (Gs gs) fun p hp => hp).calls w vs hrel hs fun i x u h1 h2 => (hr i x u h1 h2).mono Gs_ext (by simp)).mono fun e w' ⟨r, x, st', he, ⟨hx, hst⟩, hr', _, hext⟩ => ?_
  subst hx; subst hst
  refine ⟨by rw [he, hr'.lit_inv], ⟨hext.os, hext.tape, hext.output, hext.size, fun k hk => ?_⟩⟩
  by_cases hk1 : ∀ o, (k, o) ∉ Gs gs
  · exact hext.keep k hk hk1
  · obtain ⟨o, ho⟩ : ∃ o, (k, o) ∈ Gs gs := Classical.byContradiction fun hh => hk1 fun o ho => hh ⟨o, ho⟩
    have ho' := ho
    obtain ⟨p, h1, hp⟩ := List.mem_map.1 ho
    cases hp
    exact hext.konst _ _ hk ho'
theorem GCalls.rowC {P : Program} {f : FuncId} {args : List AV} {v : Value} {gs : List (Nat × List Value)} (h : GCalls P gs f args (.lit v)) {w : World} {vs : Array Value} (hn : (gs.map (·.1)).Nodup) (hg : ∀ p, p ∈ gs → p.1 < w.heap.size ∧ ∀ (j : Nat) u, p.2[j]? = some u → w.cell? ⟨p.1, j, none⟩ = some u) (hr : RC w args vs.toList) :
    Calls P f vs w fun e w' => e = .returned v ∧ RowKit.Below w.heap.size w w' :=
  h.rowB hn hg (by simpa using hr.1.symm) fun i x u hx hu => hr.2 i x u hx (by simpa using hu)
end
end Go.AL

namespace Go.AL
open Go.RowKit Go.NumSpec Go.ChangeShapes Go.WideShapes
section
variable {P : Program} {t : TypeId}
end
end Go.AL

namespace Go.AL
open Go.RowKit Go.NumSpec
end Go.AL

namespace Go.AL
open Go.RowKit Go.NumSpec
def vst (q : Vec) (xs : List AV) : St := match q with | .at b cap => [(b, .cells (vec1C cap xs))] | _ => []
section
variable {P : Program} {N : Nat} {Q : Post} {env : Env} {st : St} {o : Oper} {w : World}
/-- Memory may be left behind, or stand in another order. -/
theorem Step.sub {K K' : AV → St → Prop} (h : Step P N o env st K) (hk : ∀ x st', K x st' → ∃ st'', Sub st'' st' ∧ K' x st'') : Step P N o env st K' := fun a w hg next Q hn =>
  h a w hg next Q fun x st' v w' k hr hrel hx => by
    obtain ⟨st'', hs, hk'⟩ := hk x st' k
    exact hn x st'' v w' hk' (hr.mono (Ext.dropS hs) hrel.nodup) (hrel.dropS hs) (hx.trans (Ext.dropS hs) hg.rel.nodup)
/-- .. read only, from here on. -/
theorem Conv.v1 {st' : St} (h : Sub st' st) {q : Vec} {xs : List AV} (hq : q.ok xs) (hs : ∀ x, x ∈ xs → x.cells = [x]) (hm : ∀ p, p ∈ vst q xs → p ∈ st) (hn : ∀ b cap, q = .at b cap → ∀ o, (b, o) ∉ st') : Conv st st' (.lit (vecV q xs.length)) (.sl xs) := by
  cases q with
  | emp A => have h0 : xs = [] := hq; subst h0; intro w v hr h1; cases h1; exact .sl0 _ _
  | nil => have h0 : xs = [] := hq; subst h0; intro w v hr h1; cases h1; exact .sl0 _ _
  | «at» b cap => exact Conv.vec1 h hq hs (hm _ List.mem_cons_self) (hn b cap rfl)
end
end Go.AL

namespace Go.AL
open Go.RowKit Go.NumSpec
end Go.AL

namespace Go.AL
open Go.NumSpec

abbrev Tri := Int × Int × Int
abbrev resL (r : Tri) : List AV := [.int .i64 r.1, .int .i64 r.2.1, .int .i64 r.2.2]
abbrev resAV (r : Tri) : AV := .agg (resL r)
def fits3 (r : Tri) : Prop := fits r.1 ∧ fits r.2.1 ∧ fits r.2.2
instance (r : Tri) : Decidable (fits3 r) := by unfold fits3; infer_instance
def at3 (r : Tri) (k : Nat) : Int := if k = 0 then r.1 else if k = 1 then r.2.1 else r.2.2
theorem res_at {r : Tri} {k : Nat} (h : k < 3) : (resL r)[0 + (k : Int).toNat * 1]? = some (.int .i64 (at3 r k)) := by
  rcases (by omega : k = 0 ∨ k = 1 ∨ k = 2) with rfl | rfl | rfl <;> rfl
/-! Sums in any order -/
def tot : List Tri → Tri
  | [] => (0, 0, 0)
  | r :: l => (r.1 + (tot l).1, r.2.1 + (tot l).2.1, r.2.2 + (tot l).2.2)
end Go.AL

namespace Go.AL
open Go.RowKit Go.NumSpec
def withinE (name : List UInt8) (n lo hi : Int) : Er := if n < lo ∨ hi < n then some (1, [name]) else none
def atMostE (name : List UInt8) (n lo hi : Int) : Er := if n < lo ∨ hi < n then some (2, [name]) else none
def mostE (name : List UInt8) (n lo : Int) : Er := if n = 0 then none else withinE name n lo 1099511627776
def reqE (r : Int × Int × Int) : Er := erIn (firstE [withinE [99, 112, 117] r.1 0 1099511627776, withinE [109, 101, 109] r.2.1 0 1099511627776, withinE [112, 105, 100, 115] r.2.2 0 1099511627776]) [114, 101, 113]
def limE (l r : Int × Int × Int) : Er := erIn (firstE [mostE [99, 112, 117] l.1 r.1, mostE [109, 101, 109] l.2.1 r.2.1, mostE [112, 105, 100, 115] l.2.2 r.2.2]) [108, 105, 109]
def probeE (p : Int × Int) (every : Int) : Er := erIn (firstE [withinE [101, 118, 101, 114, 121] p.1 0 every, withinE [102, 97, 105, 108, 115] p.2 (if p.1 = 0 then 0 else 1) (if p.1 = 0 then 0 else 10)]) [112, 114, 111, 98, 101]
def atT (name : List UInt8) (i : Int) : List UInt8 := ((name ++ [91]) ++ textL i) ++ [93]
def probeAV (p : Int × Int) : AV := .agg [.int .i64 p.1, .int .i64 p.2]
abbrev Lab := List UInt8 × List UInt8
def labAV (p : Lab) : AV := .agg [.S p.1, .S p.2]
def labsV (l : List Lab) : List AV := l.map labAV
def keyE (l : List Lab) (i : Nat) : Er := if (erNew (saysV (namesR 2 (l.getD i ([], [])).1) 31) [[107, 101, 121]]).isNone = true ∧ 0 < i ∧ (Op.bytesLess (l.getD i ([], [])).1 (l.getD (i - 1) ([], [])).1 || decide ((l.getD i ([], [])).1 = (l.getD (i - 1) ([], [])).1)) = true then some (4, [[107, 101, 121]]) else erNew (saysV (namesR 2 (l.getD i ([], [])).1) 31) [[107, 101, 121]]
def labelE (name : List UInt8) (l : List Lab) (i : Nat) : Er := erIn (firstE [keyE l i, erNew (saysV (valV (l.getD i ([], [])).2) 32) [[118, 97, 108]]]) (atT name (i : Int))
/-- Where a value stands in a list. -/
def idxG {α : Type} [DecidableEq α] : List α → α → Int
  | [], _ => -1
  | x :: l, s => if x = s then 0 else if idxG l s < 0 then -1 else idxG l s + 1
theorem idxG_hit {α : Type} [DecidableEq α] {s : α} : ∀ {l : List α} {i : Nat} (h : i < l.length), l[i] = s → (∀ j (hj : j < i), l[j]'(by omega) ≠ s) → idxG l s = (i : Int)
  | x :: l, 0, h, e, _ => by simp only [List.getElem_cons_zero] at e; rw [idxG, if_pos e]; rfl
  | x :: l, i + 1, h, e, hn => by
    have h0 := hn 0 (by omega)
    simp only [List.getElem_cons_zero] at h0
    have ih := idxG_hit (l := l) (i := i) (by simpa using h) (by simpa using e) fun j hj => by simpa using hn (j + 1) (by omega)
    rw [idxG, if_neg h0, ih, if_neg (by omega)]
    omega
theorem idxG_none {α : Type} [DecidableEq α] {s : α} : ∀ {l : List α}, (∀ j (hj : j < l.length), l[j] ≠ s) → idxG l s = -1
  | [], _ => rfl
  | x :: l, hn => by
    have h0 := hn 0 (by simp)
    simp only [List.getElem_cons_zero] at h0
    have ih := idxG_none (l := l) fun j hj => by have := hn (j + 1) (by simpa using hj); rw [List.getElem_cons_succ] at this; exact this
    rw [idxG, if_neg h0, ih, if_pos (by omega)]
theorem idxG_mem {α : Type} [DecidableEq α] (s : α) : ∀ (l : List α), (0 ≤ idxG l s) ↔ s ∈ l
  | [] => by simp [idxG]
  | x :: l => by
    have ih := idxG_mem s l
    rw [idxG]
    by_cases h : x = s
    · simp [h]
    · rw [if_neg h]
      have h' : ¬ s = x := fun e => h e.symm
      by_cases hl : idxG l s < 0
      · rw [if_pos hl]
        have : ¬ s ∈ l := fun hm => by have := ih.2 hm; omega
        simp [h', this]
      · rw [if_neg hl]
        have : s ∈ l := ih.1 (by omega)
        simp [this]
        omega
end Go.AL

namespace Go.AL
open Go.RowKit Go.NumSpec
theorem firstE_at : ∀ {es : List Er} {i : Nat} (h : i < es.length) {x : Int × List (List UInt8)}, es[i] = some x → (∀ j (hj : j < i), es[j]'(by omega) = none) → firstE es = some x
  | e :: es, 0, h, x, hx, _ => by simp only [List.getElem_cons_zero] at hx; rw [hx]; rfl
  | e :: es, i + 1, h, x, hx, hn => by
    have h0 := hn 0 (by omega)
    simp only [List.getElem_cons_zero] at h0
    subst h0
    exact firstE_at (es := es) (i := i) (by simpa using h) (by simpa using hx) fun j hj => by have := hn (j + 1) (by omega); rw [List.getElem_cons_succ] at this; exact this
theorem firstE_all : ∀ {es : List Er}, (∀ j (hj : j < es.length), es[j] = none) → firstE es = none
  | [], _ => rfl
  | e :: es, hn => by
    have h0 := hn 0 (by simp)
    simp only [List.getElem_cons_zero] at h0
    subst h0
    exact firstE_all (es := es) fun j hj => by have := hn (j + 1) (by simpa using hj); rw [List.getElem_cons_succ] at this; exact this
def eachE (n : Nat) (f : Nat → Er) : Er := firstE ((List.range n).map f)
theorem eachE_at {n i : Nat} {f : Nat → Er} {x : Int × List (List UInt8)} (h : i < n) (hx : f i = some x) (hn : ∀ j, j < i → f j = none) : eachE n f = some x :=
  firstE_at (i := i) (by simpa using h) (by simpa using hx) fun j hj => by simpa using hn j hj
theorem eachE_all {n : Nat} {f : Nat → Er} (hn : ∀ j, j < n → f j = none) : eachE n f = none := firstE_all fun j hj => by simpa using hn j (by simpa using hj)
theorem eachE_none {n : Nat} {f : Nat → Er} (h : eachE n f = none) : ∀ j, j < n → f j = none := by
  intro j
  induction j using Nat.strongRecOn with
  | ind j ih =>
    intro hj
    cases hf : f j with
    | none => rfl
    | some x => rw [eachE_at hj hf fun k hk => ih k hk (by omega)] at h; cases h
def labelsE (name : List UInt8) (l : List Lab) : Er := match atMostE name (l.length : Int) 0 4 with | some x => some x | none => eachE l.length (labelE name l)
theorem labelsE_bad {name : List UInt8} {l : List Lab} (h : atMostE name (l.length : Int) 0 4 ≠ none) : labelsE name l = atMostE name (l.length : Int) 0 4 := by
  unfold labelsE
  cases hh : atMostE name (l.length : Int) 0 4 with
  | none => exact absurd hh h
  | some x => rfl
theorem labelsE_good {name : List UInt8} {l : List Lab} (h : atMostE name (l.length : Int) 0 4 = none) : labelsE name l = eachE l.length (labelE name l) := by
  unfold labelsE
  rw [h]
end Go.AL
namespace Go.AL
open Go.RowKit Go.NumSpec
structure Ctr where
  name : List UInt8
  image : List UInt8
  req : Int × Int × Int
  lim : Int × Int × Int
  ports : List Int
  probe : Int × Int
def ctrL (c : Ctr) : List AV := [.S c.name, .S c.image, .int .i64 c.req.1, .int .i64 c.req.2.1, .int .i64 c.req.2.2, .int .i64 c.lim.1, .int .i64 c.lim.2.1, .int .i64 c.lim.2.2, .sl (intsV c.ports), .int .i64 c.probe.1, .int .i64 c.probe.2]
def ctrAV (c : Ctr) : AV := .agg (ctrL c)
def nameE (ns : List (List UInt8)) (s : List UInt8) : Er := if (erNew (saysV (nameV s) 30) [[110, 97, 109, 101]]).isNone = true ∧ s ∈ ns then some (7, [[110, 97, 109, 101]]) else erNew (saysV (nameV s) 30) [[110, 97, 109, 101]]
end Go.AL
namespace Go.AL
open Go.RowKit Go.NumSpec
abbrev portsN : List UInt8 := [112, 111, 114, 116, 115]
def portAt (ps l : List Int) (i : Nat) : Er := if (withinE (atT portsN (i : Int)) (l.getD i 0) 1 65535).isNone = true ∧ l.getD i 0 ∈ ps ++ l.take i then some (150, [atT portsN (i : Int)]) else withinE (atT portsN (i : Int)) (l.getD i 0) 1 65535
def portE (ps l : List Int) (n : Int) : Er := match atMostE portsN (l.length : Int) 0 n with | some x => some x | none => eachE l.length (portAt ps l)
theorem portE_bad {ps l : List Int} {n : Int} (h : atMostE portsN (l.length : Int) 0 n ≠ none) : portE ps l n = atMostE portsN (l.length : Int) 0 n := by
  unfold portE
  cases hh : atMostE portsN (l.length : Int) 0 n with
  | none => exact absurd hh h
  | some x => rfl
theorem portE_good {ps l : List Int} {n : Int} (h : atMostE portsN (l.length : Int) 0 n = none) : portE ps l n = eachE l.length (portAt ps l) := by
  unfold portE
  rw [h]
end Go.AL
namespace Go.AL
section
variable {P : Program}
/-- A contract over the front of a state, with a premise on what is behind, serves behind memory of the caller's own. -/
theorem ACalls.preP {G : St → Prop} (hG : ∀ pre F, G F → G (pre ++ F)) {f : FuncId} {args : List AV} {foot : St} {K : AV → St → Prop} (h : ∀ F, G F → ACalls P f args (foot ++ F) fun x st' => ∃ foot', K x foot' ∧ st' = foot' ++ F) (pre F : St) (hF : G F) : ACalls P f args (pre ++ (foot ++ F)) fun x st' => ∃ foot', K x foot' ∧ st' = pre ++ (foot' ++ F) := by
  have perm : ∀ (a : St), (pre ++ (a ++ F)).Perm (a ++ (pre ++ F)) := fun a => by
    rw [← List.append_assoc, ← List.append_assoc]
    exact List.Perm.append_right F List.perm_append_comm
  have hc := h (pre ++ F) (hG pre F hF)
  refine ⟨hc.enters, fun w vs hrel hs hr => ?_⟩
  have hx : Ext (pre ++ (foot ++ F)) w (foot ++ (pre ++ F)) w := Ext.sub fun p hp => (perm foot).mem_iff.2 hp
  have hrel2 : Rel (foot ++ (pre ++ F)) w := hrel.sub (fun p hp => (perm foot).mem_iff.2 hp) (((perm foot).map (·.1)).nodup_iff.1 hrel.nodup)
  refine (hc.calls w vs hrel2 hs fun i x v h1 h2 => (hr i x v h1 h2).mono hx hrel.nodup).mono ?_
  rintro e w' ⟨r, x, st', he, ⟨foot', hk, rfl⟩, hr', hrel', hext⟩
  have hy : Ext (foot' ++ (pre ++ F)) w' (pre ++ (foot' ++ F)) w' := Ext.sub fun p hp => (perm foot').mem_iff.1 hp
  exact ⟨r, x, _, he, ⟨foot', hk, rfl⟩, hr'.mono hy hrel'.nodup, hrel'.sub (fun p hp => (perm foot').mem_iff.1 hp) (((perm foot').map (·.1)).nodup_iff.2 hrel'.nodup), (hx.trans hext hrel.nodup).trans hy hrel.nodup⟩
end
end Go.AL

namespace Go.AL
open Go.RowKit Go.NumSpec
def ctrsV (l : List Ctr) : List AV := l.map ctrAV
def lightC (c : Ctr) : Bool := decide (c.name.length ≤ 100 ∧ c.image.length ≤ 100 ∧ c.ports.length ≤ 10)
theorem intsV_len (l : List Int) : (intsV l).length = l.length := by simp [intsV]
structure Spc where
  name : List UInt8
  labels : List Lab
  init : List Ctr
  main : List Ctr
  restart : Int
  grace : Int
  prio : Int
def spcL (s : Spc) : List AV := [.S s.name, .sl (labsV s.labels), .sl (ctrsV s.init), .sl (ctrsV s.main), .int .i64 s.restart, .int .i64 s.grace, .int .i64 s.prio]
def spcAV (s : Spc) : AV := .agg (spcL s)
def lightL (p : Lab) : Bool := decide (p.1.length ≤ 100 ∧ p.2.length ≤ 100)
def lightS (s : Spc) : Bool := decide (s.name.length ≤ 100 ∧ s.labels.length ≤ 10 ∧ s.init.length ≤ 8 ∧ s.main.length ≤ 8) && s.labels.all lightL && (s.init.all lightC && s.main.all lightC)
end Go.AL
namespace Go.AL
open Go.RowKit Go.NumSpec
def seenSt (ST IT : Nat) (b : Nat) (p q : Own) (ns : List (List UInt8)) (ps : List Int) : St := (b, .cells [ownAV p 1 (strsV ns), ownAV q 1 (intsV ps)]) :: (ownSt p ST 1 (strsV ns) ++ ownSt q IT 1 (intsV ps))
def ctrE (ns : List (List UInt8)) (ps : List Int) (c : Ctr) (ports every : Int) : Er := firstE [nameE ns c.name, erNew (saysV (tparts c.image).2.2 33) [[105, 109, 97, 103, 101]], reqE c.req, limE c.lim c.req, portE ps c.ports ports, probeE c.probe every]
end Go.AL

namespace Go.AL
open Go.RowKit Go.NumSpec
theorem firstE_none : ∀ {es : List Er}, firstE es = none → ∀ e ∈ es, e = none
  | [], _, e, he => by cases he
  | a :: es, h, e, he => by
    cases a with
    | some x => cases h
    | none =>
      rcases List.mem_cons.1 he with rfl | he
      · rfl
      · exact firstE_none (es := es) h e he
theorem ctrE_port {ns : List (List UInt8)} {ps : List Int} {c : Ctr} {ports every : Int} (h : ctrE ns ps c ports every = none) : portE ps c.ports ports = none := firstE_none h _ (by simp)
def namesTo (ns : List (List UInt8)) (l : List Ctr) (i : Nat) : List (List UInt8) := ns ++ (l.take i).map Ctr.name
def portsTo (ps : List Int) (l : List Ctr) (i : Nat) : List Int := ps ++ (l.take i).flatMap Ctr.ports
def ctrAt (ns : List (List UInt8)) (ps : List Int) (l : List Ctr) (ports every : Int) (i : Nat) : Er := match l[i]? with | some c => ctrE (namesTo ns l i) (portsTo ps l i) c ports every | none => none
def ctrsE (name : List UInt8) (ns : List (List UInt8)) (ps : List Int) (l : List Ctr) (ports every : Int) : Er := eachE l.length fun i => erIn (ctrAt ns ps l ports every i) (atT name (i : Int))
theorem ctrAt_at {ns : List (List UInt8)} {ps : List Int} {l : List Ctr} {ports every : Int} {i : Nat} (h : i < l.length) : ctrAt ns ps l ports every i = ctrE (namesTo ns l i) (portsTo ps l i) l[i] ports every := by
  unfold ctrAt; rw [List.getElem?_eq_getElem h]
theorem namesTo_next {ns : List (List UInt8)} {l : List Ctr} {i : Nat} (h : i < l.length) : namesTo ns l (i + 1) = namesTo ns l i ++ [l[i].name] := by
  unfold namesTo; rw [List.take_succ_eq_append_getElem h, List.map_append, ← List.append_assoc]; rfl
theorem portsTo_next {ps : List Int} {l : List Ctr} {i : Nat} (h : i < l.length) : portsTo ps l (i + 1) = portsTo ps l i ++ l[i].ports := by
  unfold portsTo; rw [List.take_succ_eq_append_getElem h, List.flatMap_append, ← List.append_assoc, List.flatMap_singleton]
theorem flat_le {l : List Ctr} (h : ∀ c ∈ l, c.ports.length ≤ 10) : (l.flatMap Ctr.ports).length ≤ 10 * l.length := by
  induction l with
  | nil => simp
  | cons c l ih =>
    have h1 := h c List.mem_cons_self
    have h2 := ih fun x hx => h x (List.mem_cons_of_mem _ hx)
    simp only [List.flatMap_cons, List.length_append, List.length_cons]
    omega
theorem portsTo_le {ps : List Int} {l : List Ctr} {i : Nat} (h : ∀ c ∈ l, c.ports.length ≤ 10) (hl : l.length ≤ 8) (hp : ps.length ≤ 100) : (portsTo ps l i).length ≤ 180 := by
  have h1 := flat_le (l := l.take i) fun c hc => h c (List.mem_of_mem_take hc)
  have h2 : (l.take i).length ≤ l.length := by rw [List.length_take]; omega
  unfold portsTo
  rw [List.length_append]
  omega
theorem namesTo_le {ns : List (List UInt8)} {l : List Ctr} {i : Nat} (hl : l.length ≤ 8) (hp : ns.length ≤ 100) : (namesTo ns l i).length ≤ 108 := by
  have h2 : (l.take i).length ≤ l.length := by rw [List.length_take]; omega
  unfold namesTo
  rw [List.length_append, List.length_map]
  omega
end Go.AL

namespace Go.AL
open Go.RowKit Go.NumSpec
abbrev nameN : List UInt8 := [110, 97, 109, 101]
abbrev labelsN : List UInt8 := [108, 97, 98, 101, 108, 115]
abbrev initN : List UInt8 := [105, 110, 105, 116]
abbrev mainN : List UInt8 := [109, 97, 105, 110]
abbrev check1 (s : Spc) : List Er := [erNew (saysV (nameV s.name) 30) [nameN], labelsE labelsN s.labels, atMostE initN (s.init.length : Int) 0 3]
abbrev check2 (s : Spc) : List Er := [ctrsE initN [] [] s.init 0 0, atMostE mainN (s.main.length : Int) 1 4]
abbrev check3 (s : Spc) : List Er := [ctrsE mainN (namesTo [] s.init s.init.length) (portsTo [] s.init s.init.length) s.main 3 1000, withinE [114, 101, 115, 116, 97, 114, 116] s.restart 1 3, withinE [103, 114, 97, 99, 101] s.grace 0 1000, withinE [112, 114, 105, 111] s.prio 0 10]
def checkE (s : Spc) : Er := match firstE (check1 s) with | some x => some x | none => match firstE (check2 s) with | some x => some x | none => firstE (check3 s)
theorem check_bad1 {s : Spc} {x : Int × List (List UInt8)} (h : firstE (check1 s) = some x) : checkE s = some x := by unfold checkE; rw [h]
theorem check_bad2 {s : Spc} {x : Int × List (List UInt8)} (h : firstE (check1 s) = none) (h2 : firstE (check2 s) = some x) : checkE s = some x := by unfold checkE; rw [h, h2]
theorem check_good {s : Spc} (h : firstE (check1 s) = none) (h2 : firstE (check2 s) = none) : checkE s = firstE (check3 s) := by unfold checkE; rw [h, h2]
theorem check_all {s : Spc} (h : checkE s = none) : firstE (check1 s) = none ∧ firstE (check2 s) = none ∧ firstE (check3 s) = none := by
  unfold checkE at h
  cases h1 : firstE (check1 s) with
  | some x => rw [h1] at h; cases h
  | none =>
    rw [h1] at h
    cases h2 : firstE (check2 s) with
    | some x => rw [h2] at h; cases h
    | none => rw [h2] at h; exact ⟨rfl, rfl, h⟩
theorem lightS_out {s : Spc} (h : lightS s = true) : s.name.length ≤ 100 ∧ s.labels.length ≤ 10 ∧ s.init.length ≤ 8 ∧ s.main.length ≤ 8 ∧ (∀ x ∈ s.labels, x.1.length ≤ 1000000 ∧ x.2.length ≤ 1000000) ∧ (∀ c ∈ s.init, lightC c = true) ∧ ∀ c ∈ s.main, lightC c = true := by
  unfold lightS at h
  simp only [Bool.and_eq_true, decide_eq_true_eq, List.all_eq_true] at h
  obtain ⟨⟨⟨h1, h2, h3, h4⟩, h5⟩, h6, h7⟩ := h
  refine ⟨h1, h2, h3, h4, fun x hx => ?_, h6, h7⟩
  have := h5 x hx
  unfold lightL at this
  rw [decide_eq_true_eq] at this
  omega

theorem check_seen {s : Spc} (h : firstE (check1 s) = none) (hc : ∀ c ∈ s.init, lightC c = true) : (namesTo [] s.init s.init.length).length ≤ 100 ∧ (portsTo [] s.init s.init.length).length ≤ 100 := by
  have h3 := firstE_none h (atMostE initN (s.init.length : Int) 0 3) (List.mem_cons_of_mem _ (List.mem_cons_of_mem _ List.mem_cons_self))
  have h3 : s.init.length ≤ 3 := by
    unfold atMostE at h3
    split at h3
    · cases h3
    · omega
  have h1 := flat_le (l := s.init) fun c h => (of_decide_eq_true (hc c h)).2.2
  unfold namesTo portsTo
  rw [List.take_length, List.length_append, List.length_append, List.length_map]
  simp only [List.length_nil]
  omega

/-! ### What a pod asks for covers all -/
def leR (a b : Tri) : Prop := a.1 ≤ b.1 ∧ a.2.1 ≤ b.2.1 ∧ a.2.2 ≤ b.2.2
theorem leR.refl (a : Tri) : leR a a := ⟨Int.le_refl _, Int.le_refl _, Int.le_refl _⟩
theorem leR.trans {a b c : Tri} (h : leR a b) (k : leR b c) : leR a c := ⟨Int.le_trans h.1 k.1, Int.le_trans h.2.1 k.2.1, Int.le_trans h.2.2 k.2.2⟩
theorem within_none {name : List UInt8} {n lo hi : Int} (h : withinE name n lo hi = none) : lo ≤ n ∧ n ≤ hi := by
  unfold withinE at h
  split at h
  · cases h
  · omega
theorem erIn_none {e : Er} {p : List UInt8} (h : erIn e p = none) : e = none := by cases e with | none => rfl | some x => cases h
end Go.AL

namespace Go.AL
open Go.RowKit Go.NumSpec
def sameL {α : Type} (f : α → α → Bool) : List α → List α → Bool
  | [], [] => true
  | a :: l, b :: m => f a b && sameL f l m
  | _, _ => false
theorem sameL_len {α : Type} {f : α → α → Bool} : ∀ {l m : List α}, l.length ≠ m.length → sameL f l m = false
  | [], [], h => absurd rfl h
  | a :: l, b :: m, h => by unfold sameL; rw [sameL_len (l := l) (m := m) (fun e => h (by simp [e])), Bool.and_false]
  | [], b :: m, _ => rfl
  | a :: l, [], _ => rfl
theorem sameL_eq {α : Type} [DecidableEq α] {l m : List α} : sameL (fun a b => decide (a = b)) l m = decide (l = m) := by
  induction l generalizing m with
  | nil => cases m <;> simp [sameL]
  | cons a l ih => cases m <;> simp [sameL, ih]
theorem sameL_iff {α : Type} {f : α → α → Bool} (hf : ∀ a b, f a b = true ↔ a = b) : ∀ {l m : List α}, sameL f l m = true ↔ l = m
  | [], [] => by simp [sameL]
  | a :: l, b :: m => by simp [sameL, hf, sameL_iff hf (l := l) (m := m)]
  | [], b :: m => by simp [sameL]
  | a :: l, [] => by simp [sameL]
def alikeC (a b : Ctr) : Bool := decide (a.name = b.name) && (decide (a.req = b.req) && (decide (a.lim = b.lim) && (decide (a.ports = b.ports) && decide (a.probe = b.probe))))
def exactC (a b : Ctr) : Bool := alikeC a b && decide (a.image = b.image)
theorem exactC_iff {a b : Ctr} : exactC a b = true ↔ a = b := by
  cases a; cases b
  simp only [exactC, alikeC, Bool.and_eq_true, decide_eq_true_eq, Ctr.mk.injEq]
  constructor
  · rintro ⟨⟨h1, h2, h3, h4, h5⟩, h6⟩; exact ⟨h1, h6, h2, h3, h4, h5⟩
  · rintro ⟨h1, h2, h3, h4, h5, h6⟩; exact ⟨⟨h1, h3, h4, h5, h6⟩, h2⟩
theorem res_eqB {a b : Tri} : (decide (a.1 = b.1) && (decide (a.2.1 = b.2.1) && (decide (a.2.2 = b.2.2) && true))) = decide (a = b) := by
  rw [Bool.eq_iff_iff]; simp only [Bool.and_eq_true, decide_eq_true_eq, and_true]
  exact ⟨fun ⟨h1, h2, h3⟩ => Prod.ext h1 (Prod.ext h2 h3), fun h => by subst h; exact ⟨rfl, rfl, rfl⟩⟩
theorem probe_eqB {a b : Int × Int} : (decide (a.1 = b.1) && (decide (a.2 = b.2) && true)) = decide (a = b) := by
  rw [Bool.eq_iff_iff]; simp only [Bool.and_eq_true, decide_eq_true_eq, and_true]
  exact ⟨fun ⟨h1, h2⟩ => Prod.ext h1 h2, fun h => by subst h; exact ⟨rfl, rfl⟩⟩
theorem lab_eqB {a b : Lab} : (decide (a.1 = b.1) && (decide (a.2 = b.2) && true)) = decide (a = b) := by
  rw [Bool.eq_iff_iff]; simp only [Bool.and_eq_true, decide_eq_true_eq, and_true]
  exact ⟨fun ⟨h1, h2⟩ => Prod.ext h1 h2, fun h => by subst h; exact ⟨rfl, rfl⟩⟩
theorem flat_snoc {α β : Type} {f : α → List β} {l : List α} {i : Nat} (h : i < l.length) : (l.take i).flatMap f ++ f l[i] = (l.take (i + 1)).flatMap f := by
  rw [List.take_succ_eq_append_getElem h, List.flatMap_append, List.flatMap_singleton]
/-! the chapter's example -/
end Go.AL

namespace Go.AL
open Go.RowKit Go.NumSpec
theorem nameE_out {ns : List (List UInt8)} {s : List UInt8} (h : nameE ns s = none) : erNew (saysV (nameV s) 30) [[110, 97, 109, 101]] = none ∧ s ∉ ns := by
  unfold nameE at h
  split at h
  · cases h
  · rename_i hk
    exact ⟨h, fun hm => hk ⟨by rw [h]; rfl, hm⟩⟩
theorem nameE_in {ns : List (List UInt8)} {s : List UInt8} (h : erNew (saysV (nameV s) 30) [[110, 97, 109, 101]] = none) (h' : s ∉ ns) : nameE ns s = none := by
  unfold nameE; rw [if_neg fun hk => h' hk.2]; exact h
theorem portAt_out {ps l : List Int} {i : Nat} (h : portAt ps l i = none) : withinE (atT portsN (i : Int)) (l.getD i 0) 1 65535 = none ∧ l.getD i 0 ∉ ps ++ l.take i := by
  unfold portAt at h
  split at h
  · cases h
  · rename_i hk
    exact ⟨h, fun hm => hk ⟨by rw [h]; rfl, hm⟩⟩
theorem portAt_in {ps l : List Int} {i : Nat} (h : withinE (atT portsN (i : Int)) (l.getD i 0) 1 65535 = none) (h' : l.getD i 0 ∉ ps ++ l.take i) : portAt ps l i = none := by
  unfold portAt; rw [if_neg fun hk => h' hk.2]; exact h
theorem portE_out {ps l : List Int} {n : Int} (h : portE ps l n = none) : atMostE portsN (l.length : Int) 0 n = none ∧ ∀ j, j < l.length → portAt ps l j = none := by
  cases ha : atMostE portsN (l.length : Int) 0 n with
  | some x => rw [portE_bad (by rw [ha]; simp), ha] at h; cases h
  | none => rw [portE_good ha] at h; exact ⟨rfl, eachE_none h⟩
theorem portE_in {ps l : List Int} {n : Int} (ha : atMostE portsN (l.length : Int) 0 n = none) (h : ∀ j, j < l.length → portAt ps l j = none) : portE ps l n = none := by rw [portE_good ha, eachE_all h]
theorem light_out {s : Spc} (h : lightS s = true) : (s.name.length ≤ 100 ∧ s.labels.length ≤ 10 ∧ s.init.length ≤ 8 ∧ s.main.length ≤ 8) ∧ (∀ x ∈ s.labels, lightL x = true) ∧ (∀ c ∈ s.init, lightC c = true) ∧ ∀ c ∈ s.main, lightC c = true := by
  unfold lightS at h
  simp only [Bool.and_eq_true, decide_eq_true_eq, List.all_eq_true] at h
  exact ⟨h.1.1, h.1.2, h.2⟩
end Go.AL
