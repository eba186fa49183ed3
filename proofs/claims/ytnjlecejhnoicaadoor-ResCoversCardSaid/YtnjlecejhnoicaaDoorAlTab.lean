/-
The logic AL: fresh slices of one-cell elements that are appended to and written in place; the first place of a byte in a text.
Conditions: none; no program is in sight.
-/
import Derived.Test.YtnjlecejhnoicaaDoorAlBuf
import Derived.Laws.Externs
set_option linter.unusedVariables false
set_option linter.unusedSimpArgs false
namespace Go.AL
open Go.RowKit

def vec1C (cap : Nat) (xs : List AV) : List AV := xs ++ List.replicate (cap - xs.length) .any
abbrev vec1V (b cap : Nat) (xs : List AV) : AV := .lit (.slice (some ⟨b, 0, none⟩) xs.length cap)
theorem vec1C_at {cap i : Nat} {xs : List AV} {x : AV} (h : xs[i]? = some x) : (vec1C cap xs)[i]? = some x := by
  rw [vec1C, List.getElem?_append_left (List.getElem?_eq_some_iff.1 h).1]; exact h
theorem vec1C_set {cap i : Nat} {xs : List AV} {x : AV} (h : i < xs.length) : (vec1C cap xs).set i x = vec1C cap (xs.set i x) := by
  rw [vec1C, vec1C, List.set_append_left _ _ h, List.length_set]
theorem vec1C_len {cap : Nat} {xs : List AV} (h : xs.length ≤ cap) : (vec1C cap xs).length = cap := by simp [vec1C]; omega

section
variable {P : Program} {N : Nat} {Q : Post} {env : Env} {st : St} {o : Oper} {w : World}

theorem Conv.vec1 {st' : St} (h : Sub st' st) {b cap : Nat} {xs : List AV} (hq : xs.length ≤ cap) (hs : ∀ x, x ∈ xs → x.cells = [x]) (hm : (b, Ob.cells (vec1C cap xs)) ∈ st) (hn : ∀ o, (b, o) ∉ st') : Conv st st' (vec1V b cap xs) (.sl xs) := fun w v hr h1 => by
  cases h1
  obtain ⟨vs, T, g1, g2, g3⟩ := hr.cells b _ hm
  have hcell : ∀ (i : Nat) x (j : Nat) c, xs[i]? = some x → x.cells[j]? = some c → ∃ u, vs[i * 1 + j]? = some u ∧ R st w c u := fun i x j c hx hc => by
    rw [hs x (List.mem_of_getElem? hx)] at hc
    cases j with
    | succ j => simp at hc
    | zero =>
      simp at hc
      subst hc
      have h3 := vec1C_at (cap := cap) hx
      have hlt : i < vs.size := by rw [g2]; exact (List.getElem?_eq_some_iff.1 h3).1
      exact ⟨vs[i], by simp [hlt], g3 i _ _ h3 (by simp [hlt])⟩
  refine .sl xs b 0 cap 1 (fun k => (vs[k]?).getD undef) hq (fun i x hx => by rw [hs x (List.mem_of_getElem? hx)]; rfl) (fun i x j c hx hc => ?_) fun i x j c hx hc => ?_
  · obtain ⟨u, k1, k2⟩ := hcell i x j c hx hc
    exact ⟨by simp only [World.cell?, g1, Option.isSome_none, Bool.false_eq_true, if_false, Nat.zero_add, k1, Option.getD_some], fun ⟨o, ho, _⟩ => hn o ho⟩
  · obtain ⟨u, k1, k2⟩ := hcell i x j c hx hc
    rw [k1]
    exact k2.mono (Ext.dropS h) hr.nodup

/-- A literal slice of one element, whose cell may be written. -/
theorem S_buildVec1 {t e : TypeId} {x : Operand} {y : AV} (ho : o.op = .buildSlice t 1 #[(0, x)]) (hx : AEv env x y) (hone : y.one = true) (hu : P.underlying t = some (.slice e)) (hz : (P.info? e).map (fun i => (i.size, i.zero.map (·.cells.size))) = some (1, some 1)) :
    Step P N o env st fun z st' => ∃ b, z = vec1V b 1 [y] ∧ st' = (b, .cells (vec1C 1 [y])) :: st := by
  intro a w hg next Q hn
  have hr := hx _ _ _ _ hg
  have h1 := hr.one hone
  have hcells : (a.eval x).cells = #[a.eval x] := by cases hv : a.eval x <;> first | rfl | (rw [hv] at h1; simp [Value.oneCell'] at h1)
  obtain ⟨i, hi⟩ : ∃ i, P.info? e = some i := by cases h : P.info? e with | none => simp [h] at hz | some i => exact ⟨i, rfl⟩
  have hz1 : i.size = 1 := by simp [hi] at hz; exact hz.1
  obtain ⟨z, hzz⟩ : ∃ z, i.zero = some z := by cases h : i.zero with | none => simp [hi, h] at hz | some z => exact ⟨z, rfl⟩
  have hz2 : z.cells.size = 1 := by simp [hi, hzz] at hz; exact hz.2
  obtain ⟨k1, k2⟩ := alloc_rel hg.rel (T := e) (ob := .cells (vec1C 1 [y])) (vs := #[a.eval x]) ⟨by simp [vec1C], fun k c v hc hv => by
    cases k with
    | zero => simp [vec1C] at hc hv; subst hc; subst hv; exact hr
    | succ k => simp at hv⟩
  have hrun : (execOp a.eval o).run P w = .ok (.value (.slice (some ⟨w.heap.size, 0, none⟩) 1 1)) (w.alloc (.cells #[a.eval x] e)) := by
    have hfill := Go.Great.fill_whole (s := 1) (by decide) [a.eval x] ((Array.range (1 * 1)).map (z.cells[· % z.cells.size]!)) (fun v hv => by simp at hv; subst hv; rw [hcells]; rfl) (by simp)
    have := run_buildSlice (P := P) w t e 1 (#[(0, a.eval x)]) _ i z hu hi hzz (by rw [hz1]; decide) (by rw [hz1]; decide) (by rw [hz1]; exact hfill)
    simp only [execOp, ho, Sem.run_bind, List.map_toArray, List.map_cons, List.map_nil]
    rw [this]
    simp [hcells]
  unfold Oper.wp
  rw [hrun]
  exact hn _ _ _ _ ⟨_, rfl, rfl⟩ (.lit _) k1 k2

/-- One more element. -/
theorem S_appendVec1 {t e bytes : Nat} {x y : Operand} {b cap : Nat} {xs : List AV} {z : AV} (pre post : St) (ho : o.op = .call { callee := .builtin .append, args := #[x, y], argTypes := #[t, t] }) (hx : AEv env x (vec1V b cap xs)) (hy : AEv env y (.sl [z])) (hst : st = pre ++ ((b, .cells (vec1C cap xs)) :: post)) (hq : xs.length ≤ cap) (hT : appT P t e 1 bytes = true)
    (hone : z.one = true) (hzc : z.cells = [z]) (hb : (xs.length + 1) * bytes ≤ 140737488355328) (h63 : xs.length + 1 ≤ 9223372036854775807) :
    Step P N o env st fun v st' => ∃ b' cap', (xs ++ [z]).length ≤ cap' ∧ v = vec1V b' cap' (xs ++ [z]) ∧ st' = pre ++ ((b', .cells (vec1C cap' (xs ++ [z]))) :: post) := by
  intro a w hg next Q hn
  have hnd := hg.rel.nodup
  obtain ⟨hu, ⟨i, zz, hi, hz, hsize, rfl, hzs⟩, hpos⟩ := appT_spec hT
  obtain ⟨b2, off, cap2, news, e2, hl, hnews, hone2, hR⟩ := sl_cells (size := i.size) (hy _ _ _ _ hg) (by simp) (fun i y h => by cases i with | zero => simp at h; subst h; rw [hzc, hsize]; rfl | succ i => simp at h) (by omega) (fun y hy => by simp at hy; subst hy; rw [hzc]; simp [hone])
  have e1 := (hx _ _ _ _ hg).lit_inv
  have hmem : (b, Ob.cells (vec1C cap xs)) ∈ st := by rw [hst]; simp
  obtain ⟨vs, T, g1, g2, g3⟩ := hg.rel.cells b _ hmem
  have hlen : news.length = 1 := by rw [hl, hsize]; rfl
  obtain ⟨u, rfl⟩ : ∃ u, news = [u] := by
    match news, hlen with
    | [u], _ => exact ⟨u, rfl⟩
  have hRu : R st w z u := by
    obtain ⟨u', h1, h2⟩ := hR 0 z 0 z rfl (by rw [hzc]; rfl)
    simp at h1
    subst h1
    exact h2
  rw [vec1C_len hq] at g2
  by_cases hroom : xs.length + 1 ≤ cap
  · have hrun := run_append_room_cells (P := P) w t o.type e i hu hi b 0 xs.length cap ⟨b2, off, none⟩ 1 cap2 [u] (by rw [hsize]; rfl) hnews hone2 hroom (fun j hj => by simp at hj; subst hj; simp [World.cell?, g1, hsize]; omega) (fun j hj => by simp [World.frozen?, g1])
    obtain ⟨⟨ws, j1, j2, j3⟩, j4, j5, j6, j7, j8⟩ := setCells_heap b [u] (0 + xs.length * i.size) w vs T g1 (by simp [hsize]; omega)
    have hat : st[pre.length]? = some (b, .cells (vec1C cap xs)) := by rw [hst]; simp
    have hlen2 : (xs ++ [z]).length ≤ cap := by simpa using hroom
    obtain ⟨k1, k2⟩ := write_rel (cs' := vec1C cap (xs ++ [z])) hg.rel hat ⟨vs, g1, j2.symm⟩ j1 j4 j5 j6 j7 j8 (by rw [j2, g2, vec1C_len hlen2]) (fun k c v hc hv => by
      rw [j3 k] at hv
      simp only [hsize, Nat.mul_one, Nat.zero_add, List.length_singleton] at hv
      by_cases hk : k < xs.length
      · rw [if_neg (by omega)] at hv
        refine g3 k c v ?_ hv
        rw [vec1C, List.append_assoc, List.getElem?_append_left hk] at hc
        rw [vec1C, List.getElem?_append_left hk]; exact hc
      · by_cases hk2 : k = xs.length
        · subst hk2
          rw [if_pos (by omega)] at hv
          rw [vec1C, List.getElem?_append_left (by simp), List.getElem?_append_right (by omega)] at hc
          simp at hc hv
          subst hc; subst hv
          exact hRu
        · rw [vec1C, List.getElem?_append_right (by simp; omega)] at hc
          have := List.mem_of_getElem? hc
          rw [List.mem_replicate] at this
          rw [this.2]
          exact .any _)
    have hset : st.set pre.length (b, .cells (vec1C cap (xs ++ [z]))) = pre ++ ((b, .cells (vec1C cap (xs ++ [z]))) :: post) := by rw [hst]; simp
    rw [hset] at k1 k2
    have hexec : (execOp a.eval o).run P w = .ok (.value (.slice (some ⟨b, 0, none⟩) (xs ++ [z]).length cap)) (w.setCells b (0 + xs.length * i.size) [u]) := by
      simp only [execOp, ho, resolve, invoke, builtin, Sem.run_bind, Sem.run_pure, Result.andThen_ok, List.map_toArray, List.map_cons, List.map_nil, e1, e2, List.length_singleton, hrun, List.length_append]
    unfold Oper.wp
    rw [hexec]
    exact hn _ _ _ _ ⟨b, cap, hlen2, rfl, rfl⟩ (.lit _) k1 k2
  · have hlt : (vs.toList.take xs.length).length = xs.length * i.size := by rw [hsize]; simp; omega
    have holds : ∀ (j : Nat) v, (vs.toList.take xs.length)[j]? = some v → w.cell? ((⟨b, 0, none⟩ : Addr).add j) = some v := fun j v hv => by
      have hj : j < xs.length := by have := (List.getElem?_eq_some_iff.1 hv).1; simp at this; omega
      rw [List.getElem?_take_of_lt hj] at hv
      rw [Addr.add_mid, Nat.zero_add]
      simp only [World.cell?, g1]
      simpa using hv
    have hrun := run_append_grow (P := P) w t o.type e i zz hu hi hz ⟨b, 0, none⟩ xs.length cap (vs.toList.take xs.length) hlt holds ⟨b2, off, none⟩ 1 cap2 [u] (by rw [hsize]; rfl) hnews (by omega) (by omega) (growslice_fits (by omega) hb)
    have hge := grownCap_ge w (xs.length + 1) cap e
    have hle := grownCap_le_maxLen w (xs.length + 1) cap e (by simp only [maxLen]; omega)
    generalize grownCap w (xs.length + 1) cap e = cp at *
    have hlen2 : (xs ++ [z]).length ≤ cp := by simpa using hge
    let ws : Array Value := (vs.toList.take xs.length).toArray ++ [u].toArray ++ Builtin.zeroCells zz.cells (cp - (xs.length + 1))
    obtain ⟨k1, k2⟩ := alloc_rel (T := e) hg.rel.drew (ob := .cells (vec1C cp (xs ++ [z]))) (vs := ws) ⟨by
        rw [vec1C_len hlen2]
        simp only [ws, Array.size_append, List.size_toArray, hlt, size_zeroCells, hzs, hsize, List.length_singleton]
        omega, fun k c v hc hv => by
      refine R.mono (Ext.drew (st := st)) hnd ?_
      by_cases hk : k < xs.length
      · rw [vec1C, List.append_assoc, List.getElem?_append_left hk] at hc
        refine g3 k c v (by rw [vec1C, List.getElem?_append_left hk]; exact hc) ?_
        simp only [ws] at hv
        rw [Array.getElem?_append_left (by simp; omega), Array.getElem?_append_left (by simp; omega), List.getElem?_toArray, List.getElem?_take_of_lt hk] at hv
        simpa using hv
      · by_cases hk2 : k = xs.length
        · subst hk2
          rw [vec1C, List.getElem?_append_left (by simp), List.getElem?_append_right (by omega)] at hc
          simp only [ws] at hv
          have htl : (vs.toList.take xs.length).toArray.size = xs.length := by simp; omega
          rw [Array.getElem?_append_left (by rw [Array.size_append, htl]; simp), Array.getElem?_append_right (by omega), htl] at hv
          simp at hc hv
          subst hc; subst hv
          exact hRu
        · rw [vec1C, List.getElem?_append_right (by simp; omega)] at hc
          have := List.mem_of_getElem? hc
          rw [List.mem_replicate] at this
          rw [this.2]
          exact .any _⟩
    have k2 := Ext.drew.trans k2 hnd
    have hsub : ∀ p, p ∈ (pre ++ ((w.heap.size, .cells (vec1C cp (xs ++ [z]))) :: post) : St) → p ∈ ((w.heap.size, .cells (vec1C cp (xs ++ [z]))) :: st : St) := fun p hp => by
      rw [hst]
      simp only [List.mem_append, List.mem_cons] at hp ⊢
      rcases hp with h | h | h
      · exact .inr (.inl h)
      · exact .inl h
      · exact .inr (.inr (.inr h))
    have hnd2 : ((pre ++ ((w.heap.size, Ob.cells (vec1C cp (xs ++ [z]))) :: post) : St).map (·.1)).Nodup := by
      have h3 := k1.nodup
      have hp : ((pre ++ ((w.heap.size, Ob.cells (vec1C cp (xs ++ [z]))) :: post) : St)).Perm ((w.heap.size, Ob.cells (vec1C cp (xs ++ [z]))) :: (pre ++ post)) := List.perm_middle
      refine ((hp.map (·.1)).nodup_iff).2 (List.Nodup.sublist ?_ h3)
      refine List.Sublist.map _ (List.Sublist.cons_cons _ ?_)
      rw [hst]
      exact List.Sublist.append (List.Sublist.refl _) (List.Sublist.cons _ (List.Sublist.refl _))
    have hexec : (execOp a.eval o).run P w = .ok (.value (.slice (some ⟨w.heap.size, 0, none⟩) (xs ++ [z]).length cp)) (w.drew.alloc (.cells ws e)) := by
      simp only [execOp, ho, resolve, invoke, builtin, Sem.run_bind, Sem.run_pure, Result.andThen_ok, List.map_toArray, List.map_cons, List.map_nil, e1, e2, List.length_singleton, hrun, List.length_append]
      rfl
    unfold Oper.wp
    rw [hexec]
    exact hn _ _ _ _ ⟨w.heap.size, cp, hlen2, rfl, rfl⟩ (.lit _) (k1.sub hsub hnd2) (k2.trans (Ext.sub hsub) hnd)

/-! The first place of a byte -/
def idxV (s : List UInt8) (c : UInt8) : Int := if c ∈ s then ((s.takeWhile (fun x => x != c)).length : Int) else -1
theorem tw_lt {s : List UInt8} {c : UInt8} (h : c ∈ s) : (s.takeWhile (fun x => x != c)).length < s.length ∧ s[(s.takeWhile (fun x => x != c)).length]? = some c := by
  induction s with
  | nil => simp at h
  | cons x t ih =>
    by_cases hx : x = c
    · subst hx; simp
    · have hm : c ∈ t := by
        rcases List.mem_cons.1 h with e | e
        · exact absurd e.symm hx
        · exact e
      obtain ⟨h1, h2⟩ := ih hm
      have : (x :: t).takeWhile (fun y => y != c) = x :: t.takeWhile (fun y => y != c) := by rw [List.takeWhile_cons, if_pos (by simpa using hx)]
      rw [this]
      simp only [List.length_cons, List.getElem?_cons_succ]
      exact ⟨by omega, h2⟩
theorem tw_ne {s : List UInt8} {c : UInt8} {i : Nat} (h : i < (s.takeWhile (fun x => x != c)).length) : ∀ y, s[i]? = some y → y ≠ c := fun y hy => by
  have h1 : (s.takeWhile (fun x => x != c))[i]? = some y := by
    have hp : s.takeWhile (fun x => x != c) <+: s := List.takeWhile_prefix _
    obtain ⟨t, ht⟩ := hp
    rw [← ht, List.getElem?_append_left h] at hy
    exact hy
  have hm := List.mem_of_getElem? h1
  have := List.all_eq_true.1 List.all_takeWhile y hm
  simpa using this
theorem firstIdx_idx (s : List UInt8) (c : UInt8) : firstIdx ⟨s.toArray⟩ c = idxV s c := by
  have hget : ∀ i, i < s.length → ((⟨s.toArray⟩ : ByteArray)[i]! == c) = (s[i]! == c) := fun i hi => by
    rw [getElem!_pos (⟨s.toArray⟩ : ByteArray) i (by simpa [ByteArray.size] using hi), getElem!_pos s i hi]
    rfl
  unfold firstIdx idxV
  have hsz : (⟨s.toArray⟩ : ByteArray).size = s.length := by simp [ByteArray.size]
  rw [hsz]
  by_cases h : c ∈ s
  · rw [if_pos h]
    obtain ⟨h1, h2⟩ := tw_lt h
    have : (List.range s.length).find? (fun i => (⟨s.toArray⟩ : ByteArray)[i]! == c) = some (s.takeWhile (fun x => x != c)).length := by
      rw [List.find?_range_eq_some]
      refine ⟨?_, List.mem_range.2 h1, fun j hj => ?_⟩
      · rw [hget _ h1, List.getElem!_eq_getElem?_getD, h2]; simp
      · rw [hget _ (by omega)]
        have hjl : j < s.length := by omega
        have := tw_ne hj s[j] (List.getElem?_eq_getElem hjl)
        rw [List.getElem!_eq_getElem?_getD, List.getElem?_eq_getElem hjl]
        simpa using this
    rw [this]
  · rw [if_neg h]
    have : (List.range s.length).find? (fun i => (⟨s.toArray⟩ : ByteArray)[i]! == c) = none := by
      rw [List.find?_range_eq_none]
      intro j hj
      rw [hget _ hj, List.getElem!_eq_getElem?_getD, List.getElem?_eq_getElem hj]
      have : s[j] ≠ c := fun e => h (e ▸ List.getElem_mem hj)
      simpa using this
    rw [this]
theorem S_indexByte {f : FuncId} {fn : Func} {x y : Operand} {ts : Array TypeId} {s : List UInt8} {c : UInt8} (ho : o.op = .call { callee := .value (.func f), args := #[x, y], argTypes := ts }) (hx : AEv env x (.S s)) (hy : AEv env y (.int .u8 (c.toNat : Int))) (hf : P.funcs[f]? = some fn) (h1 : (fn.name == "runtime.NumGoroutine") = false) (h2 : fn.body.isNone = true) (h3 : Extern.findNext fn = none) (h4 : Extern.find fn = some Extern.BytealgIndexByte.indexByte) : PStep P N o env st (.int .i64 (idxV s c)) :=
  .of_val fun a w hg => by
    have e1 := (hx _ _ _ _ hg).lit_inv
    have e2 := (hy _ _ _ _ hg).lit_inv
    refine ⟨.int .i64 (idxV s c), ?_, .lit _⟩
    have hc : ((c.toNat : Int)).toNat.toUInt8 = c := by simp
    simp only [execOp, ho, resolve, Deferred.ofValue, Act.eval, invoke, Sem.run_bind, Sem.run_pure, Result.andThen_ok, List.map_toArray, List.map_cons, List.map_nil, run_callFunc_extern hf h1 h2 h3 h4]
    rw [← firstIdx_idx]
    have hr := run_indexByte_string (P := P) ⟨s.toArray⟩ (c.toNat : Int) w
    rw [hc] at hr
    unfold Act.eval at e1 e2
    simp only [e1, e2, hr, Result.andThen_ok, Array.append_empty, Array.empty_append]
end
end Go.AL
