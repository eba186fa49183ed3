/-
The logic AL: from a function's body to its calls; its results; what a state may be taken for at the end.
Conditions: none; no program is in sight.
-/
import Derived.Test.YtnjlecejhnoicaaDoorAlMem
import Derived.Laws.BytesString
set_option linter.unusedVariables false
set_option linter.unusedSimpArgs false
namespace Go.AL
open Go.RowKit

section
variable {P : Program} {N : Nat} {env : Env} {st : St} {o : Oper} {w : World}

/-- Less may be written. -/
theorem Ext.drop {st' : St} (h : List.Sublist st' st) : Ext st w st' w :=
  ⟨rfl, rfl, rfl, fun _ _ => rfl, Nat.le_refl _, fun _ _ _ => rfl, fun _ _ _ _ _ _ _ _ _ => rfl, fun b off _ ⟨o, ho, hp⟩ => ⟨o, h.subset ho, hp⟩, fun _ _ _ _ => rfl⟩
theorem Rel.drop {st' : St} (hr : Rel st w) (h : List.Sublist st' st) : Rel st' w := by
  have hn := hr.nodup
  refine ⟨(h.map _).nodup hn, fun b cs hb => ?_, fun b e size n cap hb => hr.grow b e size n cap (h.subset hb), fun b vs hb => hr.konst b vs (h.subset hb)⟩
  obtain ⟨vs, T, h1, h2, h3⟩ := hr.cells b cs (h.subset hb)
  exact ⟨vs, T, h1, h2, fun i c v hc hv => (h3 i c v hc hv).mono (Ext.drop h) hn⟩

/-- A part of a state, in whatever order. -/
def Sub (st' st : St) : Prop := ∃ s, st'.Perm s ∧ List.Sublist s st
theorem Sub.l {st' st : St} (h : List.Sublist st' st) : Sub st' st := ⟨_, .refl _, h⟩
theorem Sub.p {st' s st : St} (hp : st'.Perm s) (h : List.Sublist s st) : Sub st' st := ⟨s, hp, h⟩
theorem Sub.mem {st' st : St} (h : Sub st' st) : ∀ p, p ∈ st' → p ∈ st := fun p hp => let ⟨_, h1, h2⟩ := h; h2.subset (h1.mem_iff.1 hp)
theorem Sub.nodup {st' st : St} (h : Sub st' st) (hn : (st.map (·.1)).Nodup) : (st'.map (·.1)).Nodup := let ⟨_, h1, h2⟩ := h; (h1.map (·.1)).nodup_iff.2 ((h2.map _).nodup hn)
theorem Ext.dropS {st' : St} (h : Sub st' st) : Ext st w st' w :=
  ⟨rfl, rfl, rfl, fun _ _ => rfl, Nat.le_refl _, fun _ _ _ => rfl, fun _ _ _ _ _ _ _ _ _ => rfl, fun b off _ ⟨o, ho, hp⟩ => ⟨o, h.mem _ ho, hp⟩, fun _ _ _ _ => rfl⟩
theorem Rel.dropS {st' : St} (hr : Rel st w) (h : Sub st' st) : Rel st' w := by
  have hn := hr.nodup
  refine ⟨h.nodup hn, fun b cs hb => ?_, fun b e size n cap hb => hr.grow b e size n cap (h.mem _ hb), fun b vs hb => hr.konst b vs (h.mem _ hb)⟩
  obtain ⟨vs, T, h1, h2, h3⟩ := hr.cells b cs (h.mem _ hb)
  exact ⟨vs, T, h1, h2, fun i c v hc hv => (h3 i c v hc hv).mono (Ext.dropS h) hn⟩

/-- What is the one in state st is the other in state st'. -/
def Conv (st st' : St) (a b : AV) : Prop := ∀ w v, Rel st w → R st w a v → R st' w b v
theorem Conv.refl {st' : St} (h : Sub st' st) (a : AV) : Conv st st' a a := fun w v hr h1 => h1.mono (Ext.dropS h) hr.nodup
theorem Conv.le {st' : St} (h : Sub st' st) {a b : AV} (hl : Le a b) : Conv st st' a b := fun w v hr h1 => hl _ _ _ (h1.mono (Ext.dropS h) hr.nodup)
/-- A struct that the call made, and that nobody writes any more. -/
theorem Conv.ip {st' : St} (h : Sub st' st) {b : Nat} {cs ds : List AV} (hb : (b, Ob.cells cs) ∈ st) (hb' : ∀ o, (b, o) ∉ st') (hl : ds.length = cs.length) (hc : ∀ (i : Nat) c d, cs[i]? = some c → ds[i]? = some d → Conv st st' c d) : Conv st st' (.ptr b 0) (.ip ds) := fun w v hr h1 => by
  have := h1.lit_inv
  subst this
  obtain ⟨vs, T, k1, k2, k3⟩ := hr.cells b cs hb
  refine .ip ds b 0 (fun i => vs[i]?.getD undef) (fun j c hj => ?_) fun j c hj => ?_
  · have hj' : j < vs.size := by have := (List.getElem?_eq_some_iff.1 hj).1; omega
    refine ⟨by simp [World.cell?, k1, hj'], fun ⟨o, ho, _⟩ => hb' o ho⟩
  · have hj' : j < cs.length := by have := (List.getElem?_eq_some_iff.1 hj).1; omega
    have hj2 : j < vs.size := by omega
    exact hc j _ c (List.getElem?_eq_getElem hj') hj w _ hr (k3 j _ _ (List.getElem?_eq_getElem hj') (by simp [hj2]))
theorem Conv.ifc {st' : St} {T : TypeId} {a b : AV} (h : Conv st st' a b) : Conv st st' (.ifc T a) (.ifc T b) := fun w v hr h1 => by
  cases h1 with
  | ifc _ _ v h2 => exact .ifc T b v (h _ _ hr h2)
theorem Conv.tup {st' : St} {cs ds : List AV} (hl : cs.length = ds.length) (h : ∀ (i : Nat) c d, cs[i]? = some c → ds[i]? = some d → Conv st st' c d) : Conv st st' (.tup cs) (.tup ds) := fun w v hr h1 => by
  cases h1 with
  | tup _ vs hn k =>
    refine .tup ds vs (by omega) fun i d v hd hv => ?_
    have : i < cs.length := by have := (List.getElem?_eq_some_iff.1 hd).1; omega
    exact h i _ d (List.getElem?_eq_getElem this) hd _ _ hr (k i _ v (List.getElem?_eq_getElem this) hv)
theorem Conv.agg {st' : St} {cs ds : List AV} (hl : cs.length = ds.length) (h : ∀ (i : Nat) c d, cs[i]? = some c → ds[i]? = some d → Conv st st' c d) : Conv st st' (.agg cs) (.agg ds) := fun w v hr h1 => by
  cases h1 with
  | agg _ vs hn k =>
    refine .agg ds vs (by omega) fun i d v hd hv => ?_
    have : i < cs.length := by have := (List.getElem?_eq_some_iff.1 hd).1; omega
    exact h i _ d (List.getElem?_eq_getElem this) hd _ _ hr (k i _ v (List.getElem?_eq_getElem this) hv)
theorem Conv.trans {st1 st2 : St} {a b c : AV} (h : Conv st st1 a b) (k : Le b c) : Conv st st1 a c := fun w v hr h1 => k _ _ _ (h w v hr h1)

/-- What a function's results are at its end. -/
inductive Outs (env : Env) (st : St) : List ResultVar → List AV → Prop
  | nil : Outs env st [] []
  | tmp {t : Nat} {x : AV} {rs : List ResultVar} {xs : List AV} (h : env.lookup t = some x) (k : Outs env st rs xs) : Outs env st (.tmp t :: rs) (x :: xs)
  | cell {t b : Nat} {T : TypeId} {cs : List AV} {rs : List ResultVar} {xs : List AV} (x : AV) (h : env.lookup t = some (.ptr b 0)) (hm : (b, Ob.cells cs) ∈ st)
      (hT : ∀ (P : Program), True) (k : Outs env st rs xs) (hx : x = .agg cs) : Outs env st (.cell t T :: rs) (x :: xs)

def outV : List AV → AV
  | [x] => x
  | xs => .tup xs

/-- The end of a body. -/
def Fin (P : Program) (fn : Func) (K : AV → St → Prop) : Post := fun e env st =>
  match e with
  | .normal | .ret => ∀ N a w, Good N env st a w → ∃ v y st', (results fn a.tmps).run P w = .ok v w ∧ K y st' ∧ Sub st' st ∧ R st' w y v
  | _ => False

theorem ret_tmp {fn : Func} {K : AV → St → Prop} {t : Nat} {x y : AV} (st' : St) (hr : fn.results = #[.tmp t]) (hx : env.lookup t = some x) (hs : Sub st' st) (hc : Conv st st' x y) (hk : K y st') {e : Exit} (he : e = .ret ∨ e = .normal) : Fin P fn K e env st := by
  rcases he with rfl | rfl <;>
  · intro N a w hg
    obtain ⟨v, hv, h1⟩ := hg.env t x hx
    refine ⟨v, y, st', ?_, hk, hs, hc w v hg.rel h1⟩
    rw [results_tmp hr]
    simp [hv]
theorem ret_none {fn : Func} {K : AV → St → Prop} (st' : St) (hr : fn.results = #[]) (hs : Sub st' st) (hk : K (.tup []) st') {e : Exit} (he : e = .ret ∨ e = .normal) : Fin P fn K e env st := by
  rcases he with rfl | rfl <;>
  · intro N a w hg
    refine ⟨.tuple #[], .tup [], st', results_none hr _ _ _, hk, hs, .tup [] #[] rfl fun i c v hc => by simp at hc⟩
theorem ret_tmps {fn : Func} {K : AV → St → Prop} {ts : List Nat} {xs ys : List AV} (st' : St) (hr : fn.results = (ts.map ResultVar.tmp).toArray) (hn : ts.length ≠ 1) (hx : ts.map (fun t => env.lookup t) = xs.map some) (hs : Sub st' st) (hc : Conv st st' (.tup xs) (.tup ys)) (hk : K (.tup ys) st') {e : Exit} (he : e = .ret ∨ e = .normal) : Fin P fn K e env st := by
  have hlen : ts.length = xs.length := by have := congrArg List.length hx; simpa using this
  have key : ∀ N a w, Good N env st a w → ∃ v y st', (results fn a.tmps).run P w = .ok v w ∧ K y st' ∧ Sub st' st ∧ R st' w y v := by
    intro N a w hg
    refine ⟨.tuple (ts.map fun t => a.tmps.getD t undef).toArray, .tup ys, st', ?_, hk, hs, hc w _ hg.rel (.tup xs _ (by simp [hlen]) fun i c v h1 h2 => ?_)⟩
    · have hm : ∀ (f : ResultVar → Sem Value), (∀ t, f (.tmp t) = pure (a.tmps.getD t undef)) → ∀ (l : List Nat) (w : World), (List.mapM f (l.map ResultVar.tmp)).run P w = .ok (l.map fun t => a.tmps.getD t undef) w := by
        intro f hf l
        induction l with
        | nil => intro w; simp
        | cons t l ih => intro w; simp only [List.map_cons, List.mapM_cons, hf, Sem.run_bind, Sem.run_pure, Result.andThen_ok, ih w]
      unfold results
      rw [hr]
      simp only [List.mapM_toArray, Sem.run_bind, Sem.run_map]
      rw [hm _ (fun t => rfl)]
      simp only [Result.andThen_ok, Sem.run_pure]
      rw [dif_neg (by simpa using hn)]
    · have hi : i < ts.length := by have := (List.getElem?_eq_some_iff.1 h1).1; omega
      have e1 : env.lookup ts[i] = some c := by
        have := congrArg (fun l => l[i]?) hx
        simp only [List.getElem?_map, h1, Option.map_some, List.getElem?_eq_getElem hi, Option.some.injEq] at this
        exact this
      obtain ⟨u, hu, k⟩ := hg.env _ _ e1
      simp [hi] at h2
      subst h2
      simp [hu]
      exact k
  rcases he with rfl | rfl <;> exact key
/-- The one result is a struct in memory. -/
theorem ret_cell {fn : Func} {K : AV → St → Prop} {t b : Nat} {T : TypeId} {cs : List AV} {y : AV} (n : Nat) (st' : St) (hr : fn.results = #[.cell t T]) (hx : env.lookup t = some (.ptr b 0)) (hst : st[n]? = some (b, .cells cs))
    (hT : rowT P T cs.length = true) (hs : Sub st' st) (hc : Conv st st' (.agg cs) y) (hk : K y st') {e : Exit} (he : e = .ret ∨ e = .normal) : Fin P fn K e env st := by
  have key : ∀ N a w, Good N env st a w → ∃ v y st', (results fn a.tmps).run P w = .ok v w ∧ K y st' ∧ Sub st' st ∧ R st' w y v := by
    intro N a w hg
    obtain ⟨v, hv, h1⟩ := hg.env t _ hx
    have := h1.lit_inv
    subst this
    obtain ⟨vs, T', k1, k2, k3⟩ := hg.rel.cells b cs (mem_at hst)
    obtain ⟨d, hu, hd, hi⟩ := rowT_spec hT
    refine ⟨.agg vs, y, st', ?_, hk, hs, hc w _ hg.rel (.agg cs vs k2.symm k3)⟩
    have hl : (loadVar T ⟨b, 0, none⟩).run P w = .ok (.agg vs) w := by
      have := run_loadVar_mid (P := P) w b 0 T vs.toList d (fun j u hj => by simp [World.cell?, k1]; simpa using hj) hu hd (by rw [hi]; simp [k2])
      simpa using this
    have e1 : a.tmps[t]?.getD undef = .pointer (some ⟨b, 0, none⟩) := by simp [hv]
    simp [results, hr, e1, asAddr, hl]
  rcases he with rfl | rfl <;> exact key

def envOf : Nat → List AV → Env
  | _, [] => []
  | i, x :: xs => (i, x) :: envOf (i + 1) xs
theorem envOf_lookup : ∀ (xs : List AV) (k i : Nat) (x : AV), (envOf k xs).lookup i = some x → k ≤ i ∧ xs[i - k]? = some x
  | [], k, i, x, h => by simp [envOf] at h
  | y :: ys, k, i, x, h => by
    simp only [envOf, List.lookup_cons] at h
    by_cases hik : i = k
    · subst hik
      simp only [beq_self_eq_true] at h
      cases h
      exact ⟨Nat.le_refl _, by simp⟩
    · have : (i == k) = false := by simpa using hik
      simp only [this] at h
      obtain ⟨h1, h2⟩ := envOf_lookup ys (k + 1) i x h
      refine ⟨by omega, ?_⟩
      rw [show i - k = (i - (k + 1)) + 1 by omega]
      simpa using h2

theorem ACalls_of {f : FuncId} {fn : Func} {c : Code} {args : List AV} {K : AV → St → Prop} (hf : P.funcs[f]? = some fn) (hname : (fn.name == "runtime.NumGoroutine") = false) (hb : fn.body = some c) (hN : fn.ntmps = N) (hl : Nat.ble args.length N = true)
    (h : AC P N c (Fin P fn K) (envOf 0 args) st) : ACalls P f args st K := by
  have hl := Nat.le_of_ble_eq_true hl
  refine ⟨⟨fn, c, hf, hname, hb⟩, fun w vs hrel hs hr => calls_of_wp hf hb ?_⟩
  have hg : Good N (envOf 0 args) st { tmps := vs ++ Array.replicate (fn.ntmps - vs.size) undef, defers := [] } w := by
    refine ⟨by simp; omega, rfl, fun i x hi => ?_, hrel⟩
    obtain ⟨_, h1⟩ := envOf_lookup args 0 i x hi
    simp only [Nat.sub_zero] at h1
    have hlt : i < vs.size := by have := (List.getElem?_eq_some_iff.1 h1).1; omega
    refine ⟨vs[i], by simp [Array.getElem?_append, hlt], hr i x _ h1 (by simp [hlt])⟩
  refine wp_mono (h _ w hg) ?_
  rintro e a' w' ⟨env', st', q, g, x⟩
  cases e <;> simp only [Fin] at q <;> try exact q.elim
  all_goals
    obtain ⟨v, y, st'', h1, h2, h3, h4⟩ := q _ _ _ g
    exact ⟨g.defers, v, h1, v, y, st'', rfl, h2, h4, g.rel.dropS h3, x.trans (Ext.dropS h3) hrel.nodup⟩

/-! ### Bytes -/
theorem S_bytes {src dst e : TypeId} {x : Operand} {b off len cap : Nat} {cs : List AV} {l : List UInt8} (n : Nat) (ho : o.op = .convert src dst x) (hx : AEv env x (.lit (.slice (some ⟨b, off, none⟩) len cap))) (hst : st[n]? = some (b, .cells cs))
    (hc : (cs.drop off).take len = l.map fun c => AV.int .u8 c.toNat) (hlen : l.length = len)
    (hs : P.underlying src = some (.slice e)) (he : P.underlying e = some (.int .u8)) (hd : P.underlying dst = some .string) : PStep P N o env st (.S l) :=
  .of_val fun a w hg => by
    have e1 := (hx _ _ _ _ hg).lit_inv
    obtain ⟨vs, T, k1, k2, k3⟩ := hg.rel.cells b cs (mem_at hst)
    refine ⟨.string ⟨l.toArray⟩, ?_, .lit _⟩
    have hl : (loadCells ⟨b, off, none⟩ len).run P w = .ok ((l.map fun c => (c.toNat : Int)).map (Value.int .u8)).toArray w := by
      subst hlen
      have := run_loadCells_list (P := P) w ⟨b, off, none⟩ ((l.map fun c => (c.toNat : Int)).map (Value.int .u8)) fun j v hv => by
        have hj : j < l.length := by have := (List.getElem?_eq_some_iff.1 hv).1; simpa using this
        have h1 := congrArg (fun l => l[j]?) hc
        simp only [List.getElem?_map, List.getElem?_eq_getElem hj, Option.map_some] at h1 hv
        rw [List.getElem?_take_of_lt hj, List.getElem?_drop] at h1
        cases hv
        rw [Addr.add_mid]
        have hlt : off + j < vs.size := by have := (List.getElem?_eq_some_iff.1 h1).1; omega
        have := k3 _ _ vs[off + j] h1 (by simp [hlt])
        have := this.lit_inv
        simp [World.cell?, k1, hlt, this]
      simpa using this
    have hfold : ∀ (m : List UInt8) (s : ByteArray), (m.map fun c => (c.toNat : Int)).foldl (fun r n => r.push (UInt8.ofNat n.toNat)) s = ⟨s.data ++ m.toArray⟩ := by
      intro m
      induction m with
      | nil => intro s; simp
      | cons c m ih =>
        intro s
        simp only [List.map_cons, List.foldl_cons, Int.toNat_natCast, UInt8.ofNat_toNat]
        rw [ih]
        simp [ByteArray.push]
    simp only [execOp, ho, e1, Sem.run_bind, run_convert_bytes_string w src dst e _ _ _ hs he hd, run_bytesToString w _ _ cap _ hl, Result.andThen_ok, Sem.run_pure, hfold]
    simp only [show ByteArray.empty.data = #[] from rfl, Array.empty_append]
end

end Go.AL
