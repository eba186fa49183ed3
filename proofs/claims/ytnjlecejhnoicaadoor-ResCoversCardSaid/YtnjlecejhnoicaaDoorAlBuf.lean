/-
The logic AL: buffers of bytes that texts are appended to, and strings.Builder's three steps that are like no other (unsafe pointers, a text out of a buffer).
Conditions: none; no program is in sight.
-/
import Derived.Test.YtnjlecejhnoicaaDoorAlVec
import Derived.Lib.Builder
import Derived.Lib.AppendStr
import Derived.Lib.UnsafeStr
set_option linter.unusedVariables false
set_option linter.unusedSimpArgs false
namespace Go.AL
open Go.RowKit

inductive Buf where
  | nil
  | at (b cap : Nat)
abbrev byteV (x : UInt8) : AV := .int .u8 (x.toNat : Int)
def bytesV (l : List UInt8) : List AV := l.map byteV
def bufAV (q : Buf) (l : List UInt8) : AV := match q with | .nil => .nils | .at b cap => .row b 0 cap (bytesV l)
def bufSt (q : Buf) (e : TypeId) (l : List UInt8) : St := match q with | .at b cap => [(b, .grow e 1 l.length cap)] | .nil => []
def Buf.ok (q : Buf) (l : List UInt8) : Prop := match q with | .at _ cap => l.length ≤ cap ∧ 0 < cap | .nil => l = []
def bufPtr (q : Buf) : AV := match q with | .nil => .nilptr | .at b _ => .ptr b 0
theorem bytesV_len (l : List UInt8) : (bytesV l).length = l.length := by simp [bytesV]
theorem bytesV_append (l s : List UInt8) : bytesV (l ++ s) = bytesV l ++ bytesV s := by simp [bytesV]
theorem bytesV_at {l : List UInt8} {i : Nat} {x : AV} (h : (bytesV l)[i]? = some x) : ∃ c, l[i]? = some c ∧ x = byteV c := by
  simp only [bytesV, List.getElem?_map, Option.map_eq_some_iff] at h
  obtain ⟨c, h1, h2⟩ := h
  exact ⟨c, h1, h2.symm⟩
theorem bufAV_one (q : Buf) (l : List UInt8) : (bufAV q l).one = true := by cases q <;> rfl

section
variable {P : Program} {N : Nat} {Q : Post} {env : Env} {st : St} {o : Oper} {w : World}

theorem row_bytes {st' : St} {w' : World} {b cap e : Nat} {l : List UInt8} {vs : Array Value} (hg : (b, Ob.grow e 1 l.length cap) ∈ st') (hrel : Rel st' w') (hb : w'.heap[b]? = some (.cells vs e (0, 0))) (hcap : l.length ≤ cap)
    (hv : ∀ (i : Nat) c, l[i]? = some c → vs[i]? = some (.int .u8 c.toNat)) : R st' w' (.row b 0 cap (bytesV l)) (.slice (some ⟨b, 0, none⟩) l.length cap) := by
  have := row_of (k := 0) (xs := bytesV l) (size := 1) (e := e) (cap := cap) (by simpa [bytesV_len] using hg) hrel hb (by simpa [bytesV_len] using hcap) (fun i x hx => by obtain ⟨c, _, rfl⟩ := bytesV_at hx; rfl) (fun i x j c hx hc => by
    obtain ⟨d, h1, rfl⟩ := bytesV_at hx
    cases j with
    | zero =>
      simp [AV.cells] at hc
      subst hc
      exact ⟨_, by simpa using hv i d h1, .lit _⟩
    | succ j => simp [AV.cells] at hc)
  simpa [bytesV_len] using this

theorem buf_inv {q : Buf} {l : List UInt8} {v : Value} (h : R st w (bufAV q l) v) : match q with
    | .nil => v = .slice none 0 0
    | .at b cap => v = .slice (some ⟨b, 0, none⟩) l.length cap ∧ ∀ (i : Nat) c, l[i]? = some c → w.cell? ⟨b, i, none⟩ = some (.int .u8 c.toNat) := by
  cases q with
  | nil => exact h.lit_inv
  | «at» b cap =>
    have h : R st w (.row b 0 cap (bytesV l)) v := h
    cases h with
    | row _ _ _ _ sz f h1 h2 h3 h4 =>
      refine ⟨by rw [bytesV_len], fun i c hc => ?_⟩
      have hx : (bytesV l)[i]? = some (byteV c) := by simp [bytesV, hc]
      have hsz : sz = 1 := by have := h2 i _ hx; simpa [AV.cells] using this.symm
      subst hsz
      have k1 := (h3 i _ 0 (byteV c) hx rfl).1
      have k2 := (h4 i _ 0 (byteV c) hx rfl).lit_inv
      rw [k2] at k1
      simpa using k1

theorem strCells_at {s : List UInt8} {i : Nat} : (Lib.strCells ⟨s.toArray⟩)[i]? = (s[i]?).map fun c => Value.int .u8 c.toNat := by
  simp [Lib.strCells]

/-- Bytes of a text behind a buffer's. -/
theorem S_appendStr {t u e : TypeId} {x y : Operand} {q : Buf} {l s : List UInt8} (pre post : St) (ho : o.op = .call { callee := .builtin .append, args := #[x, y], argTypes := #[t, u] }) (hx : AEv env x (bufAV q l)) (hy : AEv env y (.S s)) (hst : st = pre ++ (bufSt q e l ++ post)) (hq : q.ok l)
    (hT : appT P t e 1 1 = true) (hU : P.underlying u = some .string) (hb : l.length + s.length ≤ 140737488355328) :
    Step P N o env st fun z st' => ∃ q' : Buf, q'.ok (l ++ s) ∧ z = bufAV q' (l ++ s) ∧ st' = pre ++ (bufSt q' e (l ++ s) ++ post) := by
  intro a w hg next Q hn
  have hnd := hg.rel.nodup
  obtain ⟨hu, ⟨i, z, hi, hz, hs1, hs2, hzs⟩, _⟩ := appT_spec hT
  have e2 := (hy _ _ _ _ hg).lit_inv
  have hsz : (⟨s.toArray⟩ : ByteArray).size = s.length := by simp [ByteArray.size]
  have h1 := buf_inv (hx _ _ _ _ hg)
  have hsl := Lib.strCells_length ⟨s.toArray⟩
  rw [hsz] at hsl
  have fin : ∀ (v : Value) (w' : World) (b cap : Nat) (vs' : Array Value), (execOp a.eval o).run P w = .ok (.value v) w' → v = .slice (some ⟨b, 0, none⟩) (l ++ s).length cap → (l ++ s).length ≤ cap → 0 < cap → w'.heap[b]? = some (.cells vs' e (0, 0)) →
      (∀ (i : Nat) c, (l ++ s)[i]? = some c → vs'[i]? = some (.int .u8 c.toNat)) → Rel (pre ++ ((b, .grow e 1 (l ++ s).length cap) :: post)) w' → Ext st w (pre ++ ((b, .grow e 1 (l ++ s).length cap) :: post)) w' → o.wp P a w next Q := fun v w' b cap vs' hrun hv hc h0 hh hcells hrel hext => by
    unfold Oper.wp
    rw [hrun, hv]
    exact hn _ _ _ w' ⟨.at b cap, ⟨hc, h0⟩, rfl, rfl⟩ (row_bytes (by simp [bufSt]) hrel hh hc hcells) hrel hext
  have alloc : ∀ (ws : Array Value) (cap : Nat), (execOp a.eval o).run P w = .ok (.value (.slice (some ⟨w.heap.size, 0, none⟩) (l ++ s).length cap)) (w.drew.alloc (.cells ws e)) → ws.size = cap → (l ++ s).length ≤ cap → 0 < cap → cap ≤ maxLen →
      (∀ (i : Nat) c, (l ++ s)[i]? = some c → ws[i]? = some (.int .u8 c.toNat)) → o.wp P a w next Q := fun ws cap hrun hw hc h0 hm hcells => by
    obtain ⟨k1, k2⟩ := alloc_grow (e := e) (size := 1) (k := (l ++ s).length) (cap := cap) (ws := ws) hg.rel (by omega) hc hm
    have hsub : ∀ p, p ∈ (pre ++ ((w.heap.size, .grow e 1 (l ++ s).length cap) :: post) : St) → p ∈ ((w.heap.size, .grow e 1 (l ++ s).length cap) :: st : St) := fun p hp => by
      rw [hst]
      simp only [List.mem_append, List.mem_cons] at hp ⊢
      rcases hp with h | h | h
      · exact .inr (.inl h)
      · exact .inl h
      · exact .inr (.inr (.inr h))
    have hnd2 : ((pre ++ ((w.heap.size, Ob.grow e 1 (l ++ s).length cap) :: post) : St).map (·.1)).Nodup := by
      have h3 := k1.nodup
      rw [hst] at h3
      have hp : ((pre ++ ((w.heap.size, Ob.grow e 1 (l ++ s).length cap) :: post) : St)).Perm ((w.heap.size, Ob.grow e 1 (l ++ s).length cap) :: (pre ++ post)) := List.perm_middle
      refine ((hp.map (·.1)).nodup_iff).2 (List.Nodup.sublist ?_ h3)
      exact (List.Sublist.cons_cons _ (List.Sublist.append (List.Sublist.refl _) (List.sublist_append_right _ _))).map _
    exact fin _ _ w.heap.size cap ws hrun rfl hc h0 (heap_alloc_new w.drew _) hcells (k1.sub hsub hnd2) (k2.trans (Ext.sub hsub) hnd)
  have hmax : (140737488355328 : Nat) ≤ maxLen := by decide
  cases q with
  | nil =>
    have hl : l = [] := hq
    subst hl
    have e1 : a.eval x = .slice none 0 0 := h1
    by_cases hs0 : s = []
    · subst hs0
      have hf := Lib.run_firstCells_string (P := P) w 1 ⟨([] : List UInt8).toArray⟩
      rw [hsz] at hf
      have hn0 : Lib.strCells ⟨([] : List UInt8).toArray⟩ = [] := rfl
      have hrun : (execOp a.eval o).run P w = .ok (.value (.slice none 0 0)) w := by
        simp only [execOp, ho, resolve, invoke, builtin, Sem.run_bind, Sem.run_pure, Result.andThen_ok, List.map_toArray, List.map_cons, List.map_nil, e1, e2]
        simp only [List.length_nil] at hf
        simp [Builtin.append_, run_underlying hu, run_underlying hU, sizeOf, typeInfo, hi, hs1, Builtin.lenOf, hsz, hf]
      unfold Oper.wp
      rw [hrun]
      refine hn _ _ _ w ⟨.nil, rfl, rfl, rfl⟩ (.lit _) ?_ ?_
      · have := hg.rel; rw [hst] at this; exact this
      · rw [hst]; exact .refl _ _
    · have hp : 0 < s.length := List.length_pos_iff.2 hs0
      have hr := run_append_nil_string (P := P) w t u o.type e i z hu hU hi hz ⟨s.toArray⟩ (by omega) (by omega) (by rw [hs2]; omega)
      rw [hsz] at hr
      have hge := grownCap_ge w s.length 0 e
      refine alloc ((⟨s.toArray⟩ : ByteArray).data.map (fun b => Value.int .u8 b.toNat) ++ Builtin.zeroCells z.cells (grownCap w s.length 0 e - s.length)) (grownCap w s.length 0 e) ?_ ?_ (by simpa using hge) (by omega) (grownCap_le_maxLen w s.length 0 e (by omega)) ?_
      · simp only [execOp, ho, resolve, invoke, builtin, Sem.run_bind, Sem.run_pure, Result.andThen_ok, List.map_toArray, List.map_cons, List.map_nil, e1, e2, hr, List.nil_append]
      · simp [size_zeroCells, hzs, hs1]; omega
      · intro k c hc
        simp only [List.nil_append] at hc
        have hk : k < s.length := (List.getElem?_eq_some_iff.1 hc).1
        rw [Array.getElem?_append_left (by simpa using hk)]
        simp [hc]
  | «at» b cap =>
    obtain ⟨hlc, hc0⟩ := hq
    obtain ⟨e1, hcell⟩ := h1
    have hmem : (b, Ob.grow e 1 l.length cap) ∈ st := by rw [hst]; simp [bufSt]
    obtain ⟨vs, g1, g2, g3, g4⟩ := hg.rel.grow b e 1 l.length cap hmem
    have hvs : ∀ (i : Nat) c, l[i]? = some c → vs[i]? = some (.int .u8 c.toNat) := fun i c hc => by
      have := hcell i c hc
      simpa [World.cell?, g1] using this
    by_cases hroom : l.length + s.length ≤ cap
    · have hr := Lib.run_append_room_string (P := P) w t u o.type e i hu hU hi hs1 b l.length cap vs g1 ⟨s.toArray⟩ (by omega) (by omega)
      rw [hsz] at hr
      have hnew := setRow_heap w b vs (vs.toList.take l.length ++ Lib.strCells ⟨s.toArray⟩ ++ vs.toList.drop (l.length + s.length)).toArray e (0, 0) g1
      have hsize : (vs.toList.take l.length ++ Lib.strCells ⟨s.toArray⟩ ++ vs.toList.drop (l.length + s.length)).toArray.size = cap * 1 := by
        simp [hsl]; omega
      have hat : st[pre.length]? = some (b, .grow e 1 l.length cap) := by rw [hst]; simp [bufSt]
      obtain ⟨k1, k2⟩ := grow_rel hg.rel hat (k' := (l ++ s).length) (by simp) (by simpa using hroom) g1 hnew hsize (fun m hm => by
        rw [Nat.mul_one] at hm
        rw [List.append_assoc, List.getElem?_toArray, List.getElem?_append_left (by simp; omega), List.getElem?_take_of_lt hm]
        simp) (fun b' hb' => setRow_other w b b' _ hb') (by simp) rfl rfl rfl
      have hset : st.set pre.length (b, .grow e 1 (l ++ s).length cap) = pre ++ ((b, .grow e 1 (l ++ s).length cap) :: post) := by
        rw [hst]
        simp [bufSt]
      rw [hset] at k1 k2
      refine fin _ _ b cap _ ?_ rfl (by simpa using hroom) hc0 hnew ?_ k1 k2
      · simp only [execOp, ho, resolve, invoke, builtin, Sem.run_bind, Sem.run_pure, Result.andThen_ok, List.map_toArray, List.map_cons, List.map_nil, e1, e2, hr, List.length_append]
      · intro k c hc
        rw [List.getElem?_toArray, List.append_assoc]
        by_cases hk : k < l.length
        · rw [List.getElem?_append_left hk] at hc
          rw [List.getElem?_append_left (by simp; omega), List.getElem?_take_of_lt hk]
          simpa using hvs k c hc
        · rw [List.getElem?_append_right (by omega)] at hc
          have hks : k - l.length < s.length := (List.getElem?_eq_some_iff.1 hc).1
          have htl : (vs.toList.take l.length).length = l.length := by simp; omega
          rw [List.getElem?_append_right (by omega), htl, List.getElem?_append_left (by omega), strCells_at, hc]
          rfl
    · have hpos : 0 < s.length := by omega
      have hlv : l.length ≤ vs.size := by omega
      have holds : ∀ (j : Nat) v, (l.map fun c => Value.int .u8 (c.toNat : Int))[j]? = some v → w.cell? ((⟨b, 0, none⟩ : Addr).add j) = some v := fun j v hv => by
        simp only [List.getElem?_map, Option.map_eq_some_iff] at hv
        obtain ⟨c, hc, rfl⟩ := hv
        have := hcell j c hc
        rw [Addr.add_mid, Nat.zero_add]
        exact this
      have hr := Lib.run_append_grow_string (P := P) w t u o.type e i z hu hU hi hz ⟨b, 0, none⟩ l.length cap (l.map fun c => Value.int .u8 (c.toNat : Int)) (by simp [hs1]) holds ⟨s.toArray⟩ (by omega) (by omega) (by rw [hs2]; exact growslice_fits (by omega) (by omega))
      rw [hsz] at hr
      have hge := grownCap_ge w (l.length + s.length) cap e
      refine alloc ((l.map fun c => Value.int .u8 (c.toNat : Int)).toArray ++ (Lib.strCells ⟨s.toArray⟩).toArray ++ Builtin.zeroCells z.cells (grownCap w (l.length + s.length) cap e - (l.length + s.length))) (grownCap w (l.length + s.length) cap e) ?_ ?_ (by simpa using hge) (by omega) (grownCap_le_maxLen w (l.length + s.length) cap e (by omega)) ?_
      · simp only [execOp, ho, resolve, invoke, builtin, Sem.run_bind, Sem.run_pure, Result.andThen_ok, List.map_toArray, List.map_cons, List.map_nil, e1, e2, hr, List.length_append]
      · simp [size_zeroCells, hzs, hs1, hsl]; omega
      · intro k c hc
        have hk : k < (l ++ s).length := (List.getElem?_eq_some_iff.1 hc).1
        rw [Array.getElem?_append_left (by simp [hsl]; simpa using hk)]
        by_cases hkl : k < l.length
        · rw [List.getElem?_append_left hkl] at hc
          rw [Array.getElem?_append_left (by simpa using hkl)]
          simp [hc]
        · rw [List.getElem?_append_right (by omega)] at hc
          rw [Array.getElem?_append_right (by simp; omega)]
          simp [strCells_at, hc]

/-! The steps of strings.Builder -/
theorem S_toUnsafe {src dst t : TypeId} {x : Operand} {b off T m k : Nat} {cs : List AV} (n : Nat) (ho : o.op = .convert src dst x) (hx : AEv env x (.ptr b off)) (hst : st[n]? = some (b, .cells cs)) (hc : cs[k]? = some (.nilB b T m)) (hs : P.underlying src = some (.pointer t)) (hd : P.underlying dst = some .unsafePointer)
    (hi : (P.info? t).any (fun j => j.size != 0) = true) (hoff : off < m) : PStep P N o env st (.ptr b off) :=
  .of_val fun a w hg => by
    obtain ⟨v, h1, h2, _⟩ := hg.rel.at_ (mem_at hst) hc
    have e := eval_ptr hx hg
    cases h2 with
    | nilB _ _ _ hb hsh =>
      obtain ⟨j, hj, hj0⟩ : ∃ j, P.info? t = some j ∧ j.size ≠ 0 := by
        cases hq : P.info? t with
        | none => simp [hq] at hi
        | some j => exact ⟨j, rfl, by simpa [hq] using hi⟩
      refine ⟨_, ?_, .lit _⟩
      simp only [execOp, ho, e, Sem.run_bind, Lib.run_to_unsafe (P := P) (w := w) ⟨b, off, none⟩ hs hd hj hj0 hsh hoff, Result.andThen_ok, Sem.run_pure]
theorem S_fromUnsafe {src dst t : TypeId} {x : Operand} {b off T m k : Nat} {cs : List AV} (n : Nat) (ho : o.op = .convert src dst x) (hx : AEv env x (.ptr b off)) (hst : st[n]? = some (b, .cells cs)) (hc : cs[k]? = some (.nilB b T m)) (hs : P.underlying src = some .unsafePointer) (hd : P.underlying dst = some (.pointer t))
    (hi : (P.info? t).isSome = true) (hl : liesAt P P.depth T (m / P.cellsOf T) off t 1 = true) : PStep P N o env st (.ptr b off) :=
  .of_val fun a w hg => by
    obtain ⟨v, h1, h2, _⟩ := hg.rel.at_ (mem_at hst) hc
    have e := eval_ptr hx hg
    cases h2 with
    | nilB _ _ _ hb hsh =>
      obtain ⟨j, hj⟩ := Option.isSome_iff_exists.1 hi
      refine ⟨_, ?_, .lit _⟩
      simp only [execOp, ho, e, Sem.run_bind, Lib.run_from_unsafe (P := P) (w := w) ⟨b, off, none⟩ hs hd hj hsh hl, Result.andThen_ok, Sem.run_pure]
theorem S_noEscape {f : FuncId} {fn : Func} {x : Operand} {ts : Array TypeId} {y : AV} (ho : o.op = .call { callee := .value (.func f), args := #[x], argTypes := ts }) (hx : AEv env x y) (hf : P.funcs[f]? = some fn) (h1 : (fn.name == "runtime.NumGoroutine") = false) (h2 : fn.body.isNone = true) (h3 : Extern.findNext fn = none) (h4 : Extern.find fn = some Extern.AbiNoEscape.same) : PStep P N o env st y :=
  .of_val fun a w hg => ⟨a.eval x, by
    simp only [execOp, ho, resolve, Deferred.ofValue, Act.eval, invoke, Sem.run_bind, Sem.run_pure, Result.andThen_ok, List.map_toArray, List.map_cons, List.map_nil, run_callFunc_extern hf h1 h2 h3 h4, Lib.run_noEscape]
    rfl, hx _ _ _ _ hg⟩
def isPtrI (P : Program) (t : TypeId) : Bool := match P.underlying t with | some (.pointer e) => (P.info? e).isSome | _ => false
theorem isPtrI_spec {t : TypeId} (h : isPtrI P t = true) : ∃ e i, P.underlying t = some (.pointer e) ∧ P.info? e = some i := by
  unfold isPtrI at h
  cases hu : P.underlying t with
  | none => simp [hu] at h
  | some d =>
    cases d <;> simp [hu] at h
    obtain ⟨i, hi⟩ := Option.isSome_iff_exists.1 h
    exact ⟨_, i, rfl, hi⟩
theorem run_eqIn_ptr {t : TypeId} {p : Option Addr} (d : Nat) (w : World) (h : isPtrI P t = true) : (Op.equalIn (d + 1) t (.pointer p) (.pointer p)).run P w = .ok true w := by
  obtain ⟨e, i, hu, hi⟩ := isPtrI_spec h
  have hsame : ∀ a : Addr, (sameAddr a a).run P w = .ok true w := fun a => by simp [sameAddr]
  cases p with
  | none => simp [Op.equalIn, run_underlying hu]
  | some a =>
    simp only [Op.equalIn, Sem.run_bind, run_underlying hu, Result.andThen_ok, sizeOf, typeInfo]
    simp [hi, hsame]
theorem run_eq_ptr {t : TypeId} {p : Option Addr} (w : World) (h : isPtrI P t = true) : (Op.equal t (.pointer p) (.pointer p)).run P w = .ok true w := run_eqIn_ptr 9999 w h
theorem S_eqlPtr {t t2 : TypeId} {x y : Operand} {p : Option Addr} (ho : o.op = .binOp .eql t x y t2) (hx : AEv env x (.lit (.pointer p))) (hy : AEv env y (.lit (.pointer p))) (hu : isPtrI P t = true) : PStep P N o env st (.bool true) :=
  S_bin ho hx hy (eqGuard_at_pointer ..) fun w => by simp only [binOp, Sem.run_bind, run_eq_ptr w hu, Result.andThen_ok, Sem.run_pure]
theorem S_neqPtr {t t2 : TypeId} {x y : Operand} {p : Option Addr} (ho : o.op = .binOp .neq t x y t2) (hx : AEv env x (.lit (.pointer p))) (hy : AEv env y (.lit (.pointer p))) (hu : isPtrI P t = true) : PStep P N o env st (.bool false) :=
  S_bin ho hx hy (eqGuard_at_pointer ..) fun w => by simp only [binOp, Sem.run_bind, run_eq_ptr w hu, Result.andThen_ok, Sem.run_pure]; rfl
theorem S_unsafeData {t : TypeId} {x : Operand} {q : Buf} {l : List UInt8} (ho : o.op = .call { callee := .builtin .unsafeSliceData, args := #[x], argTypes := #[t] }) (hx : AEv env x (bufAV q l)) (hq : q.ok l) : PStep P N o env st (bufPtr q) :=
  .of_val fun a w hg => by
    have h := buf_inv (hx _ _ _ _ hg)
    cases q with
    | nil =>
      have h : a.eval x = .slice none 0 0 := h
      refine ⟨.pointer none, ?_, .lit _⟩
      simp only [execOp, ho, resolve, invoke, builtin, Sem.run_bind, Sem.run_pure, Result.andThen_ok, List.map_toArray, List.map_cons, List.map_nil, h, Lib.run_unsafeSliceData_nil]
    | «at» b cap =>
      have h := h.1
      have hc := hq.2
      refine ⟨.pointer (some ⟨b, 0, none⟩), ?_, .lit _⟩
      simp only [execOp, ho, resolve, invoke, builtin, Sem.run_bind, Sem.run_pure, Result.andThen_ok, List.map_toArray, List.map_cons, List.map_nil, h, Lib.run_unsafeSliceData_row w _ _ _ _ _ (show cap ≠ 0 by omega), Result.andThen_ok]

/-- A text out of a buffer: the buffer stays as it is from here on. -/
theorem S_unsafeString {pt it e : TypeId} {x y : Operand} {q : Buf} {l : List UInt8} {b0 n k : Nat} {cs : List AV} (pre post : St) (ho : o.op = .call { callee := .builtin .unsafeString, args := #[x, y], argTypes := #[pt, it] }) (hx : AEv env x (bufPtr q)) (hy : AEv env y (.int .i64 l.length)) (hat : st[n]? = some (b0, .cells cs)) (hck : cs[k]? = some (bufAV q l)) (hst : st = pre ++ (bufSt q e l ++ post)) (hq : q.ok l)
    (hp : P.underlying pt = some (.pointer e)) (hc : P.cellsOf e = 1) : Step P N o env st fun z st' => z = .S l ∧ st' = pre ++ post := by
  intro a w hg next Q hn
  have hnd := hg.rel.nodup
  have e2 := (hy _ _ _ _ hg).lit_inv
  have e1 : a.eval x = (match q with | .nil => .pointer none | .at b _ => .pointer (some ⟨b, 0, none⟩)) := by
    cases q <;> exact (hx _ _ _ _ hg).lit_inv
  obtain ⟨vb, _, hvb, _⟩ := hg.rel.at_ (mem_at hat) hck
  have hb := buf_inv hvb
  have hsub : Sub (pre ++ post) st := by rw [hst]; exact .l (List.Sublist.append (List.Sublist.refl _) (List.sublist_append_right _ _))
  by_cases hl : l = []
  · subst hl
    have hrun : (execOp a.eval o).run P w = .ok (.value (.string .empty)) w := by
      simp only [execOp, ho, resolve, invoke, builtin, Sem.run_bind, Sem.run_pure, Result.andThen_ok, List.map_toArray, List.map_cons, List.map_nil, e1, e2, List.length_nil]
      cases q <;> simp only [show ((0 : Nat) : Int) = 0 from rfl, Lib.run_unsafeString_none, Result.andThen_ok] <;> rfl
    unfold Oper.wp
    rw [hrun]
    exact hn (.S []) _ _ w ⟨rfl, rfl⟩ (.lit _) (hg.rel.dropS hsub) (Ext.dropS hsub)
  · cases q with
    | nil => exact absurd hq hl
    | «at» b cap =>
      obtain ⟨hlc, hc0⟩ := hq
      obtain ⟨_, hcell⟩ := hb
      have hmem : (b, Ob.grow e 1 l.length cap) ∈ st := by rw [hst]; simp [bufSt]
      obtain ⟨vs, g1, g2, g3, g4⟩ := hg.rel.grow b e 1 l.length cap hmem
      have hpos : 0 < l.length := List.length_pos_iff.2 hl
      have h63 : cap ≤ 9223372036854775807 := by unfold maxLen at g4; omega
      have hrun : (execOp a.eval o).run P w = .ok (.value (.string ⟨l.toArray⟩)) (w.freeze ⟨b, 0, none⟩ l.length) := by
        simp only [execOp, ho, resolve, invoke, builtin, Sem.run_bind, Sem.run_pure, Result.andThen_ok, List.map_toArray, List.map_cons, List.map_nil, e1, e2,
          Lib.run_unsafeString_row (P := P) w pt it o.type e hp hc b vs.size (by simp [World.shape?, g1]) l hl (by omega) (by omega) (fun j c hj => by rw [Addr.add_mid, Nat.zero_add]; exact hcell j c hj)]
      have hfz : w.freeze ⟨b, 0, none⟩ l.length = { w with heap := w.heap.modify b fun | .cells c elem (lo, hi) => .cells c elem (if lo == hi then (0, 0 + l.length) else (min lo 0, max hi (0 + l.length))) | o => o } := by
        unfold World.freeze
        rw [if_neg (by omega)]
        rfl
      have hother : ∀ b', b' ≠ b → (w.freeze ⟨b, 0, none⟩ l.length).heap[b']? = w.heap[b']? := fun b' hne => by
        rw [hfz]; simp only [Array.getElem?_modify]; rw [if_neg (fun h => hne h.symm)]
      have hthis : (w.freeze ⟨b, 0, none⟩ l.length).heap[b]? = some (.cells vs e (0, 0 + l.length)) := by
        rw [hfz]; simp only [Array.getElem?_modify, if_true, g1, Option.map_some]; rfl
      have hcells : ∀ a : Addr, (w.freeze ⟨b, 0, none⟩ l.length).cell? a = w.cell? a := fun a => by
        by_cases h : a.block = b
        · simp only [World.cell?, h, hthis, g1]
        · simp only [World.cell?, hother _ h]
      have hnk : ∀ p, p ∈ (pre ++ post : St) → p.1 ≠ b := fun p hp hpb => by
        rw [hst] at hnd
        have hpm : ((pre ++ (bufSt (.at b cap) e l ++ post) : St)).Perm ((b, Ob.grow e 1 l.length cap) :: (pre ++ post)) := List.perm_middle
        have h1 := (hpm.map (·.1)).nodup_iff.1 hnd
        simp only [List.map_cons, List.nodup_cons] at h1
        exact h1.1 (List.mem_map.2 ⟨p, hp, hpb⟩)
      have hext : Ext st w (pre ++ post) (w.freeze ⟨b, 0, none⟩ l.length) := by
        refine ⟨by rw [hfz], by rw [hfz], by rw [hfz], fun b' hb' => ?_, by rw [hfz]; simp, fun b' hb' hk => hother b' (fun h => by subst h; exact hk _ hmem), fun b' e' size n cap' hb' hm off hoff => hcells _, fun b' off hb' ⟨o, h1, h2⟩ => ⟨o, hsub.mem _ h1, h2⟩, fun b' us hb' hg => hother b' fun h => by subst h; have := key_unique hnd hg hmem; cases this⟩
        by_cases h : b' = b
        · subst h; simp only [World.shape?, hthis, g1]
        · simp only [World.shape?, hother _ h]
      unfold Oper.wp
      rw [hrun]
      refine hn (.S l) _ _ _ ⟨rfl, rfl⟩ (.lit _) ⟨hsub.nodup hnd, fun b' cs hb' => ?_, fun b' e' size n cap' hb' => ?_, fun b' us hb' => hext.konst_rel hg.rel (hsub.mem _ hb')⟩ hext
      · obtain ⟨us, T, k1, k2, k3⟩ := hg.rel.cells b' cs (hsub.mem _ hb')
        exact ⟨us, T, by rw [hother b' (hnk _ hb')]; exact k1, k2, fun i c v h1 h2 => (k3 i c v h1 h2).mono hext hnd⟩
      · obtain ⟨us, k1, k2⟩ := hg.rel.grow b' e' size n cap' (hsub.mem _ hb')
        exact ⟨us, by rw [hother b' (hnk _ hb')]; exact k1, k2⟩

/-- A new variable whose first cell is a builder's that was not used. -/
theorem S_boxB {e : TypeId} {x : Operand} {cs : List AV} (ho : o.op = .box e x) (hx : AEv env x (.agg (.nilptr :: cs))) :
    Step P N o env st fun y st' => ∃ b, y = .ptr b 0 ∧ st' = (b, .cells (.nilB b e (cs.length + 1) :: cs)) :: st := by
  intro a w hg next Q hn
  have hr := hx _ _ _ _ hg
  obtain ⟨vs, e1, hk⟩ : ∃ vs, a.eval x = .agg vs ∧ vs.size = (AV.nilptr :: cs).length ∧ ∀ (i : Nat) c v, (AV.nilptr :: cs)[i]? = some c → vs[i]? = some v → R st w c v := by
    generalize a.eval x = u at hr
    cases hr with
    | agg _ vs hn h => exact ⟨vs, rfl, hn.symm, h⟩
  have hrun : (execOp a.eval o).run P w = .ok (.value (.pointer (some ⟨w.heap.size, 0, none⟩))) (w.alloc (.cells vs e)) := by
    simp [execOp, ho, e1, Instr.box, newVar, newRow, Value.cells]
  obtain ⟨h1, h2⟩ := alloc_rel hg.rel (ob := .cells (.nilptr :: cs)) (vs := vs) (T := e) hk
  have hnew : (w.alloc (.cells vs e)).heap[w.heap.size]? = some (.cells vs e) := heap_alloc_new w _
  obtain ⟨h3, h4⟩ := write_rel (n := 0) (cs' := .nilB w.heap.size e (cs.length + 1) :: cs) (w' := w.alloc (.cells vs e)) h1 rfl ⟨vs, hnew, rfl⟩ hnew (fun _ _ => rfl) rfl rfl rfl rfl (by simpa using hk.1) (fun i c v hc hv => by
    have h0 := hk.2
    cases i with
    | zero =>
      simp at hc
      subst hc
      have := (h0 0 _ v rfl hv).lit_inv
      subst this
      exact .nilB _ _ _ (by simp) (by simp only [World.shape?, hnew]; rw [hk.1]; simp)
    | succ i => exact (h0 (i + 1) c v hc hv).mono h2 hg.rel.nodup)
  unfold Oper.wp
  rw [hrun]
  exact hn _ _ _ _ ⟨_, rfl, rfl⟩ (.lit _) h3 (h2.trans h4 hg.rel.nodup)
theorem S_allocB {e : TypeId} (zs : List Value) (ho : o.op = .alloc e) (hz : (P.info? e).map (fun i => i.zero.map (·.cells.toList)) = some (some (.pointer none :: zs))) :
    Step P N o env st fun x st' => ∃ b, x = .ptr b 0 ∧ st' = (b, .cells (.nilB b e (zs.length + 1) :: zs.map .lit)) :: st := by
  intro a w hg next Q hn
  have hrun : (execOp a.eval o).run P w = .ok (.value (.pointer (some ⟨w.heap.size, 0, none⟩))) (w.alloc (.cells (.pointer none :: zs).toArray e)) := by
    cases hq : P.info? e with
    | none => simp [hq] at hz
    | some q =>
      cases hqz : q.zero with
      | none => simp [hq, hqz] at hz
      | some z =>
        have hc : z.cells = (.pointer none :: zs).toArray := by simp [hq, hqz] at hz; rw [← hz]
        simp [execOp, ho, Instr.alloc, zeroValue, typeInfo, hq, hqz, newVar, newRow, hc]
  obtain ⟨h1, h2⟩ := alloc_rel hg.rel (ob := .cells (.nilptr :: zs.map .lit)) (vs := (.pointer none :: zs).toArray) (T := e) ⟨by simp, fun i c v hc hv => by
    cases i with
    | zero => simp at hc hv; subst hc; subst hv; exact .lit _
    | succ i =>
      simp at hc hv
      rw [hv] at hc
      simp at hc
      subst hc
      exact .lit _⟩
  have hnew : (w.alloc (.cells (.pointer none :: zs).toArray e)).heap[w.heap.size]? = some (.cells (.pointer none :: zs).toArray e) := heap_alloc_new w _
  obtain ⟨h3, h4⟩ := write_rel (n := 0) (cs' := .nilB w.heap.size e (zs.length + 1) :: zs.map .lit) (w' := w.alloc (.cells (.pointer none :: zs).toArray e)) h1 rfl ⟨_, hnew, rfl⟩ hnew (fun _ _ => rfl) rfl rfl rfl rfl (by simp) (fun i c v hc hv => by
    cases i with
    | zero =>
      simp at hc hv
      subst hc; subst hv
      exact .nilB _ _ _ (by simp) (by simp only [World.shape?, hnew]; simp)
    | succ i =>
      simp at hc hv
      rw [hv] at hc
      simp at hc
      subst hc
      exact .lit _)
  unfold Oper.wp
  rw [hrun]
  exact hn _ _ _ _ ⟨_, rfl, rfl⟩ (.lit _) h3 (h2.trans h4 hg.rel.nodup)
/-- What a builder's first cell is. -/
def addrB (u : Bool) (b : Nat) (T : TypeId) (m : Nat) : AV := match u with | true => .ptr b 0 | false => .nilB b T m
end
end Go.AL
