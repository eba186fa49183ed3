/-
The logic AL: numbers, truths, texts: what each operation yields.
Conditions: none; no program is in sight.
-/
import Derived.Test.YtnjlecejhnoicaaDoorAlCore
import Derived.WalkLawsBesides
set_option linter.unusedVariables false
set_option linter.unusedSimpArgs false
namespace Go.AL
open Go.RowKit

/-- A text, as the list of its bytes. -/
abbrev AV.S (l : List UInt8) : AV := .lit (.string ⟨l.toArray⟩)

theorem toList_S (l : List UInt8) : (⟨l.toArray⟩ : ByteArray).toList = l := by
  rw [ByteArray.toList_eq]
theorem size_S (l : List UInt8) : (⟨l.toArray⟩ : ByteArray).size = l.length := by simp [ByteArray.size]

section
variable {P : Program} {N : Nat} {env : Env} {st : St} {o : Oper}

theorem AEv.S (l : List UInt8) : AEv env (.const (.string ⟨l.toArray⟩)) (.S l) := AEv.const _

/-- An operation that leaves the world alone. -/
theorem PStep.of_val {V : AV} (h : ∀ a w, Good N env st a w → ∃ v, (execOp a.eval o).run P w = .ok (.value v) w ∧ R st w V v) : PStep P N o env st V := by
  intro a w hg next Q hn
  obtain ⟨v, hv, hr⟩ := h a w hg
  unfold Oper.wp
  rw [hv]
  exact hn V st v w ⟨rfl, rfl⟩ hr hg.rel (.refl _ _)

theorem S_move {x : Operand} {y : AV} (ho : o.op = .move x) (hx : AEv env x y) : PStep P N o env st y :=
  .of_val fun a w hg => ⟨_, by simp [execOp, ho], hx _ _ _ _ hg⟩
theorem S_assign {x : Operand} {y : AV} (ho : o.op = .assign x) (hx : AEv env x y) : PStep P N o env st y :=
  .of_val fun a w hg => ⟨_, by simp [execOp, ho], hx _ _ _ _ hg⟩

theorem S_pick {c x y : Operand} {b p q : Bool} (ho : o.op = .pick c x y) (hc : AEv env c (.bool b)) (hx : b = true → AEv env x (.bool p)) (hy : b = false → AEv env y (.bool q)) : PStep P N o env st (.bool (bif b then p else q)) :=
  .of_val fun a w hg => by
    have h1 := (hc _ _ _ _ hg).lit_inv
    refine ⟨if b = true then a.eval x else a.eval y, by simp [execOp, ho, h1, asBool], ?_⟩
    cases b with
    | true => have h2 := (hx rfl _ _ _ _ hg).lit_inv; simp [h2]; exact .lit _
    | false => have h2 := (hy rfl _ _ _ _ hg).lit_inv; simp [h2]; exact .lit _
/-- 'x && y' -/
theorem S_and {c x : Operand} {b p : Bool} (ho : o.op = .pick c x (.const (.bool false))) (hc : AEv env c (.bool b)) (hx : b = true → AEv env x (.bool p)) : PStep P N o env st (.bool (b && p)) := by
  have := S_pick (P := P) (N := N) (st := st) ho hc hx (q := false) (fun _ => .const _)
  cases b <;> simpa using this
/-- 'x || y' -/
theorem S_or {c y : Operand} {b q : Bool} (ho : o.op = .pick c (.const (.bool true)) y) (hc : AEv env c (.bool b)) (hy : b = false → AEv env y (.bool q)) : PStep P N o env st (.bool (b || q)) := by
  have := S_pick (P := P) (N := N) (st := st) ho hc (p := true) (fun _ => .const _) hy
  cases b <;> simpa using this

/-- Two operands that are plain, in whatever world. -/
theorem S_bin {op : BinOp} {t t2 : TypeId} {x y : Operand} {vx vy v : Value} (ho : o.op = .binOp op t x y t2) (hx : AEv env x (.lit vx)) (hy : AEv env y (.lit vy))
    (hgd : eqGuard op t x y vx vy = pure ()) (h : ∀ w, (binOp op t vx vy).run P w = .ok v w) : PStep P N o env st (.lit v) :=
  .of_val fun a w hg => by
    have h1 := (hx _ _ _ _ hg).lit_inv
    have h2 := (hy _ _ _ _ hg).lit_inv
    exact ⟨v, by simp [execOp, ho, h1, h2, hgd, h], .lit _⟩

section ints
variable {t t2 : TypeId} {x y : Operand} {k : IntKind} {a b : Int}
theorem S_add (ho : o.op = .binOp .add t x y t2) (hx : AEv env x (.int k a)) (hy : AEv env y (.int k b)) : PStep P N o env st (.int k (k.wrap (a + b))) :=
  S_bin ho hx hy rfl fun w => by simp [binOp, Op.intArith]
theorem S_sub (ho : o.op = .binOp .sub t x y t2) (hx : AEv env x (.int k a)) (hy : AEv env y (.int k b)) : PStep P N o env st (.int k (k.wrap (a - b))) :=
  S_bin ho hx hy rfl fun w => by simp [binOp, Op.intArith]
theorem S_mul (ho : o.op = .binOp .mul t x y t2) (hx : AEv env x (.int k a)) (hy : AEv env y (.int k b)) : PStep P N o env st (.int k (k.wrap (a * b))) :=
  S_bin ho hx hy rfl fun w => by simp [binOp, Op.intArith]
theorem S_quo (ho : o.op = .binOp .quo t x y t2) (hx : AEv env x (.int k a)) (hy : AEv env y (.int k b)) (hb : b ≠ 0) : PStep P N o env st (.int k (k.wrap (a.tdiv b))) :=
  S_bin ho hx hy rfl fun w => by simp [binOp, Op.intDiv, hb]
theorem S_rem (ho : o.op = .binOp .rem t x y t2) (hx : AEv env x (.int k a)) (hy : AEv env y (.int k b)) (hb : b ≠ 0) : PStep P N o env st (.int k (a.tmod b)) :=
  S_bin ho hx hy rfl fun w => by simp [binOp, Op.intDiv, hb]
theorem S_lss (ho : o.op = .binOp .lss t x y t2) (hx : AEv env x (.int k a)) (hy : AEv env y (.int k b)) : PStep P N o env st (.bool (decide (a < b))) :=
  S_bin ho hx hy rfl fun w => by simp [binOp, Op.intCmp]
theorem S_leq (ho : o.op = .binOp .leq t x y t2) (hx : AEv env x (.int k a)) (hy : AEv env y (.int k b)) : PStep P N o env st (.bool (decide (a ≤ b))) :=
  S_bin ho hx hy rfl fun w => by simp [binOp, Op.intCmp]
theorem S_gtr (ho : o.op = .binOp .gtr t x y t2) (hx : AEv env x (.int k a)) (hy : AEv env y (.int k b)) : PStep P N o env st (.bool (decide (b < a))) :=
  S_bin ho hx hy rfl fun w => by simp [binOp, Op.intCmp]
theorem S_geq (ho : o.op = .binOp .geq t x y t2) (hx : AEv env x (.int k a)) (hy : AEv env y (.int k b)) : PStep P N o env st (.bool (decide (b ≤ a))) :=
  S_bin ho hx hy rfl fun w => by simp [binOp, Op.intCmp]
theorem S_eql (ho : o.op = .binOp .eql t x y t2) (hx : AEv env x (.int k a)) (hy : AEv env y (.int k b)) : PStep P N o env st (.bool (decide (a = b))) :=
  S_bin ho hx hy (eqGuard_at_int ..) fun w => by simp [binOp, Op.intCmp]; rfl
theorem S_neq (ho : o.op = .binOp .neq t x y t2) (hx : AEv env x (.int k a)) (hy : AEv env y (.int k b)) : PStep P N o env st (.bool (!decide (a = b))) :=
  S_bin ho hx hy (eqGuard_at_int ..) fun w => by simp [binOp, Op.intCmp]; rfl
theorem S_bits {op : BinOp} (ho : o.op = .binOp op t x y t2) (hop : op = .and ∨ op = .or ∨ op = .xor) (hx : AEv env x (.int k a)) (hy : AEv env y (.int k b)) : PStep P N o env st (.int k (bits op k a b)) := by
  rcases hop with rfl | rfl | rfl <;> exact S_bin ho hx hy rfl fun w => by simp [binOp, Op.intBits]; rfl
theorem S_shift {op : BinOp} {k2 : IntKind} {v : Value} (ho : o.op = .binOp op t x y t2) (hop : op = .shl ∨ op = .shr) (hx : AEv env x (.int k a)) (hy : AEv env y (.int k2 b)) (h : Op.shift op k a k2 b = pure v) : PStep P N o env st (.lit v) := by
  rcases hop with rfl | rfl <;> exact S_bin ho hx hy rfl fun w => by simp [binOp, h]
end ints

theorem wrap_i64 {n : Int} (h1 : -9223372036854775808 ≤ n) (h2 : n ≤ 9223372036854775807) : IntKind.i64.wrap n = n := by
  simp only [IntKind.wrap, IntKind.bits, IntKind.signed]; simp; omega
theorem wrap_u64 {n : Int} (h1 : 0 ≤ n) (h2 : n ≤ 18446744073709551615) : IntKind.u64.wrap n = n := by
  simp only [IntKind.wrap, IntKind.bits, IntKind.signed]; simp; omega
theorem wrap_u8 {n : Int} (h1 : 0 ≤ n) (h2 : n ≤ 255) : IntKind.u8.wrap n = n := by
  simp only [IntKind.wrap, IntKind.bits, IntKind.signed]; simp; omega
theorem wrap_u8' (n : Int) : IntKind.u8.wrap n = n % 256 := by
  simp only [IntKind.wrap, IntKind.bits, IntKind.signed]; simp

section
variable {t t2 : TypeId} {x y : Operand} {a b : Int}
theorem S_addI (ho : o.op = .binOp .add t x y t2) (hx : AEv env x (.int .i64 a)) (hy : AEv env y (.int .i64 b)) (h1 : -9223372036854775808 ≤ a + b) (h2 : a + b ≤ 9223372036854775807) : PStep P N o env st (.int .i64 (a + b)) := by
  have := S_add (P := P) (N := N) (st := st) ho hx hy; rwa [wrap_i64 h1 h2] at this
theorem S_subI (ho : o.op = .binOp .sub t x y t2) (hx : AEv env x (.int .i64 a)) (hy : AEv env y (.int .i64 b)) (h1 : -9223372036854775808 ≤ a - b) (h2 : a - b ≤ 9223372036854775807) : PStep P N o env st (.int .i64 (a - b)) := by
  have := S_sub (P := P) (N := N) (st := st) ho hx hy; rwa [wrap_i64 h1 h2] at this
theorem S_mulI (ho : o.op = .binOp .mul t x y t2) (hx : AEv env x (.int .i64 a)) (hy : AEv env y (.int .i64 b)) (h1 : -9223372036854775808 ≤ a * b) (h2 : a * b ≤ 9223372036854775807) : PStep P N o env st (.int .i64 (a * b)) := by
  have := S_mul (P := P) (N := N) (st := st) ho hx hy; rwa [wrap_i64 h1 h2] at this
/-- Of whole numbers that are not below 0. -/
theorem S_quoN {k : IntKind} {m n : Nat} (hk : k = .u64 ∨ k = .i64) (ho : o.op = .binOp .quo t x y t2) (hx : AEv env x (.int k m)) (hy : AEv env y (.int k n)) (hn : 0 < n) (hm : m ≤ 9223372036854775807 ∨ k = .u64 ∧ m ≤ 18446744073709551615) : PStep P N o env st (.int k ((m / n : Nat) : Int)) := by
  have := S_quo (P := P) (N := N) (st := st) ho hx hy (by omega)
  have e : (m : Int).tdiv n = ((m / n : Nat) : Int) := by rw [Int.tdiv_eq_ediv_of_nonneg (by omega)]; rfl
  have hle : m / n ≤ m := Nat.div_le_self m n
  generalize m / n = q at *
  rw [e] at this
  rcases hk with rfl | rfl
  · rwa [wrap_u64 (by omega) (by omega)] at this
  · rcases hm with hm | ⟨hk', _⟩
    · rwa [wrap_i64 (by omega) (by omega)] at this
    · cases hk'
theorem S_remN {k : IntKind} {m n : Nat} (ho : o.op = .binOp .rem t x y t2) (hx : AEv env x (.int k m)) (hy : AEv env y (.int k n)) (hn : 0 < n) : PStep P N o env st (.int k ((m % n : Nat) : Int)) := by
  have := S_rem (P := P) (N := N) (st := st) ho hx hy (by omega)
  have e : (m : Int).tmod n = ((m % n : Nat) : Int) := by rw [Int.tmod_eq_emod_of_nonneg (by omega)]; rfl
  rwa [e] at this

/-! Truths -/
theorem S_not {b : Bool} (ho : o.op = .unOp .not t x) (hx : AEv env x (.bool b)) : PStep P N o env st (.bool (!b)) :=
  .of_val fun a w hg => by
    have h1 := (hx _ _ _ _ hg).lit_inv
    exact ⟨_, by simp [execOp, ho, h1, Op.unary], .lit _⟩
theorem S_neg {k : IntKind} {n : Int} (ho : o.op = .unOp .neg t x) (hx : AEv env x (.int k n)) : PStep P N o env st (.int k (k.wrap (-n))) :=
  .of_val fun a w hg => by
    have h1 := (hx _ _ _ _ hg).lit_inv
    exact ⟨.int k (k.wrap (-n)), by simp [execOp, ho, h1, Op.unary, Op.intArith], .lit _⟩

/-! Texts -/
theorem beq_dec (l m : List UInt8) : (l == m) = decide (l = m) := by rw [Bool.eq_iff_iff]; simp
variable {l m : List UInt8}
theorem S_cat (ho : o.op = .binOp .add t x y t2) (hx : AEv env x (.S l)) (hy : AEv env y (.S m)) (h : l.length + m.length ≤ 9223372036854775807) : PStep P N o env st (.S (l ++ m)) :=
  S_bin ho hx hy rfl fun w => by
    have h1 : ¬ (((⟨l.toArray⟩ : ByteArray).size + (⟨m.toArray⟩ : ByteArray).size : Nat) : Int) > IntKind.i64.max := by simp only [size_S, IntKind.max_i64]; omega
    have e : (⟨l.toArray⟩ ++ ⟨m.toArray⟩ : ByteArray) = ⟨(l ++ m).toArray⟩ := by
      rw [ByteArray.ext_iff, ByteArray.data_append]; simp
    simp only [binOp, Op.stringOp]
    rw [if_neg h1, e]
    rfl
theorem S_eqS (ho : o.op = .binOp .eql t x y t2) (hx : AEv env x (.S l)) (hy : AEv env y (.S m)) : PStep P N o env st (.bool (decide (l = m))) :=
  S_bin ho hx hy (eqGuard_at_string ..) fun w => by simp only [binOp, Op.stringOp, toList_S, beq_dec]; rfl
theorem S_neS (ho : o.op = .binOp .neq t x y t2) (hx : AEv env x (.S l)) (hy : AEv env y (.S m)) : PStep P N o env st (.bool (!decide (l = m))) :=
  S_bin ho hx hy (eqGuard_at_string ..) fun w => by simp only [binOp, Op.stringOp, toList_S, beq_dec]; rfl
theorem S_ltS (ho : o.op = .binOp .lss t x y t2) (hx : AEv env x (.S l)) (hy : AEv env y (.S m)) : PStep P N o env st (.bool (Op.bytesLess l m)) :=
  S_bin ho hx hy rfl fun w => by simp only [binOp, Op.stringOp, toList_S]; rfl
theorem S_leS (ho : o.op = .binOp .leq t x y t2) (hx : AEv env x (.S l)) (hy : AEv env y (.S m)) : PStep P N o env st (.bool (Op.bytesLess l m || decide (l = m))) :=
  S_bin ho hx hy rfl fun w => by simp only [binOp, Op.stringOp, toList_S, beq_dec]; rfl
theorem run_equal_bool (w : World) {p q : Bool} (hu : P.underlying t = some .bool) : (Op.equal t (.bool p) (.bool q)).run P w = .ok (p == q) w := by
  unfold Op.equal Op.maxDepth
  rw [Op.equalIn]
  simp only [Sem.run_bind, run_underlying hu, Result.andThen_ok, Sem.run_pure]
theorem S_eqB {p q : Bool} (ho : o.op = .binOp .eql t x y t2) (hx : AEv env x (.bool p)) (hy : AEv env y (.bool q)) (hu : P.underlying t = some .bool) : PStep P N o env st (.bool (p == q)) :=
  S_bin ho hx hy (eqGuard_at_bool ..) fun w => by simp only [binOp, Sem.run_bind, run_equal_bool w hu, Result.andThen_ok, Sem.run_pure]
theorem S_neB {p q : Bool} (ho : o.op = .binOp .neq t x y t2) (hx : AEv env x (.bool p)) (hy : AEv env y (.bool q)) (hu : P.underlying t = some .bool) : PStep P N o env st (.bool (p != q)) :=
  S_bin ho hx hy (eqGuard_at_bool ..) fun w => by simp only [binOp, Sem.run_bind, run_equal_bool w hu, Result.andThen_ok, Sem.run_pure]; rfl
theorem S_lenS {ts : Array TypeId} (ho : o.op = .call { callee := .builtin .len, args := #[x], argTypes := #[t] }) (hx : AEv env x (.S l)) (hu : P.underlying t = some .string) : PStep P N o env st (.int .i64 l.length) :=
  .of_val fun a w hg => by
    have h1 := (hx _ _ _ _ hg).lit_inv
    refine ⟨.int .i64 l.length, ?_, .lit _⟩
    simp only [execOp, ho, resolve, invoke, builtin, Sem.run_bind, Sem.run_pure, Result.andThen_ok]
    simp [h1, Builtin.len_, run_underlying hu, goInt, size_S]
/-- The byte at a place. -/
def atL (l : List UInt8) (i : Int) : Int := ((l.getD i.toNat 0).toNat : Int)
theorem atL_range (l : List UInt8) (i : Int) : 0 ≤ atL l i ∧ atL l i ≤ 255 := by
  unfold atL; have := (l.getD i.toNat 0).toNat_lt; omega
theorem S_index {k : IntKind} {i : Int} (ho : o.op = .index t x y) (hx : AEv env x (.S l)) (hy : AEv env y (.int k i)) (hu : P.underlying t = some .string) (h0 : 0 ≤ i) (h1 : i < l.length) : PStep P N o env st (.int .u8 (atL l i)) :=
  .of_val fun a w hg => by
    have e1 := (hx _ _ _ _ hg).lit_inv
    have e2 := (hy _ _ _ _ hg).lit_inv
    refine ⟨.int .u8 (atL l i), ?_, .lit _⟩
    have hlt : i.toNat < l.length := by omega
    have e : (⟨l.toArray⟩ : ByteArray)[i.toNat]? = some (l.getD i.toNat 0) := by
      have hs : i.toNat < (⟨l.toArray⟩ : ByteArray).size := by rw [size_S]; exact hlt
      rw [ByteArray.getElem?_lt' _ _ hs]
      simp only [ByteArray.getElem_eq_getElem_data, List.getElem_toArray, List.getD_eq_getElem?_getD, List.getElem?_eq_getElem hlt, Option.getD_some]
    simp [execOp, ho, e1, e2, Instr.index, asIntOf, run_underlying hu, h0, e, atL]
theorem extract_S (l : List UInt8) (i j : Nat) : (⟨l.toArray⟩ : ByteArray).extract i j = ⟨((l.take j).drop i).toArray⟩ := by
  rw [ByteArray.ext_iff, ByteArray.data_extract]
  simp only [List.extract_toArray, List.extract_eq_take_drop, List.take_drop]
  rcases Nat.le_total i j with h | h
  · rw [Nat.add_sub_cancel' h]
  · rw [List.drop_eq_nil_of_le (by simp; omega), List.drop_eq_nil_of_le (by simp; omega)]
theorem S_sliceLH {k1 k2 : IntKind} {i j : Int} {lo hi : Operand} (ho : o.op = .slice t x (some lo) (some hi) none) (hx : AEv env x (.S l)) (hl : AEv env lo (.int k1 i)) (hh : AEv env hi (.int k2 j)) (hu : P.underlying t = some .string)
    (h0 : 0 ≤ i) (h1 : i ≤ j) (h2 : j ≤ l.length) : PStep P N o env st (.S ((l.take j.toNat).drop i.toNat)) :=
  .of_val fun a w hg => by
    have e1 := (hx _ _ _ _ hg).lit_inv
    have e2 := (hl _ _ _ _ hg).lit_inv
    have e3 := (hh _ _ _ _ hg).lit_inv
    refine ⟨_, ?_, .lit _⟩
    have b1 := run_sliceBound (P := P) w k2 j (⟨l.toArray⟩ : ByteArray).size .sliceAlen (by omega) (by rw [size_S]; omega)
    have b2 := run_sliceBound (P := P) w k1 i j.toNat .sliceB (by omega) (by omega)
    simp [execOp, ho, e1, e2, e3, Instr.sliceAt, Instr.slice, Instr.sliceBounds, run_underlying hu, b1, b2, extract_S]
theorem S_sliceL {k1 : IntKind} {i : Int} {lo : Operand} (ho : o.op = .slice t x (some lo) none none) (hx : AEv env x (.S l)) (hl : AEv env lo (.int k1 i)) (hu : P.underlying t = some .string)
    (h0 : 0 ≤ i) (h1 : i ≤ l.length) : PStep P N o env st (.S (l.drop i.toNat)) :=
  .of_val fun a w hg => by
    have e1 := (hx _ _ _ _ hg).lit_inv
    have e2 := (hl _ _ _ _ hg).lit_inv
    refine ⟨_, ?_, .lit _⟩
    have b2 := run_sliceBound (P := P) w k1 i (⟨l.toArray⟩ : ByteArray).size .sliceB (by omega) (by rw [size_S]; omega)
    rw [size_S] at b2
    simp [execOp, ho, e1, e2, Instr.sliceAt, Instr.slice, Instr.sliceBounds, run_underlying hu, b2, extract_S, size_S]
theorem S_sliceH {k2 : IntKind} {j : Int} {hi : Operand} (ho : o.op = .slice t x none (some hi) none) (hx : AEv env x (.S l)) (hh : AEv env hi (.int k2 j)) (hu : P.underlying t = some .string)
    (h0 : 0 ≤ j) (h2 : j ≤ l.length) : PStep P N o env st (.S (l.take j.toNat)) :=
  .of_val fun a w hg => by
    have e1 := (hx _ _ _ _ hg).lit_inv
    have e3 := (hh _ _ _ _ hg).lit_inv
    refine ⟨_, ?_, .lit _⟩
    have b1 := run_sliceBound (P := P) w k2 j (⟨l.toArray⟩ : ByteArray).size .sliceAlen (by omega) (by rw [size_S]; omega)
    simp [execOp, ho, e1, e3, Instr.sliceAt, Instr.slice, Instr.sliceBounds, run_underlying hu, b1, extract_S]

/-! Conversions -/
theorem S_conv {src dst : TypeId} {k k' : IntKind} {n : Int} (ho : o.op = .convert src dst x) (hx : AEv env x (.int k n)) (hs : (P.underlying src).isSome = true) (hd : P.underlying dst = some (.int k')) : PStep P N o env st (.int k' (k'.wrap n)) :=
  .of_val fun a w hg => by
    have e1 := (hx _ _ _ _ hg).lit_inv
    obtain ⟨d, hs⟩ := Option.isSome_iff_exists.1 hs
    exact ⟨_, by simp [execOp, ho, e1, convert, run_underlying hs, run_underlying hd, Conv.intToInt], .lit _⟩
theorem S_convS {src dst : TypeId} {l : List UInt8} (ho : o.op = .convert src dst x) (hx : AEv env x (.S l)) (hs : P.underlying src = some .string) (hd : P.underlying dst = some .string) : PStep P N o env st (.S l) :=
  .of_val fun a w hg => by
    have e1 := (hx _ _ _ _ hg).lit_inv
    exact ⟨_, by simp [execOp, ho, e1, convert, run_underlying hs, run_underlying hd], .lit _⟩
end
end

end Go.AL
