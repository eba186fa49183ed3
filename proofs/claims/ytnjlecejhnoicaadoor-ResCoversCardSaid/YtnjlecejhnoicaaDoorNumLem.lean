/-
What the walks of layer 1 come to, as plain equations.
Conditions: none; no program is in sight.
-/
import Derived.Test.YtnjlecejhnoicaaDoorAlMore
import Derived.Test.YtnjlecejhnoicaaDoorNumSpec
set_option linter.unusedVariables false
set_option linter.unusedSimpArgs false
namespace Go.AL
open Go.NumSpec

theorem i64w (n : Int) : IntKind.i64.wrap n = (n + 9223372036854775808) % 18446744073709551616 - 9223372036854775808 := IntKind.wrap_i64 n
theorem u64w (n : Int) : IntKind.u64.wrap n = n % 18446744073709551616 := by simp [IntKind.wrap, IntKind.bits, IntKind.signed]
theorem u8w (n : Int) : IntKind.u8.wrap n = n % 256 := by simp [IntKind.wrap, IntKind.bits, IntKind.signed]

abbrev okAV (p : Int × Bool) : AV := .tup [.int .i64 p.1, .bool p.2]

theorem add_no {a b : Int} (ha : fits a) (hb : fits b) (h : ¬ fits (a + b)) : AV.tup [.int .i64 0, .bool false] = okAV (addV a b) := by
  rw [addV, if_neg h]
theorem add_yes {a b : Int} (h : fits (a + b)) : AV.tup [.int .i64 (IntKind.i64.wrap (a + b)), .bool true] = okAV (addV a b) := by
  rw [addV, if_pos h, wrap_i64 h.1 h.2]
theorem mul_no {a b : Int} (h : ¬ fits (a * b)) : AV.tup [.int .i64 0, .bool false] = okAV (mulV a b) := by
  rw [mulV, if_neg h]
theorem mul_yes {a b : Int} (h : fits (a * b)) : AV.tup [.int .i64 (IntKind.i64.wrap (a * b)), .bool true] = okAV (mulV a b) := by
  rw [mulV, if_pos h, wrap_i64 h.1 h.2]
theorem mul_zero {a b : Int} (h : a = 0 ∨ b = 0) : AV.tup [.int .i64 0, .bool true] = okAV (mulV a b) := by
  have e : a * b = 0 := by rcases h with rfl | rfl <;> simp
  rw [mulV, e, if_pos (by decide)]

/-- The program's test: a product divided is what it was, just if it fits. -/
theorem mul_test {a b : Int} (ha : fits a) (hb : fits b) (hb0 : b ≠ 0) (hs : ¬ (a = -1 ∧ b = -9223372036854775808) ∧ ¬ (b = -1 ∧ a = -9223372036854775808)) :
    IntKind.i64.wrap ((IntKind.i64.wrap (a * b)).tdiv b) = a ↔ fits (a * b) := by
  unfold fits at *
  constructor
  · intro h
    have hp := i64w (a * b)
    generalize hP : IntKind.i64.wrap (a * b) = p at *
    have hpr : -9223372036854775808 ≤ p ∧ p ≤ 9223372036854775807 := by omega
    have hd : b * p.tdiv b + p.tmod b = p := Int.mul_tdiv_add_tmod p b
    have hm : (p.tmod b).natAbs < b.natAbs := by rw [Int.natAbs_tmod]; exact Nat.mod_lt _ (by omega)
    have hq : (p.tdiv b).natAbs ≤ p.natAbs := by rw [Int.natAbs_tdiv]; exact Nat.div_le_self _ _
    have hw := i64w (p.tdiv b)
    rw [h] at hw
    generalize p.tdiv b = q at *
    generalize p.tmod b = r at *
    have hqa : q = a := by
      by_cases hq2 : q = 9223372036854775808
      · exfalso
        subst hq2
        have ha' : a = -9223372036854775808 := by omega
        have : b = -1 := by
          have h1 : b * 9223372036854775808 + r = p := hd
          omega
        exact hs.2 ⟨this, ha'⟩
      · omega
    subst hqa
    have hc : b * q = q * b := Int.mul_comm _ _
    rw [hc] at hd
    generalize q * b = m at *
    omega
  · intro h
    rw [wrap_i64 h.1 h.2, Int.mul_tdiv_cancel _ hb0, wrap_i64 ha.1 ha.2]

theorem natAbs_mul_fits {a b : Int} (ha : fits a) (hb : fits b) (x y most : Nat) (hx : x = a.natAbs) (hy : y = b.natAbs) (hm : most = if (a < 0) ↔ (b < 0) then 9223372036854775807 else 9223372036854775808) : fits (a * b) ↔ x * y ≤ most := by
  subst hx; subst hy
  have e : (a * b).natAbs = a.natAbs * b.natAbs := Int.natAbs_mul a b
  rw [← e, hm]
  unfold fits
  have hsign : (a * b < 0 → ¬ ((a < 0) ↔ (b < 0))) ∧ (0 < a * b → ((a < 0) ↔ (b < 0))) := by
    constructor
    · intro h1 h2
      have : 0 ≤ a * b := by
        by_cases ha0 : a < 0
        · exact Int.mul_nonneg_of_nonpos_of_nonpos (by omega) (by have := h2.1 ha0; omega)
        · exact Int.mul_nonneg (by omega) (by by_cases hb0 : b < 0; exact absurd (h2.2 hb0) ha0; omega)
      omega
    · intro h1
      by_cases ha0 : a < 0
      · refine ⟨fun _ => ?_, fun _ => ha0⟩
        by_cases h : b < 0
        · exact h
        · have := Int.mul_nonpos_of_nonpos_of_nonneg (a := a) (b := b) (by omega) (by omega); omega
      · refine ⟨fun h => absurd h ha0, fun h => ?_⟩
        have := Int.mul_nonpos_of_nonneg_of_nonpos (a := a) (b := b) (by omega) (by omega); omega
  generalize a * b = p at *
  by_cases h : (a < 0) ↔ (b < 0)
  · rw [if_pos h]
    have : ¬ p < 0 := fun h0 => hsign.1 h0 h
    omega
  · rw [if_neg h]
    have : ¬ 0 < p := fun h0 => h (hsign.2 h0)
    omega

theorem div_test {x y most : Nat} : ¬ (0 < x ∧ most / x < y) ↔ x * y ≤ most := by
  rcases Nat.eq_zero_or_pos x with rfl | hx
  · simp
  · have := Nat.le_div_iff_mul_le hx (x := y) (y := most)
    rw [Nat.mul_comm] at this
    omega

/-! The bytes of a number, in an array of ten -/
def pad (l : List UInt8) (m : Nat) : List AV := (l.map fun c => AV.int .u8 c.toNat) ++ List.replicate (m - l.length) (.int .u8 0)
structure PutInv (n : Nat) (g : Nat × List UInt8) : Prop where
  eq : g.2 ++ putL g.1 = putL n
  lt : g.1 * 128 ^ g.2.length < 18446744073709551616
  le : g.2.length ≤ 9
theorem put_next {n m : Nat} {l : List UInt8} (h : PutInv n (m, l)) (hm : 128 ≤ m) : PutInv n (m / 128, l ++ [UInt8.ofNat (m % 128 + 128)]) := by
  have h1 := h.eq
  have h2 := h.lt
  have h3 := h.le
  dsimp only at h1 h2 h3
  have h4 : m / 128 * 128 ^ (l.length + 1) < 18446744073709551616 := by
    rw [Nat.pow_succ, Nat.mul_comm (128 ^ l.length), ← Nat.mul_assoc]
    refine Nat.lt_of_le_of_lt (Nat.mul_le_mul_right _ ?_) h2
    omega
  refine ⟨?_, by simpa using h4, ?_⟩
  · rw [← h1]
    conv => rhs; rw [putL, if_neg (by omega)]
    simp
  · simp only [List.length_append, List.length_cons, List.length_nil]
    rcases Nat.lt_or_ge l.length 9 with h | h
    · omega
    · exfalso
      have e : l.length = 9 := by omega
      rw [e] at h4
      have h5 : (128 : Nat) ^ (9 + 1) = 1180591620717411303424 := by decide
      rw [h5] at h4
      have : 1 * 1180591620717411303424 ≤ m / 128 * 1180591620717411303424 := Nat.mul_le_mul_right _ (by omega)
      omega
theorem pad_set {l : List UInt8} {c : UInt8} {i : Int} (hi : i = c.toNat) (h : l.length ≤ 9) : (pad l 10).set (0 + (l.length : Int).toNat * 1) (.int .u8 i) = pad (l ++ [c]) 10 := by
  subst hi
  have e1 : 0 + (l.length : Int).toNat * 1 = (l.map fun c => AV.int .u8 c.toNat).length + 0 := by simp
  unfold pad
  rw [e1, List.set_append_right _ _ (by omega)]
  have e2 : List.replicate (10 - l.length) (AV.int .u8 0) = AV.int .u8 0 :: List.replicate (10 - (l.length + 1)) (.int .u8 0) := by
    rw [show 10 - l.length = (10 - (l.length + 1)) + 1 by omega, List.replicate_succ]
  rw [e2]
  simp
theorem pad_len {l : List UInt8} (h : l.length ≤ 10) : (pad l 10).length = 10 := by simp [pad]; omega
theorem pad_take {l : List UInt8} : ((pad l 10).drop (0 + 0 * 1)).take l.length = l.map fun c => AV.int .u8 c.toNat := by
  unfold pad
  simp

/-! The digits of a number, in an array of twenty, from behind -/
def padR (l : List UInt8) : List AV := List.replicate (20 - l.length) (.int .u8 0) ++ l.map fun c => AV.int .u8 c.toNat
structure DigInv (n : Nat) (g : Nat × List UInt8) : Prop where
  eq : digL g.1 ++ g.2 = digL n
  lt : g.1 < 18446744073709551616
  len : (digL n).length ≤ 20
theorem dig_le {n m : Nat} {l : List UInt8} (h : DigInv n (m, l)) : l.length ≤ 19 := by
  have h1 := congrArg List.length h.eq
  have h2 := h.len
  have h3 := List.length_pos_iff.2 (digL_ne m)
  simp at h1
  omega
theorem dig_end {n m : Nat} {l : List UInt8} (h : DigInv n (m, l)) (hm : m / 10 = 0) : UInt8.ofNat (48 + m % 10) :: l = digL n := by
  rw [← h.eq]
  rw [digL, if_pos (by omega), show m % 10 = m by omega]
  rfl
theorem dig_next {n m : Nat} {l : List UInt8} (h : DigInv n (m, l)) (hm : m / 10 ≠ 0) : DigInv n (m / 10, UInt8.ofNat (48 + m % 10) :: l) := by
  have h2 := h.lt
  dsimp only at h2
  refine ⟨?_, by dsimp only; omega, h.len⟩
  rw [← h.eq]
  conv => rhs; rw [digL, if_neg (by omega)]
  simp
theorem padR_set {l : List UInt8} {c : UInt8} {i j : Int} (hj : j = ((20 - l.length : Nat) : Int) - 1) (hi : i = c.toNat) (h : l.length ≤ 19) : (padR l).set (0 + j.toNat * 1) (.int .u8 i) = padR (c :: l) := by
  subst hi
  have e1 : 0 + j.toNat * 1 = 19 - l.length := by omega
  unfold padR
  rw [e1, List.set_append_left _ _ (by simp; omega)]
  have e2 : List.replicate (20 - l.length) (AV.int .u8 0) = List.replicate (19 - l.length) (.int .u8 0) ++ [.int .u8 0] := by
    rw [show 20 - l.length = (19 - l.length) + 1 by omega, List.replicate_succ']
  rw [e2, List.set_append_right _ _ (by simp)]
  simp
theorem padR_len {l : List UInt8} (h : l.length ≤ 20) : (padR l).length = 20 := by simp [padR]; omega
theorem padR_drop {l : List UInt8} (h : l.length ≤ 20) : ((padR l).drop (0 + (20 - l.length) * 1)).take l.length = l.map fun c => AV.int .u8 c.toNat := by
  unfold padR
  rw [List.drop_append_of_le_length (by simp)]
  simp
  rw [List.take_of_length_le (by simp)]

/-- Bits that don't meet. -/
theorem or_add (n c k : Nat) (hn : n < 2 ^ k) : n ||| c * 2 ^ k = n + c * 2 ^ k := by
  rw [Nat.or_comm, Nat.mul_comm]
  have := Nat.two_pow_add_eq_or_of_lt hn c
  omega

theorem bits_or (m n : Nat) (hm : m < 18446744073709551616) (hn : n < 18446744073709551616) : bits .or .u64 (m : Int) (n : Int) = IntKind.u64.wrap ((m ||| n : Nat) : Int) := by
  simp only [bits]
  congr 2
  rw [BitVec.toNat_or, BitVec.toNat_ofInt, BitVec.toNat_ofInt]
  have : (2 ^ IntKind.u64.bits : Nat) = 18446744073709551616 := by decide
  rw [this]
  congr 1 <;> omega

/-! Taking a number's bytes -/
theorem lead_take {l : List UInt8} {k : Nat} (h : k ≤ (lead l).length) : l.take k = (lead l).take k := by
  conv => lhs; rw [split_lead l]
  rw [List.take_append_of_le_length h]
theorem getD_drop {l : List UInt8} {k : Nat} (h : k < l.length) : l.drop k = l.getD k 0 :: l.drop (k + 1) := by
  rw [List.drop_eq_getElem_cons h]
  simp [h]
theorem lead_lt {l : List UInt8} {k : Nat} (h : k < (lead l).length) : 128 ≤ (l.getD k 0).toNat := by
  have h1 : l.getD k 0 = (lead l).getD k 0 := by
    conv => lhs; rw [split_lead l]
    simp only [List.getD_eq_getElem?_getD]
    rw [List.getElem?_append_left h]
  rw [h1]
  refine lead_more l _ ?_
  simp [h]
theorem lead_grow {l : List UInt8} {k : Nat} (h : k ≤ (lead l).length) (hk : k < l.length) (hc : 128 ≤ (l.getD k 0).toNat) : k + 1 ≤ (lead l).length := by
  rcases Nat.lt_or_ge k (lead l).length with h1 | h1
  · exact h1
  · have e : k = (lead l).length := by omega
    have := next_small l (l.getD k 0) (l.drop (k + 1)) (by rw [← e]; exact getD_drop hk)
    omega
theorem lead_stop {l : List UInt8} {k : Nat} (h : k ≤ (lead l).length) (hk : k < l.length) (hc : (l.getD k 0).toNat < 128) : (lead l).length = k ∧ lead l = l.take k := by
  have h1 : (lead l).length = k := by
    rcases Nat.lt_or_ge k (lead l).length with h1 | h1
    · have := lead_lt h1; omega
    · omega
  exact ⟨h1, by rw [lead_take h, ← h1, List.take_length]⟩
theorem lead_le (l : List UInt8) : (lead l).length ≤ l.length := by
  exact (List.takeWhile_prefix (fun c : UInt8 => decide (128 ≤ c.toNat)) (l := l)).length_le
theorem take_end {l : List UInt8} (h : l.length ≤ (lead l).length) : takeV l = (0, 0) := by
  unfold takeV
  rw [List.drop_eq_nil_of_le h]
theorem take_long {l : List UInt8} (h : 10 ≤ (lead l).length) : takeV l = (0, 0) := by
  unfold takeV
  split
  · rfl
  · rw [if_neg (by omega)]
theorem take_at {l : List UInt8} {k : Nat} (h : k ≤ (lead l).length) (hk : k < l.length) (hc : (l.getD k 0).toNat < 128) :
    takeV l = if (k ≤ 8 ∨ k = 9 ∧ (l.getD k 0).toNat ≤ 1) ∧ (k = 0 ∨ (l.getD k 0).toNat ≠ 0) then (dv (l.take (k + 1)), k + 1) else (0, 0) := by
  obtain ⟨h1, h2⟩ := lead_stop h hk hc
  unfold takeV
  rw [h1, getD_drop hk]
  simp only
  have e : l.take (k + 1) = l.take k ++ [l.getD k 0] := by
    rw [List.take_succ_eq_append_getElem hk]; simp [hk]
  have e2 : (lead l = []) ↔ k = 0 := by
    rw [← h1]; exact ⟨fun h => by rw [h]; rfl, fun h => List.eq_nil_of_length_eq_zero h⟩
  rw [e, ← h2]
  simp only [e2]
theorem dv_take {l : List UInt8} {k : Nat} (hk : k < l.length) : dv (l.take (k + 1)) = dv (l.take k) + (l.getD k 0).toNat % 128 * 128 ^ k := by
  have e : l.take (k + 1) = l.take k ++ [l.getD k 0] := by
    rw [List.take_succ_eq_append_getElem hk]; simp [hk]
  rw [e, dv_snoc, List.length_take, Nat.min_eq_left (by omega)]
theorem atL_nat (l : List UInt8) (k : Nat) : atL l (k : Int) = ((l.getD k 0).toNat : Int) := by simp [atL]
/-- One byte more, as the program reckons it. -/
theorem take_step {l : List UInt8} {k : Nat} (hk : k < l.length) (h9 : k ≤ 9) (hc : k = 9 → (l.getD k 0).toNat ≤ 1) :
    bits .or .u64 (dv (l.take k) : Int) (IntKind.u64.wrap ((IntKind.u64.wrap (atL l (k : Int))).tmod 128 * 2 ^ (IntKind.u64.wrap (7 * IntKind.u64.wrap (k : Int))).toNat)) = (dv (l.take (k + 1)) : Int) := by
  have h255 := (l.getD k 0).toNat_lt
  rw [atL_nat, wrap_u64 (n := ((l.getD k 0).toNat : Int)) (by omega) (by omega), wrap_u64 (n := (k : Int)) (by omega) (by omega), wrap_u64 (n := 7 * (k : Int)) (by omega) (by omega)]
  have e1 : ((l.getD k 0).toNat : Int).tmod 128 = (((l.getD k 0).toNat % 128 : Nat) : Int) := by rw [Int.tmod_eq_emod_of_nonneg (by omega)]; rfl
  have e2 : (7 * (k : Int)).toNat = 7 * k := by omega
  rw [e1, e2]
  have hp : (128 : Nat) ^ k = 2 ^ (7 * k) := by rw [show 128 = 2 ^ 7 by decide, ← Nat.pow_mul]
  have e3 : ((((l.getD k 0).toNat % 128 : Nat) : Int)) * 2 ^ (7 * k) = (((l.getD k 0).toNat % 128 * 2 ^ (7 * k) : Nat) : Int) := by push_cast; rfl
  rw [e3]
  have hd : dv (l.take k) < 2 ^ (7 * k) := by
    have h1 := dv_lt (l.take k)
    rw [← hp]
    refine Nat.lt_of_lt_of_le h1 (Nat.pow_le_pow_right (by omega) ?_)
    simp; omega
  have h63 : 2 ^ (7 * k) ≤ 9223372036854775808 := by
    have : 2 ^ (7 * k) ≤ 2 ^ 63 := Nat.pow_le_pow_right (by omega) (by omega)
    have e : (2 : Nat) ^ 63 = 9223372036854775808 := by decide
    omega
  have hx : (l.getD k 0).toNat % 128 * 2 ^ (7 * k) ≤ 18446744073709551615 - 9223372036854775807 := by
    rcases Nat.lt_or_ge k 9 with h | h
    · have h1 : 2 ^ (7 * k) ≤ 2 ^ 56 := Nat.pow_le_pow_right (by omega) (by omega)
      have e : (2 : Nat) ^ 56 = 72057594037927936 := by decide
      have h2 : (l.getD k 0).toNat % 128 * 2 ^ (7 * k) ≤ 127 * 2 ^ 56 := Nat.mul_le_mul (by omega) h1
      omega
    · have h1 := hc (by omega)
      have h2 : (l.getD k 0).toNat % 128 * 2 ^ (7 * k) ≤ 1 * 2 ^ (7 * k) := Nat.mul_le_mul_right _ (by omega)
      omega
  rw [wrap_u64 (by omega) (by omega), dv_take hk, hp]
  generalize hA : (l.getD k 0).toNat % 128 = A at *
  have hor := or_add (dv (l.take k)) A (7 * k) hd
  have hs : dv (l.take k) + A * 2 ^ (7 * k) ≤ 18446744073709551615 := by omega
  have eb : bits .or .u64 (dv (l.take k) : Int) ((A * 2 ^ (7 * k) : Nat) : Int) = IntKind.u64.wrap (((dv (l.take k)) ||| (A * 2 ^ (7 * k)) : Nat) : Int) := bits_or _ _ (by omega) (by omega)
  rw [eb, hor, wrap_u64 (by omega) (by omega)]

/-- The reference's way: from the last byte on, and put again. -/
theorem dv_drop {l : List UInt8} {j : Nat} (hj : j < l.length) : dv (l.drop j) = (l.getD j 0).toNat % 128 + 128 * dv (l.drop (j + 1)) := by
  rw [getD_drop hj]; rfl
theorem ref_step {l : List UInt8} {k j : Nat} (hk : k < l.length) (hj : j ≤ k) :
    IntKind.u64.wrap (IntKind.u64.wrap (((dv ((l.take (k + 1)).drop (j + 1)) % 18446744073709551616 : Nat) : Int) * 128) + (IntKind.u64.wrap (atL l (j : Int))).tmod 128) = ((dv ((l.take (k + 1)).drop j) % 18446744073709551616 : Nat) : Int) := by
  have h255 := (l.getD j 0).toNat_lt
  have hlen : j < (l.take (k + 1)).length := by simp; omega
  have hg : (l.take (k + 1)).getD j 0 = l.getD j 0 := by
    simp only [List.getD_eq_getElem?_getD]
    rw [List.getElem?_take_of_lt (by omega)]
  rw [dv_drop hlen, hg, atL_nat, wrap_u64 (n := ((l.getD j 0).toNat : Int)) (by omega) (by omega)]
  have e1 : ((l.getD j 0).toNat : Int).tmod 128 = (((l.getD j 0).toNat % 128 : Nat) : Int) := by rw [Int.tmod_eq_emod_of_nonneg (by omega)]; rfl
  rw [e1]
  simp only [u64w]
  generalize dv ((l.take (k + 1)).drop (j + 1)) = D
  omega
theorem ref_test {l : List UInt8} {k : Nat} (h : k ≤ (lead l).length) (hk : k < l.length) (hc : (l.getD k 0).toNat < 128) (h9 : k ≤ 9) :
    (putL (dv (l.take (k + 1)) % 18446744073709551616) = l.take (k + 1) → takeV l = (dv (l.take (k + 1)) % 18446744073709551616, k + 1)) ∧ (putL (dv (l.take (k + 1)) % 18446744073709551616) ≠ l.take (k + 1) → takeV l = (0, 0)) := by
  obtain ⟨h1, h2⟩ := lead_stop h hk hc
  have e : l.take (k + 1) = lead l ++ [l.getD k 0] := by
    rw [List.take_succ_eq_append_getElem hk, h2]; simp [hk]
  rw [take_at h hk hc]
  constructor
  · intro hp
    have hdv : dv (l.take (k + 1)) = dv (l.take (k + 1)) % 18446744073709551616 := by
      obtain ⟨a, c, k1, k2, k3⟩ := putL_form (dv (l.take (k + 1)) % 18446744073709551616)
      rw [← k1, hp] at k3
      exact k3
    have hlt : dv (l.take (k + 1)) < 18446744073709551616 := by omega
    rw [← hdv] at hp ⊢
    obtain ⟨a, c, k1, k2, k3⟩ := putL_form (dv (l.take (k + 1)))
    rw [hp, e] at k1
    have := List.append_inj' k1 rfl
    obtain ⟨ea, ec⟩ := this
    have ec : l.getD k 0 = c := by simpa using ec
    rw [← ea, ← ec] at k2
    have hf := form_few k2 (by rw [← e]; exact hlt)
    rw [h1] at hf
    refine if_pos ⟨hf, ?_⟩
    rcases k2.least with hl | hl
    · left; rw [← h1, hl]; rfl
    · exact .inr hl
  · intro hp
    refine if_neg fun ⟨hf, hl⟩ => hp ?_
    have hF : Go.NumSpec.Form (lead l) (l.getD k 0) := ⟨lead_more l, hc, by
      rcases hl with hl | hl
      · left; exact List.eq_nil_of_length_eq_zero (by rw [h1]; exact hl)
      · exact .inr hl⟩
    have hlt := form_fits hF (by rw [h1]; exact hf)
    rw [e, Nat.mod_eq_of_lt hlt]
    exact putL_dv _ _ hF

abbrev takeAV (p : Nat × Nat) : AV := .tup [.int .u64 (p.1 : Int), .int .i64 (p.2 : Int)]
theorem take_no {p : Nat × Nat} (h : p = (0, 0)) : AV.tup [.int .u64 0, .int .i64 0] = takeAV p := by rw [h]; rfl
theorem take_yes {p : Nat × Nat} {a b : Nat} (h : p = (a, b)) {x y : Int} (hx : x = (a : Int)) (hy : y = (b : Int)) : AV.tup [.int .u64 x, .int .i64 y] = takeAV p := by rw [h, hx, hy]
theorem take_nine {l : List UInt8} (h : 9 ≤ (lead l).length) (hk : 9 < l.length) (hc : 1 < (l.getD 9 0).toNat) : takeV l = (0, 0) := by
  rcases Nat.lt_or_ge (l.getD 9 0).toNat 128 with h1 | h1
  · rw [take_at h hk h1, if_neg (by omega)]
  · exact take_long (lead_grow h hk h1)
theorem take_fits (l : List UInt8) : (takeV l).1 < 18446744073709551616 := by
  rcases put_take l with h | h
  · rw [h]; decide
  · exact h.2.2.2

/-! Parsing -/
theorem wrap_fits (n : Int) : fits (IntKind.i64.wrap n) := by unfold fits; have := i64w n; omega
theorem pv_take {l : List UInt8} {k : Nat} (hk : k < l.length) : pv (l.take (k + 1)) = 10 * pv (l.take k) + ((l.getD k 0).toNat - 48) := by
  have e : l.take (k + 1) = l.take k ++ [l.getD k 0] := by
    rw [List.take_succ_eq_append_getElem hk]; simp [hk]
  rw [e, pv_snoc]
theorem pv_le {l : List UInt8} : ∀ (k : Nat), pv (l.take k) ≤ pv l := by
  have key : ∀ (t : List UInt8) (s : List UInt8), pv s ≤ pv (s ++ t) := by
    intro t
    induction t with
    | nil => intro s; simp
    | cons c t ih =>
      intro s
      have h1 : pv s ≤ pv (s ++ [c]) := by rw [pv_snoc]; omega
      have h2 := ih (s ++ [c])
      rw [List.append_assoc] at h2
      exact Nat.le_trans h1 h2
  intro k
  have := key (l.drop k) (l.take k)
  rwa [List.take_append_drop] at this
theorem parse_no {l : List UInt8} {most : Int} (h : ¬ (l = digL (pv l) ∧ (pv l : Int) ≤ 9223372036854775807 ∧ (pv l : Int) ≤ most)) : AV.tup [.int .i64 0, .bool false] = okAV (parseV l most) := by
  rw [parseV, if_neg h]
theorem parse_nodig {l : List UInt8} {k : Nat} (hk : k < l.length) (hc : ¬ isDig (l.getD k 0)) : l ≠ digL (pv l) := fun h => by
  refine hc ?_
  have : l.getD k 0 ∈ l := by simp [hk]
  rw [h] at this
  exact digL_dig _ _ (by rw [← h] at this ⊢; exact this)
theorem parse_lead {l : List UInt8} (h : l = [] ∨ 1 < l.length ∧ (l.getD 0 0).toNat = 48) : l ≠ digL (pv l) := by
  rcases h with rfl | ⟨h1, h2⟩
  · exact fun h => digL_ne _ h.symm
  · intro h
    rcases digL_head (pv l) with h0 | h0
    · rw [h0] at h
      have : l.length = 1 := by rw [h, digL]; simp
      omega
    · cases l with
      | nil => simp at h1
      | cons c t => exact h0 c t h.symm (by simpa using h2)
theorem parse_ok {l : List UInt8} (h0 : l ≠ []) (h1 : ¬ (1 < l.length ∧ (l.getD 0 0).toNat = 48)) (hd : ∀ c ∈ l, isDig c) : l = digL (pv l) := by
  refine (digL_pv l h0 hd fun c d t e => ?_).symm
  subst e
  simp at h1
  exact h1

theorem pv_ge {l : List UInt8} (h0 : (l.getD 0 0).toNat ≠ 48) (hd0 : 48 ≤ (l.getD 0 0).toNat) : ∀ k, k < l.length → 10 ^ k ≤ pv (l.take (k + 1)) := by
  intro k
  induction k with
  | zero =>
    intro h
    rw [pv_take h]
    simp only [List.take_zero]
    omega
  | succ k ih =>
    intro h
    rw [pv_take h, Nat.pow_succ]
    have := ih (by omega)
    omega
/-- Few digits make a number that fits. -/
theorem pv_few {l : List UInt8} {k : Nat} (hk : k ≤ l.length) (hl : l ≠ []) (h1 : ¬ (1 < l.length ∧ (l.getD 0 0).toNat = 48)) (hd : ∀ j, j < k → isDig (l.getD j 0)) (hp : pv (l.take k) ≤ 9223372036854775807) : k ≤ 19 := by
  rcases Nat.lt_or_ge 19 k with h | h
  · exfalso
    have hlen : 1 < l.length := by omega
    have h2 := hd 0 (by omega)
    unfold isDig at h2
    have h3 := pv_ge (fun h => h1 ⟨hlen, h⟩) h2.1 19 (by omega)
    have e : (10 : Nat) ^ 19 = 10000000000000000000 := by decide
    have h4 : pv (l.take (19 + 1)) ≤ pv (l.take k) := by
      have := pv_le (l := l.take k) (19 + 1)
      rwa [List.take_take, Nat.min_eq_left (by omega)] at this
    omega
  · exact h
/-- What a parse has come to behind k letters. -/
structure ParseInv (l : List UInt8) (k : Nat) : Prop where
  le : k ≤ l.length
  dig : ∀ j, j < k → isDig (l.getD j 0)
theorem ParseInv.next {l : List UInt8} {k : Nat} (h : ParseInv l k) (hk : k < l.length) (hc : isDig (l.getD k 0)) : ParseInv l (k + 1) :=
  ⟨hk, fun j hj => by
    rcases Nat.lt_or_ge j k with h1 | h1
    · exact h.dig j h1
    · rw [show j = k by omega]; exact hc⟩
theorem ParseInv.all {l : List UInt8} {k : Nat} (h : ParseInv l k) (hk : ¬ k < l.length) : ∀ c ∈ l, isDig c := fun c hc => by
  obtain ⟨j, hj, rfl⟩ := List.getElem_of_mem hc
  have := h.dig j (by have := h.le; omega)
  simpa [hj] using this
theorem pv_all {l : List UInt8} {k : Nat} (hk : ¬ k < l.length) : pv (l.take k) = pv l := by rw [List.take_of_length_le (by omega)]
theorem mulV_ok {a b : Int} (h : (mulV a b).2 = true) : mulV a b = (a * b, true) ∧ fits (a * b) := by
  unfold mulV at *; split at h <;> simp_all
theorem mulV_bad {a b : Int} (h : (mulV a b).2 = false) : ¬ fits (a * b) := by
  unfold mulV at *; split at h <;> simp_all
theorem addV_ok {a b : Int} (h : (addV a b).2 = true) : addV a b = (a + b, true) ∧ fits (a + b) := by
  unfold addV at *; split at h <;> simp_all
theorem addV_bad {a b : Int} (h : (addV a b).2 = false) : ¬ fits (a + b) := by
  unfold addV at *; split at h <;> simp_all
theorem parse_much {l : List UInt8} {most : Int} (h : 9223372036854775807 < pv l) : AV.tup [.int .i64 0, .bool false] = okAV (parseV l most) := parse_no (by omega)
theorem parse_yes {l : List UInt8} {most x : Int} (h1 : l = digL (pv l)) (h2 : pv l ≤ 9223372036854775807) (h3 : (pv l : Int) ≤ most) (hx : x = pv l) : AV.tup [.int .i64 x, .bool true] = okAV (parseV l most) := by
  rw [parseV, if_pos ⟨h1, by omega, h3⟩, hx]
/-- The program's step: a number times ten, and a digit. -/
theorem parse_digit {c : UInt8} (h : isDig c) : IntKind.i64.wrap (IntKind.u8.wrap ((c.toNat : Int) - 48)) = ((c.toNat - 48 : Nat) : Int) := by
  unfold isDig at h
  rw [wrap_u8 (by omega) (by omega), wrap_i64 (by omega) (by omega)]
  omega

/-! The reference's text: digits from behind -/
structure TextInv (n : Nat) (g : Nat × List UInt8) : Prop where
  few : (digL n).length ≤ 19
  low : g.2.length ≤ 19
  lt : g.1 < 18446744073709551616
  is : (g.2 = [] ∧ g.1 = n) ∨ (g.2 ≠ [] ∧ g.1 = 0 ∧ g.2 = digL n) ∨ (g.2 ≠ [] ∧ g.1 ≠ 0 ∧ digL g.1 ++ g.2 = digL n)
theorem text_next {n u : Nat} {s : List UInt8} (h : TextInv n (u, s)) (hs : s = [] ∨ u ≠ 0) : TextInv n (u / 10, UInt8.ofNat (48 + u % 10) :: s) := by
  have e : digL u ++ s = digL n := by
    rcases h.is with ⟨h1, h2⟩ | ⟨h1, h2, h3⟩ | ⟨h1, h2, h3⟩
    · dsimp only at h1 h2; rw [h1, h2]; simp
    · dsimp only at h1 h2; rcases hs with hs | hs
      · exact absurd hs h1
      · exact absurd h2 hs
    · exact h3
  have hf := h.few
  by_cases h10 : u / 10 = 0
  · have e2 : UInt8.ofNat (48 + u % 10) :: s = digL n := by
      rw [← e, digL, if_pos (by omega), show u % 10 = u by omega]; rfl
    exact ⟨h.few, by dsimp only; rw [e2]; exact hf, by have := h.lt; dsimp only at this ⊢; omega, .inr (.inl ⟨by simp, h10, e2⟩)⟩
  · have e2 : digL (u / 10) ++ (UInt8.ofNat (48 + u % 10) :: s) = digL n := by
      rw [← e]; conv => rhs; rw [digL, if_neg (by omega)]
      simp
    refine ⟨h.few, ?_, by have := h.lt; dsimp only at this ⊢; omega, .inr (.inr ⟨by simp, h10, e2⟩)⟩
    have h3 := congrArg List.length e2
    simp only [List.length_append, List.length_cons] at h3 ⊢
    have := List.length_pos_iff.2 (digL_ne (u / 10))
    omega
theorem text_end {n u : Nat} {s : List UInt8} (h : TextInv n (u, s)) (hs : s ≠ []) (hu : ¬ (0 < u ∧ s.length < 20)) : s = digL n := by
  rcases h.is with ⟨h1, _⟩ | ⟨_, _, h3⟩ | ⟨_, h2, _⟩
  · exact absurd h1 hs
  · exact h3
  · have := h.low; dsimp only at this h2; omega

/-- The reference's step: no wrap among nineteen digits. -/
theorem refparse_step {l : List UInt8} {k : Nat} (hI : ParseInv l k) (hk : k < l.length) (h19 : l.length ≤ 19) (hc : isDig (l.getD k 0)) :
    IntKind.u64.wrap (IntKind.u64.wrap (IntKind.u64.wrap (10 * (pv (l.take k) : Int)) + IntKind.u64.wrap (atL l (k : Int))) - 48) = (pv (l.take (k + 1)) : Int) := by
  have h1 : pv (l.take k) < 10 ^ (l.take k).length := pv_lt _ fun c hc => by
    obtain ⟨j, hj, rfl⟩ := List.getElem_of_mem hc
    have hj2 : j < k := by rw [List.length_take] at hj; omega
    have := hI.dig j hj2
    simpa [show j < l.length by omega] using this
  rw [List.length_take, Nat.min_eq_left (by omega)] at h1
  have h2 : 10 ^ k ≤ 10 ^ 18 := Nat.pow_le_pow_right (by omega) (by omega)
  have e : (10 : Nat) ^ 18 = 1000000000000000000 := by decide
  unfold isDig at hc
  rw [atL_nat, wrap_u64 (n := ((l.getD k 0).toNat : Int)) (by omega) (by omega), wrap_u64 (n := 10 * (pv (l.take k) : Int)) (by omega) (by omega), wrap_u64 (n := 10 * (pv (l.take k) : Int) + ((l.getD k 0).toNat : Int)) (by omega) (by omega), wrap_u64 (by omega) (by omega), pv_take hk]
  omega
theorem pv_nineteen {l : List UInt8} (hd : ∀ c ∈ l, isDig c) (h : l.length ≤ 19) : pv l ≤ 18446744073709551615 := by
  have h1 := pv_lt l hd
  have h2 : 10 ^ l.length ≤ 10 ^ 19 := Nat.pow_le_pow_right (by omega) h
  have e : (10 : Nat) ^ 19 = 10000000000000000000 := by decide
  omega
theorem parse_long {l : List UInt8} {most : Int} (h : l.length = 0 ∨ 19 < l.length) : AV.tup [.int .i64 0, .bool false] = okAV (parseV l most) := parse_no fun ⟨h1, h2, _⟩ => by
  rcases h with h | h
  · exact parse_lead (.inl (List.eq_nil_of_length_eq_zero h)) h1
  · have := digL_19 (n := pv l) (by omega)
    rw [← h1] at this
    omega
theorem textL_nat (n : Nat) : textL (n : Int) = digL n := by rw [textL, if_neg (by omega), Int.natAbs_natCast]
theorem refparse_test {l : List UInt8} {most : Int} (hm : fits most) :
    (((9223372036854775807 < (pv l : Int) ∨ textL (IntKind.i64.wrap (pv l : Int)) ≠ l) ∨ most < 0) ∨ IntKind.u64.wrap most < (pv l : Int)) ↔ ¬ (l = digL (pv l) ∧ (pv l : Int) ≤ 9223372036854775807 ∧ (pv l : Int) ≤ most) := by
  unfold fits at hm
  by_cases hp : 9223372036854775807 < (pv l : Int)
  · constructor
    · intro _ ⟨_, h2, _⟩; omega
    · intro _; exact .inl (.inl (.inl hp))
  · rw [wrap_i64 (n := (pv l : Int)) (by omega) (by omega), textL_nat]
    by_cases hl : l = digL (pv l)
    · by_cases h0 : most < 0
      · constructor
        · intro _ ⟨_, _, h3⟩; omega
        · intro _; exact .inl (.inr h0)
      · rw [wrap_u64 (n := most) (by omega) (by omega)]
        constructor
        · rintro (((h | h) | h) | h) ⟨_, _, h3⟩
          · exact hp h
          · exact h hl.symm
          · exact h0 h
          · omega
        · intro h
          refine .inr ?_
          rcases Int.lt_or_le most (pv l : Int) with h4 | h4
          · exact h4
          · exact absurd ⟨hl, by omega, h4⟩ h
    · constructor
      · intro _ ⟨h1, _⟩; exact hl h1
      · intro _; exact .inl (.inl (.inr fun h => hl h.symm))
theorem works_take : takeV [172, 2, 120] = (300, 2) := by decide
theorem works_put : putL 300 = [172, 2] := by rw [putL_big (by decide), putL_small (by decide)]; rfl
theorem works_mul : mulV 4611686018427387904 2 = (0, false) := by decide
theorem works_add : addV 2 3 = (5, true) := by decide

theorem turns_end {a b : Int} (ha : fits a) : ((!(addV a b).2 || decide (IntKind.i64.wrap ((addV a b).1 - b) = a)) && (!(mulV a b).2 || decide (b = 0) || decide (IntKind.i64.wrap ((mulV a b).1.tdiv b) = a))) = true := by
  rw [Bool.and_eq_true]
  constructor
  · unfold addV
    split
    · rw [show a + b - b = a by omega, wrap_i64 ha.1 ha.2]; simp
    · rfl
  · unfold mulV
    split
    · by_cases hb : b = 0
      · simp [hb]
      · rw [Int.mul_tdiv_cancel _ hb, wrap_i64 ha.1 ha.2]; simp
    · rfl
theorem texts_same (a b : Int) : decide (textL a = textL b) = decide (a = b) := by
  by_cases h : a = b
  · simp [h]
  · rw [decide_eq_false h, decide_eq_false fun e => h (textL_inj e)]
theorem takeV_le (l : List UInt8) : (takeV l).2 ≤ l.length := by
  rcases put_take l with h | h
  · rw [h]; simp
  · exact h.2.1

theorem back_end (l : List UInt8) : (decide (((takeV l).2 : Int) = 0) && decide (((takeV l).1 : Int) = 0) || ((decide (0 < ((takeV l).2 : Int)) && decide (((takeV l).2 : Int) ≤ (l.length : Int))) && decide (putL (takeV l).1 = l.take ((takeV l).2 : Int).toNat))) = true := by
  rcases put_take l with h | h
  · simp [h]
  · simp [h.1, h.2.1, h.2.2.1]

/-! What came in -/
theorem nat_of_u64 {a : Int} (h : (Lit.int .u64 a).wf = true) : ∃ n : Nat, a = (n : Int) ∧ n < 18446744073709551616 := by
  simp [Lit.wf, IntKind.min, IntKind.max, IntKind.signed, IntKind.bits] at h
  exact ⟨a.toNat, by omega, by omega⟩
theorem fits_of_i64 {a : Int} (h : (Lit.int .i64 a).wf = true) : fits a := by
  simp [Lit.wf, IntKind.min, IntKind.max, IntKind.signed, IntKind.bits] at h
  unfold fits
  omega
theorem R_lits {w : World} (vs : List Value) : ∀ (i : Nat) x u, (vs.map AV.lit)[i]? = some x → vs.toArray[i]? = some u → R [] w x u := fun i x u hx hu => by
  simp only [List.getElem?_map, Option.map_eq_some_iff] at hx
  obtain ⟨v, hv, rfl⟩ := hx
  simp only [List.getElem?_toArray] at hu
  rw [hv] at hu
  cases hu
  exact .lit _

end Go.AL
