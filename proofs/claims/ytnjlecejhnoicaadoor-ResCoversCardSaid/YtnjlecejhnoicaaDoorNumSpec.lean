/-
Plain mathematics of layer 1: sums and products that fit, numbers as bytes, numbers as digits.
Conditions: none; no program is in sight.
-/
set_option linter.unusedVariables false
set_option linter.unusedSimpArgs false
namespace Go.NumSpec

def lo : Int := -9223372036854775808
def hi : Int := 9223372036854775807
/-- It fits an int. -/
def fits (a : Int) : Prop := -9223372036854775808 ≤ a ∧ a ≤ 9223372036854775807
instance (a : Int) : Decidable (fits a) := by unfold fits; infer_instance

def addV (a b : Int) : Int × Bool := if fits (a + b) then (a + b, true) else (0, false)
def mulV (a b : Int) : Int × Bool := if fits (a * b) then (a * b, true) else (0, false)

theorem addV_fits (a b : Int) : fits (addV a b).1 := by unfold addV; split <;> simp_all [fits]
theorem mulV_fits (a b : Int) : fits (mulV a b).1 := by unfold mulV; split <;> simp_all [fits]
theorem addV_comm (a b : Int) : addV a b = addV b a := by unfold addV; rw [Int.add_comm]
theorem mulV_comm (a b : Int) : mulV a b = mulV b a := by unfold mulV; rw [Int.mul_comm]

/-! ### Numbers as bytes -/
def putL (n : Nat) : List UInt8 := if n < 128 then [UInt8.ofNat n] else UInt8.ofNat (n % 128 + 128) :: putL (n / 128)
termination_by n
decreasing_by omega

theorem putL_big {n : Nat} (h : 128 ≤ n) : putL n = UInt8.ofNat (n % 128 + 128) :: putL (n / 128) := by
  conv => lhs; rw [putL, if_neg (by omega)]
theorem putL_small {n : Nat} (h : n < 128) : putL n = [UInt8.ofNat n] := by rw [putL, if_pos h]

/-- The value of bytes. -/
def dv : List UInt8 → Nat
  | [] => 0
  | c :: cs => c.toNat % 128 + 128 * dv cs

theorem dv_snoc (l : List UInt8) (c : UInt8) : dv (l ++ [c]) = dv l + c.toNat % 128 * 128 ^ l.length := by
  induction l with
  | nil => simp [dv]
  | cons x l ih =>
    simp only [List.cons_append, dv, ih, List.length_cons, Nat.pow_succ, Nat.mul_add]
    have : 128 * (c.toNat % 128 * 128 ^ l.length) = c.toNat % 128 * (128 ^ l.length * 128) := by
      rw [Nat.mul_comm 128, Nat.mul_assoc]
    omega
theorem dv_lt (l : List UInt8) : dv l < 128 ^ l.length := by
  induction l with
  | nil => simp [dv]
  | cons c l ih => simp only [dv, List.length_cons, Nat.pow_succ]; omega

/-- The bytes of a number: all but the last have their highest bit. -/
structure Form (l : List UInt8) (c : UInt8) : Prop where
  more : ∀ x ∈ l, 128 ≤ x.toNat
  last : c.toNat < 128
  least : l = [] ∨ c.toNat ≠ 0

theorem putL_form (n : Nat) : ∃ l c, putL n = l ++ [c] ∧ Form l c ∧ dv (l ++ [c]) = n := by
  induction n using Nat.strongRecOn with
  | _ n ih =>
    rw [putL]
    split
    · rename_i h
      refine ⟨[], UInt8.ofNat n, rfl, ⟨by simp, ?_, .inl rfl⟩, ?_⟩
      · simp; omega
      · simp [dv]; omega
    · rename_i h
      obtain ⟨l, c, h1, h2, h3⟩ := ih (n / 128) (by omega)
      refine ⟨UInt8.ofNat (n % 128 + 128) :: l, c, by simp [h1], ⟨fun x hx => ?_, h2.last, .inr fun h0 => ?_⟩, ?_⟩
      · rcases List.mem_cons.1 hx with rfl | hx
        · simp; omega
        · exact h2.more x hx
      · rcases h2.least with rfl | h4
        · simp [dv, h0] at h3; omega
        · exact h4 h0
      · simp only [List.cons_append, dv, h3]; simp; omega

theorem putL_dv (l : List UInt8) (c : UInt8) (h : Form l c) : putL (dv (l ++ [c])) = l ++ [c] := by
  induction l with
  | nil =>
    have := h.last
    rw [putL, if_pos (by simp [dv]; omega)]
    simp [dv]
    rw [Nat.mod_eq_of_lt this, UInt8.ofNat_toNat]
  | cons x l ih =>
    have hc : c.toNat ≠ 0 := h.least.resolve_left (by simp)
    have hx := h.more x List.mem_cons_self
    have hxl := x.toNat_lt
    have ih' := ih ⟨fun y hy => h.more y (List.mem_cons_of_mem _ hy), h.last, .inr hc⟩
    have hpos : 1 ≤ dv (l ++ [c]) := by
      rw [dv_snoc]
      have h1 := h.last
      rw [Nat.mod_eq_of_lt h1]
      have : 1 * 1 ≤ c.toNat * 128 ^ l.length := Nat.mul_le_mul (by omega) (Nat.pos_of_ne_zero (by simp))
      omega
    rw [List.cons_append, putL, if_neg (by simp only [dv]; omega)]
    simp only [dv]
    rw [show (x.toNat % 128 + 128 * dv (l ++ [c])) % 128 + 128 = x.toNat by omega, show (x.toNat % 128 + 128 * dv (l ++ [c])) / 128 = dv (l ++ [c]) by omega, ih', UInt8.ofNat_toNat]

theorem putL_pos (n : Nat) : 1 ≤ (putL n).length := by
  obtain ⟨l, c, h, _⟩ := putL_form n
  rw [h]; simp
theorem putL_inj {m n : Nat} (h : putL m = putL n) : m = n := by
  obtain ⟨l, c, h1, h2, h3⟩ := putL_form m
  obtain ⟨l', c', h1', h2', h3'⟩ := putL_form n
  rw [← h3, ← h3', ← h1, ← h1', h]

theorem pow128 (k : Nat) : 1 ≤ 128 ^ k := Nat.pos_of_ne_zero (by simp)

/-- How many bytes a number has, and the tenth one. -/
theorem form_few {l : List UInt8} {c : UInt8} (h : Form l c) (hn : dv (l ++ [c]) < 18446744073709551616) : l.length ≤ 8 ∨ l.length = 9 ∧ c.toNat ≤ 1 := by
  rw [dv_snoc, Nat.mod_eq_of_lt h.last] at hn
  rcases Nat.lt_or_ge l.length 10 with hl | hl
  · by_cases h9 : l.length = 9
    · refine .inr ⟨h9, ?_⟩
      rw [h9] at hn
      omega
    · omega
  · have hne : l ≠ [] := by intro e; rw [e] at hl; simp at hl
    have hc : c.toNat ≠ 0 := h.least.resolve_left hne
    have h1 : 128 ^ 10 ≤ 128 ^ l.length := Nat.pow_le_pow_right (by omega) hl
    have h2 : 1 * 128 ^ l.length ≤ c.toNat * 128 ^ l.length := Nat.mul_le_mul_right _ (by omega)
    have h3 : (128 : Nat) ^ 10 = 1180591620717411303424 := by decide
    omega
theorem form_fits {l : List UInt8} {c : UInt8} (h : Form l c) (hn : l.length ≤ 8 ∨ l.length = 9 ∧ c.toNat ≤ 1) : dv (l ++ [c]) < 18446744073709551616 := by
  rcases hn with hn | ⟨hn, hc⟩
  · have h1 := dv_lt (l ++ [c])
    have h2 : 128 ^ (l ++ [c]).length ≤ 128 ^ 9 := Nat.pow_le_pow_right (by omega) (by simp; omega)
    have h3 : (128 : Nat) ^ 9 = 9223372036854775808 := by decide
    omega
  · rw [dv_snoc, hn, Nat.mod_eq_of_lt h.last]
    have h1 := dv_lt l
    rw [hn] at h1
    have h3 : (128 : Nat) ^ 9 = 9223372036854775808 := by decide
    rw [h3] at h1 ⊢
    have : c.toNat * 9223372036854775808 ≤ 1 * 9223372036854775808 := Nat.mul_le_mul_right _ hc
    omega

theorem putL_few (n : Nat) (hn : n < 18446744073709551616) : (putL n).length ≤ 10 := by
  obtain ⟨l, c, h1, h2, h3⟩ := putL_form n
  have := form_few h2 (by rw [h3]; exact hn)
  rw [h1]; simp; omega

/-- The bytes ahead of the first one without the highest bit. -/
def lead (s : List UInt8) : List UInt8 := s.takeWhile fun c => decide (128 ≤ c.toNat)

/-- What a number's bytes begin with. -/
def takeV (s : List UInt8) : Nat × Nat :=
  match s.drop (lead s).length with
  | [] => (0, 0)
  | c :: _ => if ((lead s).length ≤ 8 ∨ (lead s).length = 9 ∧ c.toNat ≤ 1) ∧ (lead s = [] ∨ c.toNat ≠ 0) then (dv (lead s ++ [c]), (lead s).length + 1) else (0, 0)

theorem lead_more (s : List UInt8) : ∀ x ∈ lead s, 128 ≤ x.toNat := fun x hx => by
  have := List.all_takeWhile (p := fun c : UInt8 => decide (128 ≤ c.toNat)) (l := s)
  simp only [List.all_eq_true] at this
  simpa using this x hx
theorem lead_append (l : List UInt8) (c : UInt8) (t : List UInt8) (h : ∀ x ∈ l, 128 ≤ x.toNat) (hc : c.toNat < 128) : lead (l ++ c :: t) = l := by
  induction l with
  | nil => simp [lead, List.takeWhile_cons]; omega
  | cons x l ih =>
    have hx := h x List.mem_cons_self
    unfold lead at *
    rw [List.cons_append, List.takeWhile_cons]
    simp only [hx, decide_true, if_true]
    rw [ih fun y hy => h y (List.mem_cons_of_mem _ hy)]
theorem drop_takeWhile (p : UInt8 → Bool) : ∀ (s : List UInt8), s.drop (s.takeWhile p).length = s.dropWhile p
  | [] => rfl
  | c :: s => by
    rw [List.takeWhile_cons, List.dropWhile_cons]
    cases h : p c with
    | true => simpa using drop_takeWhile p s
    | false => rfl
theorem split_lead (s : List UInt8) : s = lead s ++ s.drop (lead s).length := by
  unfold lead
  rw [drop_takeWhile]
  exact List.takeWhile_append_dropWhile.symm
theorem next_small (s : List UInt8) (c : UInt8) (t : List UInt8) (h : s.drop (lead s).length = c :: t) : c.toNat < 128 := by
  have hs := split_lead s
  rw [h] at hs
  rcases Nat.lt_or_ge c.toNat 128 with h1 | h1
  · exact h1
  · exfalso
    have h2 : lead s = lead (lead s ++ c :: t) := by rw [← hs]
    have h3 : ∀ (l : List UInt8), (∀ x ∈ l, 128 ≤ x.toNat) → (lead (l ++ c :: t)).length > l.length := by
      intro l hl
      induction l with
      | nil => simp [lead, List.takeWhile_cons, h1]
      | cons x l ih =>
        have hx := hl x List.mem_cons_self
        have := ih fun y hy => hl y (List.mem_cons_of_mem _ hy)
        unfold lead at *
        rw [List.cons_append, List.takeWhile_cons]
        simp only [hx, decide_true, if_true, List.length_cons]
        omega
    have := h3 (lead s) (lead_more s)
    rw [← h2] at this
    omega

/-- What is put is taken. -/
theorem take_put (n : Nat) (t : List UInt8) (hn : n < 18446744073709551616) : takeV (putL n ++ t) = (n, (putL n).length) := by
  obtain ⟨l, c, h1, h2, h3⟩ := putL_form n
  have e : putL n ++ t = l ++ c :: t := by rw [h1]; simp
  rw [e]
  unfold takeV
  rw [lead_append l c t h2.more h2.last]
  have hd : (l ++ c :: t).drop l.length = c :: t := by simp
  rw [hd]
  have hf := form_few h2 (by rw [h3]; exact hn)
  simp only
  rw [if_pos ⟨hf, h2.least⟩, h3, h1]
  simp
/-- What is taken is put as just these bytes. -/
theorem put_take (s : List UInt8) : takeV s = (0, 0) ∨ 0 < (takeV s).2 ∧ (takeV s).2 ≤ s.length ∧ putL (takeV s).1 = s.take (takeV s).2 ∧ (takeV s).1 < 18446744073709551616 := by
  unfold takeV
  split
  · exact .inl rfl
  · rename_i c t h
    split
    · rename_i hc
      refine .inr ?_
      have hf : Form (lead s) c := ⟨lead_more s, next_small s c t h, hc.2⟩
      have hs := split_lead s
      rw [h] at hs
      refine ⟨by simp, ?_, ?_, form_fits hf hc.1⟩
      · generalize lead s = L at *
        subst hs
        simp
      · simp only
        rw [putL_dv _ _ hf]
        generalize lead s = L at *
        subst hs
        rw [show L ++ c :: t = (L ++ [c]) ++ t by simp, List.take_left' (by simp)]
    · exact .inl rfl

/-! ### Numbers as digits -/
def digL (n : Nat) : List UInt8 := if n < 10 then [UInt8.ofNat (48 + n)] else digL (n / 10) ++ [UInt8.ofNat (48 + n % 10)]
termination_by n
decreasing_by omega
def textL (a : Int) : List UInt8 := if a < 0 then 45 :: digL a.natAbs else digL a.natAbs

/-- The value of digits. -/
def pv (l : List UInt8) : Nat := l.foldl (fun n c => 10 * n + (c.toNat - 48)) 0
def isDig (c : UInt8) : Prop := 48 ≤ c.toNat ∧ c.toNat ≤ 57
instance (c : UInt8) : Decidable (isDig c) := by unfold isDig; infer_instance

theorem pv_snoc (l : List UInt8) (c : UInt8) : pv (l ++ [c]) = 10 * pv l + (c.toNat - 48) := by simp [pv]
theorem digL_ne (n : Nat) : digL n ≠ [] := by rw [digL]; split <;> simp
theorem digL_dig (n : Nat) : ∀ c ∈ digL n, isDig c := by
  induction n using Nat.strongRecOn with
  | _ n ih =>
    rw [digL]
    split
    · intro c hc; simp at hc; subst hc; simp [isDig]; omega
    · intro c hc
      rcases List.mem_append.1 hc with h | h
      · exact ih (n / 10) (by omega) c h
      · simp at h; subst h; simp [isDig]; omega
theorem pv_digL (n : Nat) : pv (digL n) = n := by
  induction n using Nat.strongRecOn with
  | _ n ih =>
    rw [digL]
    split
    · simp [pv]; omega
    · rw [pv_snoc, ih (n / 10) (by omega)]; simp; omega
theorem digL_inj {m n : Nat} (h : digL m = digL n) : m = n := by rw [← pv_digL m, h, pv_digL]

theorem digL_head (n : Nat) : n = 0 ∨ ∀ c t, digL n = c :: t → c.toNat ≠ 48 := by
  induction n using Nat.strongRecOn with
  | _ n ih =>
    by_cases h0 : n = 0
    · exact .inl h0
    · refine .inr fun c t h => ?_
      rw [digL] at h
      split at h
      · simp at h; obtain ⟨rfl, _⟩ := h; simp; omega
      · rcases ih (n / 10) (by omega) with h1 | h1
        · omega
        · cases hd : digL (n / 10) with
          | nil => exact absurd hd (digL_ne _)
          | cons x y =>
            rw [hd] at h
            simp at h
            obtain ⟨rfl, _⟩ := h
            exact h1 _ _ hd

/-- Digits that don't begin with a 0 too much are a number's. -/
theorem digL_pv (l : List UInt8) (hl : l ≠ []) (hd : ∀ c ∈ l, isDig c) (hz : ∀ c d t, l = c :: d :: t → c.toNat ≠ 48) : digL (pv l) = l := by
  have key : ∀ (k : Nat) (l : List UInt8), l.length = k → l ≠ [] → (∀ c ∈ l, isDig c) → (∀ c d t, l = c :: d :: t → c.toNat ≠ 48) → digL (pv l) = l := by
    intro k
    induction k with
    | zero => intro l hk hl; exact absurd (List.eq_nil_of_length_eq_zero hk) hl
    | succ k ih =>
      intro l hk hl hd hz
      obtain ⟨m, c, rfl⟩ : ∃ m c, l = m ++ [c] := ⟨l.dropLast, l.getLast hl, (List.dropLast_concat_getLast hl).symm⟩
      have hc := hd c (by simp)
      unfold isDig at hc
      rw [pv_snoc]
      by_cases hm : m = []
      · subst hm
        show digL (10 * 0 + (c.toNat - 48)) = [c]
        rw [digL, if_pos (by omega), show 48 + (10 * 0 + (c.toNat - 48)) = c.toNat by omega, UInt8.ofNat_toNat]
      · have hm1 := ih m (by simp at hk; omega) hm (fun x hx => hd x (by simp [hx])) (fun x d t e => hz x d (t ++ [c]) (by simp [e]))
        have hpos : 1 ≤ pv m := by
          rcases Nat.eq_zero_or_pos (pv m) with h0 | h0
          · rw [h0] at hm1
            have : m = [48] := by rw [← hm1]; rw [digL]; simp
            subst this
            exact absurd rfl (hz 48 c [] rfl)
          · exact h0
        rw [digL, if_neg (by omega)]
        rw [show (10 * pv m + (c.toNat - 48)) / 10 = pv m by omega, show 48 + (10 * pv m + (c.toNat - 48)) % 10 = c.toNat by omega, hm1, UInt8.ofNat_toNat]
  exact key l.length l rfl hl hd hz

theorem digL_len (n k : Nat) (h : n < 10 ^ (k + 1)) : (digL n).length ≤ k + 1 := by
  induction k generalizing n with
  | zero => rw [digL, if_pos (by simpa using h)]; simp
  | succ k ih =>
    rw [digL]
    split
    · simp
    · have := ih (n / 10) (by rw [Nat.div_lt_iff_lt_mul (by omega)]; rw [Nat.pow_succ] at h; exact h)
      simp; omega
theorem digL_20 {n : Nat} (h : n < 18446744073709551616) : (digL n).length ≤ 20 := by
  refine digL_len n 19 ?_
  have : (10 : Nat) ^ (19 + 1) = 100000000000000000000 := by decide
  omega
theorem digL_19 {n : Nat} (h : n ≤ 9223372036854775808) : (digL n).length ≤ 19 := by
  refine digL_len n 18 ?_
  have : (10 : Nat) ^ (18 + 1) = 10000000000000000000 := by decide
  omega
theorem pv_lt (l : List UInt8) (hd : ∀ c ∈ l, isDig c) : pv l < 10 ^ l.length := by
  have key : ∀ (l : List UInt8), (∀ c ∈ l.reverse, isDig c) → pv l.reverse < 10 ^ l.length := by
    intro l
    induction l with
    | nil => intro _; simp [pv]
    | cons c l ih =>
      intro hd
      rw [List.reverse_cons, pv_snoc, List.length_cons, Nat.pow_succ]
      have h1 := ih fun x hx => hd x (by simp at hx ⊢; exact .inl hx)
      have h2 := hd c (by simp)
      unfold isDig at h2
      omega
  have := key l.reverse (by simpa using hd)
  simpa using this

/-- The number whose text it is, up to a greatest one. -/
def parseV (s : List UInt8) (most : Int) : Int × Bool := if s = digL (pv s) ∧ (pv s : Int) ≤ 9223372036854775807 ∧ (pv s : Int) ≤ most then ((pv s : Int), true) else (0, false)

theorem textL_inj {a b : Int} (h : textL a = textL b) : a = b := by
  have nd : ∀ n t, digL n ≠ 45 :: t := fun n t e => by
    have := digL_dig n 45 (by rw [e]; simp)
    exact absurd this (by decide)
  unfold textL at h
  split at h <;> split at h
  · have := digL_inj (List.cons.inj h).2; omega
  · exact absurd h.symm (nd _ _)
  · exact absurd h (nd _ _)
  · have := digL_inj h; omega
theorem textL_len {a : Int} (h : fits a) : (textL a).length ≤ 20 := by
  unfold fits at h
  have : (digL a.natAbs).length ≤ 19 := digL_len _ 18 (by have : (10 : Nat) ^ 19 = 10000000000000000000 := by decide
                                                          omega)
  unfold textL
  split <;> simp <;> omega
theorem parse_text {a most : Int} (h : fits a) (hm : a ≤ most) : parseV (textL a) most = (if 0 ≤ a then (a, true) else (0, false)) := by
  unfold fits at h
  by_cases ha : a < 0
  · have e : textL a = 45 :: digL a.natAbs := by unfold textL; rw [if_pos ha]
    have hn : ¬ 0 ≤ a := by omega
    rw [e, if_neg hn]
    unfold parseV
    rw [if_neg]
    rintro ⟨e, _⟩
    have := digL_dig (pv (45 :: digL a.natAbs)) 45 (by rw [← e]; simp)
    exact absurd this (by decide)
  · have e : textL a = digL a.natAbs := by unfold textL; rw [if_neg ha]
    have hn : 0 ≤ a := by omega
    rw [e, if_pos hn]
    unfold parseV
    rw [pv_digL, if_pos ⟨rfl, by omega, by omega⟩, show ((a.natAbs : Nat) : Int) = a by omega]

end Go.NumSpec
