/-
What the walks of layer 4 come to: values written as bytes, and read again.
Conditions: none; no program is in sight.
-/
import Derived.Test.YtbnimcdcgmjeaaaAlBuf
import Derived.Test.YtbnimcdcgmjeaaaAlLib
import Derived.Test.YtbnimcdcgmjeaaaNumLem
set_option linter.unusedVariables false
set_option linter.unusedSimpArgs false
namespace Go.AL
open Go.NumSpec

theorem Le_buf {q : Buf} {l : List UInt8} (h : q.ok l) : Le (bufAV q l) (.sl (bytesV l)) := by
  cases q with
  | nil => have : l = [] := h; subst this; exact Le.nils
  | «at» b cap => exact Le.row _ _ _ _
def failC (c d : Int) : Int := if c = 0 then d else c
def wput (c : Int) (l s : List UInt8) : List UInt8 := if c = 0 then l ++ s else l
theorem wput_zero (l s : List UInt8) : wput 0 l s = l ++ s := rfl
theorem wput_err {c : Int} (h : c ≠ 0) (l s : List UInt8) : wput c l s = l := by rw [wput, if_neg h]
theorem wput_len (c : Int) (l s : List UInt8) : (wput c l s).length ≤ l.length + s.length := by unfold wput; split <;> simp
theorem wput_wput (c : Int) (l s t : List UInt8) : wput c (wput c l s) t = wput c l (s ++ t) := by unfold wput; split <;> simp
def lacksV (s : List UInt8) : Bool := (s.take 10).all (fun c => decide (128 ≤ c.toNat)) && decide (s.length < 10)
def bigR (s : List UInt8) (c : Int) : Nat × List UInt8 × Int := if c ≠ 0 then (0, s, c) else if lacksV s = true then (0, s, 40) else if (takeV s).2 = 0 then (0, s, 3) else ((takeV s).1, s.drop (takeV s).2, 0)
def numR (s : List UInt8) (c most : Int) : Int × List UInt8 × Int :=
  if (bigR s c).2.2 = 0 ∧ max most 0 < (bigR s c).1 then (0, s, 2) else if (bigR s c).2.2 ≠ 0 then (0, (bigR s c).2.1, (bigR s c).2.2) else ((bigR s c).1, (bigR s c).2.1, 0)
def textR (s : List UInt8) (c most : Int) : List UInt8 × List UInt8 × Int :=
  if (numR s c most).2.2 = 0 ∧ ((numR s c most).2.1.length : Int) < (numR s c most).1 then ([], (numR s c most).2.1, 40) else if (numR s c most).2.2 ≠ 0 then ([], (numR s c most).2.1, (numR s c most).2.2)
  else ((numR s c most).2.1.take (numR s c most).1.toNat, (numR s c most).2.1.drop (numR s c most).1.toNat, 0)
def boolR (s : List UInt8) (c : Int) : Bool × List UInt8 × Int :=
  if c ≠ 0 then (false, s, c) else match s with | [] => (false, [], 40) | x :: t => if 1 < x.toNat then (false, x :: t, 3) else (decide (x.toNat = 1), t, 0)
def endR (s : List UInt8) (c : Int) : Int := if s ≠ [] then failC c 3 else c
theorem bigR_lt (s : List UInt8) (c : Int) : (bigR s c).1 < 18446744073709551616 := by
  unfold bigR
  split
  · show 0 < _; omega
  · split
    · show 0 < _; omega
    · split
      · show 0 < _; omega
      · exact take_fits s
theorem bigR_len (s : List UInt8) (c : Int) : (bigR s c).2.1.length ≤ s.length := by
  unfold bigR
  split
  · exact Nat.le_refl _
  · split
    · exact Nat.le_refl _
    · split
      · exact Nat.le_refl _
      · simp
theorem numR_len (s : List UInt8) (c most : Int) : (numR s c most).2.1.length ≤ s.length := by
  have := bigR_len s c
  unfold numR
  split
  · exact Nat.le_refl _
  · split <;> exact this
theorem numR_nonneg (s : List UInt8) (c most : Int) : 0 ≤ (numR s c most).1 := by
  unfold numR
  split
  · show (0 : Int) ≤ 0; omega
  · split
    · show (0 : Int) ≤ 0; omega
    · exact Int.natCast_nonneg _
theorem numR_err {s : List UInt8} {c most : Int} (h : (numR s c most).2.2 ≠ 0) : (numR s c most).1 = 0 := by
  unfold numR at h ⊢
  split
  · rfl
  · rename_i h1
    rw [if_neg h1] at h
    split
    · rfl
    · rename_i h2
      rw [if_neg h2] at h
      exact absurd rfl h
theorem numR_le {s : List UInt8} {c most : Int} : (numR s c most).1 ≤ max most 0 := by
  unfold numR
  split
  · dsimp only; omega
  · rename_i h1
    split
    · dsimp only; omega
    · rename_i h2
      have : (bigR s c).2.2 = 0 := Decidable.of_not_not h2
      simp only [this, true_and] at h1
      dsimp only
      omega
theorem lacks_false {s : List UInt8} {k : Nat} (hk : k < s.length) (hk10 : k < 10) (h : (s.getD k 0).toNat < 128) : lacksV s = false := by
  unfold lacksV
  have hx : (s.take 10).all (fun c => decide (128 ≤ c.toNat)) = false := by
    rw [List.all_eq_false]
    refine ⟨s[k], ?_, ?_⟩
    · rw [List.mem_take_iff_getElem]
      exact ⟨k, by omega, rfl⟩
    · rw [List.getD_eq_getElem?_getD, List.getElem?_eq_getElem hk, Option.getD_some] at h
      simp; omega
  rw [hx]; rfl
theorem lacks_end {s : List UInt8} {k : Nat} (h : ∀ i : Nat, i < k → 128 ≤ (s.getD i 0).toNat) (hk : (k : Int) = min (s.length : Int) 10) : lacksV s = decide ((s.length : Int) < 10) := by
  unfold lacksV
  have hx : (s.take 10).all (fun c => decide (128 ≤ c.toNat)) = true := by
    rw [List.all_eq_true]
    intro x hx
    rw [List.mem_take_iff_getElem] at hx
    obtain ⟨i, hi, rfl⟩ := hx
    have := h i (by omega)
    rw [List.getD_eq_getElem?_getD, List.getElem?_eq_getElem (by omega), Option.getD_some] at this
    simp; omega
  rw [hx, Bool.true_and]
  exact decide_eq_decide.2 (by omega)
theorem bigR_err {s : List UInt8} {c : Int} (h : c ≠ 0) : bigR s c = (0, s, c) := by rw [bigR, if_pos h]
theorem bigR_lack {s : List UInt8} (h : lacksV s = true) : bigR s 0 = (0, s, 40) := by rw [bigR, if_neg (by simp), if_pos h]
theorem bigR_form {s : List UInt8} (h : lacksV s = false) (k : (takeV s).2 = 0) : bigR s 0 = (0, s, 3) := by rw [bigR, if_neg (by simp), if_neg (by simp [h]), if_pos k]
theorem bigR_ok {s : List UInt8} (h : lacksV s = false) (k : (takeV s).2 ≠ 0) : bigR s 0 = ((takeV s).1, s.drop (takeV s).2, 0) := by rw [bigR, if_neg (by simp), if_neg (by simp [h]), if_neg k]
theorem fail40 : failC 0 40 = 40 := rfl
theorem fail3 : failC 0 3 = 3 := rfl
theorem boolR_err {s : List UInt8} {c : Int} (h : c ≠ 0) : boolR s c = (false, s, c) := by unfold boolR; rw [if_pos h]
theorem boolR_form {x : UInt8} {t : List UInt8} (h : 1 < x.toNat) : boolR (x :: t) 0 = (false, x :: t, 3) := by
  show (if 1 < x.toNat then (false, x :: t, (3 : Int)) else (decide (x.toNat = 1), t, 0)) = _
  rw [if_pos h]
theorem boolR_ok {x : UInt8} {t : List UInt8} (h : ¬ 1 < x.toNat) : boolR (x :: t) 0 = (decide (x.toNat = 1), t, 0) := by
  show (if 1 < x.toNat then (false, x :: t, (3 : Int)) else (decide (x.toNat = 1), t, 0)) = _
  rw [if_neg h]
/-! What was written is read again -/
theorem form_big {l : List UInt8} {c : UInt8} (h : NumSpec.Form l c) : c.toNat < 128 := h.last
theorem lacks_put (n : Nat) (t : List UInt8) (hn : n < 18446744073709551616) : lacksV (putL n ++ t) = false := by
  have hp := putL_few n hn
  obtain ⟨l, c, h1, h2, h3⟩ := putL_form n
  have hc := form_big h2
  rw [h1] at hp ⊢
  simp only [List.length_append, List.length_singleton] at hp
  refine lacks_false (k := l.length) (by simp) (by omega) ?_
  simp [List.getD_eq_getElem?_getD]
  exact hc
theorem bigR_put (n : Nat) (t : List UInt8) (hn : n < 18446744073709551616) : bigR (putL n ++ t) 0 = (n, t, 0) := by
  have h := take_put n t hn
  have hp := putL_pos n
  rw [bigR_ok (lacks_put n t hn) (by rw [h]; dsimp only; omega), h]
  simp
theorem numR_put (n : Nat) (t : List UInt8) (most : Int) (hn : (n : Int) ≤ max most 0) (h63 : n < 18446744073709551616) : numR (putL n ++ t) 0 most = ((n : Int), t, 0) := by
  unfold numR
  rw [bigR_put n t h63]
  dsimp only
  rw [if_neg (by omega), if_neg (by simp)]
theorem textR_put (s t : List UInt8) (most : Int) (hn : (s.length : Int) ≤ max most 0) (h63 : s.length < 18446744073709551616) : textR (putL s.length ++ (s ++ t)) 0 most = (s, t, 0) := by
  unfold textR
  rw [numR_put s.length (s ++ t) most hn h63]
  dsimp only
  rw [if_neg (by simp; omega), if_neg (by simp)]
  simp
theorem boolR_put (b : Bool) (t : List UInt8) : boolR ((if b then 1 else 0) :: t) 0 = (b, t, 0) := by
  cases b <;> rfl
/-! The chapter's example -/
theorem works_w1 : (if (300 : Int) < 0 then ([] : List UInt8) else wput 0 [] (putL (300 : Int).toNat)) = [172, 2] := by
  rw [if_neg (by decide), show (300 : Int).toNat = 300 from rfl, works_put]; rfl
theorem works_w2 : wput 0 [172, 2] (putL ([104, 105] : List UInt8).length ++ [104, 105]) = [172, 2, 2, 104, 105] := by
  show wput 0 [172, 2] (putL 2 ++ [104, 105]) = _
  rw [putL_small (by decide)]; rfl
theorem works_r1 : numR [172, 2, 2, 104, 105, 1] 0 300 = (300, [2, 104, 105, 1], 0) := by
  have := numR_put 300 [2, 104, 105, 1] 300 (by decide) (by decide)
  rw [works_put] at this
  exact this
theorem works_r2 : textR [2, 104, 105, 1] 0 2 = ([104, 105], [1], 0) := by
  have := textR_put [104, 105] [1] 2 (by decide) (by decide)
  have e : putL ([104, 105] : List UInt8).length = [2] := by show putL 2 = _; rw [putL_small (by decide)]; rfl
  rw [e] at this
  exact this
theorem works_r3 : boolR [1] 0 = (true, [], 0) := rfl
/-! What is written -/
abbrev Act4 := Int × Int × Nat × List UInt8
abbrev actL (a : Act4) : List AV := [.int .i64 a.1, .int .i64 a.2.1, .int .u64 (a.2.2.1 : Int), .S a.2.2.2]
abbrev actAV (a : Act4) : AV := .agg (actL a)
def okA (a : Act4) : Prop := fits a.1 ∧ fits a.2.1 ∧ a.2.2.1 < 18446744073709551616 ∧ a.2.2.2.length ≤ 9223372036854775807
def actsL (l : List Act4) : List AV := l.map actAV
theorem actsL_len (l : List Act4) : (actsL l).length = l.length := by simp [actsL]
structure WG where
  i : Nat
  u : Bool
  q : Buf
  lw : List UInt8
  c : Int
  want : List UInt8
def WG.ok (g : WG) : Prop := g.q.ok g.lw ∧ (g.c = 0 → g.lw = g.want) ∧ g.lw.length ≤ 310 * g.i ∧ g.want.length ≤ 310 * g.i ∧ g.i ≤ 60
/-- Within a round: want is what was written in it. -/
def WG.mid (g : WG) (i : Nat) (want : List UInt8) : Prop := g.q.ok g.lw ∧ (g.c = 0 → g.lw = want ++ g.want) ∧ g.lw.length ≤ 310 * i + 310 ∧ g.want.length ≤ 310 ∧ g.i = i
theorem wput_mid {c : Int} {lw want s : List UInt8} (h : c = 0 → lw = want) : c = 0 → wput c lw s = want ++ s := fun hc => by subst hc; rw [wput_zero, h rfl]
/-! Written and read -/
def enc (a : Act4) : List UInt8 := if a.1 = 0 then putL (max a.2.1 0).toNat else if a.1 = 1 then putL a.2.2.1 else if a.1 = 2 then putL a.2.2.2.length ++ a.2.2.2 else [if decide (0 < a.2.1) then 1 else 0]
def encs (l : List Act4) : List UInt8 := l.flatMap enc
theorem encs_snoc {l : List Act4} {i : Nat} (h : i < l.length) : encs (l.take (i + 1)) = encs (l.take i) ++ enc l[i] := by
  rw [encs, List.take_succ_eq_append_getElem h, List.flatMap_append]
  simp only [List.flatMap_cons, List.flatMap_nil, List.append_nil]
  rfl
theorem encs_head {l : List Act4} {m j : Nat} (h : j < m) (hm : m ≤ l.length) : encs ((l.take m).drop j) = enc (l[j]'(by omega)) ++ encs ((l.take m).drop (j + 1)) := by
  rw [List.drop_eq_getElem_cons (by simp; omega)]
  simp [encs]
theorem enc_len {a : Act4} (h1 : fits a.2.1) (h2 : a.2.2.1 < 18446744073709551616) (h3 : a.2.2.2.length ≤ 300) : (enc a).length ≤ 310 := by
  unfold fits at h1
  have k1 := putL_few (max a.2.1 0).toNat (by omega)
  have k2 := putL_few a.2.2.1 h2
  have k3 := putL_few a.2.2.2.length (by omega)
  unfold enc
  split
  · omega
  · split
    · omega
    · split
      · simp; omega
      · simp
theorem encs_end {l : List Act4} {m j : Nat} (h : m ≤ j) : encs ((l.take m).drop j) = [] := by
  rw [List.drop_eq_nil_of_le (by simp; omega)]; rfl
/-! Just the bytes -/
theorem canon_big {s : List UInt8} (h : (bigR s 0).2.2 = 0) : s = putL (bigR s 0).1 ++ (bigR s 0).2.1 := by
  cases hl : lacksV s with
  | true => rw [bigR_lack hl] at h; exact absurd h (by show ¬ (40 : Int) = 0; decide)
  | false =>
    by_cases hk : (takeV s).2 = 0
    · rw [bigR_form hl hk] at h; exact absurd h (by show ¬ (3 : Int) = 0; decide)
    · rw [bigR_ok hl hk]
      rcases put_take s with h1 | ⟨h1, h2, h3, h4⟩
      · rw [h1] at hk; exact absurd rfl hk
      · dsimp only
        rw [h3, List.take_append_drop]
theorem canon_num {s : List UInt8} {most : Int} (h : (numR s 0 most).2.2 = 0) : s = putL (numR s 0 most).1.toNat ++ (numR s 0 most).2.1 := by
  unfold numR at h ⊢
  split at h
  · exact absurd h (by show ¬ (2 : Int) = 0; decide)
  · rename_i h1
    rw [if_neg h1]
    split at h
    · rename_i h2; exact absurd h h2
    · rename_i h2
      rw [if_neg h2]
      have := canon_big (s := s) (Decidable.of_not_not h2)
      simpa using this
theorem textR_ok {s : List UInt8} {c most : Int} (h : (textR s c most).2.2 = 0) : (numR s c most).2.2 = 0 ∧ (numR s c most).1 ≤ ((numR s c most).2.1.length : Int) ∧ textR s c most = ((numR s c most).2.1.take (numR s c most).1.toNat, (numR s c most).2.1.drop (numR s c most).1.toNat, 0) := by
  unfold textR at h ⊢
  split at h
  · exact absurd h (by show ¬ (40 : Int) = 0; decide)
  · rename_i h1
    rw [if_neg h1]
    split at h
    · rename_i h2; exact absurd h h2
    · rename_i h2
      rw [if_neg h2]
      have h3 := Decidable.of_not_not h2
      exact ⟨h3, by simp only [h3, true_and] at h1; omega, rfl⟩
theorem canon_text {s : List UInt8} {most : Int} (h : (textR s 0 most).2.2 = 0) : s = putL (textR s 0 most).1.length ++ ((textR s 0 most).1 ++ (textR s 0 most).2.1) := by
  obtain ⟨h1, h2, h3⟩ := textR_ok h
  have h4 := canon_num (most := most) h1
  have h5 := numR_nonneg s 0 most
  rw [h3]
  dsimp only
  rw [List.take_append_drop, List.length_take, show min (numR s 0 most).1.toNat (numR s 0 most).2.1.length = (numR s 0 most).1.toNat by omega]
  exact h4
theorem canon_bool {s : List UInt8} (h : (boolR s 0).2.2 = 0) : s = (if (boolR s 0).1 then 1 else 0) :: (boolR s 0).2.1 := by
  cases s with
  | nil => exact absurd h (by show ¬ (40 : Int) = 0; decide)
  | cons x t =>
    by_cases hx : 1 < x.toNat
    · rw [boolR_form hx] at h; exact absurd h (by show ¬ (3 : Int) = 0; decide)
    · rw [boolR_ok hx]
      dsimp only
      congr 1
      have : x.toNat = 0 ∨ x.toNat = 1 := by omega
      rcases this with h0 | h0
      · rw [h0]; exact UInt8.toNat_inj.1 h0
      · rw [h0]; exact UInt8.toNat_inj.1 h0
theorem textR_len (s : List UInt8) (c most : Int) : (textR s c most).1.length ≤ s.length := by
  have := numR_len s c most
  unfold textR
  split
  · simp
  · split
    · simp
    · simp; omega
theorem numR_errR {s : List UInt8} {c : Int} (h : c ≠ 0) (most : Int) : numR s c most = (0, s, c) := by
  unfold numR
  rw [bigR_err h]
  dsimp only
  rw [if_neg (fun k => h k.1), if_pos h]
theorem textR_errR {s : List UInt8} {c : Int} (h : c ≠ 0) (most : Int) : textR s c most = ([], s, c) := by
  unfold textR
  rw [numR_errR h]
  dsimp only
  rw [if_neg (fun k => h k.1), if_pos h]
structure CG where
  i : Nat
  u : Bool
  q : Buf
  lw : List UInt8
  s : List UInt8
  c : Int
end Go.AL
