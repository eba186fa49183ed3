/- A part of the proof: laws of the logic and of the data, no program in sight.
Conditions: none beyond each theorem's own. -/
import Derived.Test.YtfmiciodcimkeaaGreatDoorL2
import Derived.RowKit3
import Derived.Lib.IfaceEq
import Derived.OpenShut
import Derived.Lib.Join
import Derived.Laws.MakeOwn
import Derived.Lib.Bytealg
/-
What the walks of layer 3 come to: names, keys, values, images.
Conditions: none; no program is in sight.
-/
set_option linter.unusedVariables false
set_option linter.unusedSimpArgs false
namespace Go.AL
open Go.NumSpec Go.RowKit

def marksI : List Int := [0,0,0,0,0,0,0,0,0,0,0,0,0,7,6,0,0,0,0,0,0,0,0,0,0,0,0,0,0,0,0,0,0,0,0,0,0,0,0,0,0,0,0,0,0,0,0,0,0,0,0,0,0,0,0,0,0,0,0,0,0,0,0,4]
def marksV : List Value := marksI.map fun n => .int .i64 n
def ofV (c : UInt8) : Int := if (97 ≤ c.toNat ∧ c.toNat ≤ 122) ∨ (48 ≤ c.toNat ∧ c.toNat ≤ 57) then 7 else if 65 ≤ c.toNat ∧ c.toNat ≤ 90 then 4 else if 32 ≤ c.toNat ∧ c.toNat - 32 < 64 then marksI.getD (c.toNat - 32) 0 else 0
def smallB (c : UInt8) : Bool := decide ((97 ≤ c.toNat ∧ c.toNat ≤ 122) ∨ (48 ≤ c.toNat ∧ c.toNat ≤ 57))
def inC (w : Int) (c : UInt8) : Bool := if w = 1 then smallB c || decide (c.toNat = 45) else if w = 2 then smallB c || decide (c.toNat = 45) || decide (c.toNat = 46) else smallB c || decide (65 ≤ c.toNat ∧ c.toNat ≤ 90) || decide (c.toNat = 45) || decide (c.toNat = 46) || decide (c.toNat = 95)
theorem of_bits_all : ((List.range 256).all fun n => ([1, 2, 4].all fun w => decide (bits .and .i64 (ofV (UInt8.ofNat n)) w = 0) == !inC w (UInt8.ofNat n))) = true := by decide +kernel
theorem of_bits (c : UInt8) {w : Int} (hw : w = 1 ∨ w = 2 ∨ w = 4) : decide (bits .and .i64 (ofV c) w = 0) = !inC w c := by
  have h := List.all_eq_true.1 of_bits_all c.toNat (List.mem_range.2 c.toNat_lt)
  have h2 := List.all_eq_true.1 h w (by rcases hw with rfl | rfl | rfl <;> simp)
  simp only [UInt8.ofNat_toNat, beq_iff_eq] at h2
  exact h2
theorem atL_get {l : List UInt8} {i : Nat} (h : i < l.length) : atL l (i : Int) = ((l[i]'h).toNat : Int) := by simp [atL, h]
def nameV (s : List UInt8) : Bool := (((!decide (s = []) && decide ((s.length : Int) ≤ 16)) && s.all (inC 1)) && !decide (atL s 0 = 45)) && !decide (atL s ((s.length : Int) - 1) = 45)
def cutV (c : UInt8) (s : List UInt8) : List UInt8 × List UInt8 × Bool := if c ∈ s then (s.takeWhile (fun x => x != c), s.drop ((s.takeWhile (fun x => x != c)).length + 1), true) else (s, [], false)
def namesR : Nat → List UInt8 → Bool
  | 0, _ => false
  | k + 1, s => if nameV (cutV 47 s).1 = true then (if (cutV 47 s).2.2 = true then namesR k (cutV 47 s).2.1 else true) else false
def repoV (s : List UInt8) : Bool := decide ((s.length : Int) ≤ 24) && namesR 24 s
def tagV (s : List UInt8) : Bool := (!decide (s = []) && decide ((s.length : Int) ≤ 8)) && s.all (inC 2)
def tparts (s : List UInt8) : List UInt8 × List UInt8 × Bool := if (cutV 58 s).2.2 = true ∧ repoV (cutV 58 s).1 = true ∧ tagV (cutV 58 s).2.1 = true then ((cutV 58 s).1, (cutV 58 s).2.1, true) else ([], [], false)
def valV (s : List UInt8) : Bool := decide ((s.length : Int) ≤ 16) && s.all (inC 4)
def strsV (l : List (List UInt8)) : List AV := l.map fun s => .S s
/-- What stands between the bytes c. -/
def partsB (c : UInt8) : List UInt8 → List (List UInt8)
  | [] => [[]]
  | x :: t => if x = c then [] :: partsB c t else match partsB c t with
    | [] => [[x]]
    | p :: ps => (x :: p) :: ps
theorem partsB_ne (c : UInt8) (s : List UInt8) : partsB c s ≠ [] := by
  cases s with
  | nil => simp [partsB]
  | cons x t =>
    unfold partsB
    split
    · simp
    · split <;> simp
theorem partsB_cons {c x : UInt8} {t : List UInt8} (h : x ≠ c) : partsB c (x :: t) = (x :: (partsB c t).headD []) :: (partsB c t).tail := by
  rw [partsB, if_neg h]
  cases hp : partsB c t with
  | nil => exact absurd hp (partsB_ne c t)
  | cons p ps => rfl
theorem partsB_snoc_eq (c : UInt8) (s : List UInt8) : partsB c (s ++ [c]) = partsB c s ++ [[]] := by
  induction s with
  | nil => simp [partsB]
  | cons x t ih =>
    by_cases hx : x = c
    · subst hx; simp [partsB, ih]
    · rw [List.cons_append, partsB_cons hx, partsB_cons hx, ih]
      cases hp : partsB c t with
      | nil => exact absurd hp (partsB_ne c t)
      | cons p ps => rfl
theorem partsB_snoc_ne {c y : UInt8} (hy : y ≠ c) (s : List UInt8) : partsB c (s ++ [y]) = (partsB c s).set ((partsB c s).length - 1) ((partsB c s).getD ((partsB c s).length - 1) [] ++ [y]) := by
  induction s with
  | nil => simp [partsB, hy]
  | cons x t ih =>
    by_cases hx : x = c
    · subst hx
      have : partsB x (x :: t) = [] :: partsB x t := by rw [partsB, if_pos rfl]
      rw [List.cons_append, this]
      have : partsB x (x :: (t ++ [y])) = [] :: partsB x (t ++ [y]) := by rw [partsB, if_pos rfl]
      rw [this, ih]
      cases hp : partsB x t with
      | nil => exact absurd hp (partsB_ne x t)
      | cons p ps => simp
    · rw [List.cons_append, partsB_cons hx, partsB_cons hx, ih]
      cases hp : partsB c t with
      | nil => exact absurd hp (partsB_ne c t)
      | cons p ps =>
        cases ps with
        | nil => simp
        | cons q qs => simp
theorem partsB_cut (c : UInt8) (s : List UInt8) : partsB c s = if (cutV c s).2.2 = true then (cutV c s).1 :: partsB c (cutV c s).2.1 else [s] := by
  induction s with
  | nil => simp [cutV, partsB]
  | cons x t ih =>
    by_cases hx : x = c
    · subst hx; simp [cutV, partsB]
    · rw [partsB_cons hx, ih]
      have htw : (x :: t).takeWhile (fun y => y != c) = x :: t.takeWhile (fun y => y != c) := by rw [List.takeWhile_cons, if_pos (by simpa using hx)]
      by_cases hc : c ∈ t
      · have : c ∈ x :: t := List.mem_cons_of_mem _ hc
        simp [cutV, hc, this, htw]
      · have : c ∉ x :: t := fun h => by
          rcases List.mem_cons.1 h with e | e
          · exact hx e.symm
          · exact hc e
        simp [cutV, hc, this]
theorem cutV_len {c : UInt8} {s : List UInt8} (h : (cutV c s).2.2 = true) : s.length = (cutV c s).1.length + 1 + (cutV c s).2.1.length := by
  unfold cutV at h ⊢
  split at h
  · rename_i hc
    have := (tw_lt hc).1
    rw [if_pos hc]
    simp; omega
  · cases h
theorem cutV_no {c : UInt8} {s : List UInt8} (h : (cutV c s).2.2 = false) : (cutV c s).1 = s := by
  unfold cutV at h ⊢
  split at h
  · cases h
  · rename_i hc; rw [if_neg hc]
theorem namesR_parts (k : Nat) (s : List UInt8) : namesR k s = (decide ((partsB 47 s).length ≤ k) && (partsB 47 s).all nameV) := by
  induction k generalizing s with
  | zero =>
    have := List.length_pos_iff.2 (partsB_ne 47 s)
    rw [namesR, show decide ((partsB 47 s).length ≤ 0) = false by simp; exact partsB_ne 47 s]; rfl
  | succ k ih =>
    rw [namesR, partsB_cut 47 s]
    cases hc : (cutV 47 s).2.2 with
    | true =>
      rw [if_pos rfl, if_pos rfl, ih]
      cases hn : nameV (cutV 47 s).1 <;> simp [hn]
    | false =>
      rw [cutV_no hc]
      cases hn : nameV s <;> simp [hn]
theorem parts_sum (c : UInt8) (s : List UInt8) : ((partsB c s).map fun p => p.length + 1).sum = s.length + 1 := by
  induction s with
  | nil => simp [partsB]
  | cons x t ih =>
    by_cases hx : x = c
    · subst hx
      rw [partsB, if_pos rfl]
      simp [ih]; omega
    · rw [partsB_cons hx]
      cases hp : partsB c t with
      | nil => exact absurd hp (partsB_ne c t)
      | cons p ps =>
        rw [hp] at ih
        simp at ih ⊢
        omega
theorem nameV_len {s : List UInt8} (h : nameV s = true) : 1 ≤ s.length ∧ s.length ≤ 16 := by
  unfold nameV at h
  simp only [Bool.and_eq_true, Bool.not_eq_true', decide_eq_true_eq, decide_eq_false_iff_not] at h
  obtain ⟨⟨⟨⟨h1, h2⟩, _⟩, _⟩, _⟩ := h
  exact ⟨List.length_pos_iff.2 h1, by omega⟩
theorem sum_names {l : List (List UInt8)} (h : l.all nameV = true) : 2 * l.length ≤ (l.map fun p => p.length + 1).sum ∧ (l.map fun p => p.length + 1).sum ≤ 17 * l.length := by
  induction l with
  | nil => simp
  | cons p ps ih =>
    simp only [List.all_cons, Bool.and_eq_true] at h
    have := nameV_len h.1
    have := ih h.2
    simp
    omega
theorem parts_names {s : List UInt8} (h : (partsB 47 s).all nameV = true) : 2 * (partsB 47 s).length ≤ s.length + 1 ∧ s.length + 1 ≤ 17 * (partsB 47 s).length := by
  have := sum_names h
  rw [parts_sum] at this
  exact this
theorem key_eq (s : List UInt8) : (if 100 < s.length then false else ((partsB 47 s).all nameV && decide (((partsB 47 s).length : Int) ≤ 2))) = namesR 2 s := by
  rw [namesR_parts]
  cases h : (partsB 47 s).all nameV with
  | false => simp
  | true =>
    have := parts_names h
    by_cases h2 : (partsB 47 s).length ≤ 2
    · rw [if_neg (by omega)]; simp; omega
    · simp only [Bool.true_and, Bool.and_true]
      rw [show decide ((partsB 47 s).length ≤ 2) = false by simpa using h2, show decide (((partsB 47 s).length : Int) ≤ 2) = false by simp; omega]
      split <;> rfl
theorem repo_eq (s : List UInt8) : repoV s = (decide ((s.length : Int) ≤ 24) && (partsB 47 s).all nameV) := by
  unfold repoV
  rw [namesR_parts]
  cases h : (partsB 47 s).all nameV with
  | false => simp
  | true =>
    have := parts_names h
    by_cases h2 : (s.length : Int) ≤ 24
    · simp only [Bool.and_true]
      rw [show decide ((partsB 47 s).length ≤ 24) = true by simp; omega]; simp
    · rw [show decide ((s.length : Int) ≤ 24) = false by simpa using h2]; simp
def splitRef (s : List UInt8) : List UInt8 × List UInt8 × Bool :=
  if 100 < s.length then ([], [], false) else
  if (partsB 58 s).length ≠ 2 ∨ 24 < ((partsB 58 s).getD 0 []).length ∨ ((partsB 58 s).getD 1 []).length < 1 ∨ 8 < ((partsB 58 s).getD 1 []).length then ([], [], false) else
  if ((partsB 47 ((partsB 58 s).getD 0 [])).all nameV && ((partsB 58 s).getD 1 []).all (inC 2)) = true then ((partsB 58 s).getD 0 [], (partsB 58 s).getD 1 [], true) else ([], [], false)
theorem inC_58 : inC 2 58 = false := by decide
theorem splitRef_no {s : List UInt8} (h : (partsB 58 s).length ≠ 2 ∨ 24 < ((partsB 58 s).getD 0 []).length ∨ ((partsB 58 s).getD 1 []).length < 1 ∨ 8 < ((partsB 58 s).getD 1 []).length) : splitRef s = ([], [], false) := by
  unfold splitRef
  split <;> first | rfl | rw [if_pos h]
theorem tparts_no {s : List UInt8} (h : ¬ ((cutV 58 s).2.2 = true ∧ repoV (cutV 58 s).1 = true ∧ tagV (cutV 58 s).2.1 = true)) : tparts s = ([], [], false) := by
  unfold tparts; rw [if_neg h]
theorem split_eq (s : List UInt8) : splitRef s = tparts s := by
  have hcut := partsB_cut 58 s
  cases hc : (cutV 58 s).2.2 with
  | false =>
    rw [hc] at hcut
    rw [splitRef_no (.inl (by rw [hcut]; simp)), tparts_no (fun h => by rw [hc] at h; cases h.1)]
  | true =>
    rw [hc, if_pos rfl] at hcut
    have hlen := cutV_len hc
    have hT : tparts s = if repoV (cutV 58 s).1 = true ∧ tagV (cutV 58 s).2.1 = true then ((cutV 58 s).1, (cutV 58 s).2.1, true) else ([], [], false) := by
      unfold tparts; rw [hc]; simp only [true_and]
    rw [hT]
    generalize (cutV 58 s).1 = a at *
    generalize (cutV 58 s).2.1 = b at *
    have hcb := partsB_cut 58 b
    cases hb : (cutV 58 b).2.2 with
    | true =>
      have hmem : (58 : UInt8) ∈ b := by
        unfold cutV at hb
        split at hb
        · assumption
        · cases hb
      have htag : tagV b = false := by
        unfold tagV
        have : b.all (inC 2) = false := List.all_eq_false.2 ⟨58, hmem, by rw [inC_58]; simp⟩
        rw [this]; simp
      rw [hb, if_pos rfl] at hcb
      have := List.length_pos_iff.2 (partsB_ne 58 (cutV 58 b).2.1)
      rw [splitRef_no (.inl (by rw [hcut, hcb, List.length_cons, List.length_cons]; omega)), htag, if_neg (by simp)]
    | false =>
      rw [hb, if_neg (by simp)] at hcb
      rw [hcb] at hcut
      have g0 : (partsB 58 s).getD 0 [] = a := by rw [hcut]; rfl
      have g1 : (partsB 58 s).getD 1 [] = b := by rw [hcut]; rfl
      have gl : (partsB 58 s).length = 2 := by rw [hcut]; rfl
      by_cases h1 : a.length ≤ 24
      · by_cases h2 : b.length ≤ 8
        · by_cases h3 : b = []
          · rw [splitRef_no (.inr (.inr (.inl (by rw [g1, h3]; simp)))), if_neg (fun h => by have := h.2; rw [h3] at this; simp [tagV] at this)]
          · have := List.length_pos_iff.2 h3
            have e1 : repoV a = (partsB 47 a).all nameV := by rw [repo_eq, show decide ((a.length : Int) ≤ 24) = true by simp; omega, Bool.true_and]
            have e2 : tagV b = b.all (inC 2) := by
              unfold tagV
              rw [show decide (b = []) = false by simpa using h3, show decide ((b.length : Int) ≤ 8) = true by simp; omega]; simp
            unfold splitRef
            rw [if_neg (by omega), g0, g1, gl, if_neg (by omega), e1, e2]
            simp only [Bool.and_eq_true]
        · rw [splitRef_no (.inr (.inr (.inr (by rw [g1]; omega)))), if_neg (fun h => by have := h.2; simp [tagV] at this; omega)]
      · rw [splitRef_no (.inr (.inl (by rw [g0]; omega))), if_neg (fun h => by have := h.1; simp [repoV] at this; omega)]
theorem marks_at {i : Nat} (h : i < 64) : marksV[i]? = some (.int .i64 (marksI.getD i 0)) := by
  have hl : marksI.length = 64 := by decide
  rw [marksV, List.getElem?_map, List.getElem?_eq_getElem (by omega)]
  simp [hl, h]
theorem tw_take (c : UInt8) (s : List UInt8) : s.take (s.takeWhile (fun x => x != c)).length = s.takeWhile (fun x => x != c) := by
  obtain ⟨t, ht⟩ := List.takeWhile_prefix (fun x => x != c) (l := s)
  conv => lhs; arg 2; rw [← ht]
  simp
theorem all_take_succ {s : List UInt8} {i : Nat} {p : UInt8 → Bool} (h : i < s.length) : (s.take (i + 1)).all p = ((s.take i).all p && p s[i]) := by
  rw [List.take_succ_eq_append_getElem h, List.all_append]; simp
theorem cutV_le (c : UInt8) (s : List UInt8) : (cutV c s).1.length ≤ s.length := by
  unfold cutV
  split
  · exact (List.takeWhile_prefix _).length_le
  · exact Nat.le_refl _
theorem cutV_le2 (c : UInt8) (s : List UInt8) : (cutV c s).2.1.length ≤ s.length := by
  unfold cutV
  split <;> simp
def saysV (b : Bool) (c : Int) : Int := if b = true then 0 else c
def sameV (a b : List UInt8) : Bool := ((tparts a).2.2 && (tparts b).2.2) && decide ((tparts a).1 = (tparts b).1)
section
variable {P : Program} {N : Nat} {env : Env} {st : St} {o : Oper}
theorem PStep.ofV {V V' : AV} (h : PStep P N o env st V) (e : V = V') : PStep P N o env st V' := e ▸ h
end
theorem name_no {s : List UInt8} (h : (((s.length : Int) < 1 ∨ 16 < (s.length : Int)) ∨ atL s 0 = 45) ∨ atL s ((s.length : Int) - 1) = 45) : nameV s = false := by
  unfold nameV
  rcases h with ((h | h) | h) | h
  · have : s = [] := List.eq_nil_of_length_eq_zero (by omega)
    subst this; rfl
  · rw [show decide ((s.length : Int) ≤ 16) = false by simp; omega]; simp
  · rw [show decide (atL s 0 = 45) = true by simpa using h]; simp
  · rw [show decide (atL s ((s.length : Int) - 1) = 45) = true by simpa using h]; simp
theorem name_all {s : List UInt8} (h : ¬ ((((s.length : Int) < 1 ∨ 16 < (s.length : Int)) ∨ atL s 0 = 45) ∨ atL s ((s.length : Int) - 1) = 45)) : nameV s = s.all (inC 1) := by
  unfold nameV
  have h0 : s ≠ [] := fun e => by subst e; exact h (.inl (.inl (.inl (by decide))))
  rw [show decide (s = []) = false by simpa using h0, show decide ((s.length : Int) ≤ 16) = true by simp; omega, show decide (atL s 0 = 45) = false by simp; omega, show decide (atL s ((s.length : Int) - 1) = 45) = false by simp; omega]
  simp
theorem inC1 (c : UInt8) : inC 1 c = (smallB c || decide ((c.toNat : Int) = 45)) := by
  unfold inC; rw [if_pos rfl]; congr 1; exact decide_eq_decide.2 (by omega)
theorem inC2 (c : UInt8) : inC 2 c = ((smallB c || decide ((c.toNat : Int) = 45)) || decide ((c.toNat : Int) = 46)) := by
  unfold inC; rw [if_neg (by decide), if_pos rfl]
  congr 1
  · congr 1; exact decide_eq_decide.2 (by omega)
  · exact decide_eq_decide.2 (by omega)
theorem parts_le {c : UInt8} {s p : List UInt8} (h : p ∈ partsB c s) : p.length ≤ s.length := by
  have h1 := parts_sum c s
  have h2 : ∀ l : List (List UInt8), p ∈ l → p.length + 1 ≤ (l.map fun p => p.length + 1).sum := fun l => by
    induction l with
    | nil => intro h; simp at h
    | cons q l ih =>
      intro h
      rcases List.mem_cons.1 h with rfl | h
      · simp
      · have := ih h; simp; omega
  have := h2 _ h
  omega
theorem strsV_len (l : List (List UInt8)) : (strsV l).length = l.length := by simp [strsV]
theorem strsV_at {l : List (List UInt8)} {i : Nat} (h : i < l.length) : (strsV l)[i]? = some (.S (l.getD i [])) := by
  simp [strsV, h]
theorem take_drop_one {s : List UInt8} {i : Nat} (h : i < s.length) : (s.take (i + 1)).drop i = [s[i]] := by
  rw [List.take_succ_eq_append_getElem h, List.drop_append_of_le_length (by simp; omega)]
  simp
theorem parts_next_eq {c : UInt8} {s : List UInt8} {i : Nat} (h : i < s.length) (hc : s[i] = c) : strsV (partsB c (s.take (i + 1))) = strsV (partsB c (s.take i)) ++ [.S []] := by
  rw [List.take_succ_eq_append_getElem h, hc, partsB_snoc_eq]; simp [strsV]
theorem parts_next_ne {c : UInt8} {s : List UInt8} {i : Nat} (h : i < s.length) (hc : s[i] ≠ c) : strsV (partsB c (s.take (i + 1))) = (strsV (partsB c (s.take i))).set ((partsB c (s.take i)).length - 1) (.S ((partsB c (s.take i)).getD ((partsB c (s.take i)).length - 1) [] ++ [s[i]])) := by
  rw [List.take_succ_eq_append_getElem h, partsB_snoc_ne hc]; simp [strsV, List.map_set]
theorem parts_pos (c : UInt8) (s : List UInt8) : 0 < (partsB c s).length := List.length_pos_iff.2 (partsB_ne c s)
def valR (s : List UInt8) : Bool := (s.take 17).all (inC 4) && decide ((s.length : Int) ≤ 16)
theorem val_eq (s : List UInt8) : valR s = valV s := by
  unfold valR valV
  by_cases h : (s.length : Int) ≤ 16
  · rw [List.take_of_length_le (by omega), Bool.and_comm]
  · rw [show decide ((s.length : Int) ≤ 16) = false by simpa using h]; simp
theorem inC4 (c : UInt8) (h : ((((smallB c = false ∧ ((c.toNat : Int) < 65 ∨ 90 < (c.toNat : Int))) ∧ ¬ (c.toNat : Int) = 45) ∧ ¬ (c.toNat : Int) = 46) ∧ ¬ (c.toNat : Int) = 95)) : inC 4 c = false := by
  obtain ⟨⟨⟨⟨h1, h2⟩, h3⟩, h4⟩, h5⟩ := h
  unfold inC
  rw [if_neg (by decide), if_neg (by decide), h1, show decide (65 ≤ c.toNat ∧ c.toNat ≤ 90) = false by simp; omega, show decide (c.toNat = 45) = false by simp; omega, show decide (c.toNat = 46) = false by simp; omega, show decide (c.toNat = 95) = false by simp; omega]
  rfl
theorem inC4' (c : UInt8) (h : ¬ ((((smallB c = false ∧ ((c.toNat : Int) < 65 ∨ 90 < (c.toNat : Int))) ∧ ¬ (c.toNat : Int) = 45) ∧ ¬ (c.toNat : Int) = 46) ∧ ¬ (c.toNat : Int) = 95)) : inC 4 c = true := by
  unfold inC
  rw [if_neg (by decide), if_neg (by decide)]
  cases h1 : smallB c with
  | true => simp
  | false =>
    simp only [h1, true_and] at h
    simp only [Bool.false_or, Bool.or_eq_true, decide_eq_true_eq]
    omega
/-! The laws -/
theorem tw_append {c : UInt8} {a b : List UInt8} (h : c ∉ a) : (a ++ c :: b).takeWhile (fun x => x != c) = a := by
  induction a with
  | nil => simp
  | cons x t ih =>
    have hx : x ≠ c := fun e => h (e ▸ List.mem_cons_self)
    rw [List.cons_append, List.takeWhile_cons, if_pos (by simpa using hx), ih fun hm => h (List.mem_cons_of_mem _ hm)]
theorem cutV_sep {c : UInt8} {a b : List UInt8} (h : c ∉ a) : cutV c (a ++ c :: b) = (a, b, true) := by
  unfold cutV
  rw [if_pos (by simp), tw_append h]
  simp
theorem cutV_none {c : UInt8} {a : List UInt8} (h : c ∉ a) : cutV c a = (a, [], false) := by unfold cutV; rw [if_neg h]
theorem parts_sep {c : UInt8} {a b : List UInt8} (h : c ∉ a) : partsB c (a ++ c :: b) = a :: partsB c b := by rw [partsB_cut, cutV_sep h, if_pos rfl]
theorem parts_none {c : UInt8} {a : List UInt8} (h : c ∉ a) : partsB c a = [a] := by rw [partsB_cut, cutV_none h, if_neg (by simp)]
theorem cutV_join {c : UInt8} {s : List UInt8} (h : (cutV c s).2.2 = true) : (cutV c s).1 ++ c :: (cutV c s).2.1 = s := by
  unfold cutV at h ⊢
  split at h
  · rename_i hc
    rw [if_pos hc]
    obtain ⟨h1, h2⟩ := tw_lt hc
    dsimp only
    have h3 : s.drop (s.takeWhile (fun x => x != c)).length = c :: s.drop ((s.takeWhile (fun x => x != c)).length + 1) := by
      rw [List.drop_eq_getElem_cons h1]
      congr 1
      rw [List.getElem?_eq_getElem h1] at h2
      exact Option.some.inj h2
    have h4 := List.take_append_drop (s.takeWhile (fun x => x != c)).length s
    rw [tw_take, h3] at h4
    exact h4
  · cases h
theorem name_inC {s : List UInt8} (h : nameV s = true) : s.all (inC 1) = true := by
  unfold nameV at h
  simp only [Bool.and_eq_true] at h
  exact h.1.1.2
theorem not_mem_of {p : UInt8 → Bool} {s : List UInt8} {c : UInt8} (h : s.all p = true) (hc : p c = false) : c ∉ s := fun hm => by
  have := List.all_eq_true.1 h c hm
  rw [hc] at this; cases this
theorem name_no47 {s : List UInt8} (h : nameV s = true) : (47 : UInt8) ∉ s := not_mem_of (name_inC h) (by decide)
theorem name_no58 {s : List UInt8} (h : nameV s = true) : (58 : UInt8) ∉ s := not_mem_of (name_inC h) (by decide)
theorem key_name {s : List UInt8} (h : nameV s = true) : namesR 2 s = true := by rw [namesR_parts, parts_none (name_no47 h)]; simp [h]
theorem inC_14_all : ((List.range 256).all fun n => !inC 1 (UInt8.ofNat n) || inC 4 (UInt8.ofNat n)) = true := by decide +kernel
theorem inC_14 (c : UInt8) (h : inC 1 c = true) : inC 4 c = true := by
  have h1 := List.all_eq_true.1 inC_14_all c.toNat (List.mem_range.2 c.toNat_lt)
  simp only [UInt8.ofNat_toNat, h, Bool.not_true, Bool.false_or] at h1
  exact h1
theorem val_name {s : List UInt8} (h : nameV s = true) : valV s = true := by
  have h1 := nameV_len h
  unfold valV
  rw [show decide ((s.length : Int) ≤ 16) = true by simp; omega, Bool.true_and, List.all_eq_true]
  exact fun c hc => inC_14 c (List.all_eq_true.1 (name_inC h) c hc)
theorem repo_name {s : List UInt8} (h : nameV s = true) : repoV s = true := by
  have h1 := nameV_len h
  rw [repo_eq, parts_none (name_no47 h), show decide ((s.length : Int) ≤ 24) = true by simp; omega]
  simp [h]
theorem image_name {s : List UInt8} (h : nameV s = true) : (tparts (s ++ [58, 49])).2.2 = true := by
  unfold tparts
  rw [show s ++ [58, 49] = s ++ 58 :: [49] from rfl, cutV_sep (name_no58 h), if_pos ⟨rfl, repo_name h, show tagV [49] = true from by decide +kernel⟩]
theorem key_two {s t : List UInt8} (h : nameV s = true) (k : nameV t = true) : namesR 2 (s ++ [47] ++ t) = true := by
  rw [show s ++ [47] ++ t = s ++ 47 :: t by simp, namesR_parts, parts_sep (name_no47 h), parts_none (name_no47 k)]; simp [h, k]
theorem key_three {s t : List UInt8} (h : nameV s = true) (k : nameV t = true) : namesR 2 (s ++ [47] ++ t ++ [47] ++ s) = false := by
  rw [show s ++ [47] ++ t ++ [47] ++ s = s ++ 47 :: (t ++ 47 :: s) by simp, namesR_parts, parts_sep (name_no47 h), parts_sep (name_no47 k), parts_none (name_no47 h)]; simp
theorem name_two (s t : List UInt8) : nameV (s ++ [47] ++ t) = false := by
  cases h : nameV (s ++ [47] ++ t) with
  | false => rfl
  | true => exact absurd (by simp) (name_no47 h)
theorem name_mk {s : List UInt8} (h1 : 1 ≤ s.length) (h2 : s.length ≤ 16) (h3 : s.all (inC 1) = true) (h4 : ¬ atL s 0 = 45) (h5 : ¬ atL s ((s.length : Int) - 1) = 45) : nameV s = true := by
  rw [name_all (by omega), h3]
theorem name_ends {s : List UInt8} (h : nameV s = true) : ¬ atL s 0 = 45 ∧ ¬ atL s ((s.length : Int) - 1) = 45 := by
  unfold nameV at h
  simp only [Bool.and_eq_true, Bool.not_eq_true', decide_eq_false_iff_not] at h
  exact ⟨h.1.2, h.2⟩
theorem name_take {s : List UInt8} {i : Nat} (h : nameV s = true) (h1 : 1 ≤ i) (h2 : i < s.length) (h3 : ¬ atL s ((i : Int) - 1) = 45) : nameV (s.take i) = true := by
  have hl := nameV_len h
  have hlen : (s.take i).length = i := by simp; omega
  refine name_mk (by omega) (by omega) ?_ ?_ ?_
  · rw [List.all_eq_true]
    exact fun c hc => List.all_eq_true.1 (name_inC h) c (List.mem_of_mem_take hc)
  · have := (name_ends h).1
    simp only [atL, List.getD_eq_getElem?_getD] at this ⊢
    rw [List.getElem?_take_of_lt (by simp; omega)]
    exact this
  · rw [hlen]
    simp only [atL, List.getD_eq_getElem?_getD] at h3 ⊢
    rw [List.getElem?_take_of_lt (by omega)]
    exact h3
theorem name_drop {s : List UInt8} {i : Nat} (h : nameV s = true) (h1 : 1 ≤ i) (h2 : i < s.length) (h3 : ¬ atL s (i : Int) = 45) : nameV (s.drop i) = true := by
  have hl := nameV_len h
  have hlen : (s.drop i).length = s.length - i := by simp
  refine name_mk (by omega) (by omega) ?_ ?_ ?_
  · rw [List.all_eq_true]
    exact fun c hc => List.all_eq_true.1 (name_inC h) c (List.mem_of_mem_drop hc)
  · simp only [atL, List.getD_eq_getElem?_getD, List.getElem?_drop] at h3 ⊢
    rw [show i + (0 : Int).toNat = (i : Int).toNat by omega]
    exact h3
  · have := (name_ends h).2
    simp only [atL, List.getD_eq_getElem?_getD, List.getElem?_drop] at this ⊢
    rw [show i + (((s.drop i).length : Int) - 1).toNat = ((s.length : Int) - 1).toNat by omega]
    exact this
theorem tparts_cases (s : List UInt8) : ((tparts s).2.2 = false ∧ (tparts s).1 = [] ∧ (tparts s).2.1 = []) ∨ ((tparts s).2.2 = true ∧ (tparts s).1 ++ [58] ++ (tparts s).2.1 = s ∧ repoV (tparts s).1 = true) := by
  unfold tparts
  split
  · rename_i h
    refine .inr ⟨rfl, ?_, h.2.1⟩
    rw [List.append_assoc]
    exact cutV_join h.1
  · exact .inl ⟨rfl, rfl, rfl⟩
theorem inC_split : True := trivial
theorem repo_no58 {s : List UInt8} (h : repoV s = true) : (58 : UInt8) ∉ s := by
  rw [repo_eq] at h
  simp only [Bool.and_eq_true] at h
  have key : ∀ n, ∀ s : List UInt8, s.length ≤ n → (partsB 47 s).all nameV = true → (58 : UInt8) ∉ s := fun n => by
    induction n with
    | zero => intro s hs _; have : s = [] := List.eq_nil_of_length_eq_zero (by omega); subst this; simp
    | succ n ih =>
      intro s hs hall
      cases hc : (cutV 47 s).2.2 with
      | false =>
        rw [partsB_cut, hc, if_neg (by simp)] at hall
        exact name_no58 (by simpa using hall)
      | true =>
        rw [partsB_cut, hc, if_pos rfl] at hall
        simp only [List.all_cons, Bool.and_eq_true] at hall
        have hl := cutV_len hc
        have h2 := ih _ (by omega) hall.2
        have hj := cutV_join hc
        rw [← hj]
        simp only [List.mem_append, List.mem_cons, not_or]
        exact ⟨name_no58 hall.1, by decide, h2⟩
  exact key _ s (Nat.le_refl _) h.2
theorem image_x {r : List UInt8} (h : repoV r = true) : tparts (r ++ [58, 120]) = (r, [120], true) := by
  unfold tparts
  rw [show r ++ [58, 120] = r ++ 58 :: [120] from rfl, cutV_sep (repo_no58 h), if_pos ⟨rfl, h, show tagV [120] = true from by decide +kernel⟩]
theorem sameV_comm (a b : List UInt8) : sameV a b = sameV b a := by
  unfold sameV
  rw [Bool.and_comm (tparts a).2.2]
  congr 1
  exact decide_eq_decide.2 eq_comm
theorem says_zero {b : Bool} {c : Int} (hc : c ≠ 0) : saysV b c = 0 ↔ b = true := by
  unfold saysV
  cases b
  · simp [hc]
  · simp
/-! The chapter's examples -/
theorem w03a : tparts [108, 105, 98, 47, 119, 101, 98, 58, 49, 46, 48] = ([108, 105, 98, 47, 119, 101, 98], [49, 46, 48], true) := by decide +kernel
theorem w03b : nameV [119, 101, 98, 45, 49] = true := by decide +kernel
theorem w03c : nameV [45, 119, 101, 98] = false := by decide +kernel
theorem w03d : tparts [119, 101, 98] = ([], [], false) := by decide +kernel
theorem w03e : namesR 2 [97, 47, 98] = true := by decide +kernel
theorem w03f : valV [88, 95, 49] = true := by decide +kernel
theorem tparts_len (s : List UInt8) : (tparts s).1.length ≤ s.length ∧ (tparts s).2.1.length ≤ s.length := by
  unfold tparts
  split
  · exact ⟨cutV_le 58 s, cutV_le2 58 s⟩
  · simp
end Go.AL

/-
Package fail's error values as abstract values; errors' own texts by their contracts: laws of AL on them.
Conditions: none; no program is in sight.
-/
set_option linter.unusedVariables false
set_option linter.unusedSimpArgs false
namespace Go.AL
open Go.RowKit Go.NumSpec Go.Stop

/-- A code (type C), under steps (type S). -/
def chainV (C S : TypeId) (c : Int) : List (List UInt8) → AV
  | [] => .ifc C (.int .i64 c)
  | p :: ps => .ifc S (.ip [.S p, chainV C S c ps])
abbrev Er := Option (Int × List (List UInt8))
def erV (C S : TypeId) : Er → AV
  | none => .nili
  | some (c, ps) => chainV C S c ps
def erNew (c : Int) (ps : List (List UInt8)) : Er := if c = 0 then none else some (c, ps)
def erIn (e : Er) (p : List UInt8) : Er := e.map fun x => (x.1, p :: x.2)
def erCode (e : Er) : Int := match e with | none => 0 | some (c, _) => c
def erPath (e : Er) : List (List UInt8) := match e with | none => [] | some (_, ps) => ps
def erHas (e : Er) (d : Int) : Bool := match e with | none => decide (d = 0) | some (c, _) => decide (c = d)
theorem chain_ifc (C S : TypeId) (c : Int) (ps : List (List UInt8)) : ∃ T z, chainV C S c ps = .ifc T z := by cases ps <;> exact ⟨_, _, rfl⟩
theorem er_is (C S : TypeId) (e : Er) : ErrIs (erV C S e) e.isNone := by
  cases e with
  | none => rfl
  | some x => exact chain_ifc C S x.1 x.2
theorem chain_is (C S : TypeId) (c : Int) (ps : List (List UInt8)) : ErrIs (chainV C S c ps) false := chain_ifc C S c ps
def typV (C S : TypeId) (ps : List (List UInt8)) : TypeId := match ps with | [] => C | _ => S
theorem erNew_none {c : Int} {ps : List (List UInt8)} (h : c = 0) : erNew c ps = none := by rw [erNew, if_pos h]
theorem erNew_some {c : Int} {ps : List (List UInt8)} (h : c ≠ 0) : erNew c ps = some (c, ps) := by rw [erNew, if_neg h]
theorem erNew_code (c : Int) (ps : List (List UInt8)) : erCode (erNew c ps) = c := by
  by_cases h : c = 0
  · rw [erNew_none h, h]; rfl
  · rw [erNew_some h]; rfl
theorem erNew_isNone (c : Int) (ps : List (List UInt8)) : (erNew c ps).isNone = decide (c = 0) := by
  by_cases h : c = 0
  · rw [erNew_none h]; simp [h]
  · rw [erNew_some h]; simp [h]

theorem erHas_new (c d : Int) (ps : List (List UInt8)) : erHas (erNew c ps) d = decide (c = d) := by
  by_cases h : c = 0
  · rw [erNew_none h, h]
    simp [erHas, eq_comm]
  · rw [erNew_some h]; rfl
theorem ifc_is (T : TypeId) (x : AV) : ErrIs (.ifc T x) false := ⟨T, x, rfl⟩
theorem chain_cells (C S : TypeId) (c : Int) (ps : List (List UInt8)) : (chainV C S c ps).cells = [chainV C S c ps] := by cases ps <;> rfl
theorem er_cells (C S : TypeId) (e : Er) : (erV C S e).cells = [erV C S e] := by
  cases e with
  | none => rfl
  | some x => exact chain_cells C S x.1 x.2
theorem chain_one (C S : TypeId) (c : Int) (ps : List (List UInt8)) : (chainV C S c ps).one = true := by cases ps <;> rfl
theorem er_one (C S : TypeId) (e : Er) : (erV C S e).one = true := by
  cases e with
  | none => rfl
  | some x => exact chain_one C S x.1 x.2
theorem er_flat (C S : TypeId) (e : Er) : (erV C S e).flat = true := by
  cases e with
  | none => rfl
  | some x => obtain ⟨c, ps⟩ := x; cases ps <;> rfl
def hdV (c d : Int) (ps : List (List UInt8)) : Bool := match ps with | [] => decide (c = d) | _ => false
theorem hdV_true {c d : Int} {ps : List (List UInt8)} (h : hdV c d ps = true) : c = d := by
  cases ps with
  | nil => exact of_decide_eq_true h
  | cons p ps => cases h
def upV (C S : TypeId) (c : Int) (ps : List (List UInt8)) : AV := match ps with | [] => .nili | p :: ps => chainV C S c (p :: ps)
def firstE : List Er → Er
  | [] => none
  | e :: es => match e with | some x => some x | none => firstE es
theorem first_none {es : List Er} {i : Nat} (h : i < es.length) (he : es[i] = none) : firstE (es.drop i) = firstE (es.drop (i + 1)) := by
  rw [List.drop_eq_getElem_cons h, he]; rfl
theorem first_some {es : List Er} {i : Nat} (h : i < es.length) {x : Int × List (List UInt8)} (he : es[i] = some x) : firstE (es.drop i) = some x := by
  rw [List.drop_eq_getElem_cons h, he]; rfl
def ersV (C S : TypeId) (es : List Er) : List AV := es.map (erV C S)

def stepV (C S : TypeId) (e : Er) (Y : AV) : AV := match e with | some (c, p :: ps) => .ip [.S p, chainV C S c ps] | _ => Y
def stepB (e : Er) : Bool := match e with | some (_, _ :: _) => true | _ => false
def dropE (e : Er) (n : Nat) : Er := e.map fun x => (x.1, x.2.drop n)

def intsV (l : List Int) : List AV := l.map fun n => .int .i64 n
def wantC (l : List Int) : Int := l.foldl (fun w c => if w = 0 then c else w) 0
theorem want_next {l : List Int} {i : Nat} (h : i < l.length) : wantC (l.take (i + 1)) = if wantC (l.take i) = 0 then l[i] else wantC (l.take i) := by
  unfold wantC
  rw [List.take_succ_eq_append_getElem h, List.foldl_append]
  rfl
theorem four (c0 c1 c2 c3 : Int) (p0 p1 p2 p3 : List (List UInt8)) : erCode (firstE [erNew c0 p0, erNew c1 p1, erNew c2 p2, erNew c3 p3]) = wantC [c0, c1, c2, c3] ∧ (firstE [erNew c0 p0, erNew c1 p1, erNew c2 p2, erNew c3 p3]).isNone = decide (wantC [c0, c1, c2, c3] = 0) := by
  by_cases h0 : c0 = 0 <;> by_cases h1 : c1 = 0 <;> by_cases h2 : c2 = 0 <;> by_cases h3 : c3 = 0 <;> simp [firstE, erNew, erCode, wantC, *]
def sameF (a b : List (List UInt8)) (i : Nat) : Bool := decide (a.length = b.length ∧ a.take i = b.take i)
theorem sameF_end {a b : List (List UInt8)} {i : Nat} (h : sameF a b i = false ∨ a.length ≤ i ∨ b.length ≤ i) : sameF a b i = decide (a = b) := by
  unfold sameF at *
  by_cases he : a = b
  · subst he; simp
  · rw [show decide (a = b) = false by simp [he]]
    rcases h with h | h | h
    · exact h
    · rw [decide_eq_false_iff_not]
      intro ⟨h1, h2⟩
      rw [List.take_of_length_le h, List.take_of_length_le (by omega)] at h2
      exact he h2
    · rw [decide_eq_false_iff_not]
      intro ⟨h1, h2⟩
      rw [List.take_of_length_le h, List.take_of_length_le (by omega)] at h2
      exact he h2
theorem sameF_next {a b : List (List UInt8)} {i : Nat} (h : sameF a b i = true) (ha : i < a.length) (hb : i < b.length) : decide (a[i] = b[i]) = sameF a b (i + 1) := by
  have h' := of_decide_eq_true h
  unfold sameF
  rw [List.take_succ_eq_append_getElem ha, List.take_succ_eq_append_getElem hb]
  by_cases he : a[i] = b[i]
  · simp [he, h'.1, h'.2]
  · have : ¬ (a.take i ++ [a[i]] = b.take i ++ [b[i]]) := fun h => he (by have := List.append_inj_right' h rfl; simpa using this)
    rw [decide_eq_false he, decide_eq_false (fun h => this h.2)]

section
variable {P : Program} {N : Nat} {Q : Post} {env : Env} {st : St} {o : Oper} {w : World}
theorem S_eqlDiff {t t2 : TypeId} {x y : Operand} {T U : TypeId} {X Y : AV} {ms : Array (String × TypeId)} (ho : o.op = .binOp .eql t x y t2) (hx : AEv env x (.ifc T X)) (hy : AEv env y (.ifc U Y)) (hu : P.underlying t = some (.interface ms)) (hne : T ≠ U) : PStep P N o env st (.bool false) :=
  .of_val fun a w hg => by
    obtain ⟨u, e1, _⟩ := ifc_inv (hx _ _ _ _ hg)
    obtain ⟨v, e2, _⟩ := ifc_inv (hy _ _ _ _ hg)
    exact ⟨.bool false, by simp only [execOp, ho, e1, e2, eqGuard_at_iface, Sem.run_bind, Sem.run_pure, run_eql_iface_types T U u v hu hne, Result.andThen_ok], .lit _⟩
theorem S_eqlInt {t t2 : TypeId} {x y : Operand} {T : TypeId} {k q : IntKind} {c d : Int} {ms : Array (String × TypeId)} (ho : o.op = .binOp .eql t x y t2) (hx : AEv env x (.ifc T (.int k c))) (hy : AEv env y (.ifc T (.int k d))) (hu : P.underlying t = some (.interface ms)) (hc : (P.info? T).map (·.comparable) = some true) (hk : P.underlying T = some (.int q)) : PStep P N o env st (.bool (decide (c = d))) :=
  .of_val fun a w hg => by
    obtain ⟨u, e1, h1⟩ := ifc_inv (hx _ _ _ _ hg)
    obtain ⟨v, e2, h2⟩ := ifc_inv (hy _ _ _ _ hg)
    rw [h1.lit_inv] at e1
    rw [h2.lit_inv] at e2
    refine ⟨.bool (c == d), by simp only [execOp, ho, e1, e2, eqGuard_at_iface, Sem.run_bind, Sem.run_pure, Lib.run_eql_iface_int w c d hu hc hk, Result.andThen_ok], ?_⟩
    have : (c == d) = decide (c = d) := by by_cases h : c = d <;> simp [h]
    rw [this]
    exact .lit _
/-- reflectlite.TypeOf at an interface value whose type is known. -/
theorem S_typeOf {f : FuncId} {e : Array Value → Sem Value} {x : Operand} {ts : Array TypeId} {T : TypeId} {X : AV} {r : Value} (ho : o.op = .call { callee := .value (.func f), args := #[x], argTypes := ts }) (hx : AEv env x (.ifc T X)) (hf : ExtOf P f e)
    (hv : ∀ u w, (e #[.iface T u]).run P w = .ok r w) : PStep P N o env st (.lit r) :=
  S_ext (xs := [x]) ho (.cons hx .nil) hf fun w vs hrel hl hr => by
    obtain ⟨v, rfl, hv1⟩ := one_arg hl hr
    obtain ⟨u, rfl, hu⟩ := ifc_inv hv1
    exact ⟨r, w, .lit r, st, hv u w, ⟨rfl, rfl⟩, .lit _, hrel, .refl _ _⟩
theorem S_appendRowNil {t e size b off cap : Nat} {x y : Operand} {xs : List AV} (ho : o.op = .call { callee := .builtin .append, args := #[x, y], argTypes := #[t, t] }) (hx : AEv env x (.row b off cap xs)) (hy : AEv env y (.sl [])) (hu : P.underlying t = some (.slice e)) (hm : (P.info? e).map (·.size) = some size) :
    PStep P N o env st (.row b off cap xs) :=
  .of_val fun a w hg => by
    have h0 := hx _ _ _ _ hg
    obtain ⟨e1, hcap⟩ := row_inv h0
    obtain ⟨B, cap2, e2, _⟩ := sl_inv (hy _ _ _ _ hg)
    cases hq : P.info? e with
    | none => simp [hq] at hm
    | some q =>
      have hqm : q.size = size := by simpa [hq] using hm
      refine ⟨.slice (some ⟨b, off, none⟩) xs.length cap, ?_, by rw [← e1]; exact h0⟩
      simp only [execOp, ho, resolve, invoke, builtin, Sem.run_bind, Sem.run_pure, Result.andThen_ok, List.map_toArray, List.map_cons, List.map_nil, e1, e2]
      cases B <;> simp [Builtin.append_, run_underlying hu, sizeOf, typeInfo, hq, Builtin.lenOf, Builtin.firstCells, loadCells, loadCellsFrom, storeCells, hcap]
theorem S_appendRowAny {t e size bytes b k cap : Nat} {x y : Operand} {xs ys : List AV} (pre post : St) (ho : o.op = .call { callee := .builtin .append, args := #[x, y], argTypes := #[t, t] }) (hx : AEv env x (.row b (k * size) cap xs)) (hy : AEv env y (.sl ys)) (hst : st = pre ++ (ownSt (.row b k cap) e size xs ++ post)) (h : xs.length ≤ cap) (hu : P.underlying t = some (.slice e)) (hm : (P.info? e).map (·.size) = some size) (hT : appT P t e size bytes = true)
    (hsx : ∀ x, x ∈ xs → x.cells.length = size) (hs : ∀ y, y ∈ ys → y.cells.length = size ∧ y.cells.all AV.one = true) (hb : (xs.length + ys.length) * bytes ≤ 140737488355328) (h63 : xs.length + ys.length ≤ 9223372036854775807) :
    Step P N o env st fun z st' => ∃ b k cap, (xs ++ ys).length ≤ cap ∧ z = ownAV (.row b k cap) size (xs ++ ys) ∧ st' = pre ++ (ownSt (.row b k cap) e size (xs ++ ys) ++ post) := by
  cases ys with
  | nil =>
    intro a w hg next Q hn
    exact S_appendRowNil ho hx hy hu hm a w hg next Q fun z st' v w' ⟨hz, hs'⟩ => hn z st' v w' ⟨b, k, cap, by simpa using h, by rw [hz, List.append_nil]; rfl, by rw [hs', List.append_nil]; exact hst⟩
  | cons z zs => exact S_appendOwn (p := .row b k cap) pre post ho hx hy hst h hT (by simp) hsx hs hb h63
/-- A pointer to cells of one's own, as one to cells that stay. -/
theorem Conv.ipT {st' : St} {b : Nat} {cs : List AV} (h : Sub st' st) (hb : (b, Ob.cells cs) ∈ st) (hn : (st.map (·.1)).Nodup → ∀ o, (b, o) ∉ st') : Conv st st' (.ptr b 0) (.ip cs) := fun w v hr h1 =>
  Conv.ip h hb (hn hr.nodup) rfl (fun i c d hc hd => by rw [hc] at hd; cases hd; exact Conv.refl h c) w v hr h1
end
end Go.AL

/-
The logic AL: arrays of ints that came in.
Conditions: none; no program is in sight.
-/
set_option linter.unusedVariables false
set_option linter.unusedSimpArgs false
namespace Go.AL
open Go.RowKit Go.NumSpec Go.ChangeShapes Go.WideShapes
section
variable {P : Program} {t : TypeId}
theorem Opens.arrInts {n : Nat} {e : TypeId} (hu : P.underlying t = some (.array n e)) (he : P.underlying e = some (.int .i64)) (hc : P.cellsOf e = 1) (ht : P.cellsOf t = n) : Opens P t (List Int) intsV (fun l => l.length = n) := .mk fun enc w fuel cs x hx => by
  obtain ⟨xs, m, rfl, rfl, hl, hxl, hf⟩ := DataW.trod_array hu hx
  rw [ht] at hl
  have each : ∀ i, i < n → ∃ k, cs[i]? = some (.int .i64 k) := fun i h => by
    have h1 := hf i h
    rw [hc, Nat.mul_one] at h1
    have hi : i < cs.length := by omega
    have h2 : (cs.drop i).take 1 = [cs[i]] := by rw [List.drop_eq_getElem_cons hi]; rfl
    have hx2 : i < xs.length := by omega
    rw [h2, List.getElem?_eq_getElem hx2] at h1
    obtain ⟨y, _, hr⟩ := (Opens.i64 he).run enc w m _ _ h1
    have := (hr.2 0 _ _ rfl rfl).lit_inv
    exact ⟨y, by rw [List.getElem?_eq_getElem hi, this]⟩
  let g : Value → Int := fun v => match v with | .int _ k => k | _ => 0
  refine ⟨cs.map g, by rw [List.length_map]; exact hl, by simp [intsV], fun i c v hcc hv => ?_⟩
  have hi : i < n := by have := (List.getElem?_eq_some_iff.1 hv).1; omega
  obtain ⟨k, hk⟩ := each i hi
  rw [hk] at hv
  cases hv
  simp [intsV, hk] at hcc
  subst hcc
  exact .lit _
theorem Opens.argA {H : Type} {enc : TypeId × Value → H} {w : World} {r : Reach} {base : Nat} {α : Type} {toL : α → List AV} {ok : α → Prop} (h : Opens P t α toL ok) {n : Nat} {e : TypeId} (hu : P.underlying t = some (.array n e)) {v : Value} {d : DataW H} {ps : List MemPlace} (hval : Value.okWide P w r base t v) (ht : DataW.Trod enc P w 0 (fun _ => true) true t v d ps) : ∃ y, ok y ∧ R [] w (.agg (toL y)) v := by
  simp only [Value.okWide, hu] at hval
  obtain ⟨cs, rfl, _⟩ := hval
  exact h.argN ht
end
end Go.AL

/-
The reference's errors (a code and a path) as abstract values; joined texts, step by step.
Conditions: none; no program is in sight.
-/
set_option linter.unusedVariables false
set_option linter.unusedSimpArgs false
namespace Go.AL
open Go.RowKit Go.NumSpec
def refV (e : Er) : AV := .agg [.int .i64 (erCode e), .sl (strsV (erPath e))]
theorem Le.fail0 : Le (.agg [.int .i64 0, .nils]) (refV none) := Le.agg rfl fun i c d hc hd => by
  match i with
  | 0 => simp at hc hd; subst hc; subst hd; exact Le.refl _
  | 1 => simp at hc hd; subst hc; subst hd; exact Le.nils
  | i + 2 => simp at hc
theorem Le.fail1 {c : Int} {p : Own} {xs : List AV} (h : p.ok xs) : Le (.agg [.int .i64 c, ownAV p 1 xs]) (.agg [.int .i64 c, .sl xs]) := Le.agg rfl fun i a d hc hd => by
  match i with
  | 0 => simp at hc hd; subst hc; subst hd; exact Le.refl _
  | 1 => simp at hc hd; subst hc; subst hd; exact Le_own h
  | i + 2 => simp at hc
def joinT (ps : List (List UInt8)) (i : Nat) : List UInt8 := Lib.join (ps.take i) [46]
theorem joinT_one {ps : List (List UInt8)} (h : 0 < ps.length) : joinT ps 1 = ps[0] := by
  cases ps with
  | nil => simp at h
  | cons p ps => simp [joinT, Lib.join_one]
theorem joinT_next {ps : List (List UInt8)} {i : Nat} (h0 : 0 < i) (h : i < ps.length) : joinT ps (i + 1) = (joinT ps i ++ [46]) ++ ps[i] := by
  cases ps with
  | nil => simp at h
  | cons p r =>
    obtain ⟨k, rfl⟩ : ∃ k, i = k + 1 := ⟨i - 1, by omega⟩
    have hk : k < r.length := by simpa using h
    simp only [joinT, List.take_succ_cons, Lib.join_cons, Lib.joinTail_take_succ [46] r k r[k] (List.getElem?_eq_getElem hk), List.getElem_cons_succ, List.append_assoc]
theorem joinT_le (ps : List (List UInt8)) (i : Nat) : (joinT ps i).length ≤ (Lib.join ps [46]).length := by
  cases ps with
  | nil => simp [joinT]
  | cons p r =>
    cases i with
    | zero => simp [joinT, Lib.join_nil]
    | succ k =>
      simp only [joinT, List.take_succ_cons, Lib.join_cons, List.length_append]
      have := Lib.joinTail_take_le [46] r k
      omega
theorem joinT_all {ps : List (List UInt8)} {i : Nat} (h : ps.length ≤ i) : joinT ps i = Lib.join ps [46] := by rw [joinT, List.take_of_length_le h]
end Go.AL

/-
The logic AL: slices of one's own of one-cell elements, from nil on: what they grow to may be written in place.
Conditions: none; no program is in sight.
-/
set_option linter.unusedVariables false
set_option linter.unusedSimpArgs false
namespace Go.AL
open Go.RowKit Go.NumSpec
def vst (q : Vec) (xs : List AV) : St := match q with | .at b cap => [(b, .cells (vec1C cap xs))] | _ => []
section
variable {P : Program} {N : Nat} {Q : Post} {env : Env} {st : St} {o : Oper} {w : World}
theorem S_appendNilV1 {t e bytes : Nat} {x y : Operand} {z : AV} (ho : o.op = .call { callee := .builtin .append, args := #[x, y], argTypes := #[t, t] }) (hx : AEv env x .nils) (hy : AEv env y (.sl [z])) (hT : appT P t e 1 bytes = true) (hone : z.one = true) (hzc : z.cells = [z]) (hb : bytes ≤ 140737488355328) :
    Step P N o env st fun v st' => ∃ b cap, 1 ≤ cap ∧ v = vec1V b cap [z] ∧ st' = (b, .cells (vec1C cap [z])) :: st := by
  intro a w hg next Q hn
  obtain ⟨hu, ⟨i, zz, hi, hz, hsize, rfl, hzs⟩, hpos⟩ := appT_spec hT
  have e1 := (hx _ _ _ _ hg).lit_inv
  obtain ⟨b, off, cap, news, e2, hl, hnews, hone2, hR⟩ := sl_cells (size := i.size) (hy _ _ _ _ hg) (by simp) (fun i y h => by cases i with | zero => simp at h; subst h; rw [hzc, hsize]; rfl | succ i => simp at h) (by omega) (fun y hy => by simp at hy; subst hy; rw [hzc]; simp [hone])
  have hlen : news.length = 1 := by rw [hl, hsize]; rfl
  obtain ⟨u, rfl⟩ : ∃ u, news = [u] := by
    match news, hlen with
    | [u], _ => exact ⟨u, rfl⟩
  have hRu : R st w z u := by
    obtain ⟨u', h1, h2⟩ := hR 0 z 0 z rfl (by rw [hzc]; rfl)
    simp at h1
    subst h1
    exact h2
  have hrun := run_append_nil (P := P) w t o.type e i zz hu hi hz ⟨b, off, none⟩ 1 cap [u] hl hnews (by decide) (by omega) (by omega)
  have hge := grownCap_ge w 1 0 e
  generalize grownCap w 1 0 e = cp at *
  have hsz : ([u].toArray ++ Builtin.zeroCells zz.cells (cp - 1)).size = (vec1C cp [z]).length := by
    simp only [Array.size_append, List.size_toArray, size_zeroCells, hzs, vec1C, List.length_append, List.length_replicate, List.length_singleton]
    omega
  obtain ⟨k1, k2⟩ := alloc_rel (T := e) (hg.rel.drew) (ob := .cells (vec1C cp [z])) (vs := [u].toArray ++ Builtin.zeroCells zz.cells (cp - 1)) ⟨hsz, fun k c v hc hv => by
    cases k with
    | zero =>
      simp [vec1C] at hc
      rw [Array.getElem?_append_left (by simp)] at hv
      simp at hv
      subst hc; subst hv
      exact hRu.mono Ext.drew hg.rel.nodup
    | succ k =>
      rw [vec1C, List.getElem?_append_right (by simp)] at hc
      have := List.mem_of_getElem? hc
      rw [List.mem_replicate] at this
      rw [this.2]
      exact .any _⟩
  have k2 := Ext.drew.trans k2 hg.rel.nodup
  have hexec : (execOp a.eval o).run P w = .ok (.value (.slice (some ⟨w.heap.size, 0, none⟩) 1 cp)) (w.drew.alloc (.cells ([u].toArray ++ Builtin.zeroCells zz.cells (cp - 1)) e)) := by
    simp only [execOp, ho, resolve, invoke, builtin, Sem.run_bind, Sem.run_pure, Result.andThen_ok, List.map_toArray, List.map_cons, List.map_nil, e1, e2, List.length_singleton, hrun]
  unfold Oper.wp
  rw [hexec]
  exact hn _ _ _ _ ⟨w.heap.size, cp, hge, rfl, rfl⟩ (.lit _) k1 k2
/-- Memory may be left behind, or stand in another order. -/
theorem Step.sub {K K' : AV → St → Prop} (h : Step P N o env st K) (hk : ∀ x st', K x st' → ∃ st'', Sub st'' st' ∧ K' x st'') : Step P N o env st K' := fun a w hg next Q hn =>
  h a w hg next Q fun x st' v w' k hr hrel hx => by
    obtain ⟨st'', hs, hk'⟩ := hk x st' k
    exact hn x st'' v w' hk' (hr.mono (Ext.dropS hs) hrel.nodup) (hrel.dropS hs) (hx.trans (Ext.dropS hs) hg.rel.nodup)
/-- One more element, to nil or to what has grown out of it. -/
theorem S_appendV1 {t e bytes : Nat} {x y : Operand} {q : Vec} {xs : List AV} {z : AV} (pre post : St) (ho : o.op = .call { callee := .builtin .append, args := #[x, y], argTypes := #[t, t] }) (hx : AEv env x (.lit (vecV q xs.length))) (hy : AEv env y (.sl [z])) (hst : st = pre ++ (vst q xs ++ post)) (hq : q.ok xs) (hq2 : ∀ A, q ≠ .emp A) (hT : appT P t e 1 bytes = true)
    (hone : z.one = true) (hzc : z.cells = [z]) (hb : (xs.length + 1) * bytes ≤ 140737488355328) (h63 : xs.length + 1 ≤ 9223372036854775807) :
    Step P N o env st fun v st' => ∃ b' cap', (xs ++ [z]).length ≤ cap' ∧ v = vec1V b' cap' (xs ++ [z]) ∧ st' = pre ++ (vst (.at b' cap') (xs ++ [z]) ++ post) := by
  cases q with
  | emp A => exact absurd rfl (hq2 A)
  | nil =>
    have h0 : xs = [] := hq
    subst h0
    subst hst
    refine Step.sub (S_appendNilV1 ho hx hy hT hone hzc (by simpa using hb)) ?_
    rintro v st' ⟨b, cap, h1, h2, rfl⟩
    exact ⟨pre ++ ((b, .cells (vec1C cap [z])) :: post), Sub.p List.perm_middle (List.Sublist.refl _), b, cap, h1, h2, rfl⟩
  | «at» b cap => exact S_appendVec1 pre post ho hx hy hst hq hT hone hzc hb h63
/-- .. read only, from here on. -/
theorem Conv.v1 {st' : St} (h : Sub st' st) {q : Vec} {xs : List AV} (hq : q.ok xs) (hs : ∀ x, x ∈ xs → x.cells = [x]) (hm : ∀ p, p ∈ vst q xs → p ∈ st) (hn : ∀ b cap, q = .at b cap → ∀ o, (b, o) ∉ st') : Conv st st' (.lit (vecV q xs.length)) (.sl xs) := by
  cases q with
  | emp A => have h0 : xs = [] := hq; subst h0; intro w v hr h1; cases h1; exact .sl0 _ _
  | nil => have h0 : xs = [] := hq; subst h0; intro w v hr h1; cases h1; exact .sl0 _ _
  | «at» b cap => exact Conv.vec1 h hq hs (hm _ List.mem_cons_self) (hn b cap rfl)
end
end Go.AL

/-
Errors wrapped time and again: what stays.
Conditions: none; no program is in sight.
-/
set_option linter.unusedVariables false
set_option linter.unusedSimpArgs false
namespace Go.AL
open Go.RowKit Go.NumSpec
theorem erIn_code (e : Er) (p : List UInt8) : erCode (erIn e p) = erCode e := by cases e <;> rfl
theorem erIn_isNone (e : Er) (p : List UInt8) : (erIn e p).isNone = e.isNone := by cases e <;> rfl
theorem fold_code : ∀ (l : List (List UInt8)) (e : Er), erCode (l.foldl erIn e) = erCode e
  | [], e => rfl
  | p :: l, e => by rw [List.foldl_cons, fold_code l, erIn_code]
theorem fold_isNone : ∀ (l : List (List UInt8)) (e : Er), (l.foldl erIn e).isNone = e.isNone
  | [], e => rfl
  | p :: l, e => by rw [List.foldl_cons, fold_isNone l, erIn_isNone]
theorem fold_path : ∀ (l : List (List UInt8)) (e : Er), (erPath (l.foldl erIn e)).length ≤ (erPath e).length + l.length
  | [], e => Nat.le_refl _
  | p :: l, e => by
    have h := fold_path l (erIn e p)
    have h2 : (erPath (erIn e p)).length ≤ (erPath e).length + 1 := by cases e <;> simp [erIn, erPath]
    rw [List.foldl_cons, List.length_cons]
    omega
theorem new_path (c : Int) (ps : List (List UInt8)) : (erPath (erNew c ps)).length ≤ ps.length := by
  by_cases h : c = 0
  · rw [erNew_none h]; simp [erPath]
  · rw [erNew_some h]; exact Nat.le_refl _
theorem fold_well (l : List (List UInt8)) (c : Int) (ps : List (List UInt8)) (h : erCode (l.foldl erIn (erNew c ps)) = 0) : l.foldl erIn (erNew c ps) = none := by
  rw [fold_code, erNew_code] at h
  have := fold_isNone l (erNew c ps)
  rw [erNew_isNone, h] at this
  cases hh : l.foldl erIn (erNew c ps) with
  | none => rfl
  | some x => rw [h] at hh; rw [hh] at this; simp at this
theorem erHas_code (e : Er) (d : Int) : erHas e d = decide (erCode e = d) := by
  cases e with
  | none => simp [erHas, erCode, eq_comm]
  | some x => rfl
theorem fold_next {l : List (List UInt8)} {i : Nat} (h : i < l.length) (e : Er) : (l.take (i + 1)).foldl erIn e = erIn ((l.take i).foldl erIn e) l[i] := by
  rw [List.take_succ_eq_append_getElem h, List.foldl_append]; rfl
end Go.AL

/-
What the walks of layer 14 come to, as plain equations: resources as triples of numbers.
Conditions: none; no program is in sight.
-/
set_option linter.unusedVariables false
set_option linter.unusedSimpArgs false
namespace Go.AL
open Go.NumSpec

abbrev Tri := Int × Int × Int
abbrev resL (r : Tri) : List AV := [.int .i64 r.1, .int .i64 r.2.1, .int .i64 r.2.2]
abbrev resAV (r : Tri) : AV := .agg (resL r)
def fits3 (r : Tri) : Prop := fits r.1 ∧ fits r.2.1 ∧ fits r.2.2
instance (r : Tri) : Decidable (fits3 r) := by unfold fits3; infer_instance
abbrev okR (p : Tri × Bool) : AV := .tup [resAV p.1, .bool p.2]

def at3 (r : Tri) (k : Nat) : Int := if k = 0 then r.1 else if k = 1 then r.2.1 else r.2.2
def set3 (r : Tri) (k : Nat) (v : Int) : Tri := if k = 0 then (v, r.2) else if k = 1 then (r.1, v, r.2.2) else (r.1, r.2.1, v)
theorem res_at {r : Tri} {k : Nat} (h : k < 3) : (resL r)[0 + (k : Int).toNat * 1]? = some (.int .i64 (at3 r k)) := by
  rcases (by omega : k = 0 ∨ k = 1 ∨ k = 2) with rfl | rfl | rfl <;> rfl
theorem res_set {r : Tri} {k : Nat} {v : Int} (h : k < 3) : (resL r).set (0 + (k : Int).toNat * 1) (.int .i64 v) = resL (set3 r k v) := by
  rcases (by omega : k = 0 ∨ k = 1 ∨ k = 2) with rfl | rfl | rfl <;> rfl
theorem at3_fits {r : Tri} (h : fits3 r) (k : Nat) : fits (at3 r k) := by
  unfold at3; split
  · exact h.1
  · split
    · exact h.2.1
    · exact h.2.2

/-- The first k numbers are done. -/
def mixK (f : Int → Int → Int) (a b : Tri) (k : Nat) : Tri := (if 0 < k then f a.1 b.1 else a.1, if 1 < k then f a.2.1 b.2.1 else a.2.1, if 2 < k then f a.2.2 b.2.2 else a.2.2)
theorem mix_zero (f : Int → Int → Int) (a b : Tri) : mixK f a b 0 = a := rfl
theorem mix_at {f : Int → Int → Int} {a b : Tri} {k : Nat} (h : k < 3) : at3 (mixK f a b k) k = at3 a k := by
  rcases (by omega : k = 0 ∨ k = 1 ∨ k = 2) with rfl | rfl | rfl <;> rfl
theorem mix_set {f : Int → Int → Int} {a b : Tri} {k : Nat} {v : Int} (h : k < 3) (hv : v = f (at3 a k) (at3 b k)) : set3 (mixK f a b k) k v = mixK f a b (k + 1) := by
  subst hv
  rcases (by omega : k = 0 ∨ k = 1 ∨ k = 2) with rfl | rfl | rfl <;> rfl
theorem mix_end {f : Int → Int → Int} {a b : Tri} {k : Nat} (h : ¬ k < 3) (h3 : k ≤ 3) : mixK f a b k = (f a.1 b.1, f a.2.1 b.2.1, f a.2.2 b.2.2) := by
  have : k = 3 := by omega
  subst this; rfl
theorem mix_fits {f : Int → Int → Int} {a b : Tri} (ha : fits3 a) (hb : fits3 b) {k : Nat} (h : ∀ j, j < k → fits (f (at3 a j) (at3 b j))) : fits3 (mixK f a b k) := by
  unfold mixK
  refine ⟨?_, ?_, ?_⟩
  · dsimp only; split
    · rename_i h0; exact h 0 h0
    · exact ha.1
  · dsimp only; split
    · rename_i h0; exact h 1 h0
    · exact ha.2.1
  · dsimp only; split
    · rename_i h0; exact h 2 h0
    · exact ha.2.2
theorem all3 {p : Int → Int → Prop} {a b : Tri} {k : Nat} (hk : ¬ k < 3) (h : ∀ j, j < k → p (at3 a j) (at3 b j)) : p a.1 b.1 ∧ p a.2.1 b.2.1 ∧ p a.2.2 b.2.2 :=
  ⟨h 0 (by omega), h 1 (by omega), h 2 (by omega)⟩
theorem not3 {p : Int → Int → Prop} {a b : Tri} {k : Nat} (hk : k < 3) (h : ¬ p (at3 a k) (at3 b k)) : ¬ (p a.1 b.1 ∧ p a.2.1 b.2.1 ∧ p a.2.2 b.2.2) := fun ⟨h1, h2, h3⟩ => h (by
  rcases (by omega : k = 0 ∨ k = 1 ∨ k = 2) with rfl | rfl | rfl
  · exact h1
  · exact h2
  · exact h3)

def addR (a b : Tri) : Tri × Bool := if fits (a.1 + b.1) ∧ fits (a.2.1 + b.2.1) ∧ fits (a.2.2 + b.2.2) then ((a.1 + b.1, a.2.1 + b.2.1, a.2.2 + b.2.2), true) else ((0, 0, 0), false)
theorem addR_yes {a b : Tri} (h : fits (a.1 + b.1) ∧ fits (a.2.1 + b.2.1) ∧ fits (a.2.2 + b.2.2)) {x : Tri} (hx : x = (a.1 + b.1, a.2.1 + b.2.1, a.2.2 + b.2.2)) : AV.tup [resAV x, .bool true] = okR (addR a b) := by
  rw [addR, if_pos h, hx]
theorem addR_no {a b : Tri} (h : ¬ (fits (a.1 + b.1) ∧ fits (a.2.1 + b.2.1) ∧ fits (a.2.2 + b.2.2))) : AV.tup [resAV (0, 0, 0), .bool false] = okR (addR a b) := by
  rw [addR, if_neg h]
theorem addR_fits (a b : Tri) : fits3 (addR a b).1 := by
  unfold addR; split
  · rename_i h; exact h
  · decide

/-- What is left. -/
def subV (a b : Int) : Int × Bool := if b ≤ a ∧ fits (a - b) then (a - b, true) else (0, false)
theorem sub_no {a b : Int} (h : ¬ (b ≤ a ∧ fits (a - b))) : AV.tup [.int .i64 0, .bool false] = okAV (subV a b) := by rw [subV, if_neg h]
theorem sub_yes {a b x : Int} (h : b ≤ a ∧ fits (a - b)) (hx : x = a - b) : AV.tup [.int .i64 x, .bool true] = okAV (subV a b) := by rw [subV, if_pos h, hx]
theorem subV_fits (a b : Int) : fits (subV a b).1 := by
  unfold subV; split
  · rename_i h; exact h.2
  · decide
theorem subV_ok {a b : Int} (h : (subV a b).2 = true) : subV a b = (a - b, true) ∧ b ≤ a ∧ fits (a - b) := by
  unfold subV at *; split at h
  · rename_i hc; rw [if_pos hc]; exact ⟨rfl, hc⟩
  · cases h
theorem subV_bad {a b : Int} (h : (subV a b).2 = false) : subV a b = (0, false) ∧ ¬ (b ≤ a ∧ fits (a - b)) := by
  unfold subV at *; split at h
  · cases h
  · rename_i hc; rw [if_neg hc]; exact ⟨rfl, hc⟩
def subR (a b : Tri) : Tri × Bool := if (b.1 ≤ a.1 ∧ fits (a.1 - b.1)) ∧ (b.2.1 ≤ a.2.1 ∧ fits (a.2.1 - b.2.1)) ∧ (b.2.2 ≤ a.2.2 ∧ fits (a.2.2 - b.2.2)) then ((a.1 - b.1, a.2.1 - b.2.1, a.2.2 - b.2.2), true) else ((0, 0, 0), false)
theorem subR_yes {a b : Tri} (h : (b.1 ≤ a.1 ∧ fits (a.1 - b.1)) ∧ (b.2.1 ≤ a.2.1 ∧ fits (a.2.1 - b.2.1)) ∧ (b.2.2 ≤ a.2.2 ∧ fits (a.2.2 - b.2.2))) {x : Tri} (hx : x = (a.1 - b.1, a.2.1 - b.2.1, a.2.2 - b.2.2)) : AV.tup [resAV x, .bool true] = okR (subR a b) := by
  rw [subR, if_pos h, hx]
theorem subR_no {a b : Tri} (h : ¬ ((b.1 ≤ a.1 ∧ fits (a.1 - b.1)) ∧ (b.2.1 ≤ a.2.1 ∧ fits (a.2.1 - b.2.1)) ∧ (b.2.2 ≤ a.2.2 ∧ fits (a.2.2 - b.2.2)))) : AV.tup [resAV (0, 0, 0), .bool false] = okR (subR a b) := by
  rw [subR, if_neg h]
theorem subR_fits (a b : Tri) : fits3 (subR a b).1 := by
  unfold subR; split
  · rename_i h; exact ⟨h.1.2, h.2.1.2, h.2.2.2⟩
  · decide
/-- By how much one is above. -/
def overV (a b : Int) : Int := if (subV a b).2 = false ∧ b < a then 9223372036854775807 else (subV a b).1
theorem overV_fits (a b : Int) : fits (overV a b) := by
  unfold overV; split
  · decide
  · exact subV_fits a b
def overR (a b : Tri) : Tri := (overV a.1 b.1, overV a.2.1 b.2.1, overV a.2.2 b.2.2)
def maxR (a b : Tri) : Tri := (max a.1 b.1, max a.2.1 b.2.1, max a.2.2 b.2.2)
theorem max_fits {a b : Int} (ha : fits a) (hb : fits b) : fits (max a b) := by unfold fits at *; omega
theorem maxR_fits {a b : Tri} (ha : fits3 a) (hb : fits3 b) : fits3 (maxR a b) := ⟨max_fits ha.1 hb.1, max_fits ha.2.1 hb.2.1, max_fits ha.2.2 hb.2.2⟩
def fitsR (a b : Tri) : Bool := decide (a.1 ≤ b.1 ∧ a.2.1 ≤ b.2.1 ∧ a.2.2 ≤ b.2.2)
def textR (a : Tri) : List UInt8 := textL a.1 ++ [47] ++ textL a.2.1 ++ [47] ++ textL a.2.2
theorem and3 {p q r : Prop} [Decidable p] [Decidable q] [Decidable r] : (decide p && (decide q && (decide r && true))) = decide (p ∧ q ∧ r) := by simp
theorem and3' {p q r : Prop} [Decidable p] [Decidable q] [Decidable r] : (decide p && decide q && decide r) = decide (p ∧ q ∧ r) := by simp [Bool.and_assoc]
theorem max_le {a b : Int} : max a b = b ↔ a ≤ b := by omega
theorem eq3 {a b : Tri} : (a.1 = b.1 ∧ a.2.1 = b.2.1 ∧ a.2.2 = b.2.2) ↔ a = b := by
  obtain ⟨a1, a2, a3⟩ := a
  obtain ⟨b1, b2, b3⟩ := b
  simp

/-- A sum from a start on. -/
def sumR (s : Tri) : List Tri → Tri × Bool
  | [] => (s, true)
  | r :: l => if (addR s r).2 then sumR (addR s r).1 l else ((0, 0, 0), false)
def ress (l : List Tri) : List AV := l.map resAV
theorem ress_at {l : List Tri} {k : Nat} (h : k < l.length) : (ress l)[k]? = some (resAV l[k]) := by simp [ress, h]
theorem sum_step {s : Tri} {l : List Tri} {k : Nat} (h : k < l.length) (hk : (addR s l[k]).2 = true) : sumR s (l.drop k) = sumR (addR s l[k]).1 (l.drop (k + 1)) := by
  rw [List.drop_eq_getElem_cons h, sumR, if_pos hk]
theorem sum_bad {s : Tri} {l : List Tri} {k : Nat} (h : k < l.length) (hk : (addR s l[k]).2 = false) : sumR s (l.drop k) = ((0, 0, 0), false) := by
  rw [List.drop_eq_getElem_cons h, sumR, if_neg (by simp [hk])]
theorem sum_end {s : Tri} {l : List Tri} {k : Nat} (h : ¬ k < l.length) : sumR s (l.drop k) = (s, true) := by
  rw [List.drop_eq_nil_of_le (by omega)]; rfl
theorem sumR_fits : ∀ (l : List Tri) (s : Tri), fits3 s → fits3 (sumR s l).1
  | [], s, h => h
  | r :: l, s, h => by
    rw [sumR]; split
    · exact sumR_fits l _ (addR_fits s r)
    · decide

/-- From 0 to 2^55. -/
def smallR (a : Tri) : Bool := decide (0 ≤ a.1) && decide (a.1 ≤ 36028797018963968) && decide (0 ≤ a.2.1) && decide (a.2.1 ≤ 36028797018963968) && decide (0 ≤ a.2.2) && decide (a.2.2 ≤ 36028797018963968)
def belowV (x n : Int) : Int := if x.tmod n < 0 then x.tmod n + n else x.tmod n
theorem tmod_lt {x n : Int} (hn : 0 < n) : -n < x.tmod n ∧ x.tmod n < n := by
  have h1 := Int.natAbs_tmod x n
  have h2 : x.natAbs % n.natAbs < n.natAbs := Nat.mod_lt _ (by omega)
  omega
theorem below_in {x n : Int} (hn : 0 < n) : 0 ≤ belowV x n ∧ belowV x n < n := by
  have := tmod_lt (x := x) hn
  unfold belowV; split <;> omega
theorem res_works : textR (addR (1, 2, 3) (4, 5, 6)).1 = [53, 47, 55, 47, 57] := by
  have e : (addR (1, 2, 3) (4, 5, 6)).1 = (5, 7, 9) := by decide
  rw [e]
  simp [textR, textL, digL]
theorem res_works2 : addR (1, 2, 3) (4, 5, 6) = ((5, 7, 9), true) := by decide
theorem res_works3 : subR (1, 0, 0) (2, 0, 0) = ((0, 0, 0), false) := by decide

/-! Sums in any order -/
def tot : List Tri → Tri
  | [] => (0, 0, 0)
  | r :: l => (r.1 + (tot l).1, r.2.1 + (tot l).2.1, r.2.2 + (tot l).2.2)
def inK (K : Int) (r : Tri) : Prop := (0 ≤ r.1 ∧ r.1 ≤ K) ∧ (0 ≤ r.2.1 ∧ r.2.1 ≤ K) ∧ (0 ≤ r.2.2 ∧ r.2.2 ≤ K)
theorem small_in {r : Tri} (h : smallR r = true) : inK 36028797018963968 r := by
  simp only [smallR, Bool.and_eq_true, decide_eq_true_eq] at h
  obtain ⟨⟨⟨⟨⟨h1, h2⟩, h3⟩, h4⟩, h5⟩, h6⟩ := h
  exact ⟨⟨h1, h2⟩, ⟨h3, h4⟩, ⟨h5, h6⟩⟩
theorem sum_tot : ∀ (l : List Tri) (s : Tri) (K : Int), inK K s → (∀ r ∈ l, inK 36028797018963968 r) → K + l.length * 36028797018963968 ≤ 9223372036854775807 → sumR s l = ((s.1 + (tot l).1, s.2.1 + (tot l).2.1, s.2.2 + (tot l).2.2), true)
  | [], s, K, hs, _, _ => by simp [sumR, tot]
  | r :: l, s, K, hs, hl, hK => by
    have hr := hl r List.mem_cons_self
    obtain ⟨⟨a1, a2⟩, ⟨a3, a4⟩, ⟨a5, a6⟩⟩ := hs
    obtain ⟨⟨b1, b2⟩, ⟨b3, b4⟩, ⟨b5, b6⟩⟩ := hr
    simp only [List.length_cons] at hK
    have e : addR s r = ((s.1 + r.1, s.2.1 + r.2.1, s.2.2 + r.2.2), true) := by
      rw [addR, if_pos]
      unfold fits
      refine ⟨⟨?_, ?_⟩, ⟨?_, ?_⟩, ⟨?_, ?_⟩⟩ <;> omega
    rw [sumR, e]
    simp only [if_true]
    rw [sum_tot l _ (K + 36028797018963968) ⟨⟨by dsimp only; omega, by dsimp only; omega⟩, ⟨by dsimp only; omega, by dsimp only; omega⟩, ⟨by dsimp only; omega, by dsimp only; omega⟩⟩ (fun x hx => hl x (List.mem_cons_of_mem _ hx)) (by omega)]
    simp only [tot, Int.add_assoc]
theorem sum_small {l : List Tri} (h : ∀ r ∈ l, smallR r = true) (hl : l.length ≤ 100) : sumR (0, 0, 0) l = (tot l, true) := by
  have := sum_tot l (0, 0, 0) 0 ⟨⟨by decide, by decide⟩, ⟨by decide, by decide⟩, ⟨by decide, by decide⟩⟩ (fun r hr => small_in (h r hr)) (by omega)
  rw [this]
  simp
theorem tot_append (a b : List Tri) : tot (a ++ b) = ((tot a).1 + (tot b).1, (tot a).2.1 + (tot b).2.1, (tot a).2.2 + (tot b).2.2) := by
  induction a with
  | nil => simp [tot]
  | cons r a ih => simp only [List.cons_append, tot, ih, Int.add_assoc]
theorem tot_reverse (l : List Tri) : tot l.reverse = tot l := by
  induction l with
  | nil => rfl
  | cons r l ih =>
    rw [List.reverse_cons, tot_append, ih]
    simp only [tot]
    simp [Int.add_comm]
theorem tot_in {l : List Tri} (h : ∀ r ∈ l, smallR r = true) : (0 ≤ (tot l).1 ∧ (tot l).1 ≤ l.length * 36028797018963968) ∧ (0 ≤ (tot l).2.1 ∧ (tot l).2.1 ≤ l.length * 36028797018963968) ∧ (0 ≤ (tot l).2.2 ∧ (tot l).2.2 ≤ l.length * 36028797018963968) := by
  induction l with
  | nil => simp [tot]
  | cons r l ih =>
    obtain ⟨⟨a1, a2⟩, ⟨a3, a4⟩, ⟨a5, a6⟩⟩ := ih fun x hx => h x (List.mem_cons_of_mem _ hx)
    obtain ⟨⟨b1, b2⟩, ⟨b3, b4⟩, ⟨b5, b6⟩⟩ := small_in (h r List.mem_cons_self)
    simp only [tot, List.length_cons]
    refine ⟨⟨?_, ?_⟩, ⟨?_, ?_⟩, ⟨?_, ?_⟩⟩ <;> omega
theorem ress_len {l : List Tri} : ∀ x, x ∈ ress l → x.cells.length = 3 := fun x hx => by
  obtain ⟨r, _, rfl⟩ := List.mem_map.1 hx
  rfl
theorem ress_turn {l : List Tri} {i : Nat} (hi : i < l.length) : ress (l.drop i).reverse = ress (l.drop (i + 1)).reverse ++ [resAV l[i]] := by
  rw [List.drop_eq_getElem_cons hi, List.reverse_cons]
  simp [ress]
theorem ress_count {l : List Tri} : (ress l).length = l.length := by simp [ress]
theorem turns_all {l : List Tri} {k : Nat} (h : ∀ r ∈ l, smallR r = true) (hl : l.length ≤ 100) (hk : k < l.length) {a b x y : Tri × Bool} (ha : a = sumR (0, 0, 0) l) (hb : b = sumR (0, 0, 0) l.reverse) (hx : x = sumR (0, 0, 0) (l.take k)) (hy : y = sumR (0, 0, 0) (l.drop k)) :
    a = (tot l, true) ∧ b = (tot l, true) ∧ x = (tot (l.take k), true) ∧ y = (tot (l.drop k), true) ∧ addR (tot (l.take k)) (tot (l.drop k)) = (tot l, true) ∧ subR (tot l) (tot (l.drop k)) = (tot (l.take k), true) ∧ fitsR (tot (l.take k)) (tot l) = true := by
  have h1 : ∀ r ∈ l.take k, smallR r = true := fun r hr => h r (List.mem_of_mem_take hr)
  have h2 : ∀ r ∈ l.drop k, smallR r = true := fun r hr => h r (List.mem_of_mem_drop hr)
  have l1 : (l.take k).length ≤ 100 := by simp; omega
  have l2 : (l.drop k).length ≤ 100 := by simp; omega
  have e := tot_append (l.take k) (l.drop k)
  rw [List.take_append_drop] at e
  obtain ⟨⟨a1, a2⟩, ⟨a3, a4⟩, ⟨a5, a6⟩⟩ := tot_in h1
  obtain ⟨⟨b1, b2⟩, ⟨b3, b4⟩, ⟨b5, b6⟩⟩ := tot_in h2
  refine ⟨by rw [ha, sum_small h hl], by rw [hb, sum_small (fun r hr => h r (List.mem_reverse.1 hr)) (by simpa using hl), tot_reverse], by rw [hx, sum_small h1 l1], by rw [hy, sum_small h2 l2], ?_, ?_, ?_⟩
  · rw [addR, if_pos, e]
    unfold fits
    refine ⟨⟨?_, ?_⟩, ⟨?_, ?_⟩, ⟨?_, ?_⟩⟩ <;> omega
  · rw [e, subR, if_pos]
    · simp only [Int.add_sub_cancel]
    · unfold fits
      dsimp only
      refine ⟨⟨?_, ?_, ?_⟩, ⟨?_, ?_, ?_⟩, ⟨?_, ?_, ?_⟩⟩ <;> omega
  · rw [e, fitsR, decide_eq_true_eq]
    dsimp only
    omega

end Go.AL

/-
What a spec's error is: the plain law of chapter 06's checks.
Conditions: none; no program is in sight.
-/
set_option linter.unusedVariables false
set_option linter.unusedSimpArgs false
namespace Go.AL
open Go.RowKit Go.NumSpec
def withinE (name : List UInt8) (n lo hi : Int) : Er := if n < lo ∨ hi < n then some (1, [name]) else none
def atMostE (name : List UInt8) (n lo hi : Int) : Er := if n < lo ∨ hi < n then some (2, [name]) else none
def mostE (name : List UInt8) (n lo : Int) : Er := if n = 0 then none else withinE name n lo 1099511627776
def reqE (r : Int × Int × Int) : Er := erIn (firstE [withinE [99, 112, 117] r.1 0 1099511627776, withinE [109, 101, 109] r.2.1 0 1099511627776, withinE [112, 105, 100, 115] r.2.2 0 1099511627776]) [114, 101, 113]
def limE (l r : Int × Int × Int) : Er := erIn (firstE [mostE [99, 112, 117] l.1 r.1, mostE [109, 101, 109] l.2.1 r.2.1, mostE [112, 105, 100, 115] l.2.2 r.2.2]) [108, 105, 109]
def probeE (p : Int × Int) (every : Int) : Er := erIn (firstE [withinE [101, 118, 101, 114, 121] p.1 0 every, withinE [102, 97, 105, 108, 115] p.2 (if p.1 = 0 then 0 else 1) (if p.1 = 0 then 0 else 10)]) [112, 114, 111, 98, 101]
def atT (name : List UInt8) (i : Int) : List UInt8 := ((name ++ [91]) ++ textL i) ++ [93]
def probeAV (p : Int × Int) : AV := .agg [.int .i64 p.1, .int .i64 p.2]
abbrev Lab := List UInt8 × List UInt8
def labAV (p : Lab) : AV := .agg [.S p.1, .S p.2]
def labsV (l : List Lab) : List AV := l.map labAV
def keyE (l : List Lab) (i : Nat) : Er := if (erNew (saysV (namesR 2 (l.getD i ([], [])).1) 31) [[107, 101, 121]]).isNone = true ∧ 0 < i ∧ (Op.bytesLess (l.getD i ([], [])).1 (l.getD (i - 1) ([], [])).1 || decide ((l.getD i ([], [])).1 = (l.getD (i - 1) ([], [])).1)) = true then some (4, [[107, 101, 121]]) else erNew (saysV (namesR 2 (l.getD i ([], [])).1) 31) [[107, 101, 121]]
def labelE (name : List UInt8) (l : List Lab) (i : Nat) : Er := erIn (firstE [keyE l i, erNew (saysV (valV (l.getD i ([], [])).2) 32) [[118, 97, 108]]]) (atT name (i : Int))
/-- Where a value stands in a list. -/
def idxG {α : Type} [DecidableEq α] : List α → α → Int
  | [], _ => -1
  | x :: l, s => if x = s then 0 else if idxG l s < 0 then -1 else idxG l s + 1
theorem idxG_hit {α : Type} [DecidableEq α] {s : α} : ∀ {l : List α} {i : Nat} (h : i < l.length), l[i] = s → (∀ j (hj : j < i), l[j]'(by omega) ≠ s) → idxG l s = (i : Int)
  | x :: l, 0, h, e, _ => by simp only [List.getElem_cons_zero] at e; rw [idxG, if_pos e]; rfl
  | x :: l, i + 1, h, e, hn => by
    have h0 := hn 0 (by omega)
    simp only [List.getElem_cons_zero] at h0
    have ih := idxG_hit (l := l) (i := i) (by simpa using h) (by simpa using e) fun j hj => by simpa using hn (j + 1) (by omega)
    rw [idxG, if_neg h0, ih, if_neg (by omega)]
    omega
theorem idxG_none {α : Type} [DecidableEq α] {s : α} : ∀ {l : List α}, (∀ j (hj : j < l.length), l[j] ≠ s) → idxG l s = -1
  | [], _ => rfl
  | x :: l, hn => by
    have h0 := hn 0 (by simp)
    simp only [List.getElem_cons_zero] at h0
    have ih := idxG_none (l := l) fun j hj => by have := hn (j + 1) (by simpa using hj); rw [List.getElem_cons_succ] at this; exact this
    rw [idxG, if_neg h0, ih, if_pos (by omega)]
theorem idxG_mem {α : Type} [DecidableEq α] (s : α) : ∀ (l : List α), (0 ≤ idxG l s) ↔ s ∈ l
  | [] => by simp [idxG]
  | x :: l => by
    have ih := idxG_mem s l
    rw [idxG]
    by_cases h : x = s
    · simp [h]
    · rw [if_neg h]
      have h' : ¬ s = x := fun e => h e.symm
      by_cases hl : idxG l s < 0
      · rw [if_pos hl]
        have : ¬ s ∈ l := fun hm => by have := ih.2 hm; omega
        simp [h', this]
      · rw [if_neg hl]
        have : s ∈ l := ih.1 (by omega)
        simp [this]
        omega
end Go.AL

/-
What a spec's error is, list by list.
Conditions: none; no program is in sight.
-/
set_option linter.unusedVariables false
set_option linter.unusedSimpArgs false
namespace Go.AL
open Go.RowKit Go.NumSpec
theorem firstE_at : ∀ {es : List Er} {i : Nat} (h : i < es.length) {x : Int × List (List UInt8)}, es[i] = some x → (∀ j (hj : j < i), es[j]'(by omega) = none) → firstE es = some x
  | e :: es, 0, h, x, hx, _ => by simp only [List.getElem_cons_zero] at hx; rw [hx]; rfl
  | e :: es, i + 1, h, x, hx, hn => by
    have h0 := hn 0 (by omega)
    simp only [List.getElem_cons_zero] at h0
    subst h0
    exact firstE_at (es := es) (i := i) (by simpa using h) (by simpa using hx) fun j hj => by have := hn (j + 1) (by omega); rw [List.getElem_cons_succ] at this; exact this
theorem firstE_all : ∀ {es : List Er}, (∀ j (hj : j < es.length), es[j] = none) → firstE es = none
  | [], _ => rfl
  | e :: es, hn => by
    have h0 := hn 0 (by simp)
    simp only [List.getElem_cons_zero] at h0
    subst h0
    exact firstE_all (es := es) fun j hj => by have := hn (j + 1) (by simpa using hj); rw [List.getElem_cons_succ] at this; exact this
def eachE (n : Nat) (f : Nat → Er) : Er := firstE ((List.range n).map f)
theorem eachE_at {n i : Nat} {f : Nat → Er} {x : Int × List (List UInt8)} (h : i < n) (hx : f i = some x) (hn : ∀ j, j < i → f j = none) : eachE n f = some x :=
  firstE_at (i := i) (by simpa using h) (by simpa using hx) fun j hj => by simpa using hn j hj
theorem eachE_all {n : Nat} {f : Nat → Er} (hn : ∀ j, j < n → f j = none) : eachE n f = none := firstE_all fun j hj => by simpa using hn j (by simpa using hj)
theorem eachE_none {n : Nat} {f : Nat → Er} (h : eachE n f = none) : ∀ j, j < n → f j = none := by
  intro j
  induction j using Nat.strongRecOn with
  | ind j ih =>
    intro hj
    cases hf : f j with
    | none => rfl
    | some x => rw [eachE_at hj hf fun k hk => ih k hk (by omega)] at h; cases h
def labelsE (name : List UInt8) (l : List Lab) : Er := match atMostE name (l.length : Int) 0 4 with | some x => some x | none => eachE l.length (labelE name l)
theorem labelsE_bad {name : List UInt8} {l : List Lab} (h : atMostE name (l.length : Int) 0 4 ≠ none) : labelsE name l = atMostE name (l.length : Int) 0 4 := by
  unfold labelsE
  cases hh : atMostE name (l.length : Int) 0 4 with
  | none => exact absurd hh h
  | some x => rfl
theorem labelsE_good {name : List UInt8} {l : List Lab} (h : atMostE name (l.length : Int) 0 4 = none) : labelsE name l = eachE l.length (labelE name l) := by
  unfold labelsE
  rw [h]
end Go.AL
namespace Go.AL
open Go.RowKit Go.NumSpec
structure Ctr where
  name : List UInt8
  image : List UInt8
  req : Int × Int × Int
  lim : Int × Int × Int
  ports : List Int
  probe : Int × Int
def ctrL (c : Ctr) : List AV := [.S c.name, .S c.image, .int .i64 c.req.1, .int .i64 c.req.2.1, .int .i64 c.req.2.2, .int .i64 c.lim.1, .int .i64 c.lim.2.1, .int .i64 c.lim.2.2, .sl (intsV c.ports), .int .i64 c.probe.1, .int .i64 c.probe.2]
def ctrAV (c : Ctr) : AV := .agg (ctrL c)
def nameE (ns : List (List UInt8)) (s : List UInt8) : Er := if (erNew (saysV (nameV s) 30) [[110, 97, 109, 101]]).isNone = true ∧ s ∈ ns then some (7, [[110, 97, 109, 101]]) else erNew (saysV (nameV s) 30) [[110, 97, 109, 101]]
end Go.AL
namespace Go.AL
open Go.RowKit Go.NumSpec
abbrev portsN : List UInt8 := [112, 111, 114, 116, 115]
def portAt (ps l : List Int) (i : Nat) : Er := if (withinE (atT portsN (i : Int)) (l.getD i 0) 1 65535).isNone = true ∧ l.getD i 0 ∈ ps ++ l.take i then some (150, [atT portsN (i : Int)]) else withinE (atT portsN (i : Int)) (l.getD i 0) 1 65535
def portE (ps l : List Int) (n : Int) : Er := match atMostE portsN (l.length : Int) 0 n with | some x => some x | none => eachE l.length (portAt ps l)
theorem portE_bad {ps l : List Int} {n : Int} (h : atMostE portsN (l.length : Int) 0 n ≠ none) : portE ps l n = atMostE portsN (l.length : Int) 0 n := by
  unfold portE
  cases hh : atMostE portsN (l.length : Int) 0 n with
  | none => exact absurd hh h
  | some x => rfl
theorem portE_good {ps l : List Int} {n : Int} (h : atMostE portsN (l.length : Int) 0 n = none) : portE ps l n = eachE l.length (portAt ps l) := by
  unfold portE
  rw [h]
end Go.AL
namespace Go.AL
section
variable {P : Program}
/-- A contract over the front of a state, with a premise on what is behind, serves behind memory of the caller's own. -/
theorem ACalls.preP {G : St → Prop} (hG : ∀ pre F, G F → G (pre ++ F)) {f : FuncId} {args : List AV} {foot : St} {K : AV → St → Prop} (h : ∀ F, G F → ACalls P f args (foot ++ F) fun x st' => ∃ foot', K x foot' ∧ st' = foot' ++ F) (pre F : St) (hF : G F) : ACalls P f args (pre ++ (foot ++ F)) fun x st' => ∃ foot', K x foot' ∧ st' = pre ++ (foot' ++ F) := by
  have perm : ∀ (a : St), (pre ++ (a ++ F)).Perm (a ++ (pre ++ F)) := fun a => by
    rw [← List.append_assoc, ← List.append_assoc]
    exact List.Perm.append_right F List.perm_append_comm
  have hc := h (pre ++ F) (hG pre F hF)
  refine ⟨hc.enters, fun w vs hrel hs hr => ?_⟩
  have hx : Ext (pre ++ (foot ++ F)) w (foot ++ (pre ++ F)) w := Ext.sub fun p hp => (perm foot).mem_iff.2 hp
  have hrel2 : Rel (foot ++ (pre ++ F)) w := hrel.sub (fun p hp => (perm foot).mem_iff.2 hp) (((perm foot).map (·.1)).nodup_iff.1 hrel.nodup)
  refine (hc.calls w vs hrel2 hs fun i x v h1 h2 => (hr i x v h1 h2).mono hx hrel.nodup).mono ?_
  rintro e w' ⟨r, x, st', he, ⟨foot', hk, rfl⟩, hr', hrel', hext⟩
  have hy : Ext (foot' ++ (pre ++ F)) w' (pre ++ (foot' ++ F)) w' := Ext.sub fun p hp => (perm foot').mem_iff.1 hp
  exact ⟨r, x, _, he, ⟨foot', hk, rfl⟩, hr'.mono hy hrel'.nodup, hrel'.sub (fun p hp => (perm foot').mem_iff.1 hp) (((perm foot').map (·.1)).nodup_iff.2 hrel'.nodup), (hx.trans hext hrel.nodup).trans hy hrel.nodup⟩
end
end Go.AL

/-
The logic AL: loops and meetings where most of what was known stays known; slices read as lists of one's own values.
Conditions: none; no program is in sight.
-/
set_option linter.unusedVariables false
set_option linter.unusedSimpArgs false
namespace Go.AL
open Go.RowKit
section
variable {P : Program} {N : Nat} {Q : Post} {env : Env} {st : St}
theorem EnvLe.app {e a b : Env} (h : EnvLe e a) (k : EnvLe e b) : EnvLe e (a ++ b) := by
  induction h with
  | nil => exact k
  | cons h1 h2 _ ih => exact .cons h1 h2 ih

theorem AC_loopK {G : Type} {c : Code} (K : Env) (I : G → Prop) (vars : G → Env) (stI : G → St) (m : G → Nat) (g0 : G) (hI : I g0) (hst : Sub (stI g0) st) (hK : EnvLe env K) (henv : EnvLe env (vars g0))
    (round : ∀ g, I g → AC P N c (thenP (fun env' st' => ∃ g', I g' ∧ m g' < m g ∧ Sub (stI g') st' ∧ EnvLe env' (vars g') ∧ EnvLe env' K) Q) (vars g ++ K) (stI g)) : AC P N (.loop c) Q env st :=
  AC_loopS I (fun g => vars g ++ K) stI m g0 hI hst (henv.app hK) fun g hg => (round g hg).mono fun e env' st' hq => by
    cases e with
    | normal => obtain ⟨g', h1, h2, h3, h4, h5⟩ := hq; exact ⟨g', h1, h2, h3, h4.app h5⟩
    | _ => exact hq

theorem AC_joinK {G : Type} {x y : Code} (K : Env) (I : G → Prop) (vars : G → Env) (stI : G → St) (hK : EnvLe env K) (h : AC P N x (thenP (fun env' st' => ∃ g, I g ∧ Sub (stI g) st' ∧ EnvLe env' (vars g) ∧ EnvLe env' K) Q) env st)
    (hy : ∀ g, I g → AC P N y Q (vars g ++ K) (stI g)) : AC P N (.seq x y) Q env st :=
  AC_joinS I (fun g => vars g ++ K) stI (h.mono fun e env' st' hq => by
    cases e with
    | normal => obtain ⟨g', h1, h3, h4, h5⟩ := hq; exact ⟨g', h1, h3, h4.app h5⟩
    | _ => exact hq) hy
end

section
variable {P : Program} {N : Nat} {env : Env} {st : St} {o : Oper}
theorem map_at {α : Type} {f : α → AV} {l : List α} {i : Nat} (h : i < l.length) : (l.map f)[i]? = some (f (l[i]'h)) := by simp [h]

theorem S_elemN {α : Type} {f : α → AV} {l : List α} {t e : TypeId} {x y : Operand} {k : IntKind} {i : Nat} (m : Nat) (ho : o.op = .indexAddr t x y) (hx : AEv env x (.sl (l.map f))) (hy : AEv env y (.int k ((i : Nat) : Int)))
    (hu : P.underlying t = some (.slice e)) (hm : (P.info? e).map (·.size) = some m) (h : i < l.length) (hcm : ∀ a, (f a).cells.length = m) : PStep P N o env st (.ip (f (l[i]'h)).cells) :=
  S_elem m ho hx hy hu hm (by omega) (by rw [Int.toNat_natCast]; exact map_at h) (hcm _)

theorem S_elemD {α : Type} {f : α → AV} {l : List α} (d : α) {t e : TypeId} {x y : Operand} {k : IntKind} {i : Nat} (m : Nat) (ho : o.op = .indexAddr t x y) (hx : AEv env x (.sl (l.map f))) (hy : AEv env y (.int k ((i : Nat) : Int)))
    (hu : P.underlying t = some (.slice e)) (hm : (P.info? e).map (·.size) = some m) (h : i < l.length) (hcm : ∀ a, (f a).cells.length = m) : PStep P N o env st (.ip (f (l.getD i d)).cells) :=
  S_elem m ho hx hy hu hm (by omega) (by rw [Int.toNat_natCast, map_at h, List.getD_eq_getElem?_getD, List.getElem?_eq_getElem h]; rfl) (hcm _)

theorem S_lenM {α : Type} {f : α → AV} {l : List α} {t e : TypeId} {x : Operand} (ho : o.op = .call { callee := .builtin .len, args := #[x], argTypes := #[t] }) (hx : AEv env x (.sl (l.map f))) (hu : P.underlying t = some (.slice e)) : PStep P N o env st (.int .i64 (l.length : Int)) := by
  have h := S_len (P := P) (N := N) (st := st) ho hx hu
  rwa [List.length_map] at h

theorem S_cutM {α : Type} {f : α → AV} {l : List α} {t e : TypeId} {x : Operand} {lo hi : Option Operand} {i j : Nat} (m : Nat) (ho : o.op = .slice t x lo hi none) (hx : AEv env x (.sl (l.map f)))
    (hl : match lo with | none => i = 0 | some l => ∃ k, AEv env l (.int k i)) (hh : match hi with | none => j = l.length | some l => ∃ k, AEv env l (.int k j))
    (hu : P.underlying t = some (.slice e)) (hm : (P.info? e).map (·.size) = some m) (hs : ∀ a, (f a).cells.length = m) (h1 : i ≤ j) (h2 : j ≤ l.length) : PStep P N o env st (.sl (((l.take j).drop i).map f)) := by
  have h := S_cut (P := P) (N := N) (st := st) (i := i) (j := j) m ho hx hl (by cases hi with | none => simpa using hh | some _ => exact hh) hu hm (fun x hx => by obtain ⟨a, _, rfl⟩ := List.mem_map.1 hx; exact hs a) h1 (by simpa using h2)
  rwa [← List.map_take, ← List.map_drop] at h

theorem S_cutLM {α : Type} {f : α → AV} {l : List α} {t e : TypeId} {x lo : Operand} {k : IntKind} {i : Nat} (m : Nat) (ho : o.op = .slice t x (some lo) none none) (hx : AEv env x (.sl (l.map f))) (hl : AEv env lo (.int k ((i : Nat) : Int)))
    (hu : P.underlying t = some (.slice e)) (hm : (P.info? e).map (·.size) = some m) (hs : ∀ a, (f a).cells.length = m) (h1 : i ≤ l.length) : PStep P N o env st (.sl ((l.drop i).map f)) := by
  have h := S_cutM (P := P) (N := N) (st := st) (i := i) (j := l.length) m ho hx ⟨k, hl⟩ rfl hu hm hs h1 (Nat.le_refl _)
  rwa [List.take_length] at h
theorem S_cutHM {α : Type} {f : α → AV} {l : List α} {t e : TypeId} {x hi : Operand} {k : IntKind} {j : Nat} (m : Nat) (ho : o.op = .slice t x none (some hi) none) (hx : AEv env x (.sl (l.map f))) (hh : AEv env hi (.int k ((j : Nat) : Int)))
    (hu : P.underlying t = some (.slice e)) (hm : (P.info? e).map (·.size) = some m) (hs : ∀ a, (f a).cells.length = m) (h1 : j ≤ l.length) : PStep P N o env st (.sl ((l.take j).map f)) :=
  S_cutM (P := P) (N := N) (st := st) (i := 0) (j := j) m ho hx rfl ⟨k, hh⟩ hu hm hs (Nat.zero_le _) h1
theorem S_cutLHM {α : Type} {f : α → AV} {l : List α} {t e : TypeId} {x lo hi : Operand} {k k' : IntKind} {i j : Nat} (m : Nat) (ho : o.op = .slice t x (some lo) (some hi) none) (hx : AEv env x (.sl (l.map f))) (hl : AEv env lo (.int k ((i : Nat) : Int))) (hh : AEv env hi (.int k' ((j : Nat) : Int)))
    (hu : P.underlying t = some (.slice e)) (hm : (P.info? e).map (·.size) = some m) (hs : ∀ a, (f a).cells.length = m) (h0 : i ≤ j) (h1 : j ≤ l.length) : PStep P N o env st (.sl (((l.take j).drop i).map f)) :=
  S_cutM (P := P) (N := N) (st := st) (i := i) (j := j) m ho hx ⟨k, hl⟩ ⟨k', hh⟩ hu hm hs h0 h1

/-- Any two errors' test against nil. -/
theorem own_nil_ok : Own.ok .nil [] := rfl

/-- One's own slice of values grows by some. -/
theorem S_appendM {α : Type} {f : α → AV} {l l2 : List α} {t e size bytes : Nat} {x y : Operand} {p : Own} (pre post : St) (ho : o.op = .call { callee := .builtin .append, args := #[x, y], argTypes := #[t, t] }) (hx : AEv env x (ownAV p size (l.map f))) (hy : AEv env y (.sl (l2.map f))) (hst : st = pre ++ (ownSt p e size (l.map f) ++ post)) (h : p.ok (l.map f)) (hT : appT P t e size bytes = true) (hne : l2 ≠ [])
    (hs : ∀ a, (f a).cells.length = size ∧ (f a).cells.all AV.one = true) (hb : (l.length + l2.length) * bytes ≤ 140737488355328) (h63 : l.length + l2.length ≤ 9223372036854775807) :
    Step P N o env st fun z st' => ∃ b k cap, Own.ok (.row b k cap) ((l ++ l2).map f) ∧ z = ownAV (.row b k cap) size ((l ++ l2).map f) ∧ st' = pre ++ (ownSt (.row b k cap) e size ((l ++ l2).map f) ++ post) := by
  have h := S_appendOwn (P := P) (N := N) (env := env) (xs := l.map f) (ys := l2.map f) pre post ho hx hy hst h hT (by simpa using hne) (fun x hx => by obtain ⟨a, _, rfl⟩ := List.mem_map.1 hx; exact (hs a).1) (fun x hx => by obtain ⟨a, _, rfl⟩ := List.mem_map.1 hx; exact hs a) (by simpa using hb) (by simpa using h63)
  intro a w hg next Q hn
  refine h a w hg next Q fun z st' v w' hk => ?_
  obtain ⟨b, k, cap, h1, h2, h3⟩ := hk
  refine hn z st' v w' ⟨b, k, cap, ?_, ?_, ?_⟩
  · rw [List.map_append]; exact h1
  · rw [List.map_append]; exact h2
  · rw [List.map_append]; exact h3
theorem S_storeW {t : TypeId} {x y : Operand} {b : Nat} {cs ds : List AV} (n : Nat) (ho : o.op = .store t x y) (hx : AEv env x (.ptr b 0)) (hy : AEv env y (.agg ds)) (hst : st[n]? = some (b, .cells cs)) (hl : ds.length = cs.length) (hone : ds.all AV.one = true)
    (hi : (P.info? t).map (·.size) = some ds.length) : Step P N o env st fun x st' => x = .any ∧ st' = st.set n (b, .cells ds) := by
  have h := S_storeN (P := P) (N := N) n ho hx hy hst (by omega) hone hi
  have e : putAt cs 0 ds = ds := by
    unfold putAt
    rw [List.take_zero, List.nil_append, Nat.zero_add, List.drop_of_length_le (by omega), List.append_nil]
  rwa [e] at h
theorem take_snoc {α : Type} {l : List α} {i : Nat} (h : i < l.length) : l.take i ++ [l[i]'h] = l.take (i + 1) := (List.take_succ_eq_append_getElem h).symm

/-- One's own slice takes the next of another list's values. -/
theorem S_appendT {α : Type} {f : α → AV} {l : List α} {i : Nat} {t e size bytes : Nat} {x y : Operand} {p : Own} (h1 : i < l.length) (pre post : St) (ho : o.op = .call { callee := .builtin .append, args := #[x, y], argTypes := #[t, t] }) (hx : AEv env x (ownAV p size ((l.take i).map f))) (hy : AEv env y (.sl [f (l[i]'h1)])) (hst : st = pre ++ (ownSt p e size ((l.take i).map f) ++ post)) (h : p.ok ((l.take i).map f)) (hT : appT P t e size bytes = true)
    (hs : ∀ a, (f a).cells.length = size ∧ (f a).cells.all AV.one = true) (hb : (i + 1) * bytes ≤ 140737488355328) (h63 : i + 1 ≤ 9223372036854775807) :
    Step P N o env st fun z st' => ∃ b k cap, Own.ok (.row b k cap) ((l.take (i + 1)).map f) ∧ z = ownAV (.row b k cap) size ((l.take (i + 1)).map f) ∧ st' = pre ++ (ownSt (.row b k cap) e size ((l.take (i + 1)).map f) ++ post) := by
  have hl : (l.take i).length = i := by rw [List.length_take]; omega
  have h := S_appendM (P := P) (N := N) (env := env) (l := l.take i) (l2 := [l[i]'h1]) pre post ho hx hy hst h hT (by simp) hs (by rw [hl]; exact hb) (by rw [hl]; exact h63)
  rwa [take_snoc h1] at h
theorem S_appendNN {t e : TypeId} {size : Nat} {x y : Operand} (ho : o.op = .call { callee := .builtin .append, args := #[x, y], argTypes := #[t, t] }) (hx : AEv env x .nils) (hy : AEv env y (.sl [])) (hu : P.underlying t = some (.slice e)) (hm : (P.info? e).map (·.size) = some size) :
    PStep P N o env st .nils :=
  .of_val fun a w hg => by
    have e1 := (hx _ _ _ _ hg).lit_inv
    obtain ⟨B, cap, e2, _⟩ := sl_inv (hy _ _ _ _ hg)
    cases hq : P.info? e with
    | none => simp [hq] at hm
    | some q =>
      have hqm : q.size = size := by simpa [hq] using hm
      refine ⟨.slice none 0 0, ?_, .lit _⟩
      simp only [execOp, ho, resolve, invoke, builtin, Sem.run_bind, Sem.run_pure, Result.andThen_ok, List.map_toArray, List.map_cons, List.map_nil, e1, e2]
      cases B <;> simp [Builtin.append_, run_underlying hu, sizeOf, typeInfo, hq, Builtin.lenOf, Builtin.firstCells, loadCells, loadCellsFrom, storeCells]

/-- One's own slice, nil or not, grows by any others, or none. -/
theorem S_appendAny {α : Type} {f : α → AV} {l l2 : List α} {t e size bytes : Nat} {x y : Operand} {p : Own} (pre post : St) (ho : o.op = .call { callee := .builtin .append, args := #[x, y], argTypes := #[t, t] }) (hx : AEv env x (ownAV p size (l.map f))) (hy : AEv env y (.sl (l2.map f))) (hst : st = pre ++ (ownSt p e size (l.map f) ++ post)) (h : p.ok (l.map f)) (hT : appT P t e size bytes = true)
    (hs : ∀ a, (f a).cells.length = size ∧ (f a).cells.all AV.one = true) (hb : (l.length + l2.length) * bytes ≤ 140737488355328) (h63 : l.length + l2.length ≤ 9223372036854775807) :
    Step P N o env st fun z st' => ∃ p' : Own, p'.ok ((l ++ l2).map f) ∧ z = ownAV p' size ((l ++ l2).map f) ∧ st' = pre ++ (ownSt p' e size ((l ++ l2).map f) ++ post) := by
  by_cases hn : l2 = []
  · subst hn
    have hA := appT_spec hT
    have hu : P.underlying t = some (.slice e) := hA.under
    have hm : (P.info? e).map (·.size) = some size := by obtain ⟨i, z, h1, h2, h3, h4, h5⟩ := hA.info; rw [h1]; simp [h3]
    rw [List.append_nil]
    have hk : PStep P N o env st (ownAV p size (l.map f)) := by
      cases p with
      | nil => exact S_appendNN ho hx hy hu hm
      | row b k cap => exact S_appendRowNil ho hx hy hu hm
      | emp A => exact S_append0 ho hx hy hu hm
    intro a w hg next Q hn
    exact hk a w hg next Q fun z st' v w' ⟨hz, hs'⟩ => hn z st' v w' ⟨p, h, hz, hs'.trans hst⟩
  · intro a w hg next Q hnx
    refine S_appendM pre post ho hx hy hst h hT hn hs hb h63 a w hg next Q fun z st' v w' hk => ?_
    obtain ⟨b, k, cap, h1, h2, h3⟩ := hk
    exact hnx z st' v w' ⟨.row b k cap, h1, h2, h3⟩
theorem gd_nf {b : Bool} (h : gd (!b) false = true) : b = true := by simpa [gd] using h
theorem gd_nt {b : Bool} (h : gd (!b) true = true) : b = false := by simpa [gd] using h
end
end Go.AL

/-
Specs as abstract values; which are light.
Conditions: none; no program is in sight.
-/
set_option linter.unusedVariables false
set_option linter.unusedSimpArgs false
namespace Go.AL
open Go.RowKit Go.NumSpec
def ctrsV (l : List Ctr) : List AV := l.map ctrAV
def lightC (c : Ctr) : Bool := decide (c.name.length ≤ 100 ∧ c.image.length ≤ 100 ∧ c.ports.length ≤ 10)
theorem intsV_len (l : List Int) : (intsV l).length = l.length := by simp [intsV]
structure Spc where
  name : List UInt8
  labels : List Lab
  init : List Ctr
  main : List Ctr
  restart : Int
  grace : Int
  prio : Int
def spcL (s : Spc) : List AV := [.S s.name, .sl (labsV s.labels), .sl (ctrsV s.init), .sl (ctrsV s.main), .int .i64 s.restart, .int .i64 s.grace, .int .i64 s.prio]
def spcAV (s : Spc) : AV := .agg (spcL s)
def lightL (p : Lab) : Bool := decide (p.1.length ≤ 100 ∧ p.2.length ≤ 100)
def lightS (s : Spc) : Bool := decide (s.name.length ≤ 100 ∧ s.labels.length ≤ 10 ∧ s.init.length ≤ 8 ∧ s.main.length ≤ 8) && s.labels.all lightL && (s.init.all lightC && s.main.all lightC)
end Go.AL
namespace Go.AL
open Go.RowKit Go.NumSpec
def seenSt (ST IT : Nat) (b : Nat) (p q : Own) (ns : List (List UInt8)) (ps : List Int) : St := (b, .cells [ownAV p 1 (strsV ns), ownAV q 1 (intsV ps)]) :: (ownSt p ST 1 (strsV ns) ++ ownSt q IT 1 (intsV ps))
def ctrE (ns : List (List UInt8)) (ps : List Int) (c : Ctr) (ports every : Int) : Er := firstE [nameE ns c.name, erNew (saysV (tparts c.image).2.2 33) [[105, 109, 97, 103, 101]], reqE c.req, limE c.lim c.req, portE ps c.ports ports, probeE c.probe every]
end Go.AL

/-
What the error of containers is.
Conditions: none; no program is in sight.
-/
set_option linter.unusedVariables false
set_option linter.unusedSimpArgs false
namespace Go.AL
open Go.RowKit Go.NumSpec
theorem firstE_none : ∀ {es : List Er}, firstE es = none → ∀ e ∈ es, e = none
  | [], _, e, he => by cases he
  | a :: es, h, e, he => by
    cases a with
    | some x => cases h
    | none =>
      rcases List.mem_cons.1 he with rfl | he
      · rfl
      · exact firstE_none (es := es) h e he
theorem ctrE_port {ns : List (List UInt8)} {ps : List Int} {c : Ctr} {ports every : Int} (h : ctrE ns ps c ports every = none) : portE ps c.ports ports = none := firstE_none h _ (by simp)
def namesTo (ns : List (List UInt8)) (l : List Ctr) (i : Nat) : List (List UInt8) := ns ++ (l.take i).map Ctr.name
def portsTo (ps : List Int) (l : List Ctr) (i : Nat) : List Int := ps ++ (l.take i).flatMap Ctr.ports
def ctrAt (ns : List (List UInt8)) (ps : List Int) (l : List Ctr) (ports every : Int) (i : Nat) : Er := match l[i]? with | some c => ctrE (namesTo ns l i) (portsTo ps l i) c ports every | none => none
def ctrsE (name : List UInt8) (ns : List (List UInt8)) (ps : List Int) (l : List Ctr) (ports every : Int) : Er := eachE l.length fun i => erIn (ctrAt ns ps l ports every i) (atT name (i : Int))
theorem ctrAt_at {ns : List (List UInt8)} {ps : List Int} {l : List Ctr} {ports every : Int} {i : Nat} (h : i < l.length) : ctrAt ns ps l ports every i = ctrE (namesTo ns l i) (portsTo ps l i) l[i] ports every := by
  unfold ctrAt; rw [List.getElem?_eq_getElem h]
theorem namesTo_next {ns : List (List UInt8)} {l : List Ctr} {i : Nat} (h : i < l.length) : namesTo ns l (i + 1) = namesTo ns l i ++ [l[i].name] := by
  unfold namesTo; rw [List.take_succ_eq_append_getElem h, List.map_append, ← List.append_assoc]; rfl
theorem portsTo_next {ps : List Int} {l : List Ctr} {i : Nat} (h : i < l.length) : portsTo ps l (i + 1) = portsTo ps l i ++ l[i].ports := by
  unfold portsTo; rw [List.take_succ_eq_append_getElem h, List.flatMap_append, ← List.append_assoc, List.flatMap_singleton]
theorem flat_le {l : List Ctr} (h : ∀ c ∈ l, c.ports.length ≤ 10) : (l.flatMap Ctr.ports).length ≤ 10 * l.length := by
  induction l with
  | nil => simp
  | cons c l ih =>
    have h1 := h c List.mem_cons_self
    have h2 := ih fun x hx => h x (List.mem_cons_of_mem _ hx)
    simp only [List.flatMap_cons, List.length_append, List.length_cons]
    omega
theorem portsTo_le {ps : List Int} {l : List Ctr} {i : Nat} (h : ∀ c ∈ l, c.ports.length ≤ 10) (hl : l.length ≤ 8) (hp : ps.length ≤ 100) : (portsTo ps l i).length ≤ 180 := by
  have h1 := flat_le (l := l.take i) fun c hc => h c (List.mem_of_mem_take hc)
  have h2 : (l.take i).length ≤ l.length := by rw [List.length_take]; omega
  unfold portsTo
  rw [List.length_append]
  omega
theorem namesTo_le {ns : List (List UInt8)} {l : List Ctr} {i : Nat} (hl : l.length ≤ 8) (hp : ns.length ≤ 100) : (namesTo ns l i).length ≤ 108 := by
  have h2 : (l.take i).length ≤ l.length := by rw [List.length_take]; omega
  unfold namesTo
  rw [List.length_append, List.length_map]
  omega
end Go.AL

/-
What a spec's error is; what a spec asks for.
Conditions: none; no program is in sight.
-/
set_option linter.unusedVariables false
set_option linter.unusedSimpArgs false
namespace Go.AL
open Go.RowKit Go.NumSpec
abbrev nameN : List UInt8 := [110, 97, 109, 101]
abbrev labelsN : List UInt8 := [108, 97, 98, 101, 108, 115]
abbrev initN : List UInt8 := [105, 110, 105, 116]
abbrev mainN : List UInt8 := [109, 97, 105, 110]
abbrev check1 (s : Spc) : List Er := [erNew (saysV (nameV s.name) 30) [nameN], labelsE labelsN s.labels, atMostE initN (s.init.length : Int) 0 3]
abbrev check2 (s : Spc) : List Er := [ctrsE initN [] [] s.init 0 0, atMostE mainN (s.main.length : Int) 1 4]
abbrev check3 (s : Spc) : List Er := [ctrsE mainN (namesTo [] s.init s.init.length) (portsTo [] s.init s.init.length) s.main 3 1000, withinE [114, 101, 115, 116, 97, 114, 116] s.restart 1 3, withinE [103, 114, 97, 99, 101] s.grace 0 1000, withinE [112, 114, 105, 111] s.prio 0 10]
def checkE (s : Spc) : Er := match firstE (check1 s) with | some x => some x | none => match firstE (check2 s) with | some x => some x | none => firstE (check3 s)
theorem check_bad1 {s : Spc} {x : Int × List (List UInt8)} (h : firstE (check1 s) = some x) : checkE s = some x := by unfold checkE; rw [h]
theorem check_bad2 {s : Spc} {x : Int × List (List UInt8)} (h : firstE (check1 s) = none) (h2 : firstE (check2 s) = some x) : checkE s = some x := by unfold checkE; rw [h, h2]
theorem check_good {s : Spc} (h : firstE (check1 s) = none) (h2 : firstE (check2 s) = none) : checkE s = firstE (check3 s) := by unfold checkE; rw [h, h2]
theorem check_all {s : Spc} (h : checkE s = none) : firstE (check1 s) = none ∧ firstE (check2 s) = none ∧ firstE (check3 s) = none := by
  unfold checkE at h
  cases h1 : firstE (check1 s) with
  | some x => rw [h1] at h; cases h
  | none =>
    rw [h1] at h
    cases h2 : firstE (check2 s) with
    | some x => rw [h2] at h; cases h
    | none => rw [h2] at h; exact ⟨rfl, rfl, h⟩
theorem lightS_out {s : Spc} (h : lightS s = true) : s.name.length ≤ 100 ∧ s.labels.length ≤ 10 ∧ s.init.length ≤ 8 ∧ s.main.length ≤ 8 ∧ (∀ x ∈ s.labels, x.1.length ≤ 1000000 ∧ x.2.length ≤ 1000000) ∧ (∀ c ∈ s.init, lightC c = true) ∧ ∀ c ∈ s.main, lightC c = true := by
  unfold lightS at h
  simp only [Bool.and_eq_true, decide_eq_true_eq, List.all_eq_true] at h
  obtain ⟨⟨⟨h1, h2, h3, h4⟩, h5⟩, h6, h7⟩ := h
  refine ⟨h1, h2, h3, h4, fun x hx => ?_, h6, h7⟩
  have := h5 x hx
  unfold lightL at this
  rw [decide_eq_true_eq] at this
  omega

theorem check_seen {s : Spc} (h : firstE (check1 s) = none) (hc : ∀ c ∈ s.init, lightC c = true) : (namesTo [] s.init s.init.length).length ≤ 100 ∧ (portsTo [] s.init s.init.length).length ≤ 100 := by
  have h3 := firstE_none h (atMostE initN (s.init.length : Int) 0 3) (List.mem_cons_of_mem _ (List.mem_cons_of_mem _ List.mem_cons_self))
  have h3 : s.init.length ≤ 3 := by
    unfold atMostE at h3
    split at h3
    · cases h3
    · omega
  have h1 := flat_le (l := s.init) fun c h => (of_decide_eq_true (hc c h)).2.2
  unfold namesTo portsTo
  rw [List.take_length, List.length_append, List.length_append, List.length_map]
  simp only [List.length_nil]
  omega

def reqs (l : List Ctr) : List Tri := l.map Ctr.req
theorem ress_reqs (l : List Ctr) : l.map (fun c => resAV c.req) = ress (reqs l) := by simp [ress, reqs]
def maxTo (t : Tri) (l : List Ctr) : Tri := l.foldl (fun t c => maxR t c.req) t
def ofR (s : Spc) : Tri × Bool := if (sumR (0, 0, 0) (reqs s.main)).2 = true then (maxTo (sumR (0, 0, 0) (reqs s.main)).1 s.init, true) else ((0, 0, 0), false)
theorem ofR_bad {s : Spc} (h : (sumR (0, 0, 0) (reqs s.main)).2 = false) : ofR s = ((0, 0, 0), false) := by unfold ofR; rw [if_neg (by rw [h]; simp)]
theorem ofR_ok {s : Spc} (h : (sumR (0, 0, 0) (reqs s.main)).2 = true) : ofR s = (maxTo (sumR (0, 0, 0) (reqs s.main)).1 s.init, true) := by unfold ofR; rw [if_pos h]
theorem maxTo_next {t : Tri} {l : List Ctr} {i : Nat} (h : i < l.length) : maxTo t (l.take (i + 1)) = maxR (maxTo t (l.take i)) l[i].req := by
  unfold maxTo; rw [List.take_succ_eq_append_getElem h, List.foldl_append]; rfl
theorem maxTo_fits {l : List Ctr} : ∀ {t : Tri}, fits3 t → (∀ c ∈ l, fits3 c.req) → fits3 (maxTo t l) := by
  induction l with
  | nil => intro t h _; exact h
  | cons c l ih => intro t h hl; exact ih (maxR_fits h (hl c List.mem_cons_self)) fun x hx => hl x (List.mem_cons_of_mem _ hx)

/-! ### What a pod asks for covers all -/
def leR (a b : Tri) : Prop := a.1 ≤ b.1 ∧ a.2.1 ≤ b.2.1 ∧ a.2.2 ≤ b.2.2
theorem leR_fits {a b : Tri} (h : leR a b) : fitsR a b = true := decide_eq_true h
theorem leR.refl (a : Tri) : leR a a := ⟨Int.le_refl _, Int.le_refl _, Int.le_refl _⟩
theorem leR.trans {a b c : Tri} (h : leR a b) (k : leR b c) : leR a c := ⟨Int.le_trans h.1 k.1, Int.le_trans h.2.1 k.2.1, Int.le_trans h.2.2 k.2.2⟩
theorem le_max_l (a b : Tri) : leR a (maxR a b) := ⟨Int.le_max_left _ _, Int.le_max_left _ _, Int.le_max_left _ _⟩
theorem le_max_r (a b : Tri) : leR b (maxR a b) := ⟨Int.le_max_right _ _, Int.le_max_right _ _, Int.le_max_right _ _⟩
theorem max_mono {a b c : Tri} (h : leR a b) : leR (maxR a c) (maxR b c) := by
  obtain ⟨h1, h2, h3⟩ := h
  refine ⟨?_, ?_, ?_⟩ <;> simp only [maxR] <;> omega
theorem maxTo_ge (l : List Ctr) : ∀ t : Tri, leR t (maxTo t l) := by
  induction l with
  | nil => exact leR.refl
  | cons c l ih => intro t; exact (le_max_l t c.req).trans (ih _)
theorem maxTo_mem {l : List Ctr} : ∀ {t : Tri} {c : Ctr}, c ∈ l → leR c.req (maxTo t l) := by
  induction l with
  | nil => intro t c h; cases h
  | cons d l ih =>
    intro t c h
    rcases List.mem_cons.1 h with rfl | h
    · exact (le_max_r t c.req).trans (maxTo_ge l _)
    · exact ih h
theorem maxTo_mono {l : List Ctr} : ∀ {a b : Tri}, leR a b → leR (maxTo a l) (maxTo b l) := by
  induction l with
  | nil => exact id
  | cons c l ih => intro a b h; exact ih (max_mono h)
/-- What Check says of what a container asks for. -/
def reqOk (c : Ctr) : Prop := inK 1099511627776 c.req
theorem within_none {name : List UInt8} {n lo hi : Int} (h : withinE name n lo hi = none) : lo ≤ n ∧ n ≤ hi := by
  unfold withinE at h
  split at h
  · cases h
  · omega
theorem erIn_none {e : Er} {p : List UInt8} (h : erIn e p = none) : e = none := by cases e with | none => rfl | some x => cases h
theorem ctrE_req {ns : List (List UInt8)} {ps : List Int} {c : Ctr} {ports every : Int} (h : ctrE ns ps c ports every = none) : reqOk c := by
  have h1 := erIn_none (firstE_none h (reqE c.req) (by simp))
  have h2 := within_none (firstE_none h1 _ (List.mem_cons_self))
  have h3 := within_none (firstE_none h1 _ (List.mem_cons_of_mem _ List.mem_cons_self))
  have h4 := within_none (firstE_none h1 _ (List.mem_cons_of_mem _ (List.mem_cons_of_mem _ List.mem_cons_self)))
  exact ⟨h2, h3, h4⟩
theorem ctrsE_each {name : List UInt8} {ns : List (List UInt8)} {ps : List Int} {l : List Ctr} {ports every : Int} (h : ctrsE name ns ps l ports every = none) {i : Nat} (hi : i < l.length) : ctrE (namesTo ns l i) (portsTo ps l i) l[i] ports every = none := by
  have := erIn_none (eachE_none h i hi)
  rwa [ctrAt_at hi] at this
theorem ctrsE_req {name : List UInt8} {ns : List (List UInt8)} {ps : List Int} {l : List Ctr} {ports every : Int} (h : ctrsE name ns ps l ports every = none) : ∀ c ∈ l, reqOk c := fun c hc => by
  obtain ⟨i, hi, rfl⟩ := List.mem_iff_getElem.1 hc
  exact ctrE_req (ctrsE_each h hi)
theorem check_reqs {s : Spc} (h : checkE s = none) : (∀ c ∈ s.init, reqOk c) ∧ (∀ c ∈ s.main, reqOk c) ∧ s.main.length ≤ 4 := by
  obtain ⟨_, h2, h3⟩ := check_all h
  refine ⟨ctrsE_req (firstE_none h2 _ List.mem_cons_self), ctrsE_req (firstE_none h3 _ List.mem_cons_self), ?_⟩
  have := firstE_none h2 (atMostE mainN (s.main.length : Int) 1 4) (by simp)
  unfold atMostE at this
  split at this
  · cases this
  · omega
theorem reqOk_small {c : Ctr} (h : reqOk c) : smallR c.req = true := by
  obtain ⟨h1, h2, h3⟩ := h
  unfold smallR
  simp only [Bool.and_eq_true, decide_eq_true_eq]
  omega
theorem sum_reqs {l : List Ctr} (h : ∀ c ∈ l, reqOk c) (hl : l.length ≤ 8) : sumR (0, 0, 0) (reqs l) = (tot (reqs l), true) :=
  sum_small (fun r hr => by obtain ⟨c, hc, rfl⟩ := List.mem_map.1 hr; exact reqOk_small (h c hc)) (by simp [reqs]; omega)
theorem ofR_good {s : Spc} (h : ∀ c ∈ s.main, reqOk c) (hl : s.main.length ≤ 8) : ofR s = (maxTo (tot (reqs s.main)) s.init, true) := by
  have h1 := sum_reqs h hl
  rw [ofR_ok (by rw [h1]), h1]
theorem tot_nonneg {l : List Ctr} (h : ∀ c ∈ l, reqOk c) : leR (0, 0, 0) (tot (reqs l)) ∧ leR (tot (reqs l)) (l.length * 36028797018963968, l.length * 36028797018963968, l.length * 36028797018963968) := by
  have := tot_in (l := reqs l) (fun r hr => by obtain ⟨c, hc, rfl⟩ := List.mem_map.1 hr; exact reqOk_small (h c hc))
  have hl : (reqs l).length = l.length := by simp [reqs]
  rw [hl] at this
  obtain ⟨⟨a1, a2⟩, ⟨b1, b2⟩, c1, c2⟩ := this
  exact ⟨⟨a1, b1, c1⟩, ⟨a2, b2, c2⟩⟩
def dropC (l : List Ctr) (i : Nat) : List Ctr := l.take i ++ l.drop (i + 1)
theorem dropC_mem {l : List Ctr} {i : Nat} {c : Ctr} (h : c ∈ dropC l i) : c ∈ l := by
  rcases List.mem_append.1 h with h | h
  · exact List.mem_of_mem_take h
  · exact List.mem_of_mem_drop h
theorem dropC_len {l : List Ctr} {i : Nat} : (dropC l i).length ≤ l.length := by
  unfold dropC; rw [List.length_append, List.length_take, List.length_drop]; omega
theorem tot_drop {l : List Ctr} {i : Nat} (h : i < l.length) : tot (reqs l) = ((tot (reqs (dropC l i))).1 + l[i].req.1, (tot (reqs (dropC l i))).2.1 + l[i].req.2.1, (tot (reqs (dropC l i))).2.2 + l[i].req.2.2) := by
  have e0 : l = l.take i ++ (l[i] :: l.drop (i + 1)) := by rw [← List.drop_eq_getElem_cons h, List.take_append_drop]
  have e : reqs l = reqs (l.take i) ++ ([l[i].req] ++ reqs (l.drop (i + 1))) := (congrArg reqs e0).trans (by simp only [reqs, List.map_append, List.map_cons]; rfl)
  have e2 : reqs (dropC l i) = reqs (l.take i) ++ reqs (l.drop (i + 1)) := by simp [reqs, dropC]
  rw [e, e2]
  simp only [tot_append]
  simp only [tot, Int.add_zero]
  refine Prod.ext ?_ (Prod.ext ?_ ?_) <;> simp only <;> omega
/-- What ResCovers asks at a main container. -/
theorem covers_main {s : Spc} (h : checkE s = none) {i : Nat} (hi : i < s.main.length) (hl : s.main.length ≤ 8) :
    (ofR { s with main := dropC s.main i }).2 = true ∧ fitsR (ofR { s with main := dropC s.main i }).1 (ofR s).1 = true ∧ fitsR s.main[i].req (ofR s).1 = true ∧
    (ofR ⟨[], [], [], dropC s.main i, 0, 0, 0⟩).2 = true ∧ (addR (ofR ⟨[], [], [], dropC s.main i, 0, 0, 0⟩).1 s.main[i].req).2 = true ∧ fitsR (addR (ofR ⟨[], [], [], dropC s.main i, 0, 0, 0⟩).1 s.main[i].req).1 (ofR s).1 = true := by
  obtain ⟨h1, h2, h3⟩ := check_reqs h
  have hd : ∀ c ∈ dropC s.main i, reqOk c := fun c hc => h2 c (dropC_mem hc)
  have hdl : (dropC s.main i).length ≤ 8 := Nat.le_trans dropC_len hl
  have e1 := ofR_good h2 hl
  have e2 : ofR { s with main := dropC s.main i } = (maxTo (tot (reqs (dropC s.main i))) s.init, true) := ofR_good (s := { s with main := dropC s.main i }) hd hdl
  have e3 : ofR ⟨[], [], [], dropC s.main i, 0, 0, 0⟩ = (tot (reqs (dropC s.main i)), true) := ofR_good (s := ⟨[], [], [], dropC s.main i, 0, 0, 0⟩) hd hdl
  obtain ⟨n1, n2⟩ := tot_nonneg hd
  obtain ⟨m1, m2⟩ := tot_nonneg h2
  have hr := h2 _ (List.getElem_mem hi)
  obtain ⟨⟨r1, r2⟩, ⟨r3, r4⟩, r5, r6⟩ := hr
  have ht := tot_drop hi
  have hle : leR (tot (reqs (dropC s.main i))) (tot (reqs s.main)) := by rw [ht]; refine ⟨?_, ?_, ?_⟩ <;> simp only <;> omega
  have hle2 : leR s.main[i].req (tot (reqs s.main)) := by rw [ht]; obtain ⟨n3, n4, n5⟩ := n1; simp only at n3 n4 n5; refine ⟨?_, ?_, ?_⟩ <;> simp only <;> omega
  have hg := maxTo_ge s.init (tot (reqs s.main))
  rw [e1, e2, e3]
  have ha : addR (tot (reqs (dropC s.main i))) s.main[i].req = (tot (reqs s.main), true) := by
    obtain ⟨m3, m4, m5⟩ := m1; obtain ⟨m6, m7, m8⟩ := m2
    simp only at m3 m4 m5 m6 m7 m8
    rw [ht] at m3 m4 m5 m6 m7 m8
    simp only at m3 m4 m5 m6 m7 m8
    rw [addR, if_pos, ht]
    refine ⟨?_, ?_, ?_⟩ <;> unfold fits <;> omega
  rw [ha]
  exact ⟨rfl, leR_fits (maxTo_mono hle), leR_fits (hle2.trans hg), rfl, rfl, leR_fits hg⟩
theorem covers_init {s : Spc} (h : checkE s = none) {i : Nat} (hi : i < s.init.length) (hl : s.main.length ≤ 8) : fitsR s.init[i].req (ofR s).1 = true := by
  obtain ⟨h1, h2, h3⟩ := check_reqs h
  rw [ofR_good h2 hl]
  exact leR_fits (maxTo_mem (List.getElem_mem hi))
theorem ofR_fits {s : Spc} (h : ∀ c ∈ s.init, fits3 c.req) (k : ∀ c ∈ s.main, fits3 c.req) : fits3 (ofR s).1 := by
  unfold ofR
  split
  · exact maxTo_fits (sumR_fits _ _ (by decide)) h
  · decide
end Go.AL

/-
When containers and specs are alike; what an update may not change.
Conditions: none; no program is in sight.
-/
set_option linter.unusedVariables false
set_option linter.unusedSimpArgs false
namespace Go.AL
open Go.RowKit Go.NumSpec
def sameL {α : Type} (f : α → α → Bool) : List α → List α → Bool
  | [], [] => true
  | a :: l, b :: m => f a b && sameL f l m
  | _, _ => false
theorem sameL_len {α : Type} {f : α → α → Bool} : ∀ {l m : List α}, l.length ≠ m.length → sameL f l m = false
  | [], [], h => absurd rfl h
  | a :: l, b :: m, h => by unfold sameL; rw [sameL_len (l := l) (m := m) (fun e => h (by simp [e])), Bool.and_false]
  | [], b :: m, _ => rfl
  | a :: l, [], _ => rfl
theorem sameL_bad {α : Type} {f : α → α → Bool} : ∀ {l m : List α} {i : Nat} (h : i < l.length) (h' : i < m.length), f l[i] m[i] = false → sameL f l m = false
  | a :: l, b :: m, 0, _, _, h => by simp only [List.getElem_cons_zero] at h; unfold sameL; rw [h, Bool.false_and]
  | a :: l, b :: m, i + 1, h1, h2, h => by unfold sameL; rw [sameL_bad (l := l) (m := m) (i := i) (by simpa using h1) (by simpa using h2) (by simpa using h), Bool.and_false]
theorem sameL_all {α : Type} {f : α → α → Bool} : ∀ {l m : List α}, l.length = m.length → (∀ i (h : i < l.length) (h' : i < m.length), f l[i] m[i] = true) → sameL f l m = true
  | [], [], _, _ => rfl
  | a :: l, b :: m, hl, h => by
    unfold sameL
    rw [show f a b = true from h 0 (by simp) (by simp), sameL_all (l := l) (m := m) (by simpa using hl) fun i h1 h2 => h (i + 1) (Nat.succ_lt_succ h1) (Nat.succ_lt_succ h2), Bool.and_true]
theorem sameL_eq {α : Type} [DecidableEq α] {l m : List α} : sameL (fun a b => decide (a = b)) l m = decide (l = m) := by
  induction l generalizing m with
  | nil => cases m <;> simp [sameL]
  | cons a l ih => cases m <;> simp [sameL, ih]
theorem sameL_iff {α : Type} {f : α → α → Bool} (hf : ∀ a b, f a b = true ↔ a = b) : ∀ {l m : List α}, sameL f l m = true ↔ l = m
  | [], [] => by simp [sameL]
  | a :: l, b :: m => by simp [sameL, hf, sameL_iff hf (l := l) (m := m)]
  | [], b :: m => by simp [sameL]
  | a :: l, [] => by simp [sameL]
def alikeC (a b : Ctr) : Bool := decide (a.name = b.name) && (decide (a.req = b.req) && (decide (a.lim = b.lim) && (decide (a.ports = b.ports) && decide (a.probe = b.probe))))
def exactC (a b : Ctr) : Bool := alikeC a b && decide (a.image = b.image)
theorem exactC_iff {a b : Ctr} : exactC a b = true ↔ a = b := by
  cases a; cases b
  simp only [exactC, alikeC, Bool.and_eq_true, decide_eq_true_eq, Ctr.mk.injEq]
  constructor
  · rintro ⟨⟨h1, h2, h3, h4, h5⟩, h6⟩; exact ⟨h1, h6, h2, h3, h4, h5⟩
  · rintro ⟨h1, h2, h3, h4, h5, h6⟩; exact ⟨⟨h1, h3, h4, h5, h6⟩, h2⟩
theorem alikeC_refl (a : Ctr) : alikeC a a = true := by simp [alikeC]
theorem exactC_refl (a : Ctr) : exactC a a = true := exactC_iff.2 rfl
theorem sameL_refl {α : Type} {f : α → α → Bool} (hf : ∀ a, f a a = true) : ∀ l : List α, sameL f l l = true
  | [] => rfl
  | a :: l => by simp [sameL, hf, sameL_refl hf l]
def portsS (s : Spc) : List Int := s.main.flatMap Ctr.ports
/-- What of the main container i an update changes. -/
def frozenAt (a b : List Ctr) (i : Nat) : Er := match a[i]?, b[i]? with
  | some x, some y => if alikeC x y = false then some (4, [atT mainN (i : Int)]) else if x.image ≠ y.image ∧ sameV x.image y.image = false then some (33, [atT mainN (i : Int), [105, 109, 97, 103, 101]]) else none
  | _, _ => none
def frozenE (a b : Spc) : Er := if a.name ≠ b.name then some (4, [nameN]) else if sameL exactC a.init b.init = false then some (4, [initN]) else if a.main.length ≠ b.main.length then some (4, [mainN]) else eachE a.main.length (frozenAt a.main b.main)
theorem frozenAt_at {a b : List Ctr} {i : Nat} (h : i < a.length) (h' : i < b.length) : frozenAt a b i = if alikeC a[i] b[i] = false then some (4, [atT mainN (i : Int)]) else if a[i].image ≠ b[i].image ∧ sameV a[i].image b[i].image = false then some (33, [atT mainN (i : Int), [105, 109, 97, 103, 101]]) else none := by
  unfold frozenAt; rw [List.getElem?_eq_getElem h, List.getElem?_eq_getElem h']
theorem res_eqB {a b : Tri} : (decide (a.1 = b.1) && (decide (a.2.1 = b.2.1) && (decide (a.2.2 = b.2.2) && true))) = decide (a = b) := by
  rw [Bool.eq_iff_iff]; simp only [Bool.and_eq_true, decide_eq_true_eq, and_true]
  exact ⟨fun ⟨h1, h2, h3⟩ => Prod.ext h1 (Prod.ext h2 h3), fun h => by subst h; exact ⟨rfl, rfl, rfl⟩⟩
theorem probe_eqB {a b : Int × Int} : (decide (a.1 = b.1) && (decide (a.2 = b.2) && true)) = decide (a = b) := by
  rw [Bool.eq_iff_iff]; simp only [Bool.and_eq_true, decide_eq_true_eq, and_true]
  exact ⟨fun ⟨h1, h2⟩ => Prod.ext h1 h2, fun h => by subst h; exact ⟨rfl, rfl⟩⟩
theorem lab_eqB {a b : Lab} : (decide (a.1 = b.1) && (decide (a.2 = b.2) && true)) = decide (a = b) := by
  rw [Bool.eq_iff_iff]; simp only [Bool.and_eq_true, decide_eq_true_eq, and_true]
  exact ⟨fun ⟨h1, h2⟩ => Prod.ext h1 h2, fun h => by subst h; exact ⟨rfl, rfl⟩⟩
theorem flat_snoc {α β : Type} {f : α → List β} {l : List α} {i : Nat} (h : i < l.length) : (l.take i).flatMap f ++ f l[i] = (l.take (i + 1)).flatMap f := by
  rw [List.take_succ_eq_append_getElem h, List.flatMap_append, List.flatMap_singleton]
/-! the chapter's example -/
def ctrA6 : Ctr := ⟨[97], [119, 101, 98, 58, 49], (0, 0, 0), (0, 0, 0), [], (0, 0)⟩
def ctrB6 (name : List UInt8) : Ctr := ⟨name, [119, 101, 98, 58, 50], (0, 0, 0), (0, 0, 0), [80], (0, 0)⟩
def plain6 (name : List UInt8) : Spc := ⟨[119, 101, 98], [], [], [ctrA6, ctrB6 name], 3, 0, 0⟩
end Go.AL

/-
What may be may be in part.
Conditions: none; no program is in sight.
-/
set_option linter.unusedVariables false
set_option linter.unusedSimpArgs false
namespace Go.AL
open Go.RowKit Go.NumSpec
theorem firstE_nil {es : List Er} (h : ∀ e ∈ es, e = none) : firstE es = none := firstE_all fun j hj => h _ (List.getElem_mem hj)
theorem nameE_out {ns : List (List UInt8)} {s : List UInt8} (h : nameE ns s = none) : erNew (saysV (nameV s) 30) [[110, 97, 109, 101]] = none ∧ s ∉ ns := by
  unfold nameE at h
  split at h
  · cases h
  · rename_i hk
    exact ⟨h, fun hm => hk ⟨by rw [h]; rfl, hm⟩⟩
theorem nameE_in {ns : List (List UInt8)} {s : List UInt8} (h : erNew (saysV (nameV s) 30) [[110, 97, 109, 101]] = none) (h' : s ∉ ns) : nameE ns s = none := by
  unfold nameE; rw [if_neg fun hk => h' hk.2]; exact h
theorem portAt_out {ps l : List Int} {i : Nat} (h : portAt ps l i = none) : withinE (atT portsN (i : Int)) (l.getD i 0) 1 65535 = none ∧ l.getD i 0 ∉ ps ++ l.take i := by
  unfold portAt at h
  split at h
  · cases h
  · rename_i hk
    exact ⟨h, fun hm => hk ⟨by rw [h]; rfl, hm⟩⟩
theorem portAt_in {ps l : List Int} {i : Nat} (h : withinE (atT portsN (i : Int)) (l.getD i 0) 1 65535 = none) (h' : l.getD i 0 ∉ ps ++ l.take i) : portAt ps l i = none := by
  unfold portAt; rw [if_neg fun hk => h' hk.2]; exact h
theorem portE_out {ps l : List Int} {n : Int} (h : portE ps l n = none) : atMostE portsN (l.length : Int) 0 n = none ∧ ∀ j, j < l.length → portAt ps l j = none := by
  cases ha : atMostE portsN (l.length : Int) 0 n with
  | some x => rw [portE_bad (by rw [ha]; simp), ha] at h; cases h
  | none => rw [portE_good ha] at h; exact ⟨rfl, eachE_none h⟩
theorem portE_in {ps l : List Int} {n : Int} (ha : atMostE portsN (l.length : Int) 0 n = none) (h : ∀ j, j < l.length → portAt ps l j = none) : portE ps l n = none := by rw [portE_good ha, eachE_all h]
theorem ctrE_mono {ns ns' : List (List UInt8)} {ps ps' : List Int} {c : Ctr} {a b : Int} (hn : ∀ x ∈ ns', x ∈ ns) (hp : ∀ x ∈ ps', x ∈ ps) (h : ctrE ns ps c a b = none) : ctrE ns' ps' c a b = none := by
  have hall := firstE_none h
  have h1 := nameE_out (hall (nameE ns c.name) (by simp))
  obtain ⟨h2, h3⟩ := portE_out (hall (portE ps c.ports a) (by simp))
  refine firstE_nil fun e he => ?_
  simp only [List.mem_cons, List.not_mem_nil, or_false] at he
  rcases he with rfl | rfl | rfl | rfl | rfl | rfl
  · exact nameE_in h1.1 fun hm => h1.2 (hn _ hm)
  · exact hall _ (by simp)
  · exact hall _ (by simp)
  · exact hall _ (by simp)
  · refine portE_in h2 fun j hj => ?_
    obtain ⟨k1, k2⟩ := portAt_out (h3 j hj)
    refine portAt_in k1 fun hm => k2 ?_
    rcases List.mem_append.1 hm with hm | hm
    · exact List.mem_append_left _ (hp _ hm)
    · exact List.mem_append_right _ hm
  · exact hall _ (by simp)
theorem ctrsE_in {name : List UInt8} {ns : List (List UInt8)} {ps : List Int} {l : List Ctr} {a b : Int} (h : ∀ i (hi : i < l.length), ctrE (namesTo ns l i) (portsTo ps l i) l[i] a b = none) : ctrsE name ns ps l a b = none :=
  eachE_all fun j hj => by rw [ctrAt_at hj, h j hj]; rfl
theorem ctrsE_mono {name : List UInt8} {ns ns' : List (List UInt8)} {ps ps' : List Int} {l : List Ctr} {a b : Int} (hn : ∀ x ∈ ns', x ∈ ns) (hp : ∀ x ∈ ps', x ∈ ps) (h : ctrsE name ns ps l a b = none) : ctrsE name ns' ps' l a b = none :=
  ctrsE_in fun i hi => ctrE_mono (fun x hx => by
    rcases List.mem_append.1 hx with hx | hx
    · exact List.mem_append_left _ (hn _ hx)
    · exact List.mem_append_right _ hx) (fun x hx => by
    rcases List.mem_append.1 hx with hx | hx
    · exact List.mem_append_left _ (hp _ hx)
    · exact List.mem_append_right _ hx) (ctrsE_each h hi)
theorem ctrsE_take {name : List UInt8} {ns : List (List UInt8)} {ps : List Int} {l : List Ctr} {a b : Int} (k : Nat) (h : ctrsE name ns ps l a b = none) : ctrsE name ns ps (l.take k) a b = none :=
  ctrsE_in fun i hi => by
    have hl : i < l.length := by rw [List.length_take] at hi; omega
    have hk : i < k := by rw [List.length_take] at hi; omega
    have := ctrsE_each h hl
    unfold namesTo portsTo at this ⊢
    rw [List.take_take, Nat.min_eq_left (by omega), List.getElem_take]
    exact this
theorem namesTo_sub {ns : List (List UInt8)} {l : List Ctr} {k : Nat} : ∀ x ∈ namesTo ns (l.take k) (l.take k).length, x ∈ namesTo ns l l.length := fun x hx => by
  unfold namesTo at hx ⊢
  rw [List.take_length] at hx ⊢
  rcases List.mem_append.1 hx with hx | hx
  · exact List.mem_append_left _ hx
  · obtain ⟨c, hc, rfl⟩ := List.mem_map.1 hx
    exact List.mem_append_right _ (List.mem_map_of_mem (List.mem_of_mem_take hc))
theorem portsTo_sub {ps : List Int} {l : List Ctr} {k : Nat} : ∀ x ∈ portsTo ps (l.take k) (l.take k).length, x ∈ portsTo ps l l.length := fun x hx => by
  unfold portsTo at hx ⊢
  rw [List.take_length] at hx ⊢
  rcases List.mem_append.1 hx with hx | hx
  · exact List.mem_append_left _ hx
  · obtain ⟨c, hc, hp⟩ := List.mem_flatMap.1 hx
    exact List.mem_append_right _ (List.mem_flatMap.2 ⟨c, List.mem_of_mem_take hc, hp⟩)
theorem getD_take {α : Type} {l : List α} {k i : Nat} {d : α} (h : i < k) : (l.take k).getD i d = l.getD i d := by
  rw [List.getD_eq_getElem?_getD, List.getD_eq_getElem?_getD, List.getElem?_take_of_lt h]
theorem labelE_take {name : List UInt8} {l : List Lab} {k i : Nat} (h : i < k) : labelE name (l.take k) i = labelE name l i := by
  unfold labelE keyE
  rw [getD_take h, getD_take (show i - 1 < k by omega)]
theorem atMost_le {name : List UInt8} {n m : Nat} {hi : Int} (h : atMostE name (n : Int) 0 hi = none) (hm : m ≤ n) : atMostE name (m : Int) 0 hi = none := by
  unfold atMostE at h ⊢
  split at h
  · cases h
  · rw [if_neg (by omega)]
theorem labelsE_take {name : List UInt8} {l : List Lab} (k : Nat) (h : labelsE name l = none) : labelsE name (l.take k) = none := by
  have hl : (l.take k).length ≤ l.length := by rw [List.length_take]; omega
  cases ha : atMostE name (l.length : Int) 0 4 with
  | some x => rw [labelsE_bad (by rw [ha]; simp), ha] at h; cases h
  | none =>
    rw [labelsE_good ha] at h
    rw [labelsE_good (atMost_le ha hl)]
    refine eachE_all fun j hj => ?_
    rw [labelE_take (by rw [List.length_take] at hj; omega)]
    exact eachE_none h j (by omega)
theorem check_in {s : Spc} (h1 : firstE (check1 s) = none) (h2 : firstE (check2 s) = none) (h3 : firstE (check3 s) = none) : checkE s = none := by rw [check_good h1 h2, h3]
abbrev partA (s : Spc) : Spc := { s with labels := s.labels.take (s.labels.length - 1) }
abbrev partB (s : Spc) : Spc := { s with init := s.init.take (s.init.length - 1) }
abbrev partC (s : Spc) : Spc := { s with main := if 1 < s.main.length then s.main.take (s.main.length - 1) else s.main }
theorem each3 {α : Type} {p : α → Prop} {a b c : α} (h : ∀ e ∈ [a, b, c], p e) : p a ∧ p b ∧ p c := ⟨h a (by simp), h b (by simp), h c (by simp)⟩
theorem check_partA {s : Spc} (h : checkE s = none) : checkE (partA s) = none := by
  obtain ⟨h1, h2, h3⟩ := check_all h
  obtain ⟨k1, k2, k3⟩ := each3 (firstE_none h1)
  refine check_in (firstE_nil fun e he => ?_) h2 h3
  simp only [List.mem_cons, List.not_mem_nil, or_false] at he
  rcases he with rfl | rfl | rfl
  · exact k1
  · exact labelsE_take _ k2
  · exact k3
theorem check_partB {s : Spc} (h : checkE s = none) : checkE (partB s) = none := by
  obtain ⟨h1, h2, h3⟩ := check_all h
  obtain ⟨k1, k2, k3⟩ := each3 (firstE_none h1)
  have k4 := firstE_none h2 _ List.mem_cons_self
  have k5 := firstE_none h2 _ (List.mem_cons_of_mem _ List.mem_cons_self)
  have k6 := firstE_none h3
  have hl : (s.init.take (s.init.length - 1)).length ≤ s.init.length := by rw [List.length_take]; omega
  refine check_in (firstE_nil fun e he => ?_) (firstE_nil fun e he => ?_) (firstE_nil fun e he => ?_)
  · simp only [List.mem_cons, List.not_mem_nil, or_false] at he
    rcases he with rfl | rfl | rfl
    · exact k1
    · exact k2
    · exact atMost_le k3 hl
  · simp only [List.mem_cons, List.not_mem_nil, or_false] at he
    rcases he with rfl | rfl
    · exact ctrsE_take _ k4
    · exact k5
  · simp only [List.mem_cons, List.not_mem_nil, or_false] at he
    rcases he with rfl | rfl | rfl | rfl
    · exact ctrsE_mono namesTo_sub portsTo_sub (k6 _ (by simp))
    · exact k6 _ (by simp)
    · exact k6 _ (by simp)
    · exact k6 _ (by simp)
theorem check_partC {s : Spc} (h : checkE s = none) : checkE (partC s) = none := by
  obtain ⟨h1, h2, h3⟩ := check_all h
  have k4 := firstE_none h2 _ List.mem_cons_self
  have k5 := firstE_none h2 _ (List.mem_cons_of_mem _ List.mem_cons_self)
  have k6 := firstE_none h3
  by_cases hm : 1 < s.main.length
  · have e : partC s = { s with main := s.main.take (s.main.length - 1) } := by unfold partC; rw [if_pos hm]
    rw [e]
    refine check_in h1 (firstE_nil fun e he => ?_) (firstE_nil fun e he => ?_)
    · simp only [List.mem_cons, List.not_mem_nil, or_false] at he
      rcases he with rfl | rfl
      · exact k4
      · unfold atMostE at k5 ⊢
        split at k5
        · cases k5
        · rw [if_neg (by rw [List.length_take]; omega)]
    · simp only [List.mem_cons, List.not_mem_nil, or_false] at he
      rcases he with rfl | rfl | rfl | rfl
      · exact ctrsE_take _ (k6 _ (by simp))
      · exact k6 _ (by simp)
      · exact k6 _ (by simp)
      · exact k6 _ (by simp)
  · have e : partC s = s := by unfold partC; rw [if_neg hm]
    rw [e]; exact h
theorem light_in {s : Spc} (h1 : s.name.length ≤ 100) (h2 : s.labels.length ≤ 10) (h3 : s.init.length ≤ 8) (h4 : s.main.length ≤ 8) (h5 : ∀ x ∈ s.labels, lightL x = true) (h6 : ∀ c ∈ s.init, lightC c = true) (h7 : ∀ c ∈ s.main, lightC c = true) : lightS s = true := by
  unfold lightS
  simp only [Bool.and_eq_true, decide_eq_true_eq, List.all_eq_true]
  exact ⟨⟨⟨h1, h2, h3, h4⟩, h5⟩, h6, h7⟩
theorem light_out {s : Spc} (h : lightS s = true) : (s.name.length ≤ 100 ∧ s.labels.length ≤ 10 ∧ s.init.length ≤ 8 ∧ s.main.length ≤ 8) ∧ (∀ x ∈ s.labels, lightL x = true) ∧ (∀ c ∈ s.init, lightC c = true) ∧ ∀ c ∈ s.main, lightC c = true := by
  unfold lightS at h
  simp only [Bool.and_eq_true, decide_eq_true_eq, List.all_eq_true] at h
  exact ⟨h.1.1, h.1.2, h.2⟩
theorem light_parts {s : Spc} (h : lightS s = true) : lightS (partA s) = true ∧ lightS (partB s) = true ∧ lightS (partC s) = true := by
  obtain ⟨⟨h1, h2, h3, h4⟩, h5, h6, h7⟩ := light_out h
  refine ⟨light_in h1 ?_ h3 h4 (fun x hx => h5 x (List.mem_of_mem_take hx)) h6 h7, light_in h1 h2 ?_ h4 h5 (fun x hx => h6 x (List.mem_of_mem_take hx)) h7, ?_⟩
  · simp only [List.length_take]; omega
  · simp only [List.length_take]; omega
  · unfold partC
    split
    · exact light_in h1 h2 h3 (by simp only [List.length_take]; omega) h5 h6 fun x hx => h7 x (List.mem_of_mem_take hx)
    · exact light_in h1 h2 h3 h4 h5 h6 h7
end Go.AL

/-
The document's codes and paths of specs, against the errors of package spec.
Conditions: none; no program is in sight.
-/
set_option linter.unusedVariables false
set_option linter.unusedSimpArgs false
namespace Go.AL
open Go.RowKit Go.NumSpec
def erText (e : Er) : List UInt8 := Lib.join (erPath e) [46]
theorem join_two (a b : List UInt8) : Lib.join [a, b] [46] = a ++ [46] ++ b := by
  rw [Lib.join_cons]; simp [Lib.joinTail]
theorem join_more (a : List UInt8) {l : List (List UInt8)} (h : l ≠ []) : Lib.join (a :: l) [46] = a ++ [46] ++ Lib.join l [46] := by
  cases l with
  | nil => exact absurd rfl h
  | cons b l => rw [Lib.join_cons, Lib.join_cons]; simp [Lib.joinTail]
/-- An error with a code and a path. -/
def WellE (e : Er) : Prop := ∀ c ps, e = some (c, ps) → c ≠ 0 ∧ ps ≠ []
theorem well_none : WellE none := fun c ps h => by cases h
theorem well_some {c : Int} {ps : List (List UInt8)} (h : c ≠ 0) (h' : ps ≠ []) : WellE (some (c, ps)) := fun d qs e => by cases e; exact ⟨h, h'⟩
theorem well_new {c : Int} {ps : List (List UInt8)} (h' : ps ≠ []) : WellE (erNew c ps) := by
  unfold erNew; split
  · exact well_none
  · rename_i h; exact well_some h h'
theorem well_in {e : Er} (h : WellE e) (p : List UInt8) : WellE (erIn e p) := by
  cases e with
  | none => exact well_none
  | some x => obtain ⟨c, ps⟩ := x; exact well_some (h c ps rfl).1 (by simp)
theorem well_first : ∀ {es : List Er}, (∀ e ∈ es, WellE e) → WellE (firstE es)
  | [], _ => well_none
  | none :: es, h => well_first (es := es) fun e he => h e (List.mem_cons_of_mem _ he)
  | some x :: es, h => h (some x) List.mem_cons_self
theorem well_each {n : Nat} {f : Nat → Er} (h : ∀ i, i < n → WellE (f i)) : WellE (eachE n f) := well_first fun e he => by
  obtain ⟨i, hi, rfl⟩ := List.mem_map.1 he
  exact h i (List.mem_range.1 hi)
theorem well_within (name : List UInt8) (n lo hi : Int) : WellE (withinE name n lo hi) := by
  unfold withinE; split
  · exact well_some (by decide) (by simp)
  · exact well_none
theorem well_atMost (name : List UInt8) (n lo hi : Int) : WellE (atMostE name n lo hi) := by
  unfold atMostE; split
  · exact well_some (by decide) (by simp)
  · exact well_none
theorem well_most (name : List UInt8) (n lo : Int) : WellE (mostE name n lo) := by
  unfold mostE; split
  · exact well_none
  · exact well_within _ _ _ _
theorem well_key (l : List Lab) (i : Nat) : WellE (keyE l i) := by
  unfold keyE; split
  · exact well_some (by decide) (by simp)
  · exact well_new (by simp)
theorem well_list {es : List Er} : (∀ e ∈ es, WellE e) → ∀ e ∈ es, WellE e := id
theorem well_label (name : List UInt8) (l : List Lab) (i : Nat) : WellE (labelE name l i) := well_in (well_first (by
  intro e he; simp only [List.mem_cons, List.not_mem_nil, or_false] at he
  rcases he with rfl | rfl
  · exact well_key _ _
  · exact well_new (by simp))) _
theorem well_labels (name : List UInt8) (l : List Lab) : WellE (labelsE name l) := by
  cases ha : atMostE name (l.length : Int) 0 4 with
  | some x => rw [labelsE_bad (by rw [ha]; simp)]; exact well_atMost _ _ _ _
  | none => rw [labelsE_good ha]; exact well_each fun i _ => well_label _ _ _
theorem well_name (ns : List (List UInt8)) (s : List UInt8) : WellE (nameE ns s) := by
  unfold nameE; split
  · exact well_some (by decide) (by simp)
  · exact well_new (by simp)
theorem well_req (r : Tri) : WellE (reqE r) := well_in (well_first (by
  intro e he; simp only [List.mem_cons, List.not_mem_nil, or_false] at he
  rcases he with rfl | rfl | rfl <;> exact well_within _ _ _ _)) _
theorem well_lim (l r : Tri) : WellE (limE l r) := well_in (well_first (by
  intro e he; simp only [List.mem_cons, List.not_mem_nil, or_false] at he
  rcases he with rfl | rfl | rfl <;> exact well_most _ _ _)) _
theorem well_probe (p : Int × Int) (every : Int) : WellE (probeE p every) := well_in (well_first (by
  intro e he; simp only [List.mem_cons, List.not_mem_nil, or_false] at he
  rcases he with rfl | rfl <;> exact well_within _ _ _ _)) _
theorem well_portAt (ps l : List Int) (i : Nat) : WellE (portAt ps l i) := by
  unfold portAt; split
  · exact well_some (by decide) (by simp)
  · exact well_within _ _ _ _
theorem well_port (ps l : List Int) (n : Int) : WellE (portE ps l n) := by
  cases ha : atMostE portsN (l.length : Int) 0 n with
  | some x => rw [portE_bad (by rw [ha]; simp)]; exact well_atMost _ _ _ _
  | none => rw [portE_good ha]; exact well_each fun i _ => well_portAt _ _ _
theorem well_ctr (ns : List (List UInt8)) (ps : List Int) (c : Ctr) (a b : Int) : WellE (ctrE ns ps c a b) := well_first (by
  intro e he; simp only [List.mem_cons, List.not_mem_nil, or_false] at he
  rcases he with rfl | rfl | rfl | rfl | rfl | rfl
  · exact well_name _ _
  · exact well_new (by simp)
  · exact well_req _
  · exact well_lim _ _
  · exact well_port _ _ _
  · exact well_probe _ _)
theorem well_ctrs (name : List UInt8) (ns : List (List UInt8)) (ps : List Int) (l : List Ctr) (a b : Int) : WellE (ctrsE name ns ps l a b) := well_each fun i hi => by
  rw [ctrAt_at hi]; exact well_in (well_ctr _ _ _ _ _) _
theorem well_check (s : Spc) : WellE (checkE s) := by
  unfold checkE
  split
  · rename_i x h; rw [← h]
    refine well_first fun e he => ?_
    simp only [List.mem_cons, List.not_mem_nil, or_false] at he
    rcases he with rfl | rfl | rfl
    · exact well_new (by simp)
    · exact well_labels _ _
    · exact well_atMost _ _ _ _
  · split
    · rename_i x h; rw [← h]
      refine well_first fun e he => ?_
      simp only [List.mem_cons, List.not_mem_nil, or_false] at he
      rcases he with rfl | rfl
      · exact well_ctrs _ _ _ _ _ _
      · exact well_atMost _ _ _ _
    · refine well_first fun e he => ?_
      simp only [List.mem_cons, List.not_mem_nil, or_false] at he
      rcases he with rfl | rfl | rfl | rfl
      · exact well_ctrs _ _ _ _ _ _
      · exact well_within _ _ _ _
      · exact well_within _ _ _ _
      · exact well_within _ _ _ _
theorem WellE.code {e : Er} (h : WellE e) : erCode e = 0 ↔ e = none := by
  cases e with
  | none => simp [erCode]
  | some x => obtain ⟨c, ps⟩ := x; simp [erCode, (h c ps rfl).1]
theorem WellE.isNone {e : Er} (h : WellE e) : e.isNone = decide (erCode e = 0) := by
  cases e with
  | none => simp [erCode]
  | some x => obtain ⟨c, ps⟩ := x; simp [erCode, (h c ps rfl).1]
theorem WellE.text_in {e : Er} (h : WellE e) (p : List UInt8) (hn : e ≠ none) : erText (erIn e p) = p ++ [46] ++ erText e := by
  cases e with
  | none => exact absurd rfl hn
  | some x => obtain ⟨c, ps⟩ := x; exact join_more p (h c ps rfl).2
theorem erText_one (c : Int) (p : List UInt8) : erText (some (c, [p])) = p := Lib.join_one _ _
theorem erText_two (c : Int) (p q : List UInt8) : erText (some (c, [p, q])) = p ++ [46] ++ q := join_two _ _

/-! numbers -/
def badN (n lo : Int) (free : Bool) : Bool := (!free || !decide (n = 0)) && (decide (n < lo) || decide (1099511627776 < n))
def numsI (n lo : Tri) (free : Bool) : Int := if badN n.1 lo.1 free = true then 0 else if badN n.2.1 lo.2.1 free = true then 1 else if badN n.2.2 lo.2.2 free = true then 2 else -1
abbrev numN : List (List UInt8) := [[99, 112, 117], [109, 101, 109], [112, 105, 100, 115]]
theorem numsI_range (n lo : Tri) (free : Bool) : -1 ≤ numsI n lo free ∧ numsI n lo free < 3 := by
  unfold numsI
  cases badN n.1 lo.1 free <;> cases badN n.2.1 lo.2.1 free <;> cases badN n.2.2 lo.2.2 free <;> decide
theorem nums_at {n lo : Tri} {free : Bool} {k : Nat} (h : k < 3) (hb : badN (at3 n k) (at3 lo k) free = true) (hn : ∀ j, j < k → badN (at3 n j) (at3 lo j) free = false) : numsI n lo free = (k : Int) := by
  unfold numsI
  match k, h with
  | 0, _ => rw [show badN n.1 lo.1 free = true from hb]; rfl
  | 1, _ => rw [show badN n.1 lo.1 free = false from hn 0 (by decide), show badN n.2.1 lo.2.1 free = true from hb]; rfl
  | 2, _ => rw [show badN n.1 lo.1 free = false from hn 0 (by decide), show badN n.2.1 lo.2.1 free = false from hn 1 (by decide), show badN n.2.2 lo.2.2 free = true from hb]; rfl
theorem nums_none {n lo : Tri} {free : Bool} (hn : ∀ j, j < 3 → badN (at3 n j) (at3 lo j) free = false) : numsI n lo free = -1 := by
  unfold numsI
  rw [show badN n.1 lo.1 free = false from hn 0 (by decide), show badN n.2.1 lo.2.1 free = false from hn 1 (by decide), show badN n.2.2 lo.2.2 free = false from hn 2 (by decide)]; rfl
theorem within_bad (name : List UInt8) (n lo : Int) : withinE name n lo 1099511627776 = if badN n lo false = true then some (1, [name]) else none := by
  unfold withinE badN
  by_cases h : n < lo ∨ 1099511627776 < n
  · rw [if_pos h, if_pos (by simpa using h)]
  · rw [if_neg h, if_neg (by simpa using h)]
theorem most_bad (name : List UInt8) (n lo : Int) : mostE name n lo = if badN n lo true = true then some (1, [name]) else none := by
  unfold mostE
  by_cases h0 : n = 0
  · rw [if_pos h0, if_neg (by simp [badN, h0])]
  · rw [if_neg h0, within_bad]
    simp [badN, h0]
theorem first3 (a b c : Bool) (p : List UInt8) : erIn (firstE [if a = true then some (1, [[99, 112, 117]]) else none, if b = true then some (1, [[109, 101, 109]]) else none, if c = true then some (1, [[112, 105, 100, 115]]) else none]) p =
    if a = true then some (1, [p, [99, 112, 117]]) else if b = true then some (1, [p, [109, 101, 109]]) else if c = true then some (1, [p, [112, 105, 100, 115]]) else none := by
  cases a <;> cases b <;> cases c <;> rfl
theorem req_nums (r : Tri) : reqE r = if 0 ≤ numsI r (0, 0, 0) false then some (1, [[114, 101, 113], numN.getD (numsI r (0, 0, 0) false).toNat []]) else none := by
  unfold reqE
  rw [within_bad, within_bad, within_bad, first3]
  unfold numsI
  cases badN r.1 (0, 0, 0).1 false <;> cases badN r.2.1 (0, 0, 0).2.1 false <;> cases badN r.2.2 (0, 0, 0).2.2 false <;> rfl
theorem lim_nums (l r : Tri) : limE l r = if 0 ≤ numsI l r true then some (1, [[108, 105, 109], numN.getD (numsI l r true).toNat []]) else none := by
  unfold limE
  rw [most_bad, most_bad, most_bad, first3]
  unfold numsI
  cases badN l.1 r.1 true <;> cases badN l.2.1 r.2.1 true <;> cases badN l.2.2 r.2.2 true <;> rfl

/-! one container -/
section
variable {ns : List (List UInt8)} {ps : List Int} {c : Ctr} {a b : Int} {x : Int × List (List UInt8)}
abbrev imgE (c : Ctr) : Er := erNew (saysV (tparts c.image).2.2 33) [[105, 109, 97, 103, 101]]
theorem one_1 (h : nameE ns c.name = some x) : ctrE ns ps c a b = some x := by unfold ctrE; rw [h]; rfl
theorem one_2 (h1 : nameE ns c.name = none) (h : imgE c = some x) : ctrE ns ps c a b = some x := by unfold ctrE; rw [h1]; show firstE [imgE c, _, _, _, _] = _; rw [h]; rfl
theorem one_3 (h1 : nameE ns c.name = none) (h2 : imgE c = none) (h : reqE c.req = some x) : ctrE ns ps c a b = some x := by unfold ctrE; rw [h1]; show firstE [imgE c, _, _, _, _] = _; rw [h2, h]; rfl
theorem one_4 (h1 : nameE ns c.name = none) (h2 : imgE c = none) (h3 : reqE c.req = none) (h : limE c.lim c.req = some x) : ctrE ns ps c a b = some x := by unfold ctrE; rw [h1]; show firstE [imgE c, _, _, _, _] = _; rw [h2, h3, h]; rfl
theorem one_5 (h1 : nameE ns c.name = none) (h2 : imgE c = none) (h3 : reqE c.req = none) (h4 : limE c.lim c.req = none) (h : portE ps c.ports a = some x) : ctrE ns ps c a b = some x := by unfold ctrE; rw [h1]; show firstE [imgE c, _, _, _, _] = _; rw [h2, h3, h4, h]; rfl
theorem one_6 (h1 : nameE ns c.name = none) (h2 : imgE c = none) (h3 : reqE c.req = none) (h4 : limE c.lim c.req = none) (h5 : portE ps c.ports a = none) : ctrE ns ps c a b = probeE c.probe b := by unfold ctrE; rw [h1]; show firstE [imgE c, _, _, _, _] = _; rw [h2, h3, h4, h5]; show firstE [probeE c.probe b] = _; cases probeE c.probe b <;> rfl
theorem nameE_bad (h : nameV c.name = false) : nameE ns c.name = some (30, [nameN]) := by
  unfold nameE; rw [if_neg (by rw [h]; simp [saysV, erNew]), h]; rfl
theorem nameE_there (h : nameV c.name = true) (h' : c.name ∈ ns) : nameE ns c.name = some (7, [nameN]) := by
  unfold nameE; rw [if_pos ⟨by rw [h]; rfl, h'⟩]
theorem nameE_ok (h : nameV c.name = true) (h' : c.name ∉ ns) : nameE ns c.name = none := nameE_in (by rw [h]; rfl) h'
theorem probe_every {p : Int × Int} {every : Int} (h : p.1 < 0 ∨ every < p.1) : probeE p every = some (1, [[112, 114, 111, 98, 101], [101, 118, 101, 114, 121]]) := by
  unfold probeE; rw [show withinE [101, 118, 101, 114, 121] p.1 0 every = some (1, [[101, 118, 101, 114, 121]]) by unfold withinE; rw [if_pos h]]; rfl
theorem probe_rest {p : Int × Int} {every : Int} (h : ¬ (p.1 < 0 ∨ every < p.1)) : probeE p every = if (p.1 = 0 ∧ p.2 ≠ 0) ∨ (p.1 ≠ 0 ∧ (p.2 < 1 ∨ 10 < p.2)) then some (1, [[112, 114, 111, 98, 101], [102, 97, 105, 108, 115]]) else none := by
  unfold probeE; rw [show withinE [101, 118, 101, 114, 121] p.1 0 every = none by unfold withinE; rw [if_neg h]]
  by_cases h0 : p.1 = 0
  · simp only [h0, if_true]
    by_cases h2 : p.2 = 0
    · rw [h2, if_neg (by simp)]; rfl
    · rw [if_pos (.inl ⟨trivial, h2⟩), show withinE [102, 97, 105, 108, 115] p.2 0 0 = some (1, [[102, 97, 105, 108, 115]]) by unfold withinE; rw [if_pos (by omega)]]; rfl
  · simp only [h0, if_false]
    by_cases h2 : p.2 < 1 ∨ 10 < p.2
    · rw [if_pos (.inr ⟨h0, h2⟩), show withinE [102, 97, 105, 108, 115] p.2 1 10 = some (1, [[102, 97, 105, 108, 115]]) by unfold withinE; rw [if_pos h2]]; rfl
    · rw [if_neg (fun hh => hh.elim (fun k => k.1.elim) fun k => h2 k.2), show withinE [102, 97, 105, 108, 115] p.2 1 10 = none by unfold withinE; rw [if_neg h2]]; rfl
end
/-- A code and a path, as values. -/
abbrev cpAV (e : Er) : AV := .tup [.int .i64 (erCode e), .S (erText e)]
theorem cp_some {e : Er} {c : Int} {ps : List (List UInt8)} {t : List UInt8} (h : e = some (c, ps)) (ht : t = Lib.join ps [46]) : AV.tup [.int .i64 c, .S t] = cpAV e := by subst h; subst ht; rfl
theorem cp_none {e : Er} (h : e = none) : AV.tup [.int .i64 0, .S []] = cpAV e := by subst h; rfl
end Go.AL

/-
The document's codes and paths of specs: one label, one port.
Conditions: none; no program is in sight.
-/
set_option linter.unusedVariables false
set_option linter.unusedSimpArgs false
namespace Go.AL
open Go.RowKit Go.NumSpec
theorem atT_len {name : List UInt8} (h : name.length ≤ 1000000) {i : Int} (hi : fits i) : (atT name i).length ≤ 1000100 := by
  have := textL_len hi
  unfold atT
  simp only [List.length_append, List.length_cons, List.length_nil]
  omega
theorem u8_lt (a b : UInt8) : a < b ↔ a.toNat < b.toNat := UInt8.lt_iff_toNat_lt
theorem bytesLess_ge : ∀ {a b : List UInt8}, Op.bytesLess b a = false → Op.bytesLess a b = true ∨ a = b
  | [], [], _ => .inr rfl
  | [], _ :: _, _ => .inl rfl
  | _ :: _, [], h => by cases h
  | x :: a, y :: b, h => by
    unfold Op.bytesLess at h ⊢
    simp only [Bool.or_eq_false_iff, decide_eq_false_iff_not, Bool.and_eq_false_iff, beq_eq_false_iff_ne, ne_eq] at h
    simp only [Bool.or_eq_true, decide_eq_true_eq, Bool.and_eq_true, beq_iff_eq, List.cons.injEq]
    obtain ⟨h1, h2⟩ := h
    rw [u8_lt] at h1
    by_cases hxy : x = y
    · subst hxy
      rcases h2 with h2 | h2
      · exact absurd rfl h2
      · rcases bytesLess_ge h2 with k | k
        · exact .inl (.inr ⟨rfl, k⟩)
        · exact .inr ⟨rfl, k⟩
    · have : x.toNat ≠ y.toNat := fun e => hxy (UInt8.toNat_inj.1 e)
      exact .inl (.inl (by rw [u8_lt]; omega))
theorem bytesLess_lt : ∀ {a b : List UInt8}, Op.bytesLess b a = true → Op.bytesLess a b = false ∧ a ≠ b
  | [], b, h => by cases b <;> simp [Op.bytesLess] at h
  | _ :: _, [], _ => ⟨rfl, by simp⟩
  | x :: a, y :: b, h => by
    unfold Op.bytesLess at h ⊢
    simp only [Bool.or_eq_true, decide_eq_true_eq, Bool.and_eq_true, beq_iff_eq] at h
    simp only [Bool.or_eq_false_iff, decide_eq_false_iff_not, Bool.and_eq_false_iff, beq_eq_false_iff_ne, ne_eq, List.cons.injEq, not_and]
    rcases h with h | ⟨h1, h2⟩
    · rw [u8_lt] at h
      refine ⟨⟨by rw [u8_lt]; omega, .inl fun e => by subst e; omega⟩, fun e => by subst e; omega⟩
    · subst h1
      obtain ⟨k1, k2⟩ := bytesLess_lt h2
      exact ⟨⟨by rw [u8_lt]; omega, .inr k1⟩, fun _ => k2⟩
section
variable {P : Program} {N : Nat} {env : Env} {st : St} {o : Oper}
theorem S_geS {t t2 : TypeId} {x y : Operand} {l m : List UInt8} (ho : o.op = .binOp .geq t x y t2) (hx : AEv env x (.S l)) (hy : AEv env y (.S m)) : PStep P N o env st (.bool (!Op.bytesLess l m)) :=
  S_bin ho hx hy rfl fun w => by simp only [binOp, Op.stringOp, toList_S]; rfl
end
section
variable {l : List Lab} {i : Nat} {name : List UInt8}
theorem getD_lab (h : i < l.length) : l.getD i ([], []) = l[i] := by rw [List.getD_eq_getElem?_getD, List.getElem?_eq_getElem h]; rfl
theorem label_ok (h : i < l.length) (h1 : namesR 2 (l[i]'h).1 = true) (h2 : ∀ h : 0 < i, Op.bytesLess (l[i - 1]'(by omega)).1 (l[i]'(by omega)).1 = true) (h3 : valV (l[i]'h).2 = true) : labelE name l i = none := by
  have hk : keyE l i = none := by
    unfold keyE
    rw [getD_lab h, if_neg]
    · rw [h1]; rfl
    · rintro ⟨_, k1, k2⟩
      rw [getD_lab (show i - 1 < l.length by omega)] at k2
      obtain ⟨q1, q2⟩ := bytesLess_lt (h2 k1)
      rw [q1] at k2
      simp at k2
      exact q2 k2
  unfold labelE
  rw [hk, getD_lab h, h3]; rfl
theorem label_key (h : i < l.length) (h1 : namesR 2 (l[i]'h).1 = false) : labelE name l i = some (31, [atT name (i : Int), [107, 101, 121]]) := by
  have hk : keyE l i = some (31, [[107, 101, 121]]) := by
    unfold keyE
    rw [getD_lab h, if_neg (by rw [h1]; rintro ⟨k, _⟩; cases k), h1]; rfl
  unfold labelE
  rw [hk]; rfl
theorem label_order (h : i < l.length) (h1 : namesR 2 (l[i]'h).1 = true) (h0 : 0 < i) (h2 : Op.bytesLess (l[i - 1]'(by omega)).1 (l[i]'h).1 = false) : labelE name l i = some (4, [atT name (i : Int), [107, 101, 121]]) := by
  have hk : keyE l i = some (4, [[107, 101, 121]]) := by
    unfold keyE
    rw [getD_lab h, getD_lab (show i - 1 < l.length by omega), if_pos]
    refine ⟨by rw [h1]; rfl, h0, ?_⟩
    rcases bytesLess_ge h2 with k | k
    · rw [k]; rfl
    · rw [k]; simp
  unfold labelE
  rw [hk]; rfl
theorem label_val (h : i < l.length) (h1 : namesR 2 (l[i]'h).1 = true) (h2 : ∀ h : 0 < i, Op.bytesLess (l[i - 1]'(by omega)).1 (l[i]'(by omega)).1 = true) (h3 : valV (l[i]'h).2 = false) : labelE name l i = some (32, [atT name (i : Int), [118, 97, 108]]) := by
  have hk : keyE l i = none := by
    unfold keyE
    rw [getD_lab h, if_neg]
    · rw [h1]; rfl
    · rintro ⟨_, k1, k2⟩
      rw [getD_lab (show i - 1 < l.length by omega)] at k2
      obtain ⟨q1, q2⟩ := bytesLess_lt (h2 k1)
      rw [q1] at k2
      simp at k2
      exact q2 k2
  unfold labelE
  rw [hk, getD_lab h, h3]; rfl
end
section
variable {ps l : List Int} {i : Nat} {n : Int}
theorem getD_port (h : i < l.length) : l.getD i 0 = l[i] := by rw [List.getD_eq_getElem?_getD, List.getElem?_eq_getElem h]; rfl
theorem portAt_ok (h : i < l.length) (h1 : 1 ≤ l[i] ∧ l[i] ≤ 65535) (h2 : l[i] ∉ ps ++ l.take i) : portAt ps l i = none :=
  portAt_in (by unfold withinE; rw [getD_port h, if_neg (by omega)]) (by rw [getD_port h]; exact h2)
theorem portAt_range (h : i < l.length) (h1 : l[i] < 1 ∨ 65535 < l[i]) : portAt ps l i = some (1, [atT portsN (i : Int)]) := by
  unfold portAt
  rw [getD_port h, show withinE (atT portsN (i : Int)) l[i] 1 65535 = some (1, [atT portsN (i : Int)]) by unfold withinE; rw [if_pos h1], if_neg (by rintro ⟨k, _⟩; cases k)]
theorem portAt_there (h : i < l.length) (h1 : 1 ≤ l[i] ∧ l[i] ≤ 65535) (h2 : l[i] ∈ ps ++ l.take i) : portAt ps l i = some (150, [atT portsN (i : Int)]) := by
  unfold portAt
  rw [getD_port h, show withinE (atT portsN (i : Int)) l[i] 1 65535 = none by unfold withinE; rw [if_neg (by omega)], if_pos ⟨rfl, h2⟩]
theorem port_many (h : n < (l.length : Int)) : portE ps l n = some (2, [portsN]) := by
  rw [portE_bad (by unfold atMostE; rw [if_pos (.inr h)]; simp)]; unfold atMostE; rw [if_pos (.inr h)]
theorem port_at (hm : atMostE portsN (l.length : Int) 0 n = none) (h : i < l.length) {x : Int × List (List UInt8)} (hx : portAt ps l i = some x) (hn : ∀ j, j < i → portAt ps l j = none) : portE ps l n = some x := by rw [portE_good hm, eachE_at h hx hn]
end
theorem num_text (a : List UInt8) {k : Nat} (h : k < numN.length) : (a ++ [46]) ++ numN[k] = a ++ [46] ++ numN.getD k [] := by
  rw [List.getD_eq_getElem?_getD, List.getElem?_eq_getElem h]; rfl
theorem num_len {k : Nat} (h : k < numN.length) : (numN[k]'h).length ≤ 4 := by
  match k, h with
  | 0, _ => exact Nat.le_of_ble_eq_true rfl
  | 1, _ => exact Nat.le_of_ble_eq_true rfl
  | 2, _ => exact Nat.le_of_ble_eq_true rfl
end Go.AL
namespace Go.AL
open Go.RowKit Go.NumSpec
theorem seen_names (a b : List Ctr) (i : Nat) : namesTo (namesTo [] a a.length) b i = (a ++ b.take i).map Ctr.name := by
  unfold namesTo; rw [List.take_length, List.map_append]; rfl
theorem seen_ports (a b : List Ctr) (i : Nat) : portsTo (portsTo [] a a.length) b i = (a ++ b.take i).flatMap Ctr.ports := by
  unfold portsTo; rw [List.take_length, List.flatMap_append]; rfl
theorem names_init (a : List Ctr) (i : Nat) : namesTo [] a i = (a.take i).map Ctr.name := rfl
theorem ports_init (a : List Ctr) (i : Nat) : portsTo [] a i = (a.take i).flatMap Ctr.ports := rfl
theorem firstE_hd {x : Int × List (List UInt8)} {es : List Er} {e : Er} (h : e = some x) : firstE (e :: es) = some x := by subst h; rfl
theorem firstE_tl {es : List Er} {e : Er} (h : e = none) : firstE (e :: es) = firstE es := by subst h; rfl
theorem cp_in {e f : Er} {p t : List UInt8} (hw : WellE f) (hn : f ≠ none) (h : e = erIn f p) (ht : t = p ++ [46] ++ erText f) : AV.tup [.int .i64 (erCode f), .S t] = cpAV e := by
  subst h
  rw [ht, ← hw.text_in p hn]
  cases f with
  | none => exact absurd rfl hn
  | some x => rfl
theorem erText_len {e : Er} {n : Nat} (h : ∀ c ps, e = some (c, ps) → (Lib.join ps [46]).length ≤ n) : (erText e).length ≤ n := by
  cases e with
  | none => simp [erText, erPath, Lib.join_nil]
  | some x => obtain ⟨c, ps⟩ := x; exact h c ps rfl
end Go.AL
namespace Go.AL
open Go.RowKit Go.NumSpec
/-- A path whose text has so many bytes at most. -/
def ShortE (n : Nat) (e : Er) : Prop := ∀ c ps, e = some (c, ps) → (Lib.join ps [46]).length ≤ n
theorem short_none (n : Nat) : ShortE n none := fun c ps h => by cases h
theorem short_one {n : Nat} {c : Int} {p : List UInt8} (h : p.length ≤ n) : ShortE n (some (c, [p])) := fun d qs e => by cases e; rw [Lib.join_one]; exact h
theorem short_new {n : Nat} {c : Int} {p : List UInt8} (h : p.length ≤ n) : ShortE n (erNew c [p]) := by
  unfold erNew; split
  · exact short_none n
  · exact short_one h
theorem ShortE.mono {n m : Nat} {e : Er} (h : ShortE n e) (k : n ≤ m) : ShortE m e := fun c ps he => Nat.le_trans (h c ps he) k
theorem short_in {n : Nat} {e : Er} (h : ShortE n e) (p : List UInt8) : ShortE (p.length + 1 + n) (erIn e p) := by
  cases e with
  | none => exact short_none _
  | some x =>
    obtain ⟨c, ps⟩ := x
    intro d qs he
    cases he
    by_cases hp : ps = []
    · subst hp; rw [Lib.join_one]; omega
    · rw [join_more p hp]
      have := h c ps rfl
      simp only [List.length_append, List.length_cons, List.length_nil]
      omega
theorem short_first {n : Nat} : ∀ {es : List Er}, (∀ e ∈ es, ShortE n e) → ShortE n (firstE es)
  | [], _ => short_none n
  | none :: es, h => short_first (es := es) fun e he => h e (List.mem_cons_of_mem _ he)
  | some x :: es, h => h (some x) List.mem_cons_self
theorem short_each {n k : Nat} {f : Nat → Er} (h : ∀ i, i < k → ShortE n (f i)) : ShortE n (eachE k f) := short_first fun e he => by
  obtain ⟨i, hi, rfl⟩ := List.mem_map.1 he
  exact h i (List.mem_range.1 hi)
theorem short_within {name : List UInt8} {n : Nat} (h : name.length ≤ n) (a lo hi : Int) : ShortE n (withinE name a lo hi) := by
  unfold withinE; split
  · exact short_one h
  · exact short_none _
theorem short_atMost {name : List UInt8} {n : Nat} (h : name.length ≤ n) (a lo hi : Int) : ShortE n (atMostE name a lo hi) := by
  unfold atMostE; split
  · exact short_one h
  · exact short_none _
theorem short_most {name : List UInt8} {n : Nat} (h : name.length ≤ n) (a lo : Int) : ShortE n (mostE name a lo) := by
  unfold mostE; split
  · exact short_none _
  · exact short_within h _ _ _
theorem short_name {n : Nat} (h : 4 ≤ n) (ns : List (List UInt8)) (s : List UInt8) : ShortE n (nameE ns s) := by
  unfold nameE; split
  · exact short_one h
  · exact short_new h
theorem short_req (r : Tri) : ShortE 8 (reqE r) := short_in (p := [114, 101, 113]) (short_first (n := 4) (by
  intro e he; simp only [List.mem_cons, List.not_mem_nil, or_false] at he
  rcases he with rfl | rfl | rfl <;> exact short_within (by decide) _ _ _))
theorem short_lim (l r : Tri) : ShortE 8 (limE l r) := short_in (p := [108, 105, 109]) (short_first (n := 4) (by
  intro e he; simp only [List.mem_cons, List.not_mem_nil, or_false] at he
  rcases he with rfl | rfl | rfl <;> exact short_most (by decide) _ _))
theorem short_probe (p : Int × Int) (every : Int) : ShortE 11 (probeE p every) := short_in (p := [112, 114, 111, 98, 101]) (short_first (n := 5) (by
  intro e he; simp only [List.mem_cons, List.not_mem_nil, or_false] at he
  rcases he with rfl | rfl <;> exact short_within (by decide) _ _ _))
theorem at_short {name : List UInt8} (h : name.length ≤ 100) {i n : Nat} (hi : i < n) (hn : n ≤ 1000000) : (atT name (i : Int)).length ≤ 200 := by
  have := textL_len (a := (i : Int)) (by unfold fits; omega)
  unfold atT
  simp only [List.length_append, List.length_cons, List.length_nil]
  omega
theorem short_port {ps l : List Int} {n : Int} (hl : l.length ≤ 1000000) : ShortE 200 (portE ps l n) := by
  cases ha : atMostE portsN (l.length : Int) 0 n with
  | some x => rw [portE_bad (by rw [ha]; simp)]; exact short_atMost (by decide) _ _ _
  | none =>
    rw [portE_good ha]
    refine short_each fun i hi => ?_
    have := at_short (name := portsN) (by decide) hi hl
    unfold portAt; split
    · exact short_one this
    · exact short_within this _ _ _
theorem short_ctr {ns : List (List UInt8)} {ps : List Int} {c : Ctr} {a b : Int} (hl : c.ports.length ≤ 1000000) : ShortE 200 (ctrE ns ps c a b) := short_first (by
  intro e he; simp only [List.mem_cons, List.not_mem_nil, or_false] at he
  rcases he with rfl | rfl | rfl | rfl | rfl | rfl
  · exact short_name (by decide) _ _
  · exact short_new (by decide)
  · exact (short_req _).mono (by decide)
  · exact (short_lim _ _).mono (by decide)
  · exact short_port hl
  · exact (short_probe _ _).mono (by decide))
theorem ShortE.text {n : Nat} {e : Er} (h : ShortE n e) : (erText e).length ≤ n := erText_len h
theorem short_ctrs {name : List UInt8} {ns : List (List UInt8)} {ps : List Int} {l : List Ctr} {a b : Int} (hn : name.length ≤ 100) (hl : l.length ≤ 1000000) (hp : ∀ c ∈ l, c.ports.length ≤ 1000000) : ShortE 500 (ctrsE name ns ps l a b) := short_each fun i hi => by
  rw [ctrAt_at hi]
  have h1 := at_short (name := name) (by omega) hi hl
  exact (short_in (short_ctr (hp _ (List.getElem_mem hi))) _).mono (by omega)
theorem short_label {name : List UInt8} {l : List Lab} {i : Nat} (h : (atT name (i : Int)).length ≤ 200) : ShortE 210 (labelE name l i) := (short_in (n := 3) (short_first (by
  intro e he; simp only [List.mem_cons, List.not_mem_nil, or_false] at he
  rcases he with rfl | rfl
  · unfold keyE; split
    · exact short_one (by decide)
    · exact short_new (by decide)
  · exact short_new (by decide))) _).mono (by omega)
theorem short_labels {name : List UInt8} {l : List Lab} (hn : name.length ≤ 100) (hl : l.length ≤ 1000000) : ShortE 210 (labelsE name l) := by
  cases ha : atMostE name (l.length : Int) 0 4 with
  | some x => rw [labelsE_bad (by rw [ha]; simp)]; exact short_atMost (by omega) _ _ _
  | none => rw [labelsE_good ha]; exact short_each fun i hi => short_label (at_short hn hi hl)
theorem short_check {s : Spc} (h1 : s.labels.length ≤ 1000000) (h2 : s.init.length ≤ 1000000) (h3 : s.main.length ≤ 1000000) (h4 : ∀ c ∈ s.init, c.ports.length ≤ 1000000) (h5 : ∀ c ∈ s.main, c.ports.length ≤ 1000000) : ShortE 500 (checkE s) := by
  unfold checkE
  split
  · rename_i x h; rw [← h]
    refine short_first fun e he => ?_
    simp only [List.mem_cons, List.not_mem_nil, or_false] at he
    rcases he with rfl | rfl | rfl
    · exact short_new (by decide)
    · exact (short_labels (by decide) h1).mono (by decide)
    · exact short_atMost (by decide) _ _ _
  · split
    · rename_i x h; rw [← h]
      refine short_first fun e he => ?_
      simp only [List.mem_cons, List.not_mem_nil, or_false] at he
      rcases he with rfl | rfl
      · exact short_ctrs (by decide) h2 h4
      · exact short_atMost (by decide) _ _ _
    · refine short_first fun e he => ?_
      simp only [List.mem_cons, List.not_mem_nil, or_false] at he
      rcases he with rfl | rfl | rfl | rfl
      · exact short_ctrs (by decide) h3 h5
      · exact short_within (by decide) _ _ _
      · exact short_within (by decide) _ _ _
      · exact short_within (by decide) _ _ _
theorem join_count (l : List (List UInt8)) : l.length ≤ (Lib.join l [46]).length + 1 := by
  cases l with
  | nil => simp
  | cons x r => rw [Lib.join_length]; simp only [List.length_cons, List.length_nil]; omega
theorem ShortE.path {n : Nat} {e : Er} (h : ShortE n e) : (erPath e).length ≤ n + 1 := by
  cases e with
  | none => simp [erPath]
  | some x => obtain ⟨c, ps⟩ := x; have h1 := h c ps rfl; have h2 := join_count ps; show ps.length ≤ _; omega
end Go.AL
namespace Go.AL
open Go.RowKit Go.NumSpec
abbrev onlyL (l : List Lab) : Spc := ⟨[], l, [], [], 0, 0, 0⟩
theorem onlyL_light {l : List Lab} (h : lightS (onlyL l) = true) : l.length ≤ 10 ∧ ∀ x ∈ l, x.1.length ≤ 100 ∧ x.2.length ≤ 100 := by
  obtain ⟨⟨_, h2, _⟩, h5, _⟩ := light_out h
  refine ⟨h2, fun x hx => ?_⟩
  have := h5 x hx
  unfold lightL at this
  exact of_decide_eq_true this
theorem two_light {l : List Lab} {k : Nat} (h : lightS (onlyL (l.take k)) = true) (h' : lightS (onlyL (l.drop k)) = true) : ∀ x ∈ l, x.1.length ≤ 1000000 ∧ x.2.length ≤ 1000000 := fun x hx => by
  rw [← List.take_append_drop k l] at hx
  rcases List.mem_append.1 hx with hx | hx
  · have := (onlyL_light h).2 x hx; omega
  · have := (onlyL_light h').2 x hx; omega
theorem check_short {s : Spc} (h : lightS s = true) : ShortE 500 (checkE s) := by
  obtain ⟨⟨h1, h2, h3, h4⟩, h5, h6, h7⟩ := light_out h
  exact short_check (by omega) (by omega) (by omega) (fun c hc => by have := (of_decide_eq_true (h6 c hc)).2.2; omega) fun c hc => by have := (of_decide_eq_true (h7 c hc)).2.2; omega
end Go.AL

/-
When lists, containers and specs are the same.
Conditions: none; no program is in sight.
-/
set_option linter.unusedVariables false
set_option linter.unusedSimpArgs false
namespace Go.AL
open Go.RowKit Go.NumSpec
section
variable {α : Type} {f : α → α → Bool}
theorem sameL_take_succ : ∀ {a b : List α} {i : Nat} (h : i < a.length) (h' : i < b.length), sameL f (a.take (i + 1)) (b.take (i + 1)) = (sameL f (a.take i) (b.take i) && f (a[i]'h) (b[i]'h'))
  | x :: a, y :: b, 0, _, _ => by simp [sameL]
  | x :: a, y :: b, i + 1, h, h' => by
    simp only [List.take_succ_cons, sameL, List.getElem_cons_succ]
    have := sameL_take_succ (a := a) (b := b) (i := i) (by simpa using h) (by simpa using h')
    rw [this, Bool.and_assoc]
theorem sameL_take : ∀ {a b : List α} {i : Nat}, sameL f a b = true → sameL f (a.take i) (b.take i) = true
  | [], [], i, _ => by simp [sameL]
  | x :: a, y :: b, 0, _ => rfl
  | x :: a, y :: b, i + 1, h => by
    simp only [sameL, Bool.and_eq_true] at h
    simp only [List.take_succ_cons, sameL, Bool.and_eq_true]
    exact ⟨h.1, sameL_take h.2⟩
  | [], y :: b, i, h => by cases h
  | x :: a, [], i, h => by cases h
/-- As far as one has looked. -/
def sameP (f : α → α → Bool) (a b : List α) (i : Nat) : Bool := decide (a.length = b.length) && sameL f (a.take i) (b.take i)
theorem sameP_zero (a b : List α) : sameP f a b 0 = decide (a.length = b.length) := by simp [sameP, sameL]
theorem sameP_next {a b : List α} {i : Nat} (h : sameP f a b i = true) (h1 : i < a.length) (h2 : i < b.length) : sameP f a b (i + 1) = f (a[i]'h1) (b[i]'h2) := by
  unfold sameP at h ⊢
  simp only [Bool.and_eq_true] at h
  rw [sameL_take_succ h1 h2, h.1, h.2, Bool.true_and, Bool.true_and]
theorem sameP_end {a b : List α} {i : Nat} (h : sameP f a b i = false ∨ a.length ≤ i ∨ b.length ≤ i) : sameP f a b i = sameL f a b := by
  by_cases hs : sameP f a b i = true
  · have hs' := hs
    unfold sameP at hs'
    simp only [Bool.and_eq_true, decide_eq_true_eq] at hs'
    rcases h with h | h
    · rw [hs] at h; cases h
    · rw [List.take_of_length_le (by omega), List.take_of_length_le (by omega)] at hs'
      rw [hs, hs'.2]
  · have hs : sameP f a b i = false := by simpa using hs
    rw [hs]
    unfold sameP at hs
    simp only [Bool.and_eq_false_iff, decide_eq_false_iff_not] at hs
    rcases hs with hs | hs
    · exact (sameL_len hs).symm
    · cases hx : sameL f a b with
      | false => rfl
      | true => rw [sameL_take hx] at hs; cases hs
end
def sameS (a b : Spc) : Bool := decide (a.name = b.name) && decide (a.labels = b.labels) && sameL exactC a.init b.init && sameL exactC a.main b.main && decide (a.restart = b.restart) && decide (a.grace = b.grace) && decide (a.prio = b.prio)
theorem sameS_iff {a b : Spc} : sameS a b = true ↔ a = b := by
  cases a; cases b
  simp only [sameS, Bool.and_eq_true, decide_eq_true_eq, Spc.mk.injEq, sameL_iff (fun a b => exactC_iff)]
  constructor
  · rintro ⟨⟨⟨⟨⟨⟨h1, h2⟩, h3⟩, h4⟩, h5⟩, h6⟩, h7⟩; exact ⟨h1, h2, h3, h4, h5, h6, h7⟩
  · rintro ⟨h1, h2, h3, h4, h5, h6, h7⟩; exact ⟨⟨⟨⟨⟨⟨h1, h2⟩, h3⟩, h4⟩, h5⟩, h6⟩, h7⟩
theorem sameS_refl (a : Spc) : sameS a a = true := sameS_iff.2 rfl
theorem exactC_order (a b : Ctr) : (decide (a.name = b.name) && (decide (a.image = b.image)) && decide (a.req = b.req) && decide (a.lim = b.lim) && decide (a.ports = b.ports) && decide (a.probe = b.probe)) = exactC a b := by
  rw [Bool.eq_iff_iff, exactC_iff]
  cases a; cases b
  simp only [Bool.and_eq_true, decide_eq_true_eq, Ctr.mk.injEq]
  constructor
  · rintro ⟨⟨⟨⟨⟨h1, h2⟩, h3⟩, h4⟩, h5⟩, h6⟩; exact ⟨h1, h2, h3, h4, h5, h6⟩
  · rintro ⟨h1, h2, h3, h4, h5, h6⟩; exact ⟨⟨⟨⟨⟨h1, h2⟩, h3⟩, h4⟩, h5⟩, h6⟩
end Go.AL
namespace Go.AL
open Go.RowKit Go.NumSpec
/-- No list of it is too long to be walked. -/
def shortS (s : Spc) : Prop := s.labels.length ≤ 1000000 ∧ s.init.length ≤ 1000000 ∧ s.main.length ≤ 1000000 ∧ (∀ c ∈ s.init, c.ports.length ≤ 1000000) ∧ ∀ c ∈ s.main, c.ports.length ≤ 1000000
theorem light_short {s : Spc} (h : lightS s = true) : shortS s := by
  obtain ⟨⟨h1, h2, h3, h4⟩, h5, h6, h7⟩ := light_out h
  exact ⟨by omega, by omega, by omega, fun c hc => by have := (of_decide_eq_true (h6 c hc)).2.2; omega, fun c hc => by have := (of_decide_eq_true (h7 c hc)).2.2; omega⟩
end Go.AL

/-
What the walks of layer 4 come to: values written as bytes, and read again.
Conditions: none; no program is in sight.
-/
set_option linter.unusedVariables false
set_option linter.unusedSimpArgs false
namespace Go.AL
open Go.NumSpec

theorem Le_buf {q : Buf} {l : List UInt8} (h : q.ok l) : Le (bufAV q l) (.sl (bytesV l)) := by
  cases q with
  | nil => have : l = [] := h; subst this; exact Le.nils
  | «at» b cap => exact Le.row _ _ _ _
def failC (c d : Int) : Int := if c = 0 then d else c
def wput (c : Int) (l s : List UInt8) : List UInt8 := if c = 0 then l ++ s else l
theorem wput_zero (l s : List UInt8) : wput 0 l s = l ++ s := rfl
theorem wput_err {c : Int} (h : c ≠ 0) (l s : List UInt8) : wput c l s = l := by rw [wput, if_neg h]
theorem wput_len (c : Int) (l s : List UInt8) : (wput c l s).length ≤ l.length + s.length := by unfold wput; split <;> simp
theorem wput_wput (c : Int) (l s t : List UInt8) : wput c (wput c l s) t = wput c l (s ++ t) := by unfold wput; split <;> simp
def lacksV (s : List UInt8) : Bool := (s.take 10).all (fun c => decide (128 ≤ c.toNat)) && decide (s.length < 10)
def bigR (s : List UInt8) (c : Int) : Nat × List UInt8 × Int := if c ≠ 0 then (0, s, c) else if lacksV s = true then (0, s, 40) else if (takeV s).2 = 0 then (0, s, 3) else ((takeV s).1, s.drop (takeV s).2, 0)
def numR (s : List UInt8) (c most : Int) : Int × List UInt8 × Int :=
  if (bigR s c).2.2 = 0 ∧ max most 0 < (bigR s c).1 then (0, s, 2) else if (bigR s c).2.2 ≠ 0 then (0, (bigR s c).2.1, (bigR s c).2.2) else ((bigR s c).1, (bigR s c).2.1, 0)
def wtextR (s : List UInt8) (c most : Int) : List UInt8 × List UInt8 × Int :=
  if (numR s c most).2.2 = 0 ∧ ((numR s c most).2.1.length : Int) < (numR s c most).1 then ([], (numR s c most).2.1, 40) else if (numR s c most).2.2 ≠ 0 then ([], (numR s c most).2.1, (numR s c most).2.2)
  else ((numR s c most).2.1.take (numR s c most).1.toNat, (numR s c most).2.1.drop (numR s c most).1.toNat, 0)
def boolR (s : List UInt8) (c : Int) : Bool × List UInt8 × Int :=
  if c ≠ 0 then (false, s, c) else match s with | [] => (false, [], 40) | x :: t => if 1 < x.toNat then (false, x :: t, 3) else (decide (x.toNat = 1), t, 0)
def endR (s : List UInt8) (c : Int) : Int := if s ≠ [] then failC c 3 else c
theorem bigR_lt (s : List UInt8) (c : Int) : (bigR s c).1 < 18446744073709551616 := by
  unfold bigR
  split
  · show 0 < _; omega
  · split
    · show 0 < _; omega
    · split
      · show 0 < _; omega
      · exact take_fits s
theorem bigR_len (s : List UInt8) (c : Int) : (bigR s c).2.1.length ≤ s.length := by
  unfold bigR
  split
  · exact Nat.le_refl _
  · split
    · exact Nat.le_refl _
    · split
      · exact Nat.le_refl _
      · simp
theorem numR_len (s : List UInt8) (c most : Int) : (numR s c most).2.1.length ≤ s.length := by
  have := bigR_len s c
  unfold numR
  split
  · exact Nat.le_refl _
  · split <;> exact this
theorem numR_nonneg (s : List UInt8) (c most : Int) : 0 ≤ (numR s c most).1 := by
  unfold numR
  split
  · show (0 : Int) ≤ 0; omega
  · split
    · show (0 : Int) ≤ 0; omega
    · exact Int.natCast_nonneg _
theorem numR_err {s : List UInt8} {c most : Int} (h : (numR s c most).2.2 ≠ 0) : (numR s c most).1 = 0 := by
  unfold numR at h ⊢
  split
  · rfl
  · rename_i h1
    rw [if_neg h1] at h
    split
    · rfl
    · rename_i h2
      rw [if_neg h2] at h
      exact absurd rfl h
theorem numR_le {s : List UInt8} {c most : Int} : (numR s c most).1 ≤ max most 0 := by
  unfold numR
  split
  · dsimp only; omega
  · rename_i h1
    split
    · dsimp only; omega
    · rename_i h2
      have : (bigR s c).2.2 = 0 := Decidable.of_not_not h2
      simp only [this, true_and] at h1
      dsimp only
      omega
theorem lacks_false {s : List UInt8} {k : Nat} (hk : k < s.length) (hk10 : k < 10) (h : (s.getD k 0).toNat < 128) : lacksV s = false := by
  unfold lacksV
  have hx : (s.take 10).all (fun c => decide (128 ≤ c.toNat)) = false := by
    rw [List.all_eq_false]
    refine ⟨s[k], ?_, ?_⟩
    · rw [List.mem_take_iff_getElem]
      exact ⟨k, by omega, rfl⟩
    · rw [List.getD_eq_getElem?_getD, List.getElem?_eq_getElem hk, Option.getD_some] at h
      simp; omega
  rw [hx]; rfl
theorem lacks_end {s : List UInt8} {k : Nat} (h : ∀ i : Nat, i < k → 128 ≤ (s.getD i 0).toNat) (hk : (k : Int) = min (s.length : Int) 10) : lacksV s = decide ((s.length : Int) < 10) := by
  unfold lacksV
  have hx : (s.take 10).all (fun c => decide (128 ≤ c.toNat)) = true := by
    rw [List.all_eq_true]
    intro x hx
    rw [List.mem_take_iff_getElem] at hx
    obtain ⟨i, hi, rfl⟩ := hx
    have := h i (by omega)
    rw [List.getD_eq_getElem?_getD, List.getElem?_eq_getElem (by omega), Option.getD_some] at this
    simp; omega
  rw [hx, Bool.true_and]
  exact decide_eq_decide.2 (by omega)
theorem bigR_err {s : List UInt8} {c : Int} (h : c ≠ 0) : bigR s c = (0, s, c) := by rw [bigR, if_pos h]
theorem bigR_lack {s : List UInt8} (h : lacksV s = true) : bigR s 0 = (0, s, 40) := by rw [bigR, if_neg (by simp), if_pos h]
theorem bigR_form {s : List UInt8} (h : lacksV s = false) (k : (takeV s).2 = 0) : bigR s 0 = (0, s, 3) := by rw [bigR, if_neg (by simp), if_neg (by simp [h]), if_pos k]
theorem bigR_ok {s : List UInt8} (h : lacksV s = false) (k : (takeV s).2 ≠ 0) : bigR s 0 = ((takeV s).1, s.drop (takeV s).2, 0) := by rw [bigR, if_neg (by simp), if_neg (by simp [h]), if_neg k]
theorem fail40 : failC 0 40 = 40 := rfl
theorem fail3 : failC 0 3 = 3 := rfl
theorem boolR_err {s : List UInt8} {c : Int} (h : c ≠ 0) : boolR s c = (false, s, c) := by unfold boolR; rw [if_pos h]
theorem boolR_form {x : UInt8} {t : List UInt8} (h : 1 < x.toNat) : boolR (x :: t) 0 = (false, x :: t, 3) := by
  show (if 1 < x.toNat then (false, x :: t, (3 : Int)) else (decide (x.toNat = 1), t, 0)) = _
  rw [if_pos h]
theorem boolR_ok {x : UInt8} {t : List UInt8} (h : ¬ 1 < x.toNat) : boolR (x :: t) 0 = (decide (x.toNat = 1), t, 0) := by
  show (if 1 < x.toNat then (false, x :: t, (3 : Int)) else (decide (x.toNat = 1), t, 0)) = _
  rw [if_neg h]
/-! What was written is read again -/
theorem form_big {l : List UInt8} {c : UInt8} (h : NumSpec.Form l c) : c.toNat < 128 := h.last
theorem lacks_put (n : Nat) (t : List UInt8) (hn : n < 18446744073709551616) : lacksV (putL n ++ t) = false := by
  have hp := putL_few n hn
  obtain ⟨l, c, h1, h2, h3⟩ := putL_form n
  have hc := form_big h2
  rw [h1] at hp ⊢
  simp only [List.length_append, List.length_singleton] at hp
  refine lacks_false (k := l.length) (by simp) (by omega) ?_
  simp [List.getD_eq_getElem?_getD]
  exact hc
theorem bigR_put (n : Nat) (t : List UInt8) (hn : n < 18446744073709551616) : bigR (putL n ++ t) 0 = (n, t, 0) := by
  have h := take_put n t hn
  have hp := putL_pos n
  rw [bigR_ok (lacks_put n t hn) (by rw [h]; dsimp only; omega), h]
  simp
theorem numR_put (n : Nat) (t : List UInt8) (most : Int) (hn : (n : Int) ≤ max most 0) (h63 : n < 18446744073709551616) : numR (putL n ++ t) 0 most = ((n : Int), t, 0) := by
  unfold numR
  rw [bigR_put n t h63]
  dsimp only
  rw [if_neg (by omega), if_neg (by simp)]
theorem wtextR_put (s t : List UInt8) (most : Int) (hn : (s.length : Int) ≤ max most 0) (h63 : s.length < 18446744073709551616) : wtextR (putL s.length ++ (s ++ t)) 0 most = (s, t, 0) := by
  unfold wtextR
  rw [numR_put s.length (s ++ t) most hn h63]
  dsimp only
  rw [if_neg (by simp; omega), if_neg (by simp)]
  simp
theorem boolR_put (b : Bool) (t : List UInt8) : boolR ((if b then 1 else 0) :: t) 0 = (b, t, 0) := by
  cases b <;> rfl
/-! The chapter's example -/
theorem works_w1 : (if (300 : Int) < 0 then ([] : List UInt8) else wput 0 [] (putL (300 : Int).toNat)) = [172, 2] := by
  rw [if_neg (by decide), show (300 : Int).toNat = 300 from rfl, works_put]; rfl
theorem works_w2 : wput 0 [172, 2] (putL ([104, 105] : List UInt8).length ++ [104, 105]) = [172, 2, 2, 104, 105] := by
  show wput 0 [172, 2] (putL 2 ++ [104, 105]) = _
  rw [putL_small (by decide)]; rfl
theorem works_r1 : numR [172, 2, 2, 104, 105, 1] 0 300 = (300, [2, 104, 105, 1], 0) := by
  have := numR_put 300 [2, 104, 105, 1] 300 (by decide) (by decide)
  rw [works_put] at this
  exact this
theorem works_r2 : wtextR [2, 104, 105, 1] 0 2 = ([104, 105], [1], 0) := by
  have := wtextR_put [104, 105] [1] 2 (by decide) (by decide)
  have e : putL ([104, 105] : List UInt8).length = [2] := by show putL 2 = _; rw [putL_small (by decide)]; rfl
  rw [e] at this
  exact this
theorem works_r3 : boolR [1] 0 = (true, [], 0) := rfl
/-! What is written -/
abbrev Act4 := Int × Int × Nat × List UInt8
abbrev actL (a : Act4) : List AV := [.int .i64 a.1, .int .i64 a.2.1, .int .u64 (a.2.2.1 : Int), .S a.2.2.2]
abbrev actAV (a : Act4) : AV := .agg (actL a)
def okA (a : Act4) : Prop := fits a.1 ∧ fits a.2.1 ∧ a.2.2.1 < 18446744073709551616 ∧ a.2.2.2.length ≤ 9223372036854775807
def actsL (l : List Act4) : List AV := l.map actAV
theorem actsL_len (l : List Act4) : (actsL l).length = l.length := by simp [actsL]
structure WG where
  i : Nat
  u : Bool
  q : Buf
  lw : List UInt8
  c : Int
  want : List UInt8
def WG.ok (g : WG) : Prop := g.q.ok g.lw ∧ (g.c = 0 → g.lw = g.want) ∧ g.lw.length ≤ 310 * g.i ∧ g.want.length ≤ 310 * g.i ∧ g.i ≤ 60
/-- Within a round: want is what was written in it. -/
def WG.mid (g : WG) (i : Nat) (want : List UInt8) : Prop := g.q.ok g.lw ∧ (g.c = 0 → g.lw = want ++ g.want) ∧ g.lw.length ≤ 310 * i + 310 ∧ g.want.length ≤ 310 ∧ g.i = i
theorem wput_mid {c : Int} {lw want s : List UInt8} (h : c = 0 → lw = want) : c = 0 → wput c lw s = want ++ s := fun hc => by subst hc; rw [wput_zero, h rfl]
/-! Written and read -/
def enc (a : Act4) : List UInt8 := if a.1 = 0 then putL (max a.2.1 0).toNat else if a.1 = 1 then putL a.2.2.1 else if a.1 = 2 then putL a.2.2.2.length ++ a.2.2.2 else [if decide (0 < a.2.1) then 1 else 0]
def encs (l : List Act4) : List UInt8 := l.flatMap enc
theorem encs_snoc {l : List Act4} {i : Nat} (h : i < l.length) : encs (l.take (i + 1)) = encs (l.take i) ++ enc l[i] := by
  rw [encs, List.take_succ_eq_append_getElem h, List.flatMap_append]
  simp only [List.flatMap_cons, List.flatMap_nil, List.append_nil]
  rfl
theorem encs_head {l : List Act4} {m j : Nat} (h : j < m) (hm : m ≤ l.length) : encs ((l.take m).drop j) = enc (l[j]'(by omega)) ++ encs ((l.take m).drop (j + 1)) := by
  rw [List.drop_eq_getElem_cons (by simp; omega)]
  simp [encs]
theorem enc_len {a : Act4} (h1 : fits a.2.1) (h2 : a.2.2.1 < 18446744073709551616) (h3 : a.2.2.2.length ≤ 300) : (enc a).length ≤ 310 := by
  unfold fits at h1
  have k1 := putL_few (max a.2.1 0).toNat (by omega)
  have k2 := putL_few a.2.2.1 h2
  have k3 := putL_few a.2.2.2.length (by omega)
  unfold enc
  split
  · omega
  · split
    · omega
    · split
      · simp; omega
      · simp
theorem encs_end {l : List Act4} {m j : Nat} (h : m ≤ j) : encs ((l.take m).drop j) = [] := by
  rw [List.drop_eq_nil_of_le (by simp; omega)]; rfl
/-! Just the bytes -/
theorem canon_big {s : List UInt8} (h : (bigR s 0).2.2 = 0) : s = putL (bigR s 0).1 ++ (bigR s 0).2.1 := by
  cases hl : lacksV s with
  | true => rw [bigR_lack hl] at h; exact absurd h (by show ¬ (40 : Int) = 0; decide)
  | false =>
    by_cases hk : (takeV s).2 = 0
    · rw [bigR_form hl hk] at h; exact absurd h (by show ¬ (3 : Int) = 0; decide)
    · rw [bigR_ok hl hk]
      rcases put_take s with h1 | ⟨h1, h2, h3, h4⟩
      · rw [h1] at hk; exact absurd rfl hk
      · dsimp only
        rw [h3, List.take_append_drop]
theorem canon_num {s : List UInt8} {most : Int} (h : (numR s 0 most).2.2 = 0) : s = putL (numR s 0 most).1.toNat ++ (numR s 0 most).2.1 := by
  unfold numR at h ⊢
  split at h
  · exact absurd h (by show ¬ (2 : Int) = 0; decide)
  · rename_i h1
    rw [if_neg h1]
    split at h
    · rename_i h2; exact absurd h h2
    · rename_i h2
      rw [if_neg h2]
      have := canon_big (s := s) (Decidable.of_not_not h2)
      simpa using this
theorem wtextR_ok {s : List UInt8} {c most : Int} (h : (wtextR s c most).2.2 = 0) : (numR s c most).2.2 = 0 ∧ (numR s c most).1 ≤ ((numR s c most).2.1.length : Int) ∧ wtextR s c most = ((numR s c most).2.1.take (numR s c most).1.toNat, (numR s c most).2.1.drop (numR s c most).1.toNat, 0) := by
  unfold wtextR at h ⊢
  split at h
  · exact absurd h (by show ¬ (40 : Int) = 0; decide)
  · rename_i h1
    rw [if_neg h1]
    split at h
    · rename_i h2; exact absurd h h2
    · rename_i h2
      rw [if_neg h2]
      have h3 := Decidable.of_not_not h2
      exact ⟨h3, by simp only [h3, true_and] at h1; omega, rfl⟩
theorem canon_text {s : List UInt8} {most : Int} (h : (wtextR s 0 most).2.2 = 0) : s = putL (wtextR s 0 most).1.length ++ ((wtextR s 0 most).1 ++ (wtextR s 0 most).2.1) := by
  obtain ⟨h1, h2, h3⟩ := wtextR_ok h
  have h4 := canon_num (most := most) h1
  have h5 := numR_nonneg s 0 most
  rw [h3]
  dsimp only
  rw [List.take_append_drop, List.length_take, show min (numR s 0 most).1.toNat (numR s 0 most).2.1.length = (numR s 0 most).1.toNat by omega]
  exact h4
theorem canon_bool {s : List UInt8} (h : (boolR s 0).2.2 = 0) : s = (if (boolR s 0).1 then 1 else 0) :: (boolR s 0).2.1 := by
  cases s with
  | nil => exact absurd h (by show ¬ (40 : Int) = 0; decide)
  | cons x t =>
    by_cases hx : 1 < x.toNat
    · rw [boolR_form hx] at h; exact absurd h (by show ¬ (3 : Int) = 0; decide)
    · rw [boolR_ok hx]
      dsimp only
      congr 1
      have : x.toNat = 0 ∨ x.toNat = 1 := by omega
      rcases this with h0 | h0
      · rw [h0]; exact UInt8.toNat_inj.1 h0
      · rw [h0]; exact UInt8.toNat_inj.1 h0
theorem wtextR_len (s : List UInt8) (c most : Int) : (wtextR s c most).1.length ≤ s.length := by
  have := numR_len s c most
  unfold wtextR
  split
  · simp
  · split
    · simp
    · simp; omega
theorem numR_errR {s : List UInt8} {c : Int} (h : c ≠ 0) (most : Int) : numR s c most = (0, s, c) := by
  unfold numR
  rw [bigR_err h]
  dsimp only
  rw [if_neg (fun k => h k.1), if_pos h]
theorem wtextR_errR {s : List UInt8} {c : Int} (h : c ≠ 0) (most : Int) : wtextR s c most = ([], s, c) := by
  unfold wtextR
  rw [numR_errR h]
  dsimp only
  rw [if_neg (fun k => h k.1), if_pos h]
structure CG where
  i : Nat
  u : Bool
  q : Buf
  lw : List UInt8
  s : List UInt8
  c : Int
end Go.AL

/-
Codecs: how values are written as bytes, and read again.
Conditions: none; no program is in sight.
-/
set_option linter.unusedVariables false
set_option linter.unusedSimpArgs false
namespace Go.AL
open Go.RowKit Go.NumSpec
abbrev Rd (α : Type) := List UInt8 → Int → α × List UInt8 × Int
structure Codec {α : Type} (f : Rd α) (e : α → List UInt8) (ok : α → Prop) : Prop where
  back : ∀ x t, ok x → f (e x ++ t) 0 = (x, t, 0)
  canon : ∀ s, (f s 0).2.2 = 0 → s = e (f s 0).1 ++ (f s 0).2.1 ∧ ok (f s 0).1
  err : ∀ s c, c ≠ 0 → (f s c).2.1 = s ∧ (f s c).2.2 = c
  cut : ∀ x p, ok x → p <+: e x → p.length < (e x).length → (f p 0).2.2 = 40
  len : ∀ s c, (f s c).2.1.length ≤ s.length
def numRd (most : Int) : Rd Int := fun s c => numR s c most
def textRd (most : Int) : Rd (List UInt8) := fun s c => wtextR s c most
def numB (n : Int) : List UInt8 := putL n.toNat
def textB (s : List UInt8) : List UInt8 := putL s.length ++ s
theorem lacks_cut {n : Nat} (hn : n < 18446744073709551616) {p : List UInt8} (hp : p <+: putL n) (hl : p.length < (putL n).length) : lacksV p = true := by
  obtain ⟨l, c, h1, h2, h3⟩ := putL_form n
  have hf := putL_few n hn
  have hm : ∀ x ∈ p, 128 ≤ x.toNat := by
    rw [h1] at hp hl hf
    simp only [List.length_append, List.length_singleton] at hl hf
    have hpl : p <+: l := by
      obtain ⟨t, ht⟩ := hp
      have := List.append_inj (s₁ := l.take p.length) (t₁ := l.drop p.length ++ [c]) (s₂ := p) (t₂ := t) (by rw [← List.append_assoc, List.take_append_drop]; exact ht.symm) (by rw [List.length_take]; omega)
      exact ⟨l.drop p.length, by rw [← this.1, List.length_take, show min p.length l.length = p.length by omega, List.take_append_drop]⟩
    exact fun x hx => h2.more x (hpl.subset hx)
  unfold lacksV
  rw [Bool.and_eq_true]
  refine ⟨List.all_eq_true.2 fun x hx => decide_eq_true (hm x (List.mem_of_mem_take hx)), decide_eq_true (by omega)⟩
theorem num_cut {n : Nat} (hn : n < 18446744073709551616) {p : List UInt8} {most : Int} (hp : p <+: putL n) (hl : p.length < (putL n).length) : numR p 0 most = (0, p, 40) := by
  unfold numR
  rw [bigR_lack (lacks_cut hn hp hl)]
  dsimp only
  rw [if_neg (by simp), if_pos (by decide)]
theorem numC {most : Int} (h0 : 0 ≤ most) (h63 : most ≤ 9223372036854775807) : Codec (numRd most) numB (fun n => 0 ≤ n ∧ n ≤ most) where
  back x t hx := by
    have := numR_put x.toNat t most (by omega) (by omega)
    unfold numRd numB; rw [this, Int.toNat_of_nonneg hx.1]
  canon s hs := ⟨canon_num (most := most) hs, numR_nonneg s 0 most, by have := numR_le (s := s) (c := 0) (most := most); unfold numRd; omega⟩
  err s c hc := by unfold numRd; rw [numR_errR hc]; exact ⟨rfl, rfl⟩
  cut x p hx hp hl := by unfold numRd; rw [num_cut (n := x.toNat) (by omega) hp hl]
  len s c := numR_len s c most
theorem wtextR_rest (s : List UInt8) (c most : Int) : (wtextR s c most).2.1.length ≤ s.length := by
  have := numR_len s c most
  unfold wtextR
  split
  · exact this
  · split
    · exact this
    · simp; omega
theorem textC {most : Int} (h0 : 0 ≤ most) (h63 : most ≤ 9223372036854775807) : Codec (textRd most) textB (fun s => (s.length : Int) ≤ most) where
  back x t hx := by
    unfold textRd textB; rw [List.append_assoc]
    exact wtextR_put x t most (by omega) (by omega)
  canon s hs := by
    have h1 := canon_text (most := most) hs
    obtain ⟨h2, h3, h4⟩ := wtextR_ok (s := s) (c := 0) (most := most) hs
    refine ⟨?_, ?_⟩
    · unfold textRd textB; rw [List.append_assoc]; exact h1
    · have h5 := numR_le (s := s) (c := 0) (most := most)
      have h6 := numR_nonneg s 0 most
      unfold textRd; rw [h4]; dsimp only; rw [List.length_take]; omega
  err s c hc := by unfold textRd; rw [wtextR_errR hc]; exact ⟨rfl, rfl⟩
  cut x p hx hp hl := by
    unfold textRd
    unfold textB at hp hl
    rw [List.length_append] at hl
    rcases Nat.lt_or_ge p.length (putL x.length).length with h | h
    · have hpp : p <+: putL x.length := List.prefix_of_prefix_length_le hp (List.prefix_append _ _) (by omega)
      unfold wtextR
      rw [num_cut (n := x.length) (by omega) hpp h]
      dsimp only
      rw [if_neg (by simp), if_pos (by decide)]
    · obtain ⟨q, hq⟩ := List.prefix_of_prefix_length_le (List.prefix_append (putL x.length) x) hp h
      have hql : q.length < x.length := by have := congrArg List.length hq; rw [List.length_append] at this; omega
      rw [← hq]
      unfold wtextR
      rw [numR_put x.length q most (by omega) (by omega)]
      dsimp only
      rw [if_pos ⟨rfl, by omega⟩]
  len s c := wtextR_rest s c most
def seqR {α β : Type} (f : Rd α) (g : Rd β) : Rd (α × β) := fun s c => (((f s c).1, (g (f s c).2.1 (f s c).2.2).1), (g (f s c).2.1 (f s c).2.2).2.1, (g (f s c).2.1 (f s c).2.2).2.2)
theorem seqC {α β : Type} {f : Rd α} {g : Rd β} {e : α → List UInt8} {d : β → List UInt8} {ok : α → Prop} {ok' : β → Prop} (hf : Codec f e ok) (hg : Codec g d ok') : Codec (seqR f g) (fun x => e x.1 ++ d x.2) (fun x => ok x.1 ∧ ok' x.2) where
  back x t hx := by
    unfold seqR
    rw [List.append_assoc, hf.back x.1 _ hx.1]
    dsimp only
    rw [hg.back x.2 t hx.2]
  canon s hs := by
    unfold seqR at hs ⊢
    dsimp only at hs ⊢
    by_cases hc : (f s 0).2.2 = 0
    · rw [hc] at hs ⊢
      obtain ⟨h1, h2⟩ := hf.canon s hc
      obtain ⟨h3, h4⟩ := hg.canon _ hs
      exact ⟨by conv => lhs; rw [h1, h3]
                simp, h2, h4⟩
    · have := (hg.err (f s 0).2.1 _ hc).2
      rw [this] at hs; exact absurd hs hc
  err s c hc := by
    unfold seqR
    dsimp only
    obtain ⟨h1, h2⟩ := hf.err s c hc
    rw [h1, h2]
    exact hg.err s c hc
  cut x p hx hp hl := by
    unfold seqR
    dsimp only
    rw [List.length_append] at hl
    rcases Nat.lt_or_ge p.length (e x.1).length with h | h
    · have hpp : p <+: e x.1 := List.prefix_of_prefix_length_le hp (List.prefix_append _ _) (by omega)
      have h1 := hf.cut x.1 p hx.1 hpp h
      rw [h1]
      exact (hg.err _ 40 (by decide)).2
    · obtain ⟨q, hq⟩ := List.prefix_of_prefix_length_le (List.prefix_append (e x.1) (d x.2)) hp h
      have hql : q.length < (d x.2).length := by have := congrArg List.length hq; rw [List.length_append] at this; omega
      rw [← hq] at hp ⊢
      rw [hf.back x.1 q hx.1]
      dsimp only
      exact hg.cut x.2 q hx.2 ((List.prefix_append_right_inj _).1 hp) hql
  len s c := Nat.le_trans (hg.len _ _) (hf.len _ _)
def mapR {α β : Type} (h : α → β) (f : Rd α) : Rd β := fun s c => (h (f s c).1, (f s c).2.1, (f s c).2.2)
theorem mapC {α β : Type} {h : α → β} {k : β → α} {f : Rd α} {e : α → List UInt8} {ok : α → Prop} (hkh : ∀ x, k (h x) = x) (hhk : ∀ y, h (k y) = y) (hf : Codec f e ok) : Codec (mapR h f) (fun y => e (k y)) (fun y => ok (k y)) where
  back x t hx := by unfold mapR; rw [hf.back (k x) t hx]; dsimp only; rw [hhk]
  canon s hs := by
    unfold mapR; dsimp only; rw [hkh]
    exact hf.canon s hs
  err s c hc := hf.err s c hc
  cut x p hx hp hl := hf.cut (k x) p hx hp hl
  len s c := hf.len s c
def takeN {α : Type} (f : Rd α) : Nat → Rd (List α)
  | 0, s, c => ([], s, c)
  | k + 1, s, c => if (f s c).2.2 ≠ 0 then ([], (f s c).2.1, (f s c).2.2) else (if (takeN f k (f s c).2.1 (f s c).2.2).2.2 ≠ 0 then [] else (f s c).1 :: (takeN f k (f s c).2.1 (f s c).2.2).1, (takeN f k (f s c).2.1 (f s c).2.2).2.1, (takeN f k (f s c).2.1 (f s c).2.2).2.2)
def allR {α : Type} (f : Rd α) (most : Int) : Rd (List α) := fun s c => takeN f (numR s c most).1.toNat (numR s c most).2.1 (numR s c most).2.2
def listB {α : Type} (e : α → List UInt8) (l : List α) : List UInt8 := putL l.length ++ l.flatMap e
section
variable {α : Type} {f : Rd α} {e : α → List UInt8} {ok : α → Prop}
theorem takeN_nil {n : Nat} {s : List UInt8} {c : Int} (h : (takeN f n s c).2.2 ≠ 0) : (takeN f n s c).1 = [] := by
  cases n with
  | zero => rfl
  | succ k =>
    unfold takeN at h ⊢
    split
    · rfl
    · rename_i h1
      rw [if_neg h1] at h
      dsimp only at h ⊢
      rw [if_pos h]
theorem takeN_back (hf : Codec f e ok) : ∀ (l : List α) (t : List UInt8), (∀ x ∈ l, ok x) → takeN f l.length (l.flatMap e ++ t) 0 = (l, t, 0)
  | [], t, _ => rfl
  | x :: l, t, h => by
    have ih := takeN_back hf l t fun y hy => h y (List.mem_cons_of_mem _ hy)
    have hx := hf.back x (l.flatMap e ++ t) (h x List.mem_cons_self)
    rw [List.flatMap_cons, List.append_assoc, List.length_cons]
    unfold takeN
    rw [hx]
    dsimp only
    rw [if_neg (by simp), ih]
    simp
theorem takeN_err (hf : Codec f e ok) (n : Nat) (s : List UInt8) {c : Int} (hc : c ≠ 0) : (takeN f n s c).2.1 = s ∧ (takeN f n s c).2.2 = c := by
  cases n with
  | zero => exact ⟨rfl, rfl⟩
  | succ k =>
    obtain ⟨h1, h2⟩ := hf.err s c hc
    unfold takeN
    rw [h2, if_pos hc]
    exact ⟨h1, rfl⟩
theorem takeN_canon (hf : Codec f e ok) : ∀ (n : Nat) (s : List UInt8), (takeN f n s 0).2.2 = 0 → s = (takeN f n s 0).1.flatMap e ++ (takeN f n s 0).2.1 ∧ (takeN f n s 0).1.length = n ∧ ∀ x ∈ (takeN f n s 0).1, ok x
  | 0, s, _ => ⟨rfl, rfl, fun x hx => by cases hx⟩
  | k + 1, s, h => by
    by_cases h1 : (f s 0).2.2 = 0
    · have e1 : takeN f (k + 1) s 0 = (if (takeN f k (f s 0).2.1 0).2.2 ≠ 0 then [] else (f s 0).1 :: (takeN f k (f s 0).2.1 0).1, (takeN f k (f s 0).2.1 0).2.1, (takeN f k (f s 0).2.1 0).2.2) := by
        rw [takeN, h1, if_neg (by simp)]
      rw [e1] at h ⊢
      dsimp only at h ⊢
      obtain ⟨h2, h3⟩ := hf.canon s h1
      obtain ⟨h4, h5, h6⟩ := takeN_canon hf k (f s 0).2.1 h
      rw [if_neg (by rw [h]; simp)]
      refine ⟨?_, by rw [List.length_cons, h5], fun x hx => ?_⟩
      · conv => lhs; rw [h2, h4]
        simp
      · rcases List.mem_cons.1 hx with rfl | hx
        · exact h3
        · exact h6 x hx
    · rw [takeN, if_pos h1] at h
      exact absurd h h1
theorem takeN_len (hf : Codec f e ok) : ∀ (n : Nat) (s : List UInt8) (c : Int), (takeN f n s c).2.1.length ≤ s.length
  | 0, s, c => Nat.le_refl _
  | k + 1, s, c => by
    have h1 := hf.len s c
    have h2 := takeN_len hf k (f s c).2.1 (f s c).2.2
    unfold takeN
    split
    · exact h1
    · exact Nat.le_trans h2 h1
theorem takeN_cut (hf : Codec f e ok) : ∀ (l : List α) (p : List UInt8), (∀ x ∈ l, ok x) → p <+: l.flatMap e → p.length < (l.flatMap e).length → (takeN f l.length p 0).2.2 = 40
  | [], p, _, _, h => absurd h (by simp)
  | x :: l, p, h, hp, hl => by
    have hx := h x List.mem_cons_self
    rw [List.flatMap_cons] at hp hl
    rw [List.length_append] at hl
    rw [List.length_cons]
    unfold takeN
    rcases Nat.lt_or_ge p.length (e x).length with h1 | h1
    · have hpp : p <+: e x := List.prefix_of_prefix_length_le hp (List.prefix_append _ _) (by omega)
      have h2 := hf.cut x p hx hpp h1
      rw [h2, if_pos (by decide)]
    · obtain ⟨q, hq⟩ := List.prefix_of_prefix_length_le (List.prefix_append (e x) (l.flatMap e)) hp h1
      have hql : q.length < (l.flatMap e).length := by have := congrArg List.length hq; rw [List.length_append] at this; omega
      rw [← hq] at hp ⊢
      rw [hf.back x q hx]
      dsimp only
      rw [if_neg (by simp)]
      exact takeN_cut hf l q (fun y hy => h y (List.mem_cons_of_mem _ hy)) ((List.prefix_append_right_inj _).1 hp) hql
theorem listC (hf : Codec f e ok) {most : Int} (h0 : 0 ≤ most) (h63 : most ≤ 9223372036854775807) : Codec (allR f most) (listB e) (fun l => (l.length : Int) ≤ most ∧ ∀ x ∈ l, ok x) where
  back l t h := by
    unfold allR listB
    rw [List.append_assoc, numR_put l.length (l.flatMap e ++ t) most (by omega) (by omega)]
    dsimp only
    rw [Int.toNat_natCast]
    exact takeN_back hf l t h.2
  canon s hs := by
    unfold allR at hs ⊢
    by_cases h1 : (numR s 0 most).2.2 = 0
    · rw [h1] at hs ⊢
      have h2 := canon_num (most := most) h1
      have h3 := numR_le (s := s) (c := 0) (most := most)
      have h4 := numR_nonneg s 0 most
      obtain ⟨h5, h6, h7⟩ := takeN_canon hf _ _ hs
      refine ⟨?_, by omega, h7⟩
      unfold listB
      rw [h6]
      conv => lhs; rw [h2, h5]
      simp
    · exact absurd ((takeN_err hf _ _ h1).2.symm.trans hs) h1
  err s c hc := by
    unfold allR
    rw [numR_errR hc]
    exact takeN_err hf _ _ hc
  cut l p h hp hl := by
    unfold allR
    unfold listB at hp hl
    rw [List.length_append] at hl
    rcases Nat.lt_or_ge p.length (putL l.length).length with h1 | h1
    · have hpp : p <+: putL l.length := List.prefix_of_prefix_length_le hp (List.prefix_append _ _) (by omega)
      rw [num_cut (n := l.length) (by omega) hpp h1]
      exact (takeN_err hf _ _ (show (40 : Int) ≠ 0 by decide)).2
    · obtain ⟨q, hq⟩ := List.prefix_of_prefix_length_le (List.prefix_append (putL l.length) (l.flatMap e)) hp h1
      have hql : q.length < (l.flatMap e).length := by have := congrArg List.length hq; rw [List.length_append] at this; omega
      rw [← hq] at hp ⊢
      rw [numR_put l.length q most (by omega) (by omega)]
      dsimp only
      rw [Int.toNat_natCast]
      exact takeN_cut hf l q h.2 ((List.prefix_append_right_inj _).1 hp) hql
  len s c := Nat.le_trans (takeN_len hf _ _ _) (numR_len s c most)
/-- how far a list is read -/
def TI (f : Rd α) (n : Nat) (s1 : List UInt8) (c1 : Int) (i : Nat) (out : List α) (s : List UInt8) (c : Int) : Prop :=
  i ≤ n ∧ out.length ≤ i ∧ (c ≠ 0 → out = []) ∧ takeN f n s1 c1 = (if (takeN f (n - i) s c).2.2 ≠ 0 then [] else out ++ (takeN f (n - i) s c).1, (takeN f (n - i) s c).2.1, (takeN f (n - i) s c).2.2)
theorem ti_start (n : Nat) (s : List UInt8) (c : Int) : TI f n s c 0 [] s c := by
  refine ⟨Nat.zero_le _, Nat.le_refl _, fun _ => rfl, ?_⟩
  rw [Nat.sub_zero]
  by_cases h : (takeN f n s c).2.2 = 0
  · rw [if_neg (by simp [h]), List.nil_append]
  · rw [if_pos h]
    have := takeN_nil (f := f) (n := n) (s := s) (c := c) h
    rw [← this]
theorem ti_bad {n i : Nat} {s1 s : List UInt8} {c1 c : Int} {out : List α} (h : TI f n s1 c1 i out s c) (hi : i < n) (hb : (f s c).2.2 ≠ 0) : takeN f n s1 c1 = ([], (f s c).2.1, (f s c).2.2) := by
  obtain ⟨h1, h2, h3, h4⟩ := h
  obtain ⟨k, hk⟩ : ∃ k, n - i = k + 1 := ⟨n - i - 1, by omega⟩
  rw [h4, hk, takeN, if_pos hb]
  dsimp only
  rw [if_pos hb]
theorem ti_next {n i : Nat} {s1 s : List UInt8} {c1 c : Int} {out : List α} (h : TI f n s1 c1 i out s c) (hi : i < n) (hb : (f s c).2.2 = 0) : TI f n s1 c1 (i + 1) (out ++ [(f s c).1]) (f s c).2.1 (f s c).2.2 := by
  obtain ⟨h1, h2, h3, h4⟩ := h
  refine ⟨by omega, by rw [List.length_append, List.length_singleton]; omega, fun k => absurd hb k, ?_⟩
  obtain ⟨k, hk⟩ : ∃ k, n - i = k + 1 := ⟨n - i - 1, by omega⟩
  have e1 : takeN f (k + 1) s c = (if (takeN f k (f s c).2.1 (f s c).2.2).2.2 ≠ 0 then [] else (f s c).1 :: (takeN f k (f s c).2.1 (f s c).2.2).1, (takeN f k (f s c).2.1 (f s c).2.2).2.1, (takeN f k (f s c).2.1 (f s c).2.2).2.2) := by
    rw [takeN]; exact if_neg (by simp [hb])
  rw [h4, hk, e1, show n - (i + 1) = k by omega]
  dsimp only
  split
  · rfl
  · simp
theorem ti_end {n i : Nat} {s1 s : List UInt8} {c1 c : Int} {out : List α} (h : TI f n s1 c1 i out s c) (hi : n ≤ i) : takeN f n s1 c1 = (out, s, c) := by
  obtain ⟨h1, h2, h3, h4⟩ := h
  rw [h4, show n - i = 0 by omega]
  show (if c ≠ 0 then [] else out ++ [], s, c) = _
  by_cases hc : c = 0
  · rw [if_neg (by simp [hc]), List.append_nil]
  · rw [if_pos hc, h3 hc]
theorem takeN_few (n : Nat) (s : List UInt8) (c : Int) : (takeN f n s c).1.length ≤ n := by
  induction n generalizing s c with
  | zero => exact Nat.le_refl _
  | succ k ih =>
    unfold takeN
    split
    · exact Nat.zero_le _
    · dsimp only
      split
      · exact Nat.zero_le _
      · rw [List.length_cons]; have := ih (f s c).2.1 (f s c).2.2; omega
theorem allR_few {most : Int} (h0 : 0 ≤ most) (s : List UInt8) (c : Int) : ((allR f most s c).1.length : Int) ≤ most := by
  have h1 := takeN_few (f := f) (numR s c most).1.toNat (numR s c most).2.1 (numR s c most).2.2
  have h2 := numR_le (s := s) (c := c) (most := most)
  have h3 := numR_nonneg s c most
  unfold allR; omega
theorem takeN_all {p : α → Prop} (hp : ∀ s c, p (f s c).1) (n : Nat) (s : List UInt8) (c : Int) : ∀ x ∈ (takeN f n s c).1, p x := by
  induction n generalizing s c with
  | zero => intro x hx; cases hx
  | succ k ih =>
    unfold takeN
    split
    · intro x hx; cases hx
    · dsimp only
      split
      · intro x hx; cases hx
      · intro x hx
        rcases List.mem_cons.1 hx with rfl | hx
        · exact hp s c
        · exact ih _ _ x hx
end
theorem flat_next {α : Type} {e : α → List UInt8} {l : List α} {i : Nat} (h : i < l.length) : (l.take (i + 1)).flatMap e = (l.take i).flatMap e ++ e l[i] := by
  rw [List.take_succ_eq_append_getElem h, List.flatMap_append]; simp
theorem flatB_len {α : Type} {e : α → List UInt8} {B : Nat} : ∀ {l : List α}, (∀ x ∈ l, (e x).length ≤ B) → (l.flatMap e).length ≤ l.length * B
  | [], _ => by simp
  | x :: l, h => by
    have h1 := h x List.mem_cons_self
    have h2 := flatB_len (e := e) (B := B) (l := l) fun y hy => h y (List.mem_cons_of_mem _ hy)
    rw [List.flatMap_cons, List.length_append, List.length_cons, Nat.add_mul]; omega
theorem wtextR_short (s : List UInt8) (c : Int) {most : Int} (h0 : 0 ≤ most) : ((wtextR s c most).1.length : Int) ≤ most := by
  have h5 := numR_le (s := s) (c := c) (most := most)
  have h6 := numR_nonneg s c most
  unfold wtextR
  split
  · simpa using h0
  · split
    · simpa using h0
    · dsimp only; rw [List.length_take]; omega
theorem numB_len {n : Int} (h : n ≤ 9223372036854775807) : (numB n).length ≤ 10 := putL_few n.toNat (by omega)
theorem textB_len {s : List UInt8} (h : s.length ≤ 9223372036854775807) : (textB s).length ≤ s.length + 10 := by
  have := putL_few s.length (by omega)
  unfold textB; rw [List.length_append]; omega
end Go.AL

/-
The logic AL: memory that is read by a call while it may still be written; memory that is written no more; literals that may be written.
Conditions: none; no program is in sight.
-/
set_option linter.unusedVariables false
set_option linter.unusedSimpArgs false
namespace Go.AL
open Go.RowKit
section
variable {P : Program} {N : Nat} {env : Env} {st : St} {o : Oper}
/-- A literal slice that may be written. -/
theorem S_buildV {t e : TypeId} {n : Nat} {parts : List (Nat × Operand)} {ys : List AV} (m : Nat) (ho : o.op = .buildSlice t n parts.toArray) (hxs : AEvs env (parts.map (·.2)) ys) (hp : parts.map (·.1) = List.range n) (hu : P.underlying t = some (.slice e))
    (hz : (P.info? e).map (fun i => (i.size, i.zero.map (·.cells.size))) = some (m, some m)) (hm : ∀ y ∈ ys, y.flat = true ∧ y.cells.length = m) (hpos : 0 < m) (hn : 0 < n) (hsm : n * m ≤ 2 ^ 24) :
    Step P N o env st fun z st' => ∃ b, z = .lit (.slice (some ⟨b, 0, none⟩) n n) ∧ st' = (b, .cells (ys.flatMap AV.cells)) :: st := by
  intro a w hg next Q hnx
  obtain ⟨hl, hr⟩ := hxs.at_ hg
  have hpl : parts.length = n := by have := congrArg List.length hp; simpa using this
  have hyl : ys.length = n := by have := hl; simp at this; omega
  obtain ⟨i, hi⟩ : ∃ i, P.info? e = some i := by cases h : P.info? e with | none => simp [h] at hz | some i => exact ⟨i, rfl⟩
  have hz1 : i.size = m := by simp [hi] at hz; exact hz.1
  obtain ⟨z, hzz⟩ : ∃ z, i.zero = some z := by cases h : i.zero with | none => simp [hi, h] at hz | some z => exact ⟨z, rfl⟩
  let vs := parts.map fun p => a.eval p.2
  have hvs : vs.length = n := by simp [vs, hpl]
  have hpe : (parts.map fun p => (p.1, a.eval p.2)) = (vs.zipIdx 0).map fun x => (x.2, x.1) := by
    refine List.ext_getElem? fun k => ?_
    simp only [List.getElem?_map, List.getElem?_zipIdx, vs]
    cases hk : parts[k]? with
    | none => simp
    | some p =>
      have h1 := congrArg (fun l => l[k]?) hp
      have hkn : k < n := by have := (List.getElem?_eq_some_iff.1 hk).1; omega
      simp [hk, hkn] at h1
      simp [h1]
  have hr' : ∀ (k : Nat) y v, ys[k]? = some y → vs[k]? = some v → R st w y v := fun k y v hy hv => by
    simp only [vs, List.getElem?_map] at hv
    cases hk : parts[k]? with
    | none => simp [hk] at hv
    | some p =>
      simp [hk] at hv
      subst hv
      exact hr k y p.2 hy (by simp [hk])
  have hvm : ∀ v ∈ vs, v.cells.size = m := fun v hv => by
    obtain ⟨k, hk⟩ := List.mem_iff_getElem?.1 hv
    have hlt : k < ys.length := by have := (List.getElem?_eq_some_iff.1 hk).1; omega
    have hy := hm ys[k] (List.getElem_mem hlt)
    rw [((hr' k ys[k] v (List.getElem?_eq_getElem hlt) hk).cells hy.1).1, hy.2]
  have hnm : n * m ≠ 0 := Nat.mul_ne_zero (by omega) (by omega)
  have hfill := Go.Great.fill_whole hpos vs ((Array.range (n * i.size)).map (z.cells[· % z.cells.size]!)) hvm (by simp [hvs, hz1])
  let ws : Array Value := (vs.flatMap fun v => v.cells.toList).toArray
  have hwsz : ∀ l : List Value, (∀ v ∈ l, v.cells.size = m) → (l.flatMap fun v => v.cells.toList).length = l.length * m := fun l => by
    induction l with
    | nil => intro _; simp
    | cons v l ih =>
      intro h
      rw [List.flatMap_cons, List.length_append, ih fun x hx => h x (List.mem_cons_of_mem _ hx), List.length_cons, Nat.add_mul, Array.length_toList, h v List.mem_cons_self]
      omega
  have hws : ∀ (l : List Value), (∀ v ∈ l, v.cells.size = m) → ∀ (k j : Nat) v u, l[k]? = some v → v.cells[j]? = some u → (l.flatMap fun v => v.cells.toList)[k * m + j]? = some u := fun l => by
    induction l with
    | nil => intro _ k j v u h; simp at h
    | cons v l ih =>
      intro h k j x u hx hu'
      rw [List.flatMap_cons]
      have hv := h v List.mem_cons_self
      cases k with
      | zero =>
        simp at hx; subst hx
        have hj : j < v.cells.toList.length := by have := (Array.getElem?_eq_some_iff.1 hu').1; simpa using this
        rw [Nat.zero_mul, Nat.zero_add, List.getElem?_append_left hj]
        simpa using hu'
      | succ k =>
        have := ih (fun y hy => h y (List.mem_cons_of_mem _ hy)) k j x u (by simpa using hx) hu'
        rw [List.getElem?_append_right (by rw [Array.length_toList, hv, Nat.add_mul]; omega), Array.length_toList, hv, Nat.add_mul, Nat.one_mul, show k * m + m + j - m = k * m + j by omega]
        exact this
  have hsz : ws.size = n * m := by simp only [ws, List.size_toArray]; rw [hwsz vs hvm, hvs]
  have hrun : (execOp a.eval o).run P w = .ok (.value (.slice (some ⟨w.heap.size, 0, none⟩) n n)) (w.alloc (.cells ws e)) := by
    have := run_buildSlice (P := P) w t e n ((parts.map fun p => (p.1, a.eval p.2)).toArray) _ i z hu hi hzz (by rw [hz1]; omega) (by rw [hz1]; exact hnm) (by rw [List.toList_toArray, hpe, hz1]; rw [hz1] at hfill; exact hfill)
    simp only [execOp, ho, Sem.run_bind, List.map_toArray]
    rw [this]
    simp [ws]
  have hfl : (ys.flatMap AV.cells).length = n * m := by rw [flat_len fun y hy => (hm y hy).2, hyl]
  obtain ⟨k1, k2⟩ := alloc_rel hg.rel (T := e) (ob := .cells (ys.flatMap AV.cells)) (vs := ws) ⟨by rw [hsz, hfl], fun q c u hc hu' => by
    obtain ⟨k, y, j, hy, hcj, rfl⟩ := flat_get (fun y hy => (hm y hy).2) hc
    have hlt : k < vs.length := by have := (List.getElem?_eq_some_iff.1 hy).1; omega
    have hv := List.getElem?_eq_getElem hlt
    obtain ⟨c1, c2⟩ := (hr' k y vs[k] hy hv).cells (hm y (List.mem_of_getElem? hy)).1
    have hj : j < (vs[k]).cells.size := by rw [c1]; exact (List.getElem?_eq_some_iff.1 hcj).1
    have h1 := hws vs hvm k j vs[k] ((vs[k]).cells[j]) hv (by simp [hj])
    have h2 : u = (vs[k]).cells[j] := by
      have h3 : (vs.flatMap fun v => v.cells.toList)[k * m + j]? = some u := by simpa [ws] using hu'
      rw [h1] at h3
      exact (Option.some.inj h3).symm
    rw [h2]
    exact c2 j c _ hcj (by simp [hj])⟩
  unfold Oper.wp
  rw [hrun]
  exact hnx _ _ _ _ ⟨w.heap.size, rfl, rfl⟩ (.lit _) k1 k2

theorem Ext.widenG {gs : List (Nat × List Value)} {w w' : World} (hrel : Rel st w) (hs : ∀ p, p ∈ Gs gs → p ∈ st) (h : Ext (Gs gs) w (Gs gs) w') : Ext st w st w' := by
  have hk : ∀ b o, (b, o) ∈ st → (∀ vs, o ≠ .konst vs) → ∀ o', (b, o') ∉ Gs gs := fun b o ho hne o' ho' => by
    obtain rfl := key_unique hrel.nodup ho (hs _ ho')
    obtain ⟨p, _, hp⟩ := List.mem_map.1 ho'
    cases hp
    exact hne _ rfl
  refine ⟨h.os, h.tape, h.output, h.shape, h.size, fun b hb hn => h.keep b hb fun o ho => hn o (hs _ ho), fun b e size n cap hb hg off _ => World.cell?_of_block (w := w) (h.keep b hb (hk b _ hg fun vs hh => by cases hh)), fun _ _ _ h => h, fun b vs hb hg => ?_⟩
  by_cases hin : ∃ o, (b, o) ∈ Gs gs
  · obtain ⟨o, ho⟩ := hin
    obtain rfl := key_unique hrel.nodup hg (hs _ ho)
    exact h.konst b vs hb ho
  · exact h.keep b hb fun o ho => hin ⟨o, ho⟩
theorem Rel.widenG {gs : List (Nat × List Value)} {w w' : World} (hr : Rel st w) (hs : ∀ p, p ∈ Gs gs → p ∈ st) (h : Ext (Gs gs) w (Gs gs) w') : Rel st w' := by
  have hx := Ext.widenG hr hs h
  have hk : ∀ b o, (b, o) ∈ st → (∀ vs, o ≠ .konst vs) → w'.heap[b]? = w.heap[b]? := fun b o ho hne => h.keep b (key_lt hr ho) fun o' ho' => by
    obtain rfl := key_unique hr.nodup ho (hs _ ho')
    obtain ⟨p, _, hp⟩ := List.mem_map.1 ho'
    cases hp
    exact hne _ rfl
  exact ⟨hr.nodup, fun b cs hb => let ⟨vs, T, k1, k2, k3⟩ := hr.cells b cs hb; ⟨vs, T, by rw [hk b _ hb fun vs hh => by cases hh]; exact k1, k2, fun i c v hc hv => (k3 i c v hc hv).mono hx hr.nodup⟩,
    fun b e size n cap hb => let ⟨vs, k1, k2⟩ := hr.grow b e size n cap hb; ⟨vs, by rw [hk b _ hb fun vs hh => by cases hh]; exact k1, k2⟩, fun b vs hb => hx.konst_rel hr hb⟩

theorem GCalls.of_eq {gs : List (Nat × List Value)} {f : FuncId} {args : List AV} {V V' : AV} (h : GCalls P gs f args V) (e : V = V') : GCalls P gs f args V' := e ▸ h
/-- What a call over tables wants of each argument, where it only reads. -/
inductive LendsG (st : St) (g : St) : List AV → List AV → Prop
  | nil : LendsG st g [] []
  | cons {a b : AV} {as bs : List AV} (h : Conv st g a b) (t : LendsG st g as bs) : LendsG st g (a :: as) (b :: bs)
theorem LendsG.len {g : St} {as bs : List AV} (h : LendsG st g as bs) : as.length = bs.length := by induction h <;> simp [*]
theorem LendsG.at_ {g : St} {as bs : List AV} (h : LendsG st g as bs) : ∀ (i : Nat) b, bs[i]? = some b → ∃ a, as[i]? = some a ∧ Conv st g a b := by
  induction h with
  | nil => intro i b h; simp at h
  | cons h t ih =>
    intro i b hb
    cases i with
    | zero => simp at hb; subst hb; exact ⟨_, rfl, h⟩
    | succ i => simp at hb; simpa using ih i b hb

/-- A call over tables that reads what may still be written, and yields a plain value. -/
theorem S_gcallB {gs : List (Nat × List Value)} {f : FuncId} {xs : List Operand} {ts : Array TypeId} {as args : List AV} {v : Value} (hG : ∀ p, p ∈ Gs gs → p ∈ st) (hnd : ((Gs gs).map (·.1)).Nodup) (ho : o.op = .call { callee := .value (.func f), args := xs.toArray, argTypes := ts }) (hargs : AEvs env xs as) (hl : LendsG st (Gs gs) as args) (hc : GCalls P gs f args (.lit v)) : PStep P N o env st (.lit v) := by
  intro a w hg next Q hn
  obtain ⟨hlen, hr⟩ := hargs.at_ hg
  have hc0 := hc (Gs gs) fun p hp => hp
  have hrun : (execOp a.eval o).run P w = .ok (.enter f (xs.map a.eval).toArray) w := by
    simp [execOp, ho, resolve, Deferred.ofValue, Act.eval, invoke, run_callFunc' hc0.enters]
  unfold Oper.wp
  rw [hrun]
  refine (hc0.calls w _ (hg.rel.sub hG hnd) (by have := hl.len; simp; omega) fun i x u hx hv => ?_).mono ?_
  · simp at hv
    obtain ⟨y, hy, rfl⟩ := hv
    obtain ⟨z, hz, hcv⟩ := hl.at_ i x hx
    exact hcv w _ hg.rel (hr i z y hz hy)
  · rintro e w' ⟨r, x, st', rfl, ⟨rfl, rfl⟩, h1, h2, h3⟩
    cases h1
    exact hn _ st _ w' ⟨rfl, rfl⟩ (.lit _) (hg.rel.widenG hG h3) (Ext.widenG hg.rel hG h3)

/-- What may be written there may be written here. -/
def MutLe (st st' : St) : Prop := ∀ b off, Mut st' b off → Mut st b off
theorem MutLe.memb {st' : St} (h : ∀ p, p ∈ st' → p ∈ st) : MutLe st st' := fun b off ⟨o, ho, hop⟩ => ⟨o, h _ ho, hop⟩
theorem MutLe.cells {s' : St} {k : Nat} {cs ds : List AV} (h : MutLe st s') : MutLe ((k, .cells cs) :: st) ((k, .cells ds) :: s') := fun b off ⟨o, ho, hop⟩ => by
  rcases List.mem_cons.1 ho with h1 | h1
  · cases h1; exact ⟨_, List.mem_cons_self, trivial⟩
  · obtain ⟨o', h2, h3⟩ := h b off ⟨o, h1, hop⟩; exact ⟨o', List.mem_cons_of_mem _ h2, h3⟩
theorem MutLe.drop {s' : St} {p : Nat × Ob} (h : MutLe st s') : MutLe (p :: st) s' := fun b off hm => let ⟨o', h2, h3⟩ := h b off hm; ⟨o', List.mem_cons_of_mem _ h2, h3⟩
theorem MutLe.refl (s : St) : MutLe s s := fun _ _ h => h
theorem MutLe.ext {st' : St} (h : MutLe st st') (w : World) : Ext st w st' w := ⟨rfl, rfl, rfl, fun _ _ => rfl, Nat.le_refl _, fun _ _ _ => rfl, fun _ _ _ _ _ _ _ _ _ => rfl, fun b off _ hm => h b off hm, fun _ _ _ _ => rfl⟩
theorem Conv.mut {st' : St} (h : MutLe st st') {a b : AV} (hl : Le a b) : Conv st st' a b := fun w v hr h1 => hl _ _ _ (h1.mono (h.ext w) hr.nodup)
theorem Conv.memb {st' : St} (h : ∀ p, p ∈ st' → p ∈ st) {a b : AV} (hl : Le a b) : Conv st st' a b := Conv.mut (MutLe.memb h) hl
theorem Conv.nd {st' : St} {a b : AV} (h : (st.map (·.1)).Nodup → Conv st st' a b) : Conv st st' a b := fun w v hr => h hr.nodup w v hr
theorem LendsG.agg {g : St} {as bs : List AV} (h : LendsG st g as bs) : Conv st g (.agg as) (.agg bs) := .agg h.len fun i c d hc hd => by
  obtain ⟨a, ha, hcv⟩ := h.at_ i d hd
  rw [hc] at ha; cases ha; exact hcv
/-- One's own vector, seen where it is no longer written. -/
theorem Conv.vecM {st' : St} (hs' : MutLe st st') {q : Vec} {size : Nat} {xs : List AV} (hq : q.ok xs) (hs : ∀ x, x ∈ xs → x.cells.length = size) (hm : ∀ p, p ∈ vecSt q size xs → p ∈ st) (hn : ∀ b cap, q = .at b cap → ∀ o, (b, o) ∉ st') : Conv st st' (.lit (vecV q xs.length)) (.sl xs) := fun w v hr h1 => by
  have h2 := Conv.vec (st := st) (st' := []) Sub.nil hq hs hm (fun _ _ _ o h => by cases h) w v hr h1
  cases q with
  | nil => have : xs = [] := hq; subst this; cases h1; exact .sl0 _ _
  | emp A => have : xs = [] := hq; subst this; cases h1; exact .sl0 _ _
  | «at» b cap =>
    cases h1
    obtain ⟨vs, T, g1, g2, g3⟩ := hr.cells b (vecCells size cap xs) (hm _ List.mem_cons_self)
    have hcell : ∀ (i : Nat) x (j : Nat) c, xs[i]? = some x → x.cells[j]? = some c → ∃ u, vs[i * size + j]? = some u ∧ R st w c u := fun i x j c hx hc => by
      have h2 := flat_at hs hx hc
      have h3 : (vecCells size cap xs)[i * size + j]? = some c := by unfold vecCells; rw [List.getElem?_append_left (List.getElem?_eq_some_iff.1 h2).1]; exact h2
      have hlt : i * size + j < vs.size := by rw [g2]; exact (List.getElem?_eq_some_iff.1 h3).1
      exact ⟨vs[i * size + j], by simp [hlt], g3 _ c _ h3 (by simp [hlt])⟩
    refine .sl xs b 0 cap size (fun k => (vs[k]?).getD undef) hq (fun i x hx => hs x (List.mem_of_getElem? hx)) (fun i x j c hx hc => ?_) fun i x j c hx hc => ?_
    · obtain ⟨u, k1, k2⟩ := hcell i x j c hx hc
      refine ⟨by simp only [World.cell?, g1, Option.isSome_none, Bool.false_eq_true, if_false, Nat.zero_add, k1, Option.getD_some], fun ⟨o, ho, _⟩ => hn b cap rfl o ho⟩
    · obtain ⟨u, k1, k2⟩ := hcell i x j c hx hc
      rw [k1]
      exact k2.mono (hs'.ext w) hr.nodup
theorem not_table {gs : List (Nat × List Value)} {b : Nat} {cs : List AV} (hn : (st.map (·.1)).Nodup) (hG : ∀ p, p ∈ Gs gs → p ∈ st) (hb : (b, Ob.cells cs) ∈ st) : ∀ o, (b, o) ∉ Gs gs := fun o ho => by
  have h := key_unique hn hb (hG _ ho)
  obtain ⟨p, _, hp⟩ := List.mem_map.1 ho
  cases hp
  cases h
/-- The slots' values as they are in another state. -/
inductive EnvConv (st st' : St) (env : Env) : Env → Prop
  | nil : EnvConv st st' env []
  | cons {i : Nat} {x y : AV} {rest : Env} (h : env.lookup i = some y) (hl : Conv st st' y x) (t : EnvConv st st' env rest) : EnvConv st st' env ((i, x) :: rest)
theorem EnvConv.spec {st' : St} {env' : Env} (h : EnvConv st st' env env') : ∀ i x, env'.lookup i = some x → ∃ y, env.lookup i = some y ∧ Conv st st' y x := by
  induction h with
  | nil => intro i x hi; simp at hi
  | @cons j u v rest h1 h2 t ih =>
    intro i x hi
    simp only [List.lookup_cons] at hi
    by_cases hij : i = j
    · subst hij
      simp only [beq_self_eq_true] at hi
      cases hi
      exact ⟨v, h1, h2⟩
    · have : (i == j) = false := by simpa using hij
      simp only [this] at hi
      exact ih i x hi
/-- One state's memory, in another one: the same, or cells whose values are seen otherwise. -/
inductive StConv (st st' : St) : St → St → Prop
  | nil : StConv st st' [] []
  | drop {p : Nat × Ob} {a b : St} (t : StConv st st' a b) : StConv st st' (p :: a) b
  | same {p : Nat × Ob} {a b : St} (t : StConv st st' a b) (h : ∀ cs, p.2 = .cells cs → ∀ c ∈ cs, Conv st st' c c) : StConv st st' (p :: a) (p :: b)
  | cells {k : Nat} {cs ds : List AV} {a b : St} (hl : ds.length = cs.length) (h : ∀ (i : Nat) c d, cs[i]? = some c → ds[i]? = some d → Conv st st' c d) (t : StConv st st' a b) : StConv st st' ((k, .cells cs) :: a) ((k, .cells ds) :: b)
  | rest (a : St) (h : ∀ c, Conv st st' c c) : StConv st st' a a
theorem StConv.cellsL {st st' : St} {k : Nat} {cs ds : List AV} {a b : St} (h : LendsG st st' cs ds) (t : StConv st st' a b) : StConv st st' ((k, .cells cs) :: a) ((k, .cells ds) :: b) := .cells h.len.symm (fun i c d hc hd => by
  obtain ⟨x, hx, hcv⟩ := h.at_ i d hd
  rw [hc] at hx; cases hx; exact hcv) t
theorem StConv.keys {s s' a b : St} (h : StConv s s' a b) : List.Sublist (b.map (·.1)) (a.map (·.1)) := by
  induction h with
  | nil => exact .refl _
  | drop _ ih => exact ih.cons _
  | same _ _ ih => exact ih.cons_cons _
  | cells _ _ _ ih => exact ih.cons_cons _
  | rest _ _ => exact .refl _
theorem StConv.mem {s s' a b : St} (h : StConv s s' a b) : ∀ k o, (k, o) ∈ b → (∃ cs ds, o = .cells ds ∧ (k, .cells cs) ∈ a ∧ ds.length = cs.length ∧ ∀ (i : Nat) c d, cs[i]? = some c → ds[i]? = some d → Conv s s' c d) ∨ ((k, o) ∈ a ∧ ∀ cs, o ≠ .cells cs) := by
  induction h with
  | nil => intro k o h; cases h
  | drop _ ih =>
    intro k o h
    rcases ih k o h with ⟨cs, ds, h1, h2, h3⟩ | ⟨h1, h2⟩
    · exact .inl ⟨cs, ds, h1, List.mem_cons_of_mem _ h2, h3⟩
    · exact .inr ⟨List.mem_cons_of_mem _ h1, h2⟩
  | @same p a b t hp ih =>
    intro k o h
    rcases List.mem_cons.1 h with h | h
    · subst h
      cases o with
      | cells cs => exact .inl ⟨cs, cs, rfl, List.mem_cons_self, rfl, fun i c d hc hd => by rw [hc] at hd; cases hd; exact hp cs rfl c (List.mem_of_getElem? hc)⟩
      | grow e size n cap => exact .inr ⟨List.mem_cons_self, fun cs hh => by cases hh⟩
      | konst vs => exact .inr ⟨List.mem_cons_self, fun cs hh => by cases hh⟩
    · rcases ih k o h with ⟨cs, ds, h1, h2, h3⟩ | ⟨h1, h2⟩
      · exact .inl ⟨cs, ds, h1, List.mem_cons_of_mem _ h2, h3⟩
      · exact .inr ⟨List.mem_cons_of_mem _ h1, h2⟩
  | @cells k' cs ds a b hl hc t ih =>
    intro k o h
    rcases List.mem_cons.1 h with h | h
    · cases h; exact .inl ⟨cs, ds, rfl, List.mem_cons_self, hl, hc⟩
    · rcases ih k o h with ⟨cs, ds, h1, h2, h3⟩ | ⟨h1, h2⟩
      · exact .inl ⟨cs, ds, h1, List.mem_cons_of_mem _ h2, h3⟩
      · exact .inr ⟨List.mem_cons_of_mem _ h1, h2⟩
  | rest a hc =>
    intro k o h
    cases o with
    | cells cs => exact .inl ⟨cs, cs, rfl, h, rfl, fun i c d h1 h2 => by rw [h1] at h2; cases h2; exact hc c⟩
    | grow e size n cap => exact .inr ⟨h, fun cs hh => by cases hh⟩
    | konst vs => exact .inr ⟨h, fun cs hh => by cases hh⟩

theorem AC_conv {Q : Post} {c : Code} {st' : St} {env' : Env} (hs : StConv st st' st st') (he : EnvConv st st' env env') (h : AC P N c Q env' st') : AC P N c Q env st := fun a w hg => by
  have hopen : ∀ b off, Mut st' b off → Mut st b off := fun b off ⟨o, ho, hop⟩ => by
    rcases hs.mem b o ho with ⟨cs, ds, rfl, h2, _⟩ | ⟨h1, _⟩
    · exact ⟨_, h2, trivial⟩
    · exact ⟨_, h1, hop⟩
  have hx : Ext st w st' w := ⟨rfl, rfl, rfl, fun _ _ => rfl, Nat.le_refl _, fun _ _ _ => rfl, fun _ _ _ _ _ _ _ _ _ => rfl, fun b off _ hm => hopen b off hm, fun _ _ _ _ => rfl⟩
  have hrel : Rel st' w := by
    refine ⟨hs.keys.nodup hg.rel.nodup, fun b ds hb => ?_, fun b e size n cap hb => ?_, fun b vs hb => ?_⟩
    · rcases hs.mem b _ hb with ⟨cs, ds', h1, h2, h3, h4⟩ | ⟨_, h2⟩
      · cases h1
        obtain ⟨vs, T, k1, k2, k3⟩ := hg.rel.cells b cs h2
        refine ⟨vs, T, k1, by rw [k2, h3], fun i c v hc hv => ?_⟩
        have hi : i < cs.length := by rw [← h3]; exact (List.getElem?_eq_some_iff.1 hc).1
        exact h4 i _ c (List.getElem?_eq_getElem hi) hc w v hg.rel (k3 i _ v (List.getElem?_eq_getElem hi) hv)
      · exact absurd rfl (h2 ds)
    · rcases hs.mem b _ hb with ⟨cs, ds', h1, _⟩ | ⟨h1, _⟩
      · cases h1
      · exact hg.rel.grow b e size n cap h1
    · rcases hs.mem b _ hb with ⟨cs, ds', h1, _⟩ | ⟨h1, _⟩
      · cases h1
      · exact hg.rel.konst b vs h1
  exact wp_mono (h a w ⟨hg.size, hg.defers, fun i x hi => by
    obtain ⟨y, hy, hcv⟩ := he.spec i x hi
    obtain ⟨v, h1, h2⟩ := hg.env i y hy
    exact ⟨v, h1, hcv w v hg.rel h2⟩, hrel⟩) fun e a w h => h.later hx hg.rel.nodup
end
end Go.AL

/-
The logic AL: slices that are made; a slice's front; how often a byte stands in a text.
Conditions: none; no program is in sight.
-/
set_option linter.unusedVariables false
set_option linter.unusedSimpArgs false
namespace Go.AL
open Go.RowKit
section
variable {P : Program} {N : Nat} {env : Env} {st : St} {o : Oper}
theorem make_cells (z : Value) (n : Nat) : madeCells #[z] n = (List.replicate n z).toArray := by
  unfold madeCells
  refine Array.ext_getElem? fun i => ?_
  by_cases h : i < n <;> simp [h, Nat.mod_one]
/-- n of one cell each, zero. -/
theorem S_make1 {t e bytes : Nat} {x : Operand} {n : Nat} {z : Value} (ho : o.op = .makeSlice t x x) (hx : AEv env x (.int .i64 ((n : Nat) : Int))) (hu : P.underlying t = some (.slice e))
    (hz : (P.info? e).map (fun i => (i.size, i.bytes, i.zero)) = some (1, bytes, some z)) (hz1 : z.cells = #[z]) (hb : bytes * n ≤ 281474976710656) (h63 : n ≤ 9223372036854775807) :
    Step P N o env st fun y st' => ∃ b, y = .lit (.slice (some ⟨b, 0, none⟩) n n) ∧ st' = (b, .cells (List.replicate n (.lit z))) :: st := by
  intro a w hg next Q hn
  have e1 := (hx _ _ _ _ hg).lit_inv
  obtain ⟨i, hi⟩ : ∃ i, P.info? e = some i := by cases h : P.info? e with | none => simp [h] at hz | some i => exact ⟨i, rfl⟩
  simp only [hi, Option.map_some, Option.some.injEq, Prod.mk.injEq] at hz
  obtain ⟨hz0, hzb, hzz⟩ := hz
  have hrun : (execOp a.eval o).run P w = .ok (.value (.slice (some ⟨w.heap.size, 0, none⟩) n n)) (w.alloc (.cells (List.replicate n z).toArray e)) := by
    have := run_make w t e i z hu hi hzz .i64 .i64 (n : Int) (n : Int) (by omega) (Int.le_refl _) (by rw [hzb, ← Int.natCast_mul]; generalize bytes * n = q at hb ⊢; omega) (by omega)
    rw [hz1, hz0, Int.toNat_natCast, Nat.mul_one, make_cells] at this
    simp only [execOp, ho, e1, Sem.run_bind, this, Result.andThen_ok, Sem.run_pure]
  obtain ⟨k1, k2⟩ := alloc_rel hg.rel (T := e) (ob := .cells (List.replicate n (.lit z))) (vs := (List.replicate n z).toArray) ⟨by simp, fun q c u hc hu' => by
    simp only [List.getElem?_replicate] at hc
    simp only [List.getElem?_toArray, List.getElem?_replicate] at hu'
    split at hc
    · rename_i hq; rw [if_pos hq] at hu'; cases hc; cases hu'; exact .lit _
    · cases hc⟩
  unfold Oper.wp
  rw [hrun]
  exact hn _ _ _ _ ⟨w.heap.size, rfl, rfl⟩ (.lit _) k1 k2

/-- The front of a slice of one's own. -/
theorem S_cutOH {t e : TypeId} {x hi : Operand} {b n c j : Nat} {k : IntKind} (m : Nat) (ho : o.op = .slice t x none (some hi) none) (hx : AEv env x (.lit (.slice (some ⟨b, 0, none⟩) n c))) (hh : AEv env hi (.int k ((j : Nat) : Int)))
    (hu : P.underlying t = some (.slice e)) (hm : (P.info? e).map (·.size) = some m) (h1 : j ≤ c) : PStep P N o env st (.lit (.slice (some ⟨b, 0, none⟩) j c)) :=
  .of_val fun a w hg => by
    have e1 := (hx _ _ _ _ hg).lit_inv
    have e2 := (hh _ _ _ _ hg).lit_inv
    cases hq : P.info? e with
    | none => simp [hq] at hm
    | some q =>
      have hqm : q.size = m := by simpa [hq] using hm
      refine ⟨.slice (some ⟨b, 0, none⟩) j c, ?_, .lit _⟩
      have hb : ∀ w, (Instr.sliceBounds true n c none (some (.int k (j : Int))) none).run P w = .ok (0, j, c) w := fun w => by
        unfold Instr.sliceBounds
        simp [run_sliceBound (P := P) w k (j : Int) c .sliceAcap (by omega) (by omega)]
      simp only [execOp, ho, e1, e2, Instr.sliceAt, Sem.run_bind, run_underlying hu, Result.andThen_ok, Sem.run_pure, Option.map_none, Option.map_some, hb]
      simp only [Instr.slice, Sem.run_bind, run_underlying hu, Result.andThen_ok, hb]
      simp [sizeOf, typeInfo, hq, hqm, Addr.add]
theorem run_count {s : List UInt8} {c : UInt8} (w : World) : (Extern.BytealgCount.count #[.string ⟨s.toArray⟩, .int .u8 (c.toNat : Int)]).run P w = .ok (.int .i64 (s.count c : Int)) w := by
  have hc : ((c.toNat : Int)).toNat.toUInt8 = c := by simp
  have h := Lib.run_countString (P := P) ⟨s.toArray⟩ (c.toNat : Int) w
  rw [hc] at h
  exact h
end
end Go.AL

/-
A text parted at a byte.
Conditions: none; no program is in sight.
-/
set_option linter.unusedVariables false
set_option linter.unusedSimpArgs false
namespace Go.AL
open Go.RowKit Go.NumSpec
abbrev headB (c : UInt8) (s : List UInt8) : List UInt8 := s.takeWhile (fun x => x != c)
abbrev restB (c : UInt8) (s : List UInt8) : List UInt8 := s.drop ((headB c s).length + 1)
theorem split_none {c : UInt8} : ∀ {s : List UInt8}, c ∉ s → partsB c s = [s]
  | [], _ => rfl
  | x :: s, h => by
    have h1 : x ≠ c := fun e => h (by rw [e]; exact List.mem_cons_self)
    have h2 := split_none (c := c) (s := s) fun hm => h (List.mem_cons_of_mem _ hm)
    simp [partsB, h2, h1]
theorem split_hit {c : UInt8} : ∀ {s : List UInt8}, c ∈ s → partsB c s = headB c s :: partsB c (restB c s)
  | [], h => by cases h
  | x :: s, h => by
    by_cases h1 : x = c
    · subst h1; simp [partsB, headB, restB]
    · have hm : c ∈ s := (List.mem_cons.1 h).resolve_left fun e => h1 e.symm
      have h2 := split_hit (c := c) (s := s) hm
      have hb : (x != c) = true := by simpa using h1
      have e1 : headB c (x :: s) = x :: headB c s := by simp [headB, hb]
      have e2 : restB c (x :: s) = restB c s := by unfold restB; rw [e1]; simp
      rw [e1, e2]
      simp [partsB, h2, h1]
theorem parts_count (c : UInt8) : ∀ s : List UInt8, (partsB c s).length = s.count c + 1
  | [] => rfl
  | x :: s => by
    have ih := parts_count c s
    by_cases h1 : x = c
    · subst h1; simp [partsB, ih]
    · cases hp : partsB c s with
      | nil => rw [hp] at ih; simp at ih
      | cons y l =>
        rw [hp] at ih
        rw [List.count_cons_of_ne (by simpa using h1)]
        simp [partsB, hp, h1] at ih ⊢
        exact ih
/-- The row while it is filled. -/
def filling (n : Nat) (done : List (List UInt8)) : List AV := strsV done ++ List.replicate (n - done.length) (AV.lit (.string ⟨#[]⟩))
theorem filling_zero (n : Nat) : filling n [] = List.replicate n (AV.lit (.string ⟨#[]⟩)) := by simp [filling, strsV]
theorem filling_set {n : Nat} {done : List (List UInt8)} {x : List UInt8} (h : done.length < n) : (filling n done).set (0 + ((done.length : Nat) : Int).toNat * 1) (.S x) = filling n (done ++ [x]) := by
  unfold filling
  have hl : (strsV done).length = done.length := by simp [strsV]
  rw [show 0 + ((done.length : Nat) : Int).toNat * 1 = done.length by simp, List.set_append_right _ _ (by omega), hl, Nat.sub_self]
  obtain ⟨k, hk⟩ : ∃ k, n - done.length = k + 1 := ⟨n - done.length - 1, by omega⟩
  rw [hk, List.replicate_succ, List.set_cons_zero, show n - (done ++ [x]).length = k by simp; omega]
  simp [strsV]
theorem filling_len {n : Nat} {done : List (List UInt8)} (h : done.length ≤ n) : (filling n done).length = n := by simp [filling, strsV]; omega
theorem filling_full {n : Nat} {done : List (List UInt8)} (h : done.length = n) : filling n done = vec1C n (strsV done) := by
  simp [filling, vec1C, strsV, h]
theorem idxV_neg {s : List UInt8} {c : UInt8} : idxV s c < 0 ↔ c ∉ s := by
  unfold idxV; split
  · rename_i h; constructor
    · intro k; omega
    · intro k; exact absurd h k
  · rename_i h; exact ⟨fun _ => h, fun _ => by omega⟩
theorem idxV_hit {s : List UInt8} {c : UInt8} (h : c ∈ s) : idxV s c = ((headB c s).length : Int) := by unfold idxV; rw [if_pos h]
theorem take_head {s : List UInt8} {c : UInt8} : s.take (headB c s).length = headB c s := by
  have h := List.takeWhile_append_dropWhile (p := fun x => x != c) (l := s)
  have h2 : (headB c s ++ s.dropWhile (fun x => x != c)).take (headB c s).length = headB c s := List.take_left' rfl
  rwa [h] at h2
theorem head_lt {s : List UInt8} {c : UInt8} (h : c ∈ s) : (headB c s).length < s.length := (tw_lt h).1
theorem count_none {s : List UInt8} {c : UInt8} (h : s.count c = 0) : c ∉ s := List.count_eq_zero.1 h
end Go.AL

/-
Labels: which are among others, which fit, which stand behind a key; two selectors made one.
Conditions: none; no program is in sight.
-/
set_option linter.unusedVariables false
set_option linter.unusedSimpArgs false
namespace Go.AL
open Go.RowKit Go.NumSpec
def coversL (a b : List Lab) : Bool := a.all fun x => decide (x ∈ b)
theorem covers_bad {a b : List Lab} {i : Nat} (h : i < a.length) (hn : a[i] ∉ b) : coversL a b = false := List.all_eq_false.2 ⟨_, List.getElem_mem h, by simpa using hn⟩
theorem covers_all {a b : List Lab} (h : ∀ i (hi : i < a.length), a[i] ∈ b) : coversL a b = true := List.all_eq_true.2 fun x hx => by
  obtain ⟨i, hi, rfl⟩ := List.mem_iff_getElem.1 hx
  exact decide_eq_true (h i hi)
theorem covers_iff {a b : List Lab} : coversL a b = true ↔ ∀ x ∈ a, x ∈ b := by simp [coversL, List.all_eq_true]
def getL (l : List Lab) (k : List UInt8) : List UInt8 × Bool := match l with | [] => ([], false) | x :: l => if x.1 = k then (x.2, true) else getL l k
def keyI (l : List Lab) (k : List UInt8) : Int := match l with | [] => -1 | x :: l => if x.1 = k then 0 else if 0 ≤ keyI l k then keyI l k + 1 else -1
theorem keyI_hit {k : List UInt8} : ∀ {l : List Lab} {i : Nat} (h : i < l.length), l[i].1 = k → (∀ j (hj : j < i), (l[j]'(by omega)).1 ≠ k) → keyI l k = (i : Int) ∧ getL l k = (l[i].2, true)
  | x :: l, 0, h, he, hn => by simp only [List.getElem_cons_zero] at he ⊢; unfold keyI getL; rw [if_pos he, if_pos he]; exact ⟨rfl, rfl⟩
  | x :: l, i + 1, h, he, hn => by
    have h0 : x.1 ≠ k := by simpa using hn 0 (by omega)
    obtain ⟨e1, e2⟩ := keyI_hit (k := k) (l := l) (i := i) (by simpa using h) (by simpa using he) fun j hj => by simpa using hn (j + 1) (by omega)
    unfold keyI getL
    rw [if_neg h0, if_neg h0, e1, e2, if_pos (by omega)]
    exact ⟨by omega, rfl⟩
theorem keyI_none {k : List UInt8} : ∀ {l : List Lab}, (∀ j (hj : j < l.length), l[j].1 ≠ k) → keyI l k = -1 ∧ getL l k = ([], false)
  | [], _ => ⟨rfl, rfl⟩
  | x :: l, hn => by
    have h0 : x.1 ≠ k := hn 0 (Nat.zero_lt_succ _)
    obtain ⟨e1, e2⟩ := keyI_none (k := k) (l := l) fun j hj => hn (j + 1) (Nat.succ_lt_succ hj)
    unfold keyI getL
    rw [if_neg h0, if_neg h0, e1, e2]
    exact ⟨rfl, rfl⟩
theorem keyI_spec (l : List Lab) (k : List UInt8) : (keyI l k = -1 ∧ getL l k = ([], false)) ∨ ∃ i, ∃ h : i < l.length, keyI l k = (i : Int) ∧ getL l k = (l[i].2, true) := by
  by_cases h : ∃ i, ∃ h : i < l.length, l[i].1 = k
  · refine .inr ?_
    have : ∃ i, (∃ h : i < l.length, l[i].1 = k) ∧ ∀ j, j < i → ¬ ∃ h : j < l.length, l[j].1 = k := by
      obtain ⟨i, hi⟩ := h
      induction i using Nat.strongRecOn with
      | ind i ih =>
        by_cases h2 : ∃ j, j < i ∧ ∃ h : j < l.length, l[j].1 = k
        · obtain ⟨j, h3, h4⟩ := h2; exact ih j h3 h4
        · exact ⟨i, hi, fun j hj hh => h2 ⟨j, hj, hh⟩⟩
    obtain ⟨i, ⟨hi, he⟩, hn⟩ := this
    obtain ⟨e1, e2⟩ := keyI_hit hi he fun j hj hh => hn j hj ⟨by omega, hh⟩
    exact ⟨i, hi, e1, e2⟩
  · exact .inl (keyI_none fun j hj hh => h ⟨j, hj, hh⟩)
abbrev lessK (x y : Lab) : Bool := Op.bytesLess x.1 y.1
/-- The program's way. -/
def mergeL : List Lab → List Lab → Option (List Lab)
  | [], b => some b
  | x :: a, [] => some (x :: a)
  | x :: a, y :: b => if lessK x y = true then (mergeL a (y :: b)).map (x :: ·) else if lessK y x = true then (mergeL (x :: a) b).map (y :: ·) else if x.2 ≠ y.2 then none else (mergeL a b).map (x :: ·)
  termination_by a b => a.length + b.length
theorem merge_nil (a : List Lab) : mergeL a [] = some a := by cases a <;> simp [mergeL]
/-- The document's way. -/
def insL (y : Lab) (out : List Lab) : List Lab := (out.takeWhile fun x => lessK x y) ++ (y :: out.dropWhile fun x => lessK x y)
def refM (a : List Lab) : List Lab → List Lab → Option (List Lab)
  | out, [] => some out
  | out, y :: b => if (getL a y.1).2 = true ∧ (getL a y.1).1 ≠ y.2 then none else if (getL a y.1).2 = true then refM a out b else refM a (insL y out) b
def mergeAV (m : Option (List Lab)) : AV := match m with | some l => .tup [.sl (labsV l), .bool true] | none => .tup [.sl [], .bool false]
def labT (x : Lab) : List UInt8 := (x.1 ++ [61]) ++ x.2
def selT (l : List Lab) : List UInt8 := Lib.join (l.map labT) [44]
def cutL (p : List UInt8) : Lab := ((cutV 61 p).1, (cutV 61 p).2.1)
abbrev selN : List UInt8 := [115, 101, 108]
def parseS (s : List UInt8) : List Lab × Int :=
  if s = [] then ([], 0) else if (partsB 44 s).all (fun p => (cutV 61 p).2.2) = true then
    (if erCode (labelsE selN ((partsB 44 s).map cutL)) = 0 then ((partsB 44 s).map cutL, 0) else ([], erCode (labelsE selN ((partsB 44 s).map cutL)))) else ([], 3)
abbrev parseAV (p : List Lab × Int) : AV := .tup [.sl (labsV p.1), .int .i64 p.2]
theorem cut_len (s : List UInt8) (c : UInt8) : (cutV c s).1.length ≤ s.length ∧ (cutV c s).2.1.length ≤ s.length := by
  unfold cutV; split
  · simp only [List.length_drop]; exact ⟨List.Sublist.length_le (List.takeWhile_sublist _), by omega⟩
  · simp
theorem le_sum_mem : ∀ {l : List Nat} {x : Nat}, x ∈ l → x ≤ l.sum
  | y :: l, x, h => by
    rw [List.sum_cons]
    rcases List.mem_cons.1 h with h | h
    · omega
    · have := le_sum_mem h; omega
theorem partsB_le (c : UInt8) (s : List UInt8) : ∀ p ∈ partsB c s, p.length ≤ s.length := fun p hp => by
  have h := parts_sum c s
  have h2 : p.length + 1 ≤ ((partsB c s).map fun p => p.length + 1).sum := by
    have : p.length + 1 ∈ (partsB c s).map fun p => p.length + 1 := List.mem_map_of_mem hp
    exact le_sum_mem this
  omega
theorem parts_few (c : UInt8) (s : List UInt8) : (partsB c s).length ≤ s.length + 1 := by
  rw [parts_count]; have := List.count_le_length (a := c) (l := s); omega
theorem join_sum : ∀ l : List (List UInt8), (Lib.join l [44]).length ≤ (l.map fun p => p.length + 1).sum
  | [] => by simp [Lib.join_nil]
  | [x] => by simp [Lib.join_one]
  | x :: y :: l => by
    have := join_sum (y :: l)
    rw [Lib.join_length] at this ⊢
    simp only [Lib.lens, List.map_cons, List.sum_cons, List.length_cons, List.length_nil] at this ⊢
    omega
abbrev d0 : Lab := ([], [])
section
variable {a b : List Lab}
theorem merge_a (ha : a ≠ []) (h : b = [] ∨ lessK (a.getD 0 d0) (b.getD 0 d0) = true) : mergeL a b = (mergeL (a.drop 1) b).map (a.getD 0 d0 :: ·) := by
  match a, b, ha, h with
  | x :: a, [], _, _ => simp [merge_nil]
  | x :: a, y :: b, _, h =>
    have h : lessK x y = true := h.resolve_left (by simp)
    rw [mergeL, if_pos h]; rfl
theorem merge_b (hb : b ≠ []) (h0 : ¬ (b = [] ∨ (a ≠ [] ∧ lessK (a.getD 0 d0) (b.getD 0 d0) = true))) (h : a = [] ∨ lessK (b.getD 0 d0) (a.getD 0 d0) = true) : mergeL a b = (mergeL a (b.drop 1)).map (b.getD 0 d0 :: ·) := by
  match a, b, hb, h0, h with
  | [], y :: b, _, _, _ => simp [mergeL]
  | x :: a, y :: b, _, h0, h =>
    have h : lessK y x = true := h.resolve_left (by simp)
    have h1 : ¬ lessK x y = true := fun k => h0 (.inr ⟨by simp, k⟩)
    rw [mergeL, if_neg h1, if_pos h]; rfl
theorem merge_both (ha : a ≠ []) (hb : b ≠ []) (h0 : ¬ lessK (a.getD 0 d0) (b.getD 0 d0) = true) (h1 : ¬ lessK (b.getD 0 d0) (a.getD 0 d0) = true) :
    mergeL a b = if (a.getD 0 d0).2 ≠ (b.getD 0 d0).2 then none else (mergeL (a.drop 1) (b.drop 1)).map (a.getD 0 d0 :: ·) := by
  match a, b, ha, hb, h0, h1 with
  | x :: a, y :: b, _, _, h0, h1 =>
    have h0 : ¬ lessK x y = true := h0
    have h1 : ¬ lessK y x = true := h1
    rw [mergeL, if_neg h0, if_neg h1]; rfl
end
theorem map_cons {m : Option (List Lab)} {out : List Lab} {x : Lab} : (m.map (x :: ·)).map (out ++ ·) = m.map ((out ++ [x]) ++ ·) := by cases m <;> simp
theorem selT_len {l : List Lab} {n : Nat} (h : ∀ x ∈ l, x.1.length ≤ n ∧ x.2.length ≤ n) : (selT l).length ≤ l.length * (2 * n + 2) := by
  refine Nat.le_trans (join_sum _) ?_
  induction l with
  | nil => simp
  | cons x l ih =>
    have h1 := h x List.mem_cons_self
    have h2 := ih fun y hy => h y (List.mem_cons_of_mem _ hy)
    simp only [List.map_cons, List.sum_cons, List.length_cons, labT, List.length_append, List.length_nil] at h2 ⊢
    rw [Nat.add_mul]
    omega
theorem labT_len {x : Lab} {n : Nat} (h : x.1.length ≤ n ∧ x.2.length ≤ n) : (labT x).length ≤ 2 * n + 1 := by
  unfold labT; simp only [List.length_append, List.length_cons, List.length_nil]; omega
theorem map_labT (l : List Lab) : l.map (fun x => AV.S (labT x)) = strsV (l.map labT) := by simp [strsV]
theorem map_cutL (l : List (List UInt8)) : l.map (fun q => labAV (cutL q)) = labsV (l.map cutL) := by simp [labsV]
theorem cutL_len {s : List UInt8} {n : Nat} (h : s.length ≤ n) : ∀ x ∈ (partsB 44 s).map cutL, x.1.length ≤ n ∧ x.2.length ≤ n := fun x hx => by
  obtain ⟨p, hp, rfl⟩ := List.mem_map.1 hx
  have h1 := partsB_le 44 s p hp
  have h2 := cut_len p 61
  exact ⟨by show (cutV 61 p).1.length ≤ n; omega, by show (cutV 61 p).2.1.length ≤ n; omega⟩
theorem parse_nil {s : List UInt8} (h : s = []) : parseS s = ([], 0) := by unfold parseS; rw [if_pos h]
theorem parse_bad {s : List UInt8} (h : s ≠ []) {i : Nat} (hi : i < (partsB 44 s).length) (hc : (cutV 61 (partsB 44 s)[i]).2.2 = false) : parseS s = ([], 3) := by
  unfold parseS; rw [if_neg h, if_neg]
  rw [List.all_eq_true]
  intro k
  have := k _ (List.getElem_mem hi)
  rw [hc] at this
  cases this
theorem parse_all {s : List UInt8} (h : s ≠ []) (hc : ∀ i (hi : i < (partsB 44 s).length), (cutV 61 (partsB 44 s)[i]).2.2 = true) : parseS s = if erCode (labelsE selN ((partsB 44 s).map cutL)) = 0 then ((partsB 44 s).map cutL, 0) else ([], erCode (labelsE selN ((partsB 44 s).map cutL))) := by
  unfold parseS; rw [if_neg h, if_pos]
  rw [List.all_eq_true]
  intro p hp
  obtain ⟨i, hi, rfl⟩ := List.mem_iff_getElem.1 hp
  exact hc i hi
end Go.AL
