/-
What the walks of layer 3 come to: names, keys, values, images.
Conditions: none; no program is in sight.
-/
import Derived.Test.YtnjlecejhnoicaaDoorAlTab
import Derived.Test.YtnjlecejhnoicaaDoorAlLib
import Derived.Test.YtnjlecejhnoicaaDoorNumLem
import Derived.RowKit3
set_option linter.unusedVariables false
set_option linter.unusedSimpArgs false
namespace Go.AL
open Go.NumSpec Go.RowKit

def marksI : List Int := [0,0,0,0,0,0,0,0,0,0,0,0,0,7,6,0,0,0,0,0,0,0,0,0,0,0,0,0,0,0,0,0,0,0,0,0,0,0,0,0,0,0,0,0,0,0,0,0,0,0,0,0,0,0,0,0,0,0,0,0,0,0,0,4]
def marksV : List Value := marksI.map fun n => .int .i64 n
def ofV (c : UInt8) : Int := if (97 ≤ c.toNat ∧ c.toNat ≤ 122) ∨ (48 ≤ c.toNat ∧ c.toNat ≤ 57) then 7 else if 65 ≤ c.toNat ∧ c.toNat ≤ 90 then 4 else if 32 ≤ c.toNat ∧ c.toNat - 32 < 64 then marksI.getD (c.toNat - 32) 0 else 0
def smallB (c : UInt8) : Bool := decide ((97 ≤ c.toNat ∧ c.toNat ≤ 122) ∨ (48 ≤ c.toNat ∧ c.toNat ≤ 57))
def inC (w : Int) (c : UInt8) : Bool := if w = 1 then smallB c || decide (c.toNat = 45) else if w = 2 then smallB c || decide (c.toNat = 45) || decide (c.toNat = 46) else smallB c || decide (65 ≤ c.toNat ∧ c.toNat ≤ 90) || decide (c.toNat = 45) || decide (c.toNat = 46) || decide (c.toNat = 95)
theorem of_bits_all : ((List.range 256).all fun n => ([1, 2, 4].all fun w => decide (bits .and .i64 (ofV (UInt8.ofNat n)) w = 0) == !inC w (UInt8.ofNat n))) = true := by decide +kernel
theorem of_bits (c : UInt8) {w : Int} (hw : w = 1 ∨ w = 2 ∨ w = 4) : decide (bits .and .i64 (ofV c) w = 0) = !inC w c := by
  have h := List.all_eq_true.1 of_bits_all c.toNat (List.mem_range.2 c.toNat_lt)
  have h2 := List.all_eq_true.1 h w (by rcases hw with rfl | rfl | rfl <;> simp)
  simp only [UInt8.ofNat_toNat, beq_iff_eq] at h2
  exact h2
theorem atL_get {l : List UInt8} {i : Nat} (h : i < l.length) : atL l (i : Int) = ((l[i]'h).toNat : Int) := by simp [atL, h]
def nameV (s : List UInt8) : Bool := (((!decide (s = []) && decide ((s.length : Int) ≤ 16)) && s.all (inC 1)) && !decide (atL s 0 = 45)) && !decide (atL s ((s.length : Int) - 1) = 45)
def cutV (c : UInt8) (s : List UInt8) : List UInt8 × List UInt8 × Bool := if c ∈ s then (s.takeWhile (fun x => x != c), s.drop ((s.takeWhile (fun x => x != c)).length + 1), true) else (s, [], false)
def namesR : Nat → List UInt8 → Bool
  | 0, _ => false
  | k + 1, s => if nameV (cutV 47 s).1 = true then (if (cutV 47 s).2.2 = true then namesR k (cutV 47 s).2.1 else true) else false
def repoV (s : List UInt8) : Bool := decide ((s.length : Int) ≤ 24) && namesR 24 s
def tagV (s : List UInt8) : Bool := (!decide (s = []) && decide ((s.length : Int) ≤ 8)) && s.all (inC 2)
def tparts (s : List UInt8) : List UInt8 × List UInt8 × Bool := if (cutV 58 s).2.2 = true ∧ repoV (cutV 58 s).1 = true ∧ tagV (cutV 58 s).2.1 = true then ((cutV 58 s).1, (cutV 58 s).2.1, true) else ([], [], false)
def valV (s : List UInt8) : Bool := decide ((s.length : Int) ≤ 16) && s.all (inC 4)
def strsV (l : List (List UInt8)) : List AV := l.map fun s => .S s
/-- What stands between the bytes c. -/
def partsB (c : UInt8) : List UInt8 → List (List UInt8)
  | [] => [[]]
  | x :: t => if x = c then [] :: partsB c t else match partsB c t with
    | [] => [[x]]
    | p :: ps => (x :: p) :: ps
theorem partsB_ne (c : UInt8) (s : List UInt8) : partsB c s ≠ [] := by
  cases s with
  | nil => simp [partsB]
  | cons x t =>
    unfold partsB
    split
    · simp
    · split <;> simp
theorem partsB_cons {c x : UInt8} {t : List UInt8} (h : x ≠ c) : partsB c (x :: t) = (x :: (partsB c t).headD []) :: (partsB c t).tail := by
  rw [partsB, if_neg h]
  cases hp : partsB c t with
  | nil => exact absurd hp (partsB_ne c t)
  | cons p ps => rfl
theorem partsB_snoc_eq (c : UInt8) (s : List UInt8) : partsB c (s ++ [c]) = partsB c s ++ [[]] := by
  induction s with
  | nil => simp [partsB]
  | cons x t ih =>
    by_cases hx : x = c
    · subst hx; simp [partsB, ih]
    · rw [List.cons_append, partsB_cons hx, partsB_cons hx, ih]
      cases hp : partsB c t with
      | nil => exact absurd hp (partsB_ne c t)
      | cons p ps => rfl
theorem partsB_snoc_ne {c y : UInt8} (hy : y ≠ c) (s : List UInt8) : partsB c (s ++ [y]) = (partsB c s).set ((partsB c s).length - 1) ((partsB c s).getD ((partsB c s).length - 1) [] ++ [y]) := by
  induction s with
  | nil => simp [partsB, hy]
  | cons x t ih =>
    by_cases hx : x = c
    · subst hx
      have : partsB x (x :: t) = [] :: partsB x t := by rw [partsB, if_pos rfl]
      rw [List.cons_append, this]
      have : partsB x (x :: (t ++ [y])) = [] :: partsB x (t ++ [y]) := by rw [partsB, if_pos rfl]
      rw [this, ih]
      cases hp : partsB x t with
      | nil => exact absurd hp (partsB_ne x t)
      | cons p ps => simp
    · rw [List.cons_append, partsB_cons hx, partsB_cons hx, ih]
      cases hp : partsB c t with
      | nil => exact absurd hp (partsB_ne c t)
      | cons p ps =>
        cases ps with
        | nil => simp
        | cons q qs => simp
theorem partsB_cut (c : UInt8) (s : List UInt8) : partsB c s = if (cutV c s).2.2 = true then (cutV c s).1 :: partsB c (cutV c s).2.1 else [s] := by
  induction s with
  | nil => simp [cutV, partsB]
  | cons x t ih =>
    by_cases hx : x = c
    · subst hx; simp [cutV, partsB]
    · rw [partsB_cons hx, ih]
      have htw : (x :: t).takeWhile (fun y => y != c) = x :: t.takeWhile (fun y => y != c) := by rw [List.takeWhile_cons, if_pos (by simpa using hx)]
      by_cases hc : c ∈ t
      · have : c ∈ x :: t := List.mem_cons_of_mem _ hc
        simp [cutV, hc, this, htw]
      · have : c ∉ x :: t := fun h => by
          rcases List.mem_cons.1 h with e | e
          · exact hx e.symm
          · exact hc e
        simp [cutV, hc, this]
theorem cutV_len {c : UInt8} {s : List UInt8} (h : (cutV c s).2.2 = true) : s.length = (cutV c s).1.length + 1 + (cutV c s).2.1.length := by
  unfold cutV at h ⊢
  split at h
  · rename_i hc
    have := (tw_lt hc).1
    rw [if_pos hc]
    simp; omega
  · cases h
theorem cutV_no {c : UInt8} {s : List UInt8} (h : (cutV c s).2.2 = false) : (cutV c s).1 = s := by
  unfold cutV at h ⊢
  split at h
  · cases h
  · rename_i hc; rw [if_neg hc]
theorem namesR_parts (k : Nat) (s : List UInt8) : namesR k s = (decide ((partsB 47 s).length ≤ k) && (partsB 47 s).all nameV) := by
  induction k generalizing s with
  | zero =>
    have := List.length_pos_iff.2 (partsB_ne 47 s)
    rw [namesR, show decide ((partsB 47 s).length ≤ 0) = false by simp; exact partsB_ne 47 s]; rfl
  | succ k ih =>
    rw [namesR, partsB_cut 47 s]
    cases hc : (cutV 47 s).2.2 with
    | true =>
      rw [if_pos rfl, if_pos rfl, ih]
      cases hn : nameV (cutV 47 s).1 <;> simp [hn]
    | false =>
      rw [cutV_no hc]
      cases hn : nameV s <;> simp [hn]
theorem parts_sum (c : UInt8) (s : List UInt8) : ((partsB c s).map fun p => p.length + 1).sum = s.length + 1 := by
  induction s with
  | nil => simp [partsB]
  | cons x t ih =>
    by_cases hx : x = c
    · subst hx
      rw [partsB, if_pos rfl]
      simp [ih]; omega
    · rw [partsB_cons hx]
      cases hp : partsB c t with
      | nil => exact absurd hp (partsB_ne c t)
      | cons p ps =>
        rw [hp] at ih
        simp at ih ⊢
        omega
theorem nameV_len {s : List UInt8} (h : nameV s = true) : 1 ≤ s.length ∧ s.length ≤ 16 := by
  unfold nameV at h
  simp only [Bool.and_eq_true, Bool.not_eq_true', decide_eq_true_eq, decide_eq_false_iff_not] at h
  obtain ⟨⟨⟨⟨h1, h2⟩, _⟩, _⟩, _⟩ := h
  exact ⟨List.length_pos_iff.2 h1, by omega⟩
theorem sum_names {l : List (List UInt8)} (h : l.all nameV = true) : 2 * l.length ≤ (l.map fun p => p.length + 1).sum ∧ (l.map fun p => p.length + 1).sum ≤ 17 * l.length := by
  induction l with
  | nil => simp
  | cons p ps ih =>
    simp only [List.all_cons, Bool.and_eq_true] at h
    have := nameV_len h.1
    have := ih h.2
    simp
    omega
theorem parts_names {s : List UInt8} (h : (partsB 47 s).all nameV = true) : 2 * (partsB 47 s).length ≤ s.length + 1 ∧ s.length + 1 ≤ 17 * (partsB 47 s).length := by
  have := sum_names h
  rw [parts_sum] at this
  exact this
theorem key_eq (s : List UInt8) : (if 100 < s.length then false else ((partsB 47 s).all nameV && decide (((partsB 47 s).length : Int) ≤ 2))) = namesR 2 s := by
  rw [namesR_parts]
  cases h : (partsB 47 s).all nameV with
  | false => simp
  | true =>
    have := parts_names h
    by_cases h2 : (partsB 47 s).length ≤ 2
    · rw [if_neg (by omega)]; simp; omega
    · simp only [Bool.true_and, Bool.and_true]
      rw [show decide ((partsB 47 s).length ≤ 2) = false by simpa using h2, show decide (((partsB 47 s).length : Int) ≤ 2) = false by simp; omega]
      split <;> rfl
theorem repo_eq (s : List UInt8) : repoV s = (decide ((s.length : Int) ≤ 24) && (partsB 47 s).all nameV) := by
  unfold repoV
  rw [namesR_parts]
  cases h : (partsB 47 s).all nameV with
  | false => simp
  | true =>
    have := parts_names h
    by_cases h2 : (s.length : Int) ≤ 24
    · simp only [Bool.and_true]
      rw [show decide ((partsB 47 s).length ≤ 24) = true by simp; omega]; simp
    · rw [show decide ((s.length : Int) ≤ 24) = false by simpa using h2]; simp
def splitRef (s : List UInt8) : List UInt8 × List UInt8 × Bool :=
  if 100 < s.length then ([], [], false) else
  if (partsB 58 s).length ≠ 2 ∨ 24 < ((partsB 58 s).getD 0 []).length ∨ ((partsB 58 s).getD 1 []).length < 1 ∨ 8 < ((partsB 58 s).getD 1 []).length then ([], [], false) else
  if ((partsB 47 ((partsB 58 s).getD 0 [])).all nameV && ((partsB 58 s).getD 1 []).all (inC 2)) = true then ((partsB 58 s).getD 0 [], (partsB 58 s).getD 1 [], true) else ([], [], false)
theorem inC_58 : inC 2 58 = false := by decide
theorem splitRef_no {s : List UInt8} (h : (partsB 58 s).length ≠ 2 ∨ 24 < ((partsB 58 s).getD 0 []).length ∨ ((partsB 58 s).getD 1 []).length < 1 ∨ 8 < ((partsB 58 s).getD 1 []).length) : splitRef s = ([], [], false) := by
  unfold splitRef
  split <;> first | rfl | rw [if_pos h]
theorem tparts_no {s : List UInt8} (h : ¬ ((cutV 58 s).2.2 = true ∧ repoV (cutV 58 s).1 = true ∧ tagV (cutV 58 s).2.1 = true)) : tparts s = ([], [], false) := by
  unfold tparts; rw [if_neg h]
theorem split_eq (s : List UInt8) : splitRef s = tparts s := by
  have hcut := partsB_cut 58 s
  cases hc : (cutV 58 s).2.2 with
  | false =>
    rw [hc] at hcut
    rw [splitRef_no (.inl (by rw [hcut]; simp)), tparts_no (fun h => by rw [hc] at h; cases h.1)]
  | true =>
    rw [hc, if_pos rfl] at hcut
    have hlen := cutV_len hc
    have hT : tparts s = if repoV (cutV 58 s).1 = true ∧ tagV (cutV 58 s).2.1 = true then ((cutV 58 s).1, (cutV 58 s).2.1, true) else ([], [], false) := by
      unfold tparts; rw [hc]; simp only [true_and]
    rw [hT]
    generalize (cutV 58 s).1 = a at *
    generalize (cutV 58 s).2.1 = b at *
    have hcb := partsB_cut 58 b
    cases hb : (cutV 58 b).2.2 with
    | true =>
      have hmem : (58 : UInt8) ∈ b := by
        unfold cutV at hb
        split at hb
        · assumption
        · cases hb
      have htag : tagV b = false := by
        unfold tagV
        have : b.all (inC 2) = false := List.all_eq_false.2 ⟨58, hmem, by rw [inC_58]; simp⟩
        rw [this]; simp
      rw [hb, if_pos rfl] at hcb
      have := List.length_pos_iff.2 (partsB_ne 58 (cutV 58 b).2.1)
      rw [splitRef_no (.inl (by rw [hcut, hcb, List.length_cons, List.length_cons]; omega)), htag, if_neg (by simp)]
    | false =>
      rw [hb, if_neg (by simp)] at hcb
      rw [hcb] at hcut
      have g0 : (partsB 58 s).getD 0 [] = a := by rw [hcut]; rfl
      have g1 : (partsB 58 s).getD 1 [] = b := by rw [hcut]; rfl
      have gl : (partsB 58 s).length = 2 := by rw [hcut]; rfl
      by_cases h1 : a.length ≤ 24
      · by_cases h2 : b.length ≤ 8
        · by_cases h3 : b = []
          · rw [splitRef_no (.inr (.inr (.inl (by rw [g1, h3]; simp)))), if_neg (fun h => by have := h.2; rw [h3] at this; simp [tagV] at this)]
          · have := List.length_pos_iff.2 h3
            have e1 : repoV a = (partsB 47 a).all nameV := by rw [repo_eq, show decide ((a.length : Int) ≤ 24) = true by simp; omega, Bool.true_and]
            have e2 : tagV b = b.all (inC 2) := by
              unfold tagV
              rw [show decide (b = []) = false by simpa using h3, show decide ((b.length : Int) ≤ 8) = true by simp; omega]; simp
            unfold splitRef
            rw [if_neg (by omega), g0, g1, gl, if_neg (by omega), e1, e2]
            simp only [Bool.and_eq_true]
        · rw [splitRef_no (.inr (.inr (.inr (by rw [g1]; omega)))), if_neg (fun h => by have := h.2; simp [tagV] at this; omega)]
      · rw [splitRef_no (.inr (.inl (by rw [g0]; omega))), if_neg (fun h => by have := h.1; simp [repoV] at this; omega)]
theorem marks_at {i : Nat} (h : i < 64) : marksV[i]? = some (.int .i64 (marksI.getD i 0)) := by
  have hl : marksI.length = 64 := by decide
  rw [marksV, List.getElem?_map, List.getElem?_eq_getElem (by omega)]
  simp [hl, h]
theorem tw_take (c : UInt8) (s : List UInt8) : s.take (s.takeWhile (fun x => x != c)).length = s.takeWhile (fun x => x != c) := by
  obtain ⟨t, ht⟩ := List.takeWhile_prefix (fun x => x != c) (l := s)
  conv => lhs; arg 2; rw [← ht]
  simp
theorem all_take_succ {s : List UInt8} {i : Nat} {p : UInt8 → Bool} (h : i < s.length) : (s.take (i + 1)).all p = ((s.take i).all p && p s[i]) := by
  rw [List.take_succ_eq_append_getElem h, List.all_append]; simp
theorem cutV_le (c : UInt8) (s : List UInt8) : (cutV c s).1.length ≤ s.length := by
  unfold cutV
  split
  · exact (List.takeWhile_prefix _).length_le
  · exact Nat.le_refl _
theorem cutV_le2 (c : UInt8) (s : List UInt8) : (cutV c s).2.1.length ≤ s.length := by
  unfold cutV
  split <;> simp
def saysV (b : Bool) (c : Int) : Int := if b = true then 0 else c
def sameV (a b : List UInt8) : Bool := ((tparts a).2.2 && (tparts b).2.2) && decide ((tparts a).1 = (tparts b).1)
section
variable {P : Program} {N : Nat} {env : Env} {st : St} {o : Oper}
theorem PStep.ofV {V V' : AV} (h : PStep P N o env st V) (e : V = V') : PStep P N o env st V' := e ▸ h
end
theorem name_no {s : List UInt8} (h : (((s.length : Int) < 1 ∨ 16 < (s.length : Int)) ∨ atL s 0 = 45) ∨ atL s ((s.length : Int) - 1) = 45) : nameV s = false := by
  unfold nameV
  rcases h with ((h | h) | h) | h
  · have : s = [] := List.eq_nil_of_length_eq_zero (by omega)
    subst this; rfl
  · rw [show decide ((s.length : Int) ≤ 16) = false by simp; omega]; simp
  · rw [show decide (atL s 0 = 45) = true by simpa using h]; simp
  · rw [show decide (atL s ((s.length : Int) - 1) = 45) = true by simpa using h]; simp
theorem name_all {s : List UInt8} (h : ¬ ((((s.length : Int) < 1 ∨ 16 < (s.length : Int)) ∨ atL s 0 = 45) ∨ atL s ((s.length : Int) - 1) = 45)) : nameV s = s.all (inC 1) := by
  unfold nameV
  have h0 : s ≠ [] := fun e => by subst e; exact h (.inl (.inl (.inl (by decide))))
  rw [show decide (s = []) = false by simpa using h0, show decide ((s.length : Int) ≤ 16) = true by simp; omega, show decide (atL s 0 = 45) = false by simp; omega, show decide (atL s ((s.length : Int) - 1) = 45) = false by simp; omega]
  simp
theorem inC1 (c : UInt8) : inC 1 c = (smallB c || decide ((c.toNat : Int) = 45)) := by
  unfold inC; rw [if_pos rfl]; congr 1; exact decide_eq_decide.2 (by omega)
theorem inC2 (c : UInt8) : inC 2 c = ((smallB c || decide ((c.toNat : Int) = 45)) || decide ((c.toNat : Int) = 46)) := by
  unfold inC; rw [if_neg (by decide), if_pos rfl]
  congr 1
  · congr 1; exact decide_eq_decide.2 (by omega)
  · exact decide_eq_decide.2 (by omega)
theorem parts_le {c : UInt8} {s p : List UInt8} (h : p ∈ partsB c s) : p.length ≤ s.length := by
  have h1 := parts_sum c s
  have h2 : ∀ l : List (List UInt8), p ∈ l → p.length + 1 ≤ (l.map fun p => p.length + 1).sum := fun l => by
    induction l with
    | nil => intro h; simp at h
    | cons q l ih =>
      intro h
      rcases List.mem_cons.1 h with rfl | h
      · simp
      · have := ih h; simp; omega
  have := h2 _ h
  omega
theorem strsV_len (l : List (List UInt8)) : (strsV l).length = l.length := by simp [strsV]
theorem strsV_at {l : List (List UInt8)} {i : Nat} (h : i < l.length) : (strsV l)[i]? = some (.S (l.getD i [])) := by
  simp [strsV, h]
theorem take_drop_one {s : List UInt8} {i : Nat} (h : i < s.length) : (s.take (i + 1)).drop i = [s[i]] := by
  rw [List.take_succ_eq_append_getElem h, List.drop_append_of_le_length (by simp; omega)]
  simp
theorem parts_next_eq {c : UInt8} {s : List UInt8} {i : Nat} (h : i < s.length) (hc : s[i] = c) : strsV (partsB c (s.take (i + 1))) = strsV (partsB c (s.take i)) ++ [.S []] := by
  rw [List.take_succ_eq_append_getElem h, hc, partsB_snoc_eq]; simp [strsV]
theorem parts_next_ne {c : UInt8} {s : List UInt8} {i : Nat} (h : i < s.length) (hc : s[i] ≠ c) : strsV (partsB c (s.take (i + 1))) = (strsV (partsB c (s.take i))).set ((partsB c (s.take i)).length - 1) (.S ((partsB c (s.take i)).getD ((partsB c (s.take i)).length - 1) [] ++ [s[i]])) := by
  rw [List.take_succ_eq_append_getElem h, partsB_snoc_ne hc]; simp [strsV, List.map_set]
theorem parts_pos (c : UInt8) (s : List UInt8) : 0 < (partsB c s).length := List.length_pos_iff.2 (partsB_ne c s)
def valR (s : List UInt8) : Bool := (s.take 17).all (inC 4) && decide ((s.length : Int) ≤ 16)
theorem val_eq (s : List UInt8) : valR s = valV s := by
  unfold valR valV
  by_cases h : (s.length : Int) ≤ 16
  · rw [List.take_of_length_le (by omega), Bool.and_comm]
  · rw [show decide ((s.length : Int) ≤ 16) = false by simpa using h]; simp
theorem inC4 (c : UInt8) (h : ((((smallB c = false ∧ ((c.toNat : Int) < 65 ∨ 90 < (c.toNat : Int))) ∧ ¬ (c.toNat : Int) = 45) ∧ ¬ (c.toNat : Int) = 46) ∧ ¬ (c.toNat : Int) = 95)) : inC 4 c = false := by
  obtain ⟨⟨⟨⟨h1, h2⟩, h3⟩, h4⟩, h5⟩ := h
  unfold inC
  rw [if_neg (by decide), if_neg (by decide), h1, show decide (65 ≤ c.toNat ∧ c.toNat ≤ 90) = false by simp; omega, show decide (c.toNat = 45) = false by simp; omega, show decide (c.toNat = 46) = false by simp; omega, show decide (c.toNat = 95) = false by simp; omega]
  rfl
theorem inC4' (c : UInt8) (h : ¬ ((((smallB c = false ∧ ((c.toNat : Int) < 65 ∨ 90 < (c.toNat : Int))) ∧ ¬ (c.toNat : Int) = 45) ∧ ¬ (c.toNat : Int) = 46) ∧ ¬ (c.toNat : Int) = 95)) : inC 4 c = true := by
  unfold inC
  rw [if_neg (by decide), if_neg (by decide)]
  cases h1 : smallB c with
  | true => simp
  | false =>
    simp only [h1, true_and] at h
    simp only [Bool.false_or, Bool.or_eq_true, decide_eq_true_eq]
    omega
/-! The laws -/
theorem tw_append {c : UInt8} {a b : List UInt8} (h : c ∉ a) : (a ++ c :: b).takeWhile (fun x => x != c) = a := by
  induction a with
  | nil => simp
  | cons x t ih =>
    have hx : x ≠ c := fun e => h (e ▸ List.mem_cons_self)
    rw [List.cons_append, List.takeWhile_cons, if_pos (by simpa using hx), ih fun hm => h (List.mem_cons_of_mem _ hm)]
theorem cutV_sep {c : UInt8} {a b : List UInt8} (h : c ∉ a) : cutV c (a ++ c :: b) = (a, b, true) := by
  unfold cutV
  rw [if_pos (by simp), tw_append h]
  simp
theorem cutV_none {c : UInt8} {a : List UInt8} (h : c ∉ a) : cutV c a = (a, [], false) := by unfold cutV; rw [if_neg h]
theorem parts_sep {c : UInt8} {a b : List UInt8} (h : c ∉ a) : partsB c (a ++ c :: b) = a :: partsB c b := by rw [partsB_cut, cutV_sep h, if_pos rfl]
theorem parts_none {c : UInt8} {a : List UInt8} (h : c ∉ a) : partsB c a = [a] := by rw [partsB_cut, cutV_none h, if_neg (by simp)]
theorem cutV_join {c : UInt8} {s : List UInt8} (h : (cutV c s).2.2 = true) : (cutV c s).1 ++ c :: (cutV c s).2.1 = s := by
  unfold cutV at h ⊢
  split at h
  · rename_i hc
    rw [if_pos hc]
    obtain ⟨h1, h2⟩ := tw_lt hc
    dsimp only
    have h3 : s.drop (s.takeWhile (fun x => x != c)).length = c :: s.drop ((s.takeWhile (fun x => x != c)).length + 1) := by
      rw [List.drop_eq_getElem_cons h1]
      congr 1
      rw [List.getElem?_eq_getElem h1] at h2
      exact Option.some.inj h2
    have h4 := List.take_append_drop (s.takeWhile (fun x => x != c)).length s
    rw [tw_take, h3] at h4
    exact h4
  · cases h
theorem name_inC {s : List UInt8} (h : nameV s = true) : s.all (inC 1) = true := by
  unfold nameV at h
  simp only [Bool.and_eq_true] at h
  exact h.1.1.2
theorem not_mem_of {p : UInt8 → Bool} {s : List UInt8} {c : UInt8} (h : s.all p = true) (hc : p c = false) : c ∉ s := fun hm => by
  have := List.all_eq_true.1 h c hm
  rw [hc] at this; cases this
theorem name_no47 {s : List UInt8} (h : nameV s = true) : (47 : UInt8) ∉ s := not_mem_of (name_inC h) (by decide)
theorem name_no58 {s : List UInt8} (h : nameV s = true) : (58 : UInt8) ∉ s := not_mem_of (name_inC h) (by decide)
theorem key_name {s : List UInt8} (h : nameV s = true) : namesR 2 s = true := by rw [namesR_parts, parts_none (name_no47 h)]; simp [h]
theorem inC_14_all : ((List.range 256).all fun n => !inC 1 (UInt8.ofNat n) || inC 4 (UInt8.ofNat n)) = true := by decide +kernel
theorem inC_14 (c : UInt8) (h : inC 1 c = true) : inC 4 c = true := by
  have h1 := List.all_eq_true.1 inC_14_all c.toNat (List.mem_range.2 c.toNat_lt)
  simp only [UInt8.ofNat_toNat, h, Bool.not_true, Bool.false_or] at h1
  exact h1
theorem val_name {s : List UInt8} (h : nameV s = true) : valV s = true := by
  have h1 := nameV_len h
  unfold valV
  rw [show decide ((s.length : Int) ≤ 16) = true by simp; omega, Bool.true_and, List.all_eq_true]
  exact fun c hc => inC_14 c (List.all_eq_true.1 (name_inC h) c hc)
theorem repo_name {s : List UInt8} (h : nameV s = true) : repoV s = true := by
  have h1 := nameV_len h
  rw [repo_eq, parts_none (name_no47 h), show decide ((s.length : Int) ≤ 24) = true by simp; omega]
  simp [h]
theorem image_name {s : List UInt8} (h : nameV s = true) : (tparts (s ++ [58, 49])).2.2 = true := by
  unfold tparts
  rw [show s ++ [58, 49] = s ++ 58 :: [49] from rfl, cutV_sep (name_no58 h), if_pos ⟨rfl, repo_name h, show tagV [49] = true from by decide +kernel⟩]
theorem key_two {s t : List UInt8} (h : nameV s = true) (k : nameV t = true) : namesR 2 (s ++ [47] ++ t) = true := by
  rw [show s ++ [47] ++ t = s ++ 47 :: t by simp, namesR_parts, parts_sep (name_no47 h), parts_none (name_no47 k)]; simp [h, k]
theorem key_three {s t : List UInt8} (h : nameV s = true) (k : nameV t = true) : namesR 2 (s ++ [47] ++ t ++ [47] ++ s) = false := by
  rw [show s ++ [47] ++ t ++ [47] ++ s = s ++ 47 :: (t ++ 47 :: s) by simp, namesR_parts, parts_sep (name_no47 h), parts_sep (name_no47 k), parts_none (name_no47 h)]; simp
theorem name_two (s t : List UInt8) : nameV (s ++ [47] ++ t) = false := by
  cases h : nameV (s ++ [47] ++ t) with
  | false => rfl
  | true => exact absurd (by simp) (name_no47 h)
theorem name_mk {s : List UInt8} (h1 : 1 ≤ s.length) (h2 : s.length ≤ 16) (h3 : s.all (inC 1) = true) (h4 : ¬ atL s 0 = 45) (h5 : ¬ atL s ((s.length : Int) - 1) = 45) : nameV s = true := by
  rw [name_all (by omega), h3]
theorem name_ends {s : List UInt8} (h : nameV s = true) : ¬ atL s 0 = 45 ∧ ¬ atL s ((s.length : Int) - 1) = 45 := by
  unfold nameV at h
  simp only [Bool.and_eq_true, Bool.not_eq_true', decide_eq_false_iff_not] at h
  exact ⟨h.1.2, h.2⟩
theorem name_take {s : List UInt8} {i : Nat} (h : nameV s = true) (h1 : 1 ≤ i) (h2 : i < s.length) (h3 : ¬ atL s ((i : Int) - 1) = 45) : nameV (s.take i) = true := by
  have hl := nameV_len h
  have hlen : (s.take i).length = i := by simp; omega
  refine name_mk (by omega) (by omega) ?_ ?_ ?_
  · rw [List.all_eq_true]
    exact fun c hc => List.all_eq_true.1 (name_inC h) c (List.mem_of_mem_take hc)
  · have := (name_ends h).1
    simp only [atL, List.getD_eq_getElem?_getD] at this ⊢
    rw [List.getElem?_take_of_lt (by simp; omega)]
    exact this
  · rw [hlen]
    simp only [atL, List.getD_eq_getElem?_getD] at h3 ⊢
    rw [List.getElem?_take_of_lt (by omega)]
    exact h3
theorem name_drop {s : List UInt8} {i : Nat} (h : nameV s = true) (h1 : 1 ≤ i) (h2 : i < s.length) (h3 : ¬ atL s (i : Int) = 45) : nameV (s.drop i) = true := by
  have hl := nameV_len h
  have hlen : (s.drop i).length = s.length - i := by simp
  refine name_mk (by omega) (by omega) ?_ ?_ ?_
  · rw [List.all_eq_true]
    exact fun c hc => List.all_eq_true.1 (name_inC h) c (List.mem_of_mem_drop hc)
  · simp only [atL, List.getD_eq_getElem?_getD, List.getElem?_drop] at h3 ⊢
    rw [show i + (0 : Int).toNat = (i : Int).toNat by omega]
    exact h3
  · have := (name_ends h).2
    simp only [atL, List.getD_eq_getElem?_getD, List.getElem?_drop] at this ⊢
    rw [show i + (((s.drop i).length : Int) - 1).toNat = ((s.length : Int) - 1).toNat by omega]
    exact this
theorem tparts_cases (s : List UInt8) : ((tparts s).2.2 = false ∧ (tparts s).1 = [] ∧ (tparts s).2.1 = []) ∨ ((tparts s).2.2 = true ∧ (tparts s).1 ++ [58] ++ (tparts s).2.1 = s ∧ repoV (tparts s).1 = true) := by
  unfold tparts
  split
  · rename_i h
    refine .inr ⟨rfl, ?_, h.2.1⟩
    rw [List.append_assoc]
    exact cutV_join h.1
  · exact .inl ⟨rfl, rfl, rfl⟩
theorem inC_split : True := trivial
theorem repo_no58 {s : List UInt8} (h : repoV s = true) : (58 : UInt8) ∉ s := by
  rw [repo_eq] at h
  simp only [Bool.and_eq_true] at h
  have key : ∀ n, ∀ s : List UInt8, s.length ≤ n → (partsB 47 s).all nameV = true → (58 : UInt8) ∉ s := fun n => by
    induction n with
    | zero => intro s hs _; have : s = [] := List.eq_nil_of_length_eq_zero (by omega); subst this; simp
    | succ n ih =>
      intro s hs hall
      cases hc : (cutV 47 s).2.2 with
      | false =>
        rw [partsB_cut, hc, if_neg (by simp)] at hall
        exact name_no58 (by simpa using hall)
      | true =>
        rw [partsB_cut, hc, if_pos rfl] at hall
        simp only [List.all_cons, Bool.and_eq_true] at hall
        have hl := cutV_len hc
        have h2 := ih _ (by omega) hall.2
        have hj := cutV_join hc
        rw [← hj]
        simp only [List.mem_append, List.mem_cons, not_or]
        exact ⟨name_no58 hall.1, by decide, h2⟩
  exact key _ s (Nat.le_refl _) h.2
theorem image_x {r : List UInt8} (h : repoV r = true) : tparts (r ++ [58, 120]) = (r, [120], true) := by
  unfold tparts
  rw [show r ++ [58, 120] = r ++ 58 :: [120] from rfl, cutV_sep (repo_no58 h), if_pos ⟨rfl, h, show tagV [120] = true from by decide +kernel⟩]
theorem sameV_comm (a b : List UInt8) : sameV a b = sameV b a := by
  unfold sameV
  rw [Bool.and_comm (tparts a).2.2]
  congr 1
  exact decide_eq_decide.2 eq_comm
theorem says_zero {b : Bool} {c : Int} (hc : c ≠ 0) : saysV b c = 0 ↔ b = true := by
  unfold saysV
  cases b
  · simp [hc]
  · simp
/-! The chapter's examples -/
theorem w03a : tparts [108, 105, 98, 47, 119, 101, 98, 58, 49, 46, 48] = ([108, 105, 98, 47, 119, 101, 98], [49, 46, 48], true) := by decide +kernel
theorem w03b : nameV [119, 101, 98, 45, 49] = true := by decide +kernel
theorem w03c : nameV [45, 119, 101, 98] = false := by decide +kernel
theorem w03d : tparts [119, 101, 98] = ([], [], false) := by decide +kernel
theorem w03e : namesR 2 [97, 47, 98] = true := by decide +kernel
theorem w03f : valV [88, 95, 49] = true := by decide +kernel
theorem tparts_len (s : List UInt8) : (tparts s).1.length ≤ s.length ∧ (tparts s).2.1.length ≤ s.length := by
  unfold tparts
  split
  · exact ⟨cutV_le 58 s, cutV_le2 58 s⟩
  · simp
end Go.AL
