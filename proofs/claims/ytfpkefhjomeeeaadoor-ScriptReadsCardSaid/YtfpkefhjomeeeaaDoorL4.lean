/- A part of the proof: laws of the logic and of the data, no program in sight.
Conditions: none beyond each theorem's own. -/
import Derived.Test.YtfpkefhjomeeeaaDoorL3
import Derived.LaidMore
import Derived.Lib.LaidTab
import Derived.OpenShut
/-
Labels: which are among others, which fit, which stand behind a key; two selectors made one.
Conditions: none; no program is in sight.
-/
set_option linter.unusedVariables false
set_option linter.unusedSimpArgs false
namespace Go.AL
open Go.RowKit Go.NumSpec
def coversL (a b : List Lab) : Bool := a.all fun x => decide (x ∈ b)
theorem covers_bad {a b : List Lab} {i : Nat} (h : i < a.length) (hn : a[i] ∉ b) : coversL a b = false := List.all_eq_false.2 ⟨_, List.getElem_mem h, by simpa using hn⟩
theorem covers_all {a b : List Lab} (h : ∀ i (hi : i < a.length), a[i] ∈ b) : coversL a b = true := List.all_eq_true.2 fun x hx => by
  obtain ⟨i, hi, rfl⟩ := List.mem_iff_getElem.1 hx
  exact decide_eq_true (h i hi)
theorem covers_iff {a b : List Lab} : coversL a b = true ↔ ∀ x ∈ a, x ∈ b := by simp [coversL, List.all_eq_true]
def getL (l : List Lab) (k : List UInt8) : List UInt8 × Bool := match l with | [] => ([], false) | x :: l => if x.1 = k then (x.2, true) else getL l k
def keyI (l : List Lab) (k : List UInt8) : Int := match l with | [] => -1 | x :: l => if x.1 = k then 0 else if 0 ≤ keyI l k then keyI l k + 1 else -1
theorem keyI_hit {k : List UInt8} : ∀ {l : List Lab} {i : Nat} (h : i < l.length), l[i].1 = k → (∀ j (hj : j < i), (l[j]'(by omega)).1 ≠ k) → keyI l k = (i : Int) ∧ getL l k = (l[i].2, true)
  | x :: l, 0, h, he, hn => by simp only [List.getElem_cons_zero] at he ⊢; unfold keyI getL; rw [if_pos he, if_pos he]; exact ⟨rfl, rfl⟩
  | x :: l, i + 1, h, he, hn => by
    have h0 : x.1 ≠ k := by simpa using hn 0 (by omega)
    obtain ⟨e1, e2⟩ := keyI_hit (k := k) (l := l) (i := i) (by simpa using h) (by simpa using he) fun j hj => by simpa using hn (j + 1) (by omega)
    unfold keyI getL
    rw [if_neg h0, if_neg h0, e1, e2, if_pos (by omega)]
    exact ⟨by omega, rfl⟩
theorem keyI_none {k : List UInt8} : ∀ {l : List Lab}, (∀ j (hj : j < l.length), l[j].1 ≠ k) → keyI l k = -1 ∧ getL l k = ([], false)
  | [], _ => ⟨rfl, rfl⟩
  | x :: l, hn => by
    have h0 : x.1 ≠ k := hn 0 (Nat.zero_lt_succ _)
    obtain ⟨e1, e2⟩ := keyI_none (k := k) (l := l) fun j hj => hn (j + 1) (Nat.succ_lt_succ hj)
    unfold keyI getL
    rw [if_neg h0, if_neg h0, e1, e2]
    exact ⟨rfl, rfl⟩
theorem keyI_spec (l : List Lab) (k : List UInt8) : (keyI l k = -1 ∧ getL l k = ([], false)) ∨ ∃ i, ∃ h : i < l.length, keyI l k = (i : Int) ∧ getL l k = (l[i].2, true) := by
  by_cases h : ∃ i, ∃ h : i < l.length, l[i].1 = k
  · refine .inr ?_
    have : ∃ i, (∃ h : i < l.length, l[i].1 = k) ∧ ∀ j, j < i → ¬ ∃ h : j < l.length, l[j].1 = k := by
      obtain ⟨i, hi⟩ := h
      induction i using Nat.strongRecOn with
      | ind i ih =>
        by_cases h2 : ∃ j, j < i ∧ ∃ h : j < l.length, l[j].1 = k
        · obtain ⟨j, h3, h4⟩ := h2; exact ih j h3 h4
        · exact ⟨i, hi, fun j hj hh => h2 ⟨j, hj, hh⟩⟩
    obtain ⟨i, ⟨hi, he⟩, hn⟩ := this
    obtain ⟨e1, e2⟩ := keyI_hit hi he fun j hj hh => hn j hj ⟨by omega, hh⟩
    exact ⟨i, hi, e1, e2⟩
  · exact .inl (keyI_none fun j hj hh => h ⟨j, hj, hh⟩)
abbrev lessK (x y : Lab) : Bool := Op.bytesLess x.1 y.1
/-- The program's way. -/
def mergeL : List Lab → List Lab → Option (List Lab)
  | [], b => some b
  | x :: a, [] => some (x :: a)
  | x :: a, y :: b => if lessK x y = true then (mergeL a (y :: b)).map (x :: ·) else if lessK y x = true then (mergeL (x :: a) b).map (y :: ·) else if x.2 ≠ y.2 then none else (mergeL a b).map (x :: ·)
  termination_by a b => a.length + b.length
theorem merge_nil (a : List Lab) : mergeL a [] = some a := by cases a <;> simp [mergeL]
/-- The document's way. -/
def insL (y : Lab) (out : List Lab) : List Lab := (out.takeWhile fun x => lessK x y) ++ (y :: out.dropWhile fun x => lessK x y)
def refM (a : List Lab) : List Lab → List Lab → Option (List Lab)
  | out, [] => some out
  | out, y :: b => if (getL a y.1).2 = true ∧ (getL a y.1).1 ≠ y.2 then none else if (getL a y.1).2 = true then refM a out b else refM a (insL y out) b
def mergeAV (m : Option (List Lab)) : AV := match m with | some l => .tup [.sl (labsV l), .bool true] | none => .tup [.sl [], .bool false]
def labT (x : Lab) : List UInt8 := (x.1 ++ [61]) ++ x.2
def selT (l : List Lab) : List UInt8 := Lib.join (l.map labT) [44]
def cutL (p : List UInt8) : Lab := ((cutV 61 p).1, (cutV 61 p).2.1)
abbrev selN : List UInt8 := [115, 101, 108]
def parseS (s : List UInt8) : List Lab × Int :=
  if s = [] then ([], 0) else if (partsB 44 s).all (fun p => (cutV 61 p).2.2) = true then
    (if erCode (labelsE selN ((partsB 44 s).map cutL)) = 0 then ((partsB 44 s).map cutL, 0) else ([], erCode (labelsE selN ((partsB 44 s).map cutL)))) else ([], 3)
abbrev parseAV (p : List Lab × Int) : AV := .tup [.sl (labsV p.1), .int .i64 p.2]
theorem cut_len (s : List UInt8) (c : UInt8) : (cutV c s).1.length ≤ s.length ∧ (cutV c s).2.1.length ≤ s.length := by
  unfold cutV; split
  · simp only [List.length_drop]; exact ⟨List.Sublist.length_le (List.takeWhile_sublist _), by omega⟩
  · simp
theorem le_sum_mem : ∀ {l : List Nat} {x : Nat}, x ∈ l → x ≤ l.sum
  | y :: l, x, h => by
    rw [List.sum_cons]
    rcases List.mem_cons.1 h with h | h
    · omega
    · have := le_sum_mem h; omega
theorem partsB_le (c : UInt8) (s : List UInt8) : ∀ p ∈ partsB c s, p.length ≤ s.length := fun p hp => by
  have h := parts_sum c s
  have h2 : p.length + 1 ≤ ((partsB c s).map fun p => p.length + 1).sum := by
    have : p.length + 1 ∈ (partsB c s).map fun p => p.length + 1 := List.mem_map_of_mem hp
    exact le_sum_mem this
  omega
theorem parts_few (c : UInt8) (s : List UInt8) : (partsB c s).length ≤ s.length + 1 := by
  rw [parts_count]; have := List.count_le_length (a := c) (l := s); omega
theorem join_sum : ∀ l : List (List UInt8), (Lib.join l [44]).length ≤ (l.map fun p => p.length + 1).sum
  | [] => by simp [Lib.join_nil]
  | [x] => by simp [Lib.join_one]
  | x :: y :: l => by
    have := join_sum (y :: l)
    rw [Lib.join_length] at this ⊢
    simp only [Lib.lens, List.map_cons, List.sum_cons, List.length_cons, List.length_nil] at this ⊢
    omega
abbrev d0 : Lab := ([], [])
section
variable {a b : List Lab}
theorem merge_a (ha : a ≠ []) (h : b = [] ∨ lessK (a.getD 0 d0) (b.getD 0 d0) = true) : mergeL a b = (mergeL (a.drop 1) b).map (a.getD 0 d0 :: ·) := by
  match a, b, ha, h with
  | x :: a, [], _, _ => simp [merge_nil]
  | x :: a, y :: b, _, h =>
    have h : lessK x y = true := h.resolve_left (by simp)
    rw [mergeL, if_pos h]; rfl
theorem merge_b (hb : b ≠ []) (h0 : ¬ (b = [] ∨ (a ≠ [] ∧ lessK (a.getD 0 d0) (b.getD 0 d0) = true))) (h : a = [] ∨ lessK (b.getD 0 d0) (a.getD 0 d0) = true) : mergeL a b = (mergeL a (b.drop 1)).map (b.getD 0 d0 :: ·) := by
  match a, b, hb, h0, h with
  | [], y :: b, _, _, _ => simp [mergeL]
  | x :: a, y :: b, _, h0, h =>
    have h : lessK y x = true := h.resolve_left (by simp)
    have h1 : ¬ lessK x y = true := fun k => h0 (.inr ⟨by simp, k⟩)
    rw [mergeL, if_neg h1, if_pos h]; rfl
theorem merge_both (ha : a ≠ []) (hb : b ≠ []) (h0 : ¬ lessK (a.getD 0 d0) (b.getD 0 d0) = true) (h1 : ¬ lessK (b.getD 0 d0) (a.getD 0 d0) = true) :
    mergeL a b = if (a.getD 0 d0).2 ≠ (b.getD 0 d0).2 then none else (mergeL (a.drop 1) (b.drop 1)).map (a.getD 0 d0 :: ·) := by
  match a, b, ha, hb, h0, h1 with
  | x :: a, y :: b, _, _, h0, h1 =>
    have h0 : ¬ lessK x y = true := h0
    have h1 : ¬ lessK y x = true := h1
    rw [mergeL, if_neg h0, if_neg h1]; rfl
end
theorem map_cons {m : Option (List Lab)} {out : List Lab} {x : Lab} : (m.map (x :: ·)).map (out ++ ·) = m.map ((out ++ [x]) ++ ·) := by cases m <;> simp
theorem selT_len {l : List Lab} {n : Nat} (h : ∀ x ∈ l, x.1.length ≤ n ∧ x.2.length ≤ n) : (selT l).length ≤ l.length * (2 * n + 2) := by
  refine Nat.le_trans (join_sum _) ?_
  induction l with
  | nil => simp
  | cons x l ih =>
    have h1 := h x List.mem_cons_self
    have h2 := ih fun y hy => h y (List.mem_cons_of_mem _ hy)
    simp only [List.map_cons, List.sum_cons, List.length_cons, labT, List.length_append, List.length_nil] at h2 ⊢
    rw [Nat.add_mul]
    omega
theorem labT_len {x : Lab} {n : Nat} (h : x.1.length ≤ n ∧ x.2.length ≤ n) : (labT x).length ≤ 2 * n + 1 := by
  unfold labT; simp only [List.length_append, List.length_cons, List.length_nil]; omega
theorem map_labT (l : List Lab) : l.map (fun x => AV.S (labT x)) = strsV (l.map labT) := by simp [strsV]
theorem map_cutL (l : List (List UInt8)) : l.map (fun q => labAV (cutL q)) = labsV (l.map cutL) := by simp [labsV]
theorem cutL_len {s : List UInt8} {n : Nat} (h : s.length ≤ n) : ∀ x ∈ (partsB 44 s).map cutL, x.1.length ≤ n ∧ x.2.length ≤ n := fun x hx => by
  obtain ⟨p, hp, rfl⟩ := List.mem_map.1 hx
  have h1 := partsB_le 44 s p hp
  have h2 := cut_len p 61
  exact ⟨by show (cutV 61 p).1.length ≤ n; omega, by show (cutV 61 p).2.1.length ≤ n; omega⟩
theorem parse_nil {s : List UInt8} (h : s = []) : parseS s = ([], 0) := by unfold parseS; rw [if_pos h]
theorem parse_bad {s : List UInt8} (h : s ≠ []) {i : Nat} (hi : i < (partsB 44 s).length) (hc : (cutV 61 (partsB 44 s)[i]).2.2 = false) : parseS s = ([], 3) := by
  unfold parseS; rw [if_neg h, if_neg]
  rw [List.all_eq_true]
  intro k
  have := k _ (List.getElem_mem hi)
  rw [hc] at this
  cases this
theorem parse_all {s : List UInt8} (h : s ≠ []) (hc : ∀ i (hi : i < (partsB 44 s).length), (cutV 61 (partsB 44 s)[i]).2.2 = true) : parseS s = if erCode (labelsE selN ((partsB 44 s).map cutL)) = 0 then ((partsB 44 s).map cutL, 0) else ([], erCode (labelsE selN ((partsB 44 s).map cutL))) := by
  unfold parseS; rw [if_neg h, if_pos]
  rw [List.all_eq_true]
  intro p hp
  obtain ⟨i, hi, rfl⟩ := List.mem_iff_getElem.1 hp
  exact hc i hi
end Go.AL

/-
Selectors: labels in order; two made one: what fits it.
Conditions: none; no program is in sight.
-/
set_option linter.unusedVariables false
set_option linter.unusedSimpArgs false
namespace Go.AL
open Go.RowKit Go.NumSpec
def mergeV (a b : List Lab) : List Lab × Bool := match mergeL a b with | some l => (l, true) | none => ([], false)
theorem mergeAV_eq (a b : List Lab) : mergeAV (mergeL a b) = .tup [.sl (labsV (mergeV a b).1), .bool (mergeV a b).2] := by
  unfold mergeV mergeAV; cases mergeL a b <;> rfl
theorem bytesLess_trans : ∀ {a b c : List UInt8}, Op.bytesLess a b = true → Op.bytesLess b c = true → Op.bytesLess a c = true
  | _, [], _, h, _ => by cases ‹List UInt8› <;> simp [Op.bytesLess] at h
  | _, _ :: _, [], _, h => by simp [Op.bytesLess] at h
  | [], _ :: _, _ :: _, _, _ => rfl
  | x :: a, y :: b, z :: c, h, k => by
    unfold Op.bytesLess at h k ⊢
    simp only [Bool.or_eq_true, decide_eq_true_eq, Bool.and_eq_true, beq_iff_eq] at h k ⊢
    simp only [u8_lt] at h k ⊢
    rcases h with h | ⟨rfl, h⟩
    · rcases k with k | ⟨rfl, k⟩
      · exact .inl (by omega)
      · exact .inl h
    · rcases k with k | ⟨rfl, k⟩
      · exact .inl k
      · exact .inr ⟨rfl, bytesLess_trans h k⟩
abbrev sortedL (l : List Lab) : Prop := l.Pairwise fun x y => lessK x y = true
theorem lessK_ne {x y : Lab} (h : lessK x y = true) : x.1 ≠ y.1 := fun e => (bytesLess_lt h).2 e.symm
theorem sorted_of {l : List Lab} (h : ∀ i (hi : i < l.length), 0 < i → lessK (l[i - 1]'(by omega)) l[i] = true) : sortedL l := by
  refine List.pairwise_iff_getElem.2 fun i j hi hj hij => ?_
  induction j with
  | zero => omega
  | succ j ih =>
    have h1 := h (j + 1) hj (by omega)
    simp only [Nat.add_sub_cancel] at h1
    rcases Nat.lt_or_ge i j with k | k
    · exact bytesLess_trans (ih (by omega) k) h1
    · have : i = j := by omega
      subst this; exact h1
theorem label_out {name : List UInt8} {l : List Lab} {i : Nat} (hi : i < l.length) (h : labelE name l i = none) : namesR 2 l[i].1 = true ∧ (∀ h0 : 0 < i, lessK (l[i - 1]'(by omega)) l[i] = true) ∧ valV l[i].2 = true := by
  cases h1 : namesR 2 l[i].1 with
  | false => rw [label_key hi h1] at h; cases h
  | true =>
    have h2 : ∀ h0 : 0 < i, lessK (l[i - 1]'(by omega)) l[i] = true := fun h0 => by
      cases h2 : lessK (l[i - 1]'(by omega)) l[i] with
      | true => rfl
      | false => rw [label_order hi h1 h0 h2] at h; cases h
    refine ⟨rfl, h2, ?_⟩
    cases h3 : valV l[i].2 with
    | true => rfl
    | false => rw [label_val hi h1 h2 h3] at h; cases h
theorem labels_out {name : List UInt8} {l : List Lab} (h : labelsE name l = none) : l.length ≤ 4 ∧ sortedL l ∧ ∀ x ∈ l, namesR 2 x.1 = true ∧ valV x.2 = true := by
  cases ha : atMostE name (l.length : Int) 0 4 with
  | some x => rw [labelsE_bad (by rw [ha]; simp), ha] at h; cases h
  | none =>
    rw [labelsE_good ha] at h
    have hl : l.length ≤ 4 := by
      unfold atMostE at ha
      split at ha
      · cases ha
      · omega
    have hall := eachE_none h
    refine ⟨hl, sorted_of fun i hi h0 => (label_out hi (hall i hi)).2.1 h0, fun x hx => ?_⟩
    obtain ⟨i, hi, rfl⟩ := List.mem_iff_getElem.1 hx
    exact ⟨(label_out hi (hall i hi)).1, (label_out hi (hall i hi)).2.2⟩
theorem right_len {name : List UInt8} {l : List Lab} (h : labelsE name l = none) : l.length ≤ 4 := (labels_out h).1
theorem keys_one {l : List Lab} (h : sortedL l) {x y : Lab} (hx : x ∈ l) (hy : y ∈ l) (hk : x.1 = y.1) : x = y := by
  obtain ⟨i, hi, rfl⟩ := List.mem_iff_getElem.1 hx
  obtain ⟨j, hj, rfl⟩ := List.mem_iff_getElem.1 hy
  have h := List.pairwise_iff_getElem.1 h
  rcases Nat.lt_trichotomy i j with k | k | k
  · exact absurd hk (lessK_ne (h i j hi hj k))
  · subst k; rfl
  · exact absurd hk.symm (lessK_ne (h j i hj hi k))
theorem neither {x y : Lab} (h0 : ¬ lessK x y = true) (h1 : ¬ lessK y x = true) : x.1 = y.1 := by
  have h0 : lessK x y = false := by simpa using h0
  rcases bytesLess_ge h0 with k | k
  · exact absurd k h1
  · exact k.symm
theorem merge_mem : ∀ (a b m : List Lab), mergeL a b = some m → ∀ x, x ∈ m ↔ x ∈ a ∨ x ∈ b
  | [], b, m, h, x => by simp [mergeL] at h; subst h; simp
  | y :: a, [], m, h, x => by simp [mergeL] at h; subst h; simp
  | y :: a, z :: b, m, h, x => by
    rw [mergeL] at h
    split at h
    · cases hm : mergeL a (z :: b) with
      | none => rw [hm] at h; cases h
      | some m' =>
        rw [hm] at h; cases h
        rw [List.mem_cons, merge_mem a (z :: b) m' hm x, List.mem_cons, List.mem_cons]
        constructor
        · rintro (h | h | h)
          · exact .inl (.inl h)
          · exact .inl (.inr h)
          · exact .inr h
        · rintro ((h | h) | h)
          · exact .inl h
          · exact .inr (.inl h)
          · exact .inr (.inr h)
    · split at h
      · cases hm : mergeL (y :: a) b with
        | none => rw [hm] at h; cases h
        | some m' =>
          rw [hm] at h; cases h
          rw [List.mem_cons, merge_mem (y :: a) b m' hm x, List.mem_cons, List.mem_cons]
          constructor
          · rintro (h | h | h)
            · exact .inr (.inl h)
            · exact .inl h
            · exact .inr (.inr h)
          · rintro (h | h | h)
            · exact .inr (.inl h)
            · exact .inl h
            · exact .inr (.inr h)
      · rename_i h0 h1
        split at h
        · cases h
        · rename_i h2
          have e : y = z := Prod.ext (neither h0 h1) (by simpa using h2)
          cases hm : mergeL a b with
          | none => rw [hm] at h; cases h
          | some m' =>
            rw [hm] at h; cases h
            rw [List.mem_cons, merge_mem a b m' hm x, List.mem_cons, List.mem_cons, ← e]
            constructor
            · rintro (h | h | h)
              · exact .inl (.inl h)
              · exact .inl (.inr h)
              · exact .inr (.inr h)
            · rintro ((h | h) | (h | h))
              · exact .inl h
              · exact .inr (.inl h)
              · exact .inl h
              · exact .inr (.inr h)
  termination_by a b => a.length + b.length
theorem merge_clash : ∀ (a b : List Lab), mergeL a b = none → ∃ x ∈ a, ∃ y ∈ b, x.1 = y.1 ∧ x.2 ≠ y.2
  | [], b, h => by simp [mergeL] at h
  | y :: a, [], h => by simp [mergeL] at h
  | y :: a, z :: b, h => by
    rw [mergeL] at h
    split at h
    · have hm : mergeL a (z :: b) = none := by cases hm : mergeL a (z :: b) with | none => rfl | some m => rw [hm] at h; cases h
      obtain ⟨p, hp, q, hq, e⟩ := merge_clash a (z :: b) hm
      exact ⟨p, List.mem_cons_of_mem _ hp, q, hq, e⟩
    · split at h
      · have hm : mergeL (y :: a) b = none := by cases hm : mergeL (y :: a) b with | none => rfl | some m => rw [hm] at h; cases h
        obtain ⟨p, hp, q, hq, e⟩ := merge_clash (y :: a) b hm
        exact ⟨p, hp, q, List.mem_cons_of_mem _ hq, e⟩
      · rename_i h0 h1
        split at h
        · rename_i h2; exact ⟨y, List.mem_cons_self, z, List.mem_cons_self, neither h0 h1, h2⟩
        · have hm : mergeL a b = none := by cases hm : mergeL a b with | none => rfl | some m => rw [hm] at h; cases h
          obtain ⟨p, hp, q, hq, e⟩ := merge_clash a b hm
          exact ⟨p, List.mem_cons_of_mem _ hp, q, List.mem_cons_of_mem _ hq, e⟩
  termination_by a b => a.length + b.length
theorem mergeL_len : ∀ (a b m : List Lab), mergeL a b = some m → m.length ≤ a.length + b.length
  | [], b, m, h => by simp [mergeL] at h; subst h; simp
  | y :: a, [], m, h => by simp [mergeL] at h; subst h; simp
  | y :: a, z :: b, m, h => by
    rw [mergeL] at h
    split at h
    · cases hm : mergeL a (z :: b) with
      | none => rw [hm] at h; cases h
      | some m' => rw [hm] at h; cases h; have := mergeL_len a (z :: b) m' hm; simp only [List.length_cons] at this ⊢; omega
    · split at h
      · cases hm : mergeL (y :: a) b with
        | none => rw [hm] at h; cases h
        | some m' => rw [hm] at h; cases h; have := mergeL_len (y :: a) b m' hm; simp only [List.length_cons] at this ⊢; omega
      · split at h
        · cases h
        · cases hm : mergeL a b with
          | none => rw [hm] at h; cases h
          | some m' => rw [hm] at h; cases h; have := mergeL_len a b m' hm; simp only [List.length_cons] at this ⊢; omega
  termination_by a b => a.length + b.length
theorem mergeV_len (a b : List Lab) : (mergeV a b).1.length ≤ a.length + b.length := by
  unfold mergeV
  cases h : mergeL a b with
  | none => simp
  | some m => exact mergeL_len a b m h
theorem both_no {a b l : List Lab} (hl : sortedL l) (h : (mergeV a b).2 = false) : (decide (((mergeV a b).1.length : Int) = 0) && !(coversL a l && coversL b l)) = true := by
  unfold mergeV at h ⊢
  cases hm : mergeL a b with
  | some m => rw [hm] at h; cases h
  | none =>
    obtain ⟨x, hx, y, hy, h1, h2⟩ := merge_clash a b hm
    simp only [List.length_nil, Bool.and_eq_true, Bool.not_eq_true', decide_eq_true_eq]
    refine ⟨rfl, ?_⟩
    cases hc : coversL a l && coversL b l with
    | false => rfl
    | true =>
      rw [Bool.and_eq_true, covers_iff, covers_iff] at hc
      exact absurd (congrArg Prod.snd (keys_one hl (hc.1 x hx) (hc.2 y hy) h1)) h2
theorem both_yes {a b l : List Lab} (h : (mergeV a b).2 = true) : coversL (mergeV a b).1 l = (coversL a l && coversL b l) ∧ coversL a (mergeV a b).1 = true ∧ coversL b (mergeV a b).1 = true := by
  unfold mergeV at h ⊢
  cases hm : mergeL a b with
  | none => rw [hm] at h; cases h
  | some m =>
    have hmem := merge_mem a b m hm
    refine ⟨?_, covers_iff.2 fun x hx => (hmem x).2 (.inl hx), covers_iff.2 fun x hx => (hmem x).2 (.inr hx)⟩
    rw [Bool.eq_iff_iff, Bool.and_eq_true, covers_iff, covers_iff, covers_iff]
    exact ⟨fun h => ⟨fun x hx => h x ((hmem x).2 (.inl hx)), fun x hx => h x ((hmem x).2 (.inr hx))⟩, fun h x hx => ((hmem x).1 hx).elim (h.1 x) (h.2 x)⟩
end Go.AL

/-
A selector's text, and the selector of a text.
Conditions: none; no program is in sight.
-/
set_option linter.unusedVariables false
set_option linter.unusedSimpArgs false
namespace Go.AL
open Go.RowKit Go.NumSpec
theorem part_mem {c x : UInt8} : ∀ {s : List UInt8}, x ∈ s → x = c ∨ ∃ p ∈ partsB c s, x ∈ p
  | y :: s, h => by
    by_cases hy : y = c
    · subst hy
      rw [partsB, if_pos rfl]
      rcases List.mem_cons.1 h with h | h
      · exact .inl h
      · rcases part_mem (c := y) h with h | ⟨p, h1, h2⟩
        · exact .inl h
        · exact .inr ⟨p, List.mem_cons_of_mem _ h1, h2⟩
    · rw [partsB_cons hy]
      rcases List.mem_cons.1 h with h | h
      · subst h; exact .inr ⟨_, List.mem_cons_self, List.mem_cons_self⟩
      · rcases part_mem (c := c) h with h | ⟨p, h1, h2⟩
        · exact .inl h
        · cases hp : partsB c s with
          | nil => exact absurd hp (partsB_ne c s)
          | cons q qs =>
            rw [hp] at h1
            simp only [List.headD_cons, List.tail_cons]
            rcases List.mem_cons.1 h1 with h1 | h1
            · subst h1; exact .inr ⟨_, List.mem_cons_self, List.mem_cons_of_mem _ h2⟩
            · exact .inr ⟨p, List.mem_cons_of_mem _ h1, h2⟩
theorem name_chars {s : List UInt8} (h : nameV s = true) : ∀ x ∈ s, inC 1 x = true := by
  unfold nameV at h
  simp only [Bool.and_eq_true] at h
  exact List.all_eq_true.1 h.1.1.2
theorem key_chars {s : List UInt8} (h : namesR 2 s = true) : ∀ x ∈ s, x = 47 ∨ inC 1 x = true := fun x hx => by
  rw [namesR_parts, Bool.and_eq_true, List.all_eq_true] at h
  rcases part_mem (c := 47) hx with e | ⟨p, h1, h2⟩
  · exact .inl e
  · exact .inr (name_chars (h.2 p h1) x h2)
theorem key_short {s : List UInt8} (h : namesR 2 s = true) : s.length ≤ 33 := by
  rw [namesR_parts, Bool.and_eq_true, decide_eq_true_eq] at h
  have := parts_names h.2
  omega
theorem val_short {s : List UInt8} (h : valV s = true) : s.length ≤ 16 := by
  unfold valV at h
  simp only [Bool.and_eq_true, decide_eq_true_eq] at h
  omega
theorem val_chars {s : List UInt8} (h : valV s = true) : ∀ x ∈ s, inC 4 x = true := by
  unfold valV at h
  simp only [Bool.and_eq_true] at h
  exact List.all_eq_true.1 h.2
theorem no_comma {x : Lab} (h1 : namesR 2 x.1 = true) (h2 : valV x.2 = true) : (44 : UInt8) ∉ labT x := fun h => by
  unfold labT at h
  rcases List.mem_append.1 h with h | h
  · rcases List.mem_append.1 h with h | h
    · rcases key_chars h1 _ h with k | k
      · cases k
      · exact absurd k (by decide)
    · simp at h
  · exact absurd (val_chars h2 _ h) (by decide)
theorem no_equal {x : Lab} (h1 : namesR 2 x.1 = true) : (61 : UInt8) ∉ x.1 := fun h => by
  rcases key_chars h1 _ h with k | k
  · cases k
  · exact absurd k (by decide)
theorem parts_join : ∀ {l : List (List UInt8)}, l ≠ [] → (∀ p ∈ l, (44 : UInt8) ∉ p) → partsB 44 (Lib.join l [44]) = l
  | [p], _, h => by rw [Lib.join_one]; exact split_none (h p List.mem_cons_self)
  | p :: q :: l, _, h => by
    have ih := parts_join (l := q :: l) (by simp) fun x hx => h x (List.mem_cons_of_mem _ hx)
    have e : Lib.join (p :: q :: l) [44] = p ++ (44 :: Lib.join (q :: l) [44]) := by
      rw [Lib.join_cons, Lib.join_cons]; simp [Lib.joinTail]
    have hp := h p List.mem_cons_self
    have hm : (44 : UInt8) ∈ Lib.join (p :: q :: l) [44] := by rw [e]; simp
    rw [split_hit hm]
    have hh : headB 44 (Lib.join (p :: q :: l) [44]) = p := by
      rw [e]; unfold headB
      rw [List.takeWhile_append_of_pos (fun x hx => by simp; exact fun k => hp (k ▸ hx))]
      simp
    unfold restB
    rw [hh, e]
    rw [show (p ++ 44 :: Lib.join (q :: l) [44]).drop (p.length + 1) = Lib.join (q :: l) [44] by
      rw [show p ++ 44 :: Lib.join (q :: l) [44] = (p ++ [44]) ++ Lib.join (q :: l) [44] by simp]
      exact List.drop_left' (by simp)]
    rw [ih]
theorem join_parts : ∀ s : List UInt8, Lib.join (partsB 44 s) [44] = s
  | [] => by simp [partsB, Lib.join_one]
  | x :: s => by
    have ih := join_parts s
    by_cases hx : x = 44
    · subst hx
      rw [partsB, if_pos rfl]
      cases hp : partsB 44 s with
      | nil => exact absurd hp (partsB_ne 44 s)
      | cons q qs => rw [hp] at ih; rw [Lib.join_cons]; rw [Lib.join_cons] at ih; simp [Lib.joinTail] at ih ⊢; exact ih
    · rw [partsB_cons hx]
      cases hp : partsB 44 s with
      | nil => exact absurd hp (partsB_ne 44 s)
      | cons q qs => rw [hp] at ih; rw [Lib.join_cons]; rw [Lib.join_cons] at ih; simp [Lib.joinTail] at ih ⊢; exact ih
theorem cut_hit {c : UInt8} {p q : List UInt8} (h : c ∉ p) : cutV c (p ++ (c :: q)) = (p, q, true) := by
  have h1 : headB c (p ++ (c :: q)) = p := by
    unfold headB
    rw [List.takeWhile_append_of_pos (fun x hx => by simp; exact fun k => h (k ▸ hx))]
    simp
  unfold cutV
  rw [if_pos (by simp)]
  show (headB c _, List.drop ((headB c _).length + 1) _, true) = _
  rw [h1]
  simp
theorem cut_back {p : List UInt8} (h : (cutV 61 p).2.2 = true) : labT (cutL p) = p := by
  unfold cutL labT
  unfold cutV at h ⊢
  by_cases hm : (61 : UInt8) ∈ p
  · simp only [if_pos hm]
    obtain ⟨h1, h2⟩ := tw_lt hm
    have e := List.takeWhile_append_dropWhile (p := fun x => x != (61 : UInt8)) (l := p)
    have h3 : p.drop (headB 61 p).length = 61 :: p.drop ((headB 61 p).length + 1) := by
      rw [List.drop_eq_getElem_cons h1]
      congr 1
      rw [List.getElem?_eq_getElem h1] at h2
      exact Option.some.inj h2
    have h4 : headB 61 p ++ p.drop (headB 61 p).length = p := by
      conv => rhs; rw [← List.take_append_drop (headB 61 p).length p]
      rw [take_head]
    rw [h3] at h4
    simpa using h4
  · rw [if_neg hm] at h; cases h
theorem cutL_lab {x : Lab} (h : (61 : UInt8) ∉ x.1) : (cutV 61 (labT x)).2.2 = true ∧ cutL (labT x) = x := by
  have e : labT x = x.1 ++ (61 :: x.2) := by simp [labT]
  unfold cutL
  rw [e, cut_hit h]
  exact ⟨rfl, rfl⟩
theorem parse_text {l : List Lab} (h : labelsE selN l = none) : parseS (selT l) = (l, 0) := by
  obtain ⟨hl, hs, hk⟩ := labels_out h
  by_cases h0 : l = []
  · subst h0; exact parse_nil rfl
  · have hp : partsB 44 (selT l) = l.map labT := parts_join (by simpa using h0) fun p hp => by
      obtain ⟨x, hx, rfl⟩ := List.mem_map.1 hp
      exact no_comma (hk x hx).1 (hk x hx).2
    have hne : selT l ≠ [] := fun e => by
      rw [e] at hp
      cases l with
      | nil => exact h0 rfl
      | cons x l =>
        simp only [partsB, List.map_cons, List.cons.injEq] at hp
        have := congrArg List.length hp.1
        simp [labT] at this
    have hm : (partsB 44 (selT l)).map cutL = l := by
      rw [hp, List.map_map]
      conv => rhs; rw [← List.map_id l]
      exact List.map_congr_left fun x hx => (cutL_lab (no_equal (hk x hx).1)).2
    rw [parse_all hne fun i hi => by
      have hx : (partsB 44 (selT l))[i] ∈ l.map labT := by
        have h9 := List.getElem_mem hi
        rw [← hp]; exact h9
      obtain ⟨y, hy, e⟩ := List.mem_map.1 hx
      have e' : (partsB 44 (selT l))[i] = labT y := e.symm
      rw [e']; exact (cutL_lab (no_equal (hk y hy).1)).1]
    rw [hm, h]; rfl
theorem text_parse {s : List UInt8} (h : (parseS s).2 = 0) : erCode (labelsE selN (parseS s).1) = 0 ∧ selT (parseS s).1 = s := by
  by_cases h0 : s = []
  · subst h0; rw [parse_nil rfl]; exact ⟨by decide, by decide⟩
  · by_cases hc : ∀ i (hi : i < (partsB 44 s).length), (cutV 61 (partsB 44 s)[i]).2.2 = true
    · have hp := parse_all h0 hc
      by_cases he : erCode (labelsE selN ((partsB 44 s).map cutL)) = 0
      · rw [if_pos he] at hp
        rw [hp]
        refine ⟨he, ?_⟩
        unfold selT
        rw [List.map_map]
        have : (partsB 44 s).map (labT ∘ cutL) = partsB 44 s := by
          conv => rhs; rw [← List.map_id (partsB 44 s)]
          refine List.map_congr_left fun p hp => ?_
          obtain ⟨i, hi, rfl⟩ := List.mem_iff_getElem.1 hp
          exact cut_back (hc i hi)
        rw [this, join_parts]
      · rw [if_neg he] at hp; rw [hp] at h; exact absurd h he
    · obtain ⟨i, hi, hb⟩ : ∃ i, ∃ hi : i < (partsB 44 s).length, (cutV 61 (partsB 44 s)[i]).2.2 = false := Classical.byContradiction fun k => hc fun i hi => by
        cases hx : (cutV 61 (partsB 44 s)[i]).2.2 with
        | true => rfl
        | false => exact absurd ⟨i, hi, hx⟩ k
      rw [parse_bad h0 hi hb] at h; cases h
theorem parse_fail {s : List UInt8} (h : (parseS s).2 ≠ 0) : (parseS s).1 = [] := by
  unfold parseS at h ⊢
  split
  · rfl
  · split
    · split
      · rename_i h1 h2 h3; rw [if_neg h1, if_pos h2, if_pos h3] at h; exact absurd rfl h
      · rfl
    · rfl
theorem parse_len {s : List UInt8} {n : Nat} (h : s.length ≤ n) : (parseS s).1.length ≤ s.length + 1 ∧ ∀ x ∈ (parseS s).1, x.1.length ≤ n ∧ x.2.length ≤ n := by
  have h1 := parts_few 44 s
  have h2 := cutL_len h
  unfold parseS
  split
  · exact ⟨by simp, fun x hx => by cases hx⟩
  · split
    · split
      · exact ⟨by simpa using h1, h2⟩
      · exact ⟨by simp, fun x hx => by cases hx⟩
    · exact ⟨by simp, fun x hx => by cases hx⟩
end Go.AL

/-
A text of selectors read byte by byte, and a join built from the front.
Conditions: none; no program is in sight.
-/
set_option linter.unusedVariables false
set_option linter.unusedSimpArgs false
namespace Go.AL
open Go.RowKit Go.NumSpec
def joinC (ps : List (List UInt8)) (i : Nat) : List UInt8 := Lib.join (ps.take i) [44]
theorem joinC_one {ps : List (List UInt8)} (h : 0 < ps.length) : joinC ps 1 = ps[0] := by
  cases ps with
  | nil => simp at h
  | cons p ps => simp [joinC, Lib.join_one]
theorem joinC_next {ps : List (List UInt8)} {i : Nat} (h0 : 0 < i) (h : i < ps.length) : joinC ps (i + 1) = (joinC ps i ++ [44]) ++ ps[i] := by
  cases ps with
  | nil => simp at h
  | cons p r =>
    obtain ⟨k, rfl⟩ : ∃ k, i = k + 1 := ⟨i - 1, by omega⟩
    have hk : k < r.length := by simpa using h
    simp only [joinC, List.take_succ_cons, Lib.join_cons, Lib.joinTail_take_succ [44] r k r[k] (List.getElem?_eq_getElem hk), List.getElem_cons_succ, List.append_assoc]
theorem joinC_zero (ps : List (List UInt8)) : joinC ps 0 = [] := by simp [joinC, Lib.join_nil]
theorem joinC_all {l : List Lab} {i : Nat} (h : l.length ≤ i) : joinC (l.map labT) i = selT l := by
  unfold joinC selT; rw [List.take_of_length_le (by rw [List.length_map]; exact h)]
theorem joinC_lab {l : List Lab} {i : Nat} (h0 : 0 < i) (h : i < l.length) : joinC (l.map labT) (i + 1) = ((((joinC (l.map labT) i ++ [44]) ++ (l[i]'h).1) ++ [61]) ++ (l[i]'h).2) := by
  rw [joinC_next h0 (by rw [List.length_map]; exact h), List.getElem_map]; simp [labT]
theorem joinC_lab0 {l : List Lab} {i : Nat} (h0 : i = 0) (h : i < l.length) : joinC (l.map labT) (i + 1) = (((joinC (l.map labT) i ++ (l[i]'h).1) ++ [61]) ++ (l[i]'h).2) := by
  subst h0
  rw [show joinC (l.map labT) (0 + 1) = _ from joinC_one (by rw [List.length_map]; exact h), List.getElem_map, joinC_zero]; simp [labT]
theorem joinC_len {l : List Lab} {n : Nat} (h : ∀ x ∈ l, x.1.length ≤ n ∧ x.2.length ≤ n) (i : Nat) : (joinC (l.map labT) i).length ≤ l.length * (2 * n + 2) := by
  unfold joinC
  rw [← List.map_take]
  have := selT_len (l := l.take i) (n := n) fun x hx => h x (List.mem_of_mem_take hx)
  unfold selT at this
  refine Nat.le_trans this (Nat.mul_le_mul_right _ ?_)
  rw [List.length_take]; omega
theorem parts_hit {p q : List UInt8} (h : (44 : UInt8) ∉ p) : partsB 44 (p ++ 44 :: q) = p :: partsB 44 q := by
  have hm : (44 : UInt8) ∈ p ++ 44 :: q := by simp
  rw [split_hit hm]
  have hh : headB 44 (p ++ 44 :: q) = p := by
    unfold headB
    rw [List.takeWhile_append_of_pos (fun x hx => by simp; exact fun k => h (k ▸ hx))]
    simp
  unfold restB
  rw [hh]
  congr 2
  rw [show p ++ 44 :: q = (p ++ [44]) ++ q by simp]
  exact List.drop_left' (by simp)
theorem cut_no {p : List UInt8} (h : (61 : UInt8) ∉ p) : cutV 61 p = (p, [], false) := by unfold cutV; rw [if_neg h]
theorem cut_yes {p : List UInt8} : (cutV 61 p).2.2 = true ↔ (61 : UInt8) ∈ p := by
  unfold cutV; split <;> rename_i h <;> simp [h]
theorem cut_seen {p : List UInt8} (x : UInt8) (h : (cutV 61 p).2.2 = true) : cutV 61 (p ++ [x]) = ((cutV 61 p).1, (cutV 61 p).2.1 ++ [x], true) := by
  have hm := cut_yes.1 h
  have hb := cut_back h
  have e : p = (cutV 61 p).1 ++ 61 :: (cutV 61 p).2.1 := by
    conv => lhs; rw [← hb]
    simp [labT, cutL]
  have hn : (61 : UInt8) ∉ (cutV 61 p).1 := by
    unfold cutV; rw [if_pos hm]
    intro hk
    have := List.all_eq_true.1 (List.all_takeWhile (l := p) (p := fun x => x != (61 : UInt8))) _ hk
    simp at this
  have e2 : p ++ [x] = (cutV 61 p).1 ++ 61 :: ((cutV 61 p).2.1 ++ [x]) := by
    conv => lhs; rw [e]
    simp
  rw [e2]
  exact cut_hit hn
theorem cut_sign {p : List UInt8} (h : ¬ (cutV 61 p).2.2 = true) : cutV 61 (p ++ [61]) = ((cutV 61 p).1, (cutV 61 p).2.1, true) := by
  have hn : (61 : UInt8) ∉ p := fun k => h (cut_yes.2 k)
  rw [cut_no hn]; exact cut_hit hn
theorem cut_plain {p : List UInt8} {x : UInt8} (h : ¬ (cutV 61 p).2.2 = true) (hx : x ≠ 61) : cutV 61 (p ++ [x]) = ((cutV 61 p).1 ++ [x], (cutV 61 p).2.1, false) := by
  have hn : (61 : UInt8) ∉ p := fun k => h (cut_yes.2 k)
  have hn2 : (61 : UInt8) ∉ p ++ [x] := by
    simp only [List.mem_append, List.mem_singleton]
    rintro (k | k)
    · exact hn k
    · exact hx k.symm
  rw [cut_no hn, cut_no hn2]
/-- how far the byte reader is: i bytes read, the parts that are done, the part under way -/
def PI (s : List UInt8) (i : Nat) (done : List (List UInt8)) (cur : List UInt8) : Prop :=
  i ≤ s.length + 1 ∧ (∀ p ∈ done, (cutV 61 p).2.2 = true) ∧ done.length ≤ i ∧ cur.length ≤ i ∧
  ((i ≤ s.length → (44 : UInt8) ∉ cur ∧ partsB 44 s = done ++ partsB 44 (cur ++ s.drop i)) ∧ (¬ i ≤ s.length → partsB 44 s = done))
theorem pi_start (s : List UInt8) : PI s 0 [] [] := ⟨by omega, (fun _ h => by cases h), by simp, by simp, (fun _ => ⟨by simp, by simp⟩), fun h => absurd (Nat.zero_le _) h⟩
theorem pi_char {s : List UInt8} {i : Nat} {done : List (List UInt8)} {cur : List UInt8} (h : PI s i done cur) (hi : i < s.length) (hx : s[i] ≠ 44) : PI s (i + 1) done (cur ++ [s[i]]) := by
  obtain ⟨h1, h2, h3, h4, h5, h6⟩ := h
  obtain ⟨h7, h8⟩ := h5 (by omega)
  refine ⟨by omega, h2, by omega, by simp only [List.length_append, List.length_singleton]; omega, fun _ => ⟨?_, ?_⟩, fun k => by omega⟩
  · simp only [List.mem_append, List.mem_singleton]
    rintro (k | k)
    · exact h7 k
    · exact hx k.symm
  · rw [h8, List.drop_eq_getElem_cons hi]; simp
theorem pi_part {s : List UInt8} {i : Nat} {done : List (List UInt8)} {cur : List UInt8} (h : PI s i done cur) (hi : i ≤ s.length) (hx : ∀ k : i < s.length, s[i] = 44) (hc : (cutV 61 cur).2.2 = true) : PI s (i + 1) (done ++ [cur]) [] := by
  obtain ⟨h1, h2, h3, h4, h5, h6⟩ := h
  obtain ⟨h7, h8⟩ := h5 hi
  refine ⟨by omega, fun p hp => ?_, by simp only [List.length_append, List.length_singleton]; omega, by simp, fun k => ⟨by simp, ?_⟩, fun k => ?_⟩
  · rcases List.mem_append.1 hp with hp | hp
    · exact h2 p hp
    · rw [List.mem_singleton.1 hp]; exact hc
  · rw [h8, List.drop_eq_getElem_cons (show i < s.length by omega), hx (by omega), parts_hit h7]; simp
  · rw [h8, List.drop_eq_nil_of_le (by omega), List.append_nil, split_none h7]
theorem pi_mem {s : List UInt8} {i : Nat} {done : List (List UInt8)} {cur : List UInt8} (h : PI s i done cur) (hi : i ≤ s.length) (hx : ∀ k : i < s.length, s[i] = 44) : cur ∈ partsB 44 s := by
  obtain ⟨h1, h2, h3, h4, h5, h6⟩ := h
  obtain ⟨h7, h8⟩ := h5 hi
  rw [h8]
  refine List.mem_append_right _ ?_
  by_cases k : i < s.length
  · rw [List.drop_eq_getElem_cons k, hx k, parts_hit h7]; exact List.mem_cons_self
  · rw [List.drop_eq_nil_of_le (by omega), List.append_nil, split_none h7]; exact List.mem_cons_self
theorem pi_bad {s : List UInt8} {i : Nat} {done : List (List UInt8)} {cur : List UInt8} (h : PI s i done cur) (h0 : s ≠ []) (hi : i ≤ s.length) (hx : ∀ k : i < s.length, s[i] = 44) (hc : ¬ (cutV 61 cur).2.2 = true) : parseS s = ([], 3) := by
  obtain ⟨j, hj, e⟩ := List.mem_iff_getElem.1 (pi_mem h hi hx)
  exact parse_bad h0 hj (by rw [e]; simpa using hc)
theorem pi_end {s : List UInt8} {i : Nat} {done : List (List UInt8)} {cur : List UInt8} (h : PI s i done cur) (h0 : s ≠ []) (hi : ¬ i ≤ s.length) :
    parseS s = if erCode (labelsE selN (done.map cutL)) = 0 then (done.map cutL, 0) else ([], erCode (labelsE selN (done.map cutL))) := by
  obtain ⟨h1, h2, h3, h4, h5, h6⟩ := h
  have e := h6 hi
  have := parse_all h0 fun j hj => h2 _ (by rw [← e]; exact List.getElem_mem hj)
  rw [this, e]
theorem pi_cur {s : List UInt8} {i : Nat} {done : List (List UInt8)} {cur : List UInt8} (h : PI s i done cur) : (cutV 61 cur).1.length ≤ i ∧ (cutV 61 cur).2.1.length ≤ i ∧ done.length ≤ i ∧ i ≤ s.length + 1 := by
  have h1 := cut_len cur 61
  have h2 := h.2.2.2.1
  exact ⟨by omega, by omega, h.2.2.1, h.1⟩
theorem pi_labs {s : List UInt8} {i : Nat} {done : List (List UInt8)} {cur : List UInt8} (h : PI s i done cur) (hi : ¬ i ≤ s.length) {n : Nat} (hs : s.length ≤ n) : ∀ x ∈ done.map cutL, x.1.length ≤ n ∧ x.2.length ≤ n := by
  rw [← h.2.2.2.2.2 hi]; exact cutL_len hs
theorem map_snoc {done : List (List UInt8)} {cur : List UInt8} : (done ++ [cur]).map (fun q => labAV (cutL q)) = done.map (fun q => labAV (cutL q)) ++ [labAV (cutL cur)] := by simp
theorem at_byte {s : List UInt8} {i : Nat} (h : i < s.length) (c : UInt8) : atL s (i : Int) = (c.toNat : Int) ↔ s[i] = c := by
  rw [atL_get h]
  refine ⟨fun k => UInt8.toNat_inj.1 (by omega), fun k => by rw [k]⟩
theorem at44 {s : List UInt8} {i : Nat} (h : i < s.length) : atL s (i : Int) = 44 ↔ s[i] = 44 := at_byte h 44
theorem at61 {s : List UInt8} {i : Nat} (h : i < s.length) : atL s (i : Int) = 61 ↔ s[i] = 61 := at_byte h 61
theorem one_cut {s : List UInt8} {i : Nat} (h : i < s.length) : List.drop (i : Int).toNat (List.take ((i : Int) + 1).toNat s) = [s[i]] := by
  rw [show ((i : Int) + 1).toNat = i + 1 by omega, Int.toNat_natCast, List.take_succ_eq_append_getElem h, List.drop_left' (by rw [List.length_take]; omega)]
end Go.AL

/-
Scripts: words, digits, lines.
Conditions: none; no program is in sight.
-/
set_option linter.unusedVariables false
set_option linter.unusedSimpArgs false
namespace Go.AL
open Go.RowKit Go.NumSpec
theorem partsHit {c : UInt8} {p q : List UInt8} (h : c ∉ p) : partsB c (p ++ c :: q) = p :: partsB c q := by
  have hm : c ∈ p ++ c :: q := by simp
  rw [split_hit hm]
  have hh : headB c (p ++ c :: q) = p := by
    unfold headB
    rw [List.takeWhile_append_of_pos (fun x hx => by simp; exact fun k => h (k ▸ hx))]
    simp
  unfold restB
  rw [hh]
  simp
theorem partsJ {c : UInt8} : ∀ {l : List (List UInt8)}, l ≠ [] → (∀ p ∈ l, c ∉ p) → partsB c (Lib.join l [c]) = l
  | [p], _, h => by rw [Lib.join_one]; exact split_none (h p List.mem_cons_self)
  | p :: q :: l, _, h => by
    have ih := partsJ (c := c) (l := q :: l) (by simp) fun x hx => h x (List.mem_cons_of_mem _ hx)
    have e : Lib.join (p :: q :: l) [c] = p ++ (c :: Lib.join (q :: l) [c]) := by
      rw [Lib.join_cons, Lib.join_cons]; simp [Lib.joinTail]
    rw [e, partsHit (h p List.mem_cons_self), ih]
theorem joinP (c : UInt8) : ∀ s : List UInt8, Lib.join (partsB c s) [c] = s
  | [] => by simp [partsB, Lib.join_one]
  | x :: s => by
    have ih := joinP c s
    by_cases hx : x = c
    · subst hx
      rw [partsB, if_pos rfl]
      cases hp : partsB x s with
      | nil => exact absurd hp (partsB_ne x s)
      | cons q qs => rw [hp] at ih; rw [Lib.join_cons]; rw [Lib.join_cons] at ih; simp [Lib.joinTail] at ih ⊢; exact ih
    · rw [partsB_cons hx]
      cases hp : partsB c s with
      | nil => exact absurd hp (partsB_ne c s)
      | cons q qs => rw [hp] at ih; rw [Lib.join_cons]; rw [Lib.join_cons] at ih; simp [Lib.joinTail] at ih ⊢; exact ih
/-! The verb of a word -/
def findV (w : List UInt8) : Nat := ((List.range 24).find? (fun i => decide (0 < i ∧ (verbA i).1 = w))).getD 0
theorem find_hit {w : List UInt8} {i : Nat} (h0 : 0 < i) (hi : i < 24) (hw : (verbA i).1 = w) : findV w = i := by
  subst hw
  have : ∀ j, j < 24 → 0 < j → findV (verbA j).1 = j := by decide +kernel
  exact this i hi h0
theorem find_none {w : List UInt8} (h : ∀ j, j < 24 → 0 < j → (verbA j).1 ≠ w) : findV w = 0 := by
  unfold findV
  rw [List.find?_eq_none.2 fun j hj => by
    simp only [decide_eq_true_eq]
    rintro ⟨h0, h1⟩
    exact h j (List.mem_range.1 hj) h0 h1]
  rfl
theorem find_lt (w : List UInt8) : findV w < 24 := by
  unfold findV
  cases h : (List.range 24).find? (fun i => decide (0 < i ∧ (verbA i).1 = w)) with
  | none => decide
  | some i => exact List.mem_range.1 (List.mem_of_find?_eq_some h)
theorem find_word {w : List UInt8} (h : findV w ≠ 0) : (verbA (findV w)).1 = w := by
  unfold findV at h ⊢
  cases h1 : (List.range 24).find? (fun i => decide (0 < i ∧ (verbA i).1 = w)) with
  | none => rw [h1] at h; exact absurd rfl h
  | some i => have := List.find?_some h1; simp only [decide_eq_true_eq] at this; exact this.2
/-! Digits -/
theorem idx_digits (c : UInt8) : idxV digitsB c = hexV c := by
  have : ∀ n : Nat, n < 256 → idxV digitsB (UInt8.ofNat n) = hexV (UInt8.ofNat n) := by decide +kernel
  have h := this c.toNat c.toNat_lt
  rwa [UInt8.ofNat_toNat] at h
theorem hexV_D {n : Nat} (h : n < 16) : hexV (hexD n) = n := by
  have : ∀ n : Nat, n < 16 → hexV (hexD n) = n := by decide
  exact this n h
theorem hexV_some {c : UInt8} (h : 0 ≤ hexV c) : hexV c < 16 ∧ c = hexD (hexV c).toNat := by
  have : ∀ n : Nat, n < 256 → 0 ≤ hexV (UInt8.ofNat n) → hexV (UInt8.ofNat n) < 16 ∧ UInt8.ofNat n = hexD (hexV (UInt8.ofNat n)).toNat := by decide +kernel
  have h1 := this c.toNat c.toNat_lt
  rw [UInt8.ofNat_toNat] at h1
  exact h1 h
theorem hexD_char {n : Nat} (h : n < 16) : hexD n ≠ 32 ∧ hexD n ≠ 10 := by
  have : ∀ n : Nat, n < 16 → hexD n ≠ 32 ∧ hexD n ≠ 10 := by decide
  exact this n h
theorem toHex_cons (c : UInt8) (s : List UInt8) : toHexL (c :: s) = hexD (c.toNat / 16) :: hexD (c.toNat % 16) :: toHexL s := rfl
theorem toHex_snoc (s : List UInt8) (c : UInt8) : toHexL (s ++ [c]) = (toHexL s ++ [hexD (c.toNat / 16)]) ++ [hexD (c.toNat % 16)] := by
  unfold toHexL; rw [List.flatMap_append]; simp [hex2]
theorem toHex_char (s : List UInt8) : ∀ x ∈ toHexL s, x ≠ 32 ∧ x ≠ 10 := fun x hx => by
  obtain ⟨c, _, hx⟩ := List.mem_flatMap.1 hx
  have hc := c.toNat_lt
  simp only [hex2, List.mem_cons, List.not_mem_nil, or_false] at hx
  rcases hx with rfl | rfl
  · exact hexD_char (by omega)
  · exact hexD_char (by omega)
theorem hexD_inj {a b : Nat} (ha : a < 16) (hb : b < 16) (h : hexD a = hexD b) : a = b := by
  have h1 := hexV_D ha; rw [h, hexV_D hb] at h1; omega
theorem toHex_inj : ∀ {a b : List UInt8}, toHexL a = toHexL b → a = b
  | [], [], _ => rfl
  | [], y :: b, h => by rw [toHex_cons] at h; exact absurd h (by simp [toHexL])
  | x :: a, [], h => by rw [toHex_cons] at h; exact absurd h (by simp [toHexL])
  | x :: a, y :: b, h => by
    rw [toHex_cons, toHex_cons] at h
    have hx := x.toNat_lt
    have hy := y.toNat_lt
    have h1 := hexD_inj (by omega) (by omega) (List.cons.inj h).1
    have h2 := hexD_inj (by omega) (by omega) (List.cons.inj (List.cons.inj h).2).1
    rw [toHex_inj (List.cons.inj (List.cons.inj h).2).2, UInt8.toNat_inj.1 (show x.toNat = y.toNat by omega)]
theorem toHex_at : ∀ {d s : List UInt8}, toHexL d = s → ∀ {i : Nat} (hi : i < s.length), 0 ≤ hexV s[i]
  | d, s, h, i, hi => by
    have hm : s[i] ∈ toHexL d := by rw [h]; exact List.getElem_mem hi
    obtain ⟨c, _, hx⟩ := List.mem_flatMap.1 hm
    have hc := c.toNat_lt
    simp only [hex2, List.mem_cons, List.not_mem_nil, or_false] at hx
    rcases hx with e | e
    · rw [e, hexV_D (by omega)]; omega
    · rw [e, hexV_D (by omega)]; omega
theorem hex_byte {x y : Int} (hx : 0 ≤ x) (hx2 : x < 16) (hy : 0 ≤ y) (hy2 : y < 16) : (UInt8.ofNat (16 * x + y).toNat).toNat / 16 = x.toNat ∧ (UInt8.ofNat (16 * x + y).toNat).toNat % 16 = y.toNat := by
  have : (UInt8.ofNat (16 * x + y).toNat).toNat = (16 * x + y).toNat := by rw [UInt8.toNat_ofNat']; omega
  rw [this]; omega
/-- two digits more -/
theorem hex_more {b s : List UInt8} (hi : 2 * b.length + 1 < s.length) (hb : toHexL b = s.take (2 * b.length)) (hx : 0 ≤ hexV s[2 * b.length]) (hy : 0 ≤ hexV s[2 * b.length + 1]) :
    toHexL (b ++ [UInt8.ofNat (16 * hexV s[2 * b.length] + hexV s[2 * b.length + 1]).toNat]) = s.take (2 * (b.length + 1)) := by
  have h1 := hexV_some hx
  have h2 := hexV_some hy
  obtain ⟨e1, e2⟩ := hex_byte hx h1.1 hy h2.1
  rw [toHex_snoc, e1, e2, ← h1.2, ← h2.2, hb, show 2 * (b.length + 1) = 2 * b.length + 1 + 1 by omega, List.take_succ_eq_append_getElem hi, List.take_succ_eq_append_getElem (show 2 * b.length < s.length by omega)]
open Classical in
noncomputable def ofHexV (s : List UInt8) : List UInt8 × Bool := if h : ∃ d, toHexL d = s then (h.choose, true) else ([], false)
theorem ofHex_yes {d s : List UInt8} (h : toHexL d = s) : ofHexV s = (d, true) := by
  have he : ∃ d, toHexL d = s := ⟨d, h⟩
  unfold ofHexV
  rw [dif_pos he, toHex_inj (he.choose_spec.trans h.symm)]
theorem ofHex_no {s : List UInt8} (h : ∀ d, toHexL d ≠ s) : ofHexV s = ([], false) := by
  unfold ofHexV
  rw [dif_neg fun ⟨d, k⟩ => h d k]
/-! Lines -/
def dataP (k : Int) (d : List UInt8) : List (List UInt8) := if k = 1 then [toHexL d] else if k = 2 then [d] else []
def partsE (e : Ent) : List (List UInt8) := (verbA e.verb.toNat).1 :: (e.n.map textL ++ dataP (verbA e.verb.toNat).2.2 e.data)
def lineE (e : Ent) : List UInt8 := Lib.join (partsE e) [32]
def lineV (e : Ent) : List UInt8 := if rightB e = true then lineE e else []
theorem right_spec {e : Ent} (h : rightB e = true) : 1 ≤ e.verb ∧ e.verb < 24 ∧ (e.n.length : Int) = (verbA e.verb.toNat).2.1 ∧ (∀ x ∈ e.n, 0 ≤ x ∧ x ≤ 1073741824) ∧ dataB (verbA e.verb.toNat).2.2 e.data = true := by
  unfold rightB at h
  simp only [Bool.and_eq_true, decide_eq_true_eq] at h
  refine ⟨h.1.1, h.1.2.1, h.1.2.2, fun x hx => ?_, h.2.2⟩
  have := List.all_eq_true.1 h.2.1 x hx
  simpa [numB] using this
theorem verb_facts {n : Nat} (h : n < 24) : (32 : UInt8) ∉ (verbA n).1 ∧ (10 : UInt8) ∉ (verbA n).1 ∧ (verbA n).1.length ≤ 7 ∧ 0 ≤ (verbA n).2.1 ∧ (verbA n).2.1 ≤ 5 ∧ ((verbA n).2.2 = 0 ∨ (verbA n).2.2 = 1 ∨ (verbA n).2.2 = 2) ∧ (1 ≤ n → (verbA n).1 ≠ [] ∧ ∀ t, (verbA n).1 ≠ 35 :: t) := by
  have : ∀ n, n < 24 → (32 : UInt8) ∉ (verbA n).1 ∧ (10 : UInt8) ∉ (verbA n).1 ∧ (verbA n).1.length ≤ 7 ∧ 0 ≤ (verbA n).2.1 ∧ (verbA n).2.1 ≤ 5 ∧ ((verbA n).2.2 = 0 ∨ (verbA n).2.2 = 1 ∨ (verbA n).2.2 = 2) ∧ (1 ≤ n → (verbA n).1 ≠ [] ∧ (verbA n).1.headD 0 ≠ 35) := by decide +kernel
  obtain ⟨h1, h2, h3, h4, h5, h6, h7⟩ := this n h
  exact ⟨h1, h2, h3, h4, h5, h6, fun k => ⟨(h7 k).1, fun t e => (h7 k).2 (by rw [e]; rfl)⟩⟩
theorem text_char {n : Int} (h : 0 ≤ n) : ∀ c ∈ textL n, isDig c := fun c hc => by
  unfold textL at hc
  rw [if_neg (by omega)] at hc
  exact digL_dig _ c hc
theorem name_char {d : List UInt8} (h : nameV d = true) : ∀ c ∈ d, c ≠ 32 ∧ c ≠ 10 := fun c hc => by
  unfold nameV at h
  simp only [Bool.and_eq_true] at h
  have := List.all_eq_true.1 h.1.1.2 c hc
  refine ⟨fun e => ?_, fun e => ?_⟩ <;> (rw [e] at this; exact absurd this (by decide))
theorem part_char {e : Ent} (h : rightB e = true) : ∀ p ∈ partsE e, (32 : UInt8) ∉ p ∧ (10 : UInt8) ∉ p := fun p hp => by
  obtain ⟨h1, h2, h3, h4, h5⟩ := right_spec h
  have hv := verb_facts (n := e.verb.toNat) (by omega)
  rcases List.mem_cons.1 hp with rfl | hp
  · exact ⟨hv.1, hv.2.1⟩
  rcases List.mem_append.1 hp with hp | hp
  · obtain ⟨n, hn, rfl⟩ := List.mem_map.1 hp
    have hd := text_char (h4 n hn).1
    exact ⟨fun k => absurd (hd _ k) (by decide), fun k => absurd (hd _ k) (by decide)⟩
  · unfold dataP at hp
    unfold dataB at h5
    split at hp
    · rw [List.mem_singleton.1 hp]
      exact ⟨fun k => (toHex_char _ _ k).1 rfl, fun k => (toHex_char _ _ k).2 rfl⟩
    · split at hp
      · rename_i k1 k2
        rw [if_neg k1, if_pos k2] at h5
        rw [List.mem_singleton.1 hp]
        exact ⟨fun k => (name_char h5 _ k).1 rfl, fun k => (name_char h5 _ k).2 rfl⟩
      · cases hp
theorem line_parts {e : Ent} (h : rightB e = true) : partsB 32 (lineE e) = partsE e := partsJ (by simp [partsE]) fun p hp => (part_char h p hp).1
theorem parts_line {e : Ent} {s : List UInt8} (h : partsE e = partsB 32 s) : lineE e = s := by unfold lineE; rw [h, joinP]
theorem line_iff {e : Ent} {s : List UInt8} (h : rightB e = true) : lineE e = s ↔ partsE e = partsB 32 s := ⟨fun k => by rw [← k, line_parts h], parts_line⟩
theorem map_text_inj : ∀ {a b : List Int}, a.map textL = b.map textL → a = b
  | [], [], _ => rfl
  | [], _ :: _, h => by cases h
  | _ :: _, [], h => by cases h
  | x :: a, y :: b, h => by
    rw [textL_inj (List.cons.inj h).1, map_text_inj (List.cons.inj h).2]
theorem parts_verb {a : Ent} (ha : rightB a = true) {w : List UInt8} {l : List (List UInt8)} (h : partsE a = w :: l) : findV w = a.verb.toNat ∧ l = a.n.map textL ++ dataP (verbA a.verb.toNat).2.2 a.data := by
  obtain ⟨h1, h2, h3, h4, h5⟩ := right_spec ha
  have e := List.cons.inj h
  exact ⟨find_hit (by omega) (by omega) e.1, e.2.symm⟩
theorem partsE_inj {a b : Ent} (ha : rightB a = true) (hb : rightB b = true) (h : partsE a = partsE b) : a = b := by
  obtain ⟨a1, a2, a3, a4, a5⟩ := right_spec ha
  obtain ⟨b1, b2, b3, b4, b5⟩ := right_spec hb
  have hv := (parts_verb ha (w := (verbA b.verb.toNat).1) h).1
  rw [(parts_verb hb (w := (verbA b.verb.toNat).1) rfl).1] at hv
  have ev : a.verb = b.verb := by omega
  have e := (List.cons.inj h).2
  rw [ev] at e a3 a5
  obtain ⟨e1, e2⟩ := List.append_inj e (by simp; omega)
  have en := map_text_inj e1
  have ed : a.data = b.data := by
    unfold dataP at e2; unfold dataB at a5 b5
    split at e2
    · exact toHex_inj (List.cons.inj e2).1
    · rename_i k1
      rw [if_neg k1] at a5 b5
      split at e2
      · exact (List.cons.inj e2).1
      · rename_i k2
        rw [if_neg k2] at a5 b5
        rw [of_decide_eq_true a5, of_decide_eq_true b5]
  cases a; cases b; simp only at ev en ed; rw [ev, en, ed]
open Classical in
noncomputable def parseE (s : List UInt8) : Option Ent := if h : ∃ e, rightB e = true ∧ partsE e = partsB 32 s then some h.choose else none
theorem parseE_yes {e : Ent} {s : List UInt8} (h1 : rightB e = true) (h2 : partsE e = partsB 32 s) : parseE s = some e := by
  have he : ∃ e, rightB e = true ∧ partsE e = partsB 32 s := ⟨e, h1, h2⟩
  unfold parseE
  rw [dif_pos he, partsE_inj he.choose_spec.1 h1 (he.choose_spec.2.trans h2.symm)]
theorem parseE_none {s : List UInt8} (h : ∀ e, rightB e = true → partsE e = partsB 32 s → False) : parseE s = none := by
  unfold parseE
  rw [dif_neg fun ⟨e, h1, h2⟩ => h e h1 h2]
theorem parse_spec {s : List UInt8} {e : Ent} (h : parseE s = some e) : rightB e = true ∧ partsE e = partsB 32 s := by
  unfold parseE at h
  split at h
  · rename_i he
    rw [← Option.some.inj h]; exact he.choose_spec
  · cases h
theorem parse_lineE {e : Ent} (h : rightB e = true) : parseE (lineE e) = some e := parseE_yes h (line_parts h).symm
def ent0 : Ent := ⟨0, [], []⟩
noncomputable def dataV (k : Int) (l : List (List UInt8)) : List UInt8 × Bool := if k = 0 then ([], decide (l = [])) else if l.length ≠ 1 then ([], false) else if k = 1 then ofHexV (l.headD []) else (l.headD [], true)
/-- what data says is its last part -/
theorem data_yes {k : Int} {l : List (List UInt8)} {d : List UInt8} (hk : k = 0 ∨ k = 1 ∨ k = 2) (h : dataV k l = (d, true)) : dataP k d = l := by
  unfold dataV at h; unfold dataP
  rcases hk with rfl | rfl | rfl
  · rw [if_pos rfl] at h
    have := of_decide_eq_true (Prod.mk.inj h).2
    rw [this]; simp
  · rw [if_neg (by decide)] at h
    split at h
    · simp at h
    · rename_i hl
      rw [if_pos rfl] at h
      obtain ⟨x, rfl⟩ := List.length_eq_one_iff.1 (by simpa using hl)
      simp only [List.headD_cons] at h
      unfold ofHexV at h
      split at h
      · rename_i he
        rw [if_pos rfl, ← (Prod.mk.inj h).1, he.choose_spec]
      · simp at h
  · rw [if_neg (by decide)] at h
    split at h
    · simp at h
    · rename_i hl
      rw [if_neg (by decide)] at h
      obtain ⟨x, rfl⟩ := List.length_eq_one_iff.1 (by simpa using hl)
      simp only [List.headD_cons] at h
      rw [if_neg (by decide), if_pos rfl, (Prod.mk.inj h).1]
theorem data_back {k : Int} {l : List (List UInt8)} {d : List UInt8} (hk : k = 0 ∨ k = 1 ∨ k = 2) (hd : dataB k d = true) (h : dataP k d = l) : dataV k l = (d, true) := by
  subst h
  unfold dataV dataP
  rcases hk with rfl | rfl | rfl
  · unfold dataB at hd
    rw [if_neg (by decide), if_neg (by decide)] at hd
    simp [of_decide_eq_true hd]
  · have := ofHex_yes (d := d) rfl
    simp [this]
  · simp
/-- a part that fails: no entry has that line -/
theorem parse_noverb {s w : List UInt8} {l : List (List UInt8)} (hs : partsB 32 s = w :: l) (h : findV w = 0) : parseE s = none := parseE_none fun e h1 h2 => by
  have := (parts_verb h1 (h2.trans hs)).1
  obtain ⟨h1, h2, h3, h4, h5⟩ := right_spec h1
  omega
theorem parse_few {s w : List UInt8} {l : List (List UInt8)} (hs : partsB 32 s = w :: l) (h : (l.length : Int) < (verbA (findV w)).2.1) : parseE s = none := parseE_none fun e h1 h2 => by
  obtain ⟨e1, e2⟩ := parts_verb h1 (h2.trans hs)
  obtain ⟨h1, h2, h3, h4, h5⟩ := right_spec h1
  rw [e1] at h
  have := congrArg List.length e2
  simp at this
  omega
theorem parse_nonum {s w : List UInt8} {l : List (List UInt8)} {i : Nat} (hs : partsB 32 s = w :: l) (hi : (i : Int) < (verbA (findV w)).2.1) (hl : i < l.length) (h : (parseV l[i] 1073741824).2 = false) : parseE s = none := parseE_none fun e h1 h2 => by
  obtain ⟨e1, e2⟩ := parts_verb h1 (h2.trans hs)
  obtain ⟨h1, h2, h3, h4, h5⟩ := right_spec h1
  rw [e1] at hi
  have hin : i < e.n.length := by omega
  have e3 : l[i] = textL e.n[i] := by
    subst e2
    rw [List.getElem_append_left (by simpa using hin), List.getElem_map]
  have hr := h4 _ (List.getElem_mem hin)
  rw [e3, Go.NumSpec.parse_text ⟨by omega, by omega⟩ hr.2, if_pos hr.1] at h
  simp at h
/-- the numbers that were read -/
def numsOf (l : List (List UInt8)) : List Int := l.map fun w => (parseV w 1073741824).1
theorem parseV_text {w : List UInt8} {m : Int} (h : (parseV w m).2 = true) : textL (parseV w m).1 = w ∧ 0 ≤ (parseV w m).1 ∧ (parseV w m).1 ≤ m := by
  unfold parseV at h ⊢
  split at h
  · rename_i k
    rw [if_pos k]
    refine ⟨?_, by simp, k.2.2⟩
    unfold textL
    rw [if_neg (by simp)]
    simpa using k.1.symm
  · cases h
theorem nums_text : ∀ {l : List (List UInt8)}, (∀ i (h : i < l.length), (parseV l[i] 1073741824).2 = true) → (numsOf l).map textL = l
  | [], _ => rfl
  | w :: l, h => by
    have h1 := (parseV_text (h 0 (by simp))).1
    have h2 := nums_text (l := l) fun i hi => h (i + 1) (by simpa using hi)
    unfold numsOf at h2 ⊢
    simp only [List.map_cons]
    rw [h2]
    exact congrArg (· :: l) h1
noncomputable def candE (w : List UInt8) (l : List (List UInt8)) : Ent := ⟨findV w, numsOf (l.take (verbA (findV w)).2.1.toNat), (dataV (verbA (findV w)).2.2 (l.drop (verbA (findV w)).2.1.toNat)).1⟩
theorem cand_parts {w : List UInt8} {l : List (List UInt8)} (h0 : findV w ≠ 0) (hl : (verbA (findV w)).2.1 ≤ (l.length : Int)) (hn : ∀ i (h : i < l.length), (i : Int) < (verbA (findV w)).2.1 → (parseV l[i] 1073741824).2 = true) (hd : (dataV (verbA (findV w)).2.2 (l.drop (verbA (findV w)).2.1.toNat)).2 = true) : partsE (candE w l) = w :: l := by
  have hv := verb_facts (find_lt w)
  have h1 := nums_text (l := l.take (verbA (findV w)).2.1.toNat) fun i hi => by
    have hi2 : i < l.length := by simp at hi; omega
    rw [List.getElem_take]
    rw [List.length_take] at hi
    exact hn i hi2 (by omega)
  have h2 := data_yes (k := (verbA (findV w)).2.2) (l := l.drop (verbA (findV w)).2.1.toNat) (d := (candE w l).data) hv.2.2.2.2.2.1 (Prod.ext rfl hd)
  unfold partsE
  show (verbA ((findV w : Nat) : Int).toNat).1 :: ((numsOf (l.take (verbA (findV w)).2.1.toNat)).map textL ++ dataP (verbA ((findV w : Nat) : Int).toNat).2.2 (candE w l).data) = _
  rw [Int.toNat_natCast, h1, h2, find_word h0, List.take_append_drop]
/-- the reading of a line, once all its parts are read -/
theorem parse_cand {s w : List UInt8} {l : List (List UInt8)} (hs : partsB 32 s = w :: l) (h0 : findV w ≠ 0) (hl : (verbA (findV w)).2.1 ≤ (l.length : Int)) (hn : ∀ i (h : i < l.length), (i : Int) < (verbA (findV w)).2.1 → (parseV l[i] 1073741824).2 = true) :
    parseE s = if (dataV (verbA (findV w)).2.2 (l.drop (verbA (findV w)).2.1.toNat)).2 = true ∧ rightB (candE w l) = true then some (candE w l) else none := by
  have hv := verb_facts (find_lt w)
  split
  · rename_i h
    exact parseE_yes h.2 ((cand_parts h0 hl hn h.1).trans hs.symm)
  · rename_i h
    refine parseE_none fun e h1 h2 => h ?_
    obtain ⟨e1, e2⟩ := parts_verb h1 (h2.trans hs)
    obtain ⟨k1, k2, k3, k4, k5⟩ := right_spec h1
    have hd : (dataV (verbA (findV w)).2.2 (l.drop (verbA (findV w)).2.1.toNat)).2 = true := by
      have e3 : l.drop (verbA (findV w)).2.1.toNat = dataP (verbA e.verb.toNat).2.2 e.data := by
        rw [e2, e1]; exact List.drop_left' (by rw [List.length_map]; omega)
      rw [e3, e1, data_back (e1 ▸ hv.2.2.2.2.2.1) k5 rfl]
    refine ⟨hd, ?_⟩
    have hp := (cand_parts h0 hl hn hd).trans (hs.symm.trans h2.symm)
    have hn2 : (candE w l).n = e.n := by
      have e3 := (List.cons.inj hp).2
      rw [show (candE w l).verb.toNat = e.verb.toNat by show ((findV w : Nat) : Int).toNat = _; omega] at e3
      exact map_text_inj (List.append_inj e3 (by
        show ((numsOf (l.take _)).map textL).length = _
        have hlen := congrArg List.length e2
        rw [List.length_append, List.length_map] at hlen
        unfold numsOf
        rw [List.length_map, List.length_map, List.length_map, List.length_take, e1]; omega)).1
    have hd2 : (candE w l).data = e.data := by
      have e3 : l.drop (verbA (findV w)).2.1.toNat = dataP (verbA e.verb.toNat).2.2 e.data := by
        rw [e2, e1]; exact List.drop_left' (by rw [List.length_map]; omega)
      show (dataV (verbA (findV w)).2.2 (l.drop (verbA (findV w)).2.1.toNat)).1 = _
      rw [e3, e1, data_back (e1 ▸ hv.2.2.2.2.2.1) k5 rfl]
    have hv2 : (candE w l).verb = e.verb := by show ((findV w : Nat) : Int) = _; omega
    have : candE w l = e := by
      cases e; cases hc : candE w l; rw [hc] at hn2 hd2 hv2; simp only at hn2 hd2 hv2; rw [hn2, hd2, hv2]
    rw [this]; exact h1
/-! Texts -/
def skipB (l : List UInt8) : Bool := decide (l = []) || decide (l.headD 0 = 35)
noncomputable def badB (l : List UInt8) : Bool := !skipB l && (parseE l).isNone
noncomputable def entsOf (ls : List (List UInt8)) : List Ent := ls.filterMap fun l => if skipB l = true then none else parseE l
noncomputable def badLn (ls : List (List UInt8)) : Nat := match ls.findIdx? badB with | some i => i + 1 | none => 0
noncomputable def readV (s : List UInt8) : List Ent × Nat := if badLn (partsB 10 s) = 0 then (entsOf (partsB 10 s), 0) else ([], badLn (partsB 10 s))
theorem bad_hit {ls : List (List UInt8)} {i : Nat} (hi : i < ls.length) (h : badB ls[i] = true) (hb : ∀ j (hj : j < ls.length), j < i → badB ls[j] = false) : badLn ls = i + 1 := by
  unfold badLn
  rw [List.findIdx?_eq_some_iff_getElem.2 ⟨hi, h, fun j hj => by simpa using hb j (by omega) hj⟩]
theorem bad_none {ls : List (List UInt8)} (hb : ∀ j (hj : j < ls.length), badB ls[j] = false) : badLn ls = 0 := by
  unfold badLn
  rw [List.findIdx?_eq_none_iff.2 fun x hx => by
    obtain ⟨j, hj, rfl⟩ := List.mem_iff_getElem.1 hx
    exact hb j hj]
theorem ents_skip {ls : List (List UInt8)} {i : Nat} (hi : i < ls.length) (h : skipB ls[i] = true) : entsOf (ls.take (i + 1)) = entsOf (ls.take i) := by
  unfold entsOf
  rw [List.take_succ_eq_append_getElem hi, List.filterMap_append]
  simp [h]
theorem ents_next {ls : List (List UInt8)} {i : Nat} (hi : i < ls.length) (h : ¬ skipB ls[i] = true) {e : Ent} (he : parseE ls[i] = some e) : entsOf (ls.take (i + 1)) = entsOf (ls.take i) ++ [e] := by
  unfold entsOf
  rw [List.take_succ_eq_append_getElem hi, List.filterMap_append]
  simp [h, he]
def writeV (l : List Ent) : List UInt8 := l.flatMap fun e => if rightB e = true then lineE e ++ [10] else []
theorem join_mem {c : List UInt8} {x : UInt8} : ∀ {l : List (List UInt8)}, x ∈ Lib.join l c → (∃ p ∈ l, x ∈ p) ∨ x ∈ c
  | [], h => by simp [Lib.join_nil] at h
  | [p], h => by rw [Lib.join_one] at h; exact .inl ⟨p, by simp, h⟩
  | p :: q :: l, h => by
    have e : Lib.join (p :: q :: l) c = p ++ (c ++ Lib.join (q :: l) c) := by
      rw [Lib.join_cons, Lib.join_cons]; simp [Lib.joinTail]
    rw [e] at h
    rcases List.mem_append.1 h with h | h
    · exact .inl ⟨p, by simp, h⟩
    · rcases List.mem_append.1 h with h | h
      · exact .inr h
      · rcases join_mem h with ⟨r, hr, hx⟩ | h
        · exact .inl ⟨r, List.mem_cons_of_mem _ hr, hx⟩
        · exact .inr h
theorem line_char {e : Ent} (h : rightB e = true) : (10 : UInt8) ∉ lineE e := fun hm => by
  rcases join_mem hm with ⟨p, hp, hx⟩ | hx
  · exact (part_char h p hp).2 hx
  · exact absurd hx (by decide)
theorem line_skip {e : Ent} (h : rightB e = true) : skipB (lineE e) = false := by
  obtain ⟨h1, h2, h3, h4, h5⟩ := right_spec h
  have hv := (verb_facts (n := e.verb.toNat) (by omega)).2.2.2.2.2.2 (by omega)
  unfold lineE partsE
  rw [Lib.join_cons]
  cases hw : (verbA e.verb.toNat).1 with
  | nil => exact absurd hw hv.1
  | cons x t =>
    have : x ≠ 35 := fun k => hv.2 t (by rw [hw, k])
    simp [skipB, this]
end Go.AL

/-
The logic AL: load of several cells of a table.
Conditions: none; no program is in sight.
-/
set_option linter.unusedVariables false
set_option linter.unusedSimpArgs false
namespace Go.AL
open Go.RowKit
section
variable {P : Program} {N : Nat} {env : Env} {st : St} {o : Oper} {w : World}
theorem S_loadKs {t : TypeId} {x : Operand} {b off m : Nat} {vs : List Value} (ho : o.op = .load t x) (hx : AEv env x (.ptr b off)) (hst : (b, Ob.konst vs) ∈ st) (ht : rowT P t m = true) (hm : off + m ≤ vs.length) : PStep P N o env st (.agg (((vs.drop off).take m).map AV.lit)) :=
  .of_val fun a w hg => by
    obtain ⟨d, hu, hd, hi⟩ := rowT_spec ht
    have e := eval_ptr hx hg
    have hlen : ((vs.drop off).take m).length = m := by simp; omega
    refine ⟨.agg ((vs.drop off).take m).toArray, ?_, .agg _ _ (by simp) fun i c v hc hv => ?_⟩
    · have hr : w.rangeAt b off ((vs.drop off).take m) := fun j v hv => by
        have hj : j < m := by have := (List.getElem?_eq_some_iff.1 hv).1; omega
        rw [List.getElem?_take_of_lt hj, List.getElem?_drop] at hv
        exact (hg.rel.konst b vs hst).2 _ _ hv
      simp only [execOp, ho, e, Sem.run_bind, run_loadAt_mid (P := P) w b off t _ d hr hu hd (by rw [hi, hlen]), Result.andThen_ok, Sem.run_pure]
    · rw [List.getElem?_toArray] at hv
      rw [List.getElem?_map, hv] at hc
      rw [← Option.some.inj hc]
      exact .lit _
theorem PStep.leV {V V' : AV} (h : PStep P N o env st V) (hl : Le V V') : PStep P N o env st V' := fun a w hg next Q hn => h a w hg next Q fun x st' v w' ⟨h1, h2⟩ hr hrel hx => by
  subst h1; exact hn V' st' v w' ⟨rfl, h2⟩ (hl _ _ _ hr) hrel hx
/-- .. an element of a row of rows that is a value -/
theorem S_idxRow {t e : TypeId} {len m : Nat} {x y : Operand} {cs : List AV} {k : IntKind} {i : Int} (ho : o.op = .index t x y) (hx : AEv env x (.agg cs)) (hy : AEv env y (.int k i)) (hu : P.underlying t = some (.array len e)) (ht : rowT P e m = true) (h0 : 0 ≤ i) (h1 : i < len) (hm : i.toNat * m + m ≤ cs.length) : PStep P N o env st (.agg ((cs.drop (i.toNat * m)).take m)) :=
  .of_val fun a w hg => by
    obtain ⟨vs, e1, hn, hr⟩ := agg_inv (hx _ _ _ _ hg)
    have e2 := (hy _ _ _ _ hg).lit_inv
    obtain ⟨d, hu2, hd, hi⟩ := rowT_spec ht
    have := run_part_row (P := P) (cs := vs) (k := i.toNat * m) w ht
    refine ⟨.agg (vs.extract (i.toNat * m) (i.toNat * m + m)), ?_, .agg _ _ (by simp; omega) fun j c v hc hv => ?_⟩
    · cases hq : P.info? e with
      | none => simp [hq] at hi
      | some q =>
        have hqm : q.size = m := by simpa [hq] using hi
        simp [execOp, ho, e1, e2, Instr.index, asIntOf, run_underlying hu, h0, h1, sizeOf, typeInfo, hq, hqm, this]
    · have hj : j < m := by have := (List.getElem?_eq_some_iff.1 hc).1; simp at this; omega
      rw [List.getElem?_take_of_lt hj, List.getElem?_drop] at hc
      refine hr _ c v hc ?_
      rw [Array.getElem?_extract] at hv
      split at hv
      · exact hv
      · cases hv
end
end Go.AL

/-
Scripts: the document's parts, and texts of entries.
Conditions: none; no program is in sight.
-/
set_option linter.unusedVariables false
set_option linter.unusedSimpArgs false
namespace Go.AL
open Go.RowKit Go.NumSpec
/-- how far the parts are read: i bytes, from where the part under way began, the parts that are done -/
def PQ (c : UInt8) (s : List UInt8) (i f : Nat) (done : List (List UInt8)) : Prop :=
  f ≤ i ∧ i ≤ s.length + 1 ∧ done.length ≤ i ∧ (∀ p ∈ done, p.length ≤ s.length) ∧ (i ≤ s.length → c ∉ (s.take i).drop f ∧ partsB c s = done ++ partsB c (s.drop f)) ∧ (¬ i ≤ s.length → partsB c s = done)
theorem pq_start (c : UInt8) (s : List UInt8) : PQ c s 0 0 [] := ⟨Nat.le_refl _, by omega, by simp, by simp, fun _ => ⟨by simp, by simp⟩, fun h => absurd (Nat.zero_le _) h⟩
theorem drop_split {s : List UInt8} {i f : Nat} (hf : f ≤ i) (hi : i ≤ s.length) : s.drop f = (s.take i).drop f ++ s.drop i := by
  conv => lhs; rw [← List.take_append_drop i s]
  rw [List.drop_append_of_le_length (by rw [List.length_take]; omega)]
theorem pq_char {c : UInt8} {s : List UInt8} {i f : Nat} {done : List (List UInt8)} (h : PQ c s i f done) (hi : i < s.length) (hx : s[i] ≠ c) : PQ c s (i + 1) f done := by
  obtain ⟨h1, h2, h3, h9, h4, h5⟩ := h
  obtain ⟨h6, h7⟩ := h4 (by omega)
  refine ⟨by omega, by omega, by omega, h9, fun _ => ⟨?_, h7⟩, fun k => by omega⟩
  rw [List.take_succ_eq_append_getElem hi, List.drop_append_of_le_length (by rw [List.length_take]; omega)]
  simp only [List.mem_append, List.mem_singleton]
  rintro (k | k)
  · exact h6 k
  · exact hx k.symm
theorem pq_part {c : UInt8} {s : List UInt8} {i f : Nat} {done : List (List UInt8)} (h : PQ c s i f done) (hi : i ≤ s.length) (hx : ∀ k : i < s.length, s[i] = c) : PQ c s (i + 1) (i + 1) (done ++ [(s.take i).drop f]) := by
  obtain ⟨h1, h2, h3, h9, h4, h5⟩ := h
  obtain ⟨h6, h7⟩ := h4 hi
  refine ⟨Nat.le_refl _, by omega, by simp only [List.length_append, List.length_singleton]; omega, fun p hp => ?_, fun k => ⟨by simp, ?_⟩, fun k => ?_⟩
  · rcases List.mem_append.1 hp with hp | hp
    · exact h9 p hp
    · rw [List.mem_singleton.1 hp, List.length_drop, List.length_take]; omega
  · rw [h7, drop_split h1 hi, List.drop_eq_getElem_cons (show i < s.length by omega), hx (by omega), partsHit h6]; simp
  · rw [h7, drop_split h1 hi, List.drop_eq_nil_of_le (show s.length ≤ i by omega), List.append_nil, split_none h6]
theorem pq_end {c : UInt8} {s : List UInt8} {i f : Nat} {done : List (List UInt8)} (h : PQ c s i f done) (hi : ¬ i ≤ s.length) : partsB c s = done := h.2.2.2.2.2 hi
/-! Entries' texts -/
theorem join_len (c : List UInt8) : ∀ l : List (List UInt8), (Lib.join l c).length ≤ (l.map fun p => p.length + c.length).sum
  | [] => by simp [Lib.join_nil]
  | [p] => by rw [Lib.join_one]; simp
  | p :: q :: l => by
    have ih := join_len c (q :: l)
    have e : Lib.join (p :: q :: l) c = p ++ (c ++ Lib.join (q :: l) c) := by
      rw [Lib.join_cons, Lib.join_cons]; simp [Lib.joinTail]
    rw [e, List.map_cons, List.sum_cons]
    simp only [List.length_append]
    omega
theorem sum_le {l : List (List UInt8)} {n : Nat} (h : ∀ p ∈ l, p.length ≤ n) : (l.map fun p => p.length + 1).sum ≤ l.length * (n + 1) := by
  induction l with
  | nil => simp
  | cons p l ih =>
    have h1 := ih fun q hq => h q (List.mem_cons_of_mem _ hq)
    have h2 := h p List.mem_cons_self
    rw [List.map_cons, List.sum_cons, List.length_cons, Nat.add_mul]; omega
theorem data_len {e : Ent} (h : rightB e = true) : e.data.length ≤ 1000 := by
  have h5 := (right_spec h).2.2.2.2
  unfold dataB at h5
  split at h5
  · have := (of_decide_eq_true h5).2; omega
  · split at h5
    · have := nameV_len h5; omega
    · rw [of_decide_eq_true h5]; simp
theorem n_len {e : Ent} (h : rightB e = true) : e.n.length ≤ 5 := by
  obtain ⟨h1, h2, h3, h4, h5⟩ := right_spec h
  have := verb_facts (n := e.verb.toNat) (by omega)
  omega
theorem parts_short {e : Ent} (h : rightB e = true) : (∀ p ∈ partsE e, p.length ≤ 2000) ∧ (partsE e).length ≤ 7 := by
  obtain ⟨h1, h2, h3, h4, h5⟩ := right_spec h
  have hv := verb_facts (n := e.verb.toNat) (by omega)
  have hn := n_len h
  have hd := data_len h
  refine ⟨fun p hp => ?_, ?_⟩
  · rcases List.mem_cons.1 hp with rfl | hp
    · have := hv.2.2.1; omega
    rcases List.mem_append.1 hp with hp | hp
    · obtain ⟨n, hn, rfl⟩ := List.mem_map.1 hp
      have := h4 n hn
      have := textL_len (a := n) ⟨by omega, by omega⟩
      omega
    · unfold dataP at hp
      split at hp
      · rw [List.mem_singleton.1 hp, toHex_len]; omega
      · split at hp
        · rw [List.mem_singleton.1 hp]; omega
        · cases hp
  · unfold partsE dataP
    rw [List.length_cons, List.length_append, List.length_map]
    split
    · simp; omega
    · split <;> simp <;> omega
theorem line_len {e : Ent} (h : rightB e = true) : (lineE e).length ≤ 14007 := by
  obtain ⟨h1, h2⟩ := parts_short h
  have h3 := join_len [32] (partsE e)
  have h4 := sum_le h1
  have h5 : (partsE e).length * (2000 + 1) ≤ 7 * 2001 := Nat.mul_le_mul_right _ h2
  unfold lineE
  simp only [List.length_singleton] at h3
  omega
theorem lineV_len (e : Ent) : (lineV e).length ≤ 14007 := by
  unfold lineV
  split
  · rename_i h; exact line_len h
  · simp
theorem ents_append (a b : List (List UInt8)) : entsOf (a ++ b) = entsOf a ++ entsOf b := by unfold entsOf; rw [List.filterMap_append]
theorem ents_len (ls : List (List UInt8)) : (entsOf ls).length ≤ ls.length := List.length_filterMap_le _ _
/-- what is written is read -/
theorem write_parts : ∀ {l : List Ent}, (∀ e ∈ l, rightB e = true) → partsB 10 (writeV l) = l.map lineE ++ [[]]
  | [], _ => by simp [writeV, partsB]
  | e :: l, h => by
    have he := h e List.mem_cons_self
    have ih := write_parts (l := l) fun x hx => h x (List.mem_cons_of_mem _ hx)
    have e1 : writeV (e :: l) = lineE e ++ 10 :: writeV l := by simp [writeV, he]
    rw [e1, partsHit (line_char he), ih]; simp
theorem ents_lines : ∀ {l : List Ent}, (∀ e ∈ l, rightB e = true) → entsOf (l.map lineE) = l
  | [], _ => rfl
  | e :: l, h => by
    have he := h e List.mem_cons_self
    have ih := ents_lines (l := l) fun x hx => h x (List.mem_cons_of_mem _ hx)
    unfold entsOf at ih ⊢
    rw [List.map_cons, List.filterMap_cons]
    simp only [line_skip he, Bool.false_eq_true, if_false, parse_lineE he]
    rw [ih]
theorem bad_line {e : Ent} (h : rightB e = true) : badB (lineE e) = false := by unfold badB; rw [line_skip h, parse_lineE h]; rfl
theorem badLn_none {ls : List (List UInt8)} (h : ∀ p ∈ ls, badB p = false) : badLn ls = 0 := bad_none fun j hj => h _ (List.getElem_mem hj)
theorem read_write {l : List Ent} (h : ∀ e ∈ l, rightB e = true) : readV (writeV l) = (l, 0) := by
  unfold readV
  rw [write_parts h, badLn_none fun p hp => ?_, if_pos rfl, ents_append, ents_lines h]
  · simp [entsOf, skipB]
  · rcases List.mem_append.1 hp with hp | hp
    · obtain ⟨e, he, rfl⟩ := List.mem_map.1 hp
      exact bad_line (h e he)
    · rw [List.mem_singleton.1 hp]; simp [badB, skipB]
/-- with comments between -/
def noisy (l : List Ent) : List UInt8 := l.flatMap fun e => if rightB e = true then lineE e ++ [10, 35, 10, 10] else []
theorem noisy_parts : ∀ {l : List Ent}, partsB 10 (noisy l) = ((l.filter rightB).flatMap fun e => [lineE e, [35], []]) ++ [[]]
  | [] => by simp [noisy, partsB]
  | e :: l => by
    have ih := noisy_parts (l := l)
    by_cases he : rightB e = true
    · have e1 : noisy (e :: l) = lineE e ++ 10 :: ([35] ++ 10 :: ([] ++ 10 :: noisy l)) := by simp [noisy, he]
      rw [e1, partsHit (line_char he), partsHit (by decide), partsHit (by simp), ih]; simp [he]
    · have e1 : noisy (e :: l) = noisy l := by simp [noisy, he]
      rw [e1, ih]; simp [he]
theorem ents_noisy : ∀ {l : List Ent}, (∀ e ∈ l, rightB e = true) → entsOf (l.flatMap fun e => [lineE e, [35], []]) = l
  | [], _ => rfl
  | e :: l, h => by
    have he := h e List.mem_cons_self
    have ih := ents_noisy (l := l) fun x hx => h x (List.mem_cons_of_mem _ hx)
    have s1 : skipB [35] = true := by decide
    have s2 : skipB [] = true := by decide
    have e3 : entsOf [lineE e, [35], []] = [e] := by
      simp only [entsOf, List.filterMap_cons, List.filterMap_nil, line_skip he, parse_lineE he, Bool.false_eq_true, if_false, s1, s2, if_true]
    rw [List.flatMap_cons, ents_append, ih, e3]; rfl
theorem read_noisy (l : List Ent) : readV ([35, 32, 115, 111, 10, 10] ++ noisy l) = (l.filter rightB, 0) := by
  have hf : ∀ e ∈ l.filter rightB, rightB e = true := fun e he => (List.mem_filter.1 he).2
  have hp : partsB 10 ([35, 32, 115, 111, 10, 10] ++ noisy l) = [35, 32, 115, 111] :: [] :: partsB 10 (noisy l) := by
    have e1 : [35, 32, 115, 111, 10, 10] ++ noisy l = [35, 32, 115, 111] ++ 10 :: ([] ++ 10 :: noisy l) := rfl
    rw [e1, partsHit (by decide), partsHit (by simp)]
  unfold readV
  rw [hp, noisy_parts, badLn_none fun p hp => ?_, if_pos rfl]
  · rw [show ([35, 32, 115, 111] :: [] :: (((l.filter rightB).flatMap fun e => [lineE e, [35], []]) ++ [[]]) : List (List UInt8)) = [[35, 32, 115, 111], []] ++ (((l.filter rightB).flatMap fun e => [lineE e, [35], []]) ++ [[]]) from rfl, ents_append, ents_append, ents_noisy hf]
    simp [entsOf, skipB]
  · simp only [List.mem_cons, List.mem_append, List.not_mem_nil, or_false] at hp
    rcases hp with rfl | rfl | hp | rfl
    · simp [badB, skipB]
    · simp [badB, skipB]
    · obtain ⟨e, he, hp⟩ := List.mem_flatMap.1 hp
      simp only [List.mem_cons, List.not_mem_nil, or_false] at hp
      rcases hp with rfl | rfl | rfl
      · exact bad_line (hf e he)
      · simp [badB, skipB]
      · simp [badB, skipB]
    · simp [badB, skipB]
/-- what was read of a line has just that line -/
theorem parse_back {s : List UInt8} {e : Ent} (h : parseE s = some e) : rightB e = true ∧ lineV e = s := by
  obtain ⟨h1, h2⟩ := parse_spec h
  exact ⟨h1, by unfold lineV; rw [if_pos h1]; exact parts_line h2⟩
theorem write_next {l : List Ent} {i : Nat} (hi : i < l.length) : writeV (l.take (i + 1)) = writeV (l.take i) ++ (if rightB l[i] = true then lineE l[i] ++ [10] else []) := by
  unfold writeV
  rw [List.take_succ_eq_append_getElem hi, List.flatMap_append]; simp
theorem write_len (l : List Ent) : (writeV l).length ≤ l.length * 14008 := by
  induction l with
  | nil => simp [writeV]
  | cons e l ih =>
    have : writeV (e :: l) = (if rightB e = true then lineE e ++ [10] else []) ++ writeV l := rfl
    rw [this, List.length_append, List.length_cons, Nat.add_mul]
    split
    · rename_i h; have := line_len h; simp only [List.length_append, List.length_singleton]; omega
    · simp only [List.length_nil]; omega
theorem noisy_next {l : List Ent} {i : Nat} (hi : i < l.length) : noisy (l.take (i + 1)) = noisy (l.take i) ++ (if rightB l[i] = true then lineE l[i] ++ [10, 35, 10, 10] else []) := by
  unfold noisy
  rw [List.take_succ_eq_append_getElem hi, List.flatMap_append]; simp
theorem noisy_len (l : List Ent) : (noisy l).length ≤ l.length * 14011 := by
  induction l with
  | nil => simp [noisy]
  | cons e l ih =>
    have : noisy (e :: l) = (if rightB e = true then lineE e ++ [10, 35, 10, 10] else []) ++ noisy l := rfl
    rw [this, List.length_append, List.length_cons, Nat.add_mul]
    split
    · rename_i h; have := line_len h; simp only [List.length_append, List.length_cons, List.length_nil]; omega
    · simp only [List.length_nil]; omega
theorem verbs_row {v : Int} (h0 : 0 ≤ v) (h : v < 24) : ((verbsV.drop (0 + v.toNat * 3)).take 3).map AV.lit = [.S (verbA v.toNat).1, .int .i64 (verbA v.toNat).2.1, .int .i64 (verbA v.toNat).2.2] := by
  have : ∀ i, i < 24 → ((verbsV.drop (0 + i * 3)).take 3).map AV.lit = [.S (verbA i).1, .int .i64 (verbA i).2.1, .int .i64 (verbA i).2.2] := fun i hi => match i, hi with
  | 0, _ => rfl
  | 1, _ => rfl
  | 2, _ => rfl
  | 3, _ => rfl
  | 4, _ => rfl
  | 5, _ => rfl
  | 6, _ => rfl
  | 7, _ => rfl
  | 8, _ => rfl
  | 9, _ => rfl
  | 10, _ => rfl
  | 11, _ => rfl
  | 12, _ => rfl
  | 13, _ => rfl
  | 14, _ => rfl
  | 15, _ => rfl
  | 16, _ => rfl
  | 17, _ => rfl
  | 18, _ => rfl
  | 19, _ => rfl
  | 20, _ => rfl
  | 21, _ => rfl
  | 22, _ => rfl
  | 23, _ => rfl
  | k + 24, h => absurd h (by omega)
  exact this _ (by omega)
theorem verbs_cell {v : Int} (h0 : 0 ≤ v) (h : v < 24) : ((((verbsV.drop 0).take 72).map AV.lit).drop (v.toNat * 3)).take 3 = [.S (verbA v.toNat).1, .int .i64 (verbA v.toNat).2.1, .int .i64 (verbA v.toNat).2.2] := by
  have e : (verbsV.drop 0).take 72 = verbsV := rfl
  rw [e, ← List.map_drop, ← List.map_take, ← verbs_row h0 h, Nat.zero_add]
theorem bits_15 {n : Nat} (h : n < 256) : bits .and .u8 (n : Int) 15 = ((n % 16 : Nat) : Int) := by
  have : ∀ n : Nat, n < 256 → bits .and .u8 (n : Int) 15 = ((n % 16 : Nat) : Int) := by decide +kernel
  exact this n h
theorem bits_16 {x y : Nat} (hx : x < 16) (hy : y < 16) : bits .or .i64 ((16 * x : Nat) : Int) (y : Int) = ((16 * x + y : Nat) : Int) := by
  have : ∀ x : Nat, x < 16 → ∀ y : Nat, y < 16 → bits .or .i64 ((16 * x : Nat) : Int) (y : Int) = ((16 * x + y : Nat) : Int) := by decide +kernel
  exact this x hx y hy
/-- an entry's line as far as its numbers were put -/
def partsN (e : Ent) (i : Nat) : List (List UInt8) := (verbA e.verb.toNat).1 :: (e.n.take i).map textL
theorem partsN_next {e : Ent} {i : Nat} (h : i < e.n.length) : partsN e (i + 1) = partsN e i ++ [textL e.n[i]] := by
  unfold partsN
  rw [List.take_succ_eq_append_getElem h, List.map_append]; rfl
theorem partsN_all {e : Ent} {i : Nat} (h : e.n.length ≤ i) : partsE e = partsN e i ++ dataP (verbA e.verb.toNat).2.2 e.data := by
  unfold partsN partsE
  rw [List.take_of_length_le h]; rfl
theorem partsN_len (e : Ent) (i : Nat) : (partsN e i).length ≤ e.n.length + 1 := by
  unfold partsN
  rw [List.length_cons, List.length_map, List.length_take]; omega
def entP (o : Option Ent) : AV := .tup [entAV (o.getD ent0), .int .i64 (if o.isSome then 0 else 460)]
theorem nums_next {l : List (List UInt8)} {i : Nat} (h : i < l.length) : numsOf (l.take (i + 1)) = numsOf (l.take i) ++ [(parseV l[i] 1073741824).1] := by
  unfold numsOf
  rw [List.take_succ_eq_append_getElem h, List.map_append]; rfl
theorem nums_len (l : List (List UInt8)) : (numsOf l).length = l.length := by simp [numsOf]
theorem skip_yes {l : List UInt8} (h : l = [] ∨ atL l 0 = 35) : skipB l = true := by
  unfold skipB
  rcases h with h | h
  · simp [h]
  · cases l with
    | nil => simp
    | cons x t =>
      have : x = 35 := UInt8.toNat_inj.1 (by simp [atL] at h; have : (35 : UInt8).toNat = 35 := rfl; omega)
      simp [this]
theorem skip_no {l : List UInt8} (h : l ≠ []) (h2 : atL l 0 ≠ 35) : ¬ skipB l = true := by
  unfold skipB
  cases l with
  | nil => exact absurd rfl h
  | cons x t =>
    have : x ≠ 35 := fun e => h2 (by rw [e]; rfl)
    simp [this]
theorem ents_nextD {ls : List (List UInt8)} {i : Nat} (hi : i < ls.length) (h : ¬ skipB ls[i] = true) (he : (parseE ls[i]).isSome = true) : entsOf (ls.take (i + 1)) = entsOf (ls.take i) ++ [(parseE ls[i]).getD ent0] := by
  obtain ⟨e, he⟩ := Option.isSome_iff_exists.1 he
  rw [ents_next hi h he, he]; rfl
theorem bad_skip {l : List UInt8} (h : skipB l = true) : badB l = false := by simp [badB, h]
theorem bad_some {l : List UInt8} (h : (parseE l).isSome = true) : badB l = false := by
  obtain ⟨e, he⟩ := Option.isSome_iff_exists.1 h
  simp [badB, he]
theorem bad_yes {l : List UInt8} (h : ¬ skipB l = true) (h2 : (parseE l).isSome = false) : badB l = true := by
  unfold badB
  rw [Option.isNone_iff_eq_none.2 (by simpa using h2)]; simpa using h
theorem code_some {o : Option Ent} (h : (if o.isSome then (0 : Int) else 460) = 0) : o.isSome = true := by
  cases o <;> simp_all
theorem code_none {o : Option Ent} (h : (if o.isSome then (0 : Int) else 460) ≠ 0) : o.isSome = false := by
  cases o <;> simp_all
theorem parse_n {s : List UInt8} {e : Ent} (h : parseE s = some e) : rightB e = true := (parse_spec h).1
theorem entD_right (s : List UInt8) : ((parseE s).getD ent0).n.length ≤ 5 ∧ (∀ x ∈ ((parseE s).getD ent0).n, Go.NumSpec.fits x) ∧ ((parseE s).getD ent0).data.length ≤ 1000 := by
  cases h : parseE s with
  | none => exact ⟨by simp [ent0], by simp [ent0], by simp [ent0]⟩
  | some e =>
    have hr := parse_n h
    obtain ⟨h1, h2, h3, h4, h5⟩ := right_spec hr
    exact ⟨n_len hr, fun x hx => by have := h4 x hx; unfold Go.NumSpec.fits; omega, data_len hr⟩
theorem right_fits {e : Ent} (h : rightB e = true) : ∀ x ∈ e.n, Go.NumSpec.fits x := fun x hx => by
  have := (right_spec h).2.2.2.1 x hx
  unfold Go.NumSpec.fits; omega
def lineEr (k : Nat) : Er := if k = 0 then none else erNew 460 [[108, 105, 110, 101, 32] ++ textL (k : Int)]
theorem lineEr_some {k : Nat} (h : k ≠ 0) : lineEr k = some (460, [[108, 105, 110, 101, 32] ++ textL (k : Int)]) := by unfold lineEr; rw [if_neg h, erNew_some (by decide)]
end Go.AL

/-
Scripts: the document's lines.
Conditions: none; no program is in sight.
-/
set_option linter.unusedVariables false
set_option linter.unusedSimpArgs false
namespace Go.AL
open Go.RowKit Go.NumSpec
theorem joinTail_snoc (c : List UInt8) (p : List UInt8) (l : List (List UInt8)) : Lib.joinTail c (l ++ [p]) = Lib.joinTail c l ++ (c ++ p) := by simp [Lib.joinTail]
theorem join_snoc {c p : List UInt8} {l : List (List UInt8)} (h : l ≠ []) : Lib.join (l ++ [p]) c = (Lib.join l c ++ c) ++ p := by
  cases l with
  | nil => exact absurd rfl h
  | cons q l => rw [List.cons_append, Lib.join_cons, Lib.join_cons, joinTail_snoc]; simp
def lineN (e : Ent) (i : Nat) : List UInt8 := Lib.join (partsN e i) [32]
theorem partsN_ne (e : Ent) (i : Nat) : partsN e i ≠ [] := by simp [partsN]
theorem lineN_zero (e : Ent) : lineN e 0 = (verbA e.verb.toNat).1 := by unfold lineN partsN; simp [Lib.join_one]
theorem lineN_next {e : Ent} {i : Nat} (h : i < e.n.length) : lineN e (i + 1) = (lineN e i ++ [32]) ++ textL e.n[i] := by
  unfold lineN; rw [partsN_next h, join_snoc (partsN_ne e i)]
theorem line_more {e : Ent} {i : Nat} (h : e.n.length ≤ i) {p : List UInt8} (hd : dataP (verbA e.verb.toNat).2.2 e.data = [p]) : lineE e = (lineN e i ++ [32]) ++ p := by
  unfold lineE lineN; rw [partsN_all h, hd, join_snoc (partsN_ne e i)]
theorem line_none {e : Ent} {i : Nat} (h : e.n.length ≤ i) (hd : dataP (verbA e.verb.toNat).2.2 e.data = []) : lineE e = lineN e i := by
  unfold lineE lineN; rw [partsN_all h, hd, List.append_nil]
theorem lineN_len {e : Ent} (h : rightB e = true) (i : Nat) : (lineN e i).length ≤ 12006 := by
  have h1 := (parts_short h).1
  have h2 := join_len [32] (partsN e i)
  have h3 : ∀ p ∈ partsN e i, p.length ≤ 2000 := fun p hp => by
    refine h1 p ?_
    unfold partsN at hp; unfold partsE
    rcases List.mem_cons.1 hp with rfl | hp
    · exact List.mem_cons_self
    · refine List.mem_cons_of_mem _ (List.mem_append_left _ ?_)
      obtain ⟨n, hn, rfl⟩ := List.mem_map.1 hp
      exact List.mem_map.2 ⟨n, List.mem_of_mem_take hn, rfl⟩
  have h4 := sum_le h3
  have h5 := partsN_len e i
  have h6 := n_len h
  have h7 : (partsN e i).length * (2000 + 1) ≤ 6 * 2001 := Nat.mul_le_mul_right _ (by omega)
  unfold lineN
  simp only [List.length_singleton] at h2
  omega
theorem words_get {i : Nat} : wordsB.getD i [] = (verbA i).1 := words_at i
/-- what the parts of an entry's line say of it -/
theorem parse_same {e : Ent} {w : List UInt8} {l : List (List UInt8)} (h1 : rightB e = true) (h2 : partsE e = w :: l) :
    findV w = e.verb.toNat ∧ (verbA (findV w)).2.1 ≤ (l.length : Int) ∧ e.n = numsOf (l.take (verbA (findV w)).2.1.toNat) ∧ l.getD (verbA (findV w)).2.1.toNat [] = (if (verbA (findV w)).2.2 = 1 then toHexL e.data else e.data) := by
  obtain ⟨e1, e2⟩ := parts_verb h1 h2
  obtain ⟨k1, k2, k3, k4, k5⟩ := right_spec h1
  have hv := verb_facts (n := e.verb.toNat) (by omega)
  have hK : (verbA (findV w)).2.1.toNat = e.n.length := by rw [e1]; omega
  have hl : l.length = e.n.length + (dataP (verbA e.verb.toNat).2.2 e.data).length := by rw [e2, List.length_append, List.length_map]
  refine ⟨e1, by rw [e1]; omega, ?_, ?_⟩
  · rw [hK, e2, List.take_left' (by simp)]
    unfold numsOf
    rw [List.map_map]
    refine Eq.symm ((List.map_congr_left fun x hx => ?_).trans (List.map_id _))
    have := k4 x hx
    show (parseV (textL x) 1073741824).1 = x
    rw [Go.NumSpec.parse_text ⟨by omega, by omega⟩ this.2, if_pos this.1]
  · rw [hK, e2, List.getD_eq_getElem?_getD, List.getElem?_append_right (by simp), List.length_map, Nat.sub_self, e1]
    unfold dataB at k5; unfold dataP
    split at k5
    · rename_i q; rw [if_pos q, if_pos q]; rfl
    · rename_i q
      split at k5
      · rename_i q2; rw [if_neg q, if_pos q2, if_neg q]; rfl
      · rename_i q2; rw [if_neg q, if_neg q2, if_neg q, of_decide_eq_true k5]; rfl
theorem parse_hexbad {s w : List UInt8} {l : List (List UInt8)} {i k : Nat} (hs : partsB 32 s = w :: l) (hk : k = (verbA (findV w)).2.1.toNat) (h1 : (verbA (findV w)).2.2 = 1) (hi : i < (l.getD k []).length) (h : hexV (l.getD k [])[i] < 0) : parseE s = none := parseE_none fun e k1 k2 => by
  have h4 := (parse_same k1 (k2.trans hs)).2.2.2
  rw [if_pos h1] at h4
  subst hk
  have := toHex_at h4.symm hi
  omega
def entR (o : Option Ent) : AV := .tup [entAV (o.getD ent0), .bool o.isSome]
/-- what the document's reader of hex digits reads -/
theorem hex_same {d D : List UInt8} {b : List UInt8} (h : D = toHexL d) (hb : toHexL b = D.take (2 * b.length)) (h1 : 2 * b.length ≤ D.length) (h2 : ¬ 2 * b.length + 1 < D.length) : d = b := by
  have h3 := toHex_len d
  rw [← h] at h3
  have h4 : 2 * b.length = D.length := by omega
  rw [h4, List.take_length, h] at hb
  exact (toHex_inj hb).symm
theorem same_cand {e : Ent} {w : List UInt8} {l : List (List UInt8)} {v : Int} {k : Nat} {d : List UInt8} (h1 : rightB e = true) (h2 : partsE e = w :: l) (hv : v = ((findV w : Nat) : Int)) (hk : k = (verbA (findV w)).2.1.toNat) (hd : e.data = d) : e = ⟨v, numsOf (l.take k), d⟩ := by
  obtain ⟨e1, e2, e3, e4⟩ := parse_same h1 h2
  obtain ⟨k1, k2, k3, k4, k5⟩ := right_spec h1
  subst hk
  cases e
  simp only at e1 e3 hd k1
  rw [← e3, ← hd, show v = _ by rw [hv, e1, Int.toNat_of_nonneg (by omega)]]
theorem getD_le {l : List (List UInt8)} {n : Nat} (h : ∀ x ∈ l, x.length ≤ n) (k : Nat) : (l.getD k []).length ≤ n := by
  rw [List.getD_eq_getElem?_getD]
  cases hx : l[k]? with
  | none => simp
  | some x => exact h x (List.mem_of_getElem? hx)
end Go.AL

/-
Scripts: the chapter's examples, and what a reading says.
Conditions: none; no program is in sight.
-/
set_option linter.unusedVariables false
set_option linter.unusedSimpArgs false
namespace Go.AL
open Go.RowKit Go.NumSpec
theorem textL_one {n : Nat} (h : n < 10) : textL (n : Int) = [UInt8.ofNat (48 + n)] := by
  unfold textL
  rw [if_neg (by omega), digL, if_pos (by omega), Int.natAbs_natCast]
theorem works_parts : partsE ⟨14, [1, 5], []⟩ = [[103, 101, 116], [49], [53]] := by
  have h1 := textL_one (n := 1) (by decide)
  have h2 := textL_one (n := 5) (by decide)
  show (verbA 14).1 :: ([textL ((1 : Nat) : Int), textL ((5 : Nat) : Int)] ++ dataP (verbA 14).2.2 []) = _
  rw [h1, h2]; rfl
theorem works_get : parseE [103, 101, 116, 32, 49, 32, 53] = some ⟨14, [1, 5], []⟩ := parseE_yes (by decide) (works_parts.trans (by decide))
theorem works_line : lineV ⟨14, [1, 5], []⟩ = [103, 101, 116, 32, 49, 32, 53] := by
  unfold lineV
  rw [if_pos (by decide)]
  exact parts_line (works_parts.trans (by decide))
theorem works_tick : parseE [116, 105, 99, 107] = some ⟨5, [], []⟩ := parseE_yes (by decide) (by decide)
theorem works_round : parseE [114, 111, 117, 110, 100] = some ⟨6, [], []⟩ := parseE_yes (by decide) (by decide)
theorem works_txt : readV [35, 32, 97, 10, 10, 116, 105, 99, 107, 10, 114, 111, 117, 110, 100, 10] = ([⟨5, [], []⟩, ⟨6, [], []⟩], 0) := by
  have hp : partsB 10 [35, 32, 97, 10, 10, 116, 105, 99, 107, 10, 114, 111, 117, 110, 100, 10] = [[35, 32, 97], [], [116, 105, 99, 107], [114, 111, 117, 110, 100], []] := by decide
  have s1 : skipB [35, 32, 97] = true := by decide
  have s2 : skipB [] = true := by decide
  have s3 : skipB [116, 105, 99, 107] = false := by decide
  have s4 : skipB [114, 111, 117, 110, 100] = false := by decide
  unfold readV
  rw [hp, badLn_none fun p hp => ?_, if_pos rfl]
  · simp only [entsOf, List.filterMap_cons, List.filterMap_nil, s1, s2, s3, s4, works_tick, works_round, if_true, Bool.false_eq_true, if_false]
  · simp only [List.mem_cons, List.not_mem_nil, or_false] at hp
    rcases hp with rfl | rfl | rfl | rfl | rfl
    · exact bad_skip s1
    · exact bad_skip s2
    · exact bad_some (by rw [works_tick]; rfl)
    · exact bad_some (by rw [works_round]; rfl)
    · exact bad_skip s2
theorem ents_right {ls : List (List UInt8)} {e : Ent} (h : e ∈ entsOf ls) : rightB e = true := by
  unfold entsOf at h
  obtain ⟨p, hp, he⟩ := List.mem_filterMap.1 h
  split at he
  · cases he
  · exact parse_n he
theorem read_right {s : List UInt8} {e : Ent} (h : e ∈ (readV s).1) : rightB e = true := by
  unfold readV at h
  split at h
  · exact ents_right h
  · cases h
theorem ents_n {s : List UInt8} {e : Ent} (h : e ∈ (readV s).1) : e.n.length ≤ 5 := n_len (read_right h)
theorem badLn_le (ls : List (List UInt8)) : badLn ls ≤ ls.length := by
  unfold badLn
  split
  · rename_i i h
    have := (List.findIdx?_eq_some_iff_getElem.1 h).1; omega
  · omega
theorem read_bad (s : List UInt8) : (readV s).2 ≤ s.length + 1 := by
  have h1 := badLn_le (partsB 10 s)
  have h2 := parts_few 10 s
  unfold readV
  split
  · simp
  · simp only; omega
theorem read_bound (s : List UInt8) : (readV s).1.length ≤ s.length + 1 := by
  have h1 := ents_len (partsB 10 s)
  have h2 := parts_few 10 s
  unfold readV
  split
  · simp only; omega
  · simp
theorem lineEr_none (k : Nat) : (lineEr k).isNone = decide (k = 0) := by
  by_cases h : k = 0
  · subst h; rfl
  · rw [lineEr_some h]; simp [h]
theorem lineEr_code {k : Nat} (h : k ≠ 0) : erCode (lineEr k) = 460 := by rw [lineEr_some h]; rfl
theorem lineEr_len (k : Nat) : (erPath (lineEr k)).length ≤ 1 := by
  by_cases h : k = 0
  · subst h; exact Nat.zero_le _
  · rw [lineEr_some h]; exact Nat.le_refl _
theorem lineEr_text {k : Nat} (h : k ≠ 0) : Lib.join (erPath (lineEr k)) [46] = [108, 105, 110, 101, 32] ++ textL (k : Int) := by
  rw [lineEr_some h]; exact Lib.join_one _ _
theorem lineEr_join {k : Nat} (hk : k ≤ 1000000) : (Lib.join (erPath (lineEr k)) [46]).length ≤ 100 := by
  by_cases h : k = 0
  · subst h; show (Lib.join [] [46]).length ≤ 100; rw [Lib.join_nil]; decide
  · rw [lineEr_text h]
    have := textL_len (a := (k : Int)) ⟨by omega, by omega⟩
    simp only [List.length_append, List.length_cons, List.length_nil]; omega
theorem filter_next {l : List Ent} {i : Nat} (hi : i < l.length) : (l.take (i + 1)).filter rightB = (l.take i).filter rightB ++ (if rightB l[i] = true then [l[i]] else []) := by
  rw [List.take_succ_eq_append_getElem hi, List.filter_append]
  by_cases h : rightB l[i] = true <;> simp [h]
end Go.AL

/-
What is known of specs, containers and labels that came in: their numbers fit.
Conditions: none; no program is in sight.
-/
set_option linter.unusedVariables false
set_option linter.unusedSimpArgs false
namespace Go.AL
open Go.RowKit Go.NumSpec
def okLab (x : Lab) : Prop := x.1.length ≤ 9223372036854775807 ∧ x.2.length ≤ 9223372036854775807
def okCtr (c : Ctr) : Prop := fits3 c.req ∧ fits3 c.lim ∧ (∀ p ∈ c.ports, fits p) ∧ fits c.probe.1 ∧ fits c.probe.2
def okSpc (s : Spc) : Prop := (∀ c ∈ s.init, okCtr c) ∧ (∀ c ∈ s.main, okCtr c) ∧ fits s.restart ∧ fits s.grace ∧ fits s.prio
end Go.AL

/-
What a row's list of laid variables says of one table of integers, wherever it stands in the list.
Conditions: none; no program is in sight.
-/
set_option linter.unusedVariables false
namespace Go.AL
theorem tabIs_of_mem {P : Program} {W : World} {name : String} {k : IntKind} {zs : List Int} {g : Nat} {t e : TypeId} {n : Nat}
    (hg : P.globalNamed name = some g) (hty : (P.globals[g]?).map (·.type) = some t) (ht : P.underlying t = some (.array n e)) (he : P.underlying e = some (.int k)) (hce : P.cellsOf e = 1) (hct : P.cellsOf t = n) :
    ∀ {l : List (String × DataW Unit)} {ps : List MemPlace}, (name, Lib.tabData k zs) ∈ l → DataW.LaidVars P W l ps → Lib.TabIs P W name k zs
  | [], _, hm, _ => nomatch hm
  | (m, d) :: r, _, hm, h => by
    obtain ⟨g', t', cs, fuel, p, q, hg', ht', hvar, hd, hr, _⟩ := h
    rcases List.mem_cons.1 hm with hm | hm
    · cases hm
      obtain rfl := Option.some.inj (hg.symm.trans hg')
      obtain rfl := Option.some.inj (hty.symm.trans ht')
      unfold Lib.TabIs
      rw [hvar, ← Lib.cells_of_tab ht he hce hct hd]
    · exact tabIs_of_mem hg hty ht he hce hct hm hr
theorem tabIs_of_laid {P : Program} {W : World} {name : String} {k : IntKind} {zs : List Int} {g : Nat} {t e : TypeId} {n : Nat}
    (hg : P.globalNamed name = some g) (hty : (P.globals[g]?).map (·.type) = some t) (ht : P.underlying t = some (.array n e)) (he : P.underlying e = some (.int k)) (hce : P.cellsOf e = 1) (hct : P.cellsOf t = n)
    {l : List (String × DataW Unit)} (hm : (name, Lib.tabData k zs) ∈ l) (h : laidMet P l W) : Lib.TabIs P W name k zs := by
  obtain ⟨ps, h1, _⟩ := h
  exact tabIs_of_mem hg hty ht he hce hct hm h1
end Go.AL

/-
What a row's list of laid variables says of the table of verbs.
Conditions: none; no program is in sight.
-/
set_option linter.unusedVariables false
namespace Go.AL
theorem laid_mem {P : Program} {W : World} {name : String} {d : DataW Unit} : ∀ {l : List (String × DataW Unit)} {ps : List MemPlace}, (name, d) ∈ l → DataW.LaidVars P W l ps →
    ∃ g t cs fuel p, P.globalNamed name = some g ∧ (P.globals[g]?).map (·.type) = some t ∧ W.var? P name = some cs ∧ DataW.trod (fun _ => ()) P W 0 (fun _ => true) false fuel t cs.toList = some (d, p)
  | [], _, hm, _ => nomatch hm
  | (m, d') :: r, _, hm, h => by
    obtain ⟨g', t', cs, fuel, p, q, hg', ht', hvar, hd, hr, _⟩ := h
    rcases List.mem_cons.1 hm with hm | hm
    · cases hm
      exact ⟨g', t', cs, fuel, p, hg', ht', hvar, hd⟩
    · exact laid_mem hm hr
section
variable {H : Type} {enc : TypeId × Value → H} {P : Program} {w : World} {base : Nat} {sp : Nat → Bool} {held : Bool} {fuel : Nat} {t e : TypeId}
theorem row3_cells {f0 f1 f2 : Field} {xs : List Value} {a : List UInt8} {b c : Int} {p : List MemPlace} (he : P.underlying e = some (.struct #[f0, f1, f2])) (hc : P.cellsOf e = 3) (o0 : f0.offset = 0) (o1 : f1.offset = 1) (o2 : f2.offset = 2)
    (c0 : P.cellsOf f0.type = 1) (c1 : P.cellsOf f1.type = 1) (c2 : P.cellsOf f2.type = 1) (t0 : P.underlying f0.type = some .string) (t1 : P.underlying f1.type = some (.int .i64)) (t2 : P.underlying f2.type = some (.int .i64))
    (h : DataW.trod enc P w base sp held fuel e xs = some (.agg [.lit (.string a), .lit (.int .i64 b), .lit (.int .i64 c)], p)) : xs = [.string ⟨a.toArray⟩, .int .i64 b, .int .i64 c] := by
  obtain ⟨ys, n, _, hx, hl, hlen, hf⟩ := DataW.trod_struct he h
  match ys, hlen with
  | [y0, y1, y2], _ =>
    simp only [Prod.mk.injEq, DataW.agg.injEq, List.map_cons, List.map_nil, List.cons.injEq, and_true] at hx
    have h0 : DataW.trod enc P w base sp held n f0.type ((xs.drop f0.offset).take (P.cellsOf f0.type)) = some y0 := by simpa using hf 0 f0 rfl
    have h1 : DataW.trod enc P w base sp held n f1.type ((xs.drop f1.offset).take (P.cellsOf f1.type)) = some y1 := by simpa using hf 1 f1 rfl
    have h2 : DataW.trod enc P w base sp held n f2.type ((xs.drop f2.offset).take (P.cellsOf f2.type)) = some y2 := by simpa using hf 2 f2 rfl
    rw [o0, c0] at h0; rw [o1, c1] at h1; rw [o2, c2] at h2
    obtain ⟨s, k0, k1, _⟩ := DataW.trod_string t0 h0
    obtain ⟨z1, k2, k3, _⟩ := DataW.trod_int t1 h1
    obtain ⟨z2, k4, k5, _⟩ := DataW.trod_int t2 h2
    have hl3 : xs.length = 3 := by rw [hl, hc]
    match xs, hl3 with
    | [x0, x1, x2], _ =>
      simp at k0 k2 k4
      subst k0 k2 k4
      rw [k1, k3, k5] at hx
      simp at hx
      obtain ⟨⟨ha, hb, hc⟩, _⟩ := hx
      subst hb hc
      rw [ha]
theorem verbs_cells {f0 f1 f2 : Field} {cs : List Value} {p : List MemPlace} (ht : P.underlying t = some (.array 24 e)) (hct : P.cellsOf t = 72) (he : P.underlying e = some (.struct #[f0, f1, f2])) (hc : P.cellsOf e = 3) (o0 : f0.offset = 0) (o1 : f1.offset = 1) (o2 : f2.offset = 2)
    (c0 : P.cellsOf f0.type = 1) (c1 : P.cellsOf f1.type = 1) (c2 : P.cellsOf f2.type = 1) (t0 : P.underlying f0.type = some .string) (t1 : P.underlying f1.type = some (.int .i64)) (t2 : P.underlying f2.type = some (.int .i64))
    (h : DataW.trod enc P w base sp held fuel t cs = some (.agg (verbsT.map fun x => .agg [.lit (.string x.1), .lit (.int .i64 x.2.1), .lit (.int .i64 x.2.2)]), p)) : ∀ (j : Nat) u, verbsV[j]? = some u → cs[j]? = some u := by
  obtain ⟨xs, m, _, hx, hl, hlen, hf⟩ := DataW.trod_array ht h
  have hx1 : xs.map (·.1) = verbsT.map fun x => .agg [.lit (.string x.1), .lit (.int .i64 x.2.1), .lit (.int .i64 x.2.2)] := by
    have := congrArg Prod.fst hx
    simpa using this.symm
  have hrow : ∀ i, i < 24 → (cs.drop (i * 3)).take 3 = [.string ⟨(verbA i).1.toArray⟩, .int .i64 (verbA i).2.1, .int .i64 (verbA i).2.2] := fun i hi => by
    have h1 := hf i hi
    rw [hc] at h1
    have hi2 : i < xs.length := by omega
    rw [List.getElem?_eq_getElem hi2] at h1
    have h2 : (xs[i]).1 = .agg [.lit (.string (verbA i).1), .lit (.int .i64 (verbA i).2.1), .lit (.int .i64 (verbA i).2.2)] := by
      have h3 := congrArg (·[i]?) hx1
      simp only [List.getElem?_map, List.getElem?_eq_getElem hi2, List.getElem?_eq_getElem (show i < verbsT.length from hi), Option.map_some, Option.some.injEq] at h3
      rw [h3]
      have e9 : verbA i = verbsT[i]'(show i < verbsT.length from hi) := by unfold verbA; rw [List.getD_eq_getElem?_getD, List.getElem?_eq_getElem (show i < verbsT.length from hi)]; rfl
      rw [e9]
    refine row3_cells (p := (xs[i]).2) he hc o0 o1 o2 c0 c1 c2 t0 t1 t2 (h1.trans ?_)
    rw [← h2]
  intro j u hu
  have hj : j < 72 := (List.getElem?_eq_some_iff.1 hu).1
  have hr := hrow (j / 3) (by omega)
  have hv := verbs_at (i := j / 3) (by omega)
  have e1 : cs[j]? = ((cs.drop (j / 3 * 3)).take 3)[j % 3]? := by
    rw [List.getElem?_take_of_lt (by omega), List.getElem?_drop]
    congr 1; omega
  rw [e1, hr, ← hu]
  have h3 : j % 3 = 0 ∨ j % 3 = 1 ∨ j % 3 = 2 := by omega
  rcases h3 with h3 | h3 | h3
  · rw [h3, show j = 3 * (j / 3) by omega, hv.1]; rw [show (3 * (j / 3)) / 3 = j / 3 by omega]; rfl
  · rw [h3, show j = 3 * (j / 3) + 1 by omega, hv.2.1]; rw [show (3 * (j / 3) + 1) / 3 = j / 3 by omega]; rfl
  · rw [h3, show j = 3 * (j / 3) + 2 by omega, hv.2.2]; rw [show (3 * (j / 3) + 2) / 3 = j / 3 by omega]; rfl
end
end Go.AL
