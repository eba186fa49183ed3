/- A part of the proof: laws of the logic and of the data, no program in sight.
Conditions: none beyond each theorem's own. -/
import Derived.Test.YtfmiciodcimkeaaGreatDoorL3
import Derived.LaidMore
import Derived.Lib.LaidTab
/-
Selectors: labels in order; two made one: what fits it.
Conditions: none; no program is in sight.
-/
set_option linter.unusedVariables false
set_option linter.unusedSimpArgs false
namespace Go.AL
open Go.RowKit Go.NumSpec
def mergeV (a b : List Lab) : List Lab × Bool := match mergeL a b with | some l => (l, true) | none => ([], false)
theorem mergeAV_eq (a b : List Lab) : mergeAV (mergeL a b) = .tup [.sl (labsV (mergeV a b).1), .bool (mergeV a b).2] := by
  unfold mergeV mergeAV; cases mergeL a b <;> rfl
theorem bytesLess_trans : ∀ {a b c : List UInt8}, Op.bytesLess a b = true → Op.bytesLess b c = true → Op.bytesLess a c = true
  | _, [], _, h, _ => by cases ‹List UInt8› <;> simp [Op.bytesLess] at h
  | _, _ :: _, [], _, h => by simp [Op.bytesLess] at h
  | [], _ :: _, _ :: _, _, _ => rfl
  | x :: a, y :: b, z :: c, h, k => by
    unfold Op.bytesLess at h k ⊢
    simp only [Bool.or_eq_true, decide_eq_true_eq, Bool.and_eq_true, beq_iff_eq] at h k ⊢
    simp only [u8_lt] at h k ⊢
    rcases h with h | ⟨rfl, h⟩
    · rcases k with k | ⟨rfl, k⟩
      · exact .inl (by omega)
      · exact .inl h
    · rcases k with k | ⟨rfl, k⟩
      · exact .inl k
      · exact .inr ⟨rfl, bytesLess_trans h k⟩
abbrev sortedL (l : List Lab) : Prop := l.Pairwise fun x y => lessK x y = true
theorem lessK_ne {x y : Lab} (h : lessK x y = true) : x.1 ≠ y.1 := fun e => (bytesLess_lt h).2 e.symm
theorem sorted_of {l : List Lab} (h : ∀ i (hi : i < l.length), 0 < i → lessK (l[i - 1]'(by omega)) l[i] = true) : sortedL l := by
  refine List.pairwise_iff_getElem.2 fun i j hi hj hij => ?_
  induction j with
  | zero => omega
  | succ j ih =>
    have h1 := h (j + 1) hj (by omega)
    simp only [Nat.add_sub_cancel] at h1
    rcases Nat.lt_or_ge i j with k | k
    · exact bytesLess_trans (ih (by omega) k) h1
    · have : i = j := by omega
      subst this; exact h1
theorem label_out {name : List UInt8} {l : List Lab} {i : Nat} (hi : i < l.length) (h : labelE name l i = none) : namesR 2 l[i].1 = true ∧ (∀ h0 : 0 < i, lessK (l[i - 1]'(by omega)) l[i] = true) ∧ valV l[i].2 = true := by
  cases h1 : namesR 2 l[i].1 with
  | false => rw [label_key hi h1] at h; cases h
  | true =>
    have h2 : ∀ h0 : 0 < i, lessK (l[i - 1]'(by omega)) l[i] = true := fun h0 => by
      cases h2 : lessK (l[i - 1]'(by omega)) l[i] with
      | true => rfl
      | false => rw [label_order hi h1 h0 h2] at h; cases h
    refine ⟨rfl, h2, ?_⟩
    cases h3 : valV l[i].2 with
    | true => rfl
    | false => rw [label_val hi h1 h2 h3] at h; cases h
theorem labels_out {name : List UInt8} {l : List Lab} (h : labelsE name l = none) : l.length ≤ 4 ∧ sortedL l ∧ ∀ x ∈ l, namesR 2 x.1 = true ∧ valV x.2 = true := by
  cases ha : atMostE name (l.length : Int) 0 4 with
  | some x => rw [labelsE_bad (by rw [ha]; simp), ha] at h; cases h
  | none =>
    rw [labelsE_good ha] at h
    have hl : l.length ≤ 4 := by
      unfold atMostE at ha
      split at ha
      · cases ha
      · omega
    have hall := eachE_none h
    refine ⟨hl, sorted_of fun i hi h0 => (label_out hi (hall i hi)).2.1 h0, fun x hx => ?_⟩
    obtain ⟨i, hi, rfl⟩ := List.mem_iff_getElem.1 hx
    exact ⟨(label_out hi (hall i hi)).1, (label_out hi (hall i hi)).2.2⟩
theorem right_len {name : List UInt8} {l : List Lab} (h : labelsE name l = none) : l.length ≤ 4 := (labels_out h).1
theorem keys_one {l : List Lab} (h : sortedL l) {x y : Lab} (hx : x ∈ l) (hy : y ∈ l) (hk : x.1 = y.1) : x = y := by
  obtain ⟨i, hi, rfl⟩ := List.mem_iff_getElem.1 hx
  obtain ⟨j, hj, rfl⟩ := List.mem_iff_getElem.1 hy
  have h := List.pairwise_iff_getElem.1 h
  rcases Nat.lt_trichotomy i j with k | k | k
  · exact absurd hk (lessK_ne (h i j hi hj k))
  · subst k; rfl
  · exact absurd hk.symm (lessK_ne (h j i hj hi k))
theorem neither {x y : Lab} (h0 : ¬ lessK x y = true) (h1 : ¬ lessK y x = true) : x.1 = y.1 := by
  have h0 : lessK x y = false := by simpa using h0
  rcases bytesLess_ge h0 with k | k
  · exact absurd k h1
  · exact k.symm
theorem merge_mem : ∀ (a b m : List Lab), mergeL a b = some m → ∀ x, x ∈ m ↔ x ∈ a ∨ x ∈ b
  | [], b, m, h, x => by simp [mergeL] at h; subst h; simp
  | y :: a, [], m, h, x => by simp [mergeL] at h; subst h; simp
  | y :: a, z :: b, m, h, x => by
    rw [mergeL] at h
    split at h
    · cases hm : mergeL a (z :: b) with
      | none => rw [hm] at h; cases h
      | some m' =>
        rw [hm] at h; cases h
        rw [List.mem_cons, merge_mem a (z :: b) m' hm x, List.mem_cons, List.mem_cons]
        constructor
        · rintro (h | h | h)
          · exact .inl (.inl h)
          · exact .inl (.inr h)
          · exact .inr h
        · rintro ((h | h) | h)
          · exact .inl h
          · exact .inr (.inl h)
          · exact .inr (.inr h)
    · split at h
      · cases hm : mergeL (y :: a) b with
        | none => rw [hm] at h; cases h
        | some m' =>
          rw [hm] at h; cases h
          rw [List.mem_cons, merge_mem (y :: a) b m' hm x, List.mem_cons, List.mem_cons]
          constructor
          · rintro (h | h | h)
            · exact .inr (.inl h)
            · exact .inl h
            · exact .inr (.inr h)
          · rintro (h | h | h)
            · exact .inr (.inl h)
            · exact .inl h
            · exact .inr (.inr h)
      · rename_i h0 h1
        split at h
        · cases h
        · rename_i h2
          have e : y = z := Prod.ext (neither h0 h1) (by simpa using h2)
          cases hm : mergeL a b with
          | none => rw [hm] at h; cases h
          | some m' =>
            rw [hm] at h; cases h
            rw [List.mem_cons, merge_mem a b m' hm x, List.mem_cons, List.mem_cons, ← e]
            constructor
            · rintro (h | h | h)
              · exact .inl (.inl h)
              · exact .inl (.inr h)
              · exact .inr (.inr h)
            · rintro ((h | h) | (h | h))
              · exact .inl h
              · exact .inr (.inl h)
              · exact .inl h
              · exact .inr (.inr h)
  termination_by a b => a.length + b.length
theorem merge_clash : ∀ (a b : List Lab), mergeL a b = none → ∃ x ∈ a, ∃ y ∈ b, x.1 = y.1 ∧ x.2 ≠ y.2
  | [], b, h => by simp [mergeL] at h
  | y :: a, [], h => by simp [mergeL] at h
  | y :: a, z :: b, h => by
    rw [mergeL] at h
    split at h
    · have hm : mergeL a (z :: b) = none := by cases hm : mergeL a (z :: b) with | none => rfl | some m => rw [hm] at h; cases h
      obtain ⟨p, hp, q, hq, e⟩ := merge_clash a (z :: b) hm
      exact ⟨p, List.mem_cons_of_mem _ hp, q, hq, e⟩
    · split at h
      · have hm : mergeL (y :: a) b = none := by cases hm : mergeL (y :: a) b with | none => rfl | some m => rw [hm] at h; cases h
        obtain ⟨p, hp, q, hq, e⟩ := merge_clash (y :: a) b hm
        exact ⟨p, hp, q, List.mem_cons_of_mem _ hq, e⟩
      · rename_i h0 h1
        split at h
        · rename_i h2; exact ⟨y, List.mem_cons_self, z, List.mem_cons_self, neither h0 h1, h2⟩
        · have hm : mergeL a b = none := by cases hm : mergeL a b with | none => rfl | some m => rw [hm] at h; cases h
          obtain ⟨p, hp, q, hq, e⟩ := merge_clash a b hm
          exact ⟨p, List.mem_cons_of_mem _ hp, q, List.mem_cons_of_mem _ hq, e⟩
  termination_by a b => a.length + b.length
theorem mergeL_len : ∀ (a b m : List Lab), mergeL a b = some m → m.length ≤ a.length + b.length
  | [], b, m, h => by simp [mergeL] at h; subst h; simp
  | y :: a, [], m, h => by simp [mergeL] at h; subst h; simp
  | y :: a, z :: b, m, h => by
    rw [mergeL] at h
    split at h
    · cases hm : mergeL a (z :: b) with
      | none => rw [hm] at h; cases h
      | some m' => rw [hm] at h; cases h; have := mergeL_len a (z :: b) m' hm; simp only [List.length_cons] at this ⊢; omega
    · split at h
      · cases hm : mergeL (y :: a) b with
        | none => rw [hm] at h; cases h
        | some m' => rw [hm] at h; cases h; have := mergeL_len (y :: a) b m' hm; simp only [List.length_cons] at this ⊢; omega
      · split at h
        · cases h
        · cases hm : mergeL a b with
          | none => rw [hm] at h; cases h
          | some m' => rw [hm] at h; cases h; have := mergeL_len a b m' hm; simp only [List.length_cons] at this ⊢; omega
  termination_by a b => a.length + b.length
theorem mergeV_len (a b : List Lab) : (mergeV a b).1.length ≤ a.length + b.length := by
  unfold mergeV
  cases h : mergeL a b with
  | none => simp
  | some m => exact mergeL_len a b m h
theorem both_no {a b l : List Lab} (hl : sortedL l) (h : (mergeV a b).2 = false) : (decide (((mergeV a b).1.length : Int) = 0) && !(coversL a l && coversL b l)) = true := by
  unfold mergeV at h ⊢
  cases hm : mergeL a b with
  | some m => rw [hm] at h; cases h
  | none =>
    obtain ⟨x, hx, y, hy, h1, h2⟩ := merge_clash a b hm
    simp only [List.length_nil, Bool.and_eq_true, Bool.not_eq_true', decide_eq_true_eq]
    refine ⟨rfl, ?_⟩
    cases hc : coversL a l && coversL b l with
    | false => rfl
    | true =>
      rw [Bool.and_eq_true, covers_iff, covers_iff] at hc
      exact absurd (congrArg Prod.snd (keys_one hl (hc.1 x hx) (hc.2 y hy) h1)) h2
theorem both_yes {a b l : List Lab} (h : (mergeV a b).2 = true) : coversL (mergeV a b).1 l = (coversL a l && coversL b l) ∧ coversL a (mergeV a b).1 = true ∧ coversL b (mergeV a b).1 = true := by
  unfold mergeV at h ⊢
  cases hm : mergeL a b with
  | none => rw [hm] at h; cases h
  | some m =>
    have hmem := merge_mem a b m hm
    refine ⟨?_, covers_iff.2 fun x hx => (hmem x).2 (.inl hx), covers_iff.2 fun x hx => (hmem x).2 (.inr hx)⟩
    rw [Bool.eq_iff_iff, Bool.and_eq_true, covers_iff, covers_iff, covers_iff]
    exact ⟨fun h => ⟨fun x hx => h x ((hmem x).2 (.inl hx)), fun x hx => h x ((hmem x).2 (.inr hx))⟩, fun h x hx => ((hmem x).1 hx).elim (h.1 x) (h.2 x)⟩
end Go.AL

/-
A selector's text, and the selector of a text.
Conditions: none; no program is in sight.
-/
set_option linter.unusedVariables false
set_option linter.unusedSimpArgs false
namespace Go.AL
open Go.RowKit Go.NumSpec
theorem part_mem {c x : UInt8} : ∀ {s : List UInt8}, x ∈ s → x = c ∨ ∃ p ∈ partsB c s, x ∈ p
  | y :: s, h => by
    by_cases hy : y = c
    · subst hy
      rw [partsB, if_pos rfl]
      rcases List.mem_cons.1 h with h | h
      · exact .inl h
      · rcases part_mem (c := y) h with h | ⟨p, h1, h2⟩
        · exact .inl h
        · exact .inr ⟨p, List.mem_cons_of_mem _ h1, h2⟩
    · rw [partsB_cons hy]
      rcases List.mem_cons.1 h with h | h
      · subst h; exact .inr ⟨_, List.mem_cons_self, List.mem_cons_self⟩
      · rcases part_mem (c := c) h with h | ⟨p, h1, h2⟩
        · exact .inl h
        · cases hp : partsB c s with
          | nil => exact absurd hp (partsB_ne c s)
          | cons q qs =>
            rw [hp] at h1
            simp only [List.headD_cons, List.tail_cons]
            rcases List.mem_cons.1 h1 with h1 | h1
            · subst h1; exact .inr ⟨_, List.mem_cons_self, List.mem_cons_of_mem _ h2⟩
            · exact .inr ⟨p, List.mem_cons_of_mem _ h1, h2⟩
theorem name_chars {s : List UInt8} (h : nameV s = true) : ∀ x ∈ s, inC 1 x = true := by
  unfold nameV at h
  simp only [Bool.and_eq_true] at h
  exact List.all_eq_true.1 h.1.1.2
theorem key_chars {s : List UInt8} (h : namesR 2 s = true) : ∀ x ∈ s, x = 47 ∨ inC 1 x = true := fun x hx => by
  rw [namesR_parts, Bool.and_eq_true, List.all_eq_true] at h
  rcases part_mem (c := 47) hx with e | ⟨p, h1, h2⟩
  · exact .inl e
  · exact .inr (name_chars (h.2 p h1) x h2)
theorem key_short {s : List UInt8} (h : namesR 2 s = true) : s.length ≤ 33 := by
  rw [namesR_parts, Bool.and_eq_true, decide_eq_true_eq] at h
  have := parts_names h.2
  omega
theorem val_short {s : List UInt8} (h : valV s = true) : s.length ≤ 16 := by
  unfold valV at h
  simp only [Bool.and_eq_true, decide_eq_true_eq] at h
  omega
theorem val_chars {s : List UInt8} (h : valV s = true) : ∀ x ∈ s, inC 4 x = true := by
  unfold valV at h
  simp only [Bool.and_eq_true] at h
  exact List.all_eq_true.1 h.2
theorem no_comma {x : Lab} (h1 : namesR 2 x.1 = true) (h2 : valV x.2 = true) : (44 : UInt8) ∉ labT x := fun h => by
  unfold labT at h
  rcases List.mem_append.1 h with h | h
  · rcases List.mem_append.1 h with h | h
    · rcases key_chars h1 _ h with k | k
      · cases k
      · exact absurd k (by decide)
    · simp at h
  · exact absurd (val_chars h2 _ h) (by decide)
theorem no_equal {x : Lab} (h1 : namesR 2 x.1 = true) : (61 : UInt8) ∉ x.1 := fun h => by
  rcases key_chars h1 _ h with k | k
  · cases k
  · exact absurd k (by decide)
theorem parts_join : ∀ {l : List (List UInt8)}, l ≠ [] → (∀ p ∈ l, (44 : UInt8) ∉ p) → partsB 44 (Lib.join l [44]) = l
  | [p], _, h => by rw [Lib.join_one]; exact split_none (h p List.mem_cons_self)
  | p :: q :: l, _, h => by
    have ih := parts_join (l := q :: l) (by simp) fun x hx => h x (List.mem_cons_of_mem _ hx)
    have e : Lib.join (p :: q :: l) [44] = p ++ (44 :: Lib.join (q :: l) [44]) := by
      rw [Lib.join_cons, Lib.join_cons]; simp [Lib.joinTail]
    have hp := h p List.mem_cons_self
    have hm : (44 : UInt8) ∈ Lib.join (p :: q :: l) [44] := by rw [e]; simp
    rw [split_hit hm]
    have hh : headB 44 (Lib.join (p :: q :: l) [44]) = p := by
      rw [e]; unfold headB
      rw [List.takeWhile_append_of_pos (fun x hx => by simp; exact fun k => hp (k ▸ hx))]
      simp
    unfold restB
    rw [hh, e]
    rw [show (p ++ 44 :: Lib.join (q :: l) [44]).drop (p.length + 1) = Lib.join (q :: l) [44] by
      rw [show p ++ 44 :: Lib.join (q :: l) [44] = (p ++ [44]) ++ Lib.join (q :: l) [44] by simp]
      exact List.drop_left' (by simp)]
    rw [ih]
theorem join_parts : ∀ s : List UInt8, Lib.join (partsB 44 s) [44] = s
  | [] => by simp [partsB, Lib.join_one]
  | x :: s => by
    have ih := join_parts s
    by_cases hx : x = 44
    · subst hx
      rw [partsB, if_pos rfl]
      cases hp : partsB 44 s with
      | nil => exact absurd hp (partsB_ne 44 s)
      | cons q qs => rw [hp] at ih; rw [Lib.join_cons]; rw [Lib.join_cons] at ih; simp [Lib.joinTail] at ih ⊢; exact ih
    · rw [partsB_cons hx]
      cases hp : partsB 44 s with
      | nil => exact absurd hp (partsB_ne 44 s)
      | cons q qs => rw [hp] at ih; rw [Lib.join_cons]; rw [Lib.join_cons] at ih; simp [Lib.joinTail] at ih ⊢; exact ih
theorem cut_hit {c : UInt8} {p q : List UInt8} (h : c ∉ p) : cutV c (p ++ (c :: q)) = (p, q, true) := by
  have h1 : headB c (p ++ (c :: q)) = p := by
    unfold headB
    rw [List.takeWhile_append_of_pos (fun x hx => by simp; exact fun k => h (k ▸ hx))]
    simp
  unfold cutV
  rw [if_pos (by simp)]
  show (headB c _, List.drop ((headB c _).length + 1) _, true) = _
  rw [h1]
  simp
theorem cut_back {p : List UInt8} (h : (cutV 61 p).2.2 = true) : labT (cutL p) = p := by
  unfold cutL labT
  unfold cutV at h ⊢
  by_cases hm : (61 : UInt8) ∈ p
  · simp only [if_pos hm]
    obtain ⟨h1, h2⟩ := tw_lt hm
    have e := List.takeWhile_append_dropWhile (p := fun x => x != (61 : UInt8)) (l := p)
    have h3 : p.drop (headB 61 p).length = 61 :: p.drop ((headB 61 p).length + 1) := by
      rw [List.drop_eq_getElem_cons h1]
      congr 1
      rw [List.getElem?_eq_getElem h1] at h2
      exact Option.some.inj h2
    have h4 : headB 61 p ++ p.drop (headB 61 p).length = p := by
      conv => rhs; rw [← List.take_append_drop (headB 61 p).length p]
      rw [take_head]
    rw [h3] at h4
    simpa using h4
  · rw [if_neg hm] at h; cases h
theorem cutL_lab {x : Lab} (h : (61 : UInt8) ∉ x.1) : (cutV 61 (labT x)).2.2 = true ∧ cutL (labT x) = x := by
  have e : labT x = x.1 ++ (61 :: x.2) := by simp [labT]
  unfold cutL
  rw [e, cut_hit h]
  exact ⟨rfl, rfl⟩
theorem parse_text {l : List Lab} (h : labelsE selN l = none) : parseS (selT l) = (l, 0) := by
  obtain ⟨hl, hs, hk⟩ := labels_out h
  by_cases h0 : l = []
  · subst h0; exact parse_nil rfl
  · have hp : partsB 44 (selT l) = l.map labT := parts_join (by simpa using h0) fun p hp => by
      obtain ⟨x, hx, rfl⟩ := List.mem_map.1 hp
      exact no_comma (hk x hx).1 (hk x hx).2
    have hne : selT l ≠ [] := fun e => by
      rw [e] at hp
      cases l with
      | nil => exact h0 rfl
      | cons x l =>
        simp only [partsB, List.map_cons, List.cons.injEq] at hp
        have := congrArg List.length hp.1
        simp [labT] at this
    have hm : (partsB 44 (selT l)).map cutL = l := by
      rw [hp, List.map_map]
      conv => rhs; rw [← List.map_id l]
      exact List.map_congr_left fun x hx => (cutL_lab (no_equal (hk x hx).1)).2
    rw [parse_all hne fun i hi => by
      have hx : (partsB 44 (selT l))[i] ∈ l.map labT := by
        have h9 := List.getElem_mem hi
        rw [← hp]; exact h9
      obtain ⟨y, hy, e⟩ := List.mem_map.1 hx
      have e' : (partsB 44 (selT l))[i] = labT y := e.symm
      rw [e']; exact (cutL_lab (no_equal (hk y hy).1)).1]
    rw [hm, h]; rfl
theorem text_parse {s : List UInt8} (h : (parseS s).2 = 0) : erCode (labelsE selN (parseS s).1) = 0 ∧ selT (parseS s).1 = s := by
  by_cases h0 : s = []
  · subst h0; rw [parse_nil rfl]; exact ⟨by decide, by decide⟩
  · by_cases hc : ∀ i (hi : i < (partsB 44 s).length), (cutV 61 (partsB 44 s)[i]).2.2 = true
    · have hp := parse_all h0 hc
      by_cases he : erCode (labelsE selN ((partsB 44 s).map cutL)) = 0
      · rw [if_pos he] at hp
        rw [hp]
        refine ⟨he, ?_⟩
        unfold selT
        rw [List.map_map]
        have : (partsB 44 s).map (labT ∘ cutL) = partsB 44 s := by
          conv => rhs; rw [← List.map_id (partsB 44 s)]
          refine List.map_congr_left fun p hp => ?_
          obtain ⟨i, hi, rfl⟩ := List.mem_iff_getElem.1 hp
          exact cut_back (hc i hi)
        rw [this, join_parts]
      · rw [if_neg he] at hp; rw [hp] at h; exact absurd h he
    · obtain ⟨i, hi, hb⟩ : ∃ i, ∃ hi : i < (partsB 44 s).length, (cutV 61 (partsB 44 s)[i]).2.2 = false := Classical.byContradiction fun k => hc fun i hi => by
        cases hx : (cutV 61 (partsB 44 s)[i]).2.2 with
        | true => rfl
        | false => exact absurd ⟨i, hi, hx⟩ k
      rw [parse_bad h0 hi hb] at h; cases h
theorem parse_fail {s : List UInt8} (h : (parseS s).2 ≠ 0) : (parseS s).1 = [] := by
  unfold parseS at h ⊢
  split
  · rfl
  · split
    · split
      · rename_i h1 h2 h3; rw [if_neg h1, if_pos h2, if_pos h3] at h; exact absurd rfl h
      · rfl
    · rfl
theorem parse_len {s : List UInt8} {n : Nat} (h : s.length ≤ n) : (parseS s).1.length ≤ s.length + 1 ∧ ∀ x ∈ (parseS s).1, x.1.length ≤ n ∧ x.2.length ≤ n := by
  have h1 := parts_few 44 s
  have h2 := cutL_len h
  unfold parseS
  split
  · exact ⟨by simp, fun x hx => by cases hx⟩
  · split
    · split
      · exact ⟨by simpa using h1, h2⟩
      · exact ⟨by simp, fun x hx => by cases hx⟩
    · exact ⟨by simp, fun x hx => by cases hx⟩
end Go.AL

/-
Specs as bytes.
Conditions: none; no program is in sight.
-/
set_option linter.unusedVariables false
set_option linter.unusedSimpArgs false
namespace Go.AL
open Go.RowKit Go.NumSpec
abbrev MR : Int := 1099511627776
def labRd : Rd Lab := seqR (textRd 33) (textRd 16)
def labB (x : Lab) : List UInt8 := textB x.1 ++ textB x.2
def LabOk (x : Lab) : Prop := (x.1.length : Int) ≤ 33 ∧ (x.2.length : Int) ≤ 16
theorem labC : Codec labRd labB LabOk := seqC (textC (by decide) (by decide)) (textC (by decide) (by decide))
def labsRd : Rd (List Lab) := allR labRd 4
def labsB (l : List Lab) : List UInt8 := listB labB l
def LabsOk (l : List Lab) : Prop := (l.length : Int) ≤ 4 ∧ ∀ x ∈ l, LabOk x
theorem labsC : Codec labsRd labsB LabsOk := listC labC (by decide) (by decide)
def triRd : Rd Tri := seqR (numRd MR) (seqR (numRd MR) (numRd MR))
def triB (r : Tri) : List UInt8 := numB r.1 ++ (numB r.2.1 ++ numB r.2.2)
def TriOk (r : Tri) : Prop := (0 ≤ r.1 ∧ r.1 ≤ MR) ∧ ((0 ≤ r.2.1 ∧ r.2.1 ≤ MR) ∧ (0 ≤ r.2.2 ∧ r.2.2 ≤ MR))
theorem triC : Codec triRd triB TriOk := seqC (numC (by decide) (by decide)) (seqC (numC (by decide) (by decide)) (numC (by decide) (by decide)))
def portsRd : Rd (List Int) := allR (numRd 65535) 3
def portsB (l : List Int) : List UInt8 := listB numB l
def PortsOk (l : List Int) : Prop := (l.length : Int) ≤ 3 ∧ ∀ x ∈ l, 0 ≤ x ∧ x ≤ 65535
theorem portsC : Codec portsRd portsB PortsOk := listC (numC (by decide) (by decide)) (by decide) (by decide)
abbrev CtrT := List UInt8 × (List UInt8 × (Tri × (Tri × (List Int × (Int × Int)))))
def ctrOf (x : CtrT) : Ctr := ⟨x.1, x.2.1, x.2.2.1, x.2.2.2.1, x.2.2.2.2.1, x.2.2.2.2.2⟩
def ctrTo (c : Ctr) : CtrT := (c.name, (c.image, (c.req, (c.lim, (c.ports, c.probe)))))
def ctrRd : Rd Ctr := mapR ctrOf (seqR (textRd 16) (seqR (textRd 33) (seqR triRd (seqR triRd (seqR portsRd (seqR (numRd 1000) (numRd 10)))))))
def ctrB (c : Ctr) : List UInt8 := textB c.name ++ (textB c.image ++ (triB c.req ++ (triB c.lim ++ (portsB c.ports ++ (numB c.probe.1 ++ numB c.probe.2)))))
def CtrOk (c : Ctr) : Prop := (c.name.length : Int) ≤ 16 ∧ ((c.image.length : Int) ≤ 33 ∧ (TriOk c.req ∧ (TriOk c.lim ∧ (PortsOk c.ports ∧ ((0 ≤ c.probe.1 ∧ c.probe.1 ≤ 1000) ∧ (0 ≤ c.probe.2 ∧ c.probe.2 ≤ 10))))))
theorem ctrC : Codec ctrRd ctrB CtrOk :=
  mapC (h := ctrOf) (k := ctrTo) (fun _ => rfl) (fun _ => rfl) (seqC (textC (by decide) (by decide)) (seqC (textC (by decide) (by decide)) (seqC triC (seqC triC (seqC portsC (seqC (numC (by decide) (by decide)) (numC (by decide) (by decide))))))))
def ctrsB (l : List Ctr) : List UInt8 := listB ctrB l
def CtrsOk (n : Int) (l : List Ctr) : Prop := (l.length : Int) ≤ n ∧ ∀ x ∈ l, CtrOk x
abbrev SpcT := List UInt8 × (List Lab × (List Ctr × (List Ctr × (Int × (Int × Int)))))
def spcOf (x : SpcT) : Spc := ⟨x.1, x.2.1, x.2.2.1, x.2.2.2.1, x.2.2.2.2.1, x.2.2.2.2.2.1, x.2.2.2.2.2.2⟩
def spcTo (s : Spc) : SpcT := (s.name, (s.labels, (s.init, (s.main, (s.restart, (s.grace, s.prio))))))
def spcRd : Rd Spc := mapR spcOf (seqR (textRd 16) (seqR labsRd (seqR (allR ctrRd 3) (seqR (allR ctrRd 4) (seqR (numRd 3) (seqR (numRd 1000) (numRd 10)))))))
def spcB (s : Spc) : List UInt8 := textB s.name ++ (labsB s.labels ++ (ctrsB s.init ++ (ctrsB s.main ++ (numB s.restart ++ (numB s.grace ++ numB s.prio)))))
def SpcOk (s : Spc) : Prop := (s.name.length : Int) ≤ 16 ∧ (LabsOk s.labels ∧ (CtrsOk 3 s.init ∧ (CtrsOk 4 s.main ∧ ((0 ≤ s.restart ∧ s.restart ≤ 3) ∧ ((0 ≤ s.grace ∧ s.grace ≤ 1000) ∧ (0 ≤ s.prio ∧ s.prio ≤ 10))))))
theorem spcC : Codec spcRd spcB SpcOk :=
  mapC (h := spcOf) (k := spcTo) (fun _ => rfl) (fun _ => rfl) (seqC (textC (by decide) (by decide)) (seqC labsC (seqC (listC ctrC (by decide) (by decide)) (seqC (listC ctrC (by decide) (by decide)) (seqC (numC (by decide) (by decide)) (seqC (numC (by decide) (by decide)) (numC (by decide) (by decide))))))))
/-! What may be is within its bounds -/
theorem atMost_none {name : List UInt8} {n lo hi : Int} (h : atMostE name n lo hi = none) : lo ≤ n ∧ n ≤ hi := by
  unfold atMostE at h
  split at h
  · cases h
  · omega
theorem new_none {b : Bool} {c : Int} {ps : List (List UInt8)} (hc : c ≠ 0) (h : erNew (saysV b c) ps = none) : b = true := by
  unfold erNew at h
  split at h
  · rename_i h1; exact (says_zero hc).1 h1
  · cases h
theorem image_len {s : List UInt8} (h : (tparts s).2.2 = true) : (s.length : Int) ≤ 33 := by
  unfold tparts at h
  split at h
  · rename_i h1
    have h2 := cutV_len h1.1
    have h3 := h1.2.1
    have h4 := h1.2.2
    unfold repoV at h3; unfold tagV at h4
    simp only [Bool.and_eq_true, decide_eq_true_eq] at h3 h4
    have := h3.1; have := h4.1.2
    omega
  · cases h
theorem req_ok {r : Tri} (h : reqE r = none) : TriOk r := by
  have h0 := erIn_none h
  exact ⟨within_none (firstE_none h0 _ List.mem_cons_self), within_none (firstE_none h0 (withinE [109, 101, 109] r.2.1 0 1099511627776) (by simp)), within_none (firstE_none h0 (withinE [112, 105, 100, 115] r.2.2 0 1099511627776) (by simp))⟩
theorem most_ok {name : List UInt8} {n lo : Int} (h0 : 0 ≤ lo) (h : mostE name n lo = none) : 0 ≤ n ∧ n ≤ MR := by
  unfold mostE at h
  split at h
  · rename_i h1; subst h1; exact ⟨by decide, by decide⟩
  · have := within_none h
    unfold MR; omega
theorem lim_ok {l r : Tri} (hr : TriOk r) (h : limE l r = none) : TriOk l := by
  have h0 := erIn_none h
  exact ⟨most_ok hr.1.1 (firstE_none h0 _ List.mem_cons_self), most_ok hr.2.1.1 (firstE_none h0 (mostE [109, 101, 109] l.2.1 r.2.1) (by simp)), most_ok hr.2.2.1 (firstE_none h0 (mostE [112, 105, 100, 115] l.2.2 r.2.2) (by simp))⟩
theorem port_ok {ps l : List Int} {n : Int} (hn : n ≤ 3) (h : portE ps l n = none) : PortsOk l := by
  obtain ⟨h1, h2⟩ := portE_out h
  refine ⟨by have := atMost_none h1; omega, fun x hx => ?_⟩
  obtain ⟨j, hj, rfl⟩ := List.mem_iff_getElem.1 hx
  have := within_none (portAt_out (h2 j hj)).1
  rw [List.getD_eq_getElem?_getD, List.getElem?_eq_getElem hj] at this
  simp only [Option.getD_some] at this
  omega
theorem ctr_ok {ns : List (List UInt8)} {ps : List Int} {c : Ctr} {a b : Int} (ha : a ≤ 3) (hb : b ≤ 1000) (h : ctrE ns ps c a b = none) : CtrOk c := by
  have h1 := new_none (by decide) (nameE_out (firstE_none h (nameE ns c.name) (by simp))).1
  have h2 := new_none (by decide) (firstE_none h (erNew (saysV (tparts c.image).2.2 33) [[105, 109, 97, 103, 101]]) (by simp))
  have h3 := req_ok (firstE_none h (reqE c.req) (by simp))
  have h4 := lim_ok h3 (firstE_none h (limE c.lim c.req) (by simp))
  have h5 := port_ok ha (firstE_none h (portE ps c.ports a) (by simp))
  have h6 := erIn_none (firstE_none h (probeE c.probe b) (by simp))
  have h7 := within_none (firstE_none h6 _ List.mem_cons_self)
  have h8 := within_none (firstE_none h6 _ (List.mem_cons_of_mem _ List.mem_cons_self))
  have h9 := nameV_len h1
  refine ⟨by omega, image_len h2, h3, h4, h5, by omega, ?_⟩
  by_cases hp : c.probe.1 = 0
  · rw [if_pos hp, if_pos hp] at h8; omega
  · rw [if_neg hp, if_neg hp] at h8; omega
theorem ctrs_ok {name : List UInt8} {ns : List (List UInt8)} {ps : List Int} {l : List Ctr} {a b : Int} (ha : a ≤ 3) (hb : b ≤ 1000) (h : ctrsE name ns ps l a b = none) : ∀ x ∈ l, CtrOk x := fun x hx => by
  obtain ⟨j, hj, rfl⟩ := List.mem_iff_getElem.1 hx
  have := erIn_none (eachE_none h j hj)
  rw [ctrAt_at hj] at this
  exact ctr_ok ha hb this
theorem check_ok {s : Spc} (h : checkE s = none) : SpcOk s := by
  obtain ⟨h1, h2, h3⟩ := check_all h
  have n1 := nameV_len (new_none (by decide) (firstE_none h1 _ List.mem_cons_self))
  have n2 := labels_out (firstE_none h1 (labelsE labelsN s.labels) (by simp))
  have n3 := atMost_none (firstE_none h1 (atMostE initN (s.init.length : Int) 0 3) (by simp))
  have n4 := ctrs_ok (by decide) (by decide) (firstE_none h2 (ctrsE initN [] [] s.init 0 0) (by simp))
  have n5 := atMost_none (firstE_none h2 (atMostE mainN (s.main.length : Int) 1 4) (by simp))
  have n6 := ctrs_ok (by decide) (by decide) (firstE_none h3 _ List.mem_cons_self)
  have n7 := within_none (firstE_none h3 (withinE [114, 101, 115, 116, 97, 114, 116] s.restart 1 3) (by simp))
  have n8 := within_none (firstE_none h3 (withinE [103, 114, 97, 99, 101] s.grace 0 1000) (by simp))
  have n9 := within_none (firstE_none h3 (withinE [112, 114, 105, 111] s.prio 0 10) (by simp))
  refine ⟨by omega, ⟨by have := n2.1; omega, fun x hx => ?_⟩, ⟨n3.2, n4⟩, ⟨n5.2, n6⟩, by omega, n8, n9⟩
  have := n2.2.2 x hx
  have k1 := key_short this.1
  have k2 := val_short this.2
  exact ⟨by omega, by omega⟩
/-! How long -/
theorem labB_len {x : Lab} (h1 : x.1.length ≤ 400) (h2 : x.2.length ≤ 400) : (labB x).length ≤ 1000 := by
  have := textB_len (s := x.1) (by omega)
  have := textB_len (s := x.2) (by omega)
  unfold labB; rw [List.length_append]; omega
theorem triB_len {r : Tri} (h : TriOk r) : (triB r).length ≤ 30 := by
  have a := numB_len (n := r.1) (by have := h.1.2; unfold MR at this; omega)
  have b := numB_len (n := r.2.1) (by have := h.2.1.2; unfold MR at this; omega)
  have c := numB_len (n := r.2.2) (by have := h.2.2.2; unfold MR at this; omega)
  unfold triB; rw [List.length_append, List.length_append]; omega
theorem portsB_len {l : List Int} (h : PortsOk l) : (portsB l).length ≤ 40 := by
  have a := flatB_len (e := numB) (B := 10) (l := l) fun x hx => numB_len (by have := (h.2 x hx).2; omega)
  have b := putL_few l.length (by have := h.1; omega)
  have := h.1
  unfold portsB listB; rw [List.length_append]; omega
theorem ctrB_len {c : Ctr} (h : CtrOk c) : (ctrB c).length ≤ 1000 := by
  obtain ⟨h1, h2, h3, h4, h5, h6, h7⟩ := h
  have a := textB_len (s := c.name) (by omega)
  have b := textB_len (s := c.image) (by omega)
  have d := triB_len h3
  have e := triB_len h4
  have f := portsB_len h5
  have g := numB_len (n := c.probe.1) (by omega)
  have k := numB_len (n := c.probe.2) (by omega)
  unfold ctrB
  simp only [List.length_append]; omega
theorem ctrB_assoc (c : Ctr) : (((((textB c.name ++ textB c.image) ++ triB c.req) ++ triB c.lim) ++ listB numB c.ports) ++ numB c.probe.1) ++ numB c.probe.2 = ctrB c := by simp [ctrB, portsB]
theorem spcB_assoc (s : Spc) : (((((textB s.name ++ listB labB s.labels) ++ ([s.init, s.main].flatMap (listB ctrB)))) ++ numB s.restart) ++ numB s.grace) ++ numB s.prio = spcB s := by simp [spcB, labsB, ctrsB]
theorem two_all {p : List Ctr → Prop} {a b : List Ctr} (ha : p a) (hb : p b) : ∀ x ∈ [a, b], p x := fun x hx => by
  simp only [List.mem_cons, List.not_mem_nil, or_false] at hx
  rcases hx with rfl | rfl
  · exact ha
  · exact hb
theorem flatB_next {α : Type} {e : α → List UInt8} {a : List UInt8} {l : List α} {i : Nat} (h : i < l.length) : a ++ (l.take (i + 1)).flatMap e = (a ++ (l.take i).flatMap e) ++ e l[i] := by
  rw [flat_next h, List.append_assoc]
theorem triB_assoc (r : Tri) : (numB r.1 ++ numB r.2.1) ++ numB r.2.2 = triB r := by simp [triB]
theorem listB_next {α : Type} {e : α → List UInt8} {l : List α} {i : Nat} (h : i < l.length) : putL l.length ++ (l.take (i + 1)).flatMap e = (putL l.length ++ (l.take i).flatMap e) ++ e l[i] := by
  rw [flat_next h, List.append_assoc]
theorem wput_le {c : Int} {l s : List UInt8} {n : Nat} (h : l.length + s.length ≤ n) : (wput c l s).length ≤ n := Nat.le_trans (wput_len c l s) h
theorem wput_nil (c : Int) (l : List UInt8) : wput c l [] = l := by unfold wput; split <;> simp
theorem listB_len {α : Type} {e : α → List UInt8} {l : List α} {B : Nat} (hl : l.length ≤ 9223372036854775807) (h : ∀ x ∈ l, (e x).length ≤ B) : (listB e l).length ≤ 10 + l.length * B := by
  have a := flatB_len h
  have b := putL_few l.length (by omega)
  unfold listB; rw [List.length_append]; omega
theorem ACalls.preQ {P : Program} {f : FuncId} {args : List AV} {foot pre F : St} {K : AV → St → Prop} (hc : ACalls P f args (foot ++ (pre ++ F)) fun x st' => ∃ foot', K x foot' ∧ st' = foot' ++ (pre ++ F)) : ACalls P f args (pre ++ (foot ++ F)) fun x st' => ∃ foot', K x foot' ∧ st' = pre ++ (foot' ++ F) := by
  have perm : ∀ (a : St), (pre ++ (a ++ F)).Perm (a ++ (pre ++ F)) := fun a => by
    rw [← List.append_assoc, ← List.append_assoc]
    exact List.Perm.append_right F List.perm_append_comm
  refine ⟨hc.enters, fun w vs hrel hs hr => ?_⟩
  have hx : Ext (pre ++ (foot ++ F)) w (foot ++ (pre ++ F)) w := Ext.sub fun p hp => (perm foot).mem_iff.2 hp
  have hrel2 : Rel (foot ++ (pre ++ F)) w := hrel.sub (fun p hp => (perm foot).mem_iff.2 hp) (((perm foot).map (·.1)).nodup_iff.1 hrel.nodup)
  refine (hc.calls w vs hrel2 hs fun i x v h1 h2 => (hr i x v h1 h2).mono hx hrel.nodup).mono ?_
  rintro e w' ⟨r, x, st', he, ⟨foot', hk, rfl⟩, hr', hrel', hext⟩
  have hy : Ext (foot' ++ (pre ++ F)) w' (pre ++ (foot' ++ F)) w' := Ext.sub fun p hp => (perm foot').mem_iff.1 hp
  exact ⟨r, x, _, he, ⟨foot', hk, rfl⟩, hr'.mono hy hrel'.nodup, hrel'.sub (fun p hp => (perm foot').mem_iff.1 hp) (((perm foot').map (·.1)).nodup_iff.2 hrel'.nodup), (hx.trans hext hrel.nodup).trans hy hrel.nodup⟩
theorem bytes_fin (s : Spc) : AV.tup [.S (if (if checkE s = none then (0 : Int) else failC 0 (erCode (checkE s))) = 0 then (if checkE s = none then wput 0 [] (spcB s) else []) else []), .int .i64 (if checkE s = none then 0 else failC 0 (erCode (checkE s)))] = .tup [.S (if checkE s = none then spcB s else []), .int .i64 (erCode (checkE s))] := by
  by_cases hk : checkE s = none
  · rw [if_pos hk, if_pos hk, if_pos hk, if_pos rfl, hk]; rfl
  · rw [if_neg hk, if_neg hk, if_neg hk]
    have : failC 0 (erCode (checkE s)) = erCode (checkE s) := rfl
    rw [this]; split <;> rfl
end Go.AL

/-
The logic AL: function values: a function's name, a closure over variables of one's own, and calls of them.
Conditions: none; no program is in sight.
-/
set_option linter.unusedVariables false
set_option linter.unusedSimpArgs false
namespace Go.AL
open Go.RowKit
section
variable {P : Program} {N : Nat} {env : Env} {st : St} {o : Oper}
/-- A function's value: what it is, and what it holds. -/
abbrev AV.fn (f : FuncId) (caps : List Value) : AV := .lit (.func (.func f) #[] caps.toArray)
theorem AEv.fn (f : FuncId) : AEv env (.func f) (.fn f []) := AEv.func f
theorem S_makeFunc {f : FuncId} {xs : List Operand} {caps : List Value} (ho : o.op = .makeFunc (.func f) #[] xs.toArray) (hc : AEvs env xs (caps.map .lit)) : PStep P N o env st (.fn f caps) :=
  .of_val fun a w hg => by
    obtain ⟨hl, hr⟩ := hc.at_ hg
    have e : xs.map a.eval = caps := by
      refine List.ext_getElem? fun i => ?_
      simp only [List.getElem?_map]
      have hl' : caps.length = xs.length := by simpa using hl.symm
      cases hx : xs[i]? with
      | none =>
        have : xs.length ≤ i := by simpa using hx
        simp; omega
      | some x =>
        have hi : i < caps.length := by have := (List.getElem?_eq_some_iff.1 hx).1; omega
        have := hr i (.lit caps[i]) x (by simp [hi]) hx
        have := this.lit_inv
        simp [hi, this]
    refine ⟨.func (.func f) #[] caps.toArray, ?_, .lit _⟩
    simp [execOp, ho, Instr.makeFunc, e]

theorem S_callF {f : FuncId} {x : Operand} {caps : List Value} {xs : List Operand} {ts : Array TypeId} {args : List AV} {K : AV → St → Prop} (ho : o.op = .call { callee := .value x, args := xs.toArray, argTypes := ts }) (hx : AEv env x (.fn f caps)) (hargs : AEvs env xs args) (hc : ACalls P f (args ++ caps.map .lit) st K) : Step P N o env st K := by
  intro a w hg next Q hn
  obtain ⟨hl, hr⟩ := hargs.at_ hg
  have hf := (hx _ _ _ _ hg).lit_inv
  have hrun : (execOp a.eval o).run P w = .ok (.enter f ((xs.map a.eval) ++ caps).toArray) w := by
    simp [execOp, ho, resolve, Deferred.ofValue, hf, invoke, run_callFunc' hc.enters]
  unfold Oper.wp
  rw [hrun]
  have hl2 : args.length = xs.length := hl.symm
  refine (hc.calls w _ hg.rel (by simp [hl2]) fun i y v hy hv => ?_).mono ?_
  · simp only [List.getElem?_toArray] at hv
    rcases Nat.lt_or_ge i args.length with hi | hi
    · rw [List.getElem?_append_left hi] at hy
      rw [List.getElem?_append_left (by simp; omega)] at hv
      simp at hv
      obtain ⟨u, hu, rfl⟩ := hv
      exact hr i y u hy hu
    · rw [List.getElem?_append_right hi] at hy
      rw [List.getElem?_append_right (by simp; omega)] at hv
      simp only [List.length_map] at hv
      rw [← hl2] at hv
      simp only [List.getElem?_map, hv, Option.map_some, Option.some.injEq] at hy
      subst hy
      exact .lit v
  · rintro e w' ⟨r, y, st', rfl, k, h1, h2, h3⟩
    exact hn y st' r w' k h1 h2 h3
end
end Go.AL

/-
The logic AL: load of several cells of a table.
Conditions: none; no program is in sight.
-/
set_option linter.unusedVariables false
set_option linter.unusedSimpArgs false
namespace Go.AL
open Go.RowKit
section
variable {P : Program} {N : Nat} {env : Env} {st : St} {o : Oper} {w : World}
theorem S_loadKs {t : TypeId} {x : Operand} {b off m : Nat} {vs : List Value} (ho : o.op = .load t x) (hx : AEv env x (.ptr b off)) (hst : (b, Ob.konst vs) ∈ st) (ht : rowT P t m = true) (hm : off + m ≤ vs.length) : PStep P N o env st (.agg (((vs.drop off).take m).map AV.lit)) :=
  .of_val fun a w hg => by
    obtain ⟨d, hu, hd, hi⟩ := rowT_spec ht
    have e := eval_ptr hx hg
    have hlen : ((vs.drop off).take m).length = m := by simp; omega
    refine ⟨.agg ((vs.drop off).take m).toArray, ?_, .agg _ _ (by simp) fun i c v hc hv => ?_⟩
    · have hr : w.rangeAt b off ((vs.drop off).take m) := fun j v hv => by
        have hj : j < m := by have := (List.getElem?_eq_some_iff.1 hv).1; omega
        rw [List.getElem?_take_of_lt hj, List.getElem?_drop] at hv
        exact (hg.rel.konst b vs hst).2 _ _ hv
      simp only [execOp, ho, e, Sem.run_bind, run_loadAt_mid (P := P) w b off t _ d hr hu hd (by rw [hi, hlen]), Result.andThen_ok, Sem.run_pure]
    · rw [List.getElem?_toArray] at hv
      rw [List.getElem?_map, hv] at hc
      rw [← Option.some.inj hc]
      exact .lit _
theorem PStep.leV {V V' : AV} (h : PStep P N o env st V) (hl : Le V V') : PStep P N o env st V' := fun a w hg next Q hn => h a w hg next Q fun x st' v w' ⟨h1, h2⟩ hr hrel hx => by
  subst h1; exact hn V' st' v w' ⟨rfl, h2⟩ (hl _ _ _ hr) hrel hx
/-- .. an element of a row of rows that is a value -/
theorem S_idxRow {t e : TypeId} {len m : Nat} {x y : Operand} {cs : List AV} {k : IntKind} {i : Int} (ho : o.op = .index t x y) (hx : AEv env x (.agg cs)) (hy : AEv env y (.int k i)) (hu : P.underlying t = some (.array len e)) (ht : rowT P e m = true) (h0 : 0 ≤ i) (h1 : i < len) (hm : i.toNat * m + m ≤ cs.length) : PStep P N o env st (.agg ((cs.drop (i.toNat * m)).take m)) :=
  .of_val fun a w hg => by
    obtain ⟨vs, e1, hn, hr⟩ := agg_inv (hx _ _ _ _ hg)
    have e2 := (hy _ _ _ _ hg).lit_inv
    obtain ⟨d, hu2, hd, hi⟩ := rowT_spec ht
    have := run_part_row (P := P) (cs := vs) (k := i.toNat * m) w ht
    refine ⟨.agg (vs.extract (i.toNat * m) (i.toNat * m + m)), ?_, .agg _ _ (by simp; omega) fun j c v hc hv => ?_⟩
    · cases hq : P.info? e with
      | none => simp [hq] at hi
      | some q =>
        have hqm : q.size = m := by simpa [hq] using hi
        simp [execOp, ho, e1, e2, Instr.index, asIntOf, run_underlying hu, h0, h1, sizeOf, typeInfo, hq, hqm, this]
    · have hj : j < m := by have := (List.getElem?_eq_some_iff.1 hc).1; simp at this; omega
      rw [List.getElem?_take_of_lt hj, List.getElem?_drop] at hc
      refine hr _ c v hc ?_
      rw [Array.getElem?_extract] at hv
      split at hv
      · exact hv
      · cases hv
/-- .. an element of one cell of an array that is a value -/
theorem S_idxOne {t e : TypeId} {len : Nat} {x y : Operand} {cs : List AV} {c : AV} {k : IntKind} {i : Int} (ho : o.op = .index t x y) (hx : AEv env x (.agg cs)) (hy : AEv env y (.int k i)) (hu : P.underlying t = some (.array len e)) (ht : flatT P e = true) (hm : (P.info? e).map (·.size) = some 1) (h0 : 0 ≤ i) (h1 : i < len) (hc : cs[i.toNat]? = some c) : PStep P N o env st c :=
  .of_val fun a w hg => by
    obtain ⟨vs, e1, hn, hr⟩ := agg_inv (hx _ _ _ _ hg)
    have e2 := (hy _ _ _ _ hg).lit_inv
    have hk : i.toNat < vs.size := by have := (List.getElem?_eq_some_iff.1 hc).1; omega
    refine ⟨vs[i.toNat], ?_, hr _ _ _ hc (by simp [hk])⟩
    have := run_part_flat (P := P) w ht (show vs[i.toNat]? = some vs[i.toNat] by simp [hk])
    cases hq : P.info? e with
    | none => simp [hq] at hm
    | some q =>
      have hqm : q.size = 1 := by simpa [hq] using hm
      simp [execOp, ho, e1, e2, Instr.index, asIntOf, run_underlying hu, h0, h1, sizeOf, typeInfo, hq, hqm, this]
end
end Go.AL

/-
The logic AL: a region that draws its order, every order walked by itself.
Conditions: none; no program is in sight.
-/
set_option linter.unusedVariables false
set_option linter.unusedSimpArgs false
namespace Go.AL
open Go.RowKit
section
variable {P : Program} {N : Nat} {Q : Post} {env : Env} {st : St} {ops : Array Oper}
theorem AC_mono {c : Code} {Q' : Post} (h : AC P N c Q' env st) (hq : ∀ e env' st', Q' e env' st' → Q e env' st') : AC P N c Q env st := fun a w hg =>
  wp_mono (h a w hg) fun e a' w' ⟨env', st', h1, h2, h3⟩ => ⟨env', st', hq _ _ _ h1, h2, h3⟩
def AO (P : Program) (N : Nat) (ops : Array Oper) (Q : Post) (fuel : Nat) (listed : Array Bool) (env : Env) (st : St) : Prop :=
  ∀ (st0 : St) (w0 : World) (a : Act) (w : World), (st0.map (·.1)).Nodup → Good N env st a w → Ext st0 w0 st w → wpAny P .any ops (Sat N Q st0 w0) fuel listed a w
inductive AllI (p : Nat → Prop) : List Nat → Prop
  | nil : AllI p []
  | cons {i : Nat} {l : List Nat} (h : p i) (t : AllI p l) : AllI p (i :: l)
theorem AllI.at_ {p : Nat → Prop} : ∀ {l : List Nat}, AllI p l → ∀ i ∈ l, p i
  | _, .cons h t, i, hi => by
    rcases List.mem_cons.1 hi with rfl | hi
    · exact h
    · exact t.at_ i hi
def AO1 (P : Program) (N : Nat) (ops : Array Oper) (Q : Post) (fuel : Nat) (listed : Array Bool) (env : Env) (st : St) (i : Nat) : Prop :=
  ∃ (o : Oper) (K : AV → St → Prop), ops[i]? = some o ∧ o.guard = none ∧ dstIn N o.dst = true ∧ Step P N o env st K ∧ ∀ x st', K x st' → AO P N ops Q fuel (listed.setIfInBounds i true) (putE o.dst x env) st'
theorem AO1.mk' {fuel i : Nat} {listed : Array Bool} {o : Oper} {K : AV → St → Prop} (ho : ops[i]? = some o) (hgd : o.guard = none) (hd : dstIn N o.dst = true) (hs : Step P N o env st K) (h : ∀ x st', K x st' → AO P N ops Q fuel (listed.setIfInBounds i true) (putE o.dst x env) st') : AO1 P N ops Q fuel listed env st i := ⟨o, K, ho, hgd, hd, hs, h⟩
theorem AO_step {fuel : Nat} {listed : Array Bool} {rs : List Nat} (hr : Region.ready .any ops listed = rs) (hne : rs.isEmpty = false) (h : AllI (AO1 P N ops Q fuel listed env st) rs) : AO P N ops Q (fuel + 1) listed env st := by
  intro st0 w0 a w hn hg hx
  refine ⟨fun k => ?_, fun i hi => ?_⟩
  · rw [hr] at k; rw [k] at hne; cases hne
  · rw [hr] at hi
    obtain ⟨o, K, ho, hgd, hd, hs, hk⟩ := h.at_ i hi
    unfold wpOp
    rw [ho]
    dsimp only
    rw [if_pos (by simp [Region.wanted, hgd])]
    exact .inl (hs a w hg _ _ fun x st' v w' hkx hr' hrel hext => hk x st' hkx st0 w0 _ _ hn (hg.put (dstIn_spec hd) hr' hrel hext) (hx.trans hext hn))
theorem AO_fin {fuel : Nat} {listed : Array Bool} (hr : Region.ready .any ops listed = []) (h : Q .normal env st) : AO P N ops Q fuel listed env st := by
  intro st0 w0 a w hn hg hx
  have hs : Sat N Q st0 w0 .normal a w := ⟨env, st, h, hg, hx⟩
  cases fuel with
  | zero => exact ⟨hr, hs⟩
  | succ fuel => exact ⟨fun _ => hs, fun i hi => by rw [hr] at hi; cases hi⟩
/-- Every order comes to K. -/
theorem AC_ords {id : Nat} {l : List Oper} (K : Env → St → Prop) (hm : P.follows .mixedOrders = true) (h : AO P N l.toArray (fun e env' st' => e = .normal ∧ K env' st') l.toArray.size (Array.replicate l.toArray.size false) env st) (hk : ∀ env' st', K env' st' → Q .normal env' st') : AC P N (.region id l.toArray true) Q env st := by
  refine AC_mono (Q' := fun e env' st' => e = .normal ∧ K env' st') (fun a0 w0 hg => ?_) fun e env' st' ⟨h1, h2⟩ => by rw [h1]; exact hk env' st' h2
  have hn := hg.rel.nodup
  have hdrew : Ext st w0 st { w0 with drawn := w0.drawn + 1 } := ⟨rfl, rfl, rfl, fun _ _ => rfl, Nat.le_refl _, fun _ _ _ => rfl, fun _ _ _ _ _ _ _ _ _ => rfl, fun _ _ _ h => h, fun _ _ _ _ => rfl⟩
  have hrel : Rel st { w0 with drawn := w0.drawn + 1 } := ⟨hn, fun b cs hbm => let ⟨vs, T, k1, k2, k3⟩ := hg.rel.cells b cs hbm; ⟨vs, T, k1, k2, fun i c v hc hv => (k3 i c v hc hv).mono hdrew hn⟩, hg.rel.grow, hg.rel.konst⟩
  refine wp_region_any hm (h st w0 a0 _ hn ⟨hg.size, hg.defers, fun t x hx => ?_, hrel⟩ hdrew)
  obtain ⟨v, hv, hr⟩ := hg.env t x hx
  exact ⟨v, hv, hr.mono hdrew hn⟩
end
end Go.AL

/-
Specs that are read.
Conditions: none; no program is in sight.
-/
set_option linter.unusedVariables false
set_option linter.unusedSimpArgs false
namespace Go.AL
open Go.RowKit Go.NumSpec
def spc0 : Spc := ⟨[], [], [], [], 0, 0, 0⟩
theorem labRd_short (s : List UInt8) (c : Int) : (labRd s c).1.1.length ≤ 33 ∧ (labRd s c).1.2.length ≤ 16 := by
  have h1 := wtextR_short s c (most := 33) (by decide)
  have h2 := wtextR_short (wtextR s c 33).2.1 (wtextR s c 33).2.2 (most := 16) (by decide)
  exact ⟨by show (wtextR s c 33).1.length ≤ 33; omega, by show (wtextR (wtextR s c 33).2.1 (wtextR s c 33).2.2 16).1.length ≤ 16; omega⟩
theorem ctrRd_light (s : List UInt8) (c : Int) : lightC (ctrRd s c).1 = true := by
  have h1 := wtextR_short s c (most := 16) (by decide)
  have h2 := wtextR_short (wtextR s c 16).2.1 (wtextR s c 16).2.2 (most := 33) (by decide)
  have h3 : (((ctrRd s c).1.ports.length : Nat) : Int) ≤ 3 := allR_few (f := numRd 65535) (most := 3) (by decide) _ _
  unfold lightC
  refine decide_eq_true ⟨?_, ?_, by omega⟩
  · show (wtextR s c 16).1.length ≤ 100; omega
  · show (wtextR (wtextR s c 16).2.1 (wtextR s c 16).2.2 33).1.length ≤ 100; omega
theorem allR_all {α : Type} {f : Rd α} {p : α → Prop} (hp : ∀ s c, p (f s c).1) (most : Int) (s : List UInt8) (c : Int) : ∀ x ∈ (allR f most s c).1, p x := takeN_all hp _ _ _
theorem light_inP {s : Spc} (h1 : s.name.length ≤ 100) (h2 : s.labels.length ≤ 10) (h3 : s.init.length ≤ 8) (h4 : s.main.length ≤ 8) (h5 : ∀ x ∈ s.labels, x.1.length ≤ 100 ∧ x.2.length ≤ 100) (h6 : ∀ x ∈ s.init, lightC x = true) (h7 : ∀ x ∈ s.main, lightC x = true) : lightS s = true := by
  unfold lightS
  simp only [Bool.and_eq_true, decide_eq_true_eq, List.all_eq_true]
  exact ⟨⟨⟨h1, h2, h3, h4⟩, fun x hx => by unfold lightL; exact decide_eq_true (h5 x hx)⟩, h6, h7⟩
theorem spcRd_light (s : List UInt8) (c : Int) : lightS (spcRd s c).1 = true := by
  have h1 := wtextR_short s c (most := 16) (by decide)
  have h2 : (((spcRd s c).1.labels.length : Nat) : Int) ≤ 4 := allR_few (f := labRd) (most := 4) (by decide) _ _
  have h3 : (((spcRd s c).1.init.length : Nat) : Int) ≤ 3 := allR_few (f := ctrRd) (most := 3) (by decide) _ _
  have h4 : (((spcRd s c).1.main.length : Nat) : Int) ≤ 4 := allR_few (f := ctrRd) (most := 4) (by decide) _ _
  have h5 : ∀ x ∈ (spcRd s c).1.labels, x.1.length ≤ 33 ∧ x.2.length ≤ 16 := allR_all (f := labRd) labRd_short 4 _ _
  have h6 : ∀ x ∈ (spcRd s c).1.init, lightC x = true := allR_all (f := ctrRd) ctrRd_light 3 _ _
  have h7 : ∀ x ∈ (spcRd s c).1.main, lightC x = true := allR_all (f := ctrRd) ctrRd_light 4 _ _
  refine light_inP ?_ (by omega) (by omega) (by omega) (fun x hx => by have := h5 x hx; omega) h6 h7
  show (wtextR s c 16).1.length ≤ 100; omega
/-- a spec that a reader takes, and how it stands then -/
def takeC (s : List UInt8) (c : Int) : Int := if (spcRd s c).2.2 = 0 then erCode (checkE (spcRd s c).1) else (spcRd s c).2.2
def takeS (s : List UInt8) (c : Int) : Spc := if takeC s c = 0 then (spcRd s c).1 else spc0
abbrev wireN : List UInt8 := [119, 105, 114, 101]
/-- the spec of bytes, or the error -/
def ofE (s : List UInt8) : Er := firstE [erNew (endR (spcRd s 0).2.1 (spcRd s 0).2.2) [wireN], checkE (spcRd s 0).1]
def ofS (s : List UInt8) : Spc := if ofE s = none then (spcRd s 0).1 else spc0
theorem of_some {s : List UInt8} (h : ofE s ≠ none) : ofS s = spc0 := by unfold ofS; rw [if_neg h]
theorem of_none {s : List UInt8} (h : ofE s = none) : ofS s = (spcRd s 0).1 ∧ endR (spcRd s 0).2.1 (spcRd s 0).2.2 = 0 ∧ checkE (spcRd s 0).1 = none := by
  refine ⟨by unfold ofS; rw [if_pos h], ?_, firstE_none h _ (by simp)⟩
  have := firstE_none h (erNew (endR (spcRd s 0).2.1 (spcRd s 0).2.2) [wireN]) (by simp)
  unfold erNew at this
  split at this
  · rename_i h1; exact h1
  · cases this
theorem end_zero {s : List UInt8} {c : Int} (h : endR s c = 0) : s = [] ∧ c = 0 := by
  unfold endR failC at h
  split at h
  · split at h
    · cases h
    · rename_i h1 h2; exact absurd h h2
  · rename_i h1; exact ⟨by simpa using h1, h⟩
/-- there and back -/
theorem of_bytes {s : Spc} (h : checkE s = none) : ofE (spcB s) = none ∧ ofS (spcB s) = s := by
  have h1 := spcC.back s [] (check_ok h)
  rw [List.append_nil] at h1
  have h2 : ofE (spcB s) = none := by unfold ofE; rw [h1]; simp only [endR]; rw [h]; rfl
  exact ⟨h2, by rw [(of_none h2).1, h1]⟩
theorem of_canon {t : List UInt8} (h : ofE t = none) : checkE (ofS t) = none ∧ spcB (ofS t) = t := by
  obtain ⟨h1, h2, h3⟩ := of_none h
  obtain ⟨h4, h5⟩ := end_zero h2
  have h6 := (spcC.canon t h5).1
  rw [h4, List.append_nil] at h6
  rw [h1]; exact ⟨h3, h6.symm⟩
/-- cut short -/
theorem of_cut {s : Spc} (h : checkE s = none) {k : Nat} (hk : k < (spcB s).length) : ofE ((spcB s).take k) = some (40, [wireN]) := by
  have h1 := spcC.cut s ((spcB s).take k) (check_ok h) (List.take_prefix _ _) (by rw [List.length_take]; omega)
  unfold ofE
  rw [h1]
  have : endR (spcRd ((spcB s).take k) 0).2.1 40 = 40 := by unfold endR failC; split <;> rfl
  rw [this]; rfl
theorem of_more {s : Spc} (h : checkE s = none) {t : List UInt8} (ht : t ≠ []) : ofE (spcB s ++ t) = some (3, [wireN]) := by
  have h1 := spcC.back s t (check_ok h)
  unfold ofE
  rw [h1]
  have : endR t 0 = 3 := by unfold endR failC; rw [if_pos ht]; rfl
  rw [this]; rfl
theorem spcB_ne (s : Spc) : spcB s ≠ [] := fun h => by
  have h1 : (textB s.name).length = 0 := by
    have := congrArg List.length h
    unfold spcB at this; simp only [List.length_append, List.length_nil] at this; omega
  have := putL_pos s.name.length
  unfold textB at h1; rw [List.length_append] at h1; omega
theorem of_nil : ofE [] = some (40, [wireN]) := by decide +kernel
theorem ofE_short (s : List UInt8) : ShortE 500 (ofE s) := short_first fun e he => by
  simp only [List.mem_cons, List.not_mem_nil, or_false] at he
  rcases he with rfl | rfl
  · exact short_new (by decide)
  · exact check_short (spcRd_light s 0)
theorem spc0_light : lightS spc0 = true := by decide
theorem ofS_light (s : List UInt8) : lightS (ofS s) = true := by
  unfold ofS
  split
  · exact spcRd_light s 0
  · exact spc0_light
def wC : Ctr := ⟨[97], [98, 58, 49], (0, 0, 0), (0, 0, 0), [], (0, 0)⟩
def wS : Spc := ⟨[119], [], [], [wC], 1, 0, 0⟩
theorem wS_check : checkE wS = none := by decide +kernel
theorem wS_light : lightS wS = true := by decide +kernel
theorem bytes_eq {s : Spc} (h : checkE s = none) : AV.tup [.S (if checkE s = none then spcB s else []), .int .i64 (erCode (checkE s))] = .tup [.S (spcB s), .int .i64 0] := by
  rw [if_pos h, h]; rfl
theorem of_more_cases {s : Spc} (h : checkE s = none) (t : List UInt8) : (t = [] ∧ ofE (spcB s ++ t) = none) ∨ (t ≠ [] ∧ ofE (spcB s ++ t) = some (3, [wireN])) := by
  by_cases ht : t = []
  · subst ht; rw [List.append_nil]; exact .inl ⟨rfl, (of_bytes h).1⟩
  · exact .inr ⟨ht, of_more h ht⟩
theorem light_len {s : Spc} (h : lightS s = true) : s.labels.length ≤ 10 := (light_out h).1.2.1
theorem spcB_len {s : Spc} (h : checkE s = none) : (spcB s).length ≤ 20000 := by
  obtain ⟨h1, h2, h3, h4, h5, h6, h7⟩ := check_ok h
  have a1 := textB_len (s := s.name) (by omega)
  have a2 := listB_len (e := labB) (l := s.labels) (B := 1000) (by have := h2.1; omega) fun x hx => labB_len (by have := (h2.2 x hx).1; omega) (by have := (h2.2 x hx).2; omega)
  have a3 := listB_len (e := ctrB) (l := s.init) (B := 1000) (by have := h3.1; omega) fun x hx => ctrB_len (h3.2 x hx)
  have a4 := listB_len (e := ctrB) (l := s.main) (B := 1000) (by have := h4.1; omega) fun x hx => ctrB_len (h4.2 x hx)
  have a5 := numB_len (n := s.restart) (by omega)
  have a6 := numB_len (n := s.grace) (by omega)
  have a7 := numB_len (n := s.prio) (by omega)
  have b1 := h2.1
  have b2 := h3.1
  have b3 := h4.1
  unfold spcB labsB ctrsB
  simp only [List.length_append]; omega
end Go.AL

/-
What is known of specs, containers and labels that came in: their numbers fit.
Conditions: none; no program is in sight.
-/
set_option linter.unusedVariables false
set_option linter.unusedSimpArgs false
namespace Go.AL
open Go.RowKit Go.NumSpec
def okLab (x : Lab) : Prop := x.1.length ≤ 9223372036854775807 ∧ x.2.length ≤ 9223372036854775807
def okCtr (c : Ctr) : Prop := fits3 c.req ∧ fits3 c.lim ∧ (∀ p ∈ c.ports, fits p) ∧ fits c.probe.1 ∧ fits c.probe.2
def okSpc (s : Spc) : Prop := (∀ c ∈ s.init, okCtr c) ∧ (∀ c ∈ s.main, okCtr c) ∧ fits s.restart ∧ fits s.grace ∧ fits s.prio
end Go.AL

/-
What a row's list of laid variables says of one table of integers, wherever it stands in the list.
Conditions: none; no program is in sight.
-/
set_option linter.unusedVariables false
namespace Go.AL
theorem tabIs_of_mem {P : Program} {W : World} {name : String} {k : IntKind} {zs : List Int} {g : Nat} {t e : TypeId} {n : Nat}
    (hg : P.globalNamed name = some g) (hty : (P.globals[g]?).map (·.type) = some t) (ht : P.underlying t = some (.array n e)) (he : P.underlying e = some (.int k)) (hce : P.cellsOf e = 1) (hct : P.cellsOf t = n) :
    ∀ {l : List (String × DataW Unit)} {ps : List MemPlace}, (name, Lib.tabData k zs) ∈ l → DataW.LaidVars P W l ps → Lib.TabIs P W name k zs
  | [], _, hm, _ => nomatch hm
  | (m, d) :: r, _, hm, h => by
    obtain ⟨g', t', cs, fuel, p, q, hg', ht', hvar, hd, hr, _⟩ := h
    rcases List.mem_cons.1 hm with hm | hm
    · cases hm
      obtain rfl := Option.some.inj (hg.symm.trans hg')
      obtain rfl := Option.some.inj (hty.symm.trans ht')
      unfold Lib.TabIs
      rw [hvar, ← Lib.cells_of_tab ht he hce hct hd]
    · exact tabIs_of_mem hg hty ht he hce hct hm hr
theorem tabIs_of_laid {P : Program} {W : World} {name : String} {k : IntKind} {zs : List Int} {g : Nat} {t e : TypeId} {n : Nat}
    (hg : P.globalNamed name = some g) (hty : (P.globals[g]?).map (·.type) = some t) (ht : P.underlying t = some (.array n e)) (he : P.underlying e = some (.int k)) (hce : P.cellsOf e = 1) (hct : P.cellsOf t = n)
    {l : List (String × DataW Unit)} (hm : (name, Lib.tabData k zs) ∈ l) (h : laidMet P l W) : Lib.TabIs P W name k zs := by
  obtain ⟨ps, h1, _⟩ := h
  exact tabIs_of_mem hg hty ht he hce hct hm h1
end Go.AL
