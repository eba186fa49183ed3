/-
What the walks of layer 14 come to, as plain equations: resources as triples of numbers.
Conditions: none; no program is in sight.
-/
import Derived.Test.YtnjlecejhnoicaaDoorAlAgg
import Derived.Test.YtnjlecejhnoicaaDoorNumLem
import Derived.Test.YtnjlecejhnoicaaDoorAlApp
set_option linter.unusedVariables false
set_option linter.unusedSimpArgs false
namespace Go.AL
open Go.NumSpec

abbrev Tri := Int × Int × Int
abbrev resL (r : Tri) : List AV := [.int .i64 r.1, .int .i64 r.2.1, .int .i64 r.2.2]
abbrev resAV (r : Tri) : AV := .agg (resL r)
def fits3 (r : Tri) : Prop := fits r.1 ∧ fits r.2.1 ∧ fits r.2.2
instance (r : Tri) : Decidable (fits3 r) := by unfold fits3; infer_instance
abbrev okR (p : Tri × Bool) : AV := .tup [resAV p.1, .bool p.2]

def at3 (r : Tri) (k : Nat) : Int := if k = 0 then r.1 else if k = 1 then r.2.1 else r.2.2
def set3 (r : Tri) (k : Nat) (v : Int) : Tri := if k = 0 then (v, r.2) else if k = 1 then (r.1, v, r.2.2) else (r.1, r.2.1, v)
theorem res_at {r : Tri} {k : Nat} (h : k < 3) : (resL r)[0 + (k : Int).toNat * 1]? = some (.int .i64 (at3 r k)) := by
  rcases (by omega : k = 0 ∨ k = 1 ∨ k = 2) with rfl | rfl | rfl <;> rfl
theorem res_set {r : Tri} {k : Nat} {v : Int} (h : k < 3) : (resL r).set (0 + (k : Int).toNat * 1) (.int .i64 v) = resL (set3 r k v) := by
  rcases (by omega : k = 0 ∨ k = 1 ∨ k = 2) with rfl | rfl | rfl <;> rfl
theorem at3_fits {r : Tri} (h : fits3 r) (k : Nat) : fits (at3 r k) := by
  unfold at3; split
  · exact h.1
  · split
    · exact h.2.1
    · exact h.2.2

/-- The first k numbers are done. -/
def mixK (f : Int → Int → Int) (a b : Tri) (k : Nat) : Tri := (if 0 < k then f a.1 b.1 else a.1, if 1 < k then f a.2.1 b.2.1 else a.2.1, if 2 < k then f a.2.2 b.2.2 else a.2.2)
theorem mix_zero (f : Int → Int → Int) (a b : Tri) : mixK f a b 0 = a := rfl
theorem mix_at {f : Int → Int → Int} {a b : Tri} {k : Nat} (h : k < 3) : at3 (mixK f a b k) k = at3 a k := by
  rcases (by omega : k = 0 ∨ k = 1 ∨ k = 2) with rfl | rfl | rfl <;> rfl
theorem mix_set {f : Int → Int → Int} {a b : Tri} {k : Nat} {v : Int} (h : k < 3) (hv : v = f (at3 a k) (at3 b k)) : set3 (mixK f a b k) k v = mixK f a b (k + 1) := by
  subst hv
  rcases (by omega : k = 0 ∨ k = 1 ∨ k = 2) with rfl | rfl | rfl <;> rfl
theorem mix_end {f : Int → Int → Int} {a b : Tri} {k : Nat} (h : ¬ k < 3) (h3 : k ≤ 3) : mixK f a b k = (f a.1 b.1, f a.2.1 b.2.1, f a.2.2 b.2.2) := by
  have : k = 3 := by omega
  subst this; rfl
theorem mix_fits {f : Int → Int → Int} {a b : Tri} (ha : fits3 a) (hb : fits3 b) {k : Nat} (h : ∀ j, j < k → fits (f (at3 a j) (at3 b j))) : fits3 (mixK f a b k) := by
  unfold mixK
  refine ⟨?_, ?_, ?_⟩
  · dsimp only; split
    · rename_i h0; exact h 0 h0
    · exact ha.1
  · dsimp only; split
    · rename_i h0; exact h 1 h0
    · exact ha.2.1
  · dsimp only; split
    · rename_i h0; exact h 2 h0
    · exact ha.2.2
theorem all3 {p : Int → Int → Prop} {a b : Tri} {k : Nat} (hk : ¬ k < 3) (h : ∀ j, j < k → p (at3 a j) (at3 b j)) : p a.1 b.1 ∧ p a.2.1 b.2.1 ∧ p a.2.2 b.2.2 :=
  ⟨h 0 (by omega), h 1 (by omega), h 2 (by omega)⟩
theorem not3 {p : Int → Int → Prop} {a b : Tri} {k : Nat} (hk : k < 3) (h : ¬ p (at3 a k) (at3 b k)) : ¬ (p a.1 b.1 ∧ p a.2.1 b.2.1 ∧ p a.2.2 b.2.2) := fun ⟨h1, h2, h3⟩ => h (by
  rcases (by omega : k = 0 ∨ k = 1 ∨ k = 2) with rfl | rfl | rfl
  · exact h1
  · exact h2
  · exact h3)

def addR (a b : Tri) : Tri × Bool := if fits (a.1 + b.1) ∧ fits (a.2.1 + b.2.1) ∧ fits (a.2.2 + b.2.2) then ((a.1 + b.1, a.2.1 + b.2.1, a.2.2 + b.2.2), true) else ((0, 0, 0), false)
theorem addR_yes {a b : Tri} (h : fits (a.1 + b.1) ∧ fits (a.2.1 + b.2.1) ∧ fits (a.2.2 + b.2.2)) {x : Tri} (hx : x = (a.1 + b.1, a.2.1 + b.2.1, a.2.2 + b.2.2)) : AV.tup [resAV x, .bool true] = okR (addR a b) := by
  rw [addR, if_pos h, hx]
theorem addR_no {a b : Tri} (h : ¬ (fits (a.1 + b.1) ∧ fits (a.2.1 + b.2.1) ∧ fits (a.2.2 + b.2.2))) : AV.tup [resAV (0, 0, 0), .bool false] = okR (addR a b) := by
  rw [addR, if_neg h]
theorem addR_fits (a b : Tri) : fits3 (addR a b).1 := by
  unfold addR; split
  · rename_i h; exact h
  · decide

/-- What is left. -/
def subV (a b : Int) : Int × Bool := if b ≤ a ∧ fits (a - b) then (a - b, true) else (0, false)
theorem sub_no {a b : Int} (h : ¬ (b ≤ a ∧ fits (a - b))) : AV.tup [.int .i64 0, .bool false] = okAV (subV a b) := by rw [subV, if_neg h]
theorem sub_yes {a b x : Int} (h : b ≤ a ∧ fits (a - b)) (hx : x = a - b) : AV.tup [.int .i64 x, .bool true] = okAV (subV a b) := by rw [subV, if_pos h, hx]
theorem subV_fits (a b : Int) : fits (subV a b).1 := by
  unfold subV; split
  · rename_i h; exact h.2
  · decide
theorem subV_ok {a b : Int} (h : (subV a b).2 = true) : subV a b = (a - b, true) ∧ b ≤ a ∧ fits (a - b) := by
  unfold subV at *; split at h
  · rename_i hc; rw [if_pos hc]; exact ⟨rfl, hc⟩
  · cases h
theorem subV_bad {a b : Int} (h : (subV a b).2 = false) : subV a b = (0, false) ∧ ¬ (b ≤ a ∧ fits (a - b)) := by
  unfold subV at *; split at h
  · cases h
  · rename_i hc; rw [if_neg hc]; exact ⟨rfl, hc⟩
def subR (a b : Tri) : Tri × Bool := if (b.1 ≤ a.1 ∧ fits (a.1 - b.1)) ∧ (b.2.1 ≤ a.2.1 ∧ fits (a.2.1 - b.2.1)) ∧ (b.2.2 ≤ a.2.2 ∧ fits (a.2.2 - b.2.2)) then ((a.1 - b.1, a.2.1 - b.2.1, a.2.2 - b.2.2), true) else ((0, 0, 0), false)
theorem subR_yes {a b : Tri} (h : (b.1 ≤ a.1 ∧ fits (a.1 - b.1)) ∧ (b.2.1 ≤ a.2.1 ∧ fits (a.2.1 - b.2.1)) ∧ (b.2.2 ≤ a.2.2 ∧ fits (a.2.2 - b.2.2))) {x : Tri} (hx : x = (a.1 - b.1, a.2.1 - b.2.1, a.2.2 - b.2.2)) : AV.tup [resAV x, .bool true] = okR (subR a b) := by
  rw [subR, if_pos h, hx]
theorem subR_no {a b : Tri} (h : ¬ ((b.1 ≤ a.1 ∧ fits (a.1 - b.1)) ∧ (b.2.1 ≤ a.2.1 ∧ fits (a.2.1 - b.2.1)) ∧ (b.2.2 ≤ a.2.2 ∧ fits (a.2.2 - b.2.2)))) : AV.tup [resAV (0, 0, 0), .bool false] = okR (subR a b) := by
  rw [subR, if_neg h]
theorem subR_fits (a b : Tri) : fits3 (subR a b).1 := by
  unfold subR; split
  · rename_i h; exact ⟨h.1.2, h.2.1.2, h.2.2.2⟩
  · decide
/-- By how much one is above. -/
def overV (a b : Int) : Int := if (subV a b).2 = false ∧ b < a then 9223372036854775807 else (subV a b).1
theorem overV_fits (a b : Int) : fits (overV a b) := by
  unfold overV; split
  · decide
  · exact subV_fits a b
def overR (a b : Tri) : Tri := (overV a.1 b.1, overV a.2.1 b.2.1, overV a.2.2 b.2.2)
def maxR (a b : Tri) : Tri := (max a.1 b.1, max a.2.1 b.2.1, max a.2.2 b.2.2)
theorem max_fits {a b : Int} (ha : fits a) (hb : fits b) : fits (max a b) := by unfold fits at *; omega
theorem maxR_fits {a b : Tri} (ha : fits3 a) (hb : fits3 b) : fits3 (maxR a b) := ⟨max_fits ha.1 hb.1, max_fits ha.2.1 hb.2.1, max_fits ha.2.2 hb.2.2⟩
def fitsR (a b : Tri) : Bool := decide (a.1 ≤ b.1 ∧ a.2.1 ≤ b.2.1 ∧ a.2.2 ≤ b.2.2)
def textR (a : Tri) : List UInt8 := textL a.1 ++ [47] ++ textL a.2.1 ++ [47] ++ textL a.2.2
theorem and3 {p q r : Prop} [Decidable p] [Decidable q] [Decidable r] : (decide p && (decide q && (decide r && true))) = decide (p ∧ q ∧ r) := by simp
theorem and3' {p q r : Prop} [Decidable p] [Decidable q] [Decidable r] : (decide p && decide q && decide r) = decide (p ∧ q ∧ r) := by simp [Bool.and_assoc]
theorem max_le {a b : Int} : max a b = b ↔ a ≤ b := by omega
theorem eq3 {a b : Tri} : (a.1 = b.1 ∧ a.2.1 = b.2.1 ∧ a.2.2 = b.2.2) ↔ a = b := by
  obtain ⟨a1, a2, a3⟩ := a
  obtain ⟨b1, b2, b3⟩ := b
  simp

/-- A sum from a start on. -/
def sumR (s : Tri) : List Tri → Tri × Bool
  | [] => (s, true)
  | r :: l => if (addR s r).2 then sumR (addR s r).1 l else ((0, 0, 0), false)
def ress (l : List Tri) : List AV := l.map resAV
theorem ress_at {l : List Tri} {k : Nat} (h : k < l.length) : (ress l)[k]? = some (resAV l[k]) := by simp [ress, h]
theorem sum_step {s : Tri} {l : List Tri} {k : Nat} (h : k < l.length) (hk : (addR s l[k]).2 = true) : sumR s (l.drop k) = sumR (addR s l[k]).1 (l.drop (k + 1)) := by
  rw [List.drop_eq_getElem_cons h, sumR, if_pos hk]
theorem sum_bad {s : Tri} {l : List Tri} {k : Nat} (h : k < l.length) (hk : (addR s l[k]).2 = false) : sumR s (l.drop k) = ((0, 0, 0), false) := by
  rw [List.drop_eq_getElem_cons h, sumR, if_neg (by simp [hk])]
theorem sum_end {s : Tri} {l : List Tri} {k : Nat} (h : ¬ k < l.length) : sumR s (l.drop k) = (s, true) := by
  rw [List.drop_eq_nil_of_le (by omega)]; rfl
theorem sumR_fits : ∀ (l : List Tri) (s : Tri), fits3 s → fits3 (sumR s l).1
  | [], s, h => h
  | r :: l, s, h => by
    rw [sumR]; split
    · exact sumR_fits l _ (addR_fits s r)
    · decide

/-- From 0 to 2^55. -/
def smallR (a : Tri) : Bool := decide (0 ≤ a.1) && decide (a.1 ≤ 36028797018963968) && decide (0 ≤ a.2.1) && decide (a.2.1 ≤ 36028797018963968) && decide (0 ≤ a.2.2) && decide (a.2.2 ≤ 36028797018963968)
def belowV (x n : Int) : Int := if x.tmod n < 0 then x.tmod n + n else x.tmod n
theorem tmod_lt {x n : Int} (hn : 0 < n) : -n < x.tmod n ∧ x.tmod n < n := by
  have h1 := Int.natAbs_tmod x n
  have h2 : x.natAbs % n.natAbs < n.natAbs := Nat.mod_lt _ (by omega)
  omega
theorem below_in {x n : Int} (hn : 0 < n) : 0 ≤ belowV x n ∧ belowV x n < n := by
  have := tmod_lt (x := x) hn
  unfold belowV; split <;> omega
theorem res_works : textR (addR (1, 2, 3) (4, 5, 6)).1 = [53, 47, 55, 47, 57] := by
  have e : (addR (1, 2, 3) (4, 5, 6)).1 = (5, 7, 9) := by decide
  rw [e]
  simp [textR, textL, digL]
theorem res_works2 : addR (1, 2, 3) (4, 5, 6) = ((5, 7, 9), true) := by decide
theorem res_works3 : subR (1, 0, 0) (2, 0, 0) = ((0, 0, 0), false) := by decide

/-! Sums in any order -/
def tot : List Tri → Tri
  | [] => (0, 0, 0)
  | r :: l => (r.1 + (tot l).1, r.2.1 + (tot l).2.1, r.2.2 + (tot l).2.2)
def inK (K : Int) (r : Tri) : Prop := (0 ≤ r.1 ∧ r.1 ≤ K) ∧ (0 ≤ r.2.1 ∧ r.2.1 ≤ K) ∧ (0 ≤ r.2.2 ∧ r.2.2 ≤ K)
theorem small_in {r : Tri} (h : smallR r = true) : inK 36028797018963968 r := by
  simp only [smallR, Bool.and_eq_true, decide_eq_true_eq] at h
  obtain ⟨⟨⟨⟨⟨h1, h2⟩, h3⟩, h4⟩, h5⟩, h6⟩ := h
  exact ⟨⟨h1, h2⟩, ⟨h3, h4⟩, ⟨h5, h6⟩⟩
theorem sum_tot : ∀ (l : List Tri) (s : Tri) (K : Int), inK K s → (∀ r ∈ l, inK 36028797018963968 r) → K + l.length * 36028797018963968 ≤ 9223372036854775807 → sumR s l = ((s.1 + (tot l).1, s.2.1 + (tot l).2.1, s.2.2 + (tot l).2.2), true)
  | [], s, K, hs, _, _ => by simp [sumR, tot]
  | r :: l, s, K, hs, hl, hK => by
    have hr := hl r List.mem_cons_self
    obtain ⟨⟨a1, a2⟩, ⟨a3, a4⟩, ⟨a5, a6⟩⟩ := hs
    obtain ⟨⟨b1, b2⟩, ⟨b3, b4⟩, ⟨b5, b6⟩⟩ := hr
    simp only [List.length_cons] at hK
    have e : addR s r = ((s.1 + r.1, s.2.1 + r.2.1, s.2.2 + r.2.2), true) := by
      rw [addR, if_pos]
      unfold fits
      refine ⟨⟨?_, ?_⟩, ⟨?_, ?_⟩, ⟨?_, ?_⟩⟩ <;> omega
    rw [sumR, e]
    simp only [if_true]
    rw [sum_tot l _ (K + 36028797018963968) ⟨⟨by dsimp only; omega, by dsimp only; omega⟩, ⟨by dsimp only; omega, by dsimp only; omega⟩, ⟨by dsimp only; omega, by dsimp only; omega⟩⟩ (fun x hx => hl x (List.mem_cons_of_mem _ hx)) (by omega)]
    simp only [tot, Int.add_assoc]
theorem sum_small {l : List Tri} (h : ∀ r ∈ l, smallR r = true) (hl : l.length ≤ 100) : sumR (0, 0, 0) l = (tot l, true) := by
  have := sum_tot l (0, 0, 0) 0 ⟨⟨by decide, by decide⟩, ⟨by decide, by decide⟩, ⟨by decide, by decide⟩⟩ (fun r hr => small_in (h r hr)) (by omega)
  rw [this]
  simp
theorem tot_append (a b : List Tri) : tot (a ++ b) = ((tot a).1 + (tot b).1, (tot a).2.1 + (tot b).2.1, (tot a).2.2 + (tot b).2.2) := by
  induction a with
  | nil => simp [tot]
  | cons r a ih => simp only [List.cons_append, tot, ih, Int.add_assoc]
theorem tot_reverse (l : List Tri) : tot l.reverse = tot l := by
  induction l with
  | nil => rfl
  | cons r l ih =>
    rw [List.reverse_cons, tot_append, ih]
    simp only [tot]
    simp [Int.add_comm]
theorem tot_in {l : List Tri} (h : ∀ r ∈ l, smallR r = true) : (0 ≤ (tot l).1 ∧ (tot l).1 ≤ l.length * 36028797018963968) ∧ (0 ≤ (tot l).2.1 ∧ (tot l).2.1 ≤ l.length * 36028797018963968) ∧ (0 ≤ (tot l).2.2 ∧ (tot l).2.2 ≤ l.length * 36028797018963968) := by
  induction l with
  | nil => simp [tot]
  | cons r l ih =>
    obtain ⟨⟨a1, a2⟩, ⟨a3, a4⟩, ⟨a5, a6⟩⟩ := ih fun x hx => h x (List.mem_cons_of_mem _ hx)
    obtain ⟨⟨b1, b2⟩, ⟨b3, b4⟩, ⟨b5, b6⟩⟩ := small_in (h r List.mem_cons_self)
    simp only [tot, List.length_cons]
    refine ⟨⟨?_, ?_⟩, ⟨?_, ?_⟩, ⟨?_, ?_⟩⟩ <;> omega
theorem ress_len {l : List Tri} : ∀ x, x ∈ ress l → x.cells.length = 3 := fun x hx => by
  obtain ⟨r, _, rfl⟩ := List.mem_map.1 hx
  rfl
theorem ress_turn {l : List Tri} {i : Nat} (hi : i < l.length) : ress (l.drop i).reverse = ress (l.drop (i + 1)).reverse ++ [resAV l[i]] := by
  rw [List.drop_eq_getElem_cons hi, List.reverse_cons]
  simp [ress]
theorem ress_count {l : List Tri} : (ress l).length = l.length := by simp [ress]
theorem turns_all {l : List Tri} {k : Nat} (h : ∀ r ∈ l, smallR r = true) (hl : l.length ≤ 100) (hk : k < l.length) {a b x y : Tri × Bool} (ha : a = sumR (0, 0, 0) l) (hb : b = sumR (0, 0, 0) l.reverse) (hx : x = sumR (0, 0, 0) (l.take k)) (hy : y = sumR (0, 0, 0) (l.drop k)) :
    a = (tot l, true) ∧ b = (tot l, true) ∧ x = (tot (l.take k), true) ∧ y = (tot (l.drop k), true) ∧ addR (tot (l.take k)) (tot (l.drop k)) = (tot l, true) ∧ subR (tot l) (tot (l.drop k)) = (tot (l.take k), true) ∧ fitsR (tot (l.take k)) (tot l) = true := by
  have h1 : ∀ r ∈ l.take k, smallR r = true := fun r hr => h r (List.mem_of_mem_take hr)
  have h2 : ∀ r ∈ l.drop k, smallR r = true := fun r hr => h r (List.mem_of_mem_drop hr)
  have l1 : (l.take k).length ≤ 100 := by simp; omega
  have l2 : (l.drop k).length ≤ 100 := by simp; omega
  have e := tot_append (l.take k) (l.drop k)
  rw [List.take_append_drop] at e
  obtain ⟨⟨a1, a2⟩, ⟨a3, a4⟩, ⟨a5, a6⟩⟩ := tot_in h1
  obtain ⟨⟨b1, b2⟩, ⟨b3, b4⟩, ⟨b5, b6⟩⟩ := tot_in h2
  refine ⟨by rw [ha, sum_small h hl], by rw [hb, sum_small (fun r hr => h r (List.mem_reverse.1 hr)) (by simpa using hl), tot_reverse], by rw [hx, sum_small h1 l1], by rw [hy, sum_small h2 l2], ?_, ?_, ?_⟩
  · rw [addR, if_pos, e]
    unfold fits
    refine ⟨⟨?_, ?_⟩, ⟨?_, ?_⟩, ⟨?_, ?_⟩⟩ <;> omega
  · rw [e, subR, if_pos]
    · simp only [Int.add_sub_cancel]
    · unfold fits
      dsimp only
      refine ⟨⟨?_, ?_, ?_⟩, ⟨?_, ?_, ?_⟩, ⟨?_, ?_, ?_⟩⟩ <;> omega
  · rw [e, fitsR, decide_eq_true_eq]
    dsimp only
    omega

end Go.AL
