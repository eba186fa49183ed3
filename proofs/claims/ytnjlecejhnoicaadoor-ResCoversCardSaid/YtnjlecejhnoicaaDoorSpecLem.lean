/-
What a spec's error is: the plain law of chapter 06's checks.
Conditions: none; no program is in sight.
-/
import Derived.Test.YtnjlecejhnoicaaDoorFailLem3
import Derived.Test.YtnjlecejhnoicaaDoorResLem
import Derived.Test.YtnjlecejhnoicaaDoorTextLem
set_option linter.unusedVariables false
set_option linter.unusedSimpArgs false
namespace Go.AL
open Go.RowKit Go.NumSpec
def withinE (name : List UInt8) (n lo hi : Int) : Er := if n < lo ∨ hi < n then some (1, [name]) else none
def atMostE (name : List UInt8) (n lo hi : Int) : Er := if n < lo ∨ hi < n then some (2, [name]) else none
def mostE (name : List UInt8) (n lo : Int) : Er := if n = 0 then none else withinE name n lo 1099511627776
def reqE (r : Int × Int × Int) : Er := erIn (firstE [withinE [99, 112, 117] r.1 0 1099511627776, withinE [109, 101, 109] r.2.1 0 1099511627776, withinE [112, 105, 100, 115] r.2.2 0 1099511627776]) [114, 101, 113]
def limE (l r : Int × Int × Int) : Er := erIn (firstE [mostE [99, 112, 117] l.1 r.1, mostE [109, 101, 109] l.2.1 r.2.1, mostE [112, 105, 100, 115] l.2.2 r.2.2]) [108, 105, 109]
def probeE (p : Int × Int) (every : Int) : Er := erIn (firstE [withinE [101, 118, 101, 114, 121] p.1 0 every, withinE [102, 97, 105, 108, 115] p.2 (if p.1 = 0 then 0 else 1) (if p.1 = 0 then 0 else 10)]) [112, 114, 111, 98, 101]
def atT (name : List UInt8) (i : Int) : List UInt8 := ((name ++ [91]) ++ textL i) ++ [93]
def probeAV (p : Int × Int) : AV := .agg [.int .i64 p.1, .int .i64 p.2]
abbrev Lab := List UInt8 × List UInt8
def labAV (p : Lab) : AV := .agg [.S p.1, .S p.2]
def labsV (l : List Lab) : List AV := l.map labAV
def keyE (l : List Lab) (i : Nat) : Er := if (erNew (saysV (namesR 2 (l.getD i ([], [])).1) 31) [[107, 101, 121]]).isNone = true ∧ 0 < i ∧ (Op.bytesLess (l.getD i ([], [])).1 (l.getD (i - 1) ([], [])).1 || decide ((l.getD i ([], [])).1 = (l.getD (i - 1) ([], [])).1)) = true then some (4, [[107, 101, 121]]) else erNew (saysV (namesR 2 (l.getD i ([], [])).1) 31) [[107, 101, 121]]
def labelE (name : List UInt8) (l : List Lab) (i : Nat) : Er := erIn (firstE [keyE l i, erNew (saysV (valV (l.getD i ([], [])).2) 32) [[118, 97, 108]]]) (atT name (i : Int))
/-- Where a value stands in a list. -/
def idxG {α : Type} [DecidableEq α] : List α → α → Int
  | [], _ => -1
  | x :: l, s => if x = s then 0 else if idxG l s < 0 then -1 else idxG l s + 1
theorem idxG_hit {α : Type} [DecidableEq α] {s : α} : ∀ {l : List α} {i : Nat} (h : i < l.length), l[i] = s → (∀ j (hj : j < i), l[j]'(by omega) ≠ s) → idxG l s = (i : Int)
  | x :: l, 0, h, e, _ => by simp only [List.getElem_cons_zero] at e; rw [idxG, if_pos e]; rfl
  | x :: l, i + 1, h, e, hn => by
    have h0 := hn 0 (by omega)
    simp only [List.getElem_cons_zero] at h0
    have ih := idxG_hit (l := l) (i := i) (by simpa using h) (by simpa using e) fun j hj => by simpa using hn (j + 1) (by omega)
    rw [idxG, if_neg h0, ih, if_neg (by omega)]
    omega
theorem idxG_none {α : Type} [DecidableEq α] {s : α} : ∀ {l : List α}, (∀ j (hj : j < l.length), l[j] ≠ s) → idxG l s = -1
  | [], _ => rfl
  | x :: l, hn => by
    have h0 := hn 0 (by simp)
    simp only [List.getElem_cons_zero] at h0
    have ih := idxG_none (l := l) fun j hj => by have := hn (j + 1) (by simpa using hj); rw [List.getElem_cons_succ] at this; exact this
    rw [idxG, if_neg h0, ih, if_pos (by omega)]
theorem idxG_mem {α : Type} [DecidableEq α] (s : α) : ∀ (l : List α), (0 ≤ idxG l s) ↔ s ∈ l
  | [] => by simp [idxG]
  | x :: l => by
    have ih := idxG_mem s l
    rw [idxG]
    by_cases h : x = s
    · simp [h]
    · rw [if_neg h]
      have h' : ¬ s = x := fun e => h e.symm
      by_cases hl : idxG l s < 0
      · rw [if_pos hl]
        have : ¬ s ∈ l := fun hm => by have := ih.2 hm; omega
        simp [h', this]
      · rw [if_neg hl]
        have : s ∈ l := ih.1 (by omega)
        simp [this]
        omega
end Go.AL
