/-
The walks of Go functions in the logic AL: what each of them answers.
Conditions: those of each theorem.
-/
import Derived.Test.YtnjlecejhnoicaaDoorCov14a
import Derived.Test.YtnjlecejhnoicaaDoorTextLem
import Derived.Test.YtnjlecejhnoicaaDoorAlRow
set_option linter.unusedVariables false
set_option linter.unusedSimpArgs false
namespace Go.Proofs.YtnjlecejhnoicaaDoor
open Go.AL Go.NumSpec

def tabs : List (Nat × List Value) := [(0, marksV)]

set_option maxRecDepth 100000 in
/-- internal/stringslite.IndexByte -/
theorem lite_IndexByte_ok (s : List UInt8) (c : UInt8) : PCalls Tryd.prog 56 [.S s, .int .u8 (c.toNat : Int)] (.int .i64 (idxV s c)) := by
  intro st
  refine ACalls_of (N := 8) Tryd.func56 (by kernel_rfl) rfl rfl rfl ?_
  refine AC_seq ?_
  refine AC_region ?_
  refine AL_p rfl rfl (S_assign rfl (AEv.const _)) ?_
  refine AL_nil ?_
  refine AC_seq ?_
  refine AC_region ?_
  refine AL_p rfl rfl (S_move rfl (AEv.tmp rfl)) ?_
  refine AL_p rfl rfl (S_move rfl (AEv.tmp rfl)) ?_
  refine AL_p rfl rfl (S_indexByte (s := s) (c := c) rfl (AEv.tmp rfl) (AEv.tmp rfl) Tryd.func60 (by kernel_rfl) (by kernel_rfl) (by kernel_rfl) (by kernel_rfl)) ?_
  refine AL_p rfl rfl (S_assign rfl (AEv.tmp rfl)) ?_
  refine AL_nil ?_
  refine AC_ret ?_
  refine ret_tmp st rfl rfl (Sub.l (List.Sublist.refl _)) (Conv.refl (Sub.l (List.Sublist.refl _)) _) ⟨by first | rfl | (simp; done), rfl⟩ (.inl rfl)

set_option maxRecDepth 100000 in
/-- internal/stringslite.Index -/
theorem lite_Index_ok (s : List UInt8) (c : UInt8) : PCalls Tryd.prog 55 [.S s, .S [c]] (.int .i64 (idxV s c)) := by
  intro st
  refine ACalls_of (N := 143) Tryd.func55 (by kernel_rfl) rfl rfl rfl ?_
  refine AC_seq ?_
  refine AC_region ?_
  refine AL_p rfl rfl (S_assign rfl (AEv.const _)) ?_
  refine AL_nil ?_
  refine AC_seq ?_
  refine AC_region ?_
  refine AL_p rfl rfl (S_move rfl (AEv.tmp rfl)) ?_
  refine AL_p rfl rfl (S_lenS (ts := #[]) rfl (AEv.tmp rfl) (by kernel_rfl)) ?_
  refine AL_p rfl rfl (S_assign rfl (AEv.tmp rfl)) ?_
  refine AL_nil ?_
  refine AC_seq ?_
  refine AC_block ?_
  refine AC_seq ?_
  refine AC_region ?_
  refine AL_p rfl rfl (S_move rfl (AEv.tmp rfl)) ?_
  refine AL_p rfl rfl (S_eql rfl (AEv.tmp rfl) (AEv.const _)) ?_
  refine AL_p rfl rfl (S_move rfl (AEv.tmp rfl)) ?_
  refine AL_g rfl rfl (AEv.tmp rfl) rfl (fun hg1 => S_move rfl (AEv.tmp rfl)) ?_
  refine AL_g rfl rfl (AEv.tmp rfl) rfl (fun hg4 => S_move rfl (AEv.tmp rfl)) ?_
  refine AL_g rfl rfl (AEv.tmp rfl) rfl (fun hg7 => S_eqS rfl (AEv.cond (AEv.tmp rfl) (by first | assumption | exact gdAnd (by assumption) (by assumption))) (AEv.cond (AEv.tmp rfl) (by first | assumption | exact gdAnd (by assumption) (by assumption)))) ?_
  refine AL_p rfl rfl (S_or rfl (AEv.tmp rfl) (fun hp10 => (AEv.cond (AEv.tmp rfl) (by first | assumption | exact gdT hp10 | exact gdF hp10 | exact gdAnd (by assumption) (gdT hp10) | exact gdAnd (by assumption) (gdF hp10))))) ?_
  refine AL_p rfl rfl (S_assign rfl (AEv.tmp rfl)) ?_
  refine AL_nil ?_
  refine AC_cond (AEv.tmp rfl) (fun hb11 => ?_) (fun hb11 => ?_)
  · try simp only [Bool.and_eq_true, Bool.or_eq_true, Bool.not_eq_true', Bool.not_eq_false', Bool.and_eq_false_iff, Bool.or_eq_false_iff, decide_eq_true_eq, decide_eq_false_iff_not, gd] at hb11
    have hs : s = [c] := by
      have : [c] = s := by simpa using hb11
      exact this.symm
    subst hs
    refine AC_seq ?_
    refine AC_region ?_
    refine AL_p rfl rfl (S_assign rfl (AEv.const _)) ?_
    refine AL_nil ?_
    refine AC_ret ?_
    refine ret_tmp st rfl rfl (Sub.l (List.Sublist.refl _)) (Conv.refl (Sub.l (List.Sublist.refl _)) _) ⟨by simp [idxV], rfl⟩ (.inl rfl)
  · try simp only [Bool.and_eq_true, Bool.or_eq_true, Bool.not_eq_true', Bool.not_eq_false', Bool.and_eq_false_iff, Bool.or_eq_false_iff, decide_eq_true_eq, decide_eq_false_iff_not, gd] at hb11
    refine AC_seq ?_
    refine AC_region ?_
    refine AL_p rfl rfl (S_move rfl (AEv.tmp rfl)) ?_
    refine AL_p rfl rfl (S_eql rfl (AEv.tmp rfl) (AEv.const _)) ?_
    refine AL_p rfl rfl (S_assign rfl (AEv.tmp rfl)) ?_
    refine AL_nil ?_
    refine AC_cond (AEv.tmp rfl) (fun hb12 => ?_) (fun hb12 => ?_)
    · try simp only [Bool.and_eq_true, Bool.or_eq_true, Bool.not_eq_true', Bool.not_eq_false', Bool.and_eq_false_iff, Bool.or_eq_false_iff, decide_eq_true_eq, decide_eq_false_iff_not, gd] at hb12
      refine AC_seq ?_
      refine AC_region ?_
      refine AL_p rfl rfl (S_move rfl (AEv.tmp rfl)) ?_
      refine AL_p rfl rfl (S_move rfl (AEv.tmp rfl)) ?_
      refine AL_p rfl rfl (S_index rfl (AEv.tmp rfl) (AEv.const _) (by kernel_rfl) (by omega) (by omega)) ?_
      refine AL_p rfl rfl (S_pcall rfl (AEvs.cons (AEv.tmp rfl) (AEvs.cons (y := .int .u8 (c.toNat : Int)) (AEv.tmp rfl) AEvs.nil)) (lite_IndexByte_ok s c)) ?_
      refine AL_p rfl rfl (S_assign rfl (AEv.tmp rfl)) ?_
      refine AL_nil ?_
      refine AC_ret ?_
      refine ret_tmp st rfl rfl (Sub.l (List.Sublist.refl _)) (Conv.refl (Sub.l (List.Sublist.refl _)) _) ⟨rfl, rfl⟩ (.inl rfl)
    · simp at hb12; done

set_option maxRecDepth 100000 in
/-- internal/stringslite.Cut -/
theorem lite_Cut_ok (s : List UInt8) (c : UInt8) (hs : s.length ≤ 9223372036854775806) : PCalls Tryd.prog 54 [.S s, .S [c]] (.tup [.S (cutV c s).1, .S (cutV c s).2.1, .bool (cutV c s).2.2]) := by
  intro st
  refine ACalls_of (N := 23) Tryd.func54 (by kernel_rfl) rfl rfl rfl ?_
  have hi : idxV s c = if c ∈ s then ((s.takeWhile (fun x => x != c)).length : Int) else -1 := rfl
  have hone : ([c] : List UInt8).length = 1 := rfl
  refine AC_seq ?_
  refine AC_region ?_
  refine AL_p rfl rfl (S_assign rfl (AEv.S _)) ?_
  refine AL_p rfl rfl (S_assign rfl (AEv.S _)) ?_
  refine AL_p rfl rfl (S_assign rfl (AEv.const _)) ?_
  refine AL_nil ?_
  refine AC_seq ?_
  refine AC_seq ?_
  refine AC_region ?_
  refine AL_p rfl rfl (S_move rfl (AEv.tmp rfl)) ?_
  refine AL_p rfl rfl (S_move rfl (AEv.tmp rfl)) ?_
  refine AL_p rfl rfl (S_pcall rfl (AEvs.cons (AEv.tmp rfl) (AEvs.cons (AEv.tmp rfl) AEvs.nil)) (lite_Index_ok s c)) ?_
  refine AL_p rfl rfl (S_assign rfl (AEv.tmp rfl)) ?_
  refine AL_nil ?_
  refine AC_seq ?_
  refine AC_region ?_
  refine AL_p rfl rfl (S_move rfl (AEv.tmp rfl)) ?_
  refine AL_p rfl rfl (S_geq rfl (AEv.tmp rfl) (AEv.const _)) ?_
  refine AL_nil ?_
  refine AC_cond (AEv.tmp rfl) (fun hb1 => ?_) (fun hb1 => ?_)
  · try simp only [Bool.and_eq_true, Bool.or_eq_true, Bool.not_eq_true', Bool.not_eq_false', Bool.and_eq_false_iff, Bool.or_eq_false_iff, decide_eq_true_eq, decide_eq_false_iff_not, gd] at hb1
    have hm : c ∈ s := Decidable.byContradiction fun h => by rw [if_neg h] at hi; omega
    rw [if_pos hm] at hi
    have hlt := (tw_lt hm).1
    have hcv : cutV c s = (s.takeWhile (fun x => x != c), s.drop ((s.takeWhile (fun x => x != c)).length + 1), true) := by rw [cutV, if_pos hm]
    rw [hcv]
    refine AC_seq ?_
    refine AC_draw (by kernel_rfl) (by kernel_rfl) (.cons rfl (Q_p rfl (S_move rfl (AEv.tmp rfl))) <|
        .cons rfl (Q_p rfl (S_move rfl (AEv.tmp rfl))) <|
        .cons rfl (Q_p rfl (S_sliceH rfl (AEv.tmp rfl) (AEv.tmp rfl) (by kernel_rfl) (by omega) (by omega))) <|
        .cons rfl (Q_p rfl (S_move rfl (AEv.tmp rfl))) <|
        .cons rfl (Q_p rfl (S_move rfl (AEv.tmp rfl))) <|
        .cons rfl (Q_p rfl (S_move rfl (AEv.tmp rfl))) <|
        .cons rfl (Q_p rfl (S_lenS (ts := #[]) rfl (AEv.tmp rfl) (by kernel_rfl))) <|
        .cons rfl (Q_p rfl (S_addI rfl (AEv.tmp rfl) (AEv.tmp rfl) (by omega) (by omega))) <|
        .cons rfl (Q_p rfl (S_sliceL rfl (AEv.tmp rfl) (AEv.tmp rfl) (by kernel_rfl) (by omega) (by omega))) <|
        .cons rfl (Q_p rfl (S_assign rfl (AEv.tmp rfl))) <|
        .cons rfl (Q_p rfl (S_assign rfl (AEv.tmp rfl))) <|
        .cons rfl (Q_p rfl (S_assign rfl (AEv.const _))) <|
        .nil) ?_
    refine AC_ret ?_
    refine ret_tmps (ts := [4, 5, 6]) st rfl (by decide) rfl (Sub.l (List.Sublist.refl _)) (Conv.refl (Sub.l (List.Sublist.refl _)) _) ⟨(show AV.tup [.S (s.take (idxV s c).toNat), .S (s.drop (idxV s c + (([c] : List UInt8).length : Int)).toNat), .bool true] = _ from by rw [hi]; simp only [List.length_singleton, Int.toNat_natCast]; rw [tw_take, show ((List.takeWhile (fun x => x != c) s).length : Int) + ((1 : Nat) : Int) = (((List.takeWhile (fun x => x != c) s).length + 1 : Nat) : Int) by omega, Int.toNat_natCast]), rfl⟩ (.inl rfl)
  · try simp only [Bool.and_eq_true, Bool.or_eq_true, Bool.not_eq_true', Bool.not_eq_false', Bool.and_eq_false_iff, Bool.or_eq_false_iff, decide_eq_true_eq, decide_eq_false_iff_not, gd] at hb1
    have hm : c ∉ s := fun h => by rw [if_pos h] at hi; omega
    have hcv : cutV c s = (s, [], false) := by rw [cutV, if_neg hm]
    rw [hcv]
    refine AC_skip ?_
    refine AC_seq ?_
    refine AC_region ?_
    refine AL_p rfl rfl (S_move rfl (AEv.tmp rfl)) ?_
    refine AL_p rfl rfl (S_assign rfl (AEv.tmp rfl)) ?_
    refine AL_p rfl rfl (S_assign rfl (AEv.S _)) ?_
    refine AL_p rfl rfl (S_assign rfl (AEv.const _)) ?_
    refine AL_nil ?_
    refine AC_ret ?_
    refine ret_tmps (ts := [4, 5, 6]) st rfl (by decide) rfl (Sub.l (List.Sublist.refl _)) (Conv.refl (Sub.l (List.Sublist.refl _)) _) ⟨rfl, rfl⟩ (.inl rfl)

set_option maxRecDepth 100000 in
/-- strings.Cut -/
theorem strings_Cut_ok (s : List UInt8) (c : UInt8) (hs : s.length ≤ 9223372036854775806) : PCalls Tryd.prog 49 [.S s, .S [c]] (.tup [.S (cutV c s).1, .S (cutV c s).2.1, .bool (cutV c s).2.2]) := by
  intro st
  refine ACalls_of (N := 13) Tryd.func49 (by kernel_rfl) rfl rfl rfl ?_
  refine AC_seq ?_
  refine AC_region ?_
  refine AL_p rfl rfl (S_assign rfl (AEv.S _)) ?_
  refine AL_p rfl rfl (S_assign rfl (AEv.S _)) ?_
  refine AL_p rfl rfl (S_assign rfl (AEv.const _)) ?_
  refine AL_nil ?_
  refine AC_seq ?_
  refine AC_region ?_
  refine AL_p rfl rfl (S_move rfl (AEv.tmp rfl)) ?_
  refine AL_p rfl rfl (S_move rfl (AEv.tmp rfl)) ?_
  refine AL_p rfl rfl (S_pcall rfl (AEvs.cons (AEv.tmp rfl) (AEvs.cons (AEv.tmp rfl) AEvs.nil)) (lite_Cut_ok s c hs)) ?_
  refine AL_p rfl rfl (S_extract 0 rfl (AEv.tmp rfl) rfl) ?_
  refine AL_p rfl rfl (S_extract 1 rfl (AEv.tmp rfl) rfl) ?_
  refine AL_p rfl rfl (S_extract 2 rfl (AEv.tmp rfl) rfl) ?_
  refine AL_p rfl rfl (S_assign rfl (AEv.tmp rfl)) ?_
  refine AL_p rfl rfl (S_assign rfl (AEv.tmp rfl)) ?_
  refine AL_p rfl rfl (S_assign rfl (AEv.tmp rfl)) ?_
  refine AL_nil ?_
  refine AC_ret ?_
  refine ret_tmps (ts := [4, 5, 6]) st rfl (by decide) rfl (Sub.l (List.Sublist.refl _)) (Conv.refl (Sub.l (List.Sublist.refl _)) _) ⟨rfl, rfl⟩ (.inl rfl)

set_option maxRecDepth 100000 in
/-- provost/text.of -/
theorem text_of_ok (c : UInt8) : GCalls Tryd.prog tabs 43 [.int .u8 (c.toNat : Int)] (.int .i64 (ofV c)) := by
  intro st hG
  refine ACalls_of (N := 42) Tryd.func43 (by kernel_rfl) rfl rfl rfl ?_
  have hn := c.toNat_lt
  refine AC_seq ?_
  refine AC_region ?_
  refine AL_p rfl rfl (S_assign rfl (AEv.const _)) ?_
  refine AL_nil ?_
  refine AC_seq ?_
  refine AC_region ?_
  refine AL_p rfl rfl (S_assign rfl (AEv.const _)) ?_
  refine AL_nil ?_
  refine AC_seq ?_
  refine AC_block ?_
  refine AC_seq ?_
  refine AC_block ?_
  refine AC_seq ?_
  refine AC_block ?_
  refine AC_seq ?_
  refine AC_block ?_
  refine AC_seq ?_
  refine AC_seq ?_
  refine AC_seq ?_
  refine AC_seq ?_
  refine AC_region ?_
  refine AL_p rfl rfl (S_move rfl (AEv.tmp rfl)) ?_
  refine AL_p rfl rfl (S_geq rfl (AEv.tmp rfl) (AEv.const _)) ?_
  refine AL_p rfl rfl (S_move rfl (AEv.tmp rfl)) ?_
  refine AL_g rfl rfl (AEv.tmp rfl) rfl (fun hg1 => S_move rfl (AEv.tmp rfl)) ?_
  refine AL_g rfl rfl (AEv.tmp rfl) rfl (fun hg4 => S_leq rfl (AEv.cond (AEv.tmp rfl) (by first | assumption | exact gdAnd (by assumption) (by assumption))) (AEv.const _)) ?_
  refine AL_p rfl rfl (S_and rfl (AEv.tmp rfl) (fun hp7 => (AEv.cond (AEv.tmp rfl) (by first | assumption | exact gdT hp7 | exact gdF hp7 | exact gdAnd (by assumption) (gdT hp7) | exact gdAnd (by assumption) (gdF hp7))))) ?_
  refine AL_p rfl rfl (S_assign rfl (AEv.tmp rfl)) ?_
  refine AL_nil ?_
  refine AC_cond (AEv.tmp rfl) (fun hb8 => ?_) (fun hb8 => ?_)
  · try simp only [Bool.and_eq_true, Bool.or_eq_true, Bool.not_eq_true', Bool.not_eq_false', Bool.and_eq_false_iff, Bool.or_eq_false_iff, decide_eq_true_eq, decide_eq_false_iff_not, gd] at hb8
    refine AC_skip ?_
    refine AC_cond (AEv.tmp rfl) (fun hb9 => ?_) (fun hb9 => ?_)
    · try simp only [Bool.and_eq_true, Bool.or_eq_true, Bool.not_eq_true', Bool.not_eq_false', Bool.and_eq_false_iff, Bool.or_eq_false_iff, decide_eq_true_eq, decide_eq_false_iff_not, gd] at hb9
      have ho : ofV c = 7 := by rw [ofV, if_pos (by omega)]
      refine AC_exit ?_
      refine AC_region ?_
      refine AL_p rfl rfl (S_move rfl (AEv.tmp rfl)) ?_
      refine AL_p rfl rfl (S_bits rfl (by simp) (AEv.tmp rfl) (AEv.const _)) ?_
      refine AL_p rfl rfl (S_assign rfl (AEv.tmp rfl)) ?_
      refine AL_nil ?_
      refine AC_seq ?_
      refine AC_region ?_
      refine AL_p rfl rfl (S_move rfl (AEv.tmp rfl)) ?_
      refine AL_p rfl rfl (S_bits rfl (by simp) (AEv.tmp rfl) (AEv.const _)) ?_
      refine AL_p rfl rfl (S_assign rfl (AEv.tmp rfl)) ?_
      refine AL_nil ?_
      refine AC_exit ?_
      refine AC_seq ?_
      refine AC_region ?_
      refine AL_p rfl rfl (S_move rfl (AEv.tmp rfl)) ?_
      refine AL_p rfl rfl (S_assign rfl (AEv.tmp rfl)) ?_
      refine AL_nil ?_
      refine AC_ret ?_
      refine ret_tmp st rfl rfl (Sub.l (List.Sublist.refl _)) (Conv.refl (Sub.l (List.Sublist.refl _)) _) ⟨by rw [ho] <;> rfl, rfl⟩ (.inl rfl)
    · exfalso; simp at hb9; omega
  · try simp only [Bool.and_eq_true, Bool.or_eq_true, Bool.not_eq_true', Bool.not_eq_false', Bool.and_eq_false_iff, Bool.or_eq_false_iff, decide_eq_true_eq, decide_eq_false_iff_not, gd] at hb8
    refine AC_region ?_
    refine AL_p rfl rfl (S_move rfl (AEv.tmp rfl)) ?_
    refine AL_p rfl rfl (S_geq rfl (AEv.tmp rfl) (AEv.const _)) ?_
    refine AL_p rfl rfl (S_move rfl (AEv.tmp rfl)) ?_
    refine AL_g rfl rfl (AEv.tmp rfl) rfl (fun hg10 => S_move rfl (AEv.tmp rfl)) ?_
    refine AL_g rfl rfl (AEv.tmp rfl) rfl (fun hg13 => S_leq rfl (AEv.cond (AEv.tmp rfl) (by first | assumption | exact gdAnd (by assumption) (by assumption))) (AEv.const _)) ?_
    refine AL_p rfl rfl (S_and rfl (AEv.tmp rfl) (fun hp16 => (AEv.cond (AEv.tmp rfl) (by first | assumption | exact gdT hp16 | exact gdF hp16 | exact gdAnd (by assumption) (gdT hp16) | exact gdAnd (by assumption) (gdF hp16))))) ?_
    refine AL_p rfl rfl (S_assign rfl (AEv.tmp rfl)) ?_
    refine AL_nil ?_
    refine AC_cond (AEv.tmp rfl) (fun hb17 => ?_) (fun hb17 => ?_)
    · try simp only [Bool.and_eq_true, Bool.or_eq_true, Bool.not_eq_true', Bool.not_eq_false', Bool.and_eq_false_iff, Bool.or_eq_false_iff, decide_eq_true_eq, decide_eq_false_iff_not, gd] at hb17
      have ho : ofV c = 7 := by rw [ofV, if_pos (by omega)]
      refine AC_exit ?_
      refine AC_region ?_
      refine AL_p rfl rfl (S_move rfl (AEv.tmp rfl)) ?_
      refine AL_p rfl rfl (S_bits rfl (by simp) (AEv.tmp rfl) (AEv.const _)) ?_
      refine AL_p rfl rfl (S_assign rfl (AEv.tmp rfl)) ?_
      refine AL_nil ?_
      refine AC_seq ?_
      refine AC_region ?_
      refine AL_p rfl rfl (S_move rfl (AEv.tmp rfl)) ?_
      refine AL_p rfl rfl (S_bits rfl (by simp) (AEv.tmp rfl) (AEv.const _)) ?_
      refine AL_p rfl rfl (S_assign rfl (AEv.tmp rfl)) ?_
      refine AL_nil ?_
      refine AC_exit ?_
      refine AC_seq ?_
      refine AC_region ?_
      refine AL_p rfl rfl (S_move rfl (AEv.tmp rfl)) ?_
      refine AL_p rfl rfl (S_assign rfl (AEv.tmp rfl)) ?_
      refine AL_nil ?_
      refine AC_ret ?_
      refine ret_tmp st rfl rfl (Sub.l (List.Sublist.refl _)) (Conv.refl (Sub.l (List.Sublist.refl _)) _) ⟨by rw [ho] <;> rfl, rfl⟩ (.inl rfl)
    · try simp only [Bool.and_eq_true, Bool.or_eq_true, Bool.not_eq_true', Bool.not_eq_false', Bool.and_eq_false_iff, Bool.or_eq_false_iff, decide_eq_true_eq, decide_eq_false_iff_not, gd] at hb17
      refine AC_skip ?_
      refine AC_seq ?_
      refine AC_seq ?_
      refine AC_region ?_
      refine AL_p rfl rfl (S_move rfl (AEv.tmp rfl)) ?_
      refine AL_p rfl rfl (S_geq rfl (AEv.tmp rfl) (AEv.const _)) ?_
      refine AL_p rfl rfl (S_move rfl (AEv.tmp rfl)) ?_
      refine AL_g rfl rfl (AEv.tmp rfl) rfl (fun hg18 => S_move rfl (AEv.tmp rfl)) ?_
      refine AL_g rfl rfl (AEv.tmp rfl) rfl (fun hg21 => S_leq rfl (AEv.cond (AEv.tmp rfl) (by first | assumption | exact gdAnd (by assumption) (by assumption))) (AEv.const _)) ?_
      refine AL_p rfl rfl (S_and rfl (AEv.tmp rfl) (fun hp24 => (AEv.cond (AEv.tmp rfl) (by first | assumption | exact gdT hp24 | exact gdF hp24 | exact gdAnd (by assumption) (gdT hp24) | exact gdAnd (by assumption) (gdF hp24))))) ?_
      refine AL_p rfl rfl (S_assign rfl (AEv.tmp rfl)) ?_
      refine AL_nil ?_
      refine AC_cond (AEv.tmp rfl) (fun hb25 => ?_) (fun hb25 => ?_)
      · try simp only [Bool.and_eq_true, Bool.or_eq_true, Bool.not_eq_true', Bool.not_eq_false', Bool.and_eq_false_iff, Bool.or_eq_false_iff, decide_eq_true_eq, decide_eq_false_iff_not, gd] at hb25
        have ho : ofV c = 4 := by rw [ofV, if_neg (by omega), if_pos (by omega)]
        refine AC_exit ?_
        refine AC_seq ?_
        refine AC_region ?_
        refine AL_p rfl rfl (S_move rfl (AEv.tmp rfl)) ?_
        refine AL_p rfl rfl (S_bits rfl (by simp) (AEv.tmp rfl) (AEv.const _)) ?_
        refine AL_p rfl rfl (S_assign rfl (AEv.tmp rfl)) ?_
        refine AL_nil ?_
        refine AC_exit ?_
        refine AC_seq ?_
        refine AC_region ?_
        refine AL_p rfl rfl (S_move rfl (AEv.tmp rfl)) ?_
        refine AL_p rfl rfl (S_assign rfl (AEv.tmp rfl)) ?_
        refine AL_nil ?_
        refine AC_ret ?_
        refine ret_tmp st rfl rfl (Sub.l (List.Sublist.refl _)) (Conv.refl (Sub.l (List.Sublist.refl _)) _) ⟨by rw [ho] <;> rfl, rfl⟩ (.inl rfl)
      · try simp only [Bool.and_eq_true, Bool.or_eq_true, Bool.not_eq_true', Bool.not_eq_false', Bool.and_eq_false_iff, Bool.or_eq_false_iff, decide_eq_true_eq, decide_eq_false_iff_not, gd] at hb25
        have hw : IntKind.u8.wrap ((c.toNat : Int) - 32) = (((c.toNat : Int) - 32) % 256) := by simp [IntKind.wrap, IntKind.bits, IntKind.signed]
        have hw2 : IntKind.i64.wrap (IntKind.u8.wrap ((c.toNat : Int) - 32)) = (((c.toNat : Int) - 32) % 256) := by rw [hw]; exact wrap_i64 (by omega) (by omega)
        refine AC_skip ?_
        refine AC_seq ?_
        refine AC_region ?_
        refine AL_p rfl rfl (S_move rfl (AEv.tmp rfl)) ?_
        refine AL_p rfl rfl (S_geq rfl (AEv.tmp rfl) (AEv.const _)) ?_
        refine AL_p rfl rfl (S_move rfl (AEv.tmp rfl)) ?_
        refine AL_g rfl rfl (AEv.tmp rfl) rfl (fun hg26 => S_move rfl (AEv.tmp rfl)) ?_
        refine AL_g rfl rfl (AEv.tmp rfl) rfl (fun hg29 => S_sub rfl (AEv.cond (AEv.tmp rfl) (by first | assumption | exact gdAnd (by assumption) (by assumption))) (AEv.const _)) ?_
        refine AL_g rfl rfl (AEv.tmp rfl) rfl (fun hg32 => S_conv (k' := .i64) rfl (AEv.cond (AEv.tmp rfl) (by first | assumption | exact gdAnd (by assumption) (by assumption))) (by kernel_rfl) (by kernel_rfl)) ?_
        refine AL_g rfl rfl (AEv.tmp rfl) rfl (fun hg35 => S_lss rfl (AEv.cond (AEv.tmp rfl) (by first | assumption | exact gdAnd (by assumption) (by assumption))) (AEv.const _)) ?_
        refine AL_p rfl rfl (S_and rfl (AEv.tmp rfl) (fun hp38 => (AEv.cond (AEv.tmp rfl) (by first | assumption | exact gdT hp38 | exact gdF hp38 | exact gdAnd (by assumption) (gdT hp38) | exact gdAnd (by assumption) (gdF hp38))))) ?_
        refine AL_p rfl rfl (S_assign rfl (AEv.tmp rfl)) ?_
        refine AL_nil ?_
        refine AC_cond (AEv.tmp rfl) (fun hb39 => ?_) (fun hb39 => ?_)
        · try simp only [Bool.and_eq_true, Bool.or_eq_true, Bool.not_eq_true', Bool.not_eq_false', Bool.and_eq_false_iff, Bool.or_eq_false_iff, decide_eq_true_eq, decide_eq_false_iff_not, gd] at hb39
          have ho : ofV c = marksI.getD (c.toNat - 32) 0 := by rw [ofV, if_neg (by omega), if_neg (by omega), if_pos (by omega)]
          have hsub : 0 + (IntKind.u8.wrap ((c.toNat : Int) - 32)).toNat * 1 = c.toNat - 32 := by omega
          refine AC_exit ?_
          refine AC_seq ?_
          refine AC_region ?_
          refine AL_p rfl rfl (S_move rfl (AEv.tmp rfl)) ?_
          refine AL_p rfl rfl (S_sub rfl (AEv.tmp rfl) (AEv.const _)) ?_
          refine AL_p rfl rfl (S_elemA (e := 3) (len := 64) 1 rfl (AEv.global _) (AEv.tmp rfl) (by kernel_rfl) (by kernel_rfl) (by omega) (by omega)) ?_
          refine AL_p rfl rfl (S_loadK (vs := marksV) (u := .int .i64 (marksI.getD (c.toNat - 32) 0)) rfl (AEv.tmp rfl) (hG _ (List.mem_cons_self ..)) (by rw [hsub]; exact marks_at (by omega)) (by kernel_rfl)) ?_
          refine AL_p rfl rfl (S_assign rfl (AEv.tmp rfl)) ?_
          refine AL_nil ?_
          refine AC_exit ?_
          refine AC_seq ?_
          refine AC_region ?_
          refine AL_p rfl rfl (S_move rfl (AEv.tmp rfl)) ?_
          refine AL_p rfl rfl (S_assign rfl (AEv.tmp rfl)) ?_
          refine AL_nil ?_
          refine AC_ret ?_
          refine ret_tmp st rfl rfl (Sub.l (List.Sublist.refl _)) (Conv.refl (Sub.l (List.Sublist.refl _)) _) ⟨by rw [ho] <;> rfl, rfl⟩ (.inl rfl)
        · try simp only [Bool.and_eq_true, Bool.or_eq_true, Bool.not_eq_true', Bool.not_eq_false', Bool.and_eq_false_iff, Bool.or_eq_false_iff, decide_eq_true_eq, decide_eq_false_iff_not, gd] at hb39
          have ho : ofV c = 0 := by rw [ofV, if_neg (by omega), if_neg (by omega), if_neg (by omega)]
          refine AC_skip ?_
          refine AC_exit ?_
          refine AC_seq ?_
          refine AC_region ?_
          refine AL_p rfl rfl (S_move rfl (AEv.tmp rfl)) ?_
          refine AL_p rfl rfl (S_assign rfl (AEv.tmp rfl)) ?_
          refine AL_nil ?_
          refine AC_ret ?_
          refine ret_tmp st rfl rfl (Sub.l (List.Sublist.refl _)) (Conv.refl (Sub.l (List.Sublist.refl _)) _) ⟨by rw [ho] <;> rfl, rfl⟩ (.inl rfl)

set_option maxRecDepth 100000 in
/-- provost/text.all -/
theorem text_all_ok (s : List UInt8) (w : Int) (hw : w = 1 ∨ w = 2 ∨ w = 4) (hs : s.length ≤ 9223372036854775806) : GCalls Tryd.prog tabs 34 [.S s, .int .i64 w] (.bool (s.all (inC w))) := by
  intro st hG
  refine ACalls_of (N := 19) Tryd.func34 (by kernel_rfl) rfl rfl rfl ?_
  refine AC_seq ?_
  refine AC_region ?_
  refine AL_p rfl rfl (S_assign rfl (AEv.const _)) ?_
  refine AL_nil ?_
  refine AC_seq ?_
  refine AC_seq ?_
  refine AC_region ?_
  refine AL_p rfl rfl (S_move rfl (AEv.tmp rfl)) ?_
  refine AL_p rfl rfl (S_lenS (ts := #[]) rfl (AEv.tmp rfl) (by kernel_rfl)) ?_
  refine AL_p rfl rfl (S_move rfl (AEv.const _)) ?_
  refine AL_nil ?_
  refine AC_block ?_
  refine AC_loop (G := Nat) (fun i => i ≤ s.length ∧ (s.take i).all (inC w) = true) (fun i => [(0, .S s), (1, .int .i64 w), (7, .int .i64 (s.length : Int)), (8, .int .i64 (i : Int))]) (fun i => st) (fun i => s.length - i) (0) (⟨by simp, by simp⟩) rfl ?_ ?_
  · exact (.cons rfl (by first | exact Le.refl _ | exact Le.nils | exact Le.row _ _ _ _ | (exact Le.of_eq (by simp))) (.cons rfl (by first | exact Le.refl _ | exact Le.nils | exact Le.row _ _ _ _ | (exact Le.of_eq (by simp))) (.cons rfl (by first | exact Le.refl _ | exact Le.nils | exact Le.row _ _ _ _ | (exact Le.of_eq (by simp))) (.cons rfl (by first | exact Le.refl _ | exact Le.nils | exact Le.row _ _ _ _ | (exact Le.of_eq (by simp))) .nil))))
  · rintro i ⟨hi, hall⟩
    try dsimp only
    refine AC_seq ?_
    refine AC_region ?_
    refine AL_p rfl rfl (S_lss rfl (AEv.tmp rfl) (AEv.tmp rfl)) ?_
    refine AL_nil ?_
    refine AC_seq ?_
    refine AC_cond (AEv.tmp rfl) (fun hb1 => ?_) (fun hb1 => ?_)
    · try simp only [Bool.and_eq_true, Bool.or_eq_true, Bool.not_eq_true', Bool.not_eq_false', Bool.and_eq_false_iff, Bool.or_eq_false_iff, decide_eq_true_eq, decide_eq_false_iff_not, gd] at hb1
      have hil : i < s.length := by omega
      refine AC_skip ?_
      refine AC_seq ?_
      refine AC_block ?_
      refine AC_seq ?_
      refine AC_region ?_
      refine AL_p rfl rfl (S_move rfl (AEv.tmp rfl)) ?_
      refine AL_p rfl rfl (S_assign rfl (AEv.tmp rfl)) ?_
      refine AL_nil ?_
      refine AC_seq ?_
      refine AC_region ?_
      refine AL_p rfl rfl (S_move rfl (AEv.tmp rfl)) ?_
      refine AL_p rfl rfl (S_move rfl (AEv.tmp rfl)) ?_
      refine AL_p rfl rfl (S_index rfl (AEv.tmp rfl) (AEv.tmp rfl) (by kernel_rfl) (by omega) (by omega)) ?_
      refine AL_p rfl rfl (S_gcall rfl (AEvs.cons (y := .int .u8 ((s[i]'hil).toNat : Int)) ((AEv.tmp rfl).le (Le.of_eq (by rw [atL_get hil]))) AEvs.nil) (text_of_ok (s[i]'hil) _ hG)) ?_
      refine AL_p rfl rfl (S_move rfl (AEv.tmp rfl)) ?_
      refine AL_p rfl rfl (S_bits rfl (by simp) (AEv.tmp rfl) (AEv.tmp rfl)) ?_
      refine AL_p rfl rfl ((S_eql rfl (AEv.tmp rfl) (AEv.const _)).ofV (congrArg _ (of_bits (s[i]'hil) hw))) ?_
      refine AL_nil ?_
      refine AC_cond (AEv.tmp rfl) (fun hb2 => ?_) (fun hb2 => ?_)
      · try simp only [Bool.and_eq_true, Bool.or_eq_true, Bool.not_eq_true', Bool.not_eq_false', Bool.and_eq_false_iff, Bool.or_eq_false_iff, decide_eq_true_eq, decide_eq_false_iff_not, gd] at hb2
        have hin : inC w (s[i]'hil) = false := by simpa using hb2
        have ha : s.all (inC w) = false := List.all_eq_false.2 ⟨s[i], List.getElem_mem hil, by rw [hin]; simp⟩
        refine AC_seq ?_
        refine AC_region ?_
        refine AL_p rfl rfl (S_assign rfl (AEv.const _)) ?_
        refine AL_nil ?_
        refine AC_ret ?_
        refine ret_tmp st rfl rfl (Sub.l (List.Sublist.refl _)) (Conv.refl (Sub.l (List.Sublist.refl _)) _) ⟨by rw [ha], rfl⟩ (.inl rfl)
      · try simp only [Bool.and_eq_true, Bool.or_eq_true, Bool.not_eq_true', Bool.not_eq_false', Bool.and_eq_false_iff, Bool.or_eq_false_iff, decide_eq_true_eq, decide_eq_false_iff_not, gd] at hb2
        have hin : inC w (s[i]'hil) = true := by simpa using hb2
        refine AC_skip ?_
        refine AC_region ?_
        refine AL_p rfl rfl (S_addI rfl (AEv.tmp rfl) (AEv.const _) (by omega) (by omega)) ?_
        refine AL_p rfl rfl (S_move rfl (AEv.tmp rfl)) ?_
        refine AL_nil ?_
        refine ⟨i + 1, ⟨by omega, by rw [all_take_succ hil, hall, hin]; rfl⟩, by omega, rfl, .cons rfl (Le.refl _) (.cons rfl (Le.refl _) (.cons rfl (Le.refl _) (.cons rfl (Le.of_eq (by rw [Int.natCast_add]; rfl)) .nil)))⟩
    · try simp only [Bool.and_eq_true, Bool.or_eq_true, Bool.not_eq_true', Bool.not_eq_false', Bool.and_eq_false_iff, Bool.or_eq_false_iff, decide_eq_true_eq, decide_eq_false_iff_not, gd] at hb1
      have ha : s.all (inC w) = true := by
        rw [List.take_of_length_le (by omega)] at hall
        exact hall
      refine AC_exit ?_
      refine AC_seq ?_
      refine AC_region ?_
      refine AL_p rfl rfl (S_assign rfl (AEv.const _)) ?_
      refine AL_nil ?_
      refine AC_ret ?_
      refine ret_tmp st rfl rfl (Sub.l (List.Sublist.refl _)) (Conv.refl (Sub.l (List.Sublist.refl _)) _) ⟨by rw [ha], rfl⟩ (.inl rfl)

set_option maxRecDepth 100000 in
/-- provost/text.name -/
theorem text_name_ok (s : List UInt8) : GCalls Tryd.prog tabs 29 [.S s] (.bool (nameV s)) := by
  intro st hG
  refine ACalls_of (N := 27) Tryd.func29 (by kernel_rfl) rfl rfl rfl ?_
  have hpos : ∀ h : ¬ s = [], 0 < s.length := fun h => List.length_pos_iff.2 h
  refine AC_seq ?_
  refine AC_region ?_
  refine AL_p rfl rfl (S_assign rfl (AEv.const _)) ?_
  refine AL_nil ?_
  refine AC_seq ?_
  refine AC_region ?_
  refine AL_p rfl rfl (S_move rfl (AEv.tmp rfl)) ?_
  refine AL_p rfl rfl (S_neS rfl (AEv.tmp rfl) (AEv.S _)) ?_
  refine AL_p rfl rfl (S_move rfl (AEv.tmp rfl)) ?_
  refine AL_g rfl rfl (AEv.tmp rfl) rfl (fun hg1 => S_move rfl (AEv.tmp rfl)) ?_
  refine AL_g rfl rfl (AEv.tmp rfl) rfl (fun hg4 => S_lenS (ts := #[]) rfl (AEv.cond (AEv.tmp rfl) (by first | assumption | exact gdAnd (by assumption) (by assumption))) (by kernel_rfl)) ?_
  refine AL_g rfl rfl (AEv.tmp rfl) rfl (fun hg7 => S_leq rfl (AEv.cond (AEv.tmp rfl) (by first | assumption | exact gdAnd (by assumption) (by assumption))) (AEv.const _)) ?_
  refine AL_p rfl rfl (S_and rfl (AEv.tmp rfl) (fun hp10 => (AEv.cond (AEv.tmp rfl) (by first | assumption | exact gdT hp10 | exact gdF hp10 | exact gdAnd (by assumption) (gdT hp10) | exact gdAnd (by assumption) (gdF hp10))))) ?_
  refine AL_p rfl rfl (S_move rfl (AEv.tmp rfl)) ?_
  refine AL_g rfl rfl (AEv.tmp rfl) rfl (fun hg11 => S_move rfl (AEv.tmp rfl)) ?_
  refine AL_g rfl rfl (AEv.tmp rfl) rfl (fun hg14 => S_gcall rfl (AEvs.cons (AEv.cond (AEv.tmp rfl) (by first | assumption | exact gdAnd (by assumption) (by assumption))) (AEvs.cons (AEv.const _) AEvs.nil)) (text_all_ok s 1 (.inl rfl) (by simp only [gd, Bool.and_eq_true, decide_eq_true_eq] at *; omega) _ hG)) ?_
  refine AL_p rfl rfl (S_and rfl (AEv.tmp rfl) (fun hp17 => (AEv.cond (AEv.tmp rfl) (by first | assumption | exact gdT hp17 | exact gdF hp17 | exact gdAnd (by assumption) (gdT hp17) | exact gdAnd (by assumption) (gdF hp17))))) ?_
  refine AL_p rfl rfl (S_move rfl (AEv.tmp rfl)) ?_
  refine AL_g rfl rfl (AEv.tmp rfl) rfl (fun hg18 => S_move rfl (AEv.tmp rfl)) ?_
  refine AL_g rfl rfl (AEv.tmp rfl) rfl (fun hg21 => S_index rfl (AEv.cond (AEv.tmp rfl) (by first | assumption | exact gdAnd (by assumption) (by assumption))) (AEv.const _) (by kernel_rfl) (by omega) (by simp only [gd, Bool.and_eq_true, Bool.not_eq_true', decide_eq_false_iff_not, decide_eq_true_eq] at *; have hp : 0 < s.length := List.length_pos_iff.2 (by first | assumption | (simp_all; done)); omega)) ?_
  refine AL_g rfl rfl (AEv.tmp rfl) rfl (fun hg24 => S_neq rfl (AEv.cond (AEv.tmp rfl) (by first | assumption | exact gdAnd (by assumption) (by assumption))) (AEv.const _)) ?_
  refine AL_p rfl rfl (S_and rfl (AEv.tmp rfl) (fun hp27 => (AEv.cond (AEv.tmp rfl) (by first | assumption | exact gdT hp27 | exact gdF hp27 | exact gdAnd (by assumption) (gdT hp27) | exact gdAnd (by assumption) (gdF hp27))))) ?_
  refine AL_p rfl rfl (S_move rfl (AEv.tmp rfl)) ?_
  refine AL_g rfl rfl (AEv.tmp rfl) rfl (fun hg28 => S_move rfl (AEv.tmp rfl)) ?_
  refine AL_g rfl rfl (AEv.tmp rfl) rfl (fun hg31 => S_move rfl (AEv.tmp rfl)) ?_
  refine AL_g rfl rfl (AEv.tmp rfl) rfl (fun hg34 => S_lenS (ts := #[]) rfl (AEv.cond (AEv.tmp rfl) (by first | assumption | exact gdAnd (by assumption) (by assumption))) (by kernel_rfl)) ?_
  refine AL_g rfl rfl (AEv.tmp rfl) rfl (fun hg37 => S_subI rfl (AEv.cond (AEv.tmp rfl) (by first | assumption | exact gdAnd (by assumption) (by assumption))) (AEv.const _) (by (try simp only [gd, Bool.and_eq_true, Bool.or_eq_true, Bool.not_eq_true', Bool.not_eq_false', decide_eq_true_eq, decide_eq_false_iff_not, Bool.or_eq_false_iff, Bool.and_eq_false_iff] at *); omega) (by (try simp only [gd, Bool.and_eq_true, Bool.or_eq_true, Bool.not_eq_true', Bool.not_eq_false', decide_eq_true_eq, decide_eq_false_iff_not, Bool.or_eq_false_iff, Bool.and_eq_false_iff] at *); omega)) ?_
  refine AL_g rfl rfl (AEv.tmp rfl) rfl (fun hg40 => S_index rfl (AEv.cond (AEv.tmp rfl) (by first | assumption | exact gdAnd (by assumption) (by assumption))) (AEv.cond (AEv.tmp rfl) (by first | assumption | exact gdAnd (by assumption) (by assumption))) (by kernel_rfl) (by simp only [gd, Bool.and_eq_true, Bool.not_eq_true', decide_eq_false_iff_not, decide_eq_true_eq] at *; have hp : 0 < s.length := List.length_pos_iff.2 (by first | assumption | (simp_all; done)); omega) (by omega)) ?_
  refine AL_g rfl rfl (AEv.tmp rfl) rfl (fun hg43 => S_neq rfl (AEv.cond (AEv.tmp rfl) (by first | assumption | exact gdAnd (by assumption) (by assumption))) (AEv.const _)) ?_
  refine AL_p rfl rfl (S_and rfl (AEv.tmp rfl) (fun hp46 => (AEv.cond (AEv.tmp rfl) (by first | assumption | exact gdT hp46 | exact gdF hp46 | exact gdAnd (by assumption) (gdT hp46) | exact gdAnd (by assumption) (gdF hp46))))) ?_
  refine AL_p rfl rfl (S_assign rfl (AEv.tmp rfl)) ?_
  refine AL_nil ?_
  refine AC_ret ?_
  refine ret_tmp st rfl rfl (Sub.l (List.Sublist.refl _)) (Conv.refl (Sub.l (List.Sublist.refl _)) _) ⟨rfl, rfl⟩ (.inl rfl)

set_option maxRecDepth 100000 in
/-- provost/text.names -/
theorem text_names_ok (s : List UInt8) (k : Nat) (hk : k ≤ 100) (hs : s.length ≤ 9223372036854775806) : GCalls Tryd.prog tabs 44 [.S s, .int .i64 (k : Int)] (.bool (namesR k s)) := by
  intro st hG
  refine ACalls_of (N := 24) Tryd.func44 (by kernel_rfl) rfl rfl rfl ?_
  refine AC_seq ?_
  refine AC_region ?_
  refine AL_p rfl rfl (S_assign rfl (AEv.const _)) ?_
  refine AL_nil ?_
  refine AC_seq ?_
  refine AC_seq ?_
  refine AC_region ?_
  refine AL_p rfl rfl (S_move rfl (AEv.tmp rfl)) ?_
  refine AL_p rfl rfl (S_move rfl (AEv.const _)) ?_
  refine AL_nil ?_
  refine AC_block ?_
  refine AC_loop (G := Nat × List UInt8) (fun g => g.1 ≤ k ∧ namesR k s = namesR (k - g.1) g.2 ∧ g.2.length ≤ s.length) (fun g => [(0, .S g.2), (8, .int .i64 (k : Int)), (9, .int .i64 (g.1 : Int))]) (fun g => st) (fun g => k - g.1) ((0, s)) (⟨by simp, by simp, by simp⟩) rfl ?_ ?_
  · exact (.cons rfl (by first | exact Le.refl _ | exact Le.nils | exact Le.row _ _ _ _ | (exact Le.of_eq (by simp))) (.cons rfl (by first | exact Le.refl _ | exact Le.nils | exact Le.row _ _ _ _ | (exact Le.of_eq (by simp))) (.cons rfl (by first | exact Le.refl _ | exact Le.nils | exact Le.row _ _ _ _ | (exact Le.of_eq (by simp))) .nil)))
  · rintro ⟨j, t⟩ ⟨hj, hR, htl⟩
    try dsimp only
    dsimp only at hj hR htl
    refine AC_seq ?_
    refine AC_region ?_
    refine AL_p rfl rfl (S_lss rfl (AEv.tmp rfl) (AEv.tmp rfl)) ?_
    refine AL_nil ?_
    refine AC_seq ?_
    refine AC_cond (AEv.tmp rfl) (fun hb1 => ?_) (fun hb1 => ?_)
    · try simp only [Bool.and_eq_true, Bool.or_eq_true, Bool.not_eq_true', Bool.not_eq_false', Bool.and_eq_false_iff, Bool.or_eq_false_iff, decide_eq_true_eq, decide_eq_false_iff_not, gd] at hb1
      have hstep : namesR (k - j) t = if nameV (cutV 47 t).1 = true then (if (cutV 47 t).2.2 = true then namesR (k - j - 1) (cutV 47 t).2.1 else true) else false := by
        rw [show k - j = (k - j - 1) + 1 by omega]; rfl
      have hcl : (cutV 47 t).1.length ≤ t.length := cutV_le 47 t
      refine AC_skip ?_
      refine AC_seq ?_
      refine AC_block ?_
      refine AC_seq ?_
      refine AC_region ?_
      refine AL_p rfl rfl (S_move rfl (AEv.tmp rfl)) ?_
      refine AL_p rfl rfl (S_pcall rfl (AEvs.cons (AEv.tmp rfl) (AEvs.cons (AEv.S _) AEvs.nil)) (strings_Cut_ok t 47 (by omega))) ?_
      refine AL_p rfl rfl (S_move rfl (AEv.tmp rfl)) ?_
      refine AL_p rfl rfl (S_extract 0 rfl (AEv.tmp rfl) rfl) ?_
      refine AL_p rfl rfl (S_extract 1 rfl (AEv.tmp rfl) rfl) ?_
      refine AL_p rfl rfl (S_extract 2 rfl (AEv.tmp rfl) rfl) ?_
      refine AL_p rfl rfl (S_assign rfl (AEv.tmp rfl)) ?_
      refine AL_p rfl rfl (S_assign rfl (AEv.tmp rfl)) ?_
      refine AL_p rfl rfl (S_assign rfl (AEv.tmp rfl)) ?_
      refine AL_nil ?_
      refine AC_seq ?_
      refine AC_seq ?_
      refine AC_region ?_
      refine AL_p rfl rfl (S_move rfl (AEv.tmp rfl)) ?_
      refine AL_p rfl rfl (S_gcall rfl (AEvs.cons (AEv.tmp rfl) AEvs.nil) (text_name_ok (cutV 47 t).1 _ hG)) ?_
      refine AL_p rfl rfl (S_not rfl (AEv.tmp rfl)) ?_
      refine AL_nil ?_
      refine AC_cond (AEv.tmp rfl) (fun hb2 => ?_) (fun hb2 => ?_)
      · try simp only [Bool.and_eq_true, Bool.or_eq_true, Bool.not_eq_true', Bool.not_eq_false', Bool.and_eq_false_iff, Bool.or_eq_false_iff, decide_eq_true_eq, decide_eq_false_iff_not, gd] at hb2
        have hname : ¬ nameV (cutV 47 t).1 = true := by simpa using hb2
        refine AC_seq ?_
        refine AC_region ?_
        refine AL_p rfl rfl (S_assign rfl (AEv.const _)) ?_
        refine AL_nil ?_
        refine AC_ret ?_
        refine ret_tmp st rfl rfl (Sub.l (List.Sublist.refl _)) (Conv.refl (Sub.l (List.Sublist.refl _)) _) ⟨by rw [hR, hstep, if_neg hname], rfl⟩ (.inl rfl)
      · try simp only [Bool.and_eq_true, Bool.or_eq_true, Bool.not_eq_true', Bool.not_eq_false', Bool.and_eq_false_iff, Bool.or_eq_false_iff, decide_eq_true_eq, decide_eq_false_iff_not, gd] at hb2
        have hname : nameV (cutV 47 t).1 = true := by simpa using hb2
        refine AC_skip ?_
        refine AC_seq ?_
        refine AC_seq ?_
        refine AC_region ?_
        refine AL_p rfl rfl (S_move rfl (AEv.tmp rfl)) ?_
        refine AL_p rfl rfl (S_not rfl (AEv.tmp rfl)) ?_
        refine AL_nil ?_
        refine AC_cond (AEv.tmp rfl) (fun hb3 => ?_) (fun hb3 => ?_)
        · try simp only [Bool.and_eq_true, Bool.or_eq_true, Bool.not_eq_true', Bool.not_eq_false', Bool.and_eq_false_iff, Bool.or_eq_false_iff, decide_eq_true_eq, decide_eq_false_iff_not, gd] at hb3
          have hmore : ¬ (cutV 47 t).2.2 = true := by simpa using hb3
          refine AC_seq ?_
          refine AC_region ?_
          refine AL_p rfl rfl (S_assign rfl (AEv.const _)) ?_
          refine AL_nil ?_
          refine AC_ret ?_
          refine ret_tmp st rfl rfl (Sub.l (List.Sublist.refl _)) (Conv.refl (Sub.l (List.Sublist.refl _)) _) ⟨by rw [hR, hstep, if_pos hname, if_neg hmore], rfl⟩ (.inl rfl)
        · try simp only [Bool.and_eq_true, Bool.or_eq_true, Bool.not_eq_true', Bool.not_eq_false', Bool.and_eq_false_iff, Bool.or_eq_false_iff, decide_eq_true_eq, decide_eq_false_iff_not, gd] at hb3
          have hmore : (cutV 47 t).2.2 = true := by simpa using hb3
          refine AC_skip ?_
          refine AC_region ?_
          refine AL_p rfl rfl (S_move rfl (AEv.tmp rfl)) ?_
          refine AL_p rfl rfl (S_assign rfl (AEv.tmp rfl)) ?_
          refine AL_nil ?_
          refine AC_region ?_
          refine AL_p rfl rfl (S_addI rfl (AEv.tmp rfl) (AEv.const _) (by omega) (by omega)) ?_
          refine AL_p rfl rfl (S_move rfl (AEv.tmp rfl)) ?_
          refine AL_nil ?_
          refine ⟨(j + 1, (cutV 47 t).2.1), ⟨by dsimp only; omega, by dsimp only; rw [hR, hstep, if_pos hname, if_pos hmore, show k - (j + 1) = k - j - 1 by omega], by have := cutV_len hmore; dsimp only; omega⟩, by dsimp only; omega, rfl, .cons rfl (Le.refl _) (.cons rfl (Le.refl _) (.cons rfl (Le.of_eq (by rw [Int.natCast_add]; rfl)) .nil))⟩
    · try simp only [Bool.and_eq_true, Bool.or_eq_true, Bool.not_eq_true', Bool.not_eq_false', Bool.and_eq_false_iff, Bool.or_eq_false_iff, decide_eq_true_eq, decide_eq_false_iff_not, gd] at hb1
      have hkj : k - j = 0 := by omega
      refine AC_exit ?_
      refine AC_seq ?_
      refine AC_region ?_
      refine AL_p rfl rfl (S_assign rfl (AEv.const _)) ?_
      refine AL_nil ?_
      refine AC_ret ?_
      refine ret_tmp st rfl rfl (Sub.l (List.Sublist.refl _)) (Conv.refl (Sub.l (List.Sublist.refl _)) _) ⟨by rw [hR, hkj]; rfl, rfl⟩ (.inl rfl)

set_option maxRecDepth 100000 in
/-- provost/text.says -/
theorem text_says_ok (b : Bool) (c : Int) : PCalls Tryd.prog 28 [.bool b, .int .i64 c] (.int .i64 (saysV b c)) := by
  intro st
  refine ACalls_of (N := 7) Tryd.func28 (by kernel_rfl) rfl rfl rfl ?_
  refine AC_seq ?_
  refine AC_region ?_
  refine AL_p rfl rfl (S_assign rfl (AEv.const _)) ?_
  refine AL_nil ?_
  refine AC_seq ?_
  refine AC_seq ?_
  refine AC_region ?_
  refine AL_p rfl rfl (S_move rfl (AEv.tmp rfl)) ?_
  refine AL_nil ?_
  refine AC_cond (AEv.tmp rfl) (fun hb1 => ?_) (fun hb1 => ?_)
  · try simp only [Bool.and_eq_true, Bool.or_eq_true, Bool.not_eq_true', Bool.not_eq_false', Bool.and_eq_false_iff, Bool.or_eq_false_iff, decide_eq_true_eq, decide_eq_false_iff_not, gd] at hb1
    have hb : b = true := hb1
    refine AC_seq ?_
    refine AC_region ?_
    refine AL_p rfl rfl (S_assign rfl (AEv.const _)) ?_
    refine AL_nil ?_
    refine AC_ret ?_
    refine ret_tmp st rfl rfl (Sub.l (List.Sublist.refl _)) (Conv.refl (Sub.l (List.Sublist.refl _)) _) ⟨by rw [saysV, if_pos (by assumption)], rfl⟩ (.inl rfl)
  · try simp only [Bool.and_eq_true, Bool.or_eq_true, Bool.not_eq_true', Bool.not_eq_false', Bool.and_eq_false_iff, Bool.or_eq_false_iff, decide_eq_true_eq, decide_eq_false_iff_not, gd] at hb1
    have hb : b = false := hb1
    refine AC_skip ?_
    refine AC_seq ?_
    refine AC_region ?_
    refine AL_p rfl rfl (S_move rfl (AEv.tmp rfl)) ?_
    refine AL_p rfl rfl (S_assign rfl (AEv.tmp rfl)) ?_
    refine AL_nil ?_
    refine AC_ret ?_
    refine ret_tmp st rfl rfl (Sub.l (List.Sublist.refl _)) (Conv.refl (Sub.l (List.Sublist.refl _)) _) ⟨by rw [saysV, if_neg (by simp_all)], rfl⟩ (.inl rfl)

set_option maxRecDepth 100000 in
/-- provost/text.Name -/
theorem text_Name_ok (s : List UInt8) : GCalls Tryd.prog tabs 15 [.S s] (.int .i64 (saysV (nameV s) 30)) := by
  intro st hG
  refine ACalls_of (N := 6) Tryd.func15 (by kernel_rfl) rfl rfl rfl ?_
  refine AC_seq ?_
  refine AC_region ?_
  refine AL_p rfl rfl (S_assign rfl (AEv.const _)) ?_
  refine AL_nil ?_
  refine AC_seq ?_
  refine AC_region ?_
  refine AL_p rfl rfl (S_move rfl (AEv.tmp rfl)) ?_
  refine AL_p rfl rfl (S_gcall rfl (AEvs.cons (AEv.tmp rfl) AEvs.nil) ((text_name_ok _) _ (fun p hp => by first | exact hG p hp | (simp [hG p hp]; done)))) ?_
  refine AL_p rfl rfl (S_pcall rfl (AEvs.cons (AEv.tmp rfl) (AEvs.cons (AEv.const _) AEvs.nil)) (text_says_ok _ _)) ?_
  refine AL_p rfl rfl (S_assign rfl (AEv.tmp rfl)) ?_
  refine AL_nil ?_
  refine AC_ret ?_
  refine ret_tmp st rfl rfl (Sub.l (List.Sublist.refl _)) (Conv.refl (Sub.l (List.Sublist.refl _)) _) ⟨rfl, rfl⟩ (.inl rfl)

set_option maxRecDepth 100000 in
/-- provost/text.Key -/
theorem text_Key_ok (s : List UInt8) (hs : s.length ≤ 9223372036854775806) : GCalls Tryd.prog tabs 35 [.S s] (.int .i64 (saysV (namesR 2 s) 31)) := by
  intro st hG
  refine ACalls_of (N := 6) Tryd.func35 (by kernel_rfl) rfl rfl rfl ?_
  refine AC_seq ?_
  refine AC_region ?_
  refine AL_p rfl rfl (S_assign rfl (AEv.const _)) ?_
  refine AL_nil ?_
  refine AC_seq ?_
  refine AC_region ?_
  refine AL_p rfl rfl (S_move rfl (AEv.tmp rfl)) ?_
  refine AL_p rfl rfl (S_gcall rfl (AEvs.cons (AEv.tmp rfl) (AEvs.cons (AEv.const _) AEvs.nil)) (text_names_ok s 2 (by decide) hs _ hG)) ?_
  refine AL_p rfl rfl (S_pcall rfl (AEvs.cons (AEv.tmp rfl) (AEvs.cons (AEv.const _) AEvs.nil)) (text_says_ok _ _)) ?_
  refine AL_p rfl rfl (S_assign rfl (AEv.tmp rfl)) ?_
  refine AL_nil ?_
  refine AC_ret ?_
  refine ret_tmp st rfl rfl (Sub.l (List.Sublist.refl _)) (Conv.refl (Sub.l (List.Sublist.refl _)) _) ⟨rfl, rfl⟩ (.inl rfl)

set_option maxRecDepth 100000 in
/-- provost/text.Val -/
theorem text_Val_ok (s : List UInt8) (hs : s.length ≤ 9223372036854775806) : GCalls Tryd.prog tabs 36 [.S s] (.int .i64 (saysV (valV s) 32)) := by
  intro st hG
  refine ACalls_of (N := 11) Tryd.func36 (by kernel_rfl) rfl rfl rfl ?_
  refine AC_seq ?_
  refine AC_region ?_
  refine AL_p rfl rfl (S_assign rfl (AEv.const _)) ?_
  refine AL_nil ?_
  refine AC_seq ?_
  refine AC_region ?_
  refine AL_p rfl rfl (S_move rfl (AEv.tmp rfl)) ?_
  refine AL_p rfl rfl (S_lenS (ts := #[]) rfl (AEv.tmp rfl) (by kernel_rfl)) ?_
  refine AL_p rfl rfl (S_leq rfl (AEv.tmp rfl) (AEv.const _)) ?_
  refine AL_p rfl rfl (S_move rfl (AEv.tmp rfl)) ?_
  refine AL_g rfl rfl (AEv.tmp rfl) rfl (fun hg1 => S_move rfl (AEv.tmp rfl)) ?_
  refine AL_g rfl rfl (AEv.tmp rfl) rfl (fun hg4 => S_gcall rfl (AEvs.cons (AEv.cond (AEv.tmp rfl) (by first | assumption | exact gdAnd (by assumption) (by assumption))) (AEvs.cons (AEv.const _) AEvs.nil)) ((text_all_ok _ _ (by first | exact .inl rfl | exact .inr (.inl rfl) | exact .inr (.inr rfl)) (by omega)) _ (fun p hp => by first | exact hG p hp | (simp [hG p hp]; done)))) ?_
  refine AL_p rfl rfl (S_and rfl (AEv.tmp rfl) (fun hp7 => (AEv.cond (AEv.tmp rfl) (by first | assumption | exact gdT hp7 | exact gdF hp7 | exact gdAnd (by assumption) (gdT hp7) | exact gdAnd (by assumption) (gdF hp7))))) ?_
  refine AL_p rfl rfl (S_pcall rfl (AEvs.cons (AEv.tmp rfl) (AEvs.cons (AEv.const _) AEvs.nil)) (text_says_ok _ _)) ?_
  refine AL_p rfl rfl (S_assign rfl (AEv.tmp rfl)) ?_
  refine AL_nil ?_
  refine AC_ret ?_
  refine ret_tmp st rfl rfl (Sub.l (List.Sublist.refl _)) (Conv.refl (Sub.l (List.Sublist.refl _)) _) ⟨rfl, rfl⟩ (.inl rfl)

set_option maxRecDepth 100000 in
/-- provost/text.repo -/
theorem text_repo_ok (s : List UInt8) (hs : s.length ≤ 9223372036854775806) : GCalls Tryd.prog tabs 51 [.S s] (.bool (repoV s)) := by
  intro st hG
  refine ACalls_of (N := 10) Tryd.func51 (by kernel_rfl) rfl rfl rfl ?_
  refine AC_seq ?_
  refine AC_region ?_
  refine AL_p rfl rfl (S_assign rfl (AEv.const _)) ?_
  refine AL_nil ?_
  refine AC_seq ?_
  refine AC_region ?_
  refine AL_p rfl rfl (S_move rfl (AEv.tmp rfl)) ?_
  refine AL_p rfl rfl (S_lenS (ts := #[]) rfl (AEv.tmp rfl) (by kernel_rfl)) ?_
  refine AL_p rfl rfl (S_leq rfl (AEv.tmp rfl) (AEv.const _)) ?_
  refine AL_p rfl rfl (S_move rfl (AEv.tmp rfl)) ?_
  refine AL_g rfl rfl (AEv.tmp rfl) rfl (fun hg1 => S_move rfl (AEv.tmp rfl)) ?_
  refine AL_g rfl rfl (AEv.tmp rfl) rfl (fun hg4 => S_gcall rfl (AEvs.cons (AEv.cond (AEv.tmp rfl) (by first | assumption | exact gdAnd (by assumption) (by assumption))) (AEvs.cons (AEv.const _) AEvs.nil)) (text_names_ok s 24 (by decide) hs _ hG)) ?_
  refine AL_p rfl rfl (S_and rfl (AEv.tmp rfl) (fun hp7 => (AEv.cond (AEv.tmp rfl) (by first | assumption | exact gdT hp7 | exact gdF hp7 | exact gdAnd (by assumption) (gdT hp7) | exact gdAnd (by assumption) (gdF hp7))))) ?_
  refine AL_p rfl rfl (S_assign rfl (AEv.tmp rfl)) ?_
  refine AL_nil ?_
  refine AC_ret ?_
  refine ret_tmp st rfl rfl (Sub.l (List.Sublist.refl _)) (Conv.refl (Sub.l (List.Sublist.refl _)) _) ⟨rfl, rfl⟩ (.inl rfl)

set_option maxRecDepth 100000 in
/-- provost/text.tag -/
theorem text_tag_ok (s : List UInt8) (hs : s.length ≤ 9223372036854775806) : GCalls Tryd.prog tabs 52 [.S s] (.bool (tagV s)) := by
  intro st hG
  refine ACalls_of (N := 14) Tryd.func52 (by kernel_rfl) rfl rfl rfl ?_
  refine AC_seq ?_
  refine AC_region ?_
  refine AL_p rfl rfl (S_assign rfl (AEv.const _)) ?_
  refine AL_nil ?_
  refine AC_seq ?_
  refine AC_region ?_
  refine AL_p rfl rfl (S_move rfl (AEv.tmp rfl)) ?_
  refine AL_p rfl rfl (S_neS rfl (AEv.tmp rfl) (AEv.S _)) ?_
  refine AL_p rfl rfl (S_move rfl (AEv.tmp rfl)) ?_
  refine AL_g rfl rfl (AEv.tmp rfl) rfl (fun hg1 => S_move rfl (AEv.tmp rfl)) ?_
  refine AL_g rfl rfl (AEv.tmp rfl) rfl (fun hg4 => S_lenS (ts := #[]) rfl (AEv.cond (AEv.tmp rfl) (by first | assumption | exact gdAnd (by assumption) (by assumption))) (by kernel_rfl)) ?_
  refine AL_g rfl rfl (AEv.tmp rfl) rfl (fun hg7 => S_leq rfl (AEv.cond (AEv.tmp rfl) (by first | assumption | exact gdAnd (by assumption) (by assumption))) (AEv.const _)) ?_
  refine AL_p rfl rfl (S_and rfl (AEv.tmp rfl) (fun hp10 => (AEv.cond (AEv.tmp rfl) (by first | assumption | exact gdT hp10 | exact gdF hp10 | exact gdAnd (by assumption) (gdT hp10) | exact gdAnd (by assumption) (gdF hp10))))) ?_
  refine AL_p rfl rfl (S_move rfl (AEv.tmp rfl)) ?_
  refine AL_g rfl rfl (AEv.tmp rfl) rfl (fun hg11 => S_move rfl (AEv.tmp rfl)) ?_
  refine AL_g rfl rfl (AEv.tmp rfl) rfl (fun hg14 => S_gcall rfl (AEvs.cons (AEv.cond (AEv.tmp rfl) (by first | assumption | exact gdAnd (by assumption) (by assumption))) (AEvs.cons (AEv.const _) AEvs.nil)) ((text_all_ok _ _ (by first | exact .inl rfl | exact .inr (.inl rfl) | exact .inr (.inr rfl)) (by omega)) _ (fun p hp => by first | exact hG p hp | (simp [hG p hp]; done)))) ?_
  refine AL_p rfl rfl (S_and rfl (AEv.tmp rfl) (fun hp17 => (AEv.cond (AEv.tmp rfl) (by first | assumption | exact gdT hp17 | exact gdF hp17 | exact gdAnd (by assumption) (gdT hp17) | exact gdAnd (by assumption) (gdF hp17))))) ?_
  refine AL_p rfl rfl (S_assign rfl (AEv.tmp rfl)) ?_
  refine AL_nil ?_
  refine AC_ret ?_
  refine ret_tmp st rfl rfl (Sub.l (List.Sublist.refl _)) (Conv.refl (Sub.l (List.Sublist.refl _)) _) ⟨rfl, rfl⟩ (.inl rfl)

set_option maxRecDepth 100000 in
/-- provost/text.parts -/
theorem text_parts_ok (s : List UInt8) (hs : s.length ≤ 9223372036854775806) : GCalls Tryd.prog tabs 46 [.S s] (.tup [.S (tparts s).1, .S (tparts s).2.1, .bool (tparts s).2.2]) := by
  intro st hG
  refine ACalls_of (N := 28) Tryd.func46 (by kernel_rfl) rfl rfl rfl ?_
  have hcl := cutV_le 58 s
  have hcl2 := cutV_le2 58 s
  refine AC_seq ?_
  refine AC_region ?_
  refine AL_p rfl rfl (S_assign rfl (AEv.S _)) ?_
  refine AL_p rfl rfl (S_assign rfl (AEv.S _)) ?_
  refine AL_p rfl rfl (S_assign rfl (AEv.const _)) ?_
  refine AL_nil ?_
  refine AC_seq ?_
  refine AC_region ?_
  refine AL_p rfl rfl (S_move rfl (AEv.tmp rfl)) ?_
  refine AL_p rfl rfl (S_pcall rfl (AEvs.cons (AEv.tmp rfl) (AEvs.cons (AEv.S _) AEvs.nil)) (strings_Cut_ok s 58 hs)) ?_
  refine AL_p rfl rfl (S_move rfl (AEv.tmp rfl)) ?_
  refine AL_p rfl rfl (S_extract 0 rfl (AEv.tmp rfl) rfl) ?_
  refine AL_p rfl rfl (S_extract 1 rfl (AEv.tmp rfl) rfl) ?_
  refine AL_p rfl rfl (S_extract 2 rfl (AEv.tmp rfl) rfl) ?_
  refine AL_p rfl rfl (S_assign rfl (AEv.tmp rfl)) ?_
  refine AL_p rfl rfl (S_assign rfl (AEv.tmp rfl)) ?_
  refine AL_p rfl rfl (S_assign rfl (AEv.tmp rfl)) ?_
  refine AL_nil ?_
  refine AC_seq ?_
  refine AC_seq ?_
  refine AC_region ?_
  refine AL_p rfl rfl (S_move rfl (AEv.tmp rfl)) ?_
  refine AL_p rfl rfl (S_not rfl (AEv.tmp rfl)) ?_
  refine AL_p rfl rfl (S_move rfl (AEv.tmp rfl)) ?_
  refine AL_g rfl rfl (AEv.tmp rfl) rfl (fun hg1 => S_move rfl (AEv.tmp rfl)) ?_
  refine AL_g rfl rfl (AEv.tmp rfl) rfl (fun hg4 => S_gcall rfl (AEvs.cons (AEv.cond (AEv.tmp rfl) (by first | assumption | exact gdAnd (by assumption) (by assumption))) AEvs.nil) ((text_repo_ok _ (by omega)) _ (fun p hp => by first | exact hG p hp | (simp [hG p hp]; done)))) ?_
  refine AL_g rfl rfl (AEv.tmp rfl) rfl (fun hg7 => S_not rfl (AEv.cond (AEv.tmp rfl) (by first | assumption | exact gdAnd (by assumption) (by assumption)))) ?_
  refine AL_p rfl rfl (S_or rfl (AEv.tmp rfl) (fun hp10 => (AEv.cond (AEv.tmp rfl) (by first | assumption | exact gdT hp10 | exact gdF hp10 | exact gdAnd (by assumption) (gdT hp10) | exact gdAnd (by assumption) (gdF hp10))))) ?_
  refine AL_p rfl rfl (S_move rfl (AEv.tmp rfl)) ?_
  refine AL_g rfl rfl (AEv.tmp rfl) rfl (fun hg11 => S_move rfl (AEv.tmp rfl)) ?_
  refine AL_g rfl rfl (AEv.tmp rfl) rfl (fun hg14 => S_gcall rfl (AEvs.cons (AEv.cond (AEv.tmp rfl) (by first | assumption | exact gdAnd (by assumption) (by assumption))) AEvs.nil) ((text_tag_ok _ (by omega)) _ (fun p hp => by first | exact hG p hp | (simp [hG p hp]; done)))) ?_
  refine AL_g rfl rfl (AEv.tmp rfl) rfl (fun hg17 => S_not rfl (AEv.cond (AEv.tmp rfl) (by first | assumption | exact gdAnd (by assumption) (by assumption)))) ?_
  refine AL_p rfl rfl (S_or rfl (AEv.tmp rfl) (fun hp20 => (AEv.cond (AEv.tmp rfl) (by first | assumption | exact gdT hp20 | exact gdF hp20 | exact gdAnd (by assumption) (gdT hp20) | exact gdAnd (by assumption) (gdF hp20))))) ?_
  refine AL_nil ?_
  refine AC_cond (AEv.tmp rfl) (fun hb21 => ?_) (fun hb21 => ?_)
  · try simp only [Bool.and_eq_true, Bool.or_eq_true, Bool.not_eq_true', Bool.not_eq_false', Bool.and_eq_false_iff, Bool.or_eq_false_iff, decide_eq_true_eq, decide_eq_false_iff_not, gd] at hb21
    have ht := tparts_no (s := s) (fun h => by rw [h.1, h.2.1, h.2.2] at hb21; simp at hb21)
    refine AC_seq ?_
    refine AC_region ?_
    refine AL_p rfl rfl (S_assign rfl (AEv.S _)) ?_
    refine AL_p rfl rfl (S_assign rfl (AEv.S _)) ?_
    refine AL_p rfl rfl (S_assign rfl (AEv.const _)) ?_
    refine AL_nil ?_
    refine AC_ret ?_
    refine ret_tmps (ts := [2, 3, 4]) st rfl (by decide) rfl (Sub.l (List.Sublist.refl _)) (Conv.refl (Sub.l (List.Sublist.refl _)) _) ⟨(show AV.tup [.S [], .S [], .bool false] = _ from by rw [ht]), rfl⟩ (.inl rfl)
  · try simp only [Bool.and_eq_true, Bool.or_eq_true, Bool.not_eq_true', Bool.not_eq_false', Bool.and_eq_false_iff, Bool.or_eq_false_iff, decide_eq_true_eq, decide_eq_false_iff_not, gd] at hb21
    have hc3 : (cutV 58 s).2.2 = true ∧ repoV (cutV 58 s).1 = true ∧ tagV (cutV 58 s).2.1 = true := by
      cases h1 : (cutV 58 s).2.2 <;> cases h2 : repoV (cutV 58 s).1 <;> cases h3 : tagV (cutV 58 s).2.1 <;> simp_all
    have ht : tparts s = ((cutV 58 s).1, (cutV 58 s).2.1, true) := by rw [tparts, if_pos hc3]
    refine AC_skip ?_
    refine AC_seq ?_
    refine AC_region ?_
    refine AL_p rfl rfl (S_move rfl (AEv.tmp rfl)) ?_
    refine AL_p rfl rfl (S_move rfl (AEv.tmp rfl)) ?_
    refine AL_p rfl rfl (S_assign rfl (AEv.tmp rfl)) ?_
    refine AL_p rfl rfl (S_assign rfl (AEv.tmp rfl)) ?_
    refine AL_p rfl rfl (S_assign rfl (AEv.const _)) ?_
    refine AL_nil ?_
    refine AC_ret ?_
    refine ret_tmps (ts := [2, 3, 4]) st rfl (by decide) rfl (Sub.l (List.Sublist.refl _)) (Conv.refl (Sub.l (List.Sublist.refl _)) _) ⟨(show AV.tup [.S (cutV 58 s).1, .S (cutV 58 s).2.1, .bool true] = _ from by rw [ht]), rfl⟩ (.inl rfl)

set_option maxRecDepth 100000 in
/-- provost/text.Image -/
theorem text_Image_ok (s : List UInt8) (hs : s.length ≤ 9223372036854775806) : GCalls Tryd.prog tabs 38 [.S s] (.int .i64 (saysV (tparts s).2.2 33)) := by
  intro st hG
  refine ACalls_of (N := 14) Tryd.func38 (by kernel_rfl) rfl rfl rfl ?_
  refine AC_seq ?_
  refine AC_region ?_
  refine AL_p rfl rfl (S_assign rfl (AEv.const _)) ?_
  refine AL_nil ?_
  refine AC_seq ?_
  refine AC_region ?_
  refine AL_p rfl rfl (S_move rfl (AEv.tmp rfl)) ?_
  refine AL_p rfl rfl (S_gcall rfl (AEvs.cons (AEv.tmp rfl) AEvs.nil) ((text_parts_ok _ (by omega)) _ (fun p hp => by first | exact hG p hp | (simp [hG p hp]; done)))) ?_
  refine AL_p rfl rfl (S_move rfl (AEv.tmp rfl)) ?_
  refine AL_p rfl rfl (S_extract 0 rfl (AEv.tmp rfl) rfl) ?_
  refine AL_p rfl rfl (S_extract 1 rfl (AEv.tmp rfl) rfl) ?_
  refine AL_p rfl rfl (S_extract 2 rfl (AEv.tmp rfl) rfl) ?_
  refine AL_p rfl rfl (S_assign rfl (AEv.tmp rfl)) ?_
  refine AL_p rfl rfl (S_assign rfl (AEv.tmp rfl)) ?_
  refine AL_p rfl rfl (S_assign rfl (AEv.tmp rfl)) ?_
  refine AL_nil ?_
  refine AC_seq ?_
  refine AC_region ?_
  refine AL_p rfl rfl (S_move rfl (AEv.tmp rfl)) ?_
  refine AL_p rfl rfl (S_pcall rfl (AEvs.cons (AEv.tmp rfl) (AEvs.cons (AEv.const _) AEvs.nil)) (text_says_ok _ _)) ?_
  refine AL_p rfl rfl (S_assign rfl (AEv.tmp rfl)) ?_
  refine AL_nil ?_
  refine AC_ret ?_
  refine ret_tmp st rfl rfl (Sub.l (List.Sublist.refl _)) (Conv.refl (Sub.l (List.Sublist.refl _)) _) ⟨rfl, rfl⟩ (.inl rfl)

end Go.Proofs.YtnjlecejhnoicaaDoor
