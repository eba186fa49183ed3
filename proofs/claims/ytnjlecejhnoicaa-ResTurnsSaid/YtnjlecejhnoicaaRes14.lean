/-
The walks of Go functions in the logic AL: what each of them answers.
Conditions: those of each theorem.
-/
import Derived.Test.YtnjlecejhnoicaaProg
import Derived.Test.YtnjlecejhnoicaaResLem
set_option linter.unusedVariables false
set_option linter.unusedSimpArgs false
namespace Go.Proofs.Ytnjlecejhnoicaa
open Go.AL Go.NumSpec

set_option maxRecDepth 100000 in
/-- provost/num.Add -/
theorem num_Add_ok (a b : Int) (ha : fits a) (hb : fits b) : PCalls Try.prog 24 [.int .i64 a, .int .i64 b] (okAV (addV a b)) := by
  intro st
  refine ACalls_of (N := 27) Try.func24 (by kernel_rfl) rfl rfl rfl ?_
  have hw := i64w (a + b)
  unfold fits at ha hb
  refine AC_seq ?_
  refine AC_region ?_
  refine AL_p rfl rfl (S_assign rfl (AEv.const _)) ?_
  refine AL_p rfl rfl (S_assign rfl (AEv.const _)) ?_
  refine AL_nil ?_
  refine AC_seq ?_
  refine AC_region ?_
  refine AL_p rfl rfl (S_move rfl (AEv.tmp rfl)) ?_
  refine AL_p rfl rfl (S_move rfl (AEv.tmp rfl)) ?_
  refine AL_p rfl rfl (S_add rfl (AEv.tmp rfl) (AEv.tmp rfl)) ?_
  refine AL_p rfl rfl (S_assign rfl (AEv.tmp rfl)) ?_
  refine AL_nil ?_
  refine AC_seq ?_
  refine AC_seq ?_
  refine AC_region ?_
  refine AL_p rfl rfl (S_move rfl (AEv.tmp rfl)) ?_
  refine AL_p rfl rfl (S_gtr rfl (AEv.tmp rfl) (AEv.const _)) ?_
  refine AL_p rfl rfl (S_move rfl (AEv.tmp rfl)) ?_
  refine AL_g rfl rfl (AEv.tmp rfl) rfl (fun hg1 => S_move rfl (AEv.tmp rfl)) ?_
  refine AL_g rfl rfl (AEv.tmp rfl) rfl (fun hg4 => S_move rfl (AEv.tmp rfl)) ?_
  refine AL_g rfl rfl (AEv.tmp rfl) rfl (fun hg7 => S_lss rfl (AEv.cond (AEv.tmp rfl) (by first | assumption | exact gdAnd (by assumption) (by assumption))) (AEv.cond (AEv.tmp rfl) (by first | assumption | exact gdAnd (by assumption) (by assumption)))) ?_
  refine AL_p rfl rfl (S_and rfl (AEv.tmp rfl) (fun hp10 => (AEv.cond (AEv.tmp rfl) (by first | assumption | exact gdT hp10 | exact gdF hp10 | exact gdAnd (by assumption) (gdT hp10) | exact gdAnd (by assumption) (gdF hp10))))) ?_
  refine AL_p rfl rfl (S_move rfl (AEv.tmp rfl)) ?_
  refine AL_g rfl rfl (AEv.tmp rfl) rfl (fun hg11 => S_move rfl (AEv.tmp rfl)) ?_
  refine AL_g rfl rfl (AEv.tmp rfl) rfl (fun hg14 => S_lss rfl (AEv.cond (AEv.tmp rfl) (by first | assumption | exact gdAnd (by assumption) (by assumption))) (AEv.const _)) ?_
  refine AL_g rfl rfl (AEv.tmp rfl) rfl (fun hg17 => S_move rfl (AEv.cond (AEv.tmp rfl) (by first | assumption | exact gdAnd (by assumption) (by assumption)))) ?_
  refine AL_gg rfl rfl (AEv.tmp rfl) rfl (fun hg20 hg21 hg22 => S_move rfl (AEv.tmp rfl)) ?_
  refine AL_gg rfl rfl (AEv.tmp rfl) rfl (fun hg23 hg24 hg25 => S_move rfl (AEv.tmp rfl)) ?_
  refine AL_gg rfl rfl (AEv.tmp rfl) rfl (fun hg26 hg27 hg28 => S_gtr rfl (AEv.cond (AEv.tmp rfl) (by first | assumption | exact gdAnd (by assumption) (by assumption))) (AEv.cond (AEv.tmp rfl) (by first | assumption | exact gdAnd (by assumption) (by assumption)))) ?_
  refine AL_g rfl rfl (AEv.tmp rfl) rfl (fun hg29 => S_and rfl (AEv.cond (AEv.tmp rfl) (by first | assumption | exact gdAnd (by assumption) (by assumption))) (fun hp32 => (AEv.cond (AEv.tmp rfl) (by first | assumption | exact gdT hp32 | exact gdF hp32 | exact gdAnd (by assumption) (gdT hp32) | exact gdAnd (by assumption) (gdF hp32))))) ?_
  refine AL_p rfl rfl (S_or rfl (AEv.tmp rfl) (fun hp33 => (AEv.cond (AEv.tmp rfl) (by first | assumption | exact gdT hp33 | exact gdF hp33 | exact gdAnd (by assumption) (gdT hp33) | exact gdAnd (by assumption) (gdF hp33))))) ?_
  refine AL_nil ?_
  refine AC_cond (AEv.tmp rfl) (fun hb34 => ?_) (fun hb34 => ?_)
  · try simp only [Bool.and_eq_true, Bool.or_eq_true, Bool.not_eq_true', Bool.not_eq_false', Bool.and_eq_false_iff, Bool.or_eq_false_iff, decide_eq_true_eq, decide_eq_false_iff_not, gd] at hb34
    refine AC_seq ?_
    refine AC_region ?_
    refine AL_p rfl rfl (S_assign rfl (AEv.const _)) ?_
    refine AL_p rfl rfl (S_assign rfl (AEv.const _)) ?_
    refine AL_nil ?_
    refine AC_ret ?_
    refine ret_tmps (ts := [4, 5]) st rfl (by decide) rfl (List.Sublist.refl _) (Conv.refl (List.Sublist.refl _) _) ⟨add_no ha hb (by unfold fits; omega), rfl⟩ (.inl rfl)
  · try simp only [Bool.and_eq_true, Bool.or_eq_true, Bool.not_eq_true', Bool.not_eq_false', Bool.and_eq_false_iff, Bool.or_eq_false_iff, decide_eq_true_eq, decide_eq_false_iff_not, gd] at hb34
    refine AC_skip ?_
    refine AC_seq ?_
    refine AC_region ?_
    refine AL_p rfl rfl (S_move rfl (AEv.tmp rfl)) ?_
    refine AL_p rfl rfl (S_assign rfl (AEv.tmp rfl)) ?_
    refine AL_p rfl rfl (S_assign rfl (AEv.const _)) ?_
    refine AL_nil ?_
    refine AC_ret ?_
    refine ret_tmps (ts := [4, 5]) st rfl (by decide) rfl (List.Sublist.refl _) (Conv.refl (List.Sublist.refl _) _) ⟨add_yes (by unfold fits; omega), rfl⟩ (.inl rfl)

set_option maxRecDepth 100000 in
/-- provost/provostref01.Add -/
theorem ref_Add_ok (a b : Int) (ha : fits a) (hb : fits b) : PCalls Try.prog 26 [.int .i64 a, .int .i64 b] (okAV (addV a b)) := by
  intro st
  refine ACalls_of (N := 27) Try.func26 (by kernel_rfl) rfl rfl rfl ?_
  have hw1 := i64w (9223372036854775807 - b)
  have hw2 := i64w (-9223372036854775808 - b)
  unfold fits at ha hb
  refine AC_seq ?_
  refine AC_region ?_
  refine AL_p rfl rfl (S_assign rfl (AEv.const _)) ?_
  refine AL_p rfl rfl (S_assign rfl (AEv.const _)) ?_
  refine AL_nil ?_
  refine AC_seq ?_
  refine AC_seq ?_
  refine AC_region ?_
  refine AL_p rfl rfl (S_move rfl (AEv.tmp rfl)) ?_
  refine AL_p rfl rfl (S_geq rfl (AEv.tmp rfl) (AEv.const _)) ?_
  refine AL_p rfl rfl (S_move rfl (AEv.tmp rfl)) ?_
  refine AL_g rfl rfl (AEv.tmp rfl) rfl (fun hg1 => S_move rfl (AEv.tmp rfl)) ?_
  refine AL_g rfl rfl (AEv.tmp rfl) rfl (fun hg4 => S_move rfl (AEv.tmp rfl)) ?_
  refine AL_g rfl rfl (AEv.tmp rfl) rfl (fun hg7 => S_sub rfl (AEv.const _) (AEv.cond (AEv.tmp rfl) (by first | assumption | exact gdAnd (by assumption) (by assumption)))) ?_
  refine AL_g rfl rfl (AEv.tmp rfl) rfl (fun hg10 => S_gtr rfl (AEv.cond (AEv.tmp rfl) (by first | assumption | exact gdAnd (by assumption) (by assumption))) (AEv.cond (AEv.tmp rfl) (by first | assumption | exact gdAnd (by assumption) (by assumption)))) ?_
  refine AL_p rfl rfl (S_and rfl (AEv.tmp rfl) (fun hp13 => (AEv.cond (AEv.tmp rfl) (by first | assumption | exact gdT hp13 | exact gdF hp13 | exact gdAnd (by assumption) (gdT hp13) | exact gdAnd (by assumption) (gdF hp13))))) ?_
  refine AL_p rfl rfl (S_move rfl (AEv.tmp rfl)) ?_
  refine AL_g rfl rfl (AEv.tmp rfl) rfl (fun hg14 => S_move rfl (AEv.tmp rfl)) ?_
  refine AL_g rfl rfl (AEv.tmp rfl) rfl (fun hg17 => S_lss rfl (AEv.cond (AEv.tmp rfl) (by first | assumption | exact gdAnd (by assumption) (by assumption))) (AEv.const _)) ?_
  refine AL_g rfl rfl (AEv.tmp rfl) rfl (fun hg20 => S_move rfl (AEv.cond (AEv.tmp rfl) (by first | assumption | exact gdAnd (by assumption) (by assumption)))) ?_
  refine AL_gg rfl rfl (AEv.tmp rfl) rfl (fun hg23 hg24 hg25 => S_move rfl (AEv.tmp rfl)) ?_
  refine AL_gg rfl rfl (AEv.tmp rfl) rfl (fun hg26 hg27 hg28 => S_move rfl (AEv.tmp rfl)) ?_
  refine AL_gg rfl rfl (AEv.tmp rfl) rfl (fun hg29 hg30 hg31 => S_sub rfl (AEv.const _) (AEv.cond (AEv.tmp rfl) (by first | assumption | exact gdAnd (by assumption) (by assumption)))) ?_
  refine AL_gg rfl rfl (AEv.tmp rfl) rfl (fun hg32 hg33 hg34 => S_lss rfl (AEv.cond (AEv.tmp rfl) (by first | assumption | exact gdAnd (by assumption) (by assumption))) (AEv.cond (AEv.tmp rfl) (by first | assumption | exact gdAnd (by assumption) (by assumption)))) ?_
  refine AL_g rfl rfl (AEv.tmp rfl) rfl (fun hg35 => S_and rfl (AEv.cond (AEv.tmp rfl) (by first | assumption | exact gdAnd (by assumption) (by assumption))) (fun hp38 => (AEv.cond (AEv.tmp rfl) (by first | assumption | exact gdT hp38 | exact gdF hp38 | exact gdAnd (by assumption) (gdT hp38) | exact gdAnd (by assumption) (gdF hp38))))) ?_
  refine AL_p rfl rfl (S_or rfl (AEv.tmp rfl) (fun hp39 => (AEv.cond (AEv.tmp rfl) (by first | assumption | exact gdT hp39 | exact gdF hp39 | exact gdAnd (by assumption) (gdT hp39) | exact gdAnd (by assumption) (gdF hp39))))) ?_
  refine AL_nil ?_
  refine AC_cond (AEv.tmp rfl) (fun hb40 => ?_) (fun hb40 => ?_)
  · try simp only [Bool.and_eq_true, Bool.or_eq_true, Bool.not_eq_true', Bool.not_eq_false', Bool.and_eq_false_iff, Bool.or_eq_false_iff, decide_eq_true_eq, decide_eq_false_iff_not, gd] at hb40
    refine AC_seq ?_
    refine AC_region ?_
    refine AL_p rfl rfl (S_assign rfl (AEv.const _)) ?_
    refine AL_p rfl rfl (S_assign rfl (AEv.const _)) ?_
    refine AL_nil ?_
    refine AC_ret ?_
    refine ret_tmps (ts := [4, 5]) st rfl (by decide) rfl (List.Sublist.refl _) (Conv.refl (List.Sublist.refl _) _) ⟨add_no ha hb (by unfold fits; omega), rfl⟩ (.inl rfl)
  · try simp only [Bool.and_eq_true, Bool.or_eq_true, Bool.not_eq_true', Bool.not_eq_false', Bool.and_eq_false_iff, Bool.or_eq_false_iff, decide_eq_true_eq, decide_eq_false_iff_not, gd] at hb40
    refine AC_skip ?_
    refine AC_seq ?_
    refine AC_region ?_
    refine AL_p rfl rfl (S_move rfl (AEv.tmp rfl)) ?_
    refine AL_p rfl rfl (S_move rfl (AEv.tmp rfl)) ?_
    refine AL_p rfl rfl (S_add rfl (AEv.tmp rfl) (AEv.tmp rfl)) ?_
    refine AL_p rfl rfl (S_assign rfl (AEv.tmp rfl)) ?_
    refine AL_p rfl rfl (S_assign rfl (AEv.const _)) ?_
    refine AL_nil ?_
    refine AC_ret ?_
    refine ret_tmps (ts := [4, 5]) st rfl (by decide) rfl (List.Sublist.refl _) (Conv.refl (List.Sublist.refl _) _) ⟨add_yes (by unfold fits; omega), rfl⟩ (.inl rfl)

set_option maxRecDepth 100000 in
/-- provost/provostref01.size -/
theorem ref_size_ok (a : Int) (ha : fits a) : PCalls Try.prog 34 [.int .i64 a] (.int .u64 (a.natAbs : Int)) := by
  intro st
  refine ACalls_of (N := 10) Try.func34 (by kernel_rfl) rfl rfl rfl ?_
  have hw1 := u64w a
  have hw2 := u64w (0 - IntKind.u64.wrap a)
  unfold fits at ha
  refine AC_seq ?_
  refine AC_region ?_
  refine AL_p rfl rfl (S_assign rfl (AEv.const _)) ?_
  refine AL_nil ?_
  refine AC_seq ?_
  refine AC_seq ?_
  refine AC_region ?_
  refine AL_p rfl rfl (S_move rfl (AEv.tmp rfl)) ?_
  refine AL_p rfl rfl (S_lss rfl (AEv.tmp rfl) (AEv.const _)) ?_
  refine AL_nil ?_
  refine AC_cond (AEv.tmp rfl) (fun hb1 => ?_) (fun hb1 => ?_)
  · try simp only [Bool.and_eq_true, Bool.or_eq_true, Bool.not_eq_true', Bool.not_eq_false', Bool.and_eq_false_iff, Bool.or_eq_false_iff, decide_eq_true_eq, decide_eq_false_iff_not, gd] at hb1
    refine AC_seq ?_
    refine AC_region ?_
    refine AL_p rfl rfl (S_move rfl (AEv.tmp rfl)) ?_
    refine AL_p rfl rfl (S_conv (k' := .u64) rfl (AEv.tmp rfl) (by kernel_rfl) (by kernel_rfl)) ?_
    refine AL_p rfl rfl (S_sub rfl (AEv.const _) (AEv.tmp rfl)) ?_
    refine AL_p rfl rfl (S_assign rfl (AEv.tmp rfl)) ?_
    refine AL_nil ?_
    refine AC_ret ?_
    refine ret_tmp st rfl rfl (List.Sublist.refl _) (Conv.refl (List.Sublist.refl _) _) ⟨by rw [show IntKind.u64.wrap _ = (a.natAbs : Int) by omega], rfl⟩ (.inl rfl)
  · try simp only [Bool.and_eq_true, Bool.or_eq_true, Bool.not_eq_true', Bool.not_eq_false', Bool.and_eq_false_iff, Bool.or_eq_false_iff, decide_eq_true_eq, decide_eq_false_iff_not, gd] at hb1
    refine AC_skip ?_
    refine AC_seq ?_
    refine AC_region ?_
    refine AL_p rfl rfl (S_move rfl (AEv.tmp rfl)) ?_
    refine AL_p rfl rfl (S_conv (k' := .u64) rfl (AEv.tmp rfl) (by kernel_rfl) (by kernel_rfl)) ?_
    refine AL_p rfl rfl (S_assign rfl (AEv.tmp rfl)) ?_
    refine AL_nil ?_
    refine AC_ret ?_
    refine ret_tmp st rfl rfl (List.Sublist.refl _) (Conv.refl (List.Sublist.refl _) _) ⟨by rw [show IntKind.u64.wrap _ = (a.natAbs : Int) by omega], rfl⟩ (.inl rfl)

set_option maxRecDepth 100000 in
/-- provost/num.digits -/
theorem num_digits_ok (n : Nat) (h : n < 18446744073709551616) : PCalls Try.prog 33 [.int .u64 n] (.S (digL n)) := by
  intro st
  refine ACalls_of (N := 20) Try.func33 (by kernel_rfl) rfl rfl rfl ?_
  have hlen : (digL n).length ≤ 20 := digL_20 h
  refine AC_seq ?_
  refine AC_region ?_
  refine AL_p rfl rfl (S_assign rfl (AEv.S _)) ?_
  refine AL_nil ?_
  refine AC_seq ?_
  refine AC_region ?_
  refine AL_step rfl rfl (S_alloc (List.replicate 20 (.int .u8 0)) rfl (by kernel_rfl)) ?_
  rintro _ _ ⟨b1, rfl, rfl⟩
  refine AL_nil ?_
  refine AC_seq ?_
  refine AC_region ?_
  refine AL_p rfl rfl (S_assign rfl (AEv.const _)) ?_
  refine AL_nil ?_
  refine AC_block ?_
  refine AC_loop (G := Nat × List UInt8) (DigInv n) (fun g => [(0, .int .u64 g.1), (3, .ptr b1 0), (4, .int .i64 ((20 - g.2.length : Nat) : Int))]) (fun g => (b1, .cells (padR g.2)) :: st) (fun g => g.1) ((n, [])) (⟨by simp, h, hlen⟩) rfl ?_ ?_
  · exact (.cons rfl (by first | exact Le.refl _ | exact Le.nils | exact Le.row _ _ _ | (exact Le.of_eq (by simp))) (.cons rfl (by first | exact Le.refl _ | exact Le.nils | exact Le.row _ _ _ | (exact Le.of_eq (by simp))) (.cons rfl (by first | exact Le.refl _ | exact Le.nils | exact Le.row _ _ _ | (exact Le.of_eq (by simp))) .nil)))
  · rintro ⟨m, l⟩ hI
    try dsimp only
    have h3 := dig_le hI
    have h2 := hI.lt
    dsimp only at h2
    refine AC_block ?_
    refine AC_seq ?_
    refine AC_region ?_
    refine AL_p rfl rfl (S_move rfl (AEv.tmp rfl)) ?_
    refine AL_p rfl rfl (S_subI rfl (AEv.tmp rfl) (AEv.const _) (by omega) (by omega)) ?_
    refine AL_p rfl rfl (S_assign rfl (AEv.tmp rfl)) ?_
    refine AL_nil ?_
    refine AC_seq ?_
    refine AC_region ?_
    refine AL_p rfl rfl (S_move rfl (AEv.tmp rfl)) ?_
    refine AL_p rfl rfl (S_move rfl (AEv.tmp rfl)) ?_
    refine AL_p rfl rfl (S_remN (n := 10) rfl (AEv.tmp rfl) (AEv.const _) (by omega)) ?_
    refine AL_p rfl rfl (S_conv (k' := .u8) rfl (AEv.tmp rfl) (by kernel_rfl) (by kernel_rfl)) ?_
    refine AL_p rfl rfl (S_add rfl (AEv.const _) (AEv.tmp rfl)) ?_
    refine AL_p rfl rfl (S_elemA (e := 5) (len := 20) 1 rfl (AEv.tmp rfl) (AEv.tmp rfl) (by kernel_rfl) (by kernel_rfl) (by omega) (by omega)) ?_
    refine AL_step rfl rfl (S_store 0 rfl (AEv.tmp rfl) (AEv.tmp rfl) rfl (by rw [padR_len (by omega)]; omega) rfl (by kernel_rfl)) ?_
    rintro _ _ ⟨rfl, rfl⟩
    rw [padR_set (c := UInt8.ofNat (48 + m % 10)) rfl (by rw [wrap_u8 (n := ((m % 10 : Nat) : Int)) (by omega) (by omega), wrap_u8 (by omega) (by omega)]; simp; omega) h3]
    refine AL_nil ?_
    refine AC_seq ?_
    refine AC_region ?_
    refine AL_p rfl rfl (S_move rfl (AEv.tmp rfl)) ?_
    refine AL_p rfl rfl (S_quoN (n := 10) (.inl rfl) rfl (AEv.tmp rfl) (AEv.const _) (by omega) (.inr ⟨rfl, by omega⟩)) ?_
    refine AL_p rfl rfl (S_assign rfl (AEv.tmp rfl)) ?_
    refine AL_nil ?_
    refine AC_seq ?_
    refine AC_region ?_
    refine AL_p rfl rfl (S_move rfl (AEv.tmp rfl)) ?_
    refine AL_p rfl rfl (S_eql rfl (AEv.tmp rfl) (AEv.const _)) ?_
    refine AL_nil ?_
    refine AC_cond (AEv.tmp rfl) (fun hb2 => ?_) (fun hb2 => ?_)
    · try simp only [Bool.and_eq_true, Bool.or_eq_true, Bool.not_eq_true', Bool.not_eq_false', Bool.and_eq_false_iff, Bool.or_eq_false_iff, decide_eq_true_eq, decide_eq_false_iff_not, gd] at hb2
      have hq : m / 10 = 0 := by omega
      refine AC_seq ?_
      refine AC_region ?_
      refine AL_p rfl rfl (S_move rfl (AEv.tmp rfl)) ?_
      refine AL_p rfl rfl (S_cutA (e := 5) (len := 20) (i := 20 - (l.length + 1)) (j := 20) 1 rfl (AEv.tmp rfl) ⟨_, (AEv.tmp rfl).le (Le.of_eq (by rw [show ((20 - l.length : Nat) : Int) - 1 = ((20 - (l.length + 1) : Nat) : Int) by omega]))⟩ rfl (by kernel_rfl) (by kernel_rfl) (by omega) (by omega) (by omega)) ?_
      refine AL_p rfl rfl (S_bytes (e := 5) (l := UInt8.ofNat (48 + m % 10) :: l) 0 rfl (AEv.tmp rfl) rfl (by have := padR_drop (l := UInt8.ofNat (48 + m % 10) :: l) (by simp; omega); simp only [List.length_cons] at this; rw [show 20 - (20 - (l.length + 1)) = l.length + 1 by omega]; exact this) (by simp; omega) (by kernel_rfl) (by kernel_rfl) (by kernel_rfl)) ?_
      refine AL_p rfl rfl (S_assign rfl (AEv.tmp rfl)) ?_
      refine AL_nil ?_
      refine AC_ret ?_
      refine ret_tmp st rfl rfl (List.Sublist.cons _ (List.Sublist.refl _)) (Conv.refl (List.Sublist.cons _ (List.Sublist.refl _)) _) ⟨by rw [dig_end hI hq], rfl⟩ (.inl rfl)
    · try simp only [Bool.and_eq_true, Bool.or_eq_true, Bool.not_eq_true', Bool.not_eq_false', Bool.and_eq_false_iff, Bool.or_eq_false_iff, decide_eq_true_eq, decide_eq_false_iff_not, gd] at hb2
      have hq : m / 10 ≠ 0 := by omega
      refine AC_skip ?_
      refine ⟨_, dig_next hI hq, by show m / 10 < m; omega, rfl, .cons rfl (Le.refl _) (.cons rfl (Le.refl _) (.cons rfl (Le.of_eq (by simp only [List.length_cons]; rw [show ((20 - l.length : Nat) : Int) - 1 = ((20 - (l.length + 1) : Nat) : Int) by omega])) .nil))⟩

set_option maxRecDepth 100000 in
/-- provost/num.Text -/
theorem num_Text_ok (a : Int) (ha : fits a) : PCalls Try.prog 31 [.int .i64 a] (.S (textL a)) := by
  intro st
  refine ACalls_of (N := 13) Try.func31 (by kernel_rfl) rfl rfl rfl ?_
  have hw1 := u64w a
  have hw2 := u64w (-IntKind.u64.wrap a)
  unfold fits at ha
  have hlen : (digL a.natAbs).length ≤ 19 := digL_19 (by omega)
  refine AC_seq ?_
  refine AC_region ?_
  refine AL_p rfl rfl (S_assign rfl (AEv.S _)) ?_
  refine AL_nil ?_
  refine AC_seq ?_
  refine AC_seq ?_
  refine AC_region ?_
  refine AL_p rfl rfl (S_move rfl (AEv.tmp rfl)) ?_
  refine AL_p rfl rfl (S_lss rfl (AEv.tmp rfl) (AEv.const _)) ?_
  refine AL_nil ?_
  refine AC_cond (AEv.tmp rfl) (fun hb1 => ?_) (fun hb1 => ?_)
  · try simp only [Bool.and_eq_true, Bool.or_eq_true, Bool.not_eq_true', Bool.not_eq_false', Bool.and_eq_false_iff, Bool.or_eq_false_iff, decide_eq_true_eq, decide_eq_false_iff_not, gd] at hb1
    refine AC_seq ?_
    refine AC_region ?_
    refine AL_p rfl rfl (S_move rfl (AEv.tmp rfl)) ?_
    refine AL_p rfl rfl (S_conv (k' := .u64) rfl (AEv.tmp rfl) (by kernel_rfl) (by kernel_rfl)) ?_
    refine AL_p rfl rfl (S_neg rfl (AEv.tmp rfl)) ?_
    refine AL_p rfl rfl (S_pcall rfl (AEvs.cons ((AEv.tmp rfl).le (Le.of_eq (by rw [show IntKind.u64.wrap (-IntKind.u64.wrap a) = (a.natAbs : Int) by omega]))) AEvs.nil) (num_digits_ok a.natAbs (by omega))) ?_
    refine AL_p rfl rfl (S_cat rfl (AEv.S _) (AEv.tmp rfl) (by first | omega | (simp; omega))) ?_
    refine AL_p rfl rfl (S_assign rfl (AEv.tmp rfl)) ?_
    refine AL_nil ?_
    refine AC_ret ?_
    refine ret_tmp st rfl rfl (List.Sublist.refl _) (Conv.refl (List.Sublist.refl _) _) ⟨by rw [textL, if_pos (by omega)]; rfl, rfl⟩ (.inl rfl)
  · try simp only [Bool.and_eq_true, Bool.or_eq_true, Bool.not_eq_true', Bool.not_eq_false', Bool.and_eq_false_iff, Bool.or_eq_false_iff, decide_eq_true_eq, decide_eq_false_iff_not, gd] at hb1
    refine AC_skip ?_
    refine AC_seq ?_
    refine AC_region ?_
    refine AL_p rfl rfl (S_move rfl (AEv.tmp rfl)) ?_
    refine AL_p rfl rfl (S_conv (k' := .u64) rfl (AEv.tmp rfl) (by kernel_rfl) (by kernel_rfl)) ?_
    refine AL_p rfl rfl (S_pcall rfl (AEvs.cons ((AEv.tmp rfl).le (Le.of_eq (by rw [show IntKind.u64.wrap a = (a.natAbs : Int) by omega]))) AEvs.nil) (num_digits_ok a.natAbs (by omega))) ?_
    refine AL_p rfl rfl (S_assign rfl (AEv.tmp rfl)) ?_
    refine AL_nil ?_
    refine AC_ret ?_
    refine ret_tmp st rfl rfl (List.Sublist.refl _) (Conv.refl (List.Sublist.refl _) _) ⟨by rw [textL, if_neg (by omega)], rfl⟩ (.inl rfl)

set_option maxRecDepth 100000 in
/-- provost/provostref01.Text -/
theorem ref_Text_ok (a : Int) (ha : fits a) : PCalls Try.prog 32 [.int .i64 a] (.S (textL a)) := by
  intro st
  refine ACalls_of (N := 35) Try.func32 (by kernel_rfl) rfl rfl rfl ?_
  have hlen : (digL a.natAbs).length ≤ 19 := digL_19 (by unfold fits at ha; omega)
  refine AC_seq ?_
  refine AC_region ?_
  refine AL_p rfl rfl (S_assign rfl (AEv.S _)) ?_
  refine AL_nil ?_
  refine AC_seq ?_
  refine AC_region ?_
  refine AL_p rfl rfl (S_assign rfl (AEv.S _)) ?_
  refine AL_nil ?_
  refine AC_seq ?_
  refine AC_region ?_
  refine AL_p rfl rfl (S_move rfl (AEv.tmp rfl)) ?_
  refine AL_p rfl rfl (S_pcall rfl (AEvs.cons (AEv.tmp rfl) AEvs.nil) (ref_size_ok _ (by first | assumption | decide))) ?_
  refine AL_p rfl rfl (S_assign rfl (AEv.tmp rfl)) ?_
  refine AL_nil ?_
  refine AC_seq ?_
  refine AC_seq ?_
  refine AC_region ?_
  refine AL_p rfl rfl (S_assign rfl (AEv.const _)) ?_
  refine AL_nil ?_
  refine AC_block ?_
  refine AC_loop (G := Nat × List UInt8) (TextInv a.natAbs) (fun g => [(0, .int .i64 a), (3, .S g.2), (4, .int .u64 (g.1 : Int)), (5, .int .i64 (g.2.length : Int))]) (fun g => st) (fun g => g.1 + (if g.2 = [] then 1 else 0)) ((a.natAbs, [])) (⟨hlen, by simp, by unfold fits at ha; dsimp only; omega, .inl ⟨rfl, rfl⟩⟩) rfl ?_ ?_
  · exact (.cons rfl (by first | exact Le.refl _ | exact Le.nils | exact Le.row _ _ _ | (exact Le.of_eq (by simp))) (.cons rfl (by first | exact Le.refl _ | exact Le.nils | exact Le.row _ _ _ | (exact Le.of_eq (by simp))) (.cons rfl (by first | exact Le.refl _ | exact Le.nils | exact Le.row _ _ _ | (exact Le.of_eq (by simp))) (.cons rfl (by first | exact Le.refl _ | exact Le.nils | exact Le.row _ _ _ | (exact Le.of_eq (by simp))) .nil))))
  · rintro ⟨u, s⟩ hI
    try dsimp only
    have hlow := hI.low
    have hlt := hI.lt
    dsimp only at hlow hlt
    refine AC_seq ?_
    refine AC_seq ?_
    refine AC_region ?_
    refine AL_p rfl rfl (S_move rfl (AEv.tmp rfl)) ?_
    refine AL_p rfl rfl (S_eql rfl (AEv.tmp rfl) (AEv.const _)) ?_
    refine AL_p rfl rfl (S_move rfl (AEv.tmp rfl)) ?_
    refine AL_g rfl rfl (AEv.tmp rfl) rfl (fun hg1 => S_move rfl (AEv.tmp rfl)) ?_
    refine AL_g rfl rfl (AEv.tmp rfl) rfl (fun hg4 => S_gtr rfl (AEv.cond (AEv.tmp rfl) (by first | assumption | exact gdAnd (by assumption) (by assumption))) (AEv.const _)) ?_
    refine AL_g rfl rfl (AEv.tmp rfl) rfl (fun hg7 => S_move rfl (AEv.cond (AEv.tmp rfl) (by first | assumption | exact gdAnd (by assumption) (by assumption)))) ?_
    refine AL_gg rfl rfl (AEv.tmp rfl) rfl (fun hg10 hg11 hg12 => S_move rfl (AEv.tmp rfl)) ?_
    refine AL_gg rfl rfl (AEv.tmp rfl) rfl (fun hg13 hg14 hg15 => S_lss rfl (AEv.cond (AEv.tmp rfl) (by first | assumption | exact gdAnd (by assumption) (by assumption))) (AEv.const _)) ?_
    refine AL_g rfl rfl (AEv.tmp rfl) rfl (fun hg16 => S_and rfl (AEv.cond (AEv.tmp rfl) (by first | assumption | exact gdAnd (by assumption) (by assumption))) (fun hp19 => (AEv.cond (AEv.tmp rfl) (by first | assumption | exact gdT hp19 | exact gdF hp19 | exact gdAnd (by assumption) (gdT hp19) | exact gdAnd (by assumption) (gdF hp19))))) ?_
    refine AL_p rfl rfl (S_or rfl (AEv.tmp rfl) (fun hp20 => (AEv.cond (AEv.tmp rfl) (by first | assumption | exact gdT hp20 | exact gdF hp20 | exact gdAnd (by assumption) (gdT hp20) | exact gdAnd (by assumption) (gdF hp20))))) ?_
    refine AL_nil ?_
    refine AC_cond (AEv.tmp rfl) (fun hb21 => ?_) (fun hb21 => ?_)
    · try simp only [Bool.and_eq_true, Bool.or_eq_true, Bool.not_eq_true', Bool.not_eq_false', Bool.and_eq_false_iff, Bool.or_eq_false_iff, decide_eq_true_eq, decide_eq_false_iff_not, gd] at hb21
      have hs : s = [] ∨ u ≠ 0 := by
        rcases hb21 with h | h
        · exact .inl (List.eq_nil_of_length_eq_zero (by omega))
        · exact .inr (by omega)
      refine AC_skip ?_
      refine AC_seq ?_
      refine AC_block ?_
      refine AC_seq ?_
      refine AC_region ?_
      refine AL_p rfl rfl (S_move rfl (AEv.tmp rfl)) ?_
      refine AL_p rfl rfl (S_remN (n := 10) rfl (AEv.tmp rfl) (AEv.const _) (by omega)) ?_
      refine AL_p rfl rfl (S_add rfl (AEv.const _) (AEv.tmp rfl)) ?_
      refine AL_p rfl rfl (S_conv (k' := .u8) rfl (AEv.tmp rfl) (by kernel_rfl) (by kernel_rfl)) ?_
      refine AL_p rfl rfl (S_buildSlice (e := 5) 1 rfl (AEvs.cons (AEv.tmp rfl) AEvs.nil) rfl (by kernel_rfl) (by kernel_rfl) (by simp [AV.flat, AV.one, AV.cells, Value.oneCell']) (by decide) (by decide) (by decide)) ?_
      refine AL_p rfl rfl (S_bytesSl (e := 5) [UInt8.ofNat (48 + u % 10)] rfl (AEv.tmp rfl) (by simp [bytesAV]; rw [wrap_u64 (by omega) (by omega), wrap_u8 (by omega) (by omega)]; omega) (by kernel_rfl) (by kernel_rfl) (by kernel_rfl)) ?_
      refine AL_p rfl rfl (S_move rfl (AEv.tmp rfl)) ?_
      refine AL_p rfl rfl (S_cat rfl (AEv.tmp rfl) (AEv.tmp rfl) (by first | omega | (simp; omega))) ?_
      refine AL_p rfl rfl (S_assign rfl (AEv.tmp rfl)) ?_
      refine AL_nil ?_
      refine AC_region ?_
      refine AL_p rfl rfl (S_move rfl (AEv.tmp rfl)) ?_
      refine AL_p rfl rfl (S_quoN (n := 10) (.inl rfl) rfl (AEv.tmp rfl) (AEv.const _) (by omega) (.inr ⟨rfl, by omega⟩)) ?_
      refine AL_p rfl rfl (S_assign rfl (AEv.tmp rfl)) ?_
      refine AL_nil ?_
      refine AC_region ?_
      refine AL_p rfl rfl (S_move rfl (AEv.tmp rfl)) ?_
      refine AL_p rfl rfl (S_addI rfl (AEv.tmp rfl) (AEv.const _) (by omega) (by omega)) ?_
      refine AL_p rfl rfl (S_assign rfl (AEv.tmp rfl)) ?_
      refine AL_nil ?_
      refine ⟨(u / 10, UInt8.ofNat (48 + u % 10) :: s), text_next hI hs, ?_, rfl, .cons rfl (Le.refl _) (.cons rfl (Le.refl _) (.cons rfl (Le.refl _) (.cons rfl (Le.of_eq (by simp)) .nil)))⟩
      show u / 10 + _ < u + _
      rw [if_neg (by simp)]
      rcases hs with rfl | h
      · rw [if_pos rfl]; omega
      · split <;> omega
    · try simp only [Bool.and_eq_true, Bool.or_eq_true, Bool.not_eq_true', Bool.not_eq_false', Bool.and_eq_false_iff, Bool.or_eq_false_iff, decide_eq_true_eq, decide_eq_false_iff_not, gd] at hb21
      have he := text_end hI (by rintro rfl; simp at hb21) (by omega)
      refine AC_exit ?_
      refine AC_seq ?_
      refine AC_seq ?_
      refine AC_region ?_
      refine AL_p rfl rfl (S_move rfl (AEv.tmp rfl)) ?_
      refine AL_p rfl rfl (S_lss rfl (AEv.tmp rfl) (AEv.const _)) ?_
      refine AL_nil ?_
      refine AC_cond (AEv.tmp rfl) (fun hb22 => ?_) (fun hb22 => ?_)
      · try simp only [Bool.and_eq_true, Bool.or_eq_true, Bool.not_eq_true', Bool.not_eq_false', Bool.and_eq_false_iff, Bool.or_eq_false_iff, decide_eq_true_eq, decide_eq_false_iff_not, gd] at hb22
        refine AC_seq ?_
        refine AC_region ?_
        refine AL_p rfl rfl (S_move rfl (AEv.tmp rfl)) ?_
        refine AL_p rfl rfl (S_cat rfl (AEv.S _) (AEv.tmp rfl) (by first | omega | (simp; omega))) ?_
        refine AL_p rfl rfl (S_assign rfl (AEv.tmp rfl)) ?_
        refine AL_nil ?_
        refine AC_ret ?_
        refine ret_tmp st rfl rfl (List.Sublist.refl _) (Conv.refl (List.Sublist.refl _) _) ⟨by rw [textL, if_pos (by omega), he]; rfl, rfl⟩ (.inl rfl)
      · try simp only [Bool.and_eq_true, Bool.or_eq_true, Bool.not_eq_true', Bool.not_eq_false', Bool.and_eq_false_iff, Bool.or_eq_false_iff, decide_eq_true_eq, decide_eq_false_iff_not, gd] at hb22
        refine AC_skip ?_
        refine AC_seq ?_
        refine AC_region ?_
        refine AL_p rfl rfl (S_move rfl (AEv.tmp rfl)) ?_
        refine AL_p rfl rfl (S_assign rfl (AEv.tmp rfl)) ?_
        refine AL_nil ?_
        refine AC_ret ?_
        refine ret_tmp st rfl rfl (List.Sublist.refl _) (Conv.refl (List.Sublist.refl _) _) ⟨by rw [textL, if_neg (by omega), he], rfl⟩ (.inl rfl)

set_option maxRecDepth 100000 in
/-- provost/res.of -/
theorem res_of_ok (a : Tri) : PCalls Try.prog 23 [resAV a] (resAV a) := by
  intro st
  refine ACalls_of (N := 10) Try.func23 (by kernel_rfl) rfl rfl rfl ?_
  refine AC_seq ?_
  refine AC_region ?_
  refine AL_step rfl rfl (S_box rfl (AEv.tmp rfl)) ?_
  rintro _ _ ⟨b1, rfl, rfl⟩
  refine AL_step rfl rfl (S_alloc [.int .i64 0, .int .i64 0, .int .i64 0] rfl (by kernel_rfl)) ?_
  rintro _ _ ⟨b2, rfl, rfl⟩
  refine AL_nil ?_
  refine AC_seq ?_
  refine AC_region ?_
  refine AL_p rfl rfl (S_field 0 rfl (AEv.tmp rfl) (by kernel_rfl)) ?_
  refine AL_p rfl rfl (S_load 1 rfl (AEv.tmp rfl) rfl rfl (by kernel_rfl)) ?_
  refine AL_p rfl rfl (S_field 1 rfl (AEv.tmp rfl) (by kernel_rfl)) ?_
  refine AL_p rfl rfl (S_load 1 rfl (AEv.tmp rfl) rfl rfl (by kernel_rfl)) ?_
  refine AL_p rfl rfl (S_field 2 rfl (AEv.tmp rfl) (by kernel_rfl)) ?_
  refine AL_p rfl rfl (S_load 1 rfl (AEv.tmp rfl) rfl rfl (by kernel_rfl)) ?_
  refine AL_p rfl rfl (S_build (pl := [(0, 1), (1, 1), (2, 1)]) (zs := [.int .i64 0, .int .i64 0, .int .i64 0]) rfl (AEvs.cons (AEv.tmp rfl) (AEvs.cons (AEv.tmp rfl) (AEvs.cons (AEv.tmp rfl) AEvs.nil))) (by kernel_rfl) rfl) ?_
  refine AL_step rfl rfl (S_storeN 0 rfl (AEv.tmp rfl) (AEv.tmp rfl) rfl (by first | exact Nat.le_of_ble_eq_true rfl | (simp; omega) | simp) (by first | rfl | simp [AV.one, Value.oneCell']) (by kernel_rfl)) ?_
  rintro _ _ ⟨rfl, rfl⟩
  refine AL_nil ?_
  refine AC_ret ?_
  refine ret_cell 0 st rfl rfl rfl (by kernel_rfl) (List.Sublist.cons _ (List.Sublist.cons _ (List.Sublist.refl _))) (Conv.refl (List.Sublist.cons _ (List.Sublist.cons _ (List.Sublist.refl _))) _) ⟨by first | rfl | (simp; done), rfl⟩ (.inl rfl)

set_option maxRecDepth 100000 in
/-- (provost/res.parts).res -/
theorem parts_res_ok (a : Tri) : PCalls Try.prog 25 [resAV a] (resAV a) := by
  intro st
  refine ACalls_of (N := 10) Try.func25 (by kernel_rfl) rfl rfl rfl ?_
  refine AC_seq ?_
  refine AC_region ?_
  refine AL_step rfl rfl (S_box rfl (AEv.tmp rfl)) ?_
  rintro _ _ ⟨b1, rfl, rfl⟩
  refine AL_step rfl rfl (S_alloc [.int .i64 0, .int .i64 0, .int .i64 0] rfl (by kernel_rfl)) ?_
  rintro _ _ ⟨b2, rfl, rfl⟩
  refine AL_nil ?_
  refine AC_seq ?_
  refine AC_region ?_
  refine AL_p rfl rfl (S_elemA (e := 3) (len := 3) 1 rfl (AEv.tmp rfl) (AEv.const _) (by kernel_rfl) (by kernel_rfl) (by omega) (by omega)) ?_
  refine AL_p rfl rfl (S_load 1 rfl (AEv.tmp rfl) rfl rfl (by kernel_rfl)) ?_
  refine AL_p rfl rfl (S_elemA (e := 3) (len := 3) 1 rfl (AEv.tmp rfl) (AEv.const _) (by kernel_rfl) (by kernel_rfl) (by omega) (by omega)) ?_
  refine AL_p rfl rfl (S_load 1 rfl (AEv.tmp rfl) rfl rfl (by kernel_rfl)) ?_
  refine AL_p rfl rfl (S_elemA (e := 3) (len := 3) 1 rfl (AEv.tmp rfl) (AEv.const _) (by kernel_rfl) (by kernel_rfl) (by omega) (by omega)) ?_
  refine AL_p rfl rfl (S_load 1 rfl (AEv.tmp rfl) rfl rfl (by kernel_rfl)) ?_
  refine AL_p rfl rfl (S_build (pl := [(0, 1), (1, 1), (2, 1)]) (zs := [.int .i64 0, .int .i64 0, .int .i64 0]) rfl (AEvs.cons (AEv.tmp rfl) (AEvs.cons (AEv.tmp rfl) (AEvs.cons (AEv.tmp rfl) AEvs.nil))) (by kernel_rfl) rfl) ?_
  refine AL_step rfl rfl (S_storeN 0 rfl (AEv.tmp rfl) (AEv.tmp rfl) rfl (by first | exact Nat.le_of_ble_eq_true rfl | (simp; omega) | simp) (by first | rfl | simp [AV.one, Value.oneCell']) (by kernel_rfl)) ?_
  rintro _ _ ⟨rfl, rfl⟩
  refine AL_nil ?_
  refine AC_ret ?_
  refine ret_cell 0 st rfl rfl rfl (by kernel_rfl) (List.Sublist.cons _ (List.Sublist.cons _ (List.Sublist.refl _))) (Conv.refl (List.Sublist.cons _ (List.Sublist.cons _ (List.Sublist.refl _))) _) ⟨by first | rfl | (simp; done), rfl⟩ (.inl rfl)

set_option maxRecDepth 100000 in
/-- provost/res.minus -/
theorem res_minus_ok (a b : Int) (ha : fits a) (hb : fits b) : PCalls Try.prog 27 [.int .i64 a, .int .i64 b] (okAV (subV a b)) := by
  intro st
  refine ACalls_of (N := 22) Try.func27 (by kernel_rfl) rfl rfl rfl ?_
  unfold fits at ha hb
  refine AC_seq ?_
  refine AC_region ?_
  refine AL_p rfl rfl (S_assign rfl (AEv.const _)) ?_
  refine AL_p rfl rfl (S_assign rfl (AEv.const _)) ?_
  refine AL_nil ?_
  refine AC_seq ?_
  refine AC_seq ?_
  refine AC_region ?_
  refine AL_p rfl rfl (S_move rfl (AEv.tmp rfl)) ?_
  refine AL_p rfl rfl (S_move rfl (AEv.tmp rfl)) ?_
  refine AL_p rfl rfl (S_gtr rfl (AEv.tmp rfl) (AEv.tmp rfl)) ?_
  refine AL_p rfl rfl (S_move rfl (AEv.tmp rfl)) ?_
  refine AL_g rfl rfl (AEv.tmp rfl) rfl (fun hg1 => S_move rfl (AEv.tmp rfl)) ?_
  refine AL_g rfl rfl (AEv.tmp rfl) rfl (fun hg4 => S_lss rfl (AEv.cond (AEv.tmp rfl) (by first | assumption | exact gdAnd (by assumption) (by assumption))) (AEv.const _)) ?_
  refine AL_g rfl rfl (AEv.tmp rfl) rfl (fun hg7 => S_move rfl (AEv.cond (AEv.tmp rfl) (by first | assumption | exact gdAnd (by assumption) (by assumption)))) ?_
  refine AL_gg rfl rfl (AEv.tmp rfl) rfl (fun hg10 hg11 hg12 => S_move rfl (AEv.tmp rfl)) ?_
  refine AL_gg rfl rfl (AEv.tmp rfl) rfl (fun hg13 hg14 hg15 => S_move rfl (AEv.tmp rfl)) ?_
  refine AL_gg rfl rfl (AEv.tmp rfl) rfl (fun hg16 hg17 hg18 => S_addI rfl (AEv.const _) (AEv.cond (AEv.tmp rfl) (by first | assumption | exact gdAnd (by assumption) (by assumption))) (by (try simp only [gd, Bool.and_eq_true, Bool.or_eq_true, Bool.not_eq_true', Bool.not_eq_false', decide_eq_true_eq, decide_eq_false_iff_not, Bool.or_eq_false_iff, Bool.and_eq_false_iff] at *); omega) (by (try simp only [gd, Bool.and_eq_true, Bool.or_eq_true, Bool.not_eq_true', Bool.not_eq_false', decide_eq_true_eq, decide_eq_false_iff_not, Bool.or_eq_false_iff, Bool.and_eq_false_iff] at *); omega)) ?_
  refine AL_gg rfl rfl (AEv.tmp rfl) rfl (fun hg19 hg20 hg21 => S_gtr rfl (AEv.cond (AEv.tmp rfl) (by first | assumption | exact gdAnd (by assumption) (by assumption))) (AEv.cond (AEv.tmp rfl) (by first | assumption | exact gdAnd (by assumption) (by assumption)))) ?_
  refine AL_g rfl rfl (AEv.tmp rfl) rfl (fun hg22 => S_and rfl (AEv.cond (AEv.tmp rfl) (by first | assumption | exact gdAnd (by assumption) (by assumption))) (fun hp25 => (AEv.cond (AEv.tmp rfl) (by first | assumption | exact gdT hp25 | exact gdF hp25 | exact gdAnd (by assumption) (gdT hp25) | exact gdAnd (by assumption) (gdF hp25))))) ?_
  refine AL_p rfl rfl (S_or rfl (AEv.tmp rfl) (fun hp26 => (AEv.cond (AEv.tmp rfl) (by first | assumption | exact gdT hp26 | exact gdF hp26 | exact gdAnd (by assumption) (gdT hp26) | exact gdAnd (by assumption) (gdF hp26))))) ?_
  refine AL_nil ?_
  refine AC_cond (AEv.tmp rfl) (fun hb27 => ?_) (fun hb27 => ?_)
  · try simp only [Bool.and_eq_true, Bool.or_eq_true, Bool.not_eq_true', Bool.not_eq_false', Bool.and_eq_false_iff, Bool.or_eq_false_iff, decide_eq_true_eq, decide_eq_false_iff_not, gd] at hb27
    refine AC_seq ?_
    refine AC_region ?_
    refine AL_p rfl rfl (S_assign rfl (AEv.const _)) ?_
    refine AL_p rfl rfl (S_assign rfl (AEv.const _)) ?_
    refine AL_nil ?_
    refine AC_ret ?_
    refine ret_tmps (ts := [4, 5]) st rfl (by decide) rfl (List.Sublist.refl _) (Conv.refl (List.Sublist.refl _) _) ⟨sub_no (by unfold fits; omega), rfl⟩ (.inl rfl)
  · try simp only [Bool.and_eq_true, Bool.or_eq_true, Bool.not_eq_true', Bool.not_eq_false', Bool.and_eq_false_iff, Bool.or_eq_false_iff, decide_eq_true_eq, decide_eq_false_iff_not, gd] at hb27
    refine AC_skip ?_
    refine AC_seq ?_
    refine AC_region ?_
    refine AL_p rfl rfl (S_move rfl (AEv.tmp rfl)) ?_
    refine AL_p rfl rfl (S_move rfl (AEv.tmp rfl)) ?_
    refine AL_p rfl rfl (S_subI rfl (AEv.tmp rfl) (AEv.tmp rfl) (by omega) (by omega)) ?_
    refine AL_p rfl rfl (S_assign rfl (AEv.tmp rfl)) ?_
    refine AL_p rfl rfl (S_assign rfl (AEv.const _)) ?_
    refine AL_nil ?_
    refine AC_ret ?_
    refine ret_tmps (ts := [4, 5]) st rfl (by decide) rfl (List.Sublist.refl _) (Conv.refl (List.Sublist.refl _) _) ⟨sub_yes (by unfold fits; omega) rfl, rfl⟩ (.inl rfl)

set_option maxRecDepth 100000 in
/-- provost/provostref14.left -/
theorem ref_left_ok (a b : Int) (ha : fits a) (hb : fits b) : PCalls Try.prog 28 [.int .i64 a, .int .i64 b] (okAV (subV a b)) := by
  intro st
  refine ACalls_of (N := 19) Try.func28 (by kernel_rfl) rfl rfl rfl ?_
  have hw1 := u64w a
  have hw2 := u64w b
  have hw3 := u64w (IntKind.u64.wrap a - IntKind.u64.wrap b)
  have hw4 := i64w (IntKind.u64.wrap (IntKind.u64.wrap a - IntKind.u64.wrap b))
  unfold fits at ha hb
  refine AC_seq ?_
  refine AC_region ?_
  refine AL_p rfl rfl (S_assign rfl (AEv.const _)) ?_
  refine AL_p rfl rfl (S_assign rfl (AEv.const _)) ?_
  refine AL_nil ?_
  refine AC_seq ?_
  refine AC_seq ?_
  refine AC_region ?_
  refine AL_p rfl rfl (S_move rfl (AEv.tmp rfl)) ?_
  refine AL_p rfl rfl (S_move rfl (AEv.tmp rfl)) ?_
  refine AL_p rfl rfl (S_gtr rfl (AEv.tmp rfl) (AEv.tmp rfl)) ?_
  refine AL_nil ?_
  refine AC_cond (AEv.tmp rfl) (fun hb1 => ?_) (fun hb1 => ?_)
  · try simp only [Bool.and_eq_true, Bool.or_eq_true, Bool.not_eq_true', Bool.not_eq_false', Bool.and_eq_false_iff, Bool.or_eq_false_iff, decide_eq_true_eq, decide_eq_false_iff_not, gd] at hb1
    refine AC_seq ?_
    refine AC_region ?_
    refine AL_p rfl rfl (S_assign rfl (AEv.const _)) ?_
    refine AL_p rfl rfl (S_assign rfl (AEv.const _)) ?_
    refine AL_nil ?_
    refine AC_ret ?_
    refine ret_tmps (ts := [4, 5]) st rfl (by decide) rfl (List.Sublist.refl _) (Conv.refl (List.Sublist.refl _) _) ⟨sub_no (by unfold fits; omega), rfl⟩ (.inl rfl)
  · try simp only [Bool.and_eq_true, Bool.or_eq_true, Bool.not_eq_true', Bool.not_eq_false', Bool.and_eq_false_iff, Bool.or_eq_false_iff, decide_eq_true_eq, decide_eq_false_iff_not, gd] at hb1
    refine AC_skip ?_
    refine AC_seq ?_
    refine AC_region ?_
    refine AL_p rfl rfl (S_move rfl (AEv.tmp rfl)) ?_
    refine AL_p rfl rfl (S_conv (k' := .u64) rfl (AEv.tmp rfl) (by kernel_rfl) (by kernel_rfl)) ?_
    refine AL_p rfl rfl (S_move rfl (AEv.tmp rfl)) ?_
    refine AL_p rfl rfl (S_conv (k' := .u64) rfl (AEv.tmp rfl) (by kernel_rfl) (by kernel_rfl)) ?_
    refine AL_p rfl rfl (S_sub rfl (AEv.tmp rfl) (AEv.tmp rfl)) ?_
    refine AL_p rfl rfl (S_assign rfl (AEv.tmp rfl)) ?_
    refine AL_nil ?_
    refine AC_seq ?_
    refine AC_seq ?_
    refine AC_region ?_
    refine AL_p rfl rfl (S_move rfl (AEv.tmp rfl)) ?_
    refine AL_p rfl rfl (S_gtr rfl (AEv.tmp rfl) (AEv.const _)) ?_
    refine AL_nil ?_
    refine AC_cond (AEv.tmp rfl) (fun hb2 => ?_) (fun hb2 => ?_)
    · try simp only [Bool.and_eq_true, Bool.or_eq_true, Bool.not_eq_true', Bool.not_eq_false', Bool.and_eq_false_iff, Bool.or_eq_false_iff, decide_eq_true_eq, decide_eq_false_iff_not, gd] at hb2
      refine AC_seq ?_
      refine AC_region ?_
      refine AL_p rfl rfl (S_assign rfl (AEv.const _)) ?_
      refine AL_p rfl rfl (S_assign rfl (AEv.const _)) ?_
      refine AL_nil ?_
      refine AC_ret ?_
      refine ret_tmps (ts := [4, 5]) st rfl (by decide) rfl (List.Sublist.refl _) (Conv.refl (List.Sublist.refl _) _) ⟨sub_no (by unfold fits; omega), rfl⟩ (.inl rfl)
    · try simp only [Bool.and_eq_true, Bool.or_eq_true, Bool.not_eq_true', Bool.not_eq_false', Bool.and_eq_false_iff, Bool.or_eq_false_iff, decide_eq_true_eq, decide_eq_false_iff_not, gd] at hb2
      refine AC_skip ?_
      refine AC_seq ?_
      refine AC_region ?_
      refine AL_p rfl rfl (S_move rfl (AEv.tmp rfl)) ?_
      refine AL_p rfl rfl (S_conv (k' := .i64) rfl (AEv.tmp rfl) (by kernel_rfl) (by kernel_rfl)) ?_
      refine AL_p rfl rfl (S_assign rfl (AEv.tmp rfl)) ?_
      refine AL_p rfl rfl (S_assign rfl (AEv.const _)) ?_
      refine AL_nil ?_
      refine AC_ret ?_
      refine ret_tmps (ts := [4, 5]) st rfl (by decide) rfl (List.Sublist.refl _) (Conv.refl (List.Sublist.refl _) _) ⟨sub_yes (by unfold fits; omega) (by omega), rfl⟩ (.inl rfl)

set_option maxRecDepth 100000 in
/-- provost/provostref14.more -/
theorem ref_more_ok (a b : Int) (ha : fits a) (hb : fits b) : PCalls Try.prog 29 [.int .i64 a, .int .i64 b] (.int .i64 (max a b)) := by
  intro st
  refine ACalls_of (N := 10) Try.func29 (by kernel_rfl) rfl rfl rfl ?_
  refine AC_seq ?_
  refine AC_region ?_
  refine AL_p rfl rfl (S_assign rfl (AEv.const _)) ?_
  refine AL_nil ?_
  refine AC_seq ?_
  refine AC_seq ?_
  refine AC_region ?_
  refine AL_p rfl rfl (S_move rfl (AEv.tmp rfl)) ?_
  refine AL_p rfl rfl (S_move rfl (AEv.tmp rfl)) ?_
  refine AL_p rfl rfl (S_lss rfl (AEv.tmp rfl) (AEv.tmp rfl)) ?_
  refine AL_nil ?_
  refine AC_cond (AEv.tmp rfl) (fun hb1 => ?_) (fun hb1 => ?_)
  · try simp only [Bool.and_eq_true, Bool.or_eq_true, Bool.not_eq_true', Bool.not_eq_false', Bool.and_eq_false_iff, Bool.or_eq_false_iff, decide_eq_true_eq, decide_eq_false_iff_not, gd] at hb1
    refine AC_seq ?_
    refine AC_region ?_
    refine AL_p rfl rfl (S_move rfl (AEv.tmp rfl)) ?_
    refine AL_p rfl rfl (S_assign rfl (AEv.tmp rfl)) ?_
    refine AL_nil ?_
    refine AC_ret ?_
    refine ret_tmp st rfl rfl (List.Sublist.refl _) (Conv.refl (List.Sublist.refl _) _) ⟨by rw [show max a b = b by omega], rfl⟩ (.inl rfl)
  · try simp only [Bool.and_eq_true, Bool.or_eq_true, Bool.not_eq_true', Bool.not_eq_false', Bool.and_eq_false_iff, Bool.or_eq_false_iff, decide_eq_true_eq, decide_eq_false_iff_not, gd] at hb1
    refine AC_skip ?_
    refine AC_seq ?_
    refine AC_region ?_
    refine AL_p rfl rfl (S_move rfl (AEv.tmp rfl)) ?_
    refine AL_p rfl rfl (S_assign rfl (AEv.tmp rfl)) ?_
    refine AL_nil ?_
    refine AC_ret ?_
    refine ret_tmp st rfl rfl (List.Sublist.refl _) (Conv.refl (List.Sublist.refl _) _) ⟨by rw [show max a b = a by omega], rfl⟩ (.inl rfl)

set_option maxRecDepth 100000 in
/-- provost/provostref14.over -/
theorem ref_over_ok (a b : Int) (ha : fits a) (hb : fits b) : PCalls Try.prog 30 [.int .i64 a, .int .i64 b] (.int .i64 (overV a b)) := by
  intro st
  refine ACalls_of (N := 21) Try.func30 (by kernel_rfl) rfl rfl rfl ?_
  refine AC_seq ?_
  refine AC_region ?_
  refine AL_p rfl rfl (S_assign rfl (AEv.const _)) ?_
  refine AL_nil ?_
  refine AC_seq ?_
  refine AC_region ?_
  refine AL_p rfl rfl (S_move rfl (AEv.tmp rfl)) ?_
  refine AL_p rfl rfl (S_move rfl (AEv.tmp rfl)) ?_
  refine AL_p rfl rfl (S_pcall rfl (AEvs.cons (AEv.tmp rfl) (AEvs.cons (AEv.tmp rfl) AEvs.nil)) (ref_left_ok _ _ (by first | assumption | decide) (by first | assumption | decide))) ?_
  refine AL_p rfl rfl (S_move rfl (AEv.tmp rfl)) ?_
  refine AL_p rfl rfl (S_extract 0 rfl (AEv.tmp rfl) rfl) ?_
  refine AL_p rfl rfl (S_extract 1 rfl (AEv.tmp rfl) rfl) ?_
  refine AL_p rfl rfl (S_assign rfl (AEv.tmp rfl)) ?_
  refine AL_p rfl rfl (S_assign rfl (AEv.tmp rfl)) ?_
  refine AL_nil ?_
  refine AC_seq ?_
  refine AC_seq ?_
  refine AC_region ?_
  refine AL_p rfl rfl (S_move rfl (AEv.tmp rfl)) ?_
  refine AL_p rfl rfl (S_not rfl (AEv.tmp rfl)) ?_
  refine AL_p rfl rfl (S_move rfl (AEv.tmp rfl)) ?_
  refine AL_g rfl rfl (AEv.tmp rfl) rfl (fun hg1 => S_move rfl (AEv.tmp rfl)) ?_
  refine AL_g rfl rfl (AEv.tmp rfl) rfl (fun hg4 => S_move rfl (AEv.tmp rfl)) ?_
  refine AL_g rfl rfl (AEv.tmp rfl) rfl (fun hg7 => S_gtr rfl (AEv.cond (AEv.tmp rfl) (by first | assumption | exact gdAnd (by assumption) (by assumption))) (AEv.cond (AEv.tmp rfl) (by first | assumption | exact gdAnd (by assumption) (by assumption)))) ?_
  refine AL_p rfl rfl (S_and rfl (AEv.tmp rfl) (fun hp10 => (AEv.cond (AEv.tmp rfl) (by first | assumption | exact gdT hp10 | exact gdF hp10 | exact gdAnd (by assumption) (gdT hp10) | exact gdAnd (by assumption) (gdF hp10))))) ?_
  refine AL_nil ?_
  refine AC_cond (AEv.tmp rfl) (fun hb11 => ?_) (fun hb11 => ?_)
  · try simp only [Bool.and_eq_true, Bool.or_eq_true, Bool.not_eq_true', Bool.not_eq_false', Bool.and_eq_false_iff, Bool.or_eq_false_iff, decide_eq_true_eq, decide_eq_false_iff_not, gd] at hb11
    refine AC_seq ?_
    refine AC_region ?_
    refine AL_p rfl rfl (S_assign rfl (AEv.const _)) ?_
    refine AL_nil ?_
    refine AC_ret ?_
    refine ret_tmp st rfl rfl (List.Sublist.refl _) (Conv.refl (List.Sublist.refl _) _) ⟨by rw [overV, if_pos (by assumption)], rfl⟩ (.inl rfl)
  · try simp only [Bool.and_eq_true, Bool.or_eq_true, Bool.not_eq_true', Bool.not_eq_false', Bool.and_eq_false_iff, Bool.or_eq_false_iff, decide_eq_true_eq, decide_eq_false_iff_not, gd] at hb11
    have hn : ¬ ((subV a b).2 = false ∧ b < a) := by
      rintro ⟨h1, h2⟩
      rcases hb11 with h | h
      · rw [h1] at h; cases h
      · omega
    refine AC_skip ?_
    refine AC_seq ?_
    refine AC_region ?_
    refine AL_p rfl rfl (S_move rfl (AEv.tmp rfl)) ?_
    refine AL_p rfl rfl (S_assign rfl (AEv.tmp rfl)) ?_
    refine AL_nil ?_
    refine AC_ret ?_
    refine ret_tmp st rfl rfl (List.Sublist.refl _) (Conv.refl (List.Sublist.refl _) _) ⟨by rw [overV, if_neg hn], rfl⟩ (.inl rfl)

set_option maxRecDepth 100000 in
/-- provost/res.Add -/
theorem res_Add_ok (a b : Tri) (ha : fits3 a) (hb : fits3 b) : PCalls Try.prog 6 [resAV a, resAV b] (okR (addR a b)) := by
  intro st
  refine ACalls_of (N := 37) Try.func6 (by kernel_rfl) rfl rfl rfl ?_
  refine AC_seq ?_
  refine AC_region ?_
  refine AL_step rfl rfl (S_box rfl (AEv.tmp rfl)) ?_
  rintro _ _ ⟨b1, rfl, rfl⟩
  refine AL_step rfl rfl (S_box rfl (AEv.tmp rfl)) ?_
  rintro _ _ ⟨b2, rfl, rfl⟩
  refine AL_step rfl rfl (S_alloc [.int .i64 0, .int .i64 0, .int .i64 0] rfl (by kernel_rfl)) ?_
  rintro _ _ ⟨b3, rfl, rfl⟩
  refine AL_p rfl rfl (S_assign rfl (AEv.const _)) ?_
  refine AL_nil ?_
  refine AC_seq ?_
  refine AC_plan (σ := [(0, 0), (1, 0), (2, 0), (3, 0), (4, 3), (5, 3), (6, 2), (7, 2)]) (by kernel_rfl) _ (by kernel_rfl) (fun _ h => h) ?_
  refine AG.f rfl rfl (fun st' hst => Q_p rfl (S_loadNM (m := 3) rfl (AEv.tmp rfl) (hst _ (List.mem_of_getElem? (i := 2) rfl)) (by kernel_rfl) (by first | exact Nat.le_of_ble_eq_true rfl | (simp; omega) | simp))) ?_
  refine AG.f rfl rfl (fun st' hst => Q_p rfl (S_pcall rfl (AEvs.cons (AEv.tmp rfl) AEvs.nil) (res_of_ok _))) ?_
  refine AG.f rfl rfl (fun st' hst => Q_p rfl (S_loadNM (m := 3) rfl (AEv.tmp rfl) (hst _ (List.mem_of_getElem? (i := 1) rfl)) (by kernel_rfl) (by first | exact Nat.le_of_ble_eq_true rfl | (simp; omega) | simp))) ?_
  refine AG.f rfl rfl (fun st' hst => Q_p rfl (S_pcall rfl (AEvs.cons (AEv.tmp rfl) AEvs.nil) (res_of_ok _))) ?_
  refine AG.al [(4, 6, [.int .i64 0, .int .i64 0, .int .i64 0]), (5, 7, [.int .i64 0, .int .i64 0, .int .i64 0])] (by simp) (by simp) (AllocsAt.all (AllocsAt.cons rfl rfl rfl (by decide) rfl (by kernel_rfl) (AllocsAt.cons rfl rfl rfl (by decide) rfl (by kernel_rfl) AllocsAt.nil))) (by simp) (fun β => ?_)
  simp only [allocEnv, allocSt, List.foldl_cons, List.foldl_nil, List.map_cons, List.map_nil, List.cons_append, List.nil_append]
  generalize β 6 = b4
  generalize β 7 = b5
  refine AG.h rfl rfl rfl (S_storeN 0 rfl (AEv.tmp rfl) (AEv.tmp rfl) rfl (by first | exact Nat.le_of_ble_eq_true rfl | (simp; omega) | simp) (by first | rfl | simp [AV.one, Value.oneCell']) (by kernel_rfl)) ?_
  rintro _ _ ⟨rfl, rfl⟩
  refine AG.h rfl rfl rfl (S_storeN 1 rfl (AEv.tmp rfl) (AEv.tmp rfl) rfl (by first | exact Nat.le_of_ble_eq_true rfl | (simp; omega) | simp) (by first | rfl | simp [AV.one, Value.oneCell']) (by kernel_rfl)) ?_
  rintro _ _ ⟨rfl, rfl⟩
  refine AG.nil ?_
  refine AC_seq ?_
  refine AC_seq ?_
  refine AC_region ?_
  refine AL_p rfl rfl (S_move rfl (AEv.const _)) ?_
  refine AL_nil ?_
  refine AC_block ?_
  refine AC_loop (G := Nat) (fun k => k ≤ 3 ∧ ∀ j, j < k → (fun x y => fits (x + y)) (at3 a j) (at3 b j)) (fun k => [(4, .ptr b3 0), (6, .ptr b4 0), (7, .ptr b5 0), (15, .int .i64 (k : Int))]) (fun k => (b4, .cells (resL (mixK (· + ·) a b k))) :: (b5, .cells (resL b)) :: (b3, .cells (resL (0, 0, 0))) :: (b2, .cells (resL b)) :: (b1, .cells (resL a)) :: st) (fun k => 3 - k) (0) (⟨by omega, fun j hj => by omega⟩) rfl ?_ ?_
  · exact (.cons rfl (by first | exact Le.refl _ | exact Le.nils | exact Le.row _ _ _ | (exact Le.of_eq (by simp))) (.cons rfl (by first | exact Le.refl _ | exact Le.nils | exact Le.row _ _ _ | (exact Le.of_eq (by simp))) (.cons rfl (by first | exact Le.refl _ | exact Le.nils | exact Le.row _ _ _ | (exact Le.of_eq (by simp))) (.cons rfl (by first | exact Le.refl _ | exact Le.nils | exact Le.row _ _ _ | (exact Le.of_eq (by simp))) .nil))))
  · rintro k ⟨hk, hI⟩
    try dsimp only
    have h1 := at3_fits ha k
    have h2 := at3_fits hb k
    refine AC_seq ?_
    refine AC_region ?_
    refine AL_p rfl rfl (S_lss rfl (AEv.tmp rfl) (AEv.const _)) ?_
    refine AL_nil ?_
    refine AC_seq ?_
    refine AC_cond (AEv.tmp rfl) (fun hb6 => ?_) (fun hb6 => ?_)
    · try simp only [Bool.and_eq_true, Bool.or_eq_true, Bool.not_eq_true', Bool.not_eq_false', Bool.and_eq_false_iff, Bool.or_eq_false_iff, decide_eq_true_eq, decide_eq_false_iff_not, gd] at hb6
      have hk3 : k < 3 := by omega
      refine AC_skip ?_
      refine AC_seq ?_
      refine AC_block ?_
      refine AC_seq ?_
      refine AC_region ?_
      refine AL_p rfl rfl (S_move rfl (AEv.tmp rfl)) ?_
      refine AL_p rfl rfl (S_assign rfl (AEv.tmp rfl)) ?_
      refine AL_nil ?_
      refine AC_seq ?_
      refine AC_draw (by kernel_rfl) (by kernel_rfl) (.cons rfl (Q_p rfl (S_move rfl (AEv.tmp rfl))) <|
          .cons rfl (Q_p rfl (S_elemA (e := 3) (len := 3) 1 rfl (AEv.tmp rfl) (AEv.tmp rfl) (by kernel_rfl) (by kernel_rfl) (by omega) (by omega))) <|
          .cons rfl (Q_p rfl (S_load 0 rfl (AEv.tmp rfl) rfl (c := .int .i64 (at3 a k)) (by rw [res_at hk3, mix_at hk3]) (by kernel_rfl))) <|
          .cons rfl (Q_p rfl (S_move rfl (AEv.tmp rfl))) <|
          .cons rfl (Q_p rfl (S_elemA (e := 3) (len := 3) 1 rfl (AEv.tmp rfl) (AEv.tmp rfl) (by kernel_rfl) (by kernel_rfl) (by omega) (by omega))) <|
          .cons rfl (Q_p rfl (S_load 1 rfl (AEv.tmp rfl) rfl (c := .int .i64 (at3 b k)) (by rw [res_at hk3]) (by kernel_rfl))) <|
          .cons rfl (Q_p rfl (S_pcall rfl (AEvs.cons (AEv.tmp rfl) (AEvs.cons (AEv.tmp rfl) AEvs.nil)) (num_Add_ok _ _ (by first | assumption | decide) (by first | assumption | decide)))) <|
          .cons rfl (Q_p rfl (S_move rfl (AEv.tmp rfl))) <|
          .cons rfl (Q_p rfl (S_extract 0 rfl (AEv.tmp rfl) rfl)) <|
          .cons rfl (Q_p rfl (S_extract 1 rfl (AEv.tmp rfl) rfl)) <|
          .cons rfl (Q_p rfl (S_assign rfl (AEv.tmp rfl))) <|
          .cons rfl (Q_p rfl (S_assign rfl (AEv.tmp rfl))) <|
          .nil) ?_
      refine AC_seq ?_
      refine AC_seq ?_
      refine AC_region ?_
      refine AL_p rfl rfl (S_move rfl (AEv.tmp rfl)) ?_
      refine AL_p rfl rfl (S_not rfl (AEv.tmp rfl)) ?_
      refine AL_nil ?_
      refine AC_cond (AEv.tmp rfl) (fun hb7 => ?_) (fun hb7 => ?_)
      · try simp only [Bool.and_eq_true, Bool.or_eq_true, Bool.not_eq_true', Bool.not_eq_false', Bool.and_eq_false_iff, Bool.or_eq_false_iff, decide_eq_true_eq, decide_eq_false_iff_not, gd] at hb7
        have hno := addV_bad hb7
        refine AC_seq ?_
        refine AC_region ?_
        refine AL_p rfl rfl (S_build (pl := [(0, 1), (1, 1), (2, 1)]) (zs := [.int .i64 0, .int .i64 0, .int .i64 0]) rfl AEvs.nil (by kernel_rfl) rfl) ?_
        refine AL_step rfl rfl (S_storeN 2 rfl (AEv.tmp rfl) (AEv.tmp rfl) rfl (by first | exact Nat.le_of_ble_eq_true rfl | (simp; omega) | simp) (by first | rfl | simp [AV.one, Value.oneCell']) (by kernel_rfl)) ?_
        rintro _ _ ⟨rfl, rfl⟩
        refine AL_p rfl rfl (S_assign rfl (AEv.const _)) ?_
        refine AL_nil ?_
        refine AC_ret ?_
        refine ret_outs st rfl (by decide) (OutsR.row 2 rfl rfl (by kernel_rfl) (OutsR.tmp rfl OutsR.nil)) (List.Sublist.cons _ (List.Sublist.cons _ (List.Sublist.cons _ (List.Sublist.cons _ (List.Sublist.cons _ (List.Sublist.refl _)))))) (Conv.refl (List.Sublist.cons _ (List.Sublist.cons _ (List.Sublist.cons _ (List.Sublist.cons _ (List.Sublist.cons _ (List.Sublist.refl _)))))) _) ⟨addR_no (not3 (p := (fun x y => fits (x + y))) hk3 hno), rfl⟩ (.inl rfl)
      · try simp only [Bool.and_eq_true, Bool.or_eq_true, Bool.not_eq_true', Bool.not_eq_false', Bool.and_eq_false_iff, Bool.or_eq_false_iff, decide_eq_true_eq, decide_eq_false_iff_not, gd] at hb7
        have hyes := addV_ok hb7
        rw [hyes.1]
        try dsimp only
        have hI' : ∀ j, j < k + 1 → (fun x y => fits (x + y)) (at3 a j) (at3 b j) := fun j hj => by
          rcases Nat.lt_or_ge j k with h | h
          · exact hI j h
          · rw [show j = k by omega]; exact hyes.2
        refine AC_skip ?_
        refine AC_region ?_
        refine AL_p rfl rfl (S_move rfl (AEv.tmp rfl)) ?_
        refine AL_p rfl rfl (S_move rfl (AEv.tmp rfl)) ?_
        refine AL_p rfl rfl (S_elemA (e := 3) (len := 3) 1 rfl (AEv.tmp rfl) (AEv.tmp rfl) (by kernel_rfl) (by kernel_rfl) (by omega) (by omega)) ?_
        refine AL_step rfl rfl (S_store 0 rfl (AEv.tmp rfl) (AEv.tmp rfl) rfl (by simp; omega) rfl (by kernel_rfl)) ?_
        rintro _ _ ⟨rfl, rfl⟩
        refine AL_nil ?_
        refine AC_region ?_
        refine AL_p rfl rfl (S_addI rfl (AEv.tmp rfl) (AEv.const _) (by omega) (by omega)) ?_
        refine AL_p rfl rfl (S_move rfl (AEv.tmp rfl)) ?_
        refine AL_nil ?_
        refine ⟨k + 1, ⟨by omega, hI'⟩, by omega, ?_, (.cons rfl (by first | exact Le.refl _ | exact Le.nils | exact Le.row _ _ _ | (exact Le.of_eq (by simp))) (.cons rfl (by first | exact Le.refl _ | exact Le.nils | exact Le.row _ _ _ | (exact Le.of_eq (by simp))) (.cons rfl (by first | exact Le.refl _ | exact Le.nils | exact Le.row _ _ _ | (exact Le.of_eq (by simp))) (.cons rfl (by first | exact Le.refl _ | exact Le.nils | exact Le.row _ _ _ | (exact Le.of_eq (by simp))) .nil))))⟩
        show (b4, Ob.cells _) :: _ = _
        rw [res_set hk3, mix_set hk3 rfl]
    · try simp only [Bool.and_eq_true, Bool.or_eq_true, Bool.not_eq_true', Bool.not_eq_false', Bool.and_eq_false_iff, Bool.or_eq_false_iff, decide_eq_true_eq, decide_eq_false_iff_not, gd] at hb6
      have hk3 : ¬ k < 3 := by omega
      refine AC_exit ?_
      refine AC_seq ?_
      refine AC_region ?_
      refine AL_p rfl rfl (S_loadN (m := 3) 0 rfl (AEv.tmp rfl) rfl (by kernel_rfl) (by first | exact Nat.le_of_ble_eq_true rfl | (simp; omega) | simp)) ?_
      refine AL_p rfl rfl (S_pcall rfl (AEvs.cons (AEv.tmp rfl) AEvs.nil) (parts_res_ok (mixK (· + ·) a b k))) ?_
      refine AL_step rfl rfl (S_storeN 2 rfl (AEv.tmp rfl) (AEv.tmp rfl) rfl (by first | exact Nat.le_of_ble_eq_true rfl | (simp; omega) | simp) (by first | rfl | simp [AV.one, Value.oneCell']) (by kernel_rfl)) ?_
      rintro _ _ ⟨rfl, rfl⟩
      refine AL_p rfl rfl (S_assign rfl (AEv.const _)) ?_
      refine AL_nil ?_
      refine AC_ret ?_
      refine ret_outs st rfl (by decide) (OutsR.row 2 rfl rfl (by kernel_rfl) (OutsR.tmp rfl OutsR.nil)) (List.Sublist.cons _ (List.Sublist.cons _ (List.Sublist.cons _ (List.Sublist.cons _ (List.Sublist.cons _ (List.Sublist.refl _)))))) (Conv.refl (List.Sublist.cons _ (List.Sublist.cons _ (List.Sublist.cons _ (List.Sublist.cons _ (List.Sublist.cons _ (List.Sublist.refl _)))))) _) ⟨addR_yes (x := mixK (· + ·) a b k) (all3 (p := (fun x y => fits (x + y))) hk3 hI) (mix_end hk3 hk), rfl⟩ (.inl rfl)

set_option maxRecDepth 100000 in
/-- provost/res.Sub -/
theorem res_Sub_ok (a b : Tri) (ha : fits3 a) (hb : fits3 b) : PCalls Try.prog 8 [resAV a, resAV b] (okR (subR a b)) := by
  intro st
  refine ACalls_of (N := 37) Try.func8 (by kernel_rfl) rfl rfl rfl ?_
  refine AC_seq ?_
  refine AC_region ?_
  refine AL_step rfl rfl (S_box rfl (AEv.tmp rfl)) ?_
  rintro _ _ ⟨b1, rfl, rfl⟩
  refine AL_step rfl rfl (S_box rfl (AEv.tmp rfl)) ?_
  rintro _ _ ⟨b2, rfl, rfl⟩
  refine AL_step rfl rfl (S_alloc [.int .i64 0, .int .i64 0, .int .i64 0] rfl (by kernel_rfl)) ?_
  rintro _ _ ⟨b3, rfl, rfl⟩
  refine AL_p rfl rfl (S_assign rfl (AEv.const _)) ?_
  refine AL_nil ?_
  refine AC_seq ?_
  refine AC_plan (σ := [(0, 0), (1, 0), (2, 0), (3, 0), (4, 3), (5, 3), (6, 2), (7, 2)]) (by kernel_rfl) _ (by kernel_rfl) (fun _ h => h) ?_
  refine AG.f rfl rfl (fun st' hst => Q_p rfl (S_loadNM (m := 3) rfl (AEv.tmp rfl) (hst _ (List.mem_of_getElem? (i := 2) rfl)) (by kernel_rfl) (by first | exact Nat.le_of_ble_eq_true rfl | (simp; omega) | simp))) ?_
  refine AG.f rfl rfl (fun st' hst => Q_p rfl (S_pcall rfl (AEvs.cons (AEv.tmp rfl) AEvs.nil) (res_of_ok _))) ?_
  refine AG.f rfl rfl (fun st' hst => Q_p rfl (S_loadNM (m := 3) rfl (AEv.tmp rfl) (hst _ (List.mem_of_getElem? (i := 1) rfl)) (by kernel_rfl) (by first | exact Nat.le_of_ble_eq_true rfl | (simp; omega) | simp))) ?_
  refine AG.f rfl rfl (fun st' hst => Q_p rfl (S_pcall rfl (AEvs.cons (AEv.tmp rfl) AEvs.nil) (res_of_ok _))) ?_
  refine AG.al [(4, 6, [.int .i64 0, .int .i64 0, .int .i64 0]), (5, 7, [.int .i64 0, .int .i64 0, .int .i64 0])] (by simp) (by simp) (AllocsAt.all (AllocsAt.cons rfl rfl rfl (by decide) rfl (by kernel_rfl) (AllocsAt.cons rfl rfl rfl (by decide) rfl (by kernel_rfl) AllocsAt.nil))) (by simp) (fun β => ?_)
  simp only [allocEnv, allocSt, List.foldl_cons, List.foldl_nil, List.map_cons, List.map_nil, List.cons_append, List.nil_append]
  generalize β 6 = b4
  generalize β 7 = b5
  refine AG.h rfl rfl rfl (S_storeN 0 rfl (AEv.tmp rfl) (AEv.tmp rfl) rfl (by first | exact Nat.le_of_ble_eq_true rfl | (simp; omega) | simp) (by first | rfl | simp [AV.one, Value.oneCell']) (by kernel_rfl)) ?_
  rintro _ _ ⟨rfl, rfl⟩
  refine AG.h rfl rfl rfl (S_storeN 1 rfl (AEv.tmp rfl) (AEv.tmp rfl) rfl (by first | exact Nat.le_of_ble_eq_true rfl | (simp; omega) | simp) (by first | rfl | simp [AV.one, Value.oneCell']) (by kernel_rfl)) ?_
  rintro _ _ ⟨rfl, rfl⟩
  refine AG.nil ?_
  refine AC_seq ?_
  refine AC_seq ?_
  refine AC_region ?_
  refine AL_p rfl rfl (S_move rfl (AEv.const _)) ?_
  refine AL_nil ?_
  refine AC_block ?_
  refine AC_loop (G := Nat) (fun k => k ≤ 3 ∧ ∀ j, j < k → (fun x y => y ≤ x ∧ fits (x - y)) (at3 a j) (at3 b j)) (fun k => [(4, .ptr b3 0), (6, .ptr b4 0), (7, .ptr b5 0), (15, .int .i64 (k : Int))]) (fun k => (b4, .cells (resL (mixK (· - ·) a b k))) :: (b5, .cells (resL b)) :: (b3, .cells (resL (0, 0, 0))) :: (b2, .cells (resL b)) :: (b1, .cells (resL a)) :: st) (fun k => 3 - k) (0) (⟨by omega, fun j hj => by omega⟩) rfl ?_ ?_
  · exact (.cons rfl (by first | exact Le.refl _ | exact Le.nils | exact Le.row _ _ _ | (exact Le.of_eq (by simp))) (.cons rfl (by first | exact Le.refl _ | exact Le.nils | exact Le.row _ _ _ | (exact Le.of_eq (by simp))) (.cons rfl (by first | exact Le.refl _ | exact Le.nils | exact Le.row _ _ _ | (exact Le.of_eq (by simp))) (.cons rfl (by first | exact Le.refl _ | exact Le.nils | exact Le.row _ _ _ | (exact Le.of_eq (by simp))) .nil))))
  · rintro k ⟨hk, hI⟩
    try dsimp only
    have h1 := at3_fits ha k
    have h2 := at3_fits hb k
    refine AC_seq ?_
    refine AC_region ?_
    refine AL_p rfl rfl (S_lss rfl (AEv.tmp rfl) (AEv.const _)) ?_
    refine AL_nil ?_
    refine AC_seq ?_
    refine AC_cond (AEv.tmp rfl) (fun hb6 => ?_) (fun hb6 => ?_)
    · try simp only [Bool.and_eq_true, Bool.or_eq_true, Bool.not_eq_true', Bool.not_eq_false', Bool.and_eq_false_iff, Bool.or_eq_false_iff, decide_eq_true_eq, decide_eq_false_iff_not, gd] at hb6
      have hk3 : k < 3 := by omega
      refine AC_skip ?_
      refine AC_seq ?_
      refine AC_block ?_
      refine AC_seq ?_
      refine AC_region ?_
      refine AL_p rfl rfl (S_move rfl (AEv.tmp rfl)) ?_
      refine AL_p rfl rfl (S_assign rfl (AEv.tmp rfl)) ?_
      refine AL_nil ?_
      refine AC_seq ?_
      refine AC_draw (by kernel_rfl) (by kernel_rfl) (.cons rfl (Q_p rfl (S_move rfl (AEv.tmp rfl))) <|
          .cons rfl (Q_p rfl (S_elemA (e := 3) (len := 3) 1 rfl (AEv.tmp rfl) (AEv.tmp rfl) (by kernel_rfl) (by kernel_rfl) (by omega) (by omega))) <|
          .cons rfl (Q_p rfl (S_load 0 rfl (AEv.tmp rfl) rfl (c := .int .i64 (at3 a k)) (by rw [res_at hk3, mix_at hk3]) (by kernel_rfl))) <|
          .cons rfl (Q_p rfl (S_move rfl (AEv.tmp rfl))) <|
          .cons rfl (Q_p rfl (S_elemA (e := 3) (len := 3) 1 rfl (AEv.tmp rfl) (AEv.tmp rfl) (by kernel_rfl) (by kernel_rfl) (by omega) (by omega))) <|
          .cons rfl (Q_p rfl (S_load 1 rfl (AEv.tmp rfl) rfl (c := .int .i64 (at3 b k)) (by rw [res_at hk3]) (by kernel_rfl))) <|
          .cons rfl (Q_p rfl (S_pcall rfl (AEvs.cons (AEv.tmp rfl) (AEvs.cons (AEv.tmp rfl) AEvs.nil)) (res_minus_ok _ _ (by first | assumption | decide) (by first | assumption | decide)))) <|
          .cons rfl (Q_p rfl (S_move rfl (AEv.tmp rfl))) <|
          .cons rfl (Q_p rfl (S_extract 0 rfl (AEv.tmp rfl) rfl)) <|
          .cons rfl (Q_p rfl (S_extract 1 rfl (AEv.tmp rfl) rfl)) <|
          .cons rfl (Q_p rfl (S_assign rfl (AEv.tmp rfl))) <|
          .cons rfl (Q_p rfl (S_assign rfl (AEv.tmp rfl))) <|
          .nil) ?_
      refine AC_seq ?_
      refine AC_seq ?_
      refine AC_region ?_
      refine AL_p rfl rfl (S_move rfl (AEv.tmp rfl)) ?_
      refine AL_p rfl rfl (S_not rfl (AEv.tmp rfl)) ?_
      refine AL_nil ?_
      refine AC_cond (AEv.tmp rfl) (fun hb7 => ?_) (fun hb7 => ?_)
      · try simp only [Bool.and_eq_true, Bool.or_eq_true, Bool.not_eq_true', Bool.not_eq_false', Bool.and_eq_false_iff, Bool.or_eq_false_iff, decide_eq_true_eq, decide_eq_false_iff_not, gd] at hb7
        have hno := subV_bad hb7
        refine AC_seq ?_
        refine AC_region ?_
        refine AL_p rfl rfl (S_build (pl := [(0, 1), (1, 1), (2, 1)]) (zs := [.int .i64 0, .int .i64 0, .int .i64 0]) rfl AEvs.nil (by kernel_rfl) rfl) ?_
        refine AL_step rfl rfl (S_storeN 2 rfl (AEv.tmp rfl) (AEv.tmp rfl) rfl (by first | exact Nat.le_of_ble_eq_true rfl | (simp; omega) | simp) (by first | rfl | simp [AV.one, Value.oneCell']) (by kernel_rfl)) ?_
        rintro _ _ ⟨rfl, rfl⟩
        refine AL_p rfl rfl (S_assign rfl (AEv.const _)) ?_
        refine AL_nil ?_
        refine AC_ret ?_
        refine ret_outs st rfl (by decide) (OutsR.row 2 rfl rfl (by kernel_rfl) (OutsR.tmp rfl OutsR.nil)) (List.Sublist.cons _ (List.Sublist.cons _ (List.Sublist.cons _ (List.Sublist.cons _ (List.Sublist.cons _ (List.Sublist.refl _)))))) (Conv.refl (List.Sublist.cons _ (List.Sublist.cons _ (List.Sublist.cons _ (List.Sublist.cons _ (List.Sublist.cons _ (List.Sublist.refl _)))))) _) ⟨subR_no (not3 (p := (fun x y => y ≤ x ∧ fits (x - y))) hk3 hno.2), rfl⟩ (.inl rfl)
      · try simp only [Bool.and_eq_true, Bool.or_eq_true, Bool.not_eq_true', Bool.not_eq_false', Bool.and_eq_false_iff, Bool.or_eq_false_iff, decide_eq_true_eq, decide_eq_false_iff_not, gd] at hb7
        have hyes := subV_ok hb7
        rw [hyes.1]
        try dsimp only
        have hI' : ∀ j, j < k + 1 → (fun x y => y ≤ x ∧ fits (x - y)) (at3 a j) (at3 b j) := fun j hj => by
          rcases Nat.lt_or_ge j k with h | h
          · exact hI j h
          · rw [show j = k by omega]; exact hyes.2
        refine AC_skip ?_
        refine AC_region ?_
        refine AL_p rfl rfl (S_move rfl (AEv.tmp rfl)) ?_
        refine AL_p rfl rfl (S_move rfl (AEv.tmp rfl)) ?_
        refine AL_p rfl rfl (S_elemA (e := 3) (len := 3) 1 rfl (AEv.tmp rfl) (AEv.tmp rfl) (by kernel_rfl) (by kernel_rfl) (by omega) (by omega)) ?_
        refine AL_step rfl rfl (S_store 0 rfl (AEv.tmp rfl) (AEv.tmp rfl) rfl (by simp; omega) rfl (by kernel_rfl)) ?_
        rintro _ _ ⟨rfl, rfl⟩
        refine AL_nil ?_
        refine AC_region ?_
        refine AL_p rfl rfl (S_addI rfl (AEv.tmp rfl) (AEv.const _) (by omega) (by omega)) ?_
        refine AL_p rfl rfl (S_move rfl (AEv.tmp rfl)) ?_
        refine AL_nil ?_
        refine ⟨k + 1, ⟨by omega, hI'⟩, by omega, ?_, (.cons rfl (by first | exact Le.refl _ | exact Le.nils | exact Le.row _ _ _ | (exact Le.of_eq (by simp))) (.cons rfl (by first | exact Le.refl _ | exact Le.nils | exact Le.row _ _ _ | (exact Le.of_eq (by simp))) (.cons rfl (by first | exact Le.refl _ | exact Le.nils | exact Le.row _ _ _ | (exact Le.of_eq (by simp))) (.cons rfl (by first | exact Le.refl _ | exact Le.nils | exact Le.row _ _ _ | (exact Le.of_eq (by simp))) .nil))))⟩
        show (b4, Ob.cells _) :: _ = _
        rw [res_set hk3, mix_set hk3 rfl]
    · try simp only [Bool.and_eq_true, Bool.or_eq_true, Bool.not_eq_true', Bool.not_eq_false', Bool.and_eq_false_iff, Bool.or_eq_false_iff, decide_eq_true_eq, decide_eq_false_iff_not, gd] at hb6
      have hk3 : ¬ k < 3 := by omega
      refine AC_exit ?_
      refine AC_seq ?_
      refine AC_region ?_
      refine AL_p rfl rfl (S_loadN (m := 3) 0 rfl (AEv.tmp rfl) rfl (by kernel_rfl) (by first | exact Nat.le_of_ble_eq_true rfl | (simp; omega) | simp)) ?_
      refine AL_p rfl rfl (S_pcall rfl (AEvs.cons (AEv.tmp rfl) AEvs.nil) (parts_res_ok (mixK (· - ·) a b k))) ?_
      refine AL_step rfl rfl (S_storeN 2 rfl (AEv.tmp rfl) (AEv.tmp rfl) rfl (by first | exact Nat.le_of_ble_eq_true rfl | (simp; omega) | simp) (by first | rfl | simp [AV.one, Value.oneCell']) (by kernel_rfl)) ?_
      rintro _ _ ⟨rfl, rfl⟩
      refine AL_p rfl rfl (S_assign rfl (AEv.const _)) ?_
      refine AL_nil ?_
      refine AC_ret ?_
      refine ret_outs st rfl (by decide) (OutsR.row 2 rfl rfl (by kernel_rfl) (OutsR.tmp rfl OutsR.nil)) (List.Sublist.cons _ (List.Sublist.cons _ (List.Sublist.cons _ (List.Sublist.cons _ (List.Sublist.cons _ (List.Sublist.refl _)))))) (Conv.refl (List.Sublist.cons _ (List.Sublist.cons _ (List.Sublist.cons _ (List.Sublist.cons _ (List.Sublist.cons _ (List.Sublist.refl _)))))) _) ⟨subR_yes (x := mixK (· - ·) a b k) (all3 (p := (fun x y => y ≤ x ∧ fits (x - y))) hk3 hI) (mix_end hk3 hk), rfl⟩ (.inl rfl)

set_option maxRecDepth 100000 in
/-- provost/provostref14.Add -/
theorem ref14_Add_ok (a b : Tri) (ha : fits3 a) (hb : fits3 b) : PCalls Try.prog 7 [resAV a, resAV b] (okR (addR a b)) := by
  intro st
  refine ACalls_of (N := 51) Try.func7 (by kernel_rfl) rfl rfl rfl ?_
  obtain ⟨ha1, ha2, ha3⟩ := ha
  obtain ⟨hb1, hb2, hb3⟩ := hb
  refine AC_seq ?_
  refine AC_region ?_
  refine AL_step rfl rfl (S_box rfl (AEv.tmp rfl)) ?_
  rintro _ _ ⟨b1, rfl, rfl⟩
  refine AL_step rfl rfl (S_box rfl (AEv.tmp rfl)) ?_
  rintro _ _ ⟨b2, rfl, rfl⟩
  refine AL_step rfl rfl (S_alloc [.int .i64 0, .int .i64 0, .int .i64 0] rfl (by kernel_rfl)) ?_
  rintro _ _ ⟨b3, rfl, rfl⟩
  refine AL_p rfl rfl (S_assign rfl (AEv.const _)) ?_
  refine AL_nil ?_
  refine AC_seq ?_
  refine AC_region ?_
  refine AL_p rfl rfl (S_field 0 rfl (AEv.tmp rfl) (by kernel_rfl)) ?_
  refine AL_p rfl rfl (S_load 2 rfl (AEv.tmp rfl) rfl rfl (by kernel_rfl)) ?_
  refine AL_p rfl rfl (S_field 0 rfl (AEv.tmp rfl) (by kernel_rfl)) ?_
  refine AL_p rfl rfl (S_load 1 rfl (AEv.tmp rfl) rfl rfl (by kernel_rfl)) ?_
  refine AL_p rfl rfl (S_pcall rfl (AEvs.cons (AEv.tmp rfl) (AEvs.cons (AEv.tmp rfl) AEvs.nil)) (ref_Add_ok _ _ (by first | assumption | decide) (by first | assumption | decide))) ?_
  refine AL_p rfl rfl (S_move rfl (AEv.tmp rfl)) ?_
  refine AL_p rfl rfl (S_extract 0 rfl (AEv.tmp rfl) rfl) ?_
  refine AL_p rfl rfl (S_extract 1 rfl (AEv.tmp rfl) rfl) ?_
  refine AL_p rfl rfl (S_assign rfl (AEv.tmp rfl)) ?_
  refine AL_p rfl rfl (S_assign rfl (AEv.tmp rfl)) ?_
  refine AL_nil ?_
  refine AC_seq ?_
  refine AC_region ?_
  refine AL_p rfl rfl (S_field 1 rfl (AEv.tmp rfl) (by kernel_rfl)) ?_
  refine AL_p rfl rfl (S_load 2 rfl (AEv.tmp rfl) rfl rfl (by kernel_rfl)) ?_
  refine AL_p rfl rfl (S_field 1 rfl (AEv.tmp rfl) (by kernel_rfl)) ?_
  refine AL_p rfl rfl (S_load 1 rfl (AEv.tmp rfl) rfl rfl (by kernel_rfl)) ?_
  refine AL_p rfl rfl (S_pcall rfl (AEvs.cons (AEv.tmp rfl) (AEvs.cons (AEv.tmp rfl) AEvs.nil)) (ref_Add_ok _ _ (by first | assumption | decide) (by first | assumption | decide))) ?_
  refine AL_p rfl rfl (S_move rfl (AEv.tmp rfl)) ?_
  refine AL_p rfl rfl (S_extract 0 rfl (AEv.tmp rfl) rfl) ?_
  refine AL_p rfl rfl (S_extract 1 rfl (AEv.tmp rfl) rfl) ?_
  refine AL_p rfl rfl (S_assign rfl (AEv.tmp rfl)) ?_
  refine AL_p rfl rfl (S_assign rfl (AEv.tmp rfl)) ?_
  refine AL_nil ?_
  refine AC_seq ?_
  refine AC_region ?_
  refine AL_p rfl rfl (S_field 2 rfl (AEv.tmp rfl) (by kernel_rfl)) ?_
  refine AL_p rfl rfl (S_load 2 rfl (AEv.tmp rfl) rfl rfl (by kernel_rfl)) ?_
  refine AL_p rfl rfl (S_field 2 rfl (AEv.tmp rfl) (by kernel_rfl)) ?_
  refine AL_p rfl rfl (S_load 1 rfl (AEv.tmp rfl) rfl rfl (by kernel_rfl)) ?_
  refine AL_p rfl rfl (S_pcall rfl (AEvs.cons (AEv.tmp rfl) (AEvs.cons (AEv.tmp rfl) AEvs.nil)) (ref_Add_ok _ _ (by first | assumption | decide) (by first | assumption | decide))) ?_
  refine AL_p rfl rfl (S_move rfl (AEv.tmp rfl)) ?_
  refine AL_p rfl rfl (S_extract 0 rfl (AEv.tmp rfl) rfl) ?_
  refine AL_p rfl rfl (S_extract 1 rfl (AEv.tmp rfl) rfl) ?_
  refine AL_p rfl rfl (S_assign rfl (AEv.tmp rfl)) ?_
  refine AL_p rfl rfl (S_assign rfl (AEv.tmp rfl)) ?_
  refine AL_nil ?_
  refine AC_seq ?_
  refine AC_seq ?_
  refine AC_region ?_
  refine AL_p rfl rfl (S_move rfl (AEv.tmp rfl)) ?_
  refine AL_p rfl rfl (S_not rfl (AEv.tmp rfl)) ?_
  refine AL_p rfl rfl (S_move rfl (AEv.tmp rfl)) ?_
  refine AL_g rfl rfl (AEv.tmp rfl) rfl (fun hg4 => S_move rfl (AEv.tmp rfl)) ?_
  refine AL_g rfl rfl (AEv.tmp rfl) rfl (fun hg7 => S_not rfl (AEv.cond (AEv.tmp rfl) (by first | assumption | exact gdAnd (by assumption) (by assumption)))) ?_
  refine AL_p rfl rfl (S_or rfl (AEv.tmp rfl) (fun hp10 => (AEv.cond (AEv.tmp rfl) (by first | assumption | exact gdT hp10 | exact gdF hp10 | exact gdAnd (by assumption) (gdT hp10) | exact gdAnd (by assumption) (gdF hp10))))) ?_
  refine AL_p rfl rfl (S_move rfl (AEv.tmp rfl)) ?_
  refine AL_g rfl rfl (AEv.tmp rfl) rfl (fun hg11 => S_move rfl (AEv.tmp rfl)) ?_
  refine AL_g rfl rfl (AEv.tmp rfl) rfl (fun hg14 => S_not rfl (AEv.cond (AEv.tmp rfl) (by first | assumption | exact gdAnd (by assumption) (by assumption)))) ?_
  refine AL_p rfl rfl (S_or rfl (AEv.tmp rfl) (fun hp17 => (AEv.cond (AEv.tmp rfl) (by first | assumption | exact gdT hp17 | exact gdF hp17 | exact gdAnd (by assumption) (gdT hp17) | exact gdAnd (by assumption) (gdF hp17))))) ?_
  refine AL_nil ?_
  refine AC_cond (AEv.tmp rfl) (fun hb18 => ?_) (fun hb18 => ?_)
  · try simp only [Bool.and_eq_true, Bool.or_eq_true, Bool.not_eq_true', Bool.not_eq_false', Bool.and_eq_false_iff, Bool.or_eq_false_iff, decide_eq_true_eq, decide_eq_false_iff_not, gd] at hb18
    have hno : ¬ (fits (a.1 + b.1) ∧ fits (a.2.1 + b.2.1) ∧ fits (a.2.2 + b.2.2)) := fun ⟨h1, h2, h3⟩ => by
      rcases hb18 with (h | h) | h
      · exact addV_bad h h1
      · exact addV_bad h h2
      · exact addV_bad h h3
    refine AC_seq ?_
    refine AC_region ?_
    refine AL_p rfl rfl (S_build (pl := [(0, 1), (1, 1), (2, 1)]) (zs := [.int .i64 0, .int .i64 0, .int .i64 0]) rfl AEvs.nil (by kernel_rfl) rfl) ?_
    refine AL_step rfl rfl (S_storeN 0 rfl (AEv.tmp rfl) (AEv.tmp rfl) rfl (by first | exact Nat.le_of_ble_eq_true rfl | (simp; omega) | simp) (by first | rfl | simp [AV.one, Value.oneCell']) (by kernel_rfl)) ?_
    rintro _ _ ⟨rfl, rfl⟩
    refine AL_p rfl rfl (S_assign rfl (AEv.const _)) ?_
    refine AL_nil ?_
    refine AC_ret ?_
    refine ret_outs st rfl (by decide) (OutsR.row 0 rfl rfl (by kernel_rfl) (OutsR.tmp rfl OutsR.nil)) (List.Sublist.cons _ (List.Sublist.cons _ (List.Sublist.cons _ (List.Sublist.refl _)))) (Conv.refl (List.Sublist.cons _ (List.Sublist.cons _ (List.Sublist.cons _ (List.Sublist.refl _)))) _) ⟨addR_no hno, rfl⟩ (.inl rfl)
  · try simp only [Bool.and_eq_true, Bool.or_eq_true, Bool.not_eq_true', Bool.not_eq_false', Bool.and_eq_false_iff, Bool.or_eq_false_iff, decide_eq_true_eq, decide_eq_false_iff_not, gd] at hb18
    obtain ⟨⟨h1, h2⟩, h3⟩ := hb18
    have h1 := addV_ok h1
    have h2 := addV_ok h2
    have h3 := addV_ok h3
    rw [h1.1, h2.1, h3.1]
    try dsimp only
    refine AC_skip ?_
    refine AC_seq ?_
    refine AC_region ?_
    refine AL_p rfl rfl (S_move rfl (AEv.tmp rfl)) ?_
    refine AL_p rfl rfl (S_move rfl (AEv.tmp rfl)) ?_
    refine AL_p rfl rfl (S_move rfl (AEv.tmp rfl)) ?_
    refine AL_p rfl rfl (S_build (pl := [(0, 1), (1, 1), (2, 1)]) (zs := [.int .i64 0, .int .i64 0, .int .i64 0]) rfl (AEvs.cons (AEv.tmp rfl) (AEvs.cons (AEv.tmp rfl) (AEvs.cons (AEv.tmp rfl) AEvs.nil))) (by kernel_rfl) rfl) ?_
    refine AL_step rfl rfl (S_storeN 0 rfl (AEv.tmp rfl) (AEv.tmp rfl) rfl (by first | exact Nat.le_of_ble_eq_true rfl | (simp; omega) | simp) (by first | rfl | simp [AV.one, Value.oneCell']) (by kernel_rfl)) ?_
    rintro _ _ ⟨rfl, rfl⟩
    refine AL_p rfl rfl (S_assign rfl (AEv.const _)) ?_
    refine AL_nil ?_
    refine AC_ret ?_
    refine ret_outs st rfl (by decide) (OutsR.row 0 rfl rfl (by kernel_rfl) (OutsR.tmp rfl OutsR.nil)) (List.Sublist.cons _ (List.Sublist.cons _ (List.Sublist.cons _ (List.Sublist.refl _)))) (Conv.refl (List.Sublist.cons _ (List.Sublist.cons _ (List.Sublist.cons _ (List.Sublist.refl _)))) _) ⟨addR_yes ⟨h1.2, h2.2, h3.2⟩ rfl, rfl⟩ (.inl rfl)

set_option maxRecDepth 100000 in
/-- provost/provostref14.Sub -/
theorem ref14_Sub_ok (a b : Tri) (ha : fits3 a) (hb : fits3 b) : PCalls Try.prog 9 [resAV a, resAV b] (okR (subR a b)) := by
  intro st
  refine ACalls_of (N := 51) Try.func9 (by kernel_rfl) rfl rfl rfl ?_
  obtain ⟨ha1, ha2, ha3⟩ := ha
  obtain ⟨hb1, hb2, hb3⟩ := hb
  refine AC_seq ?_
  refine AC_region ?_
  refine AL_step rfl rfl (S_box rfl (AEv.tmp rfl)) ?_
  rintro _ _ ⟨b1, rfl, rfl⟩
  refine AL_step rfl rfl (S_box rfl (AEv.tmp rfl)) ?_
  rintro _ _ ⟨b2, rfl, rfl⟩
  refine AL_step rfl rfl (S_alloc [.int .i64 0, .int .i64 0, .int .i64 0] rfl (by kernel_rfl)) ?_
  rintro _ _ ⟨b3, rfl, rfl⟩
  refine AL_p rfl rfl (S_assign rfl (AEv.const _)) ?_
  refine AL_nil ?_
  refine AC_seq ?_
  refine AC_region ?_
  refine AL_p rfl rfl (S_field 0 rfl (AEv.tmp rfl) (by kernel_rfl)) ?_
  refine AL_p rfl rfl (S_load 2 rfl (AEv.tmp rfl) rfl rfl (by kernel_rfl)) ?_
  refine AL_p rfl rfl (S_field 0 rfl (AEv.tmp rfl) (by kernel_rfl)) ?_
  refine AL_p rfl rfl (S_load 1 rfl (AEv.tmp rfl) rfl rfl (by kernel_rfl)) ?_
  refine AL_p rfl rfl (S_pcall rfl (AEvs.cons (AEv.tmp rfl) (AEvs.cons (AEv.tmp rfl) AEvs.nil)) (ref_left_ok _ _ (by first | assumption | decide) (by first | assumption | decide))) ?_
  refine AL_p rfl rfl (S_move rfl (AEv.tmp rfl)) ?_
  refine AL_p rfl rfl (S_extract 0 rfl (AEv.tmp rfl) rfl) ?_
  refine AL_p rfl rfl (S_extract 1 rfl (AEv.tmp rfl) rfl) ?_
  refine AL_p rfl rfl (S_assign rfl (AEv.tmp rfl)) ?_
  refine AL_p rfl rfl (S_assign rfl (AEv.tmp rfl)) ?_
  refine AL_nil ?_
  refine AC_seq ?_
  refine AC_region ?_
  refine AL_p rfl rfl (S_field 1 rfl (AEv.tmp rfl) (by kernel_rfl)) ?_
  refine AL_p rfl rfl (S_load 2 rfl (AEv.tmp rfl) rfl rfl (by kernel_rfl)) ?_
  refine AL_p rfl rfl (S_field 1 rfl (AEv.tmp rfl) (by kernel_rfl)) ?_
  refine AL_p rfl rfl (S_load 1 rfl (AEv.tmp rfl) rfl rfl (by kernel_rfl)) ?_
  refine AL_p rfl rfl (S_pcall rfl (AEvs.cons (AEv.tmp rfl) (AEvs.cons (AEv.tmp rfl) AEvs.nil)) (ref_left_ok _ _ (by first | assumption | decide) (by first | assumption | decide))) ?_
  refine AL_p rfl rfl (S_move rfl (AEv.tmp rfl)) ?_
  refine AL_p rfl rfl (S_extract 0 rfl (AEv.tmp rfl) rfl) ?_
  refine AL_p rfl rfl (S_extract 1 rfl (AEv.tmp rfl) rfl) ?_
  refine AL_p rfl rfl (S_assign rfl (AEv.tmp rfl)) ?_
  refine AL_p rfl rfl (S_assign rfl (AEv.tmp rfl)) ?_
  refine AL_nil ?_
  refine AC_seq ?_
  refine AC_region ?_
  refine AL_p rfl rfl (S_field 2 rfl (AEv.tmp rfl) (by kernel_rfl)) ?_
  refine AL_p rfl rfl (S_load 2 rfl (AEv.tmp rfl) rfl rfl (by kernel_rfl)) ?_
  refine AL_p rfl rfl (S_field 2 rfl (AEv.tmp rfl) (by kernel_rfl)) ?_
  refine AL_p rfl rfl (S_load 1 rfl (AEv.tmp rfl) rfl rfl (by kernel_rfl)) ?_
  refine AL_p rfl rfl (S_pcall rfl (AEvs.cons (AEv.tmp rfl) (AEvs.cons (AEv.tmp rfl) AEvs.nil)) (ref_left_ok _ _ (by first | assumption | decide) (by first | assumption | decide))) ?_
  refine AL_p rfl rfl (S_move rfl (AEv.tmp rfl)) ?_
  refine AL_p rfl rfl (S_extract 0 rfl (AEv.tmp rfl) rfl) ?_
  refine AL_p rfl rfl (S_extract 1 rfl (AEv.tmp rfl) rfl) ?_
  refine AL_p rfl rfl (S_assign rfl (AEv.tmp rfl)) ?_
  refine AL_p rfl rfl (S_assign rfl (AEv.tmp rfl)) ?_
  refine AL_nil ?_
  refine AC_seq ?_
  refine AC_seq ?_
  refine AC_region ?_
  refine AL_p rfl rfl (S_move rfl (AEv.tmp rfl)) ?_
  refine AL_p rfl rfl (S_not rfl (AEv.tmp rfl)) ?_
  refine AL_p rfl rfl (S_move rfl (AEv.tmp rfl)) ?_
  refine AL_g rfl rfl (AEv.tmp rfl) rfl (fun hg4 => S_move rfl (AEv.tmp rfl)) ?_
  refine AL_g rfl rfl (AEv.tmp rfl) rfl (fun hg7 => S_not rfl (AEv.cond (AEv.tmp rfl) (by first | assumption | exact gdAnd (by assumption) (by assumption)))) ?_
  refine AL_p rfl rfl (S_or rfl (AEv.tmp rfl) (fun hp10 => (AEv.cond (AEv.tmp rfl) (by first | assumption | exact gdT hp10 | exact gdF hp10 | exact gdAnd (by assumption) (gdT hp10) | exact gdAnd (by assumption) (gdF hp10))))) ?_
  refine AL_p rfl rfl (S_move rfl (AEv.tmp rfl)) ?_
  refine AL_g rfl rfl (AEv.tmp rfl) rfl (fun hg11 => S_move rfl (AEv.tmp rfl)) ?_
  refine AL_g rfl rfl (AEv.tmp rfl) rfl (fun hg14 => S_not rfl (AEv.cond (AEv.tmp rfl) (by first | assumption | exact gdAnd (by assumption) (by assumption)))) ?_
  refine AL_p rfl rfl (S_or rfl (AEv.tmp rfl) (fun hp17 => (AEv.cond (AEv.tmp rfl) (by first | assumption | exact gdT hp17 | exact gdF hp17 | exact gdAnd (by assumption) (gdT hp17) | exact gdAnd (by assumption) (gdF hp17))))) ?_
  refine AL_nil ?_
  refine AC_cond (AEv.tmp rfl) (fun hb18 => ?_) (fun hb18 => ?_)
  · try simp only [Bool.and_eq_true, Bool.or_eq_true, Bool.not_eq_true', Bool.not_eq_false', Bool.and_eq_false_iff, Bool.or_eq_false_iff, decide_eq_true_eq, decide_eq_false_iff_not, gd] at hb18
    have hno : ¬ ((b.1 ≤ a.1 ∧ fits (a.1 - b.1)) ∧ (b.2.1 ≤ a.2.1 ∧ fits (a.2.1 - b.2.1)) ∧ (b.2.2 ≤ a.2.2 ∧ fits (a.2.2 - b.2.2))) := fun ⟨h1, h2, h3⟩ => by
      rcases hb18 with (h | h) | h
      · exact (subV_bad h).2 h1
      · exact (subV_bad h).2 h2
      · exact (subV_bad h).2 h3
    refine AC_seq ?_
    refine AC_region ?_
    refine AL_p rfl rfl (S_build (pl := [(0, 1), (1, 1), (2, 1)]) (zs := [.int .i64 0, .int .i64 0, .int .i64 0]) rfl AEvs.nil (by kernel_rfl) rfl) ?_
    refine AL_step rfl rfl (S_storeN 0 rfl (AEv.tmp rfl) (AEv.tmp rfl) rfl (by first | exact Nat.le_of_ble_eq_true rfl | (simp; omega) | simp) (by first | rfl | simp [AV.one, Value.oneCell']) (by kernel_rfl)) ?_
    rintro _ _ ⟨rfl, rfl⟩
    refine AL_p rfl rfl (S_assign rfl (AEv.const _)) ?_
    refine AL_nil ?_
    refine AC_ret ?_
    refine ret_outs st rfl (by decide) (OutsR.row 0 rfl rfl (by kernel_rfl) (OutsR.tmp rfl OutsR.nil)) (List.Sublist.cons _ (List.Sublist.cons _ (List.Sublist.cons _ (List.Sublist.refl _)))) (Conv.refl (List.Sublist.cons _ (List.Sublist.cons _ (List.Sublist.cons _ (List.Sublist.refl _)))) _) ⟨subR_no hno, rfl⟩ (.inl rfl)
  · try simp only [Bool.and_eq_true, Bool.or_eq_true, Bool.not_eq_true', Bool.not_eq_false', Bool.and_eq_false_iff, Bool.or_eq_false_iff, decide_eq_true_eq, decide_eq_false_iff_not, gd] at hb18
    obtain ⟨⟨h1, h2⟩, h3⟩ := hb18
    have h1 := subV_ok h1
    have h2 := subV_ok h2
    have h3 := subV_ok h3
    rw [h1.1, h2.1, h3.1]
    try dsimp only
    refine AC_skip ?_
    refine AC_seq ?_
    refine AC_region ?_
    refine AL_p rfl rfl (S_move rfl (AEv.tmp rfl)) ?_
    refine AL_p rfl rfl (S_move rfl (AEv.tmp rfl)) ?_
    refine AL_p rfl rfl (S_move rfl (AEv.tmp rfl)) ?_
    refine AL_p rfl rfl (S_build (pl := [(0, 1), (1, 1), (2, 1)]) (zs := [.int .i64 0, .int .i64 0, .int .i64 0]) rfl (AEvs.cons (AEv.tmp rfl) (AEvs.cons (AEv.tmp rfl) (AEvs.cons (AEv.tmp rfl) AEvs.nil))) (by kernel_rfl) rfl) ?_
    refine AL_step rfl rfl (S_storeN 0 rfl (AEv.tmp rfl) (AEv.tmp rfl) rfl (by first | exact Nat.le_of_ble_eq_true rfl | (simp; omega) | simp) (by first | rfl | simp [AV.one, Value.oneCell']) (by kernel_rfl)) ?_
    rintro _ _ ⟨rfl, rfl⟩
    refine AL_p rfl rfl (S_assign rfl (AEv.const _)) ?_
    refine AL_nil ?_
    refine AC_ret ?_
    refine ret_outs st rfl (by decide) (OutsR.row 0 rfl rfl (by kernel_rfl) (OutsR.tmp rfl OutsR.nil)) (List.Sublist.cons _ (List.Sublist.cons _ (List.Sublist.cons _ (List.Sublist.refl _)))) (Conv.refl (List.Sublist.cons _ (List.Sublist.cons _ (List.Sublist.cons _ (List.Sublist.refl _)))) _) ⟨subR_yes ⟨h1.2, h2.2, h3.2⟩ rfl, rfl⟩ (.inl rfl)

set_option maxRecDepth 100000 in
/-- provost/res.Max -/
theorem res_Max_ok (a b : Tri) (ha : fits3 a) (hb : fits3 b) : PCalls Try.prog 10 [resAV a, resAV b] (resAV (maxR a b)) := by
  intro st
  refine ACalls_of (N := 27) Try.func10 (by kernel_rfl) rfl rfl rfl ?_
  refine AC_seq ?_
  refine AC_region ?_
  refine AL_step rfl rfl (S_box rfl (AEv.tmp rfl)) ?_
  rintro _ _ ⟨b1, rfl, rfl⟩
  refine AL_step rfl rfl (S_box rfl (AEv.tmp rfl)) ?_
  rintro _ _ ⟨b2, rfl, rfl⟩
  refine AL_step rfl rfl (S_alloc [.int .i64 0, .int .i64 0, .int .i64 0] rfl (by kernel_rfl)) ?_
  rintro _ _ ⟨b3, rfl, rfl⟩
  refine AL_nil ?_
  refine AC_seq ?_
  refine AC_plan (σ := [(0, 0), (1, 0), (2, 0), (3, 0), (4, 3), (5, 3), (6, 2), (7, 2)]) (by kernel_rfl) _ (by kernel_rfl) (fun _ h => h) ?_
  refine AG.f rfl rfl (fun st' hst => Q_p rfl (S_loadNM (m := 3) rfl (AEv.tmp rfl) (hst _ (List.mem_of_getElem? (i := 2) rfl)) (by kernel_rfl) (by first | exact Nat.le_of_ble_eq_true rfl | (simp; omega) | simp))) ?_
  refine AG.f rfl rfl (fun st' hst => Q_p rfl (S_pcall rfl (AEvs.cons (AEv.tmp rfl) AEvs.nil) (res_of_ok _))) ?_
  refine AG.f rfl rfl (fun st' hst => Q_p rfl (S_loadNM (m := 3) rfl (AEv.tmp rfl) (hst _ (List.mem_of_getElem? (i := 1) rfl)) (by kernel_rfl) (by first | exact Nat.le_of_ble_eq_true rfl | (simp; omega) | simp))) ?_
  refine AG.f rfl rfl (fun st' hst => Q_p rfl (S_pcall rfl (AEvs.cons (AEv.tmp rfl) AEvs.nil) (res_of_ok _))) ?_
  refine AG.al [(4, 5, [.int .i64 0, .int .i64 0, .int .i64 0]), (5, 6, [.int .i64 0, .int .i64 0, .int .i64 0])] (by simp) (by simp) (AllocsAt.all (AllocsAt.cons rfl rfl rfl (by decide) rfl (by kernel_rfl) (AllocsAt.cons rfl rfl rfl (by decide) rfl (by kernel_rfl) AllocsAt.nil))) (by simp) (fun β => ?_)
  simp only [allocEnv, allocSt, List.foldl_cons, List.foldl_nil, List.map_cons, List.map_nil, List.cons_append, List.nil_append]
  generalize β 5 = b4
  generalize β 6 = b5
  refine AG.h rfl rfl rfl (S_storeN 0 rfl (AEv.tmp rfl) (AEv.tmp rfl) rfl (by first | exact Nat.le_of_ble_eq_true rfl | (simp; omega) | simp) (by first | rfl | simp [AV.one, Value.oneCell']) (by kernel_rfl)) ?_
  rintro _ _ ⟨rfl, rfl⟩
  refine AG.h rfl rfl rfl (S_storeN 1 rfl (AEv.tmp rfl) (AEv.tmp rfl) rfl (by first | exact Nat.le_of_ble_eq_true rfl | (simp; omega) | simp) (by first | rfl | simp [AV.one, Value.oneCell']) (by kernel_rfl)) ?_
  rintro _ _ ⟨rfl, rfl⟩
  refine AG.nil ?_
  refine AC_seq ?_
  refine AC_seq ?_
  refine AC_region ?_
  refine AL_p rfl rfl (S_move rfl (AEv.const _)) ?_
  refine AL_nil ?_
  refine AC_block ?_
  refine AC_loop (G := Nat) (fun k => k ≤ 3) (fun k => [(4, .ptr b3 0), (5, .ptr b4 0), (6, .ptr b5 0), (12, .int .i64 (k : Int))]) (fun k => (b4, .cells (resL (mixK max a b k))) :: (b5, .cells (resL b)) :: (b3, .cells (resL (0, 0, 0))) :: (b2, .cells (resL b)) :: (b1, .cells (resL a)) :: st) (fun k => 3 - k) (0) (by omega) rfl ?_ ?_
  · exact (.cons rfl (by first | exact Le.refl _ | exact Le.nils | exact Le.row _ _ _ | (exact Le.of_eq (by simp))) (.cons rfl (by first | exact Le.refl _ | exact Le.nils | exact Le.row _ _ _ | (exact Le.of_eq (by simp))) (.cons rfl (by first | exact Le.refl _ | exact Le.nils | exact Le.row _ _ _ | (exact Le.of_eq (by simp))) (.cons rfl (by first | exact Le.refl _ | exact Le.nils | exact Le.row _ _ _ | (exact Le.of_eq (by simp))) .nil))))
  · rintro k hk
    try dsimp only
    refine AC_seq ?_
    refine AC_region ?_
    refine AL_p rfl rfl (S_lss rfl (AEv.tmp rfl) (AEv.const _)) ?_
    refine AL_nil ?_
    refine AC_seq ?_
    refine AC_cond (AEv.tmp rfl) (fun hb6 => ?_) (fun hb6 => ?_)
    · try simp only [Bool.and_eq_true, Bool.or_eq_true, Bool.not_eq_true', Bool.not_eq_false', Bool.and_eq_false_iff, Bool.or_eq_false_iff, decide_eq_true_eq, decide_eq_false_iff_not, gd] at hb6
      have hk3 : k < 3 := by omega
      refine AC_skip ?_
      refine AC_seq ?_
      refine AC_block ?_
      refine AC_seq ?_
      refine AC_region ?_
      refine AL_p rfl rfl (S_move rfl (AEv.tmp rfl)) ?_
      refine AL_p rfl rfl (S_assign rfl (AEv.tmp rfl)) ?_
      refine AL_nil ?_
      refine AC_plan (σ := [(0, 0), (1, 0), (2, 0), (3, 0), (4, 0), (5, 0), (6, 0), (7, 0), (8, 0), (9, 2)]) (by kernel_rfl) _ (by kernel_rfl) (fun _ h => h) ?_
      refine AG.f rfl rfl (fun st' hst => Q_p rfl (S_move rfl (AEv.tmp rfl))) ?_
      refine AG.f rfl rfl (fun st' hst => Q_p rfl (S_move rfl (AEv.tmp rfl))) ?_
      refine AG.f rfl rfl (fun st' hst => Q_p rfl (S_elemA (e := 3) (len := 3) 1 rfl (AEv.tmp rfl) (AEv.tmp rfl) (by kernel_rfl) (by kernel_rfl) (by omega) (by omega))) ?_
      refine AG.f rfl rfl (fun st' hst => Q_p rfl (S_loadM rfl (AEv.tmp rfl) (hst _ (List.mem_of_getElem? (i := 0) rfl)) (c := .int .i64 (at3 a k)) (by rw [res_at hk3, mix_at hk3]) (by kernel_rfl))) ?_
      refine AG.f rfl rfl (fun st' hst => Q_p rfl (S_move rfl (AEv.tmp rfl))) ?_
      refine AG.f rfl rfl (fun st' hst => Q_p rfl (S_elemA (e := 3) (len := 3) 1 rfl (AEv.tmp rfl) (AEv.tmp rfl) (by kernel_rfl) (by kernel_rfl) (by omega) (by omega))) ?_
      refine AG.f rfl rfl (fun st' hst => Q_p rfl (S_loadM rfl (AEv.tmp rfl) (hst _ (List.mem_of_getElem? (i := 1) rfl)) (c := .int .i64 (at3 b k)) (by rw [res_at hk3]) (by kernel_rfl))) ?_
      refine AG.f rfl rfl (fun st' hst => Q_p rfl (S_max rfl (AEv.tmp rfl) (AEv.tmp rfl))) ?_
      refine AG.f rfl rfl (fun st' hst => Q_p rfl (S_elemA (e := 3) (len := 3) 1 rfl (AEv.tmp rfl) (AEv.tmp rfl) (by kernel_rfl) (by kernel_rfl) (by omega) (by omega))) ?_
      refine AG.h rfl rfl rfl (S_store 0 rfl (AEv.tmp rfl) (AEv.tmp rfl) rfl (by simp; omega) rfl (by kernel_rfl)) ?_
      rintro _ _ ⟨rfl, rfl⟩
      refine AG.nil ?_
      refine AC_region ?_
      refine AL_p rfl rfl (S_addI rfl (AEv.tmp rfl) (AEv.const _) (by omega) (by omega)) ?_
      refine AL_p rfl rfl (S_move rfl (AEv.tmp rfl)) ?_
      refine AL_nil ?_
      refine ⟨k + 1, by omega, by omega, ?_, (.cons rfl (by first | exact Le.refl _ | exact Le.nils | exact Le.row _ _ _ | (exact Le.of_eq (by simp))) (.cons rfl (by first | exact Le.refl _ | exact Le.nils | exact Le.row _ _ _ | (exact Le.of_eq (by simp))) (.cons rfl (by first | exact Le.refl _ | exact Le.nils | exact Le.row _ _ _ | (exact Le.of_eq (by simp))) (.cons rfl (by first | exact Le.refl _ | exact Le.nils | exact Le.row _ _ _ | (exact Le.of_eq (by simp))) .nil))))⟩
      show (b4, Ob.cells _) :: _ = _
      rw [res_set hk3, mix_set hk3 rfl]
    · try simp only [Bool.and_eq_true, Bool.or_eq_true, Bool.not_eq_true', Bool.not_eq_false', Bool.and_eq_false_iff, Bool.or_eq_false_iff, decide_eq_true_eq, decide_eq_false_iff_not, gd] at hb6
      have hk3 : ¬ k < 3 := by omega
      refine AC_exit ?_
      refine AC_seq ?_
      refine AC_region ?_
      refine AL_p rfl rfl (S_loadN (m := 3) 0 rfl (AEv.tmp rfl) rfl (by kernel_rfl) (by first | exact Nat.le_of_ble_eq_true rfl | (simp; omega) | simp)) ?_
      refine AL_p rfl rfl (S_pcall rfl (AEvs.cons (AEv.tmp rfl) AEvs.nil) (parts_res_ok (mixK max a b k))) ?_
      refine AL_step rfl rfl (S_storeN 2 rfl (AEv.tmp rfl) (AEv.tmp rfl) rfl (by first | exact Nat.le_of_ble_eq_true rfl | (simp; omega) | simp) (by first | rfl | simp [AV.one, Value.oneCell']) (by kernel_rfl)) ?_
      rintro _ _ ⟨rfl, rfl⟩
      refine AL_nil ?_
      refine AC_ret ?_
      refine ret_cell 2 st rfl rfl rfl (by kernel_rfl) (List.Sublist.cons _ (List.Sublist.cons _ (List.Sublist.cons _ (List.Sublist.cons _ (List.Sublist.cons _ (List.Sublist.refl _)))))) (Conv.refl (List.Sublist.cons _ (List.Sublist.cons _ (List.Sublist.cons _ (List.Sublist.cons _ (List.Sublist.cons _ (List.Sublist.refl _)))))) _) ⟨by show resAV (mixK max a b k) = _; rw [mix_end hk3 hk]; rfl, rfl⟩ (.inl rfl)

set_option maxRecDepth 100000 in
/-- provost/res.Over -/
theorem res_Over_ok (a b : Tri) (ha : fits3 a) (hb : fits3 b) : PCalls Try.prog 14 [resAV a, resAV b] (resAV (overR a b)) := by
  intro st
  refine ACalls_of (N := 44) Try.func14 (by kernel_rfl) rfl rfl rfl ?_
  refine AC_seq ?_
  refine AC_region ?_
  refine AL_step rfl rfl (S_box rfl (AEv.tmp rfl)) ?_
  rintro _ _ ⟨b1, rfl, rfl⟩
  refine AL_step rfl rfl (S_box rfl (AEv.tmp rfl)) ?_
  rintro _ _ ⟨b2, rfl, rfl⟩
  refine AL_step rfl rfl (S_alloc [.int .i64 0, .int .i64 0, .int .i64 0] rfl (by kernel_rfl)) ?_
  rintro _ _ ⟨b3, rfl, rfl⟩
  refine AL_nil ?_
  refine AC_seq ?_
  refine AC_plan (σ := [(0, 0), (1, 0), (2, 0), (3, 0), (4, 3), (5, 3), (6, 2), (7, 2)]) (by kernel_rfl) _ (by kernel_rfl) (fun _ h => h) ?_
  refine AG.f rfl rfl (fun st' hst => Q_p rfl (S_loadNM (m := 3) rfl (AEv.tmp rfl) (hst _ (List.mem_of_getElem? (i := 2) rfl)) (by kernel_rfl) (by first | exact Nat.le_of_ble_eq_true rfl | (simp; omega) | simp))) ?_
  refine AG.f rfl rfl (fun st' hst => Q_p rfl (S_pcall rfl (AEvs.cons (AEv.tmp rfl) AEvs.nil) (res_of_ok _))) ?_
  refine AG.f rfl rfl (fun st' hst => Q_p rfl (S_loadNM (m := 3) rfl (AEv.tmp rfl) (hst _ (List.mem_of_getElem? (i := 1) rfl)) (by kernel_rfl) (by first | exact Nat.le_of_ble_eq_true rfl | (simp; omega) | simp))) ?_
  refine AG.f rfl rfl (fun st' hst => Q_p rfl (S_pcall rfl (AEvs.cons (AEv.tmp rfl) AEvs.nil) (res_of_ok _))) ?_
  refine AG.al [(4, 5, [.int .i64 0, .int .i64 0, .int .i64 0]), (5, 6, [.int .i64 0, .int .i64 0, .int .i64 0])] (by simp) (by simp) (AllocsAt.all (AllocsAt.cons rfl rfl rfl (by decide) rfl (by kernel_rfl) (AllocsAt.cons rfl rfl rfl (by decide) rfl (by kernel_rfl) AllocsAt.nil))) (by simp) (fun β => ?_)
  simp only [allocEnv, allocSt, List.foldl_cons, List.foldl_nil, List.map_cons, List.map_nil, List.cons_append, List.nil_append]
  generalize β 5 = b4
  generalize β 6 = b5
  refine AG.h rfl rfl rfl (S_storeN 0 rfl (AEv.tmp rfl) (AEv.tmp rfl) rfl (by first | exact Nat.le_of_ble_eq_true rfl | (simp; omega) | simp) (by first | rfl | simp [AV.one, Value.oneCell']) (by kernel_rfl)) ?_
  rintro _ _ ⟨rfl, rfl⟩
  refine AG.h rfl rfl rfl (S_storeN 1 rfl (AEv.tmp rfl) (AEv.tmp rfl) rfl (by first | exact Nat.le_of_ble_eq_true rfl | (simp; omega) | simp) (by first | rfl | simp [AV.one, Value.oneCell']) (by kernel_rfl)) ?_
  rintro _ _ ⟨rfl, rfl⟩
  refine AG.nil ?_
  refine AC_seq ?_
  refine AC_seq ?_
  refine AC_region ?_
  refine AL_p rfl rfl (S_move rfl (AEv.const _)) ?_
  refine AL_nil ?_
  refine AC_block ?_
  refine AC_loop (G := Nat) (fun k => k ≤ 3) (fun k => [(4, .ptr b3 0), (5, .ptr b4 0), (6, .ptr b5 0), (14, .int .i64 (k : Int))]) (fun k => (b4, .cells (resL (mixK overV a b k))) :: (b5, .cells (resL b)) :: (b3, .cells (resL (0, 0, 0))) :: (b2, .cells (resL b)) :: (b1, .cells (resL a)) :: st) (fun k => 3 - k) (0) (by omega) rfl ?_ ?_
  · exact (.cons rfl (by first | exact Le.refl _ | exact Le.nils | exact Le.row _ _ _ | (exact Le.of_eq (by simp))) (.cons rfl (by first | exact Le.refl _ | exact Le.nils | exact Le.row _ _ _ | (exact Le.of_eq (by simp))) (.cons rfl (by first | exact Le.refl _ | exact Le.nils | exact Le.row _ _ _ | (exact Le.of_eq (by simp))) (.cons rfl (by first | exact Le.refl _ | exact Le.nils | exact Le.row _ _ _ | (exact Le.of_eq (by simp))) .nil))))
  · rintro k hk
    try dsimp only
    have h1 := at3_fits ha k
    have h2 := at3_fits hb k
    refine AC_seq ?_
    refine AC_region ?_
    refine AL_p rfl rfl (S_lss rfl (AEv.tmp rfl) (AEv.const _)) ?_
    refine AL_nil ?_
    refine AC_seq ?_
    refine AC_cond (AEv.tmp rfl) (fun hb6 => ?_) (fun hb6 => ?_)
    · try simp only [Bool.and_eq_true, Bool.or_eq_true, Bool.not_eq_true', Bool.not_eq_false', Bool.and_eq_false_iff, Bool.or_eq_false_iff, decide_eq_true_eq, decide_eq_false_iff_not, gd] at hb6
      have hk3 : k < 3 := by omega
      refine AC_skip ?_
      refine AC_seq ?_
      refine AC_block ?_
      refine AC_seq ?_
      refine AC_region ?_
      refine AL_p rfl rfl (S_move rfl (AEv.tmp rfl)) ?_
      refine AL_p rfl rfl (S_assign rfl (AEv.tmp rfl)) ?_
      refine AL_nil ?_
      refine AC_seq ?_
      refine AC_draw (by kernel_rfl) (by kernel_rfl) (.cons rfl (Q_p rfl (S_move rfl (AEv.tmp rfl))) <|
          .cons rfl (Q_p rfl (S_elemA (e := 3) (len := 3) 1 rfl (AEv.tmp rfl) (AEv.tmp rfl) (by kernel_rfl) (by kernel_rfl) (by omega) (by omega))) <|
          .cons rfl (Q_p rfl (S_load 0 rfl (AEv.tmp rfl) rfl (c := .int .i64 (at3 a k)) (by rw [res_at hk3, mix_at hk3]) (by kernel_rfl))) <|
          .cons rfl (Q_p rfl (S_move rfl (AEv.tmp rfl))) <|
          .cons rfl (Q_p rfl (S_elemA (e := 3) (len := 3) 1 rfl (AEv.tmp rfl) (AEv.tmp rfl) (by kernel_rfl) (by kernel_rfl) (by omega) (by omega))) <|
          .cons rfl (Q_p rfl (S_load 1 rfl (AEv.tmp rfl) rfl (c := .int .i64 (at3 b k)) (by rw [res_at hk3]) (by kernel_rfl))) <|
          .cons rfl (Q_p rfl (S_pcall rfl (AEvs.cons (AEv.tmp rfl) (AEvs.cons (AEv.tmp rfl) AEvs.nil)) (res_minus_ok _ _ (by first | assumption | decide) (by first | assumption | decide)))) <|
          .cons rfl (Q_p rfl (S_move rfl (AEv.tmp rfl))) <|
          .cons rfl (Q_p rfl (S_extract 0 rfl (AEv.tmp rfl) rfl)) <|
          .cons rfl (Q_p rfl (S_extract 1 rfl (AEv.tmp rfl) rfl)) <|
          .cons rfl (Q_p rfl (S_assign rfl (AEv.tmp rfl))) <|
          .cons rfl (Q_p rfl (S_assign rfl (AEv.tmp rfl))) <|
          .nil) ?_
      refine AC_seq ?_
      refine AC_seq ?_
      refine AC_draw (by kernel_rfl) (by kernel_rfl) (.cons rfl (Q_p rfl (S_move rfl (AEv.tmp rfl))) <|
          .cons rfl (Q_p rfl (S_not rfl (AEv.tmp rfl))) <|
          .cons rfl (Q_p rfl (S_move rfl (AEv.tmp rfl))) <|
          .cons rfl (Q_g rfl rfl (AEv.tmp rfl) (fun hg7 => S_move rfl (AEv.tmp rfl))) <|
          .cons rfl (Q_g rfl rfl (AEv.tmp rfl) (fun hg10 => S_elemA (e := 3) (len := 3) 1 rfl (AEv.tmp rfl) (AEv.cond (AEv.tmp rfl) (by first | assumption | exact gdAnd (by assumption) (by assumption))) (by kernel_rfl) (by kernel_rfl) (by (try simp only [gd, Bool.and_eq_true, Bool.or_eq_true, Bool.not_eq_true', Bool.not_eq_false', decide_eq_true_eq, decide_eq_false_iff_not, Bool.or_eq_false_iff, Bool.and_eq_false_iff] at *); omega) (by (try simp only [gd, Bool.and_eq_true, Bool.or_eq_true, Bool.not_eq_true', Bool.not_eq_false', decide_eq_true_eq, decide_eq_false_iff_not, Bool.or_eq_false_iff, Bool.and_eq_false_iff] at *); omega))) <|
          .cons rfl (Q_g rfl rfl (AEv.tmp rfl) (fun hg13 => S_load 0 rfl (AEv.cond (AEv.tmp rfl) (by first | assumption | exact gdAnd (by assumption) (by assumption))) rfl (c := .int .i64 (at3 a k)) (by rw [res_at hk3, mix_at hk3]) (by kernel_rfl))) <|
          .cons rfl (Q_g rfl rfl (AEv.tmp rfl) (fun hg16 => S_move rfl (AEv.tmp rfl))) <|
          .cons rfl (Q_g rfl rfl (AEv.tmp rfl) (fun hg19 => S_elemA (e := 3) (len := 3) 1 rfl (AEv.tmp rfl) (AEv.cond (AEv.tmp rfl) (by first | assumption | exact gdAnd (by assumption) (by assumption))) (by kernel_rfl) (by kernel_rfl) (by (try simp only [gd, Bool.and_eq_true, Bool.or_eq_true, Bool.not_eq_true', Bool.not_eq_false', decide_eq_true_eq, decide_eq_false_iff_not, Bool.or_eq_false_iff, Bool.and_eq_false_iff] at *); omega) (by (try simp only [gd, Bool.and_eq_true, Bool.or_eq_true, Bool.not_eq_true', Bool.not_eq_false', decide_eq_true_eq, decide_eq_false_iff_not, Bool.or_eq_false_iff, Bool.and_eq_false_iff] at *); omega))) <|
          .cons rfl (Q_g rfl rfl (AEv.tmp rfl) (fun hg22 => S_load 1 rfl (AEv.cond (AEv.tmp rfl) (by first | assumption | exact gdAnd (by assumption) (by assumption))) rfl (c := .int .i64 (at3 b k)) (by rw [res_at hk3]) (by kernel_rfl))) <|
          .cons rfl (Q_g rfl rfl (AEv.tmp rfl) (fun hg25 => S_gtr rfl (AEv.cond (AEv.tmp rfl) (by first | assumption | exact gdAnd (by assumption) (by assumption))) (AEv.cond (AEv.tmp rfl) (by first | assumption | exact gdAnd (by assumption) (by assumption))))) <|
          .cons rfl (Q_p rfl (S_and rfl (AEv.tmp rfl) (fun hp28 => (AEv.cond (AEv.tmp rfl) (by first | assumption | exact gdT hp28 | exact gdF hp28 | exact gdAnd (by assumption) (gdT hp28) | exact gdAnd (by assumption) (gdF hp28)))))) <|
          .nil) ?_
      refine AC_cond (AEv.tmp rfl) (fun hb29 => ?_) (fun hb29 => ?_)
      · try simp only [Bool.and_eq_true, Bool.or_eq_true, Bool.not_eq_true', Bool.not_eq_false', Bool.and_eq_false_iff, Bool.or_eq_false_iff, decide_eq_true_eq, decide_eq_false_iff_not, gd] at hb29
        have hv : (9223372036854775807 : Int) = overV (at3 a k) (at3 b k) := by rw [overV, if_pos hb29]
        refine AC_region ?_
        refine AL_p rfl rfl (S_assign rfl (AEv.const _)) ?_
        refine AL_nil ?_
        refine AC_region ?_
        refine AL_p rfl rfl (S_move rfl (AEv.tmp rfl)) ?_
        refine AL_p rfl rfl (S_move rfl (AEv.tmp rfl)) ?_
        refine AL_p rfl rfl (S_elemA (e := 3) (len := 3) 1 rfl (AEv.tmp rfl) (AEv.tmp rfl) (by kernel_rfl) (by kernel_rfl) (by omega) (by omega)) ?_
        refine AL_step rfl rfl (S_store 0 rfl (AEv.tmp rfl) (AEv.tmp rfl) rfl (by simp; omega) rfl (by kernel_rfl)) ?_
        rintro _ _ ⟨rfl, rfl⟩
        refine AL_nil ?_
        refine AC_region ?_
        refine AL_p rfl rfl (S_addI rfl (AEv.tmp rfl) (AEv.const _) (by omega) (by omega)) ?_
        refine AL_p rfl rfl (S_move rfl (AEv.tmp rfl)) ?_
        refine AL_nil ?_
        refine ⟨k + 1, by omega, by omega, ?_, (.cons rfl (by first | exact Le.refl _ | exact Le.nils | exact Le.row _ _ _ | (exact Le.of_eq (by simp))) (.cons rfl (by first | exact Le.refl _ | exact Le.nils | exact Le.row _ _ _ | (exact Le.of_eq (by simp))) (.cons rfl (by first | exact Le.refl _ | exact Le.nils | exact Le.row _ _ _ | (exact Le.of_eq (by simp))) (.cons rfl (by first | exact Le.refl _ | exact Le.nils | exact Le.row _ _ _ | (exact Le.of_eq (by simp))) .nil))))⟩
        show (b4, Ob.cells _) :: _ = _
        rw [res_set hk3, mix_set hk3 hv]
      · try simp only [Bool.and_eq_true, Bool.or_eq_true, Bool.not_eq_true', Bool.not_eq_false', Bool.and_eq_false_iff, Bool.or_eq_false_iff, decide_eq_true_eq, decide_eq_false_iff_not, gd] at hb29
        have hv : (subV (at3 a k) (at3 b k)).1 = overV (at3 a k) (at3 b k) := by
          rw [overV, if_neg]
          rintro ⟨h1, h2⟩
          rcases hb29 with h | h
          · rw [h1] at h; cases h
          · omega
        refine AC_skip ?_
        refine AC_region ?_
        refine AL_p rfl rfl (S_move rfl (AEv.tmp rfl)) ?_
        refine AL_p rfl rfl (S_move rfl (AEv.tmp rfl)) ?_
        refine AL_p rfl rfl (S_elemA (e := 3) (len := 3) 1 rfl (AEv.tmp rfl) (AEv.tmp rfl) (by kernel_rfl) (by kernel_rfl) (by omega) (by omega)) ?_
        refine AL_step rfl rfl (S_store 0 rfl (AEv.tmp rfl) (AEv.tmp rfl) rfl (by simp; omega) rfl (by kernel_rfl)) ?_
        rintro _ _ ⟨rfl, rfl⟩
        refine AL_nil ?_
        refine AC_region ?_
        refine AL_p rfl rfl (S_addI rfl (AEv.tmp rfl) (AEv.const _) (by omega) (by omega)) ?_
        refine AL_p rfl rfl (S_move rfl (AEv.tmp rfl)) ?_
        refine AL_nil ?_
        refine ⟨k + 1, by omega, by omega, ?_, (.cons rfl (by first | exact Le.refl _ | exact Le.nils | exact Le.row _ _ _ | (exact Le.of_eq (by simp))) (.cons rfl (by first | exact Le.refl _ | exact Le.nils | exact Le.row _ _ _ | (exact Le.of_eq (by simp))) (.cons rfl (by first | exact Le.refl _ | exact Le.nils | exact Le.row _ _ _ | (exact Le.of_eq (by simp))) (.cons rfl (by first | exact Le.refl _ | exact Le.nils | exact Le.row _ _ _ | (exact Le.of_eq (by simp))) .nil))))⟩
        show (b4, Ob.cells _) :: _ = _
        rw [res_set hk3, mix_set hk3 hv]
    · try simp only [Bool.and_eq_true, Bool.or_eq_true, Bool.not_eq_true', Bool.not_eq_false', Bool.and_eq_false_iff, Bool.or_eq_false_iff, decide_eq_true_eq, decide_eq_false_iff_not, gd] at hb6
      have hk3 : ¬ k < 3 := by omega
      refine AC_exit ?_
      refine AC_seq ?_
      refine AC_region ?_
      refine AL_p rfl rfl (S_loadN (m := 3) 0 rfl (AEv.tmp rfl) rfl (by kernel_rfl) (by first | exact Nat.le_of_ble_eq_true rfl | (simp; omega) | simp)) ?_
      refine AL_p rfl rfl (S_pcall rfl (AEvs.cons (AEv.tmp rfl) AEvs.nil) (parts_res_ok (mixK overV a b k))) ?_
      refine AL_step rfl rfl (S_storeN 2 rfl (AEv.tmp rfl) (AEv.tmp rfl) rfl (by first | exact Nat.le_of_ble_eq_true rfl | (simp; omega) | simp) (by first | rfl | simp [AV.one, Value.oneCell']) (by kernel_rfl)) ?_
      rintro _ _ ⟨rfl, rfl⟩
      refine AL_nil ?_
      refine AC_ret ?_
      refine ret_cell 2 st rfl rfl rfl (by kernel_rfl) (List.Sublist.cons _ (List.Sublist.cons _ (List.Sublist.cons _ (List.Sublist.cons _ (List.Sublist.cons _ (List.Sublist.refl _)))))) (Conv.refl (List.Sublist.cons _ (List.Sublist.cons _ (List.Sublist.cons _ (List.Sublist.cons _ (List.Sublist.cons _ (List.Sublist.refl _)))))) _) ⟨by show resAV (mixK overV a b k) = _; rw [mix_end hk3 hk]; rfl, rfl⟩ (.inl rfl)

set_option maxRecDepth 100000 in
/-- provost/provostref14.Max -/
theorem ref14_Max_ok (a b : Tri) (ha : fits3 a) (hb : fits3 b) : PCalls Try.prog 11 [resAV a, resAV b] (resAV (maxR a b)) := by
  intro st
  refine ACalls_of (N := 21) Try.func11 (by kernel_rfl) rfl rfl rfl ?_
  obtain ⟨ha1, ha2, ha3⟩ := ha
  obtain ⟨hb1, hb2, hb3⟩ := hb
  refine AC_seq ?_
  refine AC_region ?_
  refine AL_step rfl rfl (S_box rfl (AEv.tmp rfl)) ?_
  rintro _ _ ⟨b1, rfl, rfl⟩
  refine AL_step rfl rfl (S_box rfl (AEv.tmp rfl)) ?_
  rintro _ _ ⟨b2, rfl, rfl⟩
  refine AL_step rfl rfl (S_alloc [.int .i64 0, .int .i64 0, .int .i64 0] rfl (by kernel_rfl)) ?_
  rintro _ _ ⟨b3, rfl, rfl⟩
  refine AL_nil ?_
  refine AC_seq ?_
  refine AC_plan (σ := [(0, 0), (1, 0), (2, 0), (3, 0), (4, 0), (5, 0), (6, 0), (7, 0), (8, 0), (9, 0), (10, 0), (11, 0), (12, 0), (13, 0), (14, 0), (15, 0), (16, 2)]) (by kernel_rfl) _ (by kernel_rfl) (fun _ h => h) ?_
  refine AG.f rfl rfl (fun st' hst => Q_p rfl (S_field 0 rfl (AEv.tmp rfl) (by kernel_rfl))) ?_
  refine AG.f rfl rfl (fun st' hst => Q_p rfl (S_loadM rfl (AEv.tmp rfl) (hst _ (List.mem_of_getElem? (i := 2) rfl)) rfl (by kernel_rfl))) ?_
  refine AG.f rfl rfl (fun st' hst => Q_p rfl (S_field 0 rfl (AEv.tmp rfl) (by kernel_rfl))) ?_
  refine AG.f rfl rfl (fun st' hst => Q_p rfl (S_loadM rfl (AEv.tmp rfl) (hst _ (List.mem_of_getElem? (i := 1) rfl)) rfl (by kernel_rfl))) ?_
  refine AG.f rfl rfl (fun st' hst => Q_p rfl (S_pcall rfl (AEvs.cons (AEv.tmp rfl) (AEvs.cons (AEv.tmp rfl) AEvs.nil)) (ref_more_ok _ _ (by first | assumption | decide) (by first | assumption | decide)))) ?_
  refine AG.f rfl rfl (fun st' hst => Q_p rfl (S_field 1 rfl (AEv.tmp rfl) (by kernel_rfl))) ?_
  refine AG.f rfl rfl (fun st' hst => Q_p rfl (S_loadM rfl (AEv.tmp rfl) (hst _ (List.mem_of_getElem? (i := 2) rfl)) rfl (by kernel_rfl))) ?_
  refine AG.f rfl rfl (fun st' hst => Q_p rfl (S_field 1 rfl (AEv.tmp rfl) (by kernel_rfl))) ?_
  refine AG.f rfl rfl (fun st' hst => Q_p rfl (S_loadM rfl (AEv.tmp rfl) (hst _ (List.mem_of_getElem? (i := 1) rfl)) rfl (by kernel_rfl))) ?_
  refine AG.f rfl rfl (fun st' hst => Q_p rfl (S_pcall rfl (AEvs.cons (AEv.tmp rfl) (AEvs.cons (AEv.tmp rfl) AEvs.nil)) (ref_more_ok _ _ (by first | assumption | decide) (by first | assumption | decide)))) ?_
  refine AG.f rfl rfl (fun st' hst => Q_p rfl (S_field 2 rfl (AEv.tmp rfl) (by kernel_rfl))) ?_
  refine AG.f rfl rfl (fun st' hst => Q_p rfl (S_loadM rfl (AEv.tmp rfl) (hst _ (List.mem_of_getElem? (i := 2) rfl)) rfl (by kernel_rfl))) ?_
  refine AG.f rfl rfl (fun st' hst => Q_p rfl (S_field 2 rfl (AEv.tmp rfl) (by kernel_rfl))) ?_
  refine AG.f rfl rfl (fun st' hst => Q_p rfl (S_loadM rfl (AEv.tmp rfl) (hst _ (List.mem_of_getElem? (i := 1) rfl)) rfl (by kernel_rfl))) ?_
  refine AG.f rfl rfl (fun st' hst => Q_p rfl (S_pcall rfl (AEvs.cons (AEv.tmp rfl) (AEvs.cons (AEv.tmp rfl) AEvs.nil)) (ref_more_ok _ _ (by first | assumption | decide) (by first | assumption | decide)))) ?_
  refine AG.f rfl rfl (fun st' hst => Q_p rfl (S_build (pl := [(0, 1), (1, 1), (2, 1)]) (zs := [.int .i64 0, .int .i64 0, .int .i64 0]) rfl (AEvs.cons (AEv.tmp rfl) (AEvs.cons (AEv.tmp rfl) (AEvs.cons (AEv.tmp rfl) AEvs.nil))) (by kernel_rfl) rfl)) ?_
  refine AG.h rfl rfl rfl (S_storeN 0 rfl (AEv.tmp rfl) (AEv.tmp rfl) rfl (by first | exact Nat.le_of_ble_eq_true rfl | (simp; omega) | simp) (by first | rfl | simp [AV.one, Value.oneCell']) (by kernel_rfl)) ?_
  rintro _ _ ⟨rfl, rfl⟩
  refine AG.nil ?_
  refine AC_ret ?_
  refine ret_cell 0 st rfl rfl rfl (by kernel_rfl) (List.Sublist.cons _ (List.Sublist.cons _ (List.Sublist.cons _ (List.Sublist.refl _)))) (Conv.refl (List.Sublist.cons _ (List.Sublist.cons _ (List.Sublist.cons _ (List.Sublist.refl _)))) _) ⟨by first | rfl | (simp; done), rfl⟩ (.inl rfl)

set_option maxRecDepth 100000 in
/-- provost/provostref14.Over -/
theorem ref14_Over_ok (a b : Tri) (ha : fits3 a) (hb : fits3 b) : PCalls Try.prog 15 [resAV a, resAV b] (resAV (overR a b)) := by
  intro st
  refine ACalls_of (N := 21) Try.func15 (by kernel_rfl) rfl rfl rfl ?_
  obtain ⟨ha1, ha2, ha3⟩ := ha
  obtain ⟨hb1, hb2, hb3⟩ := hb
  refine AC_seq ?_
  refine AC_region ?_
  refine AL_step rfl rfl (S_box rfl (AEv.tmp rfl)) ?_
  rintro _ _ ⟨b1, rfl, rfl⟩
  refine AL_step rfl rfl (S_box rfl (AEv.tmp rfl)) ?_
  rintro _ _ ⟨b2, rfl, rfl⟩
  refine AL_step rfl rfl (S_alloc [.int .i64 0, .int .i64 0, .int .i64 0] rfl (by kernel_rfl)) ?_
  rintro _ _ ⟨b3, rfl, rfl⟩
  refine AL_nil ?_
  refine AC_seq ?_
  refine AC_plan (σ := [(0, 0), (1, 0), (2, 0), (3, 0), (4, 0), (5, 0), (6, 0), (7, 0), (8, 0), (9, 0), (10, 0), (11, 0), (12, 0), (13, 0), (14, 0), (15, 0), (16, 2)]) (by kernel_rfl) _ (by kernel_rfl) (fun _ h => h) ?_
  refine AG.f rfl rfl (fun st' hst => Q_p rfl (S_field 0 rfl (AEv.tmp rfl) (by kernel_rfl))) ?_
  refine AG.f rfl rfl (fun st' hst => Q_p rfl (S_loadM rfl (AEv.tmp rfl) (hst _ (List.mem_of_getElem? (i := 2) rfl)) rfl (by kernel_rfl))) ?_
  refine AG.f rfl rfl (fun st' hst => Q_p rfl (S_field 0 rfl (AEv.tmp rfl) (by kernel_rfl))) ?_
  refine AG.f rfl rfl (fun st' hst => Q_p rfl (S_loadM rfl (AEv.tmp rfl) (hst _ (List.mem_of_getElem? (i := 1) rfl)) rfl (by kernel_rfl))) ?_
  refine AG.f rfl rfl (fun st' hst => Q_p rfl (S_pcall rfl (AEvs.cons (AEv.tmp rfl) (AEvs.cons (AEv.tmp rfl) AEvs.nil)) (ref_over_ok _ _ (by first | assumption | decide) (by first | assumption | decide)))) ?_
  refine AG.f rfl rfl (fun st' hst => Q_p rfl (S_field 1 rfl (AEv.tmp rfl) (by kernel_rfl))) ?_
  refine AG.f rfl rfl (fun st' hst => Q_p rfl (S_loadM rfl (AEv.tmp rfl) (hst _ (List.mem_of_getElem? (i := 2) rfl)) rfl (by kernel_rfl))) ?_
  refine AG.f rfl rfl (fun st' hst => Q_p rfl (S_field 1 rfl (AEv.tmp rfl) (by kernel_rfl))) ?_
  refine AG.f rfl rfl (fun st' hst => Q_p rfl (S_loadM rfl (AEv.tmp rfl) (hst _ (List.mem_of_getElem? (i := 1) rfl)) rfl (by kernel_rfl))) ?_
  refine AG.f rfl rfl (fun st' hst => Q_p rfl (S_pcall rfl (AEvs.cons (AEv.tmp rfl) (AEvs.cons (AEv.tmp rfl) AEvs.nil)) (ref_over_ok _ _ (by first | assumption | decide) (by first | assumption | decide)))) ?_
  refine AG.f rfl rfl (fun st' hst => Q_p rfl (S_field 2 rfl (AEv.tmp rfl) (by kernel_rfl))) ?_
  refine AG.f rfl rfl (fun st' hst => Q_p rfl (S_loadM rfl (AEv.tmp rfl) (hst _ (List.mem_of_getElem? (i := 2) rfl)) rfl (by kernel_rfl))) ?_
  refine AG.f rfl rfl (fun st' hst => Q_p rfl (S_field 2 rfl (AEv.tmp rfl) (by kernel_rfl))) ?_
  refine AG.f rfl rfl (fun st' hst => Q_p rfl (S_loadM rfl (AEv.tmp rfl) (hst _ (List.mem_of_getElem? (i := 1) rfl)) rfl (by kernel_rfl))) ?_
  refine AG.f rfl rfl (fun st' hst => Q_p rfl (S_pcall rfl (AEvs.cons (AEv.tmp rfl) (AEvs.cons (AEv.tmp rfl) AEvs.nil)) (ref_over_ok _ _ (by first | assumption | decide) (by first | assumption | decide)))) ?_
  refine AG.f rfl rfl (fun st' hst => Q_p rfl (S_build (pl := [(0, 1), (1, 1), (2, 1)]) (zs := [.int .i64 0, .int .i64 0, .int .i64 0]) rfl (AEvs.cons (AEv.tmp rfl) (AEvs.cons (AEv.tmp rfl) (AEvs.cons (AEv.tmp rfl) AEvs.nil))) (by kernel_rfl) rfl)) ?_
  refine AG.h rfl rfl rfl (S_storeN 0 rfl (AEv.tmp rfl) (AEv.tmp rfl) rfl (by first | exact Nat.le_of_ble_eq_true rfl | (simp; omega) | simp) (by first | rfl | simp [AV.one, Value.oneCell']) (by kernel_rfl)) ?_
  rintro _ _ ⟨rfl, rfl⟩
  refine AG.nil ?_
  refine AC_ret ?_
  refine ret_cell 0 st rfl rfl rfl (by kernel_rfl) (List.Sublist.cons _ (List.Sublist.cons _ (List.Sublist.cons _ (List.Sublist.refl _)))) (Conv.refl (List.Sublist.cons _ (List.Sublist.cons _ (List.Sublist.cons _ (List.Sublist.refl _)))) _) ⟨by first | rfl | (simp; done), rfl⟩ (.inl rfl)

set_option maxRecDepth 100000 in
/-- provost/res.Fits -/
theorem res_Fits_ok (a b : Tri) (ha : fits3 a) (hb : fits3 b) : PCalls Try.prog 12 [resAV a, resAV b] (.bool (fitsR a b)) := by
  intro st
  refine ACalls_of (N := 12) Try.func12 (by kernel_rfl) rfl rfl rfl ?_
  refine AC_seq ?_
  refine AC_region ?_
  refine AL_step rfl rfl (S_box rfl (AEv.tmp rfl)) ?_
  rintro _ _ ⟨b1, rfl, rfl⟩
  refine AL_step rfl rfl (S_box rfl (AEv.tmp rfl)) ?_
  rintro _ _ ⟨b2, rfl, rfl⟩
  refine AL_p rfl rfl (S_assign rfl (AEv.const _)) ?_
  refine AL_nil ?_
  refine AC_seq ?_
  refine AC_draw (by kernel_rfl) (by kernel_rfl) (.cons rfl (Q_p rfl (S_loadN (m := 3) 1 rfl (AEv.tmp rfl) rfl (by kernel_rfl) (by first | exact Nat.le_of_ble_eq_true rfl | (simp; omega) | simp))) <|
      .cons rfl (Q_p rfl (S_loadN (m := 3) 0 rfl (AEv.tmp rfl) rfl (by kernel_rfl) (by first | exact Nat.le_of_ble_eq_true rfl | (simp; omega) | simp))) <|
      .cons rfl (Q_p rfl (S_pcall rfl (AEvs.cons (AEv.tmp rfl) (AEvs.cons (AEv.tmp rfl) AEvs.nil)) (res_Max_ok _ _ (by first | assumption | exact addR_fits _ _ | exact subR_fits _ _ | exact maxR_fits (by assumption) (by assumption) | decide) (by first | assumption | exact addR_fits _ _ | exact subR_fits _ _ | exact maxR_fits (by assumption) (by assumption) | decide)))) <|
      .cons rfl (Q_p rfl (S_pcall rfl (AEvs.cons (AEv.tmp rfl) AEvs.nil) (res_of_ok _))) <|
      .cons rfl (Q_p rfl (S_loadN (m := 3) 0 rfl (AEv.tmp rfl) rfl (by kernel_rfl) (by first | exact Nat.le_of_ble_eq_true rfl | (simp; omega) | simp))) <|
      .cons rfl (Q_p rfl (S_pcall rfl (AEvs.cons (AEv.tmp rfl) AEvs.nil) (res_of_ok _))) <|
      .cons rfl (Q_p rfl (S_eqlAgg rfl (AEv.tmp rfl) (AEv.tmp rfl) (by kernel_rfl) (EqAV.array (m := 1) Try.underlying38 (by kernel_rfl) (by kernel_rfl) (EqIs.flat (by kernel_rfl) rfl rfl (EqAV.int (k' := .i64) (by kernel_rfl)) (EqIs.flat (by kernel_rfl) rfl rfl (EqAV.int (k' := .i64) (by kernel_rfl)) (EqIs.flat (by kernel_rfl) rfl rfl (EqAV.int (k' := .i64) (by kernel_rfl)) EqIs.nil)))))) <|
      .cons rfl (Q_p rfl (S_assign rfl (AEv.tmp rfl))) <|
      .nil) ?_
  refine AC_ret ?_
  refine ret_tmp st rfl rfl (List.Sublist.cons _ (List.Sublist.cons _ (List.Sublist.refl _))) (Conv.refl (List.Sublist.cons _ (List.Sublist.cons _ (List.Sublist.refl _))) _) ⟨by rw [and3]; simp only [max_le, fitsR, maxR], rfl⟩ (.inl rfl)

set_option maxRecDepth 100000 in
/-- provost/provostref14.Fits -/
theorem ref14_Fits_ok (a b : Tri) (ha : fits3 a) (hb : fits3 b) : PCalls Try.prog 13 [resAV a, resAV b] (.bool (fitsR a b)) := by
  intro st
  refine ACalls_of (N := 24) Try.func13 (by kernel_rfl) rfl rfl rfl ?_
  refine AC_seq ?_
  refine AC_region ?_
  refine AL_step rfl rfl (S_box rfl (AEv.tmp rfl)) ?_
  rintro _ _ ⟨b1, rfl, rfl⟩
  refine AL_step rfl rfl (S_box rfl (AEv.tmp rfl)) ?_
  rintro _ _ ⟨b2, rfl, rfl⟩
  refine AL_p rfl rfl (S_assign rfl (AEv.const _)) ?_
  refine AL_nil ?_
  refine AC_seq ?_
  refine AC_region ?_
  refine AL_p rfl rfl (S_field 0 rfl (AEv.tmp rfl) (by kernel_rfl)) ?_
  refine AL_p rfl rfl (S_load 1 rfl (AEv.tmp rfl) rfl rfl (by kernel_rfl)) ?_
  refine AL_p rfl rfl (S_field 0 rfl (AEv.tmp rfl) (by kernel_rfl)) ?_
  refine AL_p rfl rfl (S_load 0 rfl (AEv.tmp rfl) rfl rfl (by kernel_rfl)) ?_
  refine AL_p rfl rfl (S_leq rfl (AEv.tmp rfl) (AEv.tmp rfl)) ?_
  refine AL_p rfl rfl (S_move rfl (AEv.tmp rfl)) ?_
  refine AL_g rfl rfl (AEv.tmp rfl) rfl (fun hg3 => S_field 1 rfl (AEv.tmp rfl) (by kernel_rfl)) ?_
  refine AL_g rfl rfl (AEv.tmp rfl) rfl (fun hg6 => S_load 1 rfl (AEv.cond (AEv.tmp rfl) (by first | assumption | exact gdAnd (by assumption) (by assumption))) rfl rfl (by kernel_rfl)) ?_
  refine AL_g rfl rfl (AEv.tmp rfl) rfl (fun hg9 => S_field 1 rfl (AEv.tmp rfl) (by kernel_rfl)) ?_
  refine AL_g rfl rfl (AEv.tmp rfl) rfl (fun hg12 => S_load 0 rfl (AEv.cond (AEv.tmp rfl) (by first | assumption | exact gdAnd (by assumption) (by assumption))) rfl rfl (by kernel_rfl)) ?_
  refine AL_g rfl rfl (AEv.tmp rfl) rfl (fun hg15 => S_leq rfl (AEv.cond (AEv.tmp rfl) (by first | assumption | exact gdAnd (by assumption) (by assumption))) (AEv.cond (AEv.tmp rfl) (by first | assumption | exact gdAnd (by assumption) (by assumption)))) ?_
  refine AL_p rfl rfl (S_and rfl (AEv.tmp rfl) (fun hp18 => (AEv.cond (AEv.tmp rfl) (by first | assumption | exact gdT hp18 | exact gdF hp18 | exact gdAnd (by assumption) (gdT hp18) | exact gdAnd (by assumption) (gdF hp18))))) ?_
  refine AL_p rfl rfl (S_move rfl (AEv.tmp rfl)) ?_
  refine AL_g rfl rfl (AEv.tmp rfl) rfl (fun hg19 => S_field 2 rfl (AEv.tmp rfl) (by kernel_rfl)) ?_
  refine AL_g rfl rfl (AEv.tmp rfl) rfl (fun hg22 => S_load 1 rfl (AEv.cond (AEv.tmp rfl) (by first | assumption | exact gdAnd (by assumption) (by assumption))) rfl rfl (by kernel_rfl)) ?_
  refine AL_g rfl rfl (AEv.tmp rfl) rfl (fun hg25 => S_field 2 rfl (AEv.tmp rfl) (by kernel_rfl)) ?_
  refine AL_g rfl rfl (AEv.tmp rfl) rfl (fun hg28 => S_load 0 rfl (AEv.cond (AEv.tmp rfl) (by first | assumption | exact gdAnd (by assumption) (by assumption))) rfl rfl (by kernel_rfl)) ?_
  refine AL_g rfl rfl (AEv.tmp rfl) rfl (fun hg31 => S_leq rfl (AEv.cond (AEv.tmp rfl) (by first | assumption | exact gdAnd (by assumption) (by assumption))) (AEv.cond (AEv.tmp rfl) (by first | assumption | exact gdAnd (by assumption) (by assumption)))) ?_
  refine AL_p rfl rfl (S_and rfl (AEv.tmp rfl) (fun hp34 => (AEv.cond (AEv.tmp rfl) (by first | assumption | exact gdT hp34 | exact gdF hp34 | exact gdAnd (by assumption) (gdT hp34) | exact gdAnd (by assumption) (gdF hp34))))) ?_
  refine AL_p rfl rfl (S_assign rfl (AEv.tmp rfl)) ?_
  refine AL_nil ?_
  refine AC_ret ?_
  refine ret_tmp st rfl rfl (List.Sublist.cons _ (List.Sublist.cons _ (List.Sublist.refl _))) (Conv.refl (List.Sublist.cons _ (List.Sublist.cons _ (List.Sublist.refl _))) _) ⟨by rw [and3', fitsR], rfl⟩ (.inl rfl)

set_option maxRecDepth 100000 in
/-- provost/res.Text -/
theorem res_Text_ok (a : Tri) (ha : fits3 a) : PCalls Try.prog 16 [resAV a] (.S (textR a)) := by
  intro st
  refine ACalls_of (N := 16) Try.func16 (by kernel_rfl) rfl rfl rfl ?_
  obtain ⟨ha1, ha2, ha3⟩ := ha
  have t1 := textL_len ha1
  have t2 := textL_len ha2
  have t3 := textL_len ha3
  refine AC_seq ?_
  refine AC_region ?_
  refine AL_step rfl rfl (S_box rfl (AEv.tmp rfl)) ?_
  rintro _ _ ⟨b1, rfl, rfl⟩
  refine AL_p rfl rfl (S_assign rfl (AEv.S _)) ?_
  refine AL_nil ?_
  refine AC_seq ?_
  refine AC_draw (by kernel_rfl) (by kernel_rfl) (.cons rfl (Q_p rfl (S_field 0 rfl (AEv.tmp rfl) (by kernel_rfl))) <|
      .cons rfl (Q_p rfl (S_load 0 rfl (AEv.tmp rfl) rfl rfl (by kernel_rfl))) <|
      .cons rfl (Q_p rfl (S_pcall rfl (AEvs.cons (AEv.tmp rfl) AEvs.nil) (num_Text_ok _ (by first | assumption | decide)))) <|
      .cons rfl (Q_p rfl (S_cat rfl (AEv.tmp rfl) (AEv.S _) (by first | omega | (simp; omega)))) <|
      .cons rfl (Q_p rfl (S_field 1 rfl (AEv.tmp rfl) (by kernel_rfl))) <|
      .cons rfl (Q_p rfl (S_load 0 rfl (AEv.tmp rfl) rfl rfl (by kernel_rfl))) <|
      .cons rfl (Q_p rfl (S_pcall rfl (AEvs.cons (AEv.tmp rfl) AEvs.nil) (num_Text_ok _ (by first | assumption | decide)))) <|
      .cons rfl (Q_p rfl (S_cat rfl (AEv.tmp rfl) (AEv.tmp rfl) (by first | omega | (simp; omega)))) <|
      .cons rfl (Q_p rfl (S_cat rfl (AEv.tmp rfl) (AEv.S _) (by first | omega | (simp; omega)))) <|
      .cons rfl (Q_p rfl (S_field 2 rfl (AEv.tmp rfl) (by kernel_rfl))) <|
      .cons rfl (Q_p rfl (S_load 0 rfl (AEv.tmp rfl) rfl rfl (by kernel_rfl))) <|
      .cons rfl (Q_p rfl (S_pcall rfl (AEvs.cons (AEv.tmp rfl) AEvs.nil) (num_Text_ok _ (by first | assumption | decide)))) <|
      .cons rfl (Q_p rfl (S_cat rfl (AEv.tmp rfl) (AEv.tmp rfl) (by first | omega | (simp; omega)))) <|
      .cons rfl (Q_p rfl (S_assign rfl (AEv.tmp rfl))) <|
      .nil) ?_
  refine AC_ret ?_
  refine ret_tmp st rfl rfl (List.Sublist.cons _ (List.Sublist.refl _)) (Conv.refl (List.Sublist.cons _ (List.Sublist.refl _)) _) ⟨by first | rfl | (simp; done), rfl⟩ (.inl rfl)

set_option maxRecDepth 100000 in
/-- provost/provostref14.Text -/
theorem ref14_Text_ok (a : Tri) (ha : fits3 a) : PCalls Try.prog 17 [resAV a] (.S (textR a)) := by
  intro st
  refine ACalls_of (N := 16) Try.func17 (by kernel_rfl) rfl rfl rfl ?_
  obtain ⟨ha1, ha2, ha3⟩ := ha
  have t1 := textL_len ha1
  have t2 := textL_len ha2
  have t3 := textL_len ha3
  refine AC_seq ?_
  refine AC_region ?_
  refine AL_step rfl rfl (S_box rfl (AEv.tmp rfl)) ?_
  rintro _ _ ⟨b1, rfl, rfl⟩
  refine AL_p rfl rfl (S_assign rfl (AEv.S _)) ?_
  refine AL_nil ?_
  refine AC_seq ?_
  refine AC_draw (by kernel_rfl) (by kernel_rfl) (.cons rfl (Q_p rfl (S_field 0 rfl (AEv.tmp rfl) (by kernel_rfl))) <|
      .cons rfl (Q_p rfl (S_load 0 rfl (AEv.tmp rfl) rfl rfl (by kernel_rfl))) <|
      .cons rfl (Q_p rfl (S_pcall rfl (AEvs.cons (AEv.tmp rfl) AEvs.nil) (ref_Text_ok _ (by first | assumption | exact wrap_fits _)))) <|
      .cons rfl (Q_p rfl (S_cat rfl (AEv.tmp rfl) (AEv.S _) (by first | omega | (simp; omega)))) <|
      .cons rfl (Q_p rfl (S_field 1 rfl (AEv.tmp rfl) (by kernel_rfl))) <|
      .cons rfl (Q_p rfl (S_load 0 rfl (AEv.tmp rfl) rfl rfl (by kernel_rfl))) <|
      .cons rfl (Q_p rfl (S_pcall rfl (AEvs.cons (AEv.tmp rfl) AEvs.nil) (ref_Text_ok _ (by first | assumption | exact wrap_fits _)))) <|
      .cons rfl (Q_p rfl (S_cat rfl (AEv.tmp rfl) (AEv.tmp rfl) (by first | omega | (simp; omega)))) <|
      .cons rfl (Q_p rfl (S_cat rfl (AEv.tmp rfl) (AEv.S _) (by first | omega | (simp; omega)))) <|
      .cons rfl (Q_p rfl (S_field 2 rfl (AEv.tmp rfl) (by kernel_rfl))) <|
      .cons rfl (Q_p rfl (S_load 0 rfl (AEv.tmp rfl) rfl rfl (by kernel_rfl))) <|
      .cons rfl (Q_p rfl (S_pcall rfl (AEvs.cons (AEv.tmp rfl) AEvs.nil) (ref_Text_ok _ (by first | assumption | exact wrap_fits _)))) <|
      .cons rfl (Q_p rfl (S_cat rfl (AEv.tmp rfl) (AEv.tmp rfl) (by first | omega | (simp; omega)))) <|
      .cons rfl (Q_p rfl (S_assign rfl (AEv.tmp rfl))) <|
      .nil) ?_
  refine AC_ret ?_
  refine ret_tmp st rfl rfl (List.Sublist.cons _ (List.Sublist.refl _)) (Conv.refl (List.Sublist.cons _ (List.Sublist.refl _)) _) ⟨by first | rfl | (simp; done), rfl⟩ (.inl rfl)

set_option maxRecDepth 100000 in
/-- provost/res.Sum -/
theorem res_Sum_ok (l : List Tri) (hl : l.length ≤ 100) (hl3 : ∀ r ∈ l, fits3 r) : PCalls Try.prog 19 [.sl (ress l)] (okR (sumR (0, 0, 0) l)) := by
  intro st
  refine ACalls_of (N := 27) Try.func19 (by kernel_rfl) rfl rfl rfl ?_
  have hlen : (ress l).length = l.length := by simp [ress]
  refine AC_seq ?_
  refine AC_region ?_
  refine AL_step rfl rfl (S_alloc [.int .i64 0, .int .i64 0, .int .i64 0] rfl (by kernel_rfl)) ?_
  rintro _ _ ⟨b1, rfl, rfl⟩
  refine AL_p rfl rfl (S_assign rfl (AEv.const _)) ?_
  refine AL_nil ?_
  refine AC_seq ?_
  refine AC_region ?_
  refine AL_step rfl rfl (S_alloc [.int .i64 0, .int .i64 0, .int .i64 0] rfl (by kernel_rfl)) ?_
  rintro _ _ ⟨b2, rfl, rfl⟩
  refine AL_nil ?_
  refine AC_seq ?_
  refine AC_seq ?_
  refine AC_region ?_
  refine AL_p rfl rfl (S_move rfl (AEv.tmp rfl)) ?_
  refine AL_p rfl rfl (S_len (e := 23) rfl (AEv.tmp rfl) (by kernel_rfl)) ?_
  refine AL_p rfl rfl (S_move rfl (AEv.const _)) ?_
  refine AL_nil ?_
  refine AC_block ?_
  refine AC_loopS (G := Nat × Tri) (fun g => g.1 ≤ l.length ∧ fits3 g.2 ∧ sumR g.2 (l.drop g.1) = sumR (0, 0, 0) l) (fun g => [(2, .ptr b1 0), (4, .ptr b2 0), (9, .sl (ress l)), (10, .int .i64 (l.length : Int)), (11, .int .i64 (g.1 : Int))]) (fun g => (b2, .cells (resL g.2)) :: (b1, .cells (resL (0, 0, 0))) :: st) (fun g => l.length - g.1) ((0, (0, 0, 0))) (⟨by simp, by decide, rfl⟩) (List.Sublist.refl _) ?_ ?_
  · exact .cons rfl (Le.refl _) (.cons rfl (Le.refl _) (.cons rfl (Le.refl _) (.cons rfl (Le.of_eq (by rw [hlen])) (.cons rfl (Le.refl _) .nil))))
  · rintro ⟨k, s⟩ ⟨hk, hf, hs⟩
    try dsimp only
    dsimp only at hk hf hs
    refine AC_seq ?_
    refine AC_region ?_
    refine AL_p rfl rfl (S_lss rfl (AEv.tmp rfl) (AEv.tmp rfl)) ?_
    refine AL_nil ?_
    refine AC_seq ?_
    refine AC_cond (AEv.tmp rfl) (fun hb3 => ?_) (fun hb3 => ?_)
    · try simp only [Bool.and_eq_true, Bool.or_eq_true, Bool.not_eq_true', Bool.not_eq_false', Bool.and_eq_false_iff, Bool.or_eq_false_iff, decide_eq_true_eq, decide_eq_false_iff_not, gd] at hb3
      have hkl : k < l.length := by omega
      refine AC_skip ?_
      refine AC_seq ?_
      refine AC_block ?_
      refine AC_seq ?_
      refine AC_region ?_
      refine AL_p rfl rfl (S_elem (e := 23) (c := resAV (l[k]'hkl)) (i := (k : Int)) 3 rfl (AEv.tmp rfl) (AEv.tmp rfl) (by kernel_rfl) (by kernel_rfl) (by omega) (by rw [Int.toNat_natCast, ress_at hkl]) rfl) ?_
      refine AL_p rfl rfl (S_loadPN (m := 3) rfl (AEv.tmp rfl) (by kernel_rfl) (by first | exact Nat.le_of_ble_eq_true rfl | (simp; omega) | simp)) ?_
      refine AL_step rfl rfl (S_alloc [.int .i64 0, .int .i64 0, .int .i64 0] rfl (by kernel_rfl)) ?_
      rintro _ _ ⟨b4, rfl, rfl⟩
      refine AL_step rfl rfl (S_storeN 0 rfl (AEv.tmp rfl) (AEv.tmp rfl) rfl (by first | exact Nat.le_of_ble_eq_true rfl | (simp; omega) | simp) (by first | rfl | simp [AV.one, Value.oneCell']) (by kernel_rfl)) ?_
      rintro _ _ ⟨rfl, rfl⟩
      refine AL_nil ?_
      refine AC_seq ?_
      refine AC_region ?_
      refine AL_p rfl rfl (S_loadN (m := 3) 1 rfl (AEv.tmp rfl) rfl (by kernel_rfl) (by first | exact Nat.le_of_ble_eq_true rfl | (simp; omega) | simp)) ?_
      refine AL_p rfl rfl (S_loadN (m := 3) 0 rfl (AEv.tmp rfl) rfl (by kernel_rfl) (by first | exact Nat.le_of_ble_eq_true rfl | (simp; omega) | simp)) ?_
      refine AL_p rfl rfl (S_pcall rfl (AEvs.cons (AEv.tmp rfl) (AEvs.cons (AEv.tmp rfl) AEvs.nil)) (res_Add_ok s (l[k]'hkl) hf (hl3 _ (List.getElem_mem hkl)))) ?_
      refine AL_p rfl rfl (S_move rfl (AEv.tmp rfl)) ?_
      refine AL_p rfl rfl (S_extract 0 rfl (AEv.tmp rfl) rfl) ?_
      refine AL_p rfl rfl (S_extract 1 rfl (AEv.tmp rfl) rfl) ?_
      refine AL_step rfl rfl (S_alloc [.int .i64 0, .int .i64 0, .int .i64 0] rfl (by kernel_rfl)) ?_
      rintro _ _ ⟨b5, rfl, rfl⟩
      refine AL_step rfl rfl (S_storeN 0 rfl (AEv.tmp rfl) (AEv.tmp rfl) rfl (by first | exact Nat.le_of_ble_eq_true rfl | (simp; omega) | simp) (by first | rfl | simp [AV.one, Value.oneCell']) (by kernel_rfl)) ?_
      rintro _ _ ⟨rfl, rfl⟩
      refine AL_p rfl rfl (S_assign rfl (AEv.tmp rfl)) ?_
      refine AL_nil ?_
      refine AC_seq ?_
      refine AC_seq ?_
      refine AC_region ?_
      refine AL_p rfl rfl (S_move rfl (AEv.tmp rfl)) ?_
      refine AL_p rfl rfl (S_not rfl (AEv.tmp rfl)) ?_
      refine AL_nil ?_
      refine AC_cond (AEv.tmp rfl) (fun hb6 => ?_) (fun hb6 => ?_)
      · try simp only [Bool.and_eq_true, Bool.or_eq_true, Bool.not_eq_true', Bool.not_eq_false', Bool.and_eq_false_iff, Bool.or_eq_false_iff, decide_eq_true_eq, decide_eq_false_iff_not, gd] at hb6
        have hbad : (addR s l[k]).2 = false := hb6
        rw [← hs, sum_bad hkl hbad]
        refine AC_seq ?_
        refine AC_region ?_
        refine AL_p rfl rfl (S_build (pl := [(0, 1), (1, 1), (2, 1)]) (zs := [.int .i64 0, .int .i64 0, .int .i64 0]) rfl AEvs.nil (by kernel_rfl) rfl) ?_
        refine AL_step rfl rfl (S_storeN 3 rfl (AEv.tmp rfl) (AEv.tmp rfl) rfl (by first | exact Nat.le_of_ble_eq_true rfl | (simp; omega) | simp) (by first | rfl | simp [AV.one, Value.oneCell']) (by kernel_rfl)) ?_
        rintro _ _ ⟨rfl, rfl⟩
        refine AL_p rfl rfl (S_assign rfl (AEv.const _)) ?_
        refine AL_nil ?_
        refine AC_ret ?_
        refine ret_outs st rfl (by decide) (OutsR.row 3 rfl rfl (by kernel_rfl) (OutsR.tmp rfl OutsR.nil)) (List.Sublist.cons _ (List.Sublist.cons _ (List.Sublist.cons _ (List.Sublist.cons _ (List.Sublist.refl _))))) (Conv.refl (List.Sublist.cons _ (List.Sublist.cons _ (List.Sublist.cons _ (List.Sublist.cons _ (List.Sublist.refl _))))) _) ⟨rfl, rfl⟩ (.inl rfl)
      · try simp only [Bool.and_eq_true, Bool.or_eq_true, Bool.not_eq_true', Bool.not_eq_false', Bool.and_eq_false_iff, Bool.or_eq_false_iff, decide_eq_true_eq, decide_eq_false_iff_not, gd] at hb6
        have hok : (addR s l[k]).2 = true := hb6
        refine AC_skip ?_
        refine AC_region ?_
        refine AL_p rfl rfl (S_loadN (m := 3) 0 rfl (AEv.tmp rfl) rfl (by kernel_rfl) (by first | exact Nat.le_of_ble_eq_true rfl | (simp; omega) | simp)) ?_
        refine AL_step rfl rfl (S_storeN 2 rfl (AEv.tmp rfl) (AEv.tmp rfl) rfl (by first | exact Nat.le_of_ble_eq_true rfl | (simp; omega) | simp) (by first | rfl | simp [AV.one, Value.oneCell']) (by kernel_rfl)) ?_
        rintro _ _ ⟨rfl, rfl⟩
        refine AL_nil ?_
        refine AC_region ?_
        refine AL_p rfl rfl (S_addI rfl (AEv.tmp rfl) (AEv.const _) (by omega) (by omega)) ?_
        refine AL_p rfl rfl (S_move rfl (AEv.tmp rfl)) ?_
        refine AL_nil ?_
        refine ⟨(k + 1, (addR s l[k]).1), ⟨by dsimp only; omega, addR_fits _ _, by rw [← hs, sum_step hkl hok]⟩, by dsimp only; omega, List.Sublist.cons _ (List.Sublist.cons _ (List.Sublist.refl _)), (.cons rfl (by first | exact Le.refl _ | exact Le.nils | exact Le.row _ _ _ | (exact Le.of_eq (by simp))) (.cons rfl (by first | exact Le.refl _ | exact Le.nils | exact Le.row _ _ _ | (exact Le.of_eq (by simp))) (.cons rfl (by first | exact Le.refl _ | exact Le.nils | exact Le.row _ _ _ | (exact Le.of_eq (by simp))) (.cons rfl (by first | exact Le.refl _ | exact Le.nils | exact Le.row _ _ _ | (exact Le.of_eq (by simp))) (.cons rfl (by first | exact Le.refl _ | exact Le.nils | exact Le.row _ _ _ | (exact Le.of_eq (by simp))) .nil)))))⟩
    · try simp only [Bool.and_eq_true, Bool.or_eq_true, Bool.not_eq_true', Bool.not_eq_false', Bool.and_eq_false_iff, Bool.or_eq_false_iff, decide_eq_true_eq, decide_eq_false_iff_not, gd] at hb3
      have hkl : ¬ k < l.length := by omega
      refine AC_exit ?_
      refine AC_seq ?_
      refine AC_region ?_
      refine AL_p rfl rfl (S_loadN (m := 3) 0 rfl (AEv.tmp rfl) rfl (by kernel_rfl) (by first | exact Nat.le_of_ble_eq_true rfl | (simp; omega) | simp)) ?_
      refine AL_step rfl rfl (S_storeN 1 rfl (AEv.tmp rfl) (AEv.tmp rfl) rfl (by first | exact Nat.le_of_ble_eq_true rfl | (simp; omega) | simp) (by first | rfl | simp [AV.one, Value.oneCell']) (by kernel_rfl)) ?_
      rintro _ _ ⟨rfl, rfl⟩
      refine AL_p rfl rfl (S_assign rfl (AEv.const _)) ?_
      refine AL_nil ?_
      refine AC_ret ?_
      refine ret_outs st rfl (by decide) (OutsR.row 1 rfl rfl (by kernel_rfl) (OutsR.tmp rfl OutsR.nil)) (List.Sublist.cons _ (List.Sublist.cons _ (List.Sublist.refl _))) (Conv.refl (List.Sublist.cons _ (List.Sublist.cons _ (List.Sublist.refl _))) _) ⟨by rw [← hs, sum_end hkl]; rfl, rfl⟩ (.inl rfl)

set_option maxRecDepth 100000 in
/-- provost/provostref14.Sum -/
theorem ref14_Sum_ok (l : List Tri) (hl : l.length ≤ 100) (hl3 : ∀ r ∈ l, fits3 r) : PCalls Try.prog 20 [.sl (ress l)] (okR (sumR (0, 0, 0) l)) := by
  intro st
  refine ACalls_of (N := 28) Try.func20 (by kernel_rfl) rfl rfl rfl ?_
  have hlen : (ress l).length = l.length := by simp [ress]
  refine AC_seq ?_
  refine AC_region ?_
  refine AL_step rfl rfl (S_alloc [.int .i64 0, .int .i64 0, .int .i64 0] rfl (by kernel_rfl)) ?_
  rintro _ _ ⟨b1, rfl, rfl⟩
  refine AL_p rfl rfl (S_assign rfl (AEv.const _)) ?_
  refine AL_nil ?_
  refine AC_seq ?_
  refine AC_region ?_
  refine AL_step rfl rfl (S_alloc [.int .i64 0, .int .i64 0, .int .i64 0] rfl (by kernel_rfl)) ?_
  rintro _ _ ⟨b2, rfl, rfl⟩
  refine AL_nil ?_
  refine AC_seq ?_
  refine AC_seq ?_
  refine AC_region ?_
  refine AL_p rfl rfl (S_assign rfl (AEv.const _)) ?_
  refine AL_nil ?_
  refine AC_block ?_
  refine AC_loopS (G := Nat × Tri) (fun g => g.1 ≤ l.length ∧ fits3 g.2 ∧ sumR g.2 (l.drop g.1) = sumR (0, 0, 0) l) (fun g => [(0, .sl (ress l)), (2, .ptr b1 0), (4, .ptr b2 0), (5, .int .i64 (g.1 : Int))]) (fun g => (b2, .cells (resL g.2)) :: (b1, .cells (resL (0, 0, 0))) :: st) (fun g => l.length - g.1) ((0, (0, 0, 0))) (⟨by simp, by decide, rfl⟩) (List.Sublist.refl _) ?_ ?_
  · exact .cons rfl (Le.refl _) (.cons rfl (Le.refl _) (.cons rfl (Le.refl _) (.cons rfl (Le.refl _) .nil)))
  · rintro ⟨k, s⟩ ⟨hk, hf, hs⟩
    try dsimp only
    dsimp only at hk hf hs
    refine AC_seq ?_
    refine AC_seq ?_
    refine AC_region ?_
    refine AL_p rfl rfl (S_move rfl (AEv.tmp rfl)) ?_
    refine AL_p rfl rfl (S_move rfl (AEv.tmp rfl)) ?_
    refine AL_p rfl rfl (S_len (e := 23) rfl (AEv.tmp rfl) (by kernel_rfl)) ?_
    refine AL_p rfl rfl (S_lss rfl (AEv.tmp rfl) (AEv.tmp rfl)) ?_
    refine AL_nil ?_
    refine AC_cond (AEv.tmp rfl) (fun hb3 => ?_) (fun hb3 => ?_)
    · try simp only [Bool.and_eq_true, Bool.or_eq_true, Bool.not_eq_true', Bool.not_eq_false', Bool.and_eq_false_iff, Bool.or_eq_false_iff, decide_eq_true_eq, decide_eq_false_iff_not, gd] at hb3
      have hkl : k < l.length := by omega
      refine AC_skip ?_
      refine AC_seq ?_
      refine AC_block ?_
      refine AC_seq ?_
      refine AC_plan (σ := [(0, 0), (1, 0), (2, 0), (3, 0), (4, 0), (5, 0), (6, 0), (7, 0), (8, 0), (9, 3), (10, 1), (11, 0)]) (by kernel_rfl) _ (by kernel_rfl) (fun _ h => h) ?_
      refine AG.f rfl rfl (fun st' hst => Q_p rfl (S_loadNM (m := 3) rfl (AEv.tmp rfl) (hst _ (List.mem_of_getElem? (i := 0) rfl)) (by kernel_rfl) (by first | exact Nat.le_of_ble_eq_true rfl | (simp; omega) | simp))) ?_
      refine AG.f rfl rfl (fun st' hst => Q_p rfl (S_move rfl (AEv.tmp rfl))) ?_
      refine AG.f rfl rfl (fun st' hst => Q_p rfl (S_move rfl (AEv.tmp rfl))) ?_
      refine AG.f rfl rfl (fun st' hst => Q_p rfl (S_elem (e := 23) (c := resAV (l[k]'hkl)) (i := (k : Int)) 3 rfl (AEv.tmp rfl) (AEv.tmp rfl) (by kernel_rfl) (by kernel_rfl) (by omega) (by rw [Int.toNat_natCast, ress_at hkl]) rfl)) ?_
      refine AG.f rfl rfl (fun st' hst => Q_p rfl (S_loadPN (m := 3) rfl (AEv.tmp rfl) (by kernel_rfl) (by first | exact Nat.le_of_ble_eq_true rfl | (simp; omega) | simp))) ?_
      refine AG.f rfl rfl (fun st' hst => Q_p rfl (S_pcall rfl (AEvs.cons (y := resAV s) (AEv.tmp rfl) (AEvs.cons (y := resAV (l[k]'hkl)) (AEv.tmp rfl) AEvs.nil)) (ref14_Add_ok s (l[k]'hkl) hf (hl3 _ (List.getElem_mem hkl))))) ?_
      refine AG.f rfl rfl (fun st' hst => Q_p rfl (S_move rfl (AEv.tmp rfl))) ?_
      refine AG.f rfl rfl (fun st' hst => Q_p rfl (S_extract 0 rfl (AEv.tmp rfl) rfl)) ?_
      refine AG.f rfl rfl (fun st' hst => Q_p rfl (S_extract 1 rfl (AEv.tmp rfl) rfl)) ?_
      refine AG.al [(9, 6, [.int .i64 0, .int .i64 0, .int .i64 0])] (by simp) (by simp) (AllocsAt.all (AllocsAt.cons rfl rfl rfl (by decide) rfl (by kernel_rfl) AllocsAt.nil)) (by simp) (fun β => ?_)
      simp only [allocEnv, allocSt, List.foldl_cons, List.foldl_nil, List.map_cons, List.map_nil, List.cons_append, List.nil_append]
      generalize β 6 = b4
      refine AG.s rfl rfl rfl (S_storeN 0 rfl (AEv.tmp rfl) (AEv.tmp rfl) rfl (by first | exact Nat.le_of_ble_eq_true rfl | (simp; omega) | simp) (by first | rfl | simp [AV.one, Value.oneCell']) (by kernel_rfl)) ?_ ?_
      · rintro _ _ ⟨rfl, rfl⟩ _ h; first | exact h | exact List.mem_cons_of_mem _ h | exact List.mem_cons_of_mem _ (List.mem_cons_of_mem _ h) | exact List.mem_cons_of_mem _ (List.mem_cons_of_mem _ (List.mem_cons_of_mem _ h))
      rintro _ _ ⟨rfl, rfl⟩
      refine AG.f rfl rfl (fun st' hst => Q_p rfl (S_assign rfl (AEv.tmp rfl))) ?_
      refine AG.nil ?_
      refine AC_seq ?_
      refine AC_seq ?_
      refine AC_region ?_
      refine AL_p rfl rfl (S_move rfl (AEv.tmp rfl)) ?_
      refine AL_p rfl rfl (S_not rfl (AEv.tmp rfl)) ?_
      refine AL_nil ?_
      refine AC_cond (AEv.tmp rfl) (fun hb5 => ?_) (fun hb5 => ?_)
      · try simp only [Bool.and_eq_true, Bool.or_eq_true, Bool.not_eq_true', Bool.not_eq_false', Bool.and_eq_false_iff, Bool.or_eq_false_iff, decide_eq_true_eq, decide_eq_false_iff_not, gd] at hb5
        have hbad : (addR s l[k]).2 = false := hb5
        rw [← hs, sum_bad hkl hbad]
        refine AC_seq ?_
        refine AC_region ?_
        refine AL_p rfl rfl (S_build (pl := [(0, 1), (1, 1), (2, 1)]) (zs := [.int .i64 0, .int .i64 0, .int .i64 0]) rfl AEvs.nil (by kernel_rfl) rfl) ?_
        refine AL_step rfl rfl (S_storeN 2 rfl (AEv.tmp rfl) (AEv.tmp rfl) rfl (by first | exact Nat.le_of_ble_eq_true rfl | (simp; omega) | simp) (by first | rfl | simp [AV.one, Value.oneCell']) (by kernel_rfl)) ?_
        rintro _ _ ⟨rfl, rfl⟩
        refine AL_p rfl rfl (S_assign rfl (AEv.const _)) ?_
        refine AL_nil ?_
        refine AC_ret ?_
        refine ret_outs st rfl (by decide) (OutsR.row 2 rfl rfl (by kernel_rfl) (OutsR.tmp rfl OutsR.nil)) (List.Sublist.cons _ (List.Sublist.cons _ (List.Sublist.cons _ (List.Sublist.refl _)))) (Conv.refl (List.Sublist.cons _ (List.Sublist.cons _ (List.Sublist.cons _ (List.Sublist.refl _)))) _) ⟨rfl, rfl⟩ (.inl rfl)
      · try simp only [Bool.and_eq_true, Bool.or_eq_true, Bool.not_eq_true', Bool.not_eq_false', Bool.and_eq_false_iff, Bool.or_eq_false_iff, decide_eq_true_eq, decide_eq_false_iff_not, gd] at hb5
        have hok : (addR s l[k]).2 = true := hb5
        refine AC_skip ?_
        refine AC_region ?_
        refine AL_p rfl rfl (S_loadN (m := 3) 0 rfl (AEv.tmp rfl) rfl (by kernel_rfl) (by first | exact Nat.le_of_ble_eq_true rfl | (simp; omega) | simp)) ?_
        refine AL_step rfl rfl (S_storeN 1 rfl (AEv.tmp rfl) (AEv.tmp rfl) rfl (by first | exact Nat.le_of_ble_eq_true rfl | (simp; omega) | simp) (by first | rfl | simp [AV.one, Value.oneCell']) (by kernel_rfl)) ?_
        rintro _ _ ⟨rfl, rfl⟩
        refine AL_nil ?_
        refine AC_region ?_
        refine AL_p rfl rfl (S_move rfl (AEv.tmp rfl)) ?_
        refine AL_p rfl rfl (S_addI rfl (AEv.tmp rfl) (AEv.const _) (by omega) (by omega)) ?_
        refine AL_p rfl rfl (S_assign rfl (AEv.tmp rfl)) ?_
        refine AL_nil ?_
        refine ⟨(k + 1, (addR s l[k]).1), ⟨by dsimp only; omega, addR_fits _ _, by rw [← hs, sum_step hkl hok]⟩, by dsimp only; omega, List.Sublist.cons _ (List.Sublist.refl _), (.cons rfl (by first | exact Le.refl _ | exact Le.nils | exact Le.row _ _ _ | (exact Le.of_eq (by simp))) (.cons rfl (by first | exact Le.refl _ | exact Le.nils | exact Le.row _ _ _ | (exact Le.of_eq (by simp))) (.cons rfl (by first | exact Le.refl _ | exact Le.nils | exact Le.row _ _ _ | (exact Le.of_eq (by simp))) (.cons rfl (by first | exact Le.refl _ | exact Le.nils | exact Le.row _ _ _ | (exact Le.of_eq (by simp))) .nil))))⟩
    · try simp only [Bool.and_eq_true, Bool.or_eq_true, Bool.not_eq_true', Bool.not_eq_false', Bool.and_eq_false_iff, Bool.or_eq_false_iff, decide_eq_true_eq, decide_eq_false_iff_not, gd] at hb3
      have hkl : ¬ k < l.length := by omega
      refine AC_exit ?_
      refine AC_seq ?_
      refine AC_region ?_
      refine AL_p rfl rfl (S_loadN (m := 3) 0 rfl (AEv.tmp rfl) rfl (by kernel_rfl) (by first | exact Nat.le_of_ble_eq_true rfl | (simp; omega) | simp)) ?_
      refine AL_step rfl rfl (S_storeN 1 rfl (AEv.tmp rfl) (AEv.tmp rfl) rfl (by first | exact Nat.le_of_ble_eq_true rfl | (simp; omega) | simp) (by first | rfl | simp [AV.one, Value.oneCell']) (by kernel_rfl)) ?_
      rintro _ _ ⟨rfl, rfl⟩
      refine AL_p rfl rfl (S_assign rfl (AEv.const _)) ?_
      refine AL_nil ?_
      refine AC_ret ?_
      refine ret_outs st rfl (by decide) (OutsR.row 1 rfl rfl (by kernel_rfl) (OutsR.tmp rfl OutsR.nil)) (List.Sublist.cons _ (List.Sublist.cons _ (List.Sublist.refl _))) (Conv.refl (List.Sublist.cons _ (List.Sublist.cons _ (List.Sublist.refl _))) _) ⟨by rw [← hs, sum_end hkl]; rfl, rfl⟩ (.inl rfl)

set_option maxRecDepth 100000 in
/-- provost/provostlaw14.small -/
theorem law_small (a : Tri) : PCalls Try.prog 21 [resAV a] (.bool (smallR a)) := by
  intro st
  refine ACalls_of (N := 31) Try.func21 (by kernel_rfl) rfl rfl rfl ?_
  refine AC_seq ?_
  refine AC_region ?_
  refine AL_step rfl rfl (S_box rfl (AEv.tmp rfl)) ?_
  rintro _ _ ⟨b1, rfl, rfl⟩
  refine AL_p rfl rfl (S_assign rfl (AEv.const _)) ?_
  refine AL_nil ?_
  refine AC_seq ?_
  refine AC_region ?_
  refine AL_p rfl rfl (S_field 0 rfl (AEv.tmp rfl) (by kernel_rfl)) ?_
  refine AL_p rfl rfl (S_load 0 rfl (AEv.tmp rfl) rfl rfl (by kernel_rfl)) ?_
  refine AL_p rfl rfl (S_geq rfl (AEv.tmp rfl) (AEv.const _)) ?_
  refine AL_p rfl rfl (S_move rfl (AEv.tmp rfl)) ?_
  refine AL_g rfl rfl (AEv.tmp rfl) rfl (fun hg2 => S_field 0 rfl (AEv.tmp rfl) (by kernel_rfl)) ?_
  refine AL_g rfl rfl (AEv.tmp rfl) rfl (fun hg5 => S_load 0 rfl (AEv.cond (AEv.tmp rfl) (by first | assumption | exact gdAnd (by assumption) (by assumption))) rfl rfl (by kernel_rfl)) ?_
  refine AL_g rfl rfl (AEv.tmp rfl) rfl (fun hg8 => S_leq rfl (AEv.cond (AEv.tmp rfl) (by first | assumption | exact gdAnd (by assumption) (by assumption))) (AEv.const _)) ?_
  refine AL_p rfl rfl (S_and rfl (AEv.tmp rfl) (fun hp11 => (AEv.cond (AEv.tmp rfl) (by first | assumption | exact gdT hp11 | exact gdF hp11 | exact gdAnd (by assumption) (gdT hp11) | exact gdAnd (by assumption) (gdF hp11))))) ?_
  refine AL_p rfl rfl (S_move rfl (AEv.tmp rfl)) ?_
  refine AL_g rfl rfl (AEv.tmp rfl) rfl (fun hg12 => S_field 1 rfl (AEv.tmp rfl) (by kernel_rfl)) ?_
  refine AL_g rfl rfl (AEv.tmp rfl) rfl (fun hg15 => S_load 0 rfl (AEv.cond (AEv.tmp rfl) (by first | assumption | exact gdAnd (by assumption) (by assumption))) rfl rfl (by kernel_rfl)) ?_
  refine AL_g rfl rfl (AEv.tmp rfl) rfl (fun hg18 => S_geq rfl (AEv.cond (AEv.tmp rfl) (by first | assumption | exact gdAnd (by assumption) (by assumption))) (AEv.const _)) ?_
  refine AL_p rfl rfl (S_and rfl (AEv.tmp rfl) (fun hp21 => (AEv.cond (AEv.tmp rfl) (by first | assumption | exact gdT hp21 | exact gdF hp21 | exact gdAnd (by assumption) (gdT hp21) | exact gdAnd (by assumption) (gdF hp21))))) ?_
  refine AL_p rfl rfl (S_move rfl (AEv.tmp rfl)) ?_
  refine AL_g rfl rfl (AEv.tmp rfl) rfl (fun hg22 => S_field 1 rfl (AEv.tmp rfl) (by kernel_rfl)) ?_
  refine AL_g rfl rfl (AEv.tmp rfl) rfl (fun hg25 => S_load 0 rfl (AEv.cond (AEv.tmp rfl) (by first | assumption | exact gdAnd (by assumption) (by assumption))) rfl rfl (by kernel_rfl)) ?_
  refine AL_g rfl rfl (AEv.tmp rfl) rfl (fun hg28 => S_leq rfl (AEv.cond (AEv.tmp rfl) (by first | assumption | exact gdAnd (by assumption) (by assumption))) (AEv.const _)) ?_
  refine AL_p rfl rfl (S_and rfl (AEv.tmp rfl) (fun hp31 => (AEv.cond (AEv.tmp rfl) (by first | assumption | exact gdT hp31 | exact gdF hp31 | exact gdAnd (by assumption) (gdT hp31) | exact gdAnd (by assumption) (gdF hp31))))) ?_
  refine AL_p rfl rfl (S_move rfl (AEv.tmp rfl)) ?_
  refine AL_g rfl rfl (AEv.tmp rfl) rfl (fun hg32 => S_field 2 rfl (AEv.tmp rfl) (by kernel_rfl)) ?_
  refine AL_g rfl rfl (AEv.tmp rfl) rfl (fun hg35 => S_load 0 rfl (AEv.cond (AEv.tmp rfl) (by first | assumption | exact gdAnd (by assumption) (by assumption))) rfl rfl (by kernel_rfl)) ?_
  refine AL_g rfl rfl (AEv.tmp rfl) rfl (fun hg38 => S_geq rfl (AEv.cond (AEv.tmp rfl) (by first | assumption | exact gdAnd (by assumption) (by assumption))) (AEv.const _)) ?_
  refine AL_p rfl rfl (S_and rfl (AEv.tmp rfl) (fun hp41 => (AEv.cond (AEv.tmp rfl) (by first | assumption | exact gdT hp41 | exact gdF hp41 | exact gdAnd (by assumption) (gdT hp41) | exact gdAnd (by assumption) (gdF hp41))))) ?_
  refine AL_p rfl rfl (S_move rfl (AEv.tmp rfl)) ?_
  refine AL_g rfl rfl (AEv.tmp rfl) rfl (fun hg42 => S_field 2 rfl (AEv.tmp rfl) (by kernel_rfl)) ?_
  refine AL_g rfl rfl (AEv.tmp rfl) rfl (fun hg45 => S_load 0 rfl (AEv.cond (AEv.tmp rfl) (by first | assumption | exact gdAnd (by assumption) (by assumption))) rfl rfl (by kernel_rfl)) ?_
  refine AL_g rfl rfl (AEv.tmp rfl) rfl (fun hg48 => S_leq rfl (AEv.cond (AEv.tmp rfl) (by first | assumption | exact gdAnd (by assumption) (by assumption))) (AEv.const _)) ?_
  refine AL_p rfl rfl (S_and rfl (AEv.tmp rfl) (fun hp51 => (AEv.cond (AEv.tmp rfl) (by first | assumption | exact gdT hp51 | exact gdF hp51 | exact gdAnd (by assumption) (gdT hp51) | exact gdAnd (by assumption) (gdF hp51))))) ?_
  refine AL_p rfl rfl (S_assign rfl (AEv.tmp rfl)) ?_
  refine AL_nil ?_
  refine AC_ret ?_
  refine ret_tmp st rfl rfl (List.Sublist.cons _ (List.Sublist.refl _)) (Conv.refl (List.Sublist.cons _ (List.Sublist.refl _)) _) ⟨by first | rfl | (simp; done), rfl⟩ (.inl rfl)

set_option maxRecDepth 100000 in
/-- provost/provostbook.Below -/
theorem book_Below_ok (x n : Int) (hn : 0 < n ∧ n ≤ 9223372036854775807) : PCalls Try.prog 22 [.int .i64 x, .int .i64 n] (.int .i64 (belowV x n)) := by
  intro st
  refine ACalls_of (N := 14) Try.func22 (by kernel_rfl) rfl rfl rfl ?_
  have ht := tmod_lt (x := x) hn.1
  refine AC_seq ?_
  refine AC_region ?_
  refine AL_p rfl rfl (S_assign rfl (AEv.const _)) ?_
  refine AL_nil ?_
  refine AC_seq ?_
  refine AC_region ?_
  refine AL_p rfl rfl (S_move rfl (AEv.tmp rfl)) ?_
  refine AL_p rfl rfl (S_move rfl (AEv.tmp rfl)) ?_
  refine AL_p rfl rfl (S_rem rfl (AEv.tmp rfl) (AEv.tmp rfl) (by omega)) ?_
  refine AL_p rfl rfl (S_assign rfl (AEv.tmp rfl)) ?_
  refine AL_nil ?_
  refine AC_seq ?_
  refine AC_seq ?_
  refine AC_region ?_
  refine AL_p rfl rfl (S_move rfl (AEv.tmp rfl)) ?_
  refine AL_p rfl rfl (S_lss rfl (AEv.tmp rfl) (AEv.const _)) ?_
  refine AL_nil ?_
  refine AC_cond (AEv.tmp rfl) (fun hb1 => ?_) (fun hb1 => ?_)
  · try simp only [Bool.and_eq_true, Bool.or_eq_true, Bool.not_eq_true', Bool.not_eq_false', Bool.and_eq_false_iff, Bool.or_eq_false_iff, decide_eq_true_eq, decide_eq_false_iff_not, gd] at hb1
    refine AC_region ?_
    refine AL_p rfl rfl (S_move rfl (AEv.tmp rfl)) ?_
    refine AL_p rfl rfl (S_move rfl (AEv.tmp rfl)) ?_
    refine AL_p rfl rfl (S_addI rfl (AEv.tmp rfl) (AEv.tmp rfl) (by omega) (by omega)) ?_
    refine AL_p rfl rfl (S_assign rfl (AEv.tmp rfl)) ?_
    refine AL_nil ?_
    refine AC_seq ?_
    refine AC_region ?_
    refine AL_p rfl rfl (S_move rfl (AEv.tmp rfl)) ?_
    refine AL_p rfl rfl (S_assign rfl (AEv.tmp rfl)) ?_
    refine AL_nil ?_
    refine AC_ret ?_
    refine ret_tmp st rfl rfl (List.Sublist.refl _) (Conv.refl (List.Sublist.refl _) _) ⟨by rw [belowV, if_pos (by assumption)], rfl⟩ (.inl rfl)
  · try simp only [Bool.and_eq_true, Bool.or_eq_true, Bool.not_eq_true', Bool.not_eq_false', Bool.and_eq_false_iff, Bool.or_eq_false_iff, decide_eq_true_eq, decide_eq_false_iff_not, gd] at hb1
    refine AC_skip ?_
    refine AC_seq ?_
    refine AC_region ?_
    refine AL_p rfl rfl (S_move rfl (AEv.tmp rfl)) ?_
    refine AL_p rfl rfl (S_assign rfl (AEv.tmp rfl)) ?_
    refine AL_nil ?_
    refine AC_ret ?_
    refine ret_tmp st rfl rfl (List.Sublist.refl _) (Conv.refl (List.Sublist.refl _) _) ⟨by rw [belowV, if_neg (by assumption)], rfl⟩ (.inl rfl)

set_option maxRecDepth 100000 in
/-- provost/provostlaw14.works -/
theorem law_works : PCalls Try.prog 18 [] (.bool true) := by
  intro st
  refine ACalls_of (N := 38) Try.func18 (by kernel_rfl) rfl rfl rfl ?_
  have e1 := res_works
  have e2 := res_works2
  have e3 := res_works3
  refine AC_seq ?_
  refine AC_region ?_
  refine AL_p rfl rfl (S_assign rfl (AEv.const _)) ?_
  refine AL_nil ?_
  refine AC_seq ?_
  refine AC_region ?_
  refine AL_p rfl rfl (S_build (pl := [(0, 1), (1, 1), (2, 1)]) (zs := [.int .i64 0, .int .i64 0, .int .i64 0]) rfl (AEvs.cons (AEv.const _) (AEvs.cons (AEv.const _) (AEvs.cons (AEv.const _) AEvs.nil))) (by kernel_rfl) rfl) ?_
  refine AL_p rfl rfl (S_build (pl := [(0, 1), (1, 1), (2, 1)]) (zs := [.int .i64 0, .int .i64 0, .int .i64 0]) rfl (AEvs.cons (AEv.const _) (AEvs.cons (AEv.const _) (AEvs.cons (AEv.const _) AEvs.nil))) (by kernel_rfl) rfl) ?_
  refine AL_p rfl rfl (S_pcall rfl (AEvs.cons (AEv.tmp rfl) (AEvs.cons (AEv.tmp rfl) AEvs.nil)) (res_Add_ok (1, 2, 3) (4, 5, 6) (by decide) (by decide))) ?_
  refine AL_p rfl rfl (S_move rfl (AEv.tmp rfl)) ?_
  refine AL_p rfl rfl (S_extract 0 rfl (AEv.tmp rfl) rfl) ?_
  refine AL_p rfl rfl (S_extract 1 rfl (AEv.tmp rfl) rfl) ?_
  refine AL_step rfl rfl (S_alloc [.int .i64 0, .int .i64 0, .int .i64 0] rfl (by kernel_rfl)) ?_
  rintro _ _ ⟨b1, rfl, rfl⟩
  refine AL_step rfl rfl (S_storeN 0 rfl (AEv.tmp rfl) (AEv.tmp rfl) rfl (by first | exact Nat.le_of_ble_eq_true rfl | (simp; omega) | simp) (by first | rfl | simp [AV.one, Value.oneCell']) (by kernel_rfl)) ?_
  rintro _ _ ⟨rfl, rfl⟩
  refine AL_p rfl rfl (S_assign rfl (AEv.tmp rfl)) ?_
  refine AL_nil ?_
  refine AC_seq ?_
  refine AC_region ?_
  refine AL_p rfl rfl (S_build (pl := [(0, 1), (1, 1), (2, 1)]) (zs := [.int .i64 0, .int .i64 0, .int .i64 0]) rfl (AEvs.cons (AEv.const _) AEvs.nil) (by kernel_rfl) rfl) ?_
  refine AL_p rfl rfl (S_build (pl := [(0, 1), (1, 1), (2, 1)]) (zs := [.int .i64 0, .int .i64 0, .int .i64 0]) rfl (AEvs.cons (AEv.const _) AEvs.nil) (by kernel_rfl) rfl) ?_
  refine AL_p rfl rfl (S_pcall rfl (AEvs.cons (AEv.tmp rfl) (AEvs.cons (AEv.tmp rfl) AEvs.nil)) (res_Sub_ok (1, 0, 0) (2, 0, 0) (by decide) (by decide))) ?_
  refine AL_p rfl rfl (S_move rfl (AEv.tmp rfl)) ?_
  refine AL_p rfl rfl (S_extract 0 rfl (AEv.tmp rfl) rfl) ?_
  refine AL_p rfl rfl (S_extract 1 rfl (AEv.tmp rfl) rfl) ?_
  refine AL_step rfl rfl (S_alloc [.int .i64 0, .int .i64 0, .int .i64 0] rfl (by kernel_rfl)) ?_
  rintro _ _ ⟨b2, rfl, rfl⟩
  refine AL_step rfl rfl (S_storeN 0 rfl (AEv.tmp rfl) (AEv.tmp rfl) rfl (by first | exact Nat.le_of_ble_eq_true rfl | (simp; omega) | simp) (by first | rfl | simp [AV.one, Value.oneCell']) (by kernel_rfl)) ?_
  rintro _ _ ⟨rfl, rfl⟩
  refine AL_p rfl rfl (S_assign rfl (AEv.tmp rfl)) ?_
  refine AL_nil ?_
  refine AC_seq ?_
  refine AC_region ?_
  refine AL_p rfl rfl (S_move rfl (AEv.tmp rfl)) ?_
  refine AL_p rfl rfl (S_move rfl (AEv.tmp rfl)) ?_
  refine AL_g rfl rfl (AEv.tmp rfl) rfl (fun hg3 => S_loadN (m := 3) 1 rfl (AEv.tmp rfl) rfl (by kernel_rfl) (by first | exact Nat.le_of_ble_eq_true rfl | (simp; omega) | simp)) ?_
  refine AL_g rfl rfl (AEv.tmp rfl) rfl (fun hg6 => S_pcall rfl (AEvs.cons (AEv.cond (AEv.tmp rfl) (by first | assumption | exact gdAnd (by assumption) (by assumption))) AEvs.nil) (res_Text_ok (addR (1, 2, 3) (4, 5, 6)).1 (by decide))) ?_
  refine AL_g rfl rfl (AEv.tmp rfl) rfl (fun hg9 => S_eqS rfl (AEv.cond (AEv.tmp rfl) (by first | assumption | exact gdAnd (by assumption) (by assumption))) (AEv.S _)) ?_
  refine AL_p rfl rfl (S_and rfl (AEv.tmp rfl) (fun hp12 => (AEv.cond (AEv.tmp rfl) (by first | assumption | exact gdT hp12 | exact gdF hp12 | exact gdAnd (by assumption) (gdT hp12) | exact gdAnd (by assumption) (gdF hp12))))) ?_
  refine AL_p rfl rfl (S_move rfl (AEv.tmp rfl)) ?_
  refine AL_g rfl rfl (AEv.tmp rfl) rfl (fun hg13 => S_move rfl (AEv.tmp rfl)) ?_
  refine AL_g rfl rfl (AEv.tmp rfl) rfl (fun hg16 => S_not rfl (AEv.cond (AEv.tmp rfl) (by first | assumption | exact gdAnd (by assumption) (by assumption)))) ?_
  refine AL_p rfl rfl (S_and rfl (AEv.tmp rfl) (fun hp19 => (AEv.cond (AEv.tmp rfl) (by first | assumption | exact gdT hp19 | exact gdF hp19 | exact gdAnd (by assumption) (gdT hp19) | exact gdAnd (by assumption) (gdF hp19))))) ?_
  refine AL_p rfl rfl (S_move rfl (AEv.tmp rfl)) ?_
  refine AL_g rfl rfl (AEv.tmp rfl) rfl (fun hg20 => S_build (pl := [(0, 1), (1, 1), (2, 1)]) (zs := [.int .i64 0, .int .i64 0, .int .i64 0]) rfl (AEvs.cons (AEv.const _) AEvs.nil) (by kernel_rfl) rfl) ?_
  refine AL_g rfl rfl (AEv.tmp rfl) rfl (fun hg23 => S_loadN (m := 3) 1 rfl (AEv.tmp rfl) rfl (by kernel_rfl) (by first | exact Nat.le_of_ble_eq_true rfl | (simp; omega) | simp)) ?_
  refine AL_g rfl rfl (AEv.tmp rfl) rfl (fun hg26 => S_pcall rfl (AEvs.cons (AEv.cond (AEv.tmp rfl) (by first | assumption | exact gdAnd (by assumption) (by assumption))) (AEvs.cons (AEv.cond (AEv.tmp rfl) (by first | assumption | exact gdAnd (by assumption) (by assumption))) AEvs.nil)) (res_Fits_ok (1, 0, 0) (addR (1, 2, 3) (4, 5, 6)).1 (by decide) (by decide))) ?_
  refine AL_p rfl rfl (S_and rfl (AEv.tmp rfl) (fun hp29 => (AEv.cond (AEv.tmp rfl) (by first | assumption | exact gdT hp29 | exact gdF hp29 | exact gdAnd (by assumption) (gdT hp29) | exact gdAnd (by assumption) (gdF hp29))))) ?_
  refine AL_p rfl rfl (S_move rfl (AEv.tmp rfl)) ?_
  refine AL_g rfl rfl (AEv.tmp rfl) rfl (fun hg30 => S_loadN (m := 3) 1 rfl (AEv.tmp rfl) rfl (by kernel_rfl) (by first | exact Nat.le_of_ble_eq_true rfl | (simp; omega) | simp)) ?_
  refine AL_g rfl rfl (AEv.tmp rfl) rfl (fun hg33 => S_build (pl := [(0, 1), (1, 1), (2, 1)]) (zs := [.int .i64 0, .int .i64 0, .int .i64 0]) rfl (AEvs.cons (AEv.const _) AEvs.nil) (by kernel_rfl) rfl) ?_
  refine AL_g rfl rfl (AEv.tmp rfl) rfl (fun hg36 => S_pcall rfl (AEvs.cons (AEv.cond (AEv.tmp rfl) (by first | assumption | exact gdAnd (by assumption) (by assumption))) (AEvs.cons (AEv.cond (AEv.tmp rfl) (by first | assumption | exact gdAnd (by assumption) (by assumption))) AEvs.nil)) (res_Fits_ok (addR (1, 2, 3) (4, 5, 6)).1 (99, 0, 0) (by decide) (by decide))) ?_
  refine AL_g rfl rfl (AEv.tmp rfl) rfl (fun hg39 => S_not rfl (AEv.cond (AEv.tmp rfl) (by first | assumption | exact gdAnd (by assumption) (by assumption)))) ?_
  refine AL_p rfl rfl (S_and rfl (AEv.tmp rfl) (fun hp42 => (AEv.cond (AEv.tmp rfl) (by first | assumption | exact gdT hp42 | exact gdF hp42 | exact gdAnd (by assumption) (gdT hp42) | exact gdAnd (by assumption) (gdF hp42))))) ?_
  refine AL_p rfl rfl (S_assign rfl (AEv.tmp rfl)) ?_
  refine AL_nil ?_
  refine AC_ret ?_
  refine ret_tmp st rfl rfl (List.Sublist.cons _ (List.Sublist.cons _ (List.Sublist.refl _))) (Conv.refl (List.Sublist.cons _ (List.Sublist.cons _ (List.Sublist.refl _))) _) ⟨by rw [e1, e2, e3]; rfl, rfl⟩ (.inl rfl)

set_option maxRecDepth 100000 in
/-- provost/provostlaw14.ResReckons -/
theorem law_ResReckons (a : Tri) (ha : fits3 a) (b : Tri) (hb : fits3 b) : PCalls Try.prog 3 [resAV a, resAV b] (.bool true) := by
  intro st
  refine ACalls_of (N := 92) Try.func3 (by kernel_rfl) rfl rfl rfl ?_
  refine AC_seq ?_
  refine AC_region ?_
  refine AL_step rfl rfl (S_box rfl (AEv.tmp rfl)) ?_
  rintro _ _ ⟨b1, rfl, rfl⟩
  refine AL_step rfl rfl (S_box rfl (AEv.tmp rfl)) ?_
  rintro _ _ ⟨b2, rfl, rfl⟩
  refine AL_p rfl rfl (S_assign rfl (AEv.const _)) ?_
  refine AL_nil ?_
  refine AC_seq ?_
  refine AC_region ?_
  refine AL_p rfl rfl (S_loadN (m := 3) 1 rfl (AEv.tmp rfl) rfl (by kernel_rfl) (by first | exact Nat.le_of_ble_eq_true rfl | (simp; omega) | simp)) ?_
  refine AL_p rfl rfl (S_loadN (m := 3) 0 rfl (AEv.tmp rfl) rfl (by kernel_rfl) (by first | exact Nat.le_of_ble_eq_true rfl | (simp; omega) | simp)) ?_
  refine AL_p rfl rfl (S_pcall rfl (AEvs.cons (AEv.tmp rfl) (AEvs.cons (AEv.tmp rfl) AEvs.nil)) (res_Add_ok a b ha hb)) ?_
  refine AL_p rfl rfl (S_move rfl (AEv.tmp rfl)) ?_
  refine AL_p rfl rfl (S_extract 0 rfl (AEv.tmp rfl) rfl) ?_
  refine AL_p rfl rfl (S_extract 1 rfl (AEv.tmp rfl) rfl) ?_
  refine AL_step rfl rfl (S_alloc [.int .i64 0, .int .i64 0, .int .i64 0] rfl (by kernel_rfl)) ?_
  rintro _ _ ⟨b3, rfl, rfl⟩
  refine AL_step rfl rfl (S_storeN 0 rfl (AEv.tmp rfl) (AEv.tmp rfl) rfl (by first | exact Nat.le_of_ble_eq_true rfl | (simp; omega) | simp) (by first | rfl | simp [AV.one, Value.oneCell']) (by kernel_rfl)) ?_
  rintro _ _ ⟨rfl, rfl⟩
  refine AL_p rfl rfl (S_assign rfl (AEv.tmp rfl)) ?_
  refine AL_nil ?_
  refine AC_seq ?_
  refine AC_region ?_
  refine AL_p rfl rfl (S_loadN (m := 3) 2 rfl (AEv.tmp rfl) rfl (by kernel_rfl) (by first | exact Nat.le_of_ble_eq_true rfl | (simp; omega) | simp)) ?_
  refine AL_p rfl rfl (S_loadN (m := 3) 1 rfl (AEv.tmp rfl) rfl (by kernel_rfl) (by first | exact Nat.le_of_ble_eq_true rfl | (simp; omega) | simp)) ?_
  refine AL_p rfl rfl (S_pcall rfl (AEvs.cons (AEv.tmp rfl) (AEvs.cons (AEv.tmp rfl) AEvs.nil)) (ref14_Add_ok a b ha hb)) ?_
  refine AL_p rfl rfl (S_move rfl (AEv.tmp rfl)) ?_
  refine AL_p rfl rfl (S_extract 0 rfl (AEv.tmp rfl) rfl) ?_
  refine AL_p rfl rfl (S_extract 1 rfl (AEv.tmp rfl) rfl) ?_
  refine AL_step rfl rfl (S_alloc [.int .i64 0, .int .i64 0, .int .i64 0] rfl (by kernel_rfl)) ?_
  rintro _ _ ⟨b4, rfl, rfl⟩
  refine AL_step rfl rfl (S_storeN 0 rfl (AEv.tmp rfl) (AEv.tmp rfl) rfl (by first | exact Nat.le_of_ble_eq_true rfl | (simp; omega) | simp) (by first | rfl | simp [AV.one, Value.oneCell']) (by kernel_rfl)) ?_
  rintro _ _ ⟨rfl, rfl⟩
  refine AL_p rfl rfl (S_assign rfl (AEv.tmp rfl)) ?_
  refine AL_nil ?_
  refine AC_seq ?_
  refine AC_region ?_
  refine AL_p rfl rfl (S_loadN (m := 3) 3 rfl (AEv.tmp rfl) rfl (by kernel_rfl) (by first | exact Nat.le_of_ble_eq_true rfl | (simp; omega) | simp)) ?_
  refine AL_p rfl rfl (S_loadN (m := 3) 2 rfl (AEv.tmp rfl) rfl (by kernel_rfl) (by first | exact Nat.le_of_ble_eq_true rfl | (simp; omega) | simp)) ?_
  refine AL_p rfl rfl (S_pcall rfl (AEvs.cons (AEv.tmp rfl) (AEvs.cons (AEv.tmp rfl) AEvs.nil)) (res_Sub_ok a b ha hb)) ?_
  refine AL_p rfl rfl (S_move rfl (AEv.tmp rfl)) ?_
  refine AL_p rfl rfl (S_extract 0 rfl (AEv.tmp rfl) rfl) ?_
  refine AL_p rfl rfl (S_extract 1 rfl (AEv.tmp rfl) rfl) ?_
  refine AL_step rfl rfl (S_alloc [.int .i64 0, .int .i64 0, .int .i64 0] rfl (by kernel_rfl)) ?_
  rintro _ _ ⟨b5, rfl, rfl⟩
  refine AL_step rfl rfl (S_storeN 0 rfl (AEv.tmp rfl) (AEv.tmp rfl) rfl (by first | exact Nat.le_of_ble_eq_true rfl | (simp; omega) | simp) (by first | rfl | simp [AV.one, Value.oneCell']) (by kernel_rfl)) ?_
  rintro _ _ ⟨rfl, rfl⟩
  refine AL_p rfl rfl (S_assign rfl (AEv.tmp rfl)) ?_
  refine AL_nil ?_
  refine AC_seq ?_
  refine AC_region ?_
  refine AL_p rfl rfl (S_loadN (m := 3) 4 rfl (AEv.tmp rfl) rfl (by kernel_rfl) (by first | exact Nat.le_of_ble_eq_true rfl | (simp; omega) | simp)) ?_
  refine AL_p rfl rfl (S_loadN (m := 3) 3 rfl (AEv.tmp rfl) rfl (by kernel_rfl) (by first | exact Nat.le_of_ble_eq_true rfl | (simp; omega) | simp)) ?_
  refine AL_p rfl rfl (S_pcall rfl (AEvs.cons (AEv.tmp rfl) (AEvs.cons (AEv.tmp rfl) AEvs.nil)) (ref14_Sub_ok a b ha hb)) ?_
  refine AL_p rfl rfl (S_move rfl (AEv.tmp rfl)) ?_
  refine AL_p rfl rfl (S_extract 0 rfl (AEv.tmp rfl) rfl) ?_
  refine AL_p rfl rfl (S_extract 1 rfl (AEv.tmp rfl) rfl) ?_
  refine AL_step rfl rfl (S_alloc [.int .i64 0, .int .i64 0, .int .i64 0] rfl (by kernel_rfl)) ?_
  rintro _ _ ⟨b6, rfl, rfl⟩
  refine AL_step rfl rfl (S_storeN 0 rfl (AEv.tmp rfl) (AEv.tmp rfl) rfl (by first | exact Nat.le_of_ble_eq_true rfl | (simp; omega) | simp) (by first | rfl | simp [AV.one, Value.oneCell']) (by kernel_rfl)) ?_
  rintro _ _ ⟨rfl, rfl⟩
  refine AL_p rfl rfl (S_assign rfl (AEv.tmp rfl)) ?_
  refine AL_nil ?_
  refine AC_seq ?_
  refine AC_draw (by kernel_rfl) (by kernel_rfl) (.cons rfl (Q_p rfl (S_loadN (m := 3) 3 rfl (AEv.tmp rfl) rfl (by kernel_rfl) (by first | exact Nat.le_of_ble_eq_true rfl | (simp; omega) | simp))) <|
      .cons rfl (Q_p rfl (S_loadN (m := 3) 2 rfl (AEv.tmp rfl) rfl (by kernel_rfl) (by first | exact Nat.le_of_ble_eq_true rfl | (simp; omega) | simp))) <|
      .cons rfl (Q_p rfl (S_eqlAgg rfl (AEv.tmp rfl) (AEv.tmp rfl) (by kernel_rfl) (EqAV.struct Try.underlying23 (by kernel_rfl) (EqFs.flat (by kernel_rfl) (by kernel_rfl) rfl rfl (EqAV.int (k' := .i64) (by kernel_rfl)) (EqFs.flat (by kernel_rfl) (by kernel_rfl) rfl rfl (EqAV.int (k' := .i64) (by kernel_rfl)) (EqFs.flat (by kernel_rfl) (by kernel_rfl) rfl rfl (EqAV.int (k' := .i64) (by kernel_rfl)) EqFs.nil)))))) <|
      .cons rfl (Q_p rfl (S_move rfl (AEv.tmp rfl))) <|
      .cons rfl (Q_g rfl rfl (AEv.tmp rfl) (fun hg7 => S_move rfl (AEv.tmp rfl))) <|
      .cons rfl (Q_g rfl rfl (AEv.tmp rfl) (fun hg10 => S_move rfl (AEv.tmp rfl))) <|
      .cons rfl (Q_g rfl rfl (AEv.tmp rfl) (fun hg13 => S_eqB rfl (AEv.cond (AEv.tmp rfl) (by first | assumption | exact gdAnd (by assumption) (by assumption))) (AEv.cond (AEv.tmp rfl) (by first | assumption | exact gdAnd (by assumption) (by assumption))) (by kernel_rfl))) <|
      .cons rfl (Q_p rfl (S_and rfl (AEv.tmp rfl) (fun hp16 => (AEv.cond (AEv.tmp rfl) (by first | assumption | exact gdT hp16 | exact gdF hp16 | exact gdAnd (by assumption) (gdT hp16) | exact gdAnd (by assumption) (gdF hp16)))))) <|
      .cons rfl (Q_p rfl (S_move rfl (AEv.tmp rfl))) <|
      .cons rfl (Q_g rfl rfl (AEv.tmp rfl) (fun hg17 => S_loadN (m := 3) 1 rfl (AEv.tmp rfl) rfl (by kernel_rfl) (by first | exact Nat.le_of_ble_eq_true rfl | (simp; omega) | simp))) <|
      .cons rfl (Q_g rfl rfl (AEv.tmp rfl) (fun hg20 => S_loadN (m := 3) 0 rfl (AEv.tmp rfl) rfl (by kernel_rfl) (by first | exact Nat.le_of_ble_eq_true rfl | (simp; omega) | simp))) <|
      .cons rfl (Q_g rfl rfl (AEv.tmp rfl) (fun hg23 => S_eqlAgg rfl (AEv.cond (AEv.tmp rfl) (by first | assumption | exact gdAnd (by assumption) (by assumption))) (AEv.cond (AEv.tmp rfl) (by first | assumption | exact gdAnd (by assumption) (by assumption))) (by kernel_rfl) (EqAV.struct Try.underlying23 (by kernel_rfl) (EqFs.flat (by kernel_rfl) (by kernel_rfl) rfl rfl (EqAV.int (k' := .i64) (by kernel_rfl)) (EqFs.flat (by kernel_rfl) (by kernel_rfl) rfl rfl (EqAV.int (k' := .i64) (by kernel_rfl)) (EqFs.flat (by kernel_rfl) (by kernel_rfl) rfl rfl (EqAV.int (k' := .i64) (by kernel_rfl)) EqFs.nil)))))) <|
      .cons rfl (Q_p rfl (S_and rfl (AEv.tmp rfl) (fun hp26 => (AEv.cond (AEv.tmp rfl) (by first | assumption | exact gdT hp26 | exact gdF hp26 | exact gdAnd (by assumption) (gdT hp26) | exact gdAnd (by assumption) (gdF hp26)))))) <|
      .cons rfl (Q_p rfl (S_move rfl (AEv.tmp rfl))) <|
      .cons rfl (Q_g rfl rfl (AEv.tmp rfl) (fun hg27 => S_move rfl (AEv.tmp rfl))) <|
      .cons rfl (Q_g rfl rfl (AEv.tmp rfl) (fun hg30 => S_move rfl (AEv.tmp rfl))) <|
      .cons rfl (Q_g rfl rfl (AEv.tmp rfl) (fun hg33 => S_eqB rfl (AEv.cond (AEv.tmp rfl) (by first | assumption | exact gdAnd (by assumption) (by assumption))) (AEv.cond (AEv.tmp rfl) (by first | assumption | exact gdAnd (by assumption) (by assumption))) (by kernel_rfl))) <|
      .cons rfl (Q_p rfl (S_and rfl (AEv.tmp rfl) (fun hp36 => (AEv.cond (AEv.tmp rfl) (by first | assumption | exact gdT hp36 | exact gdF hp36 | exact gdAnd (by assumption) (gdT hp36) | exact gdAnd (by assumption) (gdF hp36)))))) <|
      .cons rfl (Q_p rfl (S_move rfl (AEv.tmp rfl))) <|
      .cons rfl (Q_g rfl rfl (AEv.tmp rfl) (fun hg37 => S_loadN (m := 3) 5 rfl (AEv.tmp rfl) rfl (by kernel_rfl) (by first | exact Nat.le_of_ble_eq_true rfl | (simp; omega) | simp))) <|
      .cons rfl (Q_g rfl rfl (AEv.tmp rfl) (fun hg40 => S_loadN (m := 3) 4 rfl (AEv.tmp rfl) rfl (by kernel_rfl) (by first | exact Nat.le_of_ble_eq_true rfl | (simp; omega) | simp))) <|
      .cons rfl (Q_g rfl rfl (AEv.tmp rfl) (fun hg43 => S_pcall rfl (AEvs.cons (AEv.cond (AEv.tmp rfl) (by first | assumption | exact gdAnd (by assumption) (by assumption))) (AEvs.cons (AEv.cond (AEv.tmp rfl) (by first | assumption | exact gdAnd (by assumption) (by assumption))) AEvs.nil)) (res_Max_ok _ _ (by first | assumption | exact addR_fits _ _ | exact subR_fits _ _ | exact maxR_fits (by assumption) (by assumption) | decide) (by first | assumption | exact addR_fits _ _ | exact subR_fits _ _ | exact maxR_fits (by assumption) (by assumption) | decide)))) <|
      .cons rfl (Q_g rfl rfl (AEv.tmp rfl) (fun hg46 => S_loadN (m := 3) 5 rfl (AEv.tmp rfl) rfl (by kernel_rfl) (by first | exact Nat.le_of_ble_eq_true rfl | (simp; omega) | simp))) <|
      .cons rfl (Q_g rfl rfl (AEv.tmp rfl) (fun hg49 => S_loadN (m := 3) 4 rfl (AEv.tmp rfl) rfl (by kernel_rfl) (by first | exact Nat.le_of_ble_eq_true rfl | (simp; omega) | simp))) <|
      .cons rfl (Q_g rfl rfl (AEv.tmp rfl) (fun hg52 => S_pcall rfl (AEvs.cons (AEv.cond (AEv.tmp rfl) (by first | assumption | exact gdAnd (by assumption) (by assumption))) (AEvs.cons (AEv.cond (AEv.tmp rfl) (by first | assumption | exact gdAnd (by assumption) (by assumption))) AEvs.nil)) (ref14_Max_ok _ _ (by first | assumption | exact addR_fits _ _ | exact subR_fits _ _ | exact maxR_fits (by assumption) (by assumption) | decide) (by first | assumption | exact addR_fits _ _ | exact subR_fits _ _ | exact maxR_fits (by assumption) (by assumption) | decide)))) <|
      .cons rfl (Q_g rfl rfl (AEv.tmp rfl) (fun hg55 => S_eqlAgg rfl (AEv.cond (AEv.tmp rfl) (by first | assumption | exact gdAnd (by assumption) (by assumption))) (AEv.cond (AEv.tmp rfl) (by first | assumption | exact gdAnd (by assumption) (by assumption))) (by kernel_rfl) (EqAV.struct Try.underlying23 (by kernel_rfl) (EqFs.flat (by kernel_rfl) (by kernel_rfl) rfl rfl (EqAV.int (k' := .i64) (by kernel_rfl)) (EqFs.flat (by kernel_rfl) (by kernel_rfl) rfl rfl (EqAV.int (k' := .i64) (by kernel_rfl)) (EqFs.flat (by kernel_rfl) (by kernel_rfl) rfl rfl (EqAV.int (k' := .i64) (by kernel_rfl)) EqFs.nil)))))) <|
      .cons rfl (Q_p rfl (S_and rfl (AEv.tmp rfl) (fun hp58 => (AEv.cond (AEv.tmp rfl) (by first | assumption | exact gdT hp58 | exact gdF hp58 | exact gdAnd (by assumption) (gdT hp58) | exact gdAnd (by assumption) (gdF hp58)))))) <|
      .cons rfl (Q_p rfl (S_move rfl (AEv.tmp rfl))) <|
      .cons rfl (Q_g rfl rfl (AEv.tmp rfl) (fun hg59 => S_loadN (m := 3) 5 rfl (AEv.tmp rfl) rfl (by kernel_rfl) (by first | exact Nat.le_of_ble_eq_true rfl | (simp; omega) | simp))) <|
      .cons rfl (Q_g rfl rfl (AEv.tmp rfl) (fun hg62 => S_loadN (m := 3) 4 rfl (AEv.tmp rfl) rfl (by kernel_rfl) (by first | exact Nat.le_of_ble_eq_true rfl | (simp; omega) | simp))) <|
      .cons rfl (Q_g rfl rfl (AEv.tmp rfl) (fun hg65 => S_pcall rfl (AEvs.cons (AEv.cond (AEv.tmp rfl) (by first | assumption | exact gdAnd (by assumption) (by assumption))) (AEvs.cons (AEv.cond (AEv.tmp rfl) (by first | assumption | exact gdAnd (by assumption) (by assumption))) AEvs.nil)) (res_Fits_ok _ _ (by first | assumption | exact addR_fits _ _ | exact subR_fits _ _ | exact maxR_fits (by assumption) (by assumption) | decide) (by first | assumption | exact addR_fits _ _ | exact subR_fits _ _ | exact maxR_fits (by assumption) (by assumption) | decide)))) <|
      .cons rfl (Q_g rfl rfl (AEv.tmp rfl) (fun hg68 => S_loadN (m := 3) 5 rfl (AEv.tmp rfl) rfl (by kernel_rfl) (by first | exact Nat.le_of_ble_eq_true rfl | (simp; omega) | simp))) <|
      .cons rfl (Q_g rfl rfl (AEv.tmp rfl) (fun hg71 => S_loadN (m := 3) 4 rfl (AEv.tmp rfl) rfl (by kernel_rfl) (by first | exact Nat.le_of_ble_eq_true rfl | (simp; omega) | simp))) <|
      .cons rfl (Q_g rfl rfl (AEv.tmp rfl) (fun hg74 => S_pcall rfl (AEvs.cons (AEv.cond (AEv.tmp rfl) (by first | assumption | exact gdAnd (by assumption) (by assumption))) (AEvs.cons (AEv.cond (AEv.tmp rfl) (by first | assumption | exact gdAnd (by assumption) (by assumption))) AEvs.nil)) (ref14_Fits_ok _ _ (by first | assumption | exact addR_fits _ _ | exact subR_fits _ _ | exact maxR_fits (by assumption) (by assumption) | decide) (by first | assumption | exact addR_fits _ _ | exact subR_fits _ _ | exact maxR_fits (by assumption) (by assumption) | decide)))) <|
      .cons rfl (Q_g rfl rfl (AEv.tmp rfl) (fun hg77 => S_eqB rfl (AEv.cond (AEv.tmp rfl) (by first | assumption | exact gdAnd (by assumption) (by assumption))) (AEv.cond (AEv.tmp rfl) (by first | assumption | exact gdAnd (by assumption) (by assumption))) (by kernel_rfl))) <|
      .cons rfl (Q_p rfl (S_and rfl (AEv.tmp rfl) (fun hp80 => (AEv.cond (AEv.tmp rfl) (by first | assumption | exact gdT hp80 | exact gdF hp80 | exact gdAnd (by assumption) (gdT hp80) | exact gdAnd (by assumption) (gdF hp80)))))) <|
      .cons rfl (Q_p rfl (S_move rfl (AEv.tmp rfl))) <|
      .cons rfl (Q_g rfl rfl (AEv.tmp rfl) (fun hg81 => S_loadN (m := 3) 5 rfl (AEv.tmp rfl) rfl (by kernel_rfl) (by first | exact Nat.le_of_ble_eq_true rfl | (simp; omega) | simp))) <|
      .cons rfl (Q_g rfl rfl (AEv.tmp rfl) (fun hg84 => S_loadN (m := 3) 4 rfl (AEv.tmp rfl) rfl (by kernel_rfl) (by first | exact Nat.le_of_ble_eq_true rfl | (simp; omega) | simp))) <|
      .cons rfl (Q_g rfl rfl (AEv.tmp rfl) (fun hg87 => S_pcall rfl (AEvs.cons (AEv.cond (AEv.tmp rfl) (by first | assumption | exact gdAnd (by assumption) (by assumption))) (AEvs.cons (AEv.cond (AEv.tmp rfl) (by first | assumption | exact gdAnd (by assumption) (by assumption))) AEvs.nil)) (res_Over_ok _ _ (by first | assumption | exact addR_fits _ _ | exact subR_fits _ _ | exact maxR_fits (by assumption) (by assumption) | decide) (by first | assumption | exact addR_fits _ _ | exact subR_fits _ _ | exact maxR_fits (by assumption) (by assumption) | decide)))) <|
      .cons rfl (Q_g rfl rfl (AEv.tmp rfl) (fun hg90 => S_loadN (m := 3) 5 rfl (AEv.tmp rfl) rfl (by kernel_rfl) (by first | exact Nat.le_of_ble_eq_true rfl | (simp; omega) | simp))) <|
      .cons rfl (Q_g rfl rfl (AEv.tmp rfl) (fun hg93 => S_loadN (m := 3) 4 rfl (AEv.tmp rfl) rfl (by kernel_rfl) (by first | exact Nat.le_of_ble_eq_true rfl | (simp; omega) | simp))) <|
      .cons rfl (Q_g rfl rfl (AEv.tmp rfl) (fun hg96 => S_pcall rfl (AEvs.cons (AEv.cond (AEv.tmp rfl) (by first | assumption | exact gdAnd (by assumption) (by assumption))) (AEvs.cons (AEv.cond (AEv.tmp rfl) (by first | assumption | exact gdAnd (by assumption) (by assumption))) AEvs.nil)) (ref14_Over_ok _ _ (by first | assumption | exact addR_fits _ _ | exact subR_fits _ _ | exact maxR_fits (by assumption) (by assumption) | decide) (by first | assumption | exact addR_fits _ _ | exact subR_fits _ _ | exact maxR_fits (by assumption) (by assumption) | decide)))) <|
      .cons rfl (Q_g rfl rfl (AEv.tmp rfl) (fun hg99 => S_eqlAgg rfl (AEv.cond (AEv.tmp rfl) (by first | assumption | exact gdAnd (by assumption) (by assumption))) (AEv.cond (AEv.tmp rfl) (by first | assumption | exact gdAnd (by assumption) (by assumption))) (by kernel_rfl) (EqAV.struct Try.underlying23 (by kernel_rfl) (EqFs.flat (by kernel_rfl) (by kernel_rfl) rfl rfl (EqAV.int (k' := .i64) (by kernel_rfl)) (EqFs.flat (by kernel_rfl) (by kernel_rfl) rfl rfl (EqAV.int (k' := .i64) (by kernel_rfl)) (EqFs.flat (by kernel_rfl) (by kernel_rfl) rfl rfl (EqAV.int (k' := .i64) (by kernel_rfl)) EqFs.nil)))))) <|
      .cons rfl (Q_p rfl (S_and rfl (AEv.tmp rfl) (fun hp102 => (AEv.cond (AEv.tmp rfl) (by first | assumption | exact gdT hp102 | exact gdF hp102 | exact gdAnd (by assumption) (gdT hp102) | exact gdAnd (by assumption) (gdF hp102)))))) <|
      .cons rfl (Q_p rfl (S_move rfl (AEv.tmp rfl))) <|
      .cons rfl (Q_g rfl rfl (AEv.tmp rfl) (fun hg103 => S_loadN (m := 3) 5 rfl (AEv.tmp rfl) rfl (by kernel_rfl) (by first | exact Nat.le_of_ble_eq_true rfl | (simp; omega) | simp))) <|
      .cons rfl (Q_g rfl rfl (AEv.tmp rfl) (fun hg106 => S_pcall rfl (AEvs.cons (AEv.cond (AEv.tmp rfl) (by first | assumption | exact gdAnd (by assumption) (by assumption))) AEvs.nil) (res_Text_ok _ (by first | assumption | exact addR_fits _ _ | exact subR_fits _ _ | exact maxR_fits (by assumption) (by assumption) | decide)))) <|
      .cons rfl (Q_g rfl rfl (AEv.tmp rfl) (fun hg109 => S_loadN (m := 3) 5 rfl (AEv.tmp rfl) rfl (by kernel_rfl) (by first | exact Nat.le_of_ble_eq_true rfl | (simp; omega) | simp))) <|
      .cons rfl (Q_g rfl rfl (AEv.tmp rfl) (fun hg112 => S_pcall rfl (AEvs.cons (AEv.cond (AEv.tmp rfl) (by first | assumption | exact gdAnd (by assumption) (by assumption))) AEvs.nil) (ref14_Text_ok _ (by first | assumption | exact addR_fits _ _ | exact subR_fits _ _ | exact maxR_fits (by assumption) (by assumption) | decide)))) <|
      .cons rfl (Q_g rfl rfl (AEv.tmp rfl) (fun hg115 => S_eqS rfl (AEv.cond (AEv.tmp rfl) (by first | assumption | exact gdAnd (by assumption) (by assumption))) (AEv.cond (AEv.tmp rfl) (by first | assumption | exact gdAnd (by assumption) (by assumption))))) <|
      .cons rfl (Q_p rfl (S_and rfl (AEv.tmp rfl) (fun hp118 => (AEv.cond (AEv.tmp rfl) (by first | assumption | exact gdT hp118 | exact gdF hp118 | exact gdAnd (by assumption) (gdT hp118) | exact gdAnd (by assumption) (gdF hp118)))))) <|
      .cons rfl (Q_p rfl (S_move rfl (AEv.tmp rfl))) <|
      .cons rfl (Q_g rfl rfl (AEv.tmp rfl) (fun hg119 => S_pcall rfl AEvs.nil (law_works))) <|
      .cons rfl (Q_p rfl (S_and rfl (AEv.tmp rfl) (fun hp122 => (AEv.cond (AEv.tmp rfl) (by first | assumption | exact gdT hp122 | exact gdF hp122 | exact gdAnd (by assumption) (gdT hp122) | exact gdAnd (by assumption) (gdF hp122)))))) <|
      .cons rfl (Q_p rfl (S_assign rfl (AEv.tmp rfl))) <|
      .nil) ?_
  refine AC_ret ?_
  refine ret_tmp st rfl rfl (List.Sublist.cons _ (List.Sublist.cons _ (List.Sublist.cons _ (List.Sublist.cons _ (List.Sublist.cons _ (List.Sublist.cons _ (List.Sublist.refl _))))))) (Conv.refl (List.Sublist.cons _ (List.Sublist.cons _ (List.Sublist.cons _ (List.Sublist.cons _ (List.Sublist.cons _ (List.Sublist.cons _ (List.Sublist.refl _))))))) _) ⟨by first | rfl | (simp; done), rfl⟩ (.inl rfl)

set_option maxRecDepth 100000 in
/-- provost/provostlaw14.ResSums -/
theorem law_ResSums (l : List Tri) (hl3 : ∀ r ∈ l, fits3 r) : PCalls Try.prog 4 [.sl (ress l)] (.bool true) := by
  intro st
  refine ACalls_of (N := 32) Try.func4 (by kernel_rfl) rfl rfl rfl ?_
  have hlen : (ress l).length = l.length := by simp [ress]
  refine AC_seq ?_
  refine AC_region ?_
  refine AL_p rfl rfl (S_assign rfl (AEv.const _)) ?_
  refine AL_nil ?_
  refine AC_seq ?_
  refine AC_seq ?_
  refine AC_region ?_
  refine AL_p rfl rfl (S_move rfl (AEv.tmp rfl)) ?_
  refine AL_p rfl rfl (S_len (e := 23) rfl (AEv.tmp rfl) (by kernel_rfl)) ?_
  refine AL_p rfl rfl (S_gtr rfl (AEv.tmp rfl) (AEv.const _)) ?_
  refine AL_nil ?_
  refine AC_cond (AEv.tmp rfl) (fun hb1 => ?_) (fun hb1 => ?_)
  · try simp only [Bool.and_eq_true, Bool.or_eq_true, Bool.not_eq_true', Bool.not_eq_false', Bool.and_eq_false_iff, Bool.or_eq_false_iff, decide_eq_true_eq, decide_eq_false_iff_not, gd] at hb1
    refine AC_seq ?_
    refine AC_region ?_
    refine AL_p rfl rfl (S_pcall rfl AEvs.nil (law_works)) ?_
    refine AL_p rfl rfl (S_assign rfl (AEv.tmp rfl)) ?_
    refine AL_nil ?_
    refine AC_ret ?_
    refine ret_tmp st rfl rfl (List.Sublist.refl _) (Conv.refl (List.Sublist.refl _) _) ⟨by first | rfl | (simp; done), rfl⟩ (.inl rfl)
  · try simp only [Bool.and_eq_true, Bool.or_eq_true, Bool.not_eq_true', Bool.not_eq_false', Bool.and_eq_false_iff, Bool.or_eq_false_iff, decide_eq_true_eq, decide_eq_false_iff_not, gd] at hb1
    have hl : l.length ≤ 100 := by omega
    refine AC_skip ?_
    refine AC_seq ?_
    refine AC_region ?_
    refine AL_p rfl rfl (S_move rfl (AEv.tmp rfl)) ?_
    refine AL_p rfl rfl (S_pcall rfl (AEvs.cons (AEv.tmp rfl) AEvs.nil) (res_Sum_ok l hl hl3)) ?_
    refine AL_p rfl rfl (S_move rfl (AEv.tmp rfl)) ?_
    refine AL_p rfl rfl (S_extract 0 rfl (AEv.tmp rfl) rfl) ?_
    refine AL_p rfl rfl (S_extract 1 rfl (AEv.tmp rfl) rfl) ?_
    refine AL_step rfl rfl (S_alloc [.int .i64 0, .int .i64 0, .int .i64 0] rfl (by kernel_rfl)) ?_
    rintro _ _ ⟨b2, rfl, rfl⟩
    refine AL_step rfl rfl (S_storeN 0 rfl (AEv.tmp rfl) (AEv.tmp rfl) rfl (by first | exact Nat.le_of_ble_eq_true rfl | (simp; omega) | simp) (by first | rfl | simp [AV.one, Value.oneCell']) (by kernel_rfl)) ?_
    rintro _ _ ⟨rfl, rfl⟩
    refine AL_p rfl rfl (S_assign rfl (AEv.tmp rfl)) ?_
    refine AL_nil ?_
    refine AC_seq ?_
    refine AC_region ?_
    refine AL_p rfl rfl (S_move rfl (AEv.tmp rfl)) ?_
    refine AL_p rfl rfl (S_pcall rfl (AEvs.cons (AEv.tmp rfl) AEvs.nil) (ref14_Sum_ok l hl hl3)) ?_
    refine AL_p rfl rfl (S_move rfl (AEv.tmp rfl)) ?_
    refine AL_p rfl rfl (S_extract 0 rfl (AEv.tmp rfl) rfl) ?_
    refine AL_p rfl rfl (S_extract 1 rfl (AEv.tmp rfl) rfl) ?_
    refine AL_step rfl rfl (S_alloc [.int .i64 0, .int .i64 0, .int .i64 0] rfl (by kernel_rfl)) ?_
    rintro _ _ ⟨b3, rfl, rfl⟩
    refine AL_step rfl rfl (S_storeN 0 rfl (AEv.tmp rfl) (AEv.tmp rfl) rfl (by first | exact Nat.le_of_ble_eq_true rfl | (simp; omega) | simp) (by first | rfl | simp [AV.one, Value.oneCell']) (by kernel_rfl)) ?_
    rintro _ _ ⟨rfl, rfl⟩
    refine AL_p rfl rfl (S_assign rfl (AEv.tmp rfl)) ?_
    refine AL_nil ?_
    refine AC_seq ?_
    refine AC_region ?_
    refine AL_p rfl rfl (S_loadN (m := 3) 1 rfl (AEv.tmp rfl) rfl (by kernel_rfl) (by first | exact Nat.le_of_ble_eq_true rfl | (simp; omega) | simp)) ?_
    refine AL_p rfl rfl (S_loadN (m := 3) 0 rfl (AEv.tmp rfl) rfl (by kernel_rfl) (by first | exact Nat.le_of_ble_eq_true rfl | (simp; omega) | simp)) ?_
    refine AL_p rfl rfl (S_eqlAgg rfl (AEv.tmp rfl) (AEv.tmp rfl) (by kernel_rfl) (EqAV.struct Try.underlying23 (by kernel_rfl) (EqFs.flat (by kernel_rfl) (by kernel_rfl) rfl rfl (EqAV.int (k' := .i64) (by kernel_rfl)) (EqFs.flat (by kernel_rfl) (by kernel_rfl) rfl rfl (EqAV.int (k' := .i64) (by kernel_rfl)) (EqFs.flat (by kernel_rfl) (by kernel_rfl) rfl rfl (EqAV.int (k' := .i64) (by kernel_rfl)) EqFs.nil))))) ?_
    refine AL_p rfl rfl (S_move rfl (AEv.tmp rfl)) ?_
    refine AL_g rfl rfl (AEv.tmp rfl) rfl (fun hg4 => S_move rfl (AEv.tmp rfl)) ?_
    refine AL_g rfl rfl (AEv.tmp rfl) rfl (fun hg7 => S_move rfl (AEv.tmp rfl)) ?_
    refine AL_g rfl rfl (AEv.tmp rfl) rfl (fun hg10 => S_eqB rfl (AEv.cond (AEv.tmp rfl) (by first | assumption | exact gdAnd (by assumption) (by assumption))) (AEv.cond (AEv.tmp rfl) (by first | assumption | exact gdAnd (by assumption) (by assumption))) (by kernel_rfl)) ?_
    refine AL_p rfl rfl (S_and rfl (AEv.tmp rfl) (fun hp13 => (AEv.cond (AEv.tmp rfl) (by first | assumption | exact gdT hp13 | exact gdF hp13 | exact gdAnd (by assumption) (gdT hp13) | exact gdAnd (by assumption) (gdF hp13))))) ?_
    refine AL_p rfl rfl (S_move rfl (AEv.tmp rfl)) ?_
    refine AL_g rfl rfl (AEv.tmp rfl) rfl (fun hg14 => S_pcall rfl AEvs.nil (law_works)) ?_
    refine AL_p rfl rfl (S_and rfl (AEv.tmp rfl) (fun hp17 => (AEv.cond (AEv.tmp rfl) (by first | assumption | exact gdT hp17 | exact gdF hp17 | exact gdAnd (by assumption) (gdT hp17) | exact gdAnd (by assumption) (gdF hp17))))) ?_
    refine AL_p rfl rfl (S_assign rfl (AEv.tmp rfl)) ?_
    refine AL_nil ?_
    refine AC_ret ?_
    refine ret_tmp st rfl rfl (List.Sublist.cons _ (List.Sublist.cons _ (List.Sublist.refl _))) (Conv.refl (List.Sublist.cons _ (List.Sublist.cons _ (List.Sublist.refl _))) _) ⟨by first | rfl | (simp; done), rfl⟩ (.inl rfl)

set_option maxRecDepth 100000 in
/-- provost/provostlaw14.ResTurns -/
theorem law_ResTurns (l : List Tri) (hl3 : ∀ r ∈ l, fits3 r) (at_ : Int) (hat : fits at_) : PCalls Try.prog 5 [.sl (ress l), .int .i64 at_] (.bool true) := by
  intro st
  refine ACalls_of (N := 126) Try.func5 (by kernel_rfl) rfl rfl rfl ?_
  have hlen : (ress l).length = l.length := by simp [ress]
  refine AC_seq ?_
  refine AC_region ?_
  refine AL_p rfl rfl (S_assign rfl (AEv.const _)) ?_
  refine AL_nil ?_
  refine AC_seq ?_
  refine AC_seq ?_
  refine AC_region ?_
  refine AL_p rfl rfl (S_pcall rfl AEvs.nil (law_works)) ?_
  refine AL_p rfl rfl (S_not rfl (AEv.tmp rfl)) ?_
  refine AL_nil ?_
  refine AC_cond (AEv.tmp rfl) (fun hb1 => ?_) (fun hb1 => ?_)
  · simp at hb1; done
  · try simp only [Bool.and_eq_true, Bool.or_eq_true, Bool.not_eq_true', Bool.not_eq_false', Bool.and_eq_false_iff, Bool.or_eq_false_iff, decide_eq_true_eq, decide_eq_false_iff_not, gd] at hb1
    refine AC_skip ?_
    refine AC_seq ?_
    refine AC_seq ?_
    refine AC_region ?_
    refine AL_p rfl rfl (S_move rfl (AEv.tmp rfl)) ?_
    refine AL_p rfl rfl (S_len (e := 23) rfl (AEv.tmp rfl) (by kernel_rfl)) ?_
    refine AL_p rfl rfl (S_gtr rfl (AEv.tmp rfl) (AEv.const _)) ?_
    refine AL_p rfl rfl (S_move rfl (AEv.tmp rfl)) ?_
    refine AL_g rfl rfl (AEv.tmp rfl) rfl (fun hg2 => S_move rfl (AEv.tmp rfl)) ?_
    refine AL_g rfl rfl (AEv.tmp rfl) rfl (fun hg5 => S_len (e := 23) rfl (AEv.cond (AEv.tmp rfl) (by first | assumption | exact gdAnd (by assumption) (by assumption))) (by kernel_rfl)) ?_
    refine AL_g rfl rfl (AEv.tmp rfl) rfl (fun hg8 => S_eql rfl (AEv.cond (AEv.tmp rfl) (by first | assumption | exact gdAnd (by assumption) (by assumption))) (AEv.const _)) ?_
    refine AL_p rfl rfl (S_or rfl (AEv.tmp rfl) (fun hp11 => (AEv.cond (AEv.tmp rfl) (by first | assumption | exact gdT hp11 | exact gdF hp11 | exact gdAnd (by assumption) (gdT hp11) | exact gdAnd (by assumption) (gdF hp11))))) ?_
    refine AL_nil ?_
    refine AC_cond (AEv.tmp rfl) (fun hb12 => ?_) (fun hb12 => ?_)
    · try simp only [Bool.and_eq_true, Bool.or_eq_true, Bool.not_eq_true', Bool.not_eq_false', Bool.and_eq_false_iff, Bool.or_eq_false_iff, decide_eq_true_eq, decide_eq_false_iff_not, gd] at hb12
      refine AC_seq ?_
      refine AC_region ?_
      refine AL_p rfl rfl (S_assign rfl (AEv.const _)) ?_
      refine AL_nil ?_
      refine AC_ret ?_
      refine ret_tmp st rfl rfl (by first | exact List.Sublist.refl _ | exact List.sublist_append_right _ _) (Conv.refl (by first | exact List.Sublist.refl _ | exact List.sublist_append_right _ _) _) ⟨rfl, rfl⟩ (.inl rfl)
    · try simp only [Bool.and_eq_true, Bool.or_eq_true, Bool.not_eq_true', Bool.not_eq_false', Bool.and_eq_false_iff, Bool.or_eq_false_iff, decide_eq_true_eq, decide_eq_false_iff_not, gd] at hb12
      have hl : l.length ≤ 100 := by omega
      have hl0 : 0 < l.length := by omega
      refine AC_skip ?_
      refine AC_seq ?_
      refine AC_region ?_
      refine AL_p rfl rfl (S_assign rfl (AEv.const _)) ?_
      refine AL_nil ?_
      refine AC_seq ?_
      refine AC_seq ?_
      refine AC_region ?_
      refine AL_p rfl rfl (S_move rfl (AEv.tmp rfl)) ?_
      refine AL_p rfl rfl (S_len (e := 23) rfl (AEv.tmp rfl) (by kernel_rfl)) ?_
      refine AL_p rfl rfl (S_subI rfl (AEv.tmp rfl) (AEv.const _) (by omega) (by omega)) ?_
      refine AL_p rfl rfl (S_assign rfl (AEv.tmp rfl)) ?_
      refine AL_nil ?_
      refine AC_block ?_
      refine AC_loopS (G := Nat × Option (Nat × Nat)) (fun g => g.1 ≤ l.length ∧ (g.2 = none → ress (l.drop g.1).reverse = []) ∧ ∀ r ∈ l.drop g.1, smallR r = true) (fun g => [(0, .sl (ress l)), (1, .int .i64 at_), (5, ownAV g.2 (ress (l.drop g.1).reverse)), (6, .int .i64 ((g.1 : Int) - 1))]) (fun g => ownSt g.2 23 3 (ress (l.drop g.1).reverse) ++ st) (fun g => g.1) ((l.length, none)) (⟨Nat.le_refl _, fun _ => by simp [ress], fun r hr => by simp at hr⟩) (List.Sublist.refl _) ?_ ?_
      · exact .cons rfl (Le.refl _) (.cons rfl (Le.refl _) (.cons rfl (Le.of_eq (by simp [ownAV, ress])) (.cons rfl (Le.of_eq (by rw [hlen])) .nil)))
      · rintro ⟨j, p⟩ ⟨hj, hp, hsm⟩
        try dsimp only
        dsimp only at hj hp hsm
        refine AC_seq ?_
        refine AC_seq ?_
        refine AC_region ?_
        refine AL_p rfl rfl (S_move rfl (AEv.tmp rfl)) ?_
        refine AL_p rfl rfl (S_geq rfl (AEv.tmp rfl) (AEv.const _)) ?_
        refine AL_nil ?_
        refine AC_cond (AEv.tmp rfl) (fun hb13 => ?_) (fun hb13 => ?_)
        · try simp only [Bool.and_eq_true, Bool.or_eq_true, Bool.not_eq_true', Bool.not_eq_false', Bool.and_eq_false_iff, Bool.or_eq_false_iff, decide_eq_true_eq, decide_eq_false_iff_not, gd] at hb13
          obtain ⟨i, rfl⟩ : ∃ i, j = i + 1 := ⟨j - 1, by omega⟩
          have hil : i < l.length := by omega
          have e6 : ((i + 1 : Nat) : Int) - 1 = (i : Int) := by omega
          rw [e6]
          have hturn := ress_turn hil
          have hcount : (ress (l.drop (i + 1)).reverse).length ≤ 100 := by rw [ress_count]; simp; omega
          refine AC_skip ?_
          refine AC_seq ?_
          refine AC_block ?_
          refine AC_seq ?_
          refine AC_seq ?_
          refine AC_region ?_
          refine AL_p rfl rfl (S_move rfl (AEv.tmp rfl)) ?_
          refine AL_p rfl rfl (S_move rfl (AEv.tmp rfl)) ?_
          refine AL_p rfl rfl (S_elem (e := 23) (c := resAV (l[i]'hil)) (i := (i : Int)) 3 rfl (AEv.tmp rfl) (AEv.tmp rfl) (by kernel_rfl) (by kernel_rfl) (by omega) (by rw [Int.toNat_natCast, ress_at hil]) rfl) ?_
          refine AL_p rfl rfl (S_loadPN (m := 3) rfl (AEv.tmp rfl) (by kernel_rfl) (by first | exact Nat.le_of_ble_eq_true rfl | (simp; omega) | simp)) ?_
          refine AL_p rfl rfl (S_pcall rfl (AEvs.cons (AEv.tmp rfl) AEvs.nil) (law_small (l[i]'hil))) ?_
          refine AL_p rfl rfl (S_not rfl (AEv.tmp rfl)) ?_
          refine AL_nil ?_
          refine AC_cond (AEv.tmp rfl) (fun hb14 => ?_) (fun hb14 => ?_)
          · try simp only [Bool.and_eq_true, Bool.or_eq_true, Bool.not_eq_true', Bool.not_eq_false', Bool.and_eq_false_iff, Bool.or_eq_false_iff, decide_eq_true_eq, decide_eq_false_iff_not, gd] at hb14
            refine AC_seq ?_
            refine AC_region ?_
            refine AL_p rfl rfl (S_assign rfl (AEv.const _)) ?_
            refine AL_nil ?_
            refine AC_ret ?_
            refine ret_tmp st rfl rfl (by first | exact List.Sublist.refl _ | exact List.sublist_append_right _ _) (Conv.refl (by first | exact List.Sublist.refl _ | exact List.sublist_append_right _ _) _) ⟨rfl, rfl⟩ (.inl rfl)
          · try simp only [Bool.and_eq_true, Bool.or_eq_true, Bool.not_eq_true', Bool.not_eq_false', Bool.and_eq_false_iff, Bool.or_eq_false_iff, decide_eq_true_eq, decide_eq_false_iff_not, gd] at hb14
            have hone : smallR (l[i]'hil) = true := hb14
            refine AC_skip ?_
            refine AC_region ?_
            refine AL_p rfl rfl (S_move rfl (AEv.tmp rfl)) ?_
            refine AL_p rfl rfl (S_move rfl (AEv.tmp rfl)) ?_
            refine AL_p rfl rfl (S_move rfl (AEv.tmp rfl)) ?_
            refine AL_p rfl rfl (S_elem (e := 23) (c := resAV (l[i]'hil)) (i := (i : Int)) 3 rfl (AEv.tmp rfl) (AEv.tmp rfl) (by kernel_rfl) (by kernel_rfl) (by omega) (by rw [Int.toNat_natCast, ress_at hil]) rfl) ?_
            refine AL_p rfl rfl (S_loadPN (m := 3) rfl (AEv.tmp rfl) (by kernel_rfl) (by first | exact Nat.le_of_ble_eq_true rfl | (simp; omega) | simp)) ?_
            refine AL_p rfl rfl (S_buildSlice (e := 23) 3 rfl (AEvs.cons (y := resAV (l[i]'hil)) (AEv.tmp rfl) AEvs.nil) rfl (by kernel_rfl) (by kernel_rfl) (by simp [AV.flat, AV.cells]) (by decide) (by decide) (by decide)) ?_
            refine AL_step rfl rfl (S_appendOwn (e := 23) (size := 3) (bytes := 24) (p := p) (xs := ress (l.drop (i + 1)).reverse) [] st rfl (AEv.tmp rfl) (AEv.tmp rfl) rfl hp (by kernel_rfl) (by simp) ress_len (by simp [AV.cells, AV.one, Value.oneCell']) (by simp only [List.length_singleton]; omega) (by simp only [List.length_singleton]; omega)) ?_
            rintro _ _ ⟨q, rfl, rfl⟩
            refine AL_p rfl rfl (S_assign rfl (AEv.tmp rfl)) ?_
            refine AL_nil ?_
            refine AC_region ?_
            refine AL_p rfl rfl (S_move rfl (AEv.tmp rfl)) ?_
            refine AL_p rfl rfl (S_subI rfl (AEv.tmp rfl) (AEv.const _) (by omega) (by omega)) ?_
            refine AL_p rfl rfl (S_assign rfl (AEv.tmp rfl)) ?_
            refine AL_nil ?_
            refine ⟨(i, some q), ⟨by dsimp only; omega, (fun h => by cases h), fun r hr => ?_⟩, by dsimp only; omega, ?_, .cons rfl (Le.refl _) (.cons rfl (Le.refl _) (.cons rfl (Le.of_eq (by rw [hturn])) (.cons rfl (Le.refl _) .nil)))⟩
            · dsimp only at hr
              rw [List.drop_eq_getElem_cons hil] at hr
              rcases List.mem_cons.1 hr with rfl | hr
              · exact hone
              · exact hsm r hr
            · dsimp only
              rw [hturn]
              exact List.Sublist.refl _
        · try simp only [Bool.and_eq_true, Bool.or_eq_true, Bool.not_eq_true', Bool.not_eq_false', Bool.and_eq_false_iff, Bool.or_eq_false_iff, decide_eq_true_eq, decide_eq_false_iff_not, gd] at hb13
          obtain rfl : j = 0 := by omega
          simp only [List.drop_zero] at hp hsm
          simp only [List.drop_zero]
          have hrev3 : ∀ r ∈ l.reverse, fits3 r := fun r hr => hl3 r (List.mem_reverse.1 hr)
          obtain ⟨kk, hkk, hkl⟩ : ∃ kk : Nat, belowV at_ (l.length : Int) = (kk : Int) ∧ kk < l.length := ⟨(belowV at_ (l.length : Int)).toNat, by have := below_in (x := at_) (n := (l.length : Int)) (by omega); omega, by have := below_in (x := at_) (n := (l.length : Int)) (by omega); omega⟩
          obtain ⟨f1, f2, f3, f4, f5, f6, f7⟩ := turns_all hsm hl hkl rfl rfl rfl rfl
          refine AC_exit ?_
          refine AC_seq ?_
          refine AC_region ?_
          refine AL_p rfl rfl (S_move rfl (AEv.tmp rfl)) ?_
          refine AL_p rfl rfl (S_move rfl (AEv.tmp rfl)) ?_
          refine AL_p rfl rfl (S_len (e := 23) rfl (AEv.tmp rfl) (by kernel_rfl)) ?_
          refine AL_p rfl rfl (S_pcall rfl (AEvs.cons (AEv.tmp rfl) (AEvs.cons ((AEv.tmp rfl).le (Le.of_eq (by rw [hlen]))) AEvs.nil)) (book_Below_ok at_ (l.length : Int) (by omega))) ?_
          refine AL_p rfl rfl (S_assign rfl ((AEv.tmp rfl).le (Le.of_eq (by rw [hkk])))) ?_
          refine AL_nil ?_
          refine AC_seq ?_
          refine AC_region ?_
          refine AL_p rfl rfl (S_move rfl (AEv.tmp rfl)) ?_
          refine AL_p rfl rfl (S_pcall rfl (AEvs.cons (AEv.tmp rfl) AEvs.nil) (res_Sum_ok l hl hl3)) ?_
          refine AL_p rfl rfl (S_move rfl (AEv.tmp rfl)) ?_
          refine AL_p rfl rfl (S_extract 0 rfl (AEv.tmp rfl) rfl) ?_
          refine AL_p rfl rfl (S_extract 1 rfl (AEv.tmp rfl) rfl) ?_
          refine AL_step rfl rfl (S_alloc [.int .i64 0, .int .i64 0, .int .i64 0] rfl (by kernel_rfl)) ?_
          rintro _ _ ⟨b15, rfl, rfl⟩
          refine AL_step rfl rfl (S_storeN 0 rfl (AEv.tmp rfl) (AEv.tmp rfl) rfl (by first | exact Nat.le_of_ble_eq_true rfl | (simp; omega) | simp) (by first | rfl | simp [AV.one, Value.oneCell']) (by kernel_rfl)) ?_
          rintro _ _ ⟨rfl, rfl⟩
          refine AL_p rfl rfl (S_assign rfl (AEv.tmp rfl)) ?_
          refine AL_nil ?_
          refine AC_seq ?_
          refine AC_region ?_
          refine AL_p rfl rfl (S_move rfl (AEv.tmp rfl)) ?_
          refine AL_p rfl rfl (S_pcall rfl (AEvs.cons ((AEv.tmp rfl).le (Le_own hp)) AEvs.nil) (res_Sum_ok l.reverse (by simpa using hl) hrev3)) ?_
          refine AL_p rfl rfl (S_move rfl (AEv.tmp rfl)) ?_
          refine AL_p rfl rfl (S_extract 0 rfl (AEv.tmp rfl) rfl) ?_
          refine AL_p rfl rfl (S_extract 1 rfl (AEv.tmp rfl) rfl) ?_
          refine AL_step rfl rfl (S_alloc [.int .i64 0, .int .i64 0, .int .i64 0] rfl (by kernel_rfl)) ?_
          rintro _ _ ⟨b16, rfl, rfl⟩
          refine AL_step rfl rfl (S_storeN 0 rfl (AEv.tmp rfl) (AEv.tmp rfl) rfl (by first | exact Nat.le_of_ble_eq_true rfl | (simp; omega) | simp) (by first | rfl | simp [AV.one, Value.oneCell']) (by kernel_rfl)) ?_
          rintro _ _ ⟨rfl, rfl⟩
          refine AL_p rfl rfl (S_assign rfl (AEv.tmp rfl)) ?_
          refine AL_nil ?_
          refine AC_seq ?_
          refine AC_region ?_
          refine AL_p rfl rfl (S_move rfl (AEv.tmp rfl)) ?_
          refine AL_p rfl rfl (S_move rfl (AEv.tmp rfl)) ?_
          refine AL_p rfl rfl (S_cut (e := 23) (i := 0) (j := kk) 3 rfl (AEv.tmp rfl) rfl ⟨_, AEv.tmp rfl⟩ (by kernel_rfl) (by kernel_rfl) ress_len (by omega) (by omega)) ?_
          refine AL_p rfl rfl (S_pcall rfl (AEvs.cons ((AEv.tmp rfl).le (Le.of_eq (by simp [ress, List.map_take]))) AEvs.nil) (res_Sum_ok (l.take kk) (by simp; omega) (fun r hr => hl3 r (List.mem_of_mem_take hr)))) ?_
          refine AL_p rfl rfl (S_move rfl (AEv.tmp rfl)) ?_
          refine AL_p rfl rfl (S_extract 0 rfl (AEv.tmp rfl) rfl) ?_
          refine AL_p rfl rfl (S_extract 1 rfl (AEv.tmp rfl) rfl) ?_
          refine AL_step rfl rfl (S_alloc [.int .i64 0, .int .i64 0, .int .i64 0] rfl (by kernel_rfl)) ?_
          rintro _ _ ⟨b17, rfl, rfl⟩
          refine AL_step rfl rfl (S_storeN 0 rfl (AEv.tmp rfl) (AEv.tmp rfl) rfl (by first | exact Nat.le_of_ble_eq_true rfl | (simp; omega) | simp) (by first | rfl | simp [AV.one, Value.oneCell']) (by kernel_rfl)) ?_
          rintro _ _ ⟨rfl, rfl⟩
          refine AL_p rfl rfl (S_assign rfl (AEv.tmp rfl)) ?_
          refine AL_nil ?_
          refine AC_seq ?_
          refine AC_region ?_
          refine AL_p rfl rfl (S_move rfl (AEv.tmp rfl)) ?_
          refine AL_p rfl rfl (S_move rfl (AEv.tmp rfl)) ?_
          refine AL_p rfl rfl (S_cut (e := 23) (i := kk) (j := (ress l).length) 3 rfl (AEv.tmp rfl) ⟨_, AEv.tmp rfl⟩ rfl (by kernel_rfl) (by kernel_rfl) ress_len (by omega) (by omega)) ?_
          refine AL_p rfl rfl (S_pcall rfl (AEvs.cons ((AEv.tmp rfl).le (Le.of_eq (by rw [List.take_of_length_le (Nat.le_refl _)]; simp [ress, List.map_drop]))) AEvs.nil) (res_Sum_ok (l.drop kk) (by simp; omega) (fun r hr => hl3 r (List.mem_of_mem_drop hr)))) ?_
          refine AL_p rfl rfl (S_move rfl (AEv.tmp rfl)) ?_
          refine AL_p rfl rfl (S_extract 0 rfl (AEv.tmp rfl) rfl) ?_
          refine AL_p rfl rfl (S_extract 1 rfl (AEv.tmp rfl) rfl) ?_
          refine AL_step rfl rfl (S_alloc [.int .i64 0, .int .i64 0, .int .i64 0] rfl (by kernel_rfl)) ?_
          rintro _ _ ⟨b18, rfl, rfl⟩
          refine AL_step rfl rfl (S_storeN 0 rfl (AEv.tmp rfl) (AEv.tmp rfl) rfl (by first | exact Nat.le_of_ble_eq_true rfl | (simp; omega) | simp) (by first | rfl | simp [AV.one, Value.oneCell']) (by kernel_rfl)) ?_
          rintro _ _ ⟨rfl, rfl⟩
          refine AL_p rfl rfl (S_assign rfl (AEv.tmp rfl)) ?_
          refine AL_nil ?_
          refine AC_seq ?_
          refine AC_region ?_
          refine AL_p rfl rfl (S_loadN (m := 3) 1 rfl (AEv.tmp rfl) rfl (by kernel_rfl) (by first | exact Nat.le_of_ble_eq_true rfl | (simp; omega) | simp)) ?_
          refine AL_p rfl rfl (S_loadN (m := 3) 0 rfl (AEv.tmp rfl) rfl (by kernel_rfl) (by first | exact Nat.le_of_ble_eq_true rfl | (simp; omega) | simp)) ?_
          refine AL_p rfl rfl (S_pcall rfl (AEvs.cons (AEv.tmp rfl) (AEvs.cons (AEv.tmp rfl) AEvs.nil)) (res_Add_ok (sumR (0, 0, 0) (l.take kk)).1 (sumR (0, 0, 0) (l.drop kk)).1 (sumR_fits _ _ (by decide)) (sumR_fits _ _ (by decide)))) ?_
          refine AL_p rfl rfl (S_move rfl (AEv.tmp rfl)) ?_
          refine AL_p rfl rfl (S_extract 0 rfl (AEv.tmp rfl) rfl) ?_
          refine AL_p rfl rfl (S_extract 1 rfl (AEv.tmp rfl) rfl) ?_
          refine AL_step rfl rfl (S_alloc [.int .i64 0, .int .i64 0, .int .i64 0] rfl (by kernel_rfl)) ?_
          rintro _ _ ⟨b19, rfl, rfl⟩
          refine AL_step rfl rfl (S_storeN 0 rfl (AEv.tmp rfl) (AEv.tmp rfl) rfl (by first | exact Nat.le_of_ble_eq_true rfl | (simp; omega) | simp) (by first | rfl | simp [AV.one, Value.oneCell']) (by kernel_rfl)) ?_
          rintro _ _ ⟨rfl, rfl⟩
          refine AL_p rfl rfl (S_assign rfl (AEv.tmp rfl)) ?_
          refine AL_nil ?_
          refine AC_seq ?_
          refine AC_region ?_
          refine AL_p rfl rfl (S_loadN (m := 3) 4 rfl (AEv.tmp rfl) rfl (by kernel_rfl) (by first | exact Nat.le_of_ble_eq_true rfl | (simp; omega) | simp)) ?_
          refine AL_p rfl rfl (S_loadN (m := 3) 1 rfl (AEv.tmp rfl) rfl (by kernel_rfl) (by first | exact Nat.le_of_ble_eq_true rfl | (simp; omega) | simp)) ?_
          refine AL_p rfl rfl (S_pcall rfl (AEvs.cons (AEv.tmp rfl) (AEvs.cons (AEv.tmp rfl) AEvs.nil)) (res_Sub_ok (sumR (0, 0, 0) l).1 (sumR (0, 0, 0) (l.drop kk)).1 (sumR_fits _ _ (by decide)) (sumR_fits _ _ (by decide)))) ?_
          refine AL_p rfl rfl (S_move rfl (AEv.tmp rfl)) ?_
          refine AL_p rfl rfl (S_extract 0 rfl (AEv.tmp rfl) rfl) ?_
          refine AL_p rfl rfl (S_extract 1 rfl (AEv.tmp rfl) rfl) ?_
          refine AL_step rfl rfl (S_alloc [.int .i64 0, .int .i64 0, .int .i64 0] rfl (by kernel_rfl)) ?_
          rintro _ _ ⟨b20, rfl, rfl⟩
          refine AL_step rfl rfl (S_storeN 0 rfl (AEv.tmp rfl) (AEv.tmp rfl) rfl (by first | exact Nat.le_of_ble_eq_true rfl | (simp; omega) | simp) (by first | rfl | simp [AV.one, Value.oneCell']) (by kernel_rfl)) ?_
          rintro _ _ ⟨rfl, rfl⟩
          refine AL_p rfl rfl (S_assign rfl (AEv.tmp rfl)) ?_
          refine AL_nil ?_
          refine AC_seq ?_
          refine AC_region ?_
          refine AL_p rfl rfl (S_move rfl (AEv.tmp rfl)) ?_
          refine AL_p rfl rfl (S_move rfl (AEv.tmp rfl)) ?_
          refine AL_g rfl rfl (AEv.tmp rfl) rfl (fun hg21 => S_move rfl (AEv.tmp rfl)) ?_
          refine AL_p rfl rfl (S_and rfl (AEv.tmp rfl) (fun hp24 => (AEv.cond (AEv.tmp rfl) (by first | assumption | exact gdT hp24 | exact gdF hp24 | exact gdAnd (by assumption) (gdT hp24) | exact gdAnd (by assumption) (gdF hp24))))) ?_
          refine AL_p rfl rfl (S_move rfl (AEv.tmp rfl)) ?_
          refine AL_g rfl rfl (AEv.tmp rfl) rfl (fun hg25 => S_move rfl (AEv.tmp rfl)) ?_
          refine AL_p rfl rfl (S_and rfl (AEv.tmp rfl) (fun hp28 => (AEv.cond (AEv.tmp rfl) (by first | assumption | exact gdT hp28 | exact gdF hp28 | exact gdAnd (by assumption) (gdT hp28) | exact gdAnd (by assumption) (gdF hp28))))) ?_
          refine AL_p rfl rfl (S_move rfl (AEv.tmp rfl)) ?_
          refine AL_g rfl rfl (AEv.tmp rfl) rfl (fun hg29 => S_move rfl (AEv.tmp rfl)) ?_
          refine AL_p rfl rfl (S_and rfl (AEv.tmp rfl) (fun hp32 => (AEv.cond (AEv.tmp rfl) (by first | assumption | exact gdT hp32 | exact gdF hp32 | exact gdAnd (by assumption) (gdT hp32) | exact gdAnd (by assumption) (gdF hp32))))) ?_
          refine AL_p rfl rfl (S_move rfl (AEv.tmp rfl)) ?_
          refine AL_g rfl rfl (AEv.tmp rfl) rfl (fun hg33 => S_move rfl (AEv.tmp rfl)) ?_
          refine AL_p rfl rfl (S_and rfl (AEv.tmp rfl) (fun hp36 => (AEv.cond (AEv.tmp rfl) (by first | assumption | exact gdT hp36 | exact gdF hp36 | exact gdAnd (by assumption) (gdT hp36) | exact gdAnd (by assumption) (gdF hp36))))) ?_
          refine AL_p rfl rfl (S_move rfl (AEv.tmp rfl)) ?_
          refine AL_g rfl rfl (AEv.tmp rfl) rfl (fun hg37 => S_move rfl (AEv.tmp rfl)) ?_
          refine AL_p rfl rfl (S_and rfl (AEv.tmp rfl) (fun hp40 => (AEv.cond (AEv.tmp rfl) (by first | assumption | exact gdT hp40 | exact gdF hp40 | exact gdAnd (by assumption) (gdT hp40) | exact gdAnd (by assumption) (gdF hp40))))) ?_
          refine AL_p rfl rfl (S_move rfl (AEv.tmp rfl)) ?_
          refine AL_g rfl rfl (AEv.tmp rfl) rfl (fun hg41 => S_loadN (m := 3) 5 rfl (AEv.tmp rfl) rfl (by kernel_rfl) (by first | exact Nat.le_of_ble_eq_true rfl | (simp; omega) | simp)) ?_
          refine AL_g rfl rfl (AEv.tmp rfl) rfl (fun hg44 => S_loadN (m := 3) 4 rfl (AEv.tmp rfl) rfl (by kernel_rfl) (by first | exact Nat.le_of_ble_eq_true rfl | (simp; omega) | simp)) ?_
          refine AL_g rfl rfl (AEv.tmp rfl) rfl (fun hg47 => S_eqlAgg rfl (AEv.cond (AEv.tmp rfl) (by first | assumption | exact gdAnd (by assumption) (by assumption))) (AEv.cond (AEv.tmp rfl) (by first | assumption | exact gdAnd (by assumption) (by assumption))) (by kernel_rfl) (EqAV.struct Try.underlying23 (by kernel_rfl) (EqFs.flat (by kernel_rfl) (by kernel_rfl) rfl rfl (EqAV.int (k' := .i64) (by kernel_rfl)) (EqFs.flat (by kernel_rfl) (by kernel_rfl) rfl rfl (EqAV.int (k' := .i64) (by kernel_rfl)) (EqFs.flat (by kernel_rfl) (by kernel_rfl) rfl rfl (EqAV.int (k' := .i64) (by kernel_rfl)) EqFs.nil))))) ?_
          refine AL_p rfl rfl (S_and rfl (AEv.tmp rfl) (fun hp50 => (AEv.cond (AEv.tmp rfl) (by first | assumption | exact gdT hp50 | exact gdF hp50 | exact gdAnd (by assumption) (gdT hp50) | exact gdAnd (by assumption) (gdF hp50))))) ?_
          refine AL_p rfl rfl (S_move rfl (AEv.tmp rfl)) ?_
          refine AL_g rfl rfl (AEv.tmp rfl) rfl (fun hg51 => S_loadN (m := 3) 5 rfl (AEv.tmp rfl) rfl (by kernel_rfl) (by first | exact Nat.le_of_ble_eq_true rfl | (simp; omega) | simp)) ?_
          refine AL_g rfl rfl (AEv.tmp rfl) rfl (fun hg54 => S_loadN (m := 3) 1 rfl (AEv.tmp rfl) rfl (by kernel_rfl) (by first | exact Nat.le_of_ble_eq_true rfl | (simp; omega) | simp)) ?_
          refine AL_g rfl rfl (AEv.tmp rfl) rfl (fun hg57 => S_eqlAgg rfl (AEv.cond (AEv.tmp rfl) (by first | assumption | exact gdAnd (by assumption) (by assumption))) (AEv.cond (AEv.tmp rfl) (by first | assumption | exact gdAnd (by assumption) (by assumption))) (by kernel_rfl) (EqAV.struct Try.underlying23 (by kernel_rfl) (EqFs.flat (by kernel_rfl) (by kernel_rfl) rfl rfl (EqAV.int (k' := .i64) (by kernel_rfl)) (EqFs.flat (by kernel_rfl) (by kernel_rfl) rfl rfl (EqAV.int (k' := .i64) (by kernel_rfl)) (EqFs.flat (by kernel_rfl) (by kernel_rfl) rfl rfl (EqAV.int (k' := .i64) (by kernel_rfl)) EqFs.nil))))) ?_
          refine AL_p rfl rfl (S_and rfl (AEv.tmp rfl) (fun hp60 => (AEv.cond (AEv.tmp rfl) (by first | assumption | exact gdT hp60 | exact gdF hp60 | exact gdAnd (by assumption) (gdT hp60) | exact gdAnd (by assumption) (gdF hp60))))) ?_
          refine AL_p rfl rfl (S_move rfl (AEv.tmp rfl)) ?_
          refine AL_g rfl rfl (AEv.tmp rfl) rfl (fun hg61 => S_loadN (m := 3) 0 rfl (AEv.tmp rfl) rfl (by kernel_rfl) (by first | exact Nat.le_of_ble_eq_true rfl | (simp; omega) | simp)) ?_
          refine AL_g rfl rfl (AEv.tmp rfl) rfl (fun hg64 => S_loadN (m := 3) 3 rfl (AEv.tmp rfl) rfl (by kernel_rfl) (by first | exact Nat.le_of_ble_eq_true rfl | (simp; omega) | simp)) ?_
          refine AL_g rfl rfl (AEv.tmp rfl) rfl (fun hg67 => S_eqlAgg rfl (AEv.cond (AEv.tmp rfl) (by first | assumption | exact gdAnd (by assumption) (by assumption))) (AEv.cond (AEv.tmp rfl) (by first | assumption | exact gdAnd (by assumption) (by assumption))) (by kernel_rfl) (EqAV.struct Try.underlying23 (by kernel_rfl) (EqFs.flat (by kernel_rfl) (by kernel_rfl) rfl rfl (EqAV.int (k' := .i64) (by kernel_rfl)) (EqFs.flat (by kernel_rfl) (by kernel_rfl) rfl rfl (EqAV.int (k' := .i64) (by kernel_rfl)) (EqFs.flat (by kernel_rfl) (by kernel_rfl) rfl rfl (EqAV.int (k' := .i64) (by kernel_rfl)) EqFs.nil))))) ?_
          refine AL_p rfl rfl (S_and rfl (AEv.tmp rfl) (fun hp70 => (AEv.cond (AEv.tmp rfl) (by first | assumption | exact gdT hp70 | exact gdF hp70 | exact gdAnd (by assumption) (gdT hp70) | exact gdAnd (by assumption) (gdF hp70))))) ?_
          refine AL_p rfl rfl (S_move rfl (AEv.tmp rfl)) ?_
          refine AL_g rfl rfl (AEv.tmp rfl) rfl (fun hg71 => S_loadN (m := 3) 3 rfl (AEv.tmp rfl) rfl (by kernel_rfl) (by first | exact Nat.le_of_ble_eq_true rfl | (simp; omega) | simp)) ?_
          refine AL_g rfl rfl (AEv.tmp rfl) rfl (fun hg74 => S_loadN (m := 3) 5 rfl (AEv.tmp rfl) rfl (by kernel_rfl) (by first | exact Nat.le_of_ble_eq_true rfl | (simp; omega) | simp)) ?_
          refine AL_g rfl rfl (AEv.tmp rfl) rfl (fun hg77 => S_pcall rfl (AEvs.cons (AEv.cond (AEv.tmp rfl) (by first | assumption | exact gdAnd (by assumption) (by assumption))) (AEvs.cons (AEv.cond (AEv.tmp rfl) (by first | assumption | exact gdAnd (by assumption) (by assumption))) AEvs.nil)) (res_Fits_ok (sumR (0, 0, 0) (l.take kk)).1 (sumR (0, 0, 0) l).1 (sumR_fits _ _ (by decide)) (sumR_fits _ _ (by decide)))) ?_
          refine AL_p rfl rfl (S_and rfl (AEv.tmp rfl) (fun hp80 => (AEv.cond (AEv.tmp rfl) (by first | assumption | exact gdT hp80 | exact gdF hp80 | exact gdAnd (by assumption) (gdT hp80) | exact gdAnd (by assumption) (gdF hp80))))) ?_
          refine AL_p rfl rfl (S_assign rfl (AEv.tmp rfl)) ?_
          refine AL_nil ?_
          refine AC_ret ?_
          refine ret_tmp st rfl rfl (List.Sublist.cons _ (List.Sublist.cons _ (List.Sublist.cons _ (List.Sublist.cons _ (List.Sublist.cons _ (List.Sublist.cons _ (by first | exact List.Sublist.refl _ | exact List.sublist_append_right _ _))))))) (Conv.refl (List.Sublist.cons _ (List.Sublist.cons _ (List.Sublist.cons _ (List.Sublist.cons _ (List.Sublist.cons _ (List.Sublist.cons _ (by first | exact List.Sublist.refl _ | exact List.sublist_append_right _ _))))))) _) ⟨by rw [f1, f2, f3, f4]; simp [f5, f6, f7], rfl⟩ (.inl rfl)

end Go.Proofs.Ytnjlecejhnoicaa
