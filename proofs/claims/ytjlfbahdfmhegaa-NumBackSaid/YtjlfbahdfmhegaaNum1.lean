/-
The walks of Go functions in the logic AL: what each of them answers.
Conditions: those of each theorem.
-/
import Derived.Test.YtjlfbahdfmhegaaProg
import Derived.Test.YtjlfbahdfmhegaaNumLem
set_option linter.unusedVariables false
set_option linter.unusedSimpArgs false
namespace Go.Proofs.Ytjlfbahdfmhegaa
open Go.AL Go.NumSpec

set_option maxRecDepth 100000 in
/-- provost/num.Add -/
theorem num_Add_ok (a b : Int) (ha : fits a) (hb : fits b) : PCalls Try.prog 9 [.int .i64 a, .int .i64 b] (okAV (addV a b)) := by
  intro st
  refine ACalls_of (N := 27) Try.func9 (by kernel_rfl) rfl rfl rfl ?_
  have hw := i64w (a + b)
  unfold fits at ha hb
  refine AC_seq ?_
  refine AC_region ?_
  refine AL_p rfl rfl (S_assign rfl (AEv.const _)) ?_
  refine AL_p rfl rfl (S_assign rfl (AEv.const _)) ?_
  refine AL_nil ?_
  refine AC_seq ?_
  refine AC_region ?_
  refine AL_p rfl rfl (S_move rfl (AEv.tmp rfl)) ?_
  refine AL_p rfl rfl (S_move rfl (AEv.tmp rfl)) ?_
  refine AL_p rfl rfl (S_add rfl (AEv.tmp rfl) (AEv.tmp rfl)) ?_
  refine AL_p rfl rfl (S_assign rfl (AEv.tmp rfl)) ?_
  refine AL_nil ?_
  refine AC_seq ?_
  refine AC_seq ?_
  refine AC_region ?_
  refine AL_p rfl rfl (S_move rfl (AEv.tmp rfl)) ?_
  refine AL_p rfl rfl (S_gtr rfl (AEv.tmp rfl) (AEv.const _)) ?_
  refine AL_p rfl rfl (S_move rfl (AEv.tmp rfl)) ?_
  refine AL_g rfl rfl (AEv.tmp rfl) rfl (fun hg1 => S_move rfl (AEv.tmp rfl)) ?_
  refine AL_g rfl rfl (AEv.tmp rfl) rfl (fun hg4 => S_move rfl (AEv.tmp rfl)) ?_
  refine AL_g rfl rfl (AEv.tmp rfl) rfl (fun hg7 => S_lss rfl (AEv.cond (AEv.tmp rfl) (by first | assumption | exact gdAnd (by assumption) (by assumption))) (AEv.cond (AEv.tmp rfl) (by first | assumption | exact gdAnd (by assumption) (by assumption)))) ?_
  refine AL_p rfl rfl (S_and rfl (AEv.tmp rfl) (fun hp10 => (AEv.cond (AEv.tmp rfl) (by first | assumption | exact gdT hp10 | exact gdF hp10 | exact gdAnd (by assumption) (gdT hp10) | exact gdAnd (by assumption) (gdF hp10))))) ?_
  refine AL_p rfl rfl (S_move rfl (AEv.tmp rfl)) ?_
  refine AL_g rfl rfl (AEv.tmp rfl) rfl (fun hg11 => S_move rfl (AEv.tmp rfl)) ?_
  refine AL_g rfl rfl (AEv.tmp rfl) rfl (fun hg14 => S_lss rfl (AEv.cond (AEv.tmp rfl) (by first | assumption | exact gdAnd (by assumption) (by assumption))) (AEv.const _)) ?_
  refine AL_g rfl rfl (AEv.tmp rfl) rfl (fun hg17 => S_move rfl (AEv.cond (AEv.tmp rfl) (by first | assumption | exact gdAnd (by assumption) (by assumption)))) ?_
  refine AL_gg rfl rfl (AEv.tmp rfl) rfl (fun hg20 hg21 hg22 => S_move rfl (AEv.tmp rfl)) ?_
  refine AL_gg rfl rfl (AEv.tmp rfl) rfl (fun hg23 hg24 hg25 => S_move rfl (AEv.tmp rfl)) ?_
  refine AL_gg rfl rfl (AEv.tmp rfl) rfl (fun hg26 hg27 hg28 => S_gtr rfl (AEv.cond (AEv.tmp rfl) (by first | assumption | exact gdAnd (by assumption) (by assumption))) (AEv.cond (AEv.tmp rfl) (by first | assumption | exact gdAnd (by assumption) (by assumption)))) ?_
  refine AL_g rfl rfl (AEv.tmp rfl) rfl (fun hg29 => S_and rfl (AEv.cond (AEv.tmp rfl) (by first | assumption | exact gdAnd (by assumption) (by assumption))) (fun hp32 => (AEv.cond (AEv.tmp rfl) (by first | assumption | exact gdT hp32 | exact gdF hp32 | exact gdAnd (by assumption) (gdT hp32) | exact gdAnd (by assumption) (gdF hp32))))) ?_
  refine AL_p rfl rfl (S_or rfl (AEv.tmp rfl) (fun hp33 => (AEv.cond (AEv.tmp rfl) (by first | assumption | exact gdT hp33 | exact gdF hp33 | exact gdAnd (by assumption) (gdT hp33) | exact gdAnd (by assumption) (gdF hp33))))) ?_
  refine AL_nil ?_
  refine AC_cond (AEv.tmp rfl) (fun hb34 => ?_) (fun hb34 => ?_)
  · try simp only [Bool.and_eq_true, Bool.or_eq_true, Bool.not_eq_true', Bool.not_eq_false', Bool.and_eq_false_iff, Bool.or_eq_false_iff, decide_eq_true_eq, decide_eq_false_iff_not, gd] at hb34
    refine AC_seq ?_
    refine AC_region ?_
    refine AL_p rfl rfl (S_assign rfl (AEv.const _)) ?_
    refine AL_p rfl rfl (S_assign rfl (AEv.const _)) ?_
    refine AL_nil ?_
    refine AC_ret ?_
    refine ret_tmps (ts := [4, 5]) st rfl (by decide) rfl (List.Sublist.refl _) (Conv.refl (List.Sublist.refl _) _) ⟨add_no ha hb (by unfold fits; omega), rfl⟩ (.inl rfl)
  · try simp only [Bool.and_eq_true, Bool.or_eq_true, Bool.not_eq_true', Bool.not_eq_false', Bool.and_eq_false_iff, Bool.or_eq_false_iff, decide_eq_true_eq, decide_eq_false_iff_not, gd] at hb34
    refine AC_skip ?_
    refine AC_seq ?_
    refine AC_region ?_
    refine AL_p rfl rfl (S_move rfl (AEv.tmp rfl)) ?_
    refine AL_p rfl rfl (S_assign rfl (AEv.tmp rfl)) ?_
    refine AL_p rfl rfl (S_assign rfl (AEv.const _)) ?_
    refine AL_nil ?_
    refine AC_ret ?_
    refine ret_tmps (ts := [4, 5]) st rfl (by decide) rfl (List.Sublist.refl _) (Conv.refl (List.Sublist.refl _) _) ⟨add_yes (by unfold fits; omega), rfl⟩ (.inl rfl)

set_option maxRecDepth 100000 in
/-- provost/provostref01.Add -/
theorem ref_Add_ok (a b : Int) (ha : fits a) (hb : fits b) : PCalls Try.prog 11 [.int .i64 a, .int .i64 b] (okAV (addV a b)) := by
  intro st
  refine ACalls_of (N := 27) Try.func11 (by kernel_rfl) rfl rfl rfl ?_
  have hw1 := i64w (9223372036854775807 - b)
  have hw2 := i64w (-9223372036854775808 - b)
  unfold fits at ha hb
  refine AC_seq ?_
  refine AC_region ?_
  refine AL_p rfl rfl (S_assign rfl (AEv.const _)) ?_
  refine AL_p rfl rfl (S_assign rfl (AEv.const _)) ?_
  refine AL_nil ?_
  refine AC_seq ?_
  refine AC_seq ?_
  refine AC_region ?_
  refine AL_p rfl rfl (S_move rfl (AEv.tmp rfl)) ?_
  refine AL_p rfl rfl (S_geq rfl (AEv.tmp rfl) (AEv.const _)) ?_
  refine AL_p rfl rfl (S_move rfl (AEv.tmp rfl)) ?_
  refine AL_g rfl rfl (AEv.tmp rfl) rfl (fun hg1 => S_move rfl (AEv.tmp rfl)) ?_
  refine AL_g rfl rfl (AEv.tmp rfl) rfl (fun hg4 => S_move rfl (AEv.tmp rfl)) ?_
  refine AL_g rfl rfl (AEv.tmp rfl) rfl (fun hg7 => S_sub rfl (AEv.const _) (AEv.cond (AEv.tmp rfl) (by first | assumption | exact gdAnd (by assumption) (by assumption)))) ?_
  refine AL_g rfl rfl (AEv.tmp rfl) rfl (fun hg10 => S_gtr rfl (AEv.cond (AEv.tmp rfl) (by first | assumption | exact gdAnd (by assumption) (by assumption))) (AEv.cond (AEv.tmp rfl) (by first | assumption | exact gdAnd (by assumption) (by assumption)))) ?_
  refine AL_p rfl rfl (S_and rfl (AEv.tmp rfl) (fun hp13 => (AEv.cond (AEv.tmp rfl) (by first | assumption | exact gdT hp13 | exact gdF hp13 | exact gdAnd (by assumption) (gdT hp13) | exact gdAnd (by assumption) (gdF hp13))))) ?_
  refine AL_p rfl rfl (S_move rfl (AEv.tmp rfl)) ?_
  refine AL_g rfl rfl (AEv.tmp rfl) rfl (fun hg14 => S_move rfl (AEv.tmp rfl)) ?_
  refine AL_g rfl rfl (AEv.tmp rfl) rfl (fun hg17 => S_lss rfl (AEv.cond (AEv.tmp rfl) (by first | assumption | exact gdAnd (by assumption) (by assumption))) (AEv.const _)) ?_
  refine AL_g rfl rfl (AEv.tmp rfl) rfl (fun hg20 => S_move rfl (AEv.cond (AEv.tmp rfl) (by first | assumption | exact gdAnd (by assumption) (by assumption)))) ?_
  refine AL_gg rfl rfl (AEv.tmp rfl) rfl (fun hg23 hg24 hg25 => S_move rfl (AEv.tmp rfl)) ?_
  refine AL_gg rfl rfl (AEv.tmp rfl) rfl (fun hg26 hg27 hg28 => S_move rfl (AEv.tmp rfl)) ?_
  refine AL_gg rfl rfl (AEv.tmp rfl) rfl (fun hg29 hg30 hg31 => S_sub rfl (AEv.const _) (AEv.cond (AEv.tmp rfl) (by first | assumption | exact gdAnd (by assumption) (by assumption)))) ?_
  refine AL_gg rfl rfl (AEv.tmp rfl) rfl (fun hg32 hg33 hg34 => S_lss rfl (AEv.cond (AEv.tmp rfl) (by first | assumption | exact gdAnd (by assumption) (by assumption))) (AEv.cond (AEv.tmp rfl) (by first | assumption | exact gdAnd (by assumption) (by assumption)))) ?_
  refine AL_g rfl rfl (AEv.tmp rfl) rfl (fun hg35 => S_and rfl (AEv.cond (AEv.tmp rfl) (by first | assumption | exact gdAnd (by assumption) (by assumption))) (fun hp38 => (AEv.cond (AEv.tmp rfl) (by first | assumption | exact gdT hp38 | exact gdF hp38 | exact gdAnd (by assumption) (gdT hp38) | exact gdAnd (by assumption) (gdF hp38))))) ?_
  refine AL_p rfl rfl (S_or rfl (AEv.tmp rfl) (fun hp39 => (AEv.cond (AEv.tmp rfl) (by first | assumption | exact gdT hp39 | exact gdF hp39 | exact gdAnd (by assumption) (gdT hp39) | exact gdAnd (by assumption) (gdF hp39))))) ?_
  refine AL_nil ?_
  refine AC_cond (AEv.tmp rfl) (fun hb40 => ?_) (fun hb40 => ?_)
  · try simp only [Bool.and_eq_true, Bool.or_eq_true, Bool.not_eq_true', Bool.not_eq_false', Bool.and_eq_false_iff, Bool.or_eq_false_iff, decide_eq_true_eq, decide_eq_false_iff_not, gd] at hb40
    refine AC_seq ?_
    refine AC_region ?_
    refine AL_p rfl rfl (S_assign rfl (AEv.const _)) ?_
    refine AL_p rfl rfl (S_assign rfl (AEv.const _)) ?_
    refine AL_nil ?_
    refine AC_ret ?_
    refine ret_tmps (ts := [4, 5]) st rfl (by decide) rfl (List.Sublist.refl _) (Conv.refl (List.Sublist.refl _) _) ⟨add_no ha hb (by unfold fits; omega), rfl⟩ (.inl rfl)
  · try simp only [Bool.and_eq_true, Bool.or_eq_true, Bool.not_eq_true', Bool.not_eq_false', Bool.and_eq_false_iff, Bool.or_eq_false_iff, decide_eq_true_eq, decide_eq_false_iff_not, gd] at hb40
    refine AC_skip ?_
    refine AC_seq ?_
    refine AC_region ?_
    refine AL_p rfl rfl (S_move rfl (AEv.tmp rfl)) ?_
    refine AL_p rfl rfl (S_move rfl (AEv.tmp rfl)) ?_
    refine AL_p rfl rfl (S_add rfl (AEv.tmp rfl) (AEv.tmp rfl)) ?_
    refine AL_p rfl rfl (S_assign rfl (AEv.tmp rfl)) ?_
    refine AL_p rfl rfl (S_assign rfl (AEv.const _)) ?_
    refine AL_nil ?_
    refine AC_ret ?_
    refine ret_tmps (ts := [4, 5]) st rfl (by decide) rfl (List.Sublist.refl _) (Conv.refl (List.Sublist.refl _) _) ⟨add_yes (by unfold fits; omega), rfl⟩ (.inl rfl)

set_option maxRecDepth 100000 in
/-- provost/num.Mul -/
theorem num_Mul_ok (a b : Int) (ha : fits a) (hb : fits b) : PCalls Try.prog 10 [.int .i64 a, .int .i64 b] (okAV (mulV a b)) := by
  intro st
  refine ACalls_of (N := 36) Try.func10 (by kernel_rfl) rfl rfl rfl ?_
  refine AC_seq ?_
  refine AC_region ?_
  refine AL_p rfl rfl (S_assign rfl (AEv.const _)) ?_
  refine AL_p rfl rfl (S_assign rfl (AEv.const _)) ?_
  refine AL_nil ?_
  refine AC_seq ?_
  refine AC_seq ?_
  refine AC_region ?_
  refine AL_p rfl rfl (S_move rfl (AEv.tmp rfl)) ?_
  refine AL_p rfl rfl (S_eql rfl (AEv.tmp rfl) (AEv.const _)) ?_
  refine AL_p rfl rfl (S_move rfl (AEv.tmp rfl)) ?_
  refine AL_g rfl rfl (AEv.tmp rfl) rfl (fun hg1 => S_move rfl (AEv.tmp rfl)) ?_
  refine AL_g rfl rfl (AEv.tmp rfl) rfl (fun hg4 => S_eql rfl (AEv.cond (AEv.tmp rfl) (by first | assumption | exact gdAnd (by assumption) (by assumption))) (AEv.const _)) ?_
  refine AL_p rfl rfl (S_or rfl (AEv.tmp rfl) (fun hp7 => (AEv.cond (AEv.tmp rfl) (by first | assumption | exact gdT hp7 | exact gdF hp7 | exact gdAnd (by assumption) (gdT hp7) | exact gdAnd (by assumption) (gdF hp7))))) ?_
  refine AL_nil ?_
  refine AC_cond (AEv.tmp rfl) (fun hb8 => ?_) (fun hb8 => ?_)
  · try simp only [Bool.and_eq_true, Bool.or_eq_true, Bool.not_eq_true', Bool.not_eq_false', Bool.and_eq_false_iff, Bool.or_eq_false_iff, decide_eq_true_eq, decide_eq_false_iff_not, gd] at hb8
    refine AC_seq ?_
    refine AC_region ?_
    refine AL_p rfl rfl (S_assign rfl (AEv.const _)) ?_
    refine AL_p rfl rfl (S_assign rfl (AEv.const _)) ?_
    refine AL_nil ?_
    refine AC_ret ?_
    refine ret_tmps (ts := [4, 5]) st rfl (by decide) rfl (List.Sublist.refl _) (Conv.refl (List.Sublist.refl _) _) ⟨mul_zero (by omega), rfl⟩ (.inl rfl)
  · try simp only [Bool.and_eq_true, Bool.or_eq_true, Bool.not_eq_true', Bool.not_eq_false', Bool.and_eq_false_iff, Bool.or_eq_false_iff, decide_eq_true_eq, decide_eq_false_iff_not, gd] at hb8
    have hz : b ≠ 0 := by omega
    refine AC_skip ?_
    refine AC_seq ?_
    refine AC_seq ?_
    refine AC_region ?_
    refine AL_p rfl rfl (S_move rfl (AEv.tmp rfl)) ?_
    refine AL_p rfl rfl (S_eql rfl (AEv.tmp rfl) (AEv.const _)) ?_
    refine AL_p rfl rfl (S_move rfl (AEv.tmp rfl)) ?_
    refine AL_g rfl rfl (AEv.tmp rfl) rfl (fun hg9 => S_move rfl (AEv.tmp rfl)) ?_
    refine AL_g rfl rfl (AEv.tmp rfl) rfl (fun hg12 => S_eql rfl (AEv.cond (AEv.tmp rfl) (by first | assumption | exact gdAnd (by assumption) (by assumption))) (AEv.const _)) ?_
    refine AL_p rfl rfl (S_and rfl (AEv.tmp rfl) (fun hp15 => (AEv.cond (AEv.tmp rfl) (by first | assumption | exact gdT hp15 | exact gdF hp15 | exact gdAnd (by assumption) (gdT hp15) | exact gdAnd (by assumption) (gdF hp15))))) ?_
    refine AL_p rfl rfl (S_move rfl (AEv.tmp rfl)) ?_
    refine AL_g rfl rfl (AEv.tmp rfl) rfl (fun hg16 => S_move rfl (AEv.tmp rfl)) ?_
    refine AL_g rfl rfl (AEv.tmp rfl) rfl (fun hg19 => S_eql rfl (AEv.cond (AEv.tmp rfl) (by first | assumption | exact gdAnd (by assumption) (by assumption))) (AEv.const _)) ?_
    refine AL_g rfl rfl (AEv.tmp rfl) rfl (fun hg22 => S_move rfl (AEv.cond (AEv.tmp rfl) (by first | assumption | exact gdAnd (by assumption) (by assumption)))) ?_
    refine AL_gg rfl rfl (AEv.tmp rfl) rfl (fun hg25 hg26 hg27 => S_move rfl (AEv.tmp rfl)) ?_
    refine AL_gg rfl rfl (AEv.tmp rfl) rfl (fun hg28 hg29 hg30 => S_eql rfl (AEv.cond (AEv.tmp rfl) (by first | assumption | exact gdAnd (by assumption) (by assumption))) (AEv.const _)) ?_
    refine AL_g rfl rfl (AEv.tmp rfl) rfl (fun hg31 => S_and rfl (AEv.cond (AEv.tmp rfl) (by first | assumption | exact gdAnd (by assumption) (by assumption))) (fun hp34 => (AEv.cond (AEv.tmp rfl) (by first | assumption | exact gdT hp34 | exact gdF hp34 | exact gdAnd (by assumption) (gdT hp34) | exact gdAnd (by assumption) (gdF hp34))))) ?_
    refine AL_p rfl rfl (S_or rfl (AEv.tmp rfl) (fun hp35 => (AEv.cond (AEv.tmp rfl) (by first | assumption | exact gdT hp35 | exact gdF hp35 | exact gdAnd (by assumption) (gdT hp35) | exact gdAnd (by assumption) (gdF hp35))))) ?_
    refine AL_nil ?_
    refine AC_cond (AEv.tmp rfl) (fun hb36 => ?_) (fun hb36 => ?_)
    · try simp only [Bool.and_eq_true, Bool.or_eq_true, Bool.not_eq_true', Bool.not_eq_false', Bool.and_eq_false_iff, Bool.or_eq_false_iff, decide_eq_true_eq, decide_eq_false_iff_not, gd] at hb36
      have hne : ¬ fits (a * b) := by
        rintro ⟨_, h2⟩
        rcases hb36 with ⟨rfl, rfl⟩ | ⟨rfl, rfl⟩ <;> omega
      refine AC_seq ?_
      refine AC_region ?_
      refine AL_p rfl rfl (S_assign rfl (AEv.const _)) ?_
      refine AL_p rfl rfl (S_assign rfl (AEv.const _)) ?_
      refine AL_nil ?_
      refine AC_ret ?_
      refine ret_tmps (ts := [4, 5]) st rfl (by decide) rfl (List.Sublist.refl _) (Conv.refl (List.Sublist.refl _) _) ⟨mul_no hne, rfl⟩ (.inl rfl)
    · try simp only [Bool.and_eq_true, Bool.or_eq_true, Bool.not_eq_true', Bool.not_eq_false', Bool.and_eq_false_iff, Bool.or_eq_false_iff, decide_eq_true_eq, decide_eq_false_iff_not, gd] at hb36
      have hk := mul_test ha hb hz (by omega)
      refine AC_skip ?_
      refine AC_seq ?_
      refine AC_region ?_
      refine AL_p rfl rfl (S_move rfl (AEv.tmp rfl)) ?_
      refine AL_p rfl rfl (S_move rfl (AEv.tmp rfl)) ?_
      refine AL_p rfl rfl (S_mul rfl (AEv.tmp rfl) (AEv.tmp rfl)) ?_
      refine AL_p rfl rfl (S_assign rfl (AEv.tmp rfl)) ?_
      refine AL_nil ?_
      refine AC_seq ?_
      refine AC_seq ?_
      refine AC_region ?_
      refine AL_p rfl rfl (S_move rfl (AEv.tmp rfl)) ?_
      refine AL_p rfl rfl (S_move rfl (AEv.tmp rfl)) ?_
      refine AL_p rfl rfl (S_quo rfl (AEv.tmp rfl) (AEv.tmp rfl) (by omega)) ?_
      refine AL_p rfl rfl (S_move rfl (AEv.tmp rfl)) ?_
      refine AL_p rfl rfl (S_neq rfl (AEv.tmp rfl) (AEv.tmp rfl)) ?_
      refine AL_nil ?_
      refine AC_cond (AEv.tmp rfl) (fun hb37 => ?_) (fun hb37 => ?_)
      · try simp only [Bool.and_eq_true, Bool.or_eq_true, Bool.not_eq_true', Bool.not_eq_false', Bool.and_eq_false_iff, Bool.or_eq_false_iff, decide_eq_true_eq, decide_eq_false_iff_not, gd] at hb37
        refine AC_seq ?_
        refine AC_region ?_
        refine AL_p rfl rfl (S_assign rfl (AEv.const _)) ?_
        refine AL_p rfl rfl (S_assign rfl (AEv.const _)) ?_
        refine AL_nil ?_
        refine AC_ret ?_
        refine ret_tmps (ts := [4, 5]) st rfl (by decide) rfl (List.Sublist.refl _) (Conv.refl (List.Sublist.refl _) _) ⟨mul_no (by rw [← hk]; assumption), rfl⟩ (.inl rfl)
      · try simp only [Bool.and_eq_true, Bool.or_eq_true, Bool.not_eq_true', Bool.not_eq_false', Bool.and_eq_false_iff, Bool.or_eq_false_iff, decide_eq_true_eq, decide_eq_false_iff_not, gd] at hb37
        refine AC_skip ?_
        refine AC_seq ?_
        refine AC_region ?_
        refine AL_p rfl rfl (S_move rfl (AEv.tmp rfl)) ?_
        refine AL_p rfl rfl (S_assign rfl (AEv.tmp rfl)) ?_
        refine AL_p rfl rfl (S_assign rfl (AEv.const _)) ?_
        refine AL_nil ?_
        refine AC_ret ?_
        refine ret_tmps (ts := [4, 5]) st rfl (by decide) rfl (List.Sublist.refl _) (Conv.refl (List.Sublist.refl _) _) ⟨mul_yes (by rw [← hk]; assumption), rfl⟩ (.inl rfl)

set_option maxRecDepth 100000 in
/-- provost/provostref01.size -/
theorem ref_size_ok (a : Int) (ha : fits a) : PCalls Try.prog 22 [.int .i64 a] (.int .u64 (a.natAbs : Int)) := by
  intro st
  refine ACalls_of (N := 10) Try.func22 (by kernel_rfl) rfl rfl rfl ?_
  have hw1 := u64w a
  have hw2 := u64w (0 - IntKind.u64.wrap a)
  unfold fits at ha
  refine AC_seq ?_
  refine AC_region ?_
  refine AL_p rfl rfl (S_assign rfl (AEv.const _)) ?_
  refine AL_nil ?_
  refine AC_seq ?_
  refine AC_seq ?_
  refine AC_region ?_
  refine AL_p rfl rfl (S_move rfl (AEv.tmp rfl)) ?_
  refine AL_p rfl rfl (S_lss rfl (AEv.tmp rfl) (AEv.const _)) ?_
  refine AL_nil ?_
  refine AC_cond (AEv.tmp rfl) (fun hb1 => ?_) (fun hb1 => ?_)
  · try simp only [Bool.and_eq_true, Bool.or_eq_true, Bool.not_eq_true', Bool.not_eq_false', Bool.and_eq_false_iff, Bool.or_eq_false_iff, decide_eq_true_eq, decide_eq_false_iff_not, gd] at hb1
    refine AC_seq ?_
    refine AC_region ?_
    refine AL_p rfl rfl (S_move rfl (AEv.tmp rfl)) ?_
    refine AL_p rfl rfl (S_conv (k' := .u64) rfl (AEv.tmp rfl) (by kernel_rfl) (by kernel_rfl)) ?_
    refine AL_p rfl rfl (S_sub rfl (AEv.const _) (AEv.tmp rfl)) ?_
    refine AL_p rfl rfl (S_assign rfl (AEv.tmp rfl)) ?_
    refine AL_nil ?_
    refine AC_ret ?_
    refine ret_tmp st rfl rfl (List.Sublist.refl _) (Conv.refl (List.Sublist.refl _) _) ⟨by rw [show IntKind.u64.wrap _ = (a.natAbs : Int) by omega], rfl⟩ (.inl rfl)
  · try simp only [Bool.and_eq_true, Bool.or_eq_true, Bool.not_eq_true', Bool.not_eq_false', Bool.and_eq_false_iff, Bool.or_eq_false_iff, decide_eq_true_eq, decide_eq_false_iff_not, gd] at hb1
    refine AC_skip ?_
    refine AC_seq ?_
    refine AC_region ?_
    refine AL_p rfl rfl (S_move rfl (AEv.tmp rfl)) ?_
    refine AL_p rfl rfl (S_conv (k' := .u64) rfl (AEv.tmp rfl) (by kernel_rfl) (by kernel_rfl)) ?_
    refine AL_p rfl rfl (S_assign rfl (AEv.tmp rfl)) ?_
    refine AL_nil ?_
    refine AC_ret ?_
    refine ret_tmp st rfl rfl (List.Sublist.refl _) (Conv.refl (List.Sublist.refl _) _) ⟨by rw [show IntKind.u64.wrap _ = (a.natAbs : Int) by omega], rfl⟩ (.inl rfl)

set_option maxRecDepth 100000 in
/-- provost/provostref01.Mul -/
theorem ref_Mul_ok (a b : Int) (ha : fits a) (hb : fits b) : PCalls Try.prog 12 [.int .i64 a, .int .i64 b] (okAV (mulV a b)) := by
  intro st
  refine ACalls_of (N := 32) Try.func12 (by kernel_rfl) rfl rfl rfl ?_
  refine AC_seq ?_
  refine AC_region ?_
  refine AL_p rfl rfl (S_assign rfl (AEv.const _)) ?_
  refine AL_p rfl rfl (S_assign rfl (AEv.const _)) ?_
  refine AL_nil ?_
  refine AC_seq ?_
  refine AC_region ?_
  refine AL_p rfl rfl (S_move rfl (AEv.tmp rfl)) ?_
  refine AL_p rfl rfl (S_pcall rfl (AEvs.cons (AEv.tmp rfl) AEvs.nil) (ref_size_ok _ (by first | assumption | decide))) ?_
  refine AL_p rfl rfl (S_assign rfl (AEv.tmp rfl)) ?_
  refine AL_nil ?_
  refine AC_seq ?_
  refine AC_region ?_
  refine AL_p rfl rfl (S_move rfl (AEv.tmp rfl)) ?_
  refine AL_p rfl rfl (S_pcall rfl (AEvs.cons (AEv.tmp rfl) AEvs.nil) (ref_size_ok _ (by first | assumption | decide))) ?_
  refine AL_p rfl rfl (S_assign rfl (AEv.tmp rfl)) ?_
  refine AL_nil ?_
  refine AC_seq ?_
  refine AC_region ?_
  refine AL_p rfl rfl (S_assign rfl (AEv.const _)) ?_
  refine AL_nil ?_
  refine AC_join (G := Nat) (fun M => M = if (a < 0) ↔ (b < 0) then 9223372036854775807 else 9223372036854775808) (fun M => [(0, .int .i64 a), (1, .int .i64 b), (6, .int .u64 (a.natAbs : Int)), (7, .int .u64 (b.natAbs : Int)), (8, .int .u64 (M : Int))]) (fun M => st) ?_ ?_
  · refine AC_seq ?_
    refine AC_region ?_
    refine AL_p rfl rfl (S_move rfl (AEv.tmp rfl)) ?_
    refine AL_p rfl rfl (S_lss rfl (AEv.tmp rfl) (AEv.const _)) ?_
    refine AL_p rfl rfl (S_move rfl (AEv.tmp rfl)) ?_
    refine AL_p rfl rfl (S_lss rfl (AEv.tmp rfl) (AEv.const _)) ?_
    refine AL_p rfl rfl (S_neB rfl (AEv.tmp rfl) (AEv.tmp rfl) (by kernel_rfl)) ?_
    refine AL_nil ?_
    refine AC_cond (AEv.tmp rfl) (fun hb1 => ?_) (fun hb1 => ?_)
    · try simp only [Bool.and_eq_true, Bool.or_eq_true, Bool.not_eq_true', Bool.not_eq_false', Bool.and_eq_false_iff, Bool.or_eq_false_iff, decide_eq_true_eq, decide_eq_false_iff_not, gd] at hb1
      refine AC_region ?_
      refine AL_p rfl rfl (S_move rfl (AEv.tmp rfl)) ?_
      refine AL_p rfl rfl (S_add rfl (AEv.tmp rfl) (AEv.const _)) ?_
      refine AL_p rfl rfl (S_assign rfl (AEv.tmp rfl)) ?_
      refine AL_nil ?_
      refine ⟨9223372036854775808, (by simp only [bne_iff_ne, ne_eq, decide_eq_decide] at *; rw [if_neg (by assumption)]), rfl, .cons rfl (Le.refl _) (.cons rfl (Le.refl _) (.cons rfl (Le.refl _) (.cons rfl (Le.refl _) (.cons rfl (Le.of_eq (by rw [u64w]; rfl)) .nil))))⟩
    · try simp only [Bool.and_eq_true, Bool.or_eq_true, Bool.not_eq_true', Bool.not_eq_false', Bool.and_eq_false_iff, Bool.or_eq_false_iff, decide_eq_true_eq, decide_eq_false_iff_not, gd] at hb1
      refine AC_skip ?_
      refine ⟨9223372036854775807, (by simp only [bne_eq_false_iff_eq, decide_eq_decide] at *; rw [if_pos (by assumption)]), rfl, .cons rfl (Le.refl _) (.cons rfl (Le.refl _) (.cons rfl (Le.refl _) (.cons rfl (Le.refl _) (.cons rfl (Le.refl _) .nil))))⟩
  · rintro M hM
    try dsimp only
    have hk := natAbs_mul_fits ha hb a.natAbs b.natAbs M rfl rfl hM
    rw [← div_test] at hk
    have hM2 : M ≤ 18446744073709551615 := by rw [hM]; split <;> omega
    refine AC_seq ?_
    refine AC_seq ?_
    refine AC_region ?_
    refine AL_p rfl rfl (S_move rfl (AEv.tmp rfl)) ?_
    refine AL_p rfl rfl (S_gtr rfl (AEv.tmp rfl) (AEv.const _)) ?_
    refine AL_p rfl rfl (S_move rfl (AEv.tmp rfl)) ?_
    refine AL_g rfl rfl (AEv.tmp rfl) rfl (fun hg2 => S_move rfl (AEv.tmp rfl)) ?_
    refine AL_g rfl rfl (AEv.tmp rfl) rfl (fun hg5 => S_move rfl (AEv.tmp rfl)) ?_
    refine AL_g rfl rfl (AEv.tmp rfl) rfl (fun hg8 => S_move rfl (AEv.tmp rfl)) ?_
    refine AL_g rfl rfl (AEv.tmp rfl) rfl (fun hg11 => S_quoN (.inl rfl) rfl (AEv.cond (AEv.tmp rfl) (by first | assumption | exact gdAnd (by assumption) (by assumption))) (AEv.cond (AEv.tmp rfl) (by first | assumption | exact gdAnd (by assumption) (by assumption))) (by (try simp only [gd, Bool.and_eq_true, Bool.or_eq_true, Bool.not_eq_true', Bool.not_eq_false', decide_eq_true_eq, decide_eq_false_iff_not, Bool.or_eq_false_iff, Bool.and_eq_false_iff] at *); omega) (.inr ⟨rfl, hM2⟩)) ?_
    refine AL_g rfl rfl (AEv.tmp rfl) rfl (fun hg14 => S_gtr rfl (AEv.cond (AEv.tmp rfl) (by first | assumption | exact gdAnd (by assumption) (by assumption))) (AEv.cond (AEv.tmp rfl) (by first | assumption | exact gdAnd (by assumption) (by assumption)))) ?_
    refine AL_p rfl rfl (S_and rfl (AEv.tmp rfl) (fun hp17 => (AEv.cond (AEv.tmp rfl) (by first | assumption | exact gdT hp17 | exact gdF hp17 | exact gdAnd (by assumption) (gdT hp17) | exact gdAnd (by assumption) (gdF hp17))))) ?_
    refine AL_nil ?_
    refine AC_cond (AEv.tmp rfl) (fun hb18 => ?_) (fun hb18 => ?_)
    · try simp only [Bool.and_eq_true, Bool.or_eq_true, Bool.not_eq_true', Bool.not_eq_false', Bool.and_eq_false_iff, Bool.or_eq_false_iff, decide_eq_true_eq, decide_eq_false_iff_not, gd] at hb18
      have hne : ¬ fits (a * b) := fun h => hk.1 h (by omega)
      refine AC_seq ?_
      refine AC_region ?_
      refine AL_p rfl rfl (S_assign rfl (AEv.const _)) ?_
      refine AL_p rfl rfl (S_assign rfl (AEv.const _)) ?_
      refine AL_nil ?_
      refine AC_ret ?_
      refine ret_tmps (ts := [4, 5]) st rfl (by decide) rfl (List.Sublist.refl _) (Conv.refl (List.Sublist.refl _) _) ⟨mul_no hne, rfl⟩ (.inl rfl)
    · try simp only [Bool.and_eq_true, Bool.or_eq_true, Bool.not_eq_true', Bool.not_eq_false', Bool.and_eq_false_iff, Bool.or_eq_false_iff, decide_eq_true_eq, decide_eq_false_iff_not, gd] at hb18
      have hye : fits (a * b) := hk.2 (by omega)
      refine AC_skip ?_
      refine AC_seq ?_
      refine AC_region ?_
      refine AL_p rfl rfl (S_move rfl (AEv.tmp rfl)) ?_
      refine AL_p rfl rfl (S_move rfl (AEv.tmp rfl)) ?_
      refine AL_p rfl rfl (S_mul rfl (AEv.tmp rfl) (AEv.tmp rfl)) ?_
      refine AL_p rfl rfl (S_assign rfl (AEv.tmp rfl)) ?_
      refine AL_p rfl rfl (S_assign rfl (AEv.const _)) ?_
      refine AL_nil ?_
      refine AC_ret ?_
      refine ret_tmps (ts := [4, 5]) st rfl (by decide) rfl (List.Sublist.refl _) (Conv.refl (List.Sublist.refl _) _) ⟨mul_yes hye, rfl⟩ (.inl rfl)

set_option maxRecDepth 100000 in
/-- provost/num.Put -/
theorem num_Put_ok (n : Nat) (h : n < 18446744073709551616) : PCalls Try.prog 16 [.int .u64 n] (.S (putL n)) := by
  intro st
  refine ACalls_of (N := 25) Try.func16 (by kernel_rfl) rfl rfl rfl ?_
  refine AC_seq ?_
  refine AC_region ?_
  refine AL_p rfl rfl (S_assign rfl (AEv.S _)) ?_
  refine AL_nil ?_
  refine AC_seq ?_
  refine AC_region ?_
  refine AL_step rfl rfl (S_alloc (List.replicate 10 (.int .u8 0)) rfl (by kernel_rfl)) ?_
  rintro _ _ ⟨b1, rfl, rfl⟩
  refine AL_nil ?_
  refine AC_seq ?_
  refine AC_region ?_
  refine AL_p rfl rfl (S_assign rfl (AEv.const _)) ?_
  refine AL_nil ?_
  refine AC_seq ?_
  refine AC_block ?_
  refine AC_loop (G := Nat × List UInt8) (PutInv n) (fun g => [(0, .int .u64 g.1), (3, .ptr b1 0), (4, .int .i64 g.2.length)]) (fun g => (b1, .cells (pad g.2 10)) :: st) (fun g => g.1) ((n, [])) (⟨rfl, by simpa using h, by simp⟩) rfl ?_ ?_
  · exact (.cons rfl (by first | exact Le.refl _ | exact Le.nils | exact Le.row _ _ _ | (exact Le.of_eq (by simp))) (.cons rfl (by first | exact Le.refl _ | exact Le.nils | exact Le.row _ _ _ | (exact Le.of_eq (by simp))) (.cons rfl (by first | exact Le.refl _ | exact Le.nils | exact Le.row _ _ _ | (exact Le.of_eq (by simp))) .nil)))
  · rintro ⟨m, l⟩ hI
    try dsimp only
    have h3 := hI.le
    have h2 := hI.lt
    dsimp only at h3 h2
    refine AC_seq ?_
    refine AC_seq ?_
    refine AC_region ?_
    refine AL_p rfl rfl (S_move rfl (AEv.tmp rfl)) ?_
    refine AL_p rfl rfl (S_geq rfl (AEv.tmp rfl) (AEv.const _)) ?_
    refine AL_nil ?_
    refine AC_cond (AEv.tmp rfl) (fun hb2 => ?_) (fun hb2 => ?_)
    · try simp only [Bool.and_eq_true, Bool.or_eq_true, Bool.not_eq_true', Bool.not_eq_false', Bool.and_eq_false_iff, Bool.or_eq_false_iff, decide_eq_true_eq, decide_eq_false_iff_not, gd] at hb2
      have hm : 128 ≤ m := by omega
      have hI' := put_next hI hm
      have h5 := hI'.le
      simp only [List.length_append, List.length_cons, List.length_nil] at h5
      have hN : m ≤ 18446744073709551615 := by
        have h6 : m * 1 ≤ m * 128 ^ l.length := Nat.mul_le_mul_left m (pow128 _)
        omega
      refine AC_skip ?_
      refine AC_seq ?_
      refine AC_block ?_
      refine AC_seq ?_
      refine AC_region ?_
      refine AL_p rfl rfl (S_move rfl (AEv.tmp rfl)) ?_
      refine AL_p rfl rfl (S_move rfl (AEv.tmp rfl)) ?_
      refine AL_p rfl rfl (S_remN (n := 128) rfl (AEv.tmp rfl) (AEv.const _) (by omega)) ?_
      refine AL_p rfl rfl (S_conv (k' := .u8) rfl (AEv.tmp rfl) (by kernel_rfl) (by kernel_rfl)) ?_
      refine AL_p rfl rfl (S_add rfl (AEv.tmp rfl) (AEv.const _)) ?_
      refine AL_p rfl rfl (S_elemA (e := 5) (len := 10) 1 rfl (AEv.tmp rfl) (AEv.tmp rfl) (by kernel_rfl) (by kernel_rfl) (by omega) (by omega)) ?_
      refine AL_step rfl rfl (S_store 0 rfl (AEv.tmp rfl) (AEv.tmp rfl) rfl (by rw [pad_len (by omega)]; omega) rfl (by kernel_rfl)) ?_
      rintro _ _ ⟨rfl, rfl⟩
      refine AL_nil ?_
      refine AC_region ?_
      refine AL_p rfl rfl (S_move rfl (AEv.tmp rfl)) ?_
      refine AL_p rfl rfl (S_quoN (n := 128) (.inl rfl) rfl (AEv.tmp rfl) (AEv.const _) (by omega) (.inr ⟨rfl, hN⟩)) ?_
      refine AL_p rfl rfl (S_assign rfl (AEv.tmp rfl)) ?_
      refine AL_nil ?_
      refine AC_region ?_
      refine AL_p rfl rfl (S_move rfl (AEv.tmp rfl)) ?_
      refine AL_p rfl rfl (S_addI rfl (AEv.tmp rfl) (AEv.const _) (by omega) (by omega)) ?_
      refine AL_p rfl rfl (S_assign rfl (AEv.tmp rfl)) ?_
      refine AL_nil ?_
      refine ⟨_, hI', by show m / 128 < m; omega, ?_, (.cons rfl (by first | exact Le.refl _ | exact Le.nils | exact Le.row _ _ _ | (exact Le.of_eq (by simp))) (.cons rfl (by first | exact Le.refl _ | exact Le.nils | exact Le.row _ _ _ | (exact Le.of_eq (by simp))) (.cons rfl (by first | exact Le.refl _ | exact Le.nils | exact Le.row _ _ _ | (exact Le.of_eq (by simp))) .nil)))⟩
      show (b1, Ob.cells _) :: st = _
      rw [pad_set (c := UInt8.ofNat (m % 128 + 128)) (by rw [wrap_u8 (n := ((m % 128 : Nat) : Int)) (by omega) (by omega), wrap_u8 (by omega) (by omega)]; simp; omega) h3]
    · try simp only [Bool.and_eq_true, Bool.or_eq_true, Bool.not_eq_true', Bool.not_eq_false', Bool.and_eq_false_iff, Bool.or_eq_false_iff, decide_eq_true_eq, decide_eq_false_iff_not, gd] at hb2
      have hm : m < 128 := by omega
      refine AC_exit ?_
      refine AC_seq ?_
      refine AC_region ?_
      refine AL_p rfl rfl (S_move rfl (AEv.tmp rfl)) ?_
      refine AL_p rfl rfl (S_move rfl (AEv.tmp rfl)) ?_
      refine AL_p rfl rfl (S_conv (k' := .u8) rfl (AEv.tmp rfl) (by kernel_rfl) (by kernel_rfl)) ?_
      refine AL_p rfl rfl (S_elemA (e := 5) (len := 10) 1 rfl (AEv.tmp rfl) (AEv.tmp rfl) (by kernel_rfl) (by kernel_rfl) (by omega) (by omega)) ?_
      refine AL_step rfl rfl (S_store 0 rfl (AEv.tmp rfl) (AEv.tmp rfl) rfl (by rw [pad_len (by omega)]; omega) rfl (by kernel_rfl)) ?_
      rintro _ _ ⟨rfl, rfl⟩
      refine AL_nil ?_
      refine AC_seq ?_
      refine AC_region ?_
      rw [pad_set (c := UInt8.ofNat m) (by rw [wrap_u8 (by omega) (by omega)]; simp; omega) h3]
      refine AL_p rfl rfl (S_move rfl (AEv.tmp rfl)) ?_
      refine AL_p rfl rfl (S_addI rfl (AEv.tmp rfl) (AEv.const _) (by omega) (by omega)) ?_
      refine AL_p rfl rfl (S_cutA (e := 5) (len := 10) (i := 0) (j := l.length + 1) 1 rfl (AEv.tmp rfl) rfl ⟨_, AEv.tmp rfl⟩ (by kernel_rfl) (by kernel_rfl) (by omega) (by omega) (by omega)) ?_
      refine AL_p rfl rfl (S_bytes (e := 5) (l := l ++ [UInt8.ofNat m]) 0 rfl (AEv.tmp rfl) rfl (by rw [← pad_take (l := l ++ [UInt8.ofNat m])]; simp) (by simp) (by kernel_rfl) (by kernel_rfl) (by kernel_rfl)) ?_
      refine AL_p rfl rfl (S_assign rfl (AEv.tmp rfl)) ?_
      refine AL_nil ?_
      refine AC_ret ?_
      refine ret_tmp st rfl rfl (List.Sublist.cons _ (List.Sublist.refl _)) (Conv.refl (List.Sublist.cons _ (List.Sublist.refl _)) _) ⟨by rw [← hI.eq]; dsimp only; rw [putL, if_pos hm], rfl⟩ (.inl rfl)

set_option maxRecDepth 100000 in
/-- provost/provostref01.Put -/
theorem ref_Put_ok (n : Nat) (h : n < 18446744073709551616) : PCalls Try.prog 17 [.int .u64 n] (.S (putL n)) := by
  revert h
  induction n using Nat.strongRecOn with
  | _ n ih =>
    intro h
    intro st
    refine ACalls_of (N := 19) Try.func17 (by kernel_rfl) rfl rfl rfl ?_
    refine AC_seq ?_
    refine AC_region ?_
    refine AL_p rfl rfl (S_assign rfl (AEv.S _)) ?_
    refine AL_nil ?_
    refine AC_seq ?_
    refine AC_seq ?_
    refine AC_region ?_
    refine AL_p rfl rfl (S_move rfl (AEv.tmp rfl)) ?_
    refine AL_p rfl rfl (S_lss rfl (AEv.tmp rfl) (AEv.const _)) ?_
    refine AL_nil ?_
    refine AC_cond (AEv.tmp rfl) (fun hb1 => ?_) (fun hb1 => ?_)
    · try simp only [Bool.and_eq_true, Bool.or_eq_true, Bool.not_eq_true', Bool.not_eq_false', Bool.and_eq_false_iff, Bool.or_eq_false_iff, decide_eq_true_eq, decide_eq_false_iff_not, gd] at hb1
      refine AC_seq ?_
      refine AC_region ?_
      refine AL_p rfl rfl (S_move rfl (AEv.tmp rfl)) ?_
      refine AL_p rfl rfl (S_conv (k' := .u8) rfl (AEv.tmp rfl) (by kernel_rfl) (by kernel_rfl)) ?_
      refine AL_p rfl rfl (S_buildSlice (e := 5) 1 rfl (AEvs.cons (AEv.tmp rfl) AEvs.nil) rfl (by kernel_rfl) (by kernel_rfl) (by simp [AV.flat, AV.one, AV.cells, Value.oneCell']) (by decide) (by decide) (by decide)) ?_
      refine AL_p rfl rfl (S_bytesSl (e := 5) [UInt8.ofNat n] rfl (AEv.tmp rfl) (by simp [bytesAV]; rw [wrap_u8 (by omega) (by omega)]; omega) (by kernel_rfl) (by kernel_rfl) (by kernel_rfl)) ?_
      refine AL_p rfl rfl (S_assign rfl (AEv.tmp rfl)) ?_
      refine AL_nil ?_
      refine AC_ret ?_
      refine ret_tmp st rfl rfl (List.Sublist.refl _) (Conv.refl (List.Sublist.refl _) _) ⟨by rw [putL_small (by omega)], rfl⟩ (.inl rfl)
    · try simp only [Bool.and_eq_true, Bool.or_eq_true, Bool.not_eq_true', Bool.not_eq_false', Bool.and_eq_false_iff, Bool.or_eq_false_iff, decide_eq_true_eq, decide_eq_false_iff_not, gd] at hb1
      refine AC_skip ?_
      refine AC_seq ?_
      refine AC_draw (by kernel_rfl) (by kernel_rfl) (.cons rfl (Q_p rfl (S_move rfl (AEv.tmp rfl))) <|
          .cons rfl (Q_p rfl (S_remN (n := 128) rfl (AEv.tmp rfl) (AEv.const _) (by omega))) <|
          .cons rfl (Q_p rfl (S_add rfl (AEv.tmp rfl) (AEv.const _))) <|
          .cons rfl (Q_p rfl (S_conv (k' := .u8) rfl (AEv.tmp rfl) (by kernel_rfl) (by kernel_rfl))) <|
          .cons rfl (Q_p rfl (S_buildSlice (e := 5) 1 rfl (AEvs.cons (AEv.tmp rfl) AEvs.nil) rfl (by kernel_rfl) (by kernel_rfl) (by simp [AV.flat, AV.one, AV.cells, Value.oneCell']) (by decide) (by decide) (by decide))) <|
          .cons rfl (Q_p rfl (S_bytesSl (e := 5) [UInt8.ofNat (n % 128 + 128)] rfl (AEv.tmp rfl) (by simp [bytesAV]; rw [wrap_u64 (by omega) (by omega), wrap_u8 (by omega) (by omega)]; omega) (by kernel_rfl) (by kernel_rfl) (by kernel_rfl))) <|
          .cons rfl (Q_p rfl (S_move rfl (AEv.tmp rfl))) <|
          .cons rfl (Q_p rfl (S_quoN (n := 128) (.inl rfl) rfl (AEv.tmp rfl) (AEv.const _) (by omega) (.inr ⟨rfl, by omega⟩))) <|
          .cons rfl (Q_p rfl (S_pcall rfl (AEvs.cons (AEv.tmp rfl) AEvs.nil) (ih (n / 128) (by omega) (by omega)))) <|
          .cons rfl (Q_p rfl (S_cat rfl (AEv.tmp rfl) (AEv.tmp rfl) (by have := putL_few (n / 128) (by omega); simp; omega))) <|
          .cons rfl (Q_p rfl (S_assign rfl (AEv.tmp rfl))) <|
          .nil) ?_
      refine AC_ret ?_
      refine ret_tmp st rfl rfl (List.Sublist.refl _) (Conv.refl (List.Sublist.refl _) _) ⟨by rw [putL_big (n := n) (by omega)]; rfl, rfl⟩ (.inl rfl)

set_option maxRecDepth 100000 in
/-- provost/num.digits -/
theorem num_digits_ok (n : Nat) (h : n < 18446744073709551616) : PCalls Try.prog 23 [.int .u64 n] (.S (digL n)) := by
  intro st
  refine ACalls_of (N := 20) Try.func23 (by kernel_rfl) rfl rfl rfl ?_
  have hlen : (digL n).length ≤ 20 := digL_20 h
  refine AC_seq ?_
  refine AC_region ?_
  refine AL_p rfl rfl (S_assign rfl (AEv.S _)) ?_
  refine AL_nil ?_
  refine AC_seq ?_
  refine AC_region ?_
  refine AL_step rfl rfl (S_alloc (List.replicate 20 (.int .u8 0)) rfl (by kernel_rfl)) ?_
  rintro _ _ ⟨b1, rfl, rfl⟩
  refine AL_nil ?_
  refine AC_seq ?_
  refine AC_region ?_
  refine AL_p rfl rfl (S_assign rfl (AEv.const _)) ?_
  refine AL_nil ?_
  refine AC_block ?_
  refine AC_loop (G := Nat × List UInt8) (DigInv n) (fun g => [(0, .int .u64 g.1), (3, .ptr b1 0), (4, .int .i64 ((20 - g.2.length : Nat) : Int))]) (fun g => (b1, .cells (padR g.2)) :: st) (fun g => g.1) ((n, [])) (⟨by simp, h, hlen⟩) rfl ?_ ?_
  · exact (.cons rfl (by first | exact Le.refl _ | exact Le.nils | exact Le.row _ _ _ | (exact Le.of_eq (by simp))) (.cons rfl (by first | exact Le.refl _ | exact Le.nils | exact Le.row _ _ _ | (exact Le.of_eq (by simp))) (.cons rfl (by first | exact Le.refl _ | exact Le.nils | exact Le.row _ _ _ | (exact Le.of_eq (by simp))) .nil)))
  · rintro ⟨m, l⟩ hI
    try dsimp only
    have h3 := dig_le hI
    have h2 := hI.lt
    dsimp only at h2
    refine AC_block ?_
    refine AC_seq ?_
    refine AC_region ?_
    refine AL_p rfl rfl (S_move rfl (AEv.tmp rfl)) ?_
    refine AL_p rfl rfl (S_subI rfl (AEv.tmp rfl) (AEv.const _) (by omega) (by omega)) ?_
    refine AL_p rfl rfl (S_assign rfl (AEv.tmp rfl)) ?_
    refine AL_nil ?_
    refine AC_seq ?_
    refine AC_region ?_
    refine AL_p rfl rfl (S_move rfl (AEv.tmp rfl)) ?_
    refine AL_p rfl rfl (S_move rfl (AEv.tmp rfl)) ?_
    refine AL_p rfl rfl (S_remN (n := 10) rfl (AEv.tmp rfl) (AEv.const _) (by omega)) ?_
    refine AL_p rfl rfl (S_conv (k' := .u8) rfl (AEv.tmp rfl) (by kernel_rfl) (by kernel_rfl)) ?_
    refine AL_p rfl rfl (S_add rfl (AEv.const _) (AEv.tmp rfl)) ?_
    refine AL_p rfl rfl (S_elemA (e := 5) (len := 20) 1 rfl (AEv.tmp rfl) (AEv.tmp rfl) (by kernel_rfl) (by kernel_rfl) (by omega) (by omega)) ?_
    refine AL_step rfl rfl (S_store 0 rfl (AEv.tmp rfl) (AEv.tmp rfl) rfl (by rw [padR_len (by omega)]; omega) rfl (by kernel_rfl)) ?_
    rintro _ _ ⟨rfl, rfl⟩
    rw [padR_set (c := UInt8.ofNat (48 + m % 10)) rfl (by rw [wrap_u8 (n := ((m % 10 : Nat) : Int)) (by omega) (by omega), wrap_u8 (by omega) (by omega)]; simp; omega) h3]
    refine AL_nil ?_
    refine AC_seq ?_
    refine AC_region ?_
    refine AL_p rfl rfl (S_move rfl (AEv.tmp rfl)) ?_
    refine AL_p rfl rfl (S_quoN (n := 10) (.inl rfl) rfl (AEv.tmp rfl) (AEv.const _) (by omega) (.inr ⟨rfl, by omega⟩)) ?_
    refine AL_p rfl rfl (S_assign rfl (AEv.tmp rfl)) ?_
    refine AL_nil ?_
    refine AC_seq ?_
    refine AC_region ?_
    refine AL_p rfl rfl (S_move rfl (AEv.tmp rfl)) ?_
    refine AL_p rfl rfl (S_eql rfl (AEv.tmp rfl) (AEv.const _)) ?_
    refine AL_nil ?_
    refine AC_cond (AEv.tmp rfl) (fun hb2 => ?_) (fun hb2 => ?_)
    · try simp only [Bool.and_eq_true, Bool.or_eq_true, Bool.not_eq_true', Bool.not_eq_false', Bool.and_eq_false_iff, Bool.or_eq_false_iff, decide_eq_true_eq, decide_eq_false_iff_not, gd] at hb2
      have hq : m / 10 = 0 := by omega
      refine AC_seq ?_
      refine AC_region ?_
      refine AL_p rfl rfl (S_move rfl (AEv.tmp rfl)) ?_
      refine AL_p rfl rfl (S_cutA (e := 5) (len := 20) (i := 20 - (l.length + 1)) (j := 20) 1 rfl (AEv.tmp rfl) ⟨_, (AEv.tmp rfl).le (Le.of_eq (by rw [show ((20 - l.length : Nat) : Int) - 1 = ((20 - (l.length + 1) : Nat) : Int) by omega]))⟩ rfl (by kernel_rfl) (by kernel_rfl) (by omega) (by omega) (by omega)) ?_
      refine AL_p rfl rfl (S_bytes (e := 5) (l := UInt8.ofNat (48 + m % 10) :: l) 0 rfl (AEv.tmp rfl) rfl (by have := padR_drop (l := UInt8.ofNat (48 + m % 10) :: l) (by simp; omega); simp only [List.length_cons] at this; rw [show 20 - (20 - (l.length + 1)) = l.length + 1 by omega]; exact this) (by simp; omega) (by kernel_rfl) (by kernel_rfl) (by kernel_rfl)) ?_
      refine AL_p rfl rfl (S_assign rfl (AEv.tmp rfl)) ?_
      refine AL_nil ?_
      refine AC_ret ?_
      refine ret_tmp st rfl rfl (List.Sublist.cons _ (List.Sublist.refl _)) (Conv.refl (List.Sublist.cons _ (List.Sublist.refl _)) _) ⟨by rw [dig_end hI hq], rfl⟩ (.inl rfl)
    · try simp only [Bool.and_eq_true, Bool.or_eq_true, Bool.not_eq_true', Bool.not_eq_false', Bool.and_eq_false_iff, Bool.or_eq_false_iff, decide_eq_true_eq, decide_eq_false_iff_not, gd] at hb2
      have hq : m / 10 ≠ 0 := by omega
      refine AC_skip ?_
      refine ⟨_, dig_next hI hq, by show m / 10 < m; omega, rfl, .cons rfl (Le.refl _) (.cons rfl (Le.refl _) (.cons rfl (Le.of_eq (by simp only [List.length_cons]; rw [show ((20 - l.length : Nat) : Int) - 1 = ((20 - (l.length + 1) : Nat) : Int) by omega])) .nil))⟩

set_option maxRecDepth 100000 in
/-- provost/num.Text -/
theorem num_Text_ok (a : Int) (ha : fits a) : PCalls Try.prog 20 [.int .i64 a] (.S (textL a)) := by
  intro st
  refine ACalls_of (N := 13) Try.func20 (by kernel_rfl) rfl rfl rfl ?_
  have hw1 := u64w a
  have hw2 := u64w (-IntKind.u64.wrap a)
  unfold fits at ha
  have hlen : (digL a.natAbs).length ≤ 19 := digL_19 (by omega)
  refine AC_seq ?_
  refine AC_region ?_
  refine AL_p rfl rfl (S_assign rfl (AEv.S _)) ?_
  refine AL_nil ?_
  refine AC_seq ?_
  refine AC_seq ?_
  refine AC_region ?_
  refine AL_p rfl rfl (S_move rfl (AEv.tmp rfl)) ?_
  refine AL_p rfl rfl (S_lss rfl (AEv.tmp rfl) (AEv.const _)) ?_
  refine AL_nil ?_
  refine AC_cond (AEv.tmp rfl) (fun hb1 => ?_) (fun hb1 => ?_)
  · try simp only [Bool.and_eq_true, Bool.or_eq_true, Bool.not_eq_true', Bool.not_eq_false', Bool.and_eq_false_iff, Bool.or_eq_false_iff, decide_eq_true_eq, decide_eq_false_iff_not, gd] at hb1
    refine AC_seq ?_
    refine AC_region ?_
    refine AL_p rfl rfl (S_move rfl (AEv.tmp rfl)) ?_
    refine AL_p rfl rfl (S_conv (k' := .u64) rfl (AEv.tmp rfl) (by kernel_rfl) (by kernel_rfl)) ?_
    refine AL_p rfl rfl (S_neg rfl (AEv.tmp rfl)) ?_
    refine AL_p rfl rfl (S_pcall rfl (AEvs.cons ((AEv.tmp rfl).le (Le.of_eq (by rw [show IntKind.u64.wrap (-IntKind.u64.wrap a) = (a.natAbs : Int) by omega]))) AEvs.nil) (num_digits_ok a.natAbs (by omega))) ?_
    refine AL_p rfl rfl (S_cat rfl (AEv.S _) (AEv.tmp rfl) (by first | omega | (simp; omega))) ?_
    refine AL_p rfl rfl (S_assign rfl (AEv.tmp rfl)) ?_
    refine AL_nil ?_
    refine AC_ret ?_
    refine ret_tmp st rfl rfl (List.Sublist.refl _) (Conv.refl (List.Sublist.refl _) _) ⟨by rw [textL, if_pos (by omega)]; rfl, rfl⟩ (.inl rfl)
  · try simp only [Bool.and_eq_true, Bool.or_eq_true, Bool.not_eq_true', Bool.not_eq_false', Bool.and_eq_false_iff, Bool.or_eq_false_iff, decide_eq_true_eq, decide_eq_false_iff_not, gd] at hb1
    refine AC_skip ?_
    refine AC_seq ?_
    refine AC_region ?_
    refine AL_p rfl rfl (S_move rfl (AEv.tmp rfl)) ?_
    refine AL_p rfl rfl (S_conv (k' := .u64) rfl (AEv.tmp rfl) (by kernel_rfl) (by kernel_rfl)) ?_
    refine AL_p rfl rfl (S_pcall rfl (AEvs.cons ((AEv.tmp rfl).le (Le.of_eq (by rw [show IntKind.u64.wrap a = (a.natAbs : Int) by omega]))) AEvs.nil) (num_digits_ok a.natAbs (by omega))) ?_
    refine AL_p rfl rfl (S_assign rfl (AEv.tmp rfl)) ?_
    refine AL_nil ?_
    refine AC_ret ?_
    refine ret_tmp st rfl rfl (List.Sublist.refl _) (Conv.refl (List.Sublist.refl _) _) ⟨by rw [textL, if_neg (by omega)], rfl⟩ (.inl rfl)

set_option maxRecDepth 100000 in
/-- provost/num.Take -/
theorem num_Take_ok (l : List UInt8) : PCalls Try.prog 14 [.S l] (takeAV (takeV l)) := by
  intro st
  refine ACalls_of (N := 45) Try.func14 (by kernel_rfl) rfl rfl rfl ?_
  refine AC_seq ?_
  refine AC_region ?_
  refine AL_p rfl rfl (S_assign rfl (AEv.const _)) ?_
  refine AL_p rfl rfl (S_assign rfl (AEv.const _)) ?_
  refine AL_nil ?_
  refine AC_seq ?_
  refine AC_seq ?_
  refine AC_region ?_
  refine AL_p rfl rfl (S_assign rfl (AEv.const _)) ?_
  refine AL_nil ?_
  refine AC_block ?_
  refine AC_loop (G := Nat) (fun k => k ≤ (lead l).length ∧ k ≤ 9) (fun k => [(0, .S l), (2, .int .u64 (dv (l.take k) : Int)), (4, .int .i64 (k : Int))]) (fun k => st) (fun k => l.length - k) (0) (⟨by omega, by omega⟩) rfl ?_ ?_
  · exact (.cons rfl (by first | exact Le.refl _ | exact Le.nils | exact Le.row _ _ _ | (exact Le.of_eq (by simp))) (.cons rfl (by first | exact Le.refl _ | exact Le.nils | exact Le.row _ _ _ | (exact Le.of_eq (by simp))) (.cons rfl (by first | exact Le.refl _ | exact Le.nils | exact Le.row _ _ _ | (exact Le.of_eq (by simp))) .nil)))
  · rintro k ⟨hk1, hk2⟩
    try dsimp only
    have hc := (l.getD k 0).toNat_lt
    have hw : IntKind.u64.wrap (atL l (k : Int)) = ((l.getD k 0).toNat : Int) := by rw [atL_nat, wrap_u64 (by omega) (by omega)]
    have hw2 : IntKind.u64.wrap (7 * IntKind.u64.wrap (k : Int)) = 7 * (k : Int) := by rw [wrap_u64 (n := (k : Int)) (by omega) (by omega), wrap_u64 (by omega) (by omega)]
    refine AC_seq ?_
    refine AC_seq ?_
    refine AC_region ?_
    refine AL_p rfl rfl (S_move rfl (AEv.tmp rfl)) ?_
    refine AL_p rfl rfl (S_move rfl (AEv.tmp rfl)) ?_
    refine AL_p rfl rfl (S_lenS (ts := #[]) rfl (AEv.tmp rfl) (by kernel_rfl)) ?_
    refine AL_p rfl rfl (S_lss rfl (AEv.tmp rfl) (AEv.tmp rfl)) ?_
    refine AL_p rfl rfl (S_move rfl (AEv.tmp rfl)) ?_
    refine AL_g rfl rfl (AEv.tmp rfl) rfl (fun hg1 => S_move rfl (AEv.tmp rfl)) ?_
    refine AL_g rfl rfl (AEv.tmp rfl) rfl (fun hg4 => S_lss rfl (AEv.cond (AEv.tmp rfl) (by first | assumption | exact gdAnd (by assumption) (by assumption))) (AEv.const _)) ?_
    refine AL_p rfl rfl (S_and rfl (AEv.tmp rfl) (fun hp7 => (AEv.cond (AEv.tmp rfl) (by first | assumption | exact gdT hp7 | exact gdF hp7 | exact gdAnd (by assumption) (gdT hp7) | exact gdAnd (by assumption) (gdF hp7))))) ?_
    refine AL_nil ?_
    refine AC_cond (AEv.tmp rfl) (fun hb8 => ?_) (fun hb8 => ?_)
    · try simp only [Bool.and_eq_true, Bool.or_eq_true, Bool.not_eq_true', Bool.not_eq_false', Bool.and_eq_false_iff, Bool.or_eq_false_iff, decide_eq_true_eq, decide_eq_false_iff_not, gd] at hb8
      have hkl : k < l.length := by omega
      refine AC_skip ?_
      refine AC_seq ?_
      refine AC_block ?_
      refine AC_seq ?_
      refine AC_region ?_
      refine AL_p rfl rfl (S_move rfl (AEv.tmp rfl)) ?_
      refine AL_p rfl rfl (S_move rfl (AEv.tmp rfl)) ?_
      refine AL_p rfl rfl (S_index rfl (AEv.tmp rfl) (AEv.tmp rfl) (by kernel_rfl) (by omega) (by omega)) ?_
      refine AL_p rfl rfl (S_conv (k' := .u64) rfl (AEv.tmp rfl) (by kernel_rfl) (by kernel_rfl)) ?_
      refine AL_p rfl rfl (S_assign rfl (AEv.tmp rfl)) ?_
      refine AL_nil ?_
      refine AC_seq ?_
      refine AC_seq ?_
      refine AC_region ?_
      refine AL_p rfl rfl (S_move rfl (AEv.tmp rfl)) ?_
      refine AL_p rfl rfl (S_eql rfl (AEv.tmp rfl) (AEv.const _)) ?_
      refine AL_p rfl rfl (S_move rfl (AEv.tmp rfl)) ?_
      refine AL_g rfl rfl (AEv.tmp rfl) rfl (fun hg9 => S_move rfl (AEv.tmp rfl)) ?_
      refine AL_g rfl rfl (AEv.tmp rfl) rfl (fun hg12 => S_gtr rfl (AEv.cond (AEv.tmp rfl) (by first | assumption | exact gdAnd (by assumption) (by assumption))) (AEv.const _)) ?_
      refine AL_p rfl rfl (S_and rfl (AEv.tmp rfl) (fun hp15 => (AEv.cond (AEv.tmp rfl) (by first | assumption | exact gdT hp15 | exact gdF hp15 | exact gdAnd (by assumption) (gdT hp15) | exact gdAnd (by assumption) (gdF hp15))))) ?_
      refine AL_nil ?_
      refine AC_cond (AEv.tmp rfl) (fun hb16 => ?_) (fun hb16 => ?_)
      · try simp only [Bool.and_eq_true, Bool.or_eq_true, Bool.not_eq_true', Bool.not_eq_false', Bool.and_eq_false_iff, Bool.or_eq_false_iff, decide_eq_true_eq, decide_eq_false_iff_not, gd] at hb16
        have hk9 : k = 9 := by omega
        subst hk9
        refine AC_seq ?_
        refine AC_region ?_
        refine AL_p rfl rfl (S_assign rfl (AEv.const _)) ?_
        refine AL_p rfl rfl (S_assign rfl (AEv.const _)) ?_
        refine AL_nil ?_
        refine AC_ret ?_
        refine ret_tmps (ts := [2, 3]) st rfl (by decide) rfl (List.Sublist.refl _) (Conv.refl (List.Sublist.refl _) _) ⟨take_no (take_nine hk1 hkl (by omega)), rfl⟩ (.inl rfl)
      · try simp only [Bool.and_eq_true, Bool.or_eq_true, Bool.not_eq_true', Bool.not_eq_false', Bool.and_eq_false_iff, Bool.or_eq_false_iff, decide_eq_true_eq, decide_eq_false_iff_not, gd] at hb16
        refine AC_skip ?_
        refine AC_seq ?_
        refine AC_region ?_
        refine AL_p rfl rfl (S_move rfl (AEv.tmp rfl)) ?_
        refine AL_p rfl rfl (S_move rfl (AEv.tmp rfl)) ?_
        refine AL_p rfl rfl (S_rem rfl (AEv.tmp rfl) (AEv.const _) (by omega)) ?_
        refine AL_p rfl rfl (S_move rfl (AEv.tmp rfl)) ?_
        refine AL_p rfl rfl (S_conv (k' := .u64) rfl (AEv.tmp rfl) (by kernel_rfl) (by kernel_rfl)) ?_
        refine AL_p rfl rfl (S_mul rfl (AEv.const _) (AEv.tmp rfl)) ?_
        refine AL_p rfl rfl (S_shift rfl (by simp) (AEv.tmp rfl) (AEv.tmp rfl) (shift_shl _ _ _ _ (by omega) (by simp only [IntKind.bits]; omega))) ?_
        refine AL_p rfl rfl (S_bits rfl (by simp) (AEv.tmp rfl) (AEv.tmp rfl)) ?_
        refine AL_p rfl rfl (S_assign rfl ((AEv.tmp rfl).le (Le.of_eq (congrArg (AV.int .u64) (take_step hkl hk2 (fun h => by omega)))))) ?_
        refine AL_nil ?_
        refine AC_seq ?_
        refine AC_region ?_
        refine AL_p rfl rfl (S_move rfl (AEv.tmp rfl)) ?_
        refine AL_p rfl rfl (S_lss rfl (AEv.tmp rfl) (AEv.const _)) ?_
        refine AL_nil ?_
        refine AC_cond (AEv.tmp rfl) (fun hb17 => ?_) (fun hb17 => ?_)
        · try simp only [Bool.and_eq_true, Bool.or_eq_true, Bool.not_eq_true', Bool.not_eq_false', Bool.and_eq_false_iff, Bool.or_eq_false_iff, decide_eq_true_eq, decide_eq_false_iff_not, gd] at hb17
          refine AC_seq ?_
          refine AC_seq ?_
          refine AC_region ?_
          refine AL_p rfl rfl (S_move rfl (AEv.tmp rfl)) ?_
          refine AL_p rfl rfl (S_eql rfl (AEv.tmp rfl) (AEv.const _)) ?_
          refine AL_p rfl rfl (S_move rfl (AEv.tmp rfl)) ?_
          refine AL_g rfl rfl (AEv.tmp rfl) rfl (fun hg18 => S_move rfl (AEv.tmp rfl)) ?_
          refine AL_g rfl rfl (AEv.tmp rfl) rfl (fun hg21 => S_gtr rfl (AEv.cond (AEv.tmp rfl) (by first | assumption | exact gdAnd (by assumption) (by assumption))) (AEv.const _)) ?_
          refine AL_p rfl rfl (S_and rfl (AEv.tmp rfl) (fun hp24 => (AEv.cond (AEv.tmp rfl) (by first | assumption | exact gdT hp24 | exact gdF hp24 | exact gdAnd (by assumption) (gdT hp24) | exact gdAnd (by assumption) (gdF hp24))))) ?_
          refine AL_nil ?_
          refine AC_cond (AEv.tmp rfl) (fun hb25 => ?_) (fun hb25 => ?_)
          · try simp only [Bool.and_eq_true, Bool.or_eq_true, Bool.not_eq_true', Bool.not_eq_false', Bool.and_eq_false_iff, Bool.or_eq_false_iff, decide_eq_true_eq, decide_eq_false_iff_not, gd] at hb25
            refine AC_seq ?_
            refine AC_region ?_
            refine AL_p rfl rfl (S_assign rfl (AEv.const _)) ?_
            refine AL_p rfl rfl (S_assign rfl (AEv.const _)) ?_
            refine AL_nil ?_
            refine AC_ret ?_
            refine ret_tmps (ts := [2, 3]) st rfl (by decide) rfl (List.Sublist.refl _) (Conv.refl (List.Sublist.refl _) _) ⟨take_no (by rw [take_at hk1 hkl (by omega), if_neg (by omega)]), rfl⟩ (.inl rfl)
          · try simp only [Bool.and_eq_true, Bool.or_eq_true, Bool.not_eq_true', Bool.not_eq_false', Bool.and_eq_false_iff, Bool.or_eq_false_iff, decide_eq_true_eq, decide_eq_false_iff_not, gd] at hb25
            refine AC_skip ?_
            refine AC_seq ?_
            refine AC_region ?_
            refine AL_p rfl rfl (S_move rfl (AEv.tmp rfl)) ?_
            refine AL_p rfl rfl (S_move rfl (AEv.tmp rfl)) ?_
            refine AL_p rfl rfl (S_addI rfl (AEv.tmp rfl) (AEv.const _) (by omega) (by omega)) ?_
            refine AL_p rfl rfl (S_assign rfl (AEv.tmp rfl)) ?_
            refine AL_p rfl rfl (S_assign rfl (AEv.tmp rfl)) ?_
            refine AL_nil ?_
            refine AC_ret ?_
            refine ret_tmps (ts := [2, 3]) st rfl (by decide) rfl (List.Sublist.refl _) (Conv.refl (List.Sublist.refl _) _) ⟨take_yes (by rw [take_at hk1 hkl (by omega), if_pos (by omega)]) rfl (by simp), rfl⟩ (.inl rfl)
        · try simp only [Bool.and_eq_true, Bool.or_eq_true, Bool.not_eq_true', Bool.not_eq_false', Bool.and_eq_false_iff, Bool.or_eq_false_iff, decide_eq_true_eq, decide_eq_false_iff_not, gd] at hb17
          refine AC_skip ?_
          refine AC_region ?_
          refine AL_p rfl rfl (S_move rfl (AEv.tmp rfl)) ?_
          refine AL_p rfl rfl (S_addI rfl (AEv.tmp rfl) (AEv.const _) (by omega) (by omega)) ?_
          refine AL_p rfl rfl (S_assign rfl (AEv.tmp rfl)) ?_
          refine AL_nil ?_
          refine ⟨k + 1, ⟨lead_grow hk1 hkl (by omega), by omega⟩, by omega, rfl, (.cons rfl (by first | exact Le.refl _ | exact Le.nils | exact Le.row _ _ _ | (exact Le.of_eq (by simp))) (.cons rfl (by first | exact Le.refl _ | exact Le.nils | exact Le.row _ _ _ | (exact Le.of_eq (by simp))) (.cons rfl (by first | exact Le.refl _ | exact Le.nils | exact Le.row _ _ _ | (exact Le.of_eq (by simp))) .nil)))⟩
    · try simp only [Bool.and_eq_true, Bool.or_eq_true, Bool.not_eq_true', Bool.not_eq_false', Bool.and_eq_false_iff, Bool.or_eq_false_iff, decide_eq_true_eq, decide_eq_false_iff_not, gd] at hb8
      refine AC_exit ?_
      refine AC_seq ?_
      refine AC_region ?_
      refine AL_p rfl rfl (S_assign rfl (AEv.const _)) ?_
      refine AL_p rfl rfl (S_assign rfl (AEv.const _)) ?_
      refine AL_nil ?_
      refine AC_ret ?_
      refine ret_tmps (ts := [2, 3]) st rfl (by decide) rfl (List.Sublist.refl _) (Conv.refl (List.Sublist.refl _) _) ⟨take_no (take_end (by omega)), rfl⟩ (.inl rfl)

set_option maxRecDepth 100000 in
/-- provost/provostref01.Take -/
theorem ref_Take_ok (l : List UInt8) : PCalls Try.prog 15 [.S l] (takeAV (takeV l)) := by
  intro st
  refine ACalls_of (N := 54) Try.func15 (by kernel_rfl) rfl rfl rfl ?_
  refine AC_seq ?_
  refine AC_region ?_
  refine AL_p rfl rfl (S_assign rfl (AEv.const _)) ?_
  refine AL_p rfl rfl (S_assign rfl (AEv.const _)) ?_
  refine AL_nil ?_
  refine AC_seq ?_
  refine AC_region ?_
  refine AL_p rfl rfl (S_assign rfl (AEv.const _)) ?_
  refine AL_nil ?_
  refine AC_seq ?_
  refine AC_block ?_
  refine AC_loop (G := Nat) (fun k => k ≤ (lead l).length ∧ k ≤ 10) (fun k => [(0, .S l), (4, .int .i64 (k : Int))]) (fun k => st) (fun k => l.length - k) (0) (⟨by omega, by omega⟩) rfl ?_ ?_
  · exact (.cons rfl (by first | exact Le.refl _ | exact Le.nils | exact Le.row _ _ _ | (exact Le.of_eq (by simp))) (.cons rfl (by first | exact Le.refl _ | exact Le.nils | exact Le.row _ _ _ | (exact Le.of_eq (by simp))) .nil))
  · rintro k ⟨hk1, hk2⟩
    try dsimp only
    have ha := atL_nat l k
    refine AC_seq ?_
    refine AC_seq ?_
    refine AC_region ?_
    refine AL_p rfl rfl (S_move rfl (AEv.tmp rfl)) ?_
    refine AL_p rfl rfl (S_move rfl (AEv.tmp rfl)) ?_
    refine AL_p rfl rfl (S_lenS (ts := #[]) rfl (AEv.tmp rfl) (by kernel_rfl)) ?_
    refine AL_p rfl rfl (S_lss rfl (AEv.tmp rfl) (AEv.tmp rfl)) ?_
    refine AL_p rfl rfl (S_move rfl (AEv.tmp rfl)) ?_
    refine AL_g rfl rfl (AEv.tmp rfl) rfl (fun hg1 => S_move rfl (AEv.tmp rfl)) ?_
    refine AL_g rfl rfl (AEv.tmp rfl) rfl (fun hg4 => S_lss rfl (AEv.cond (AEv.tmp rfl) (by first | assumption | exact gdAnd (by assumption) (by assumption))) (AEv.const _)) ?_
    refine AL_p rfl rfl (S_and rfl (AEv.tmp rfl) (fun hp7 => (AEv.cond (AEv.tmp rfl) (by first | assumption | exact gdT hp7 | exact gdF hp7 | exact gdAnd (by assumption) (gdT hp7) | exact gdAnd (by assumption) (gdF hp7))))) ?_
    refine AL_p rfl rfl (S_move rfl (AEv.tmp rfl)) ?_
    refine AL_g rfl rfl (AEv.tmp rfl) rfl (fun hg8 => S_move rfl (AEv.tmp rfl)) ?_
    refine AL_g rfl rfl (AEv.tmp rfl) rfl (fun hg11 => S_move rfl (AEv.tmp rfl)) ?_
    refine AL_g rfl rfl (AEv.tmp rfl) rfl (fun hg14 => S_index rfl (AEv.cond (AEv.tmp rfl) (by first | assumption | exact gdAnd (by assumption) (by assumption))) (AEv.cond (AEv.tmp rfl) (by first | assumption | exact gdAnd (by assumption) (by assumption))) (by kernel_rfl) (by (try simp only [gd, Bool.and_eq_true, Bool.or_eq_true, Bool.not_eq_true', Bool.not_eq_false', decide_eq_true_eq, decide_eq_false_iff_not, Bool.or_eq_false_iff, Bool.and_eq_false_iff] at *); omega) (by (try simp only [gd, Bool.and_eq_true, Bool.or_eq_true, Bool.not_eq_true', Bool.not_eq_false', decide_eq_true_eq, decide_eq_false_iff_not, Bool.or_eq_false_iff, Bool.and_eq_false_iff] at *); omega)) ?_
    refine AL_g rfl rfl (AEv.tmp rfl) rfl (fun hg17 => S_gtr rfl (AEv.cond (AEv.tmp rfl) (by first | assumption | exact gdAnd (by assumption) (by assumption))) (AEv.const _)) ?_
    refine AL_p rfl rfl (S_and rfl (AEv.tmp rfl) (fun hp20 => (AEv.cond (AEv.tmp rfl) (by first | assumption | exact gdT hp20 | exact gdF hp20 | exact gdAnd (by assumption) (gdT hp20) | exact gdAnd (by assumption) (gdF hp20))))) ?_
    refine AL_nil ?_
    refine AC_cond (AEv.tmp rfl) (fun hb21 => ?_) (fun hb21 => ?_)
    · try simp only [Bool.and_eq_true, Bool.or_eq_true, Bool.not_eq_true', Bool.not_eq_false', Bool.and_eq_false_iff, Bool.or_eq_false_iff, decide_eq_true_eq, decide_eq_false_iff_not, gd] at hb21
      refine AC_skip ?_
      refine AC_block ?_
      refine AC_region ?_
      refine AL_p rfl rfl (S_move rfl (AEv.tmp rfl)) ?_
      refine AL_p rfl rfl (S_addI rfl (AEv.tmp rfl) (AEv.const _) (by omega) (by omega)) ?_
      refine AL_p rfl rfl (S_assign rfl (AEv.tmp rfl)) ?_
      refine AL_nil ?_
      refine ⟨k + 1, ⟨lead_grow hk1 (by omega) (by omega), by omega⟩, by omega, rfl, (.cons rfl (by first | exact Le.refl _ | exact Le.nils | exact Le.row _ _ _ | (exact Le.of_eq (by simp))) (.cons rfl (by first | exact Le.refl _ | exact Le.nils | exact Le.row _ _ _ | (exact Le.of_eq (by simp))) .nil))⟩
    · try simp only [Bool.and_eq_true, Bool.or_eq_true, Bool.not_eq_true', Bool.not_eq_false', Bool.and_eq_false_iff, Bool.or_eq_false_iff, decide_eq_true_eq, decide_eq_false_iff_not, gd] at hb21
      refine AC_exit ?_
      refine AC_seq ?_
      refine AC_seq ?_
      refine AC_region ?_
      refine AL_p rfl rfl (S_move rfl (AEv.tmp rfl)) ?_
      refine AL_p rfl rfl (S_move rfl (AEv.tmp rfl)) ?_
      refine AL_p rfl rfl (S_lenS (ts := #[]) rfl (AEv.tmp rfl) (by kernel_rfl)) ?_
      refine AL_p rfl rfl (S_geq rfl (AEv.tmp rfl) (AEv.tmp rfl)) ?_
      refine AL_p rfl rfl (S_move rfl (AEv.tmp rfl)) ?_
      refine AL_g rfl rfl (AEv.tmp rfl) rfl (fun hg22 => S_move rfl (AEv.tmp rfl)) ?_
      refine AL_g rfl rfl (AEv.tmp rfl) rfl (fun hg25 => S_geq rfl (AEv.cond (AEv.tmp rfl) (by first | assumption | exact gdAnd (by assumption) (by assumption))) (AEv.const _)) ?_
      refine AL_p rfl rfl (S_or rfl (AEv.tmp rfl) (fun hp28 => (AEv.cond (AEv.tmp rfl) (by first | assumption | exact gdT hp28 | exact gdF hp28 | exact gdAnd (by assumption) (gdT hp28) | exact gdAnd (by assumption) (gdF hp28))))) ?_
      refine AL_nil ?_
      refine AC_cond (AEv.tmp rfl) (fun hb29 => ?_) (fun hb29 => ?_)
      · try simp only [Bool.and_eq_true, Bool.or_eq_true, Bool.not_eq_true', Bool.not_eq_false', Bool.and_eq_false_iff, Bool.or_eq_false_iff, decide_eq_true_eq, decide_eq_false_iff_not, gd] at hb29
        refine AC_seq ?_
        refine AC_region ?_
        refine AL_p rfl rfl (S_assign rfl (AEv.const _)) ?_
        refine AL_p rfl rfl (S_assign rfl (AEv.const _)) ?_
        refine AL_nil ?_
        refine AC_ret ?_
        refine ret_tmps (ts := [2, 3]) st rfl (by decide) rfl (List.Sublist.refl _) (Conv.refl (List.Sublist.refl _) _) ⟨take_no (by rcases Nat.lt_or_ge k l.length with h | h; exact take_long (by omega); exact take_end (by omega)), rfl⟩ (.inl rfl)
      · try simp only [Bool.and_eq_true, Bool.or_eq_true, Bool.not_eq_true', Bool.not_eq_false', Bool.and_eq_false_iff, Bool.or_eq_false_iff, decide_eq_true_eq, decide_eq_false_iff_not, gd] at hb29
        refine AC_skip ?_
        refine AC_seq ?_
        refine AC_region ?_
        refine AL_p rfl rfl (S_assign rfl (AEv.const _)) ?_
        refine AL_nil ?_
        refine AC_seq ?_
        refine AC_seq ?_
        refine AC_region ?_
        refine AL_p rfl rfl (S_move rfl (AEv.tmp rfl)) ?_
        refine AL_p rfl rfl (S_assign rfl (AEv.tmp rfl)) ?_
        refine AL_nil ?_
        refine AC_block ?_
        refine AC_loop (G := Nat) (fun j => j ≤ k + 1) (fun j => [(0, .S l), (4, .int .i64 (k : Int)), (5, .int .u64 ((dv ((l.take (k + 1)).drop j) % 18446744073709551616 : Nat) : Int)), (6, .int .i64 ((j : Int) - 1))]) (fun j => st) (fun j => j) (k + 1) (Nat.le_refl _) rfl ?_ ?_
        · exact (.cons rfl (Le.refl _) (.cons rfl (Le.refl _) (.cons rfl (Le.of_eq (by rw [List.drop_eq_nil_of_le (by rw [List.length_take]; omega)]; rfl)) (.cons rfl (Le.of_eq (by simp)) .nil))))
        · rintro j hj
          try dsimp only
          refine AC_seq ?_
          refine AC_seq ?_
          refine AC_region ?_
          refine AL_p rfl rfl (S_move rfl (AEv.tmp rfl)) ?_
          refine AL_p rfl rfl (S_geq rfl (AEv.tmp rfl) (AEv.const _)) ?_
          refine AL_nil ?_
          refine AC_cond (AEv.tmp rfl) (fun hb30 => ?_) (fun hb30 => ?_)
          · try simp only [Bool.and_eq_true, Bool.or_eq_true, Bool.not_eq_true', Bool.not_eq_false', Bool.and_eq_false_iff, Bool.or_eq_false_iff, decide_eq_true_eq, decide_eq_false_iff_not, gd] at hb30
            obtain ⟨i, rfl⟩ : ∃ i, j = i + 1 := ⟨j - 1, by omega⟩
            have e : ((i + 1 : Nat) : Int) - 1 = (i : Int) := by omega
            rw [e]
            refine AC_skip ?_
            refine AC_seq ?_
            refine AC_block ?_
            refine AC_region ?_
            refine AL_p rfl rfl (S_move rfl (AEv.tmp rfl)) ?_
            refine AL_p rfl rfl (S_mul rfl (AEv.tmp rfl) (AEv.const _)) ?_
            refine AL_p rfl rfl (S_move rfl (AEv.tmp rfl)) ?_
            refine AL_p rfl rfl (S_move rfl (AEv.tmp rfl)) ?_
            refine AL_p rfl rfl (S_index rfl (AEv.tmp rfl) (AEv.tmp rfl) (by kernel_rfl) (by omega) (by omega)) ?_
            refine AL_p rfl rfl (S_conv (k' := .u64) rfl (AEv.tmp rfl) (by kernel_rfl) (by kernel_rfl)) ?_
            refine AL_p rfl rfl (S_rem rfl (AEv.tmp rfl) (AEv.const _) (by omega)) ?_
            refine AL_p rfl rfl (S_add rfl (AEv.tmp rfl) (AEv.tmp rfl)) ?_
            refine AL_p rfl rfl (S_assign rfl (AEv.tmp rfl)) ?_
            refine AL_nil ?_
            refine AC_region ?_
            refine AL_p rfl rfl (S_move rfl (AEv.tmp rfl)) ?_
            refine AL_p rfl rfl (S_subI rfl (AEv.tmp rfl) (AEv.const _) (by omega) (by omega)) ?_
            refine AL_p rfl rfl (S_assign rfl (AEv.tmp rfl)) ?_
            refine AL_nil ?_
            refine ⟨i, by omega, by omega, rfl, (.cons rfl (Le.refl _) (.cons rfl (Le.refl _) (.cons rfl (Le.of_eq (congrArg (AV.int .u64) (ref_step (by omega) (by omega)))) (.cons rfl (Le.refl _) .nil))))⟩
          · try simp only [Bool.and_eq_true, Bool.or_eq_true, Bool.not_eq_true', Bool.not_eq_false', Bool.and_eq_false_iff, Bool.or_eq_false_iff, decide_eq_true_eq, decide_eq_false_iff_not, gd] at hb30
            obtain rfl : j = 0 := by omega
            simp only [List.drop_zero]
            have hlt : dv (l.take (k + 1)) % 18446744073709551616 < 18446744073709551616 := by omega
            refine AC_exit ?_
            refine AC_seq ?_
            refine AC_seq ?_
            refine AC_draw (by kernel_rfl) (by kernel_rfl) (.cons rfl (Q_p rfl (S_move rfl (AEv.tmp rfl))) <|
                .cons rfl (Q_p rfl (S_pcall rfl (AEvs.cons (AEv.tmp rfl) AEvs.nil) (ref_Put_ok _ (by first | assumption | omega)))) <|
                .cons rfl (Q_p rfl (S_move rfl (AEv.tmp rfl))) <|
                .cons rfl (Q_p rfl (S_move rfl (AEv.tmp rfl))) <|
                .cons rfl (Q_p rfl (S_addI rfl (AEv.tmp rfl) (AEv.const _) (by omega) (by omega))) <|
                .cons rfl (Q_p rfl (S_sliceH rfl (AEv.tmp rfl) (AEv.tmp rfl) (by kernel_rfl) (by omega) (by omega))) <|
                .cons rfl (Q_p rfl (S_neS rfl (AEv.tmp rfl) (AEv.tmp rfl))) <|
                .nil) ?_
            refine AC_cond (AEv.tmp rfl) (fun hb31 => ?_) (fun hb31 => ?_)
            · try simp only [Bool.and_eq_true, Bool.or_eq_true, Bool.not_eq_true', Bool.not_eq_false', Bool.and_eq_false_iff, Bool.or_eq_false_iff, decide_eq_true_eq, decide_eq_false_iff_not, gd] at hb31
              rw [show ((k : Int) + 1).toNat = k + 1 by omega] at hb31
              refine AC_seq ?_
              refine AC_region ?_
              refine AL_p rfl rfl (S_assign rfl (AEv.const _)) ?_
              refine AL_p rfl rfl (S_assign rfl (AEv.const _)) ?_
              refine AL_nil ?_
              refine AC_ret ?_
              refine ret_tmps (ts := [2, 3]) st rfl (by decide) rfl (List.Sublist.refl _) (Conv.refl (List.Sublist.refl _) _) ⟨take_no ((ref_test hk1 (by omega) (by omega) (by omega)).2 (by assumption)), rfl⟩ (.inl rfl)
            · try simp only [Bool.and_eq_true, Bool.or_eq_true, Bool.not_eq_true', Bool.not_eq_false', Bool.and_eq_false_iff, Bool.or_eq_false_iff, decide_eq_true_eq, decide_eq_false_iff_not, gd] at hb31
              rw [show ((k : Int) + 1).toNat = k + 1 by omega] at hb31
              refine AC_skip ?_
              refine AC_seq ?_
              refine AC_region ?_
              refine AL_p rfl rfl (S_move rfl (AEv.tmp rfl)) ?_
              refine AL_p rfl rfl (S_move rfl (AEv.tmp rfl)) ?_
              refine AL_p rfl rfl (S_addI rfl (AEv.tmp rfl) (AEv.const _) (by omega) (by omega)) ?_
              refine AL_p rfl rfl (S_assign rfl (AEv.tmp rfl)) ?_
              refine AL_p rfl rfl (S_assign rfl (AEv.tmp rfl)) ?_
              refine AL_nil ?_
              refine AC_ret ?_
              refine ret_tmps (ts := [2, 3]) st rfl (by decide) rfl (List.Sublist.refl _) (Conv.refl (List.Sublist.refl _) _) ⟨take_yes ((ref_test hk1 (by omega) (by omega) (by omega)).1 (by first | assumption | (simp only [ne_eq, Decidable.not_not] at *; assumption))) rfl (by simp), rfl⟩ (.inl rfl)

set_option maxRecDepth 100000 in
/-- provost/provostref01.Text -/
theorem ref_Text_ok (a : Int) (ha : fits a) : PCalls Try.prog 21 [.int .i64 a] (.S (textL a)) := by
  intro st
  refine ACalls_of (N := 35) Try.func21 (by kernel_rfl) rfl rfl rfl ?_
  have hlen : (digL a.natAbs).length ≤ 19 := digL_19 (by unfold fits at ha; omega)
  refine AC_seq ?_
  refine AC_region ?_
  refine AL_p rfl rfl (S_assign rfl (AEv.S _)) ?_
  refine AL_nil ?_
  refine AC_seq ?_
  refine AC_region ?_
  refine AL_p rfl rfl (S_assign rfl (AEv.S _)) ?_
  refine AL_nil ?_
  refine AC_seq ?_
  refine AC_region ?_
  refine AL_p rfl rfl (S_move rfl (AEv.tmp rfl)) ?_
  refine AL_p rfl rfl (S_pcall rfl (AEvs.cons (AEv.tmp rfl) AEvs.nil) (ref_size_ok _ (by first | assumption | decide))) ?_
  refine AL_p rfl rfl (S_assign rfl (AEv.tmp rfl)) ?_
  refine AL_nil ?_
  refine AC_seq ?_
  refine AC_seq ?_
  refine AC_region ?_
  refine AL_p rfl rfl (S_assign rfl (AEv.const _)) ?_
  refine AL_nil ?_
  refine AC_block ?_
  refine AC_loop (G := Nat × List UInt8) (TextInv a.natAbs) (fun g => [(0, .int .i64 a), (3, .S g.2), (4, .int .u64 (g.1 : Int)), (5, .int .i64 (g.2.length : Int))]) (fun g => st) (fun g => g.1 + (if g.2 = [] then 1 else 0)) ((a.natAbs, [])) (⟨hlen, by simp, by unfold fits at ha; dsimp only; omega, .inl ⟨rfl, rfl⟩⟩) rfl ?_ ?_
  · exact (.cons rfl (by first | exact Le.refl _ | exact Le.nils | exact Le.row _ _ _ | (exact Le.of_eq (by simp))) (.cons rfl (by first | exact Le.refl _ | exact Le.nils | exact Le.row _ _ _ | (exact Le.of_eq (by simp))) (.cons rfl (by first | exact Le.refl _ | exact Le.nils | exact Le.row _ _ _ | (exact Le.of_eq (by simp))) (.cons rfl (by first | exact Le.refl _ | exact Le.nils | exact Le.row _ _ _ | (exact Le.of_eq (by simp))) .nil))))
  · rintro ⟨u, s⟩ hI
    try dsimp only
    have hlow := hI.low
    have hlt := hI.lt
    dsimp only at hlow hlt
    refine AC_seq ?_
    refine AC_seq ?_
    refine AC_region ?_
    refine AL_p rfl rfl (S_move rfl (AEv.tmp rfl)) ?_
    refine AL_p rfl rfl (S_eql rfl (AEv.tmp rfl) (AEv.const _)) ?_
    refine AL_p rfl rfl (S_move rfl (AEv.tmp rfl)) ?_
    refine AL_g rfl rfl (AEv.tmp rfl) rfl (fun hg1 => S_move rfl (AEv.tmp rfl)) ?_
    refine AL_g rfl rfl (AEv.tmp rfl) rfl (fun hg4 => S_gtr rfl (AEv.cond (AEv.tmp rfl) (by first | assumption | exact gdAnd (by assumption) (by assumption))) (AEv.const _)) ?_
    refine AL_g rfl rfl (AEv.tmp rfl) rfl (fun hg7 => S_move rfl (AEv.cond (AEv.tmp rfl) (by first | assumption | exact gdAnd (by assumption) (by assumption)))) ?_
    refine AL_gg rfl rfl (AEv.tmp rfl) rfl (fun hg10 hg11 hg12 => S_move rfl (AEv.tmp rfl)) ?_
    refine AL_gg rfl rfl (AEv.tmp rfl) rfl (fun hg13 hg14 hg15 => S_lss rfl (AEv.cond (AEv.tmp rfl) (by first | assumption | exact gdAnd (by assumption) (by assumption))) (AEv.const _)) ?_
    refine AL_g rfl rfl (AEv.tmp rfl) rfl (fun hg16 => S_and rfl (AEv.cond (AEv.tmp rfl) (by first | assumption | exact gdAnd (by assumption) (by assumption))) (fun hp19 => (AEv.cond (AEv.tmp rfl) (by first | assumption | exact gdT hp19 | exact gdF hp19 | exact gdAnd (by assumption) (gdT hp19) | exact gdAnd (by assumption) (gdF hp19))))) ?_
    refine AL_p rfl rfl (S_or rfl (AEv.tmp rfl) (fun hp20 => (AEv.cond (AEv.tmp rfl) (by first | assumption | exact gdT hp20 | exact gdF hp20 | exact gdAnd (by assumption) (gdT hp20) | exact gdAnd (by assumption) (gdF hp20))))) ?_
    refine AL_nil ?_
    refine AC_cond (AEv.tmp rfl) (fun hb21 => ?_) (fun hb21 => ?_)
    · try simp only [Bool.and_eq_true, Bool.or_eq_true, Bool.not_eq_true', Bool.not_eq_false', Bool.and_eq_false_iff, Bool.or_eq_false_iff, decide_eq_true_eq, decide_eq_false_iff_not, gd] at hb21
      have hs : s = [] ∨ u ≠ 0 := by
        rcases hb21 with h | h
        · exact .inl (List.eq_nil_of_length_eq_zero (by omega))
        · exact .inr (by omega)
      refine AC_skip ?_
      refine AC_seq ?_
      refine AC_block ?_
      refine AC_seq ?_
      refine AC_region ?_
      refine AL_p rfl rfl (S_move rfl (AEv.tmp rfl)) ?_
      refine AL_p rfl rfl (S_remN (n := 10) rfl (AEv.tmp rfl) (AEv.const _) (by omega)) ?_
      refine AL_p rfl rfl (S_add rfl (AEv.const _) (AEv.tmp rfl)) ?_
      refine AL_p rfl rfl (S_conv (k' := .u8) rfl (AEv.tmp rfl) (by kernel_rfl) (by kernel_rfl)) ?_
      refine AL_p rfl rfl (S_buildSlice (e := 5) 1 rfl (AEvs.cons (AEv.tmp rfl) AEvs.nil) rfl (by kernel_rfl) (by kernel_rfl) (by simp [AV.flat, AV.one, AV.cells, Value.oneCell']) (by decide) (by decide) (by decide)) ?_
      refine AL_p rfl rfl (S_bytesSl (e := 5) [UInt8.ofNat (48 + u % 10)] rfl (AEv.tmp rfl) (by simp [bytesAV]; rw [wrap_u64 (by omega) (by omega), wrap_u8 (by omega) (by omega)]; omega) (by kernel_rfl) (by kernel_rfl) (by kernel_rfl)) ?_
      refine AL_p rfl rfl (S_move rfl (AEv.tmp rfl)) ?_
      refine AL_p rfl rfl (S_cat rfl (AEv.tmp rfl) (AEv.tmp rfl) (by first | omega | (simp; omega))) ?_
      refine AL_p rfl rfl (S_assign rfl (AEv.tmp rfl)) ?_
      refine AL_nil ?_
      refine AC_region ?_
      refine AL_p rfl rfl (S_move rfl (AEv.tmp rfl)) ?_
      refine AL_p rfl rfl (S_quoN (n := 10) (.inl rfl) rfl (AEv.tmp rfl) (AEv.const _) (by omega) (.inr ⟨rfl, by omega⟩)) ?_
      refine AL_p rfl rfl (S_assign rfl (AEv.tmp rfl)) ?_
      refine AL_nil ?_
      refine AC_region ?_
      refine AL_p rfl rfl (S_move rfl (AEv.tmp rfl)) ?_
      refine AL_p rfl rfl (S_addI rfl (AEv.tmp rfl) (AEv.const _) (by omega) (by omega)) ?_
      refine AL_p rfl rfl (S_assign rfl (AEv.tmp rfl)) ?_
      refine AL_nil ?_
      refine ⟨(u / 10, UInt8.ofNat (48 + u % 10) :: s), text_next hI hs, ?_, rfl, .cons rfl (Le.refl _) (.cons rfl (Le.refl _) (.cons rfl (Le.refl _) (.cons rfl (Le.of_eq (by simp)) .nil)))⟩
      show u / 10 + _ < u + _
      rw [if_neg (by simp)]
      rcases hs with rfl | h
      · rw [if_pos rfl]; omega
      · split <;> omega
    · try simp only [Bool.and_eq_true, Bool.or_eq_true, Bool.not_eq_true', Bool.not_eq_false', Bool.and_eq_false_iff, Bool.or_eq_false_iff, decide_eq_true_eq, decide_eq_false_iff_not, gd] at hb21
      have he := text_end hI (by rintro rfl; simp at hb21) (by omega)
      refine AC_exit ?_
      refine AC_seq ?_
      refine AC_seq ?_
      refine AC_region ?_
      refine AL_p rfl rfl (S_move rfl (AEv.tmp rfl)) ?_
      refine AL_p rfl rfl (S_lss rfl (AEv.tmp rfl) (AEv.const _)) ?_
      refine AL_nil ?_
      refine AC_cond (AEv.tmp rfl) (fun hb22 => ?_) (fun hb22 => ?_)
      · try simp only [Bool.and_eq_true, Bool.or_eq_true, Bool.not_eq_true', Bool.not_eq_false', Bool.and_eq_false_iff, Bool.or_eq_false_iff, decide_eq_true_eq, decide_eq_false_iff_not, gd] at hb22
        refine AC_seq ?_
        refine AC_region ?_
        refine AL_p rfl rfl (S_move rfl (AEv.tmp rfl)) ?_
        refine AL_p rfl rfl (S_cat rfl (AEv.S _) (AEv.tmp rfl) (by first | omega | (simp; omega))) ?_
        refine AL_p rfl rfl (S_assign rfl (AEv.tmp rfl)) ?_
        refine AL_nil ?_
        refine AC_ret ?_
        refine ret_tmp st rfl rfl (List.Sublist.refl _) (Conv.refl (List.Sublist.refl _) _) ⟨by rw [textL, if_pos (by omega), he]; rfl, rfl⟩ (.inl rfl)
      · try simp only [Bool.and_eq_true, Bool.or_eq_true, Bool.not_eq_true', Bool.not_eq_false', Bool.and_eq_false_iff, Bool.or_eq_false_iff, decide_eq_true_eq, decide_eq_false_iff_not, gd] at hb22
        refine AC_skip ?_
        refine AC_seq ?_
        refine AC_region ?_
        refine AL_p rfl rfl (S_move rfl (AEv.tmp rfl)) ?_
        refine AL_p rfl rfl (S_assign rfl (AEv.tmp rfl)) ?_
        refine AL_nil ?_
        refine AC_ret ?_
        refine ret_tmp st rfl rfl (List.Sublist.refl _) (Conv.refl (List.Sublist.refl _) _) ⟨by rw [textL, if_neg (by omega), he], rfl⟩ (.inl rfl)

set_option maxRecDepth 100000 in
/-- provost/num.Parse -/
theorem num_Parse_ok (l : List UInt8) (most : Int) : PCalls Try.prog 18 [.S l, .int .i64 most] (okAV (parseV l most)) := by
  intro st
  refine ACalls_of (N := 61) Try.func18 (by kernel_rfl) rfl rfl rfl ?_
  have ha0 : atL l 0 = ((l.getD 0 0).toNat : Int) := by simp [atL]
  refine AC_seq ?_
  refine AC_region ?_
  refine AL_p rfl rfl (S_assign rfl (AEv.const _)) ?_
  refine AL_p rfl rfl (S_assign rfl (AEv.const _)) ?_
  refine AL_nil ?_
  refine AC_seq ?_
  refine AC_seq ?_
  refine AC_region ?_
  refine AL_p rfl rfl (S_move rfl (AEv.tmp rfl)) ?_
  refine AL_p rfl rfl (S_eqS rfl (AEv.tmp rfl) (AEv.S _)) ?_
  refine AL_p rfl rfl (S_move rfl (AEv.tmp rfl)) ?_
  refine AL_g rfl rfl (AEv.tmp rfl) rfl (fun hg1 => S_move rfl (AEv.tmp rfl)) ?_
  refine AL_g rfl rfl (AEv.tmp rfl) rfl (fun hg4 => S_lenS (ts := #[]) rfl (AEv.cond (AEv.tmp rfl) (by first | assumption | exact gdAnd (by assumption) (by assumption))) (by kernel_rfl)) ?_
  refine AL_g rfl rfl (AEv.tmp rfl) rfl (fun hg7 => S_gtr rfl (AEv.cond (AEv.tmp rfl) (by first | assumption | exact gdAnd (by assumption) (by assumption))) (AEv.const _)) ?_
  refine AL_g rfl rfl (AEv.tmp rfl) rfl (fun hg10 => S_move rfl (AEv.cond (AEv.tmp rfl) (by first | assumption | exact gdAnd (by assumption) (by assumption)))) ?_
  refine AL_gg rfl rfl (AEv.tmp rfl) rfl (fun hg13 hg14 hg15 => S_move rfl (AEv.tmp rfl)) ?_
  refine AL_gg rfl rfl (AEv.tmp rfl) rfl (fun hg16 hg17 hg18 => S_index rfl (AEv.cond (AEv.tmp rfl) (by first | assumption | exact gdAnd (by assumption) (by assumption))) (AEv.const _) (by kernel_rfl) (by (try simp only [gd, Bool.and_eq_true, Bool.or_eq_true, Bool.not_eq_true', Bool.not_eq_false', decide_eq_true_eq, decide_eq_false_iff_not, Bool.or_eq_false_iff, Bool.and_eq_false_iff] at *); omega) (by (try simp only [gd, Bool.and_eq_true, Bool.or_eq_true, Bool.not_eq_true', Bool.not_eq_false', decide_eq_true_eq, decide_eq_false_iff_not, Bool.or_eq_false_iff, Bool.and_eq_false_iff] at *); omega)) ?_
  refine AL_gg rfl rfl (AEv.tmp rfl) rfl (fun hg19 hg20 hg21 => S_eql rfl (AEv.cond (AEv.tmp rfl) (by first | assumption | exact gdAnd (by assumption) (by assumption))) (AEv.const _)) ?_
  refine AL_g rfl rfl (AEv.tmp rfl) rfl (fun hg22 => S_and rfl (AEv.cond (AEv.tmp rfl) (by first | assumption | exact gdAnd (by assumption) (by assumption))) (fun hp25 => (AEv.cond (AEv.tmp rfl) (by first | assumption | exact gdT hp25 | exact gdF hp25 | exact gdAnd (by assumption) (gdT hp25) | exact gdAnd (by assumption) (gdF hp25))))) ?_
  refine AL_p rfl rfl (S_or rfl (AEv.tmp rfl) (fun hp26 => (AEv.cond (AEv.tmp rfl) (by first | assumption | exact gdT hp26 | exact gdF hp26 | exact gdAnd (by assumption) (gdT hp26) | exact gdAnd (by assumption) (gdF hp26))))) ?_
  refine AL_nil ?_
  refine AC_cond (AEv.tmp rfl) (fun hb27 => ?_) (fun hb27 => ?_)
  · try simp only [Bool.and_eq_true, Bool.or_eq_true, Bool.not_eq_true', Bool.not_eq_false', Bool.and_eq_false_iff, Bool.or_eq_false_iff, decide_eq_true_eq, decide_eq_false_iff_not, gd] at hb27
    have hlead : l = [] ∨ 1 < l.length ∧ (l.getD 0 0).toNat = 48 := by
      rcases hb27 with h | h
      · exact .inl h
      · exact .inr (by omega)
    refine AC_seq ?_
    refine AC_region ?_
    refine AL_p rfl rfl (S_assign rfl (AEv.const _)) ?_
    refine AL_p rfl rfl (S_assign rfl (AEv.const _)) ?_
    refine AL_nil ?_
    refine AC_ret ?_
    refine ret_tmps (ts := [4, 5]) st rfl (by decide) rfl (List.Sublist.refl _) (Conv.refl (List.Sublist.refl _) _) ⟨parse_no (fun h => parse_lead hlead h.1), rfl⟩ (.inl rfl)
  · try simp only [Bool.and_eq_true, Bool.or_eq_true, Bool.not_eq_true', Bool.not_eq_false', Bool.and_eq_false_iff, Bool.or_eq_false_iff, decide_eq_true_eq, decide_eq_false_iff_not, gd] at hb27
    have hne : l ≠ [] := hb27.1
    have h1 : ¬ (1 < l.length ∧ (l.getD 0 0).toNat = 48) := by omega
    refine AC_skip ?_
    refine AC_seq ?_
    refine AC_region ?_
    refine AL_p rfl rfl (S_assign rfl (AEv.const _)) ?_
    refine AL_nil ?_
    refine AC_seq ?_
    refine AC_seq ?_
    refine AC_region ?_
    refine AL_p rfl rfl (S_move rfl (AEv.tmp rfl)) ?_
    refine AL_p rfl rfl (S_lenS (ts := #[]) rfl (AEv.tmp rfl) (by kernel_rfl)) ?_
    refine AL_p rfl rfl (S_move rfl (AEv.const _)) ?_
    refine AL_nil ?_
    refine AC_block ?_
    refine AC_loop (G := Nat) (fun k => ParseInv l k ∧ pv (l.take k) ≤ 9223372036854775807) (fun k => [(0, .S l), (1, .int .i64 most), (6, .int .i64 (pv (l.take k) : Int)), (23, .int .i64 (l.length : Int)), (24, .int .i64 (k : Int))]) (fun k => st) (fun k => l.length - k) (0) (⟨⟨by omega, by intro j hj; omega⟩, by simp [pv]⟩) rfl ?_ ?_
    · exact (.cons rfl (by first | exact Le.refl _ | exact Le.nils | exact Le.row _ _ _ | (exact Le.of_eq (by simp))) (.cons rfl (by first | exact Le.refl _ | exact Le.nils | exact Le.row _ _ _ | (exact Le.of_eq (by simp))) (.cons rfl (by first | exact Le.refl _ | exact Le.nils | exact Le.row _ _ _ | (exact Le.of_eq (by simp))) (.cons rfl (by first | exact Le.refl _ | exact Le.nils | exact Le.row _ _ _ | (exact Le.of_eq (by simp))) (.cons rfl (by first | exact Le.refl _ | exact Le.nils | exact Le.row _ _ _ | (exact Le.of_eq (by simp))) .nil)))))
    · rintro k ⟨hI, hp⟩
      try dsimp only
      have ha := atL_nat l k
      have hk19 := pv_few hI.le hne h1 hI.dig hp
      refine AC_seq ?_
      refine AC_region ?_
      refine AL_p rfl rfl (S_lss rfl (AEv.tmp rfl) (AEv.tmp rfl)) ?_
      refine AL_nil ?_
      refine AC_seq ?_
      refine AC_cond (AEv.tmp rfl) (fun hb28 => ?_) (fun hb28 => ?_)
      · try simp only [Bool.and_eq_true, Bool.or_eq_true, Bool.not_eq_true', Bool.not_eq_false', Bool.and_eq_false_iff, Bool.or_eq_false_iff, decide_eq_true_eq, decide_eq_false_iff_not, gd] at hb28
        have hkl : k < l.length := by omega
        refine AC_skip ?_
        refine AC_seq ?_
        refine AC_block ?_
        refine AC_seq ?_
        refine AC_region ?_
        refine AL_p rfl rfl (S_move rfl (AEv.tmp rfl)) ?_
        refine AL_p rfl rfl (S_assign rfl (AEv.tmp rfl)) ?_
        refine AL_nil ?_
        refine AC_seq ?_
        refine AC_seq ?_
        refine AC_region ?_
        refine AL_p rfl rfl (S_move rfl (AEv.tmp rfl)) ?_
        refine AL_p rfl rfl (S_move rfl (AEv.tmp rfl)) ?_
        refine AL_p rfl rfl (S_index rfl (AEv.tmp rfl) (AEv.tmp rfl) (by kernel_rfl) (by omega) (by omega)) ?_
        refine AL_p rfl rfl (S_lss rfl (AEv.tmp rfl) (AEv.const _)) ?_
        refine AL_p rfl rfl (S_move rfl (AEv.tmp rfl)) ?_
        refine AL_g rfl rfl (AEv.tmp rfl) rfl (fun hg29 => S_move rfl (AEv.tmp rfl)) ?_
        refine AL_g rfl rfl (AEv.tmp rfl) rfl (fun hg32 => S_move rfl (AEv.tmp rfl)) ?_
        refine AL_g rfl rfl (AEv.tmp rfl) rfl (fun hg35 => S_index rfl (AEv.cond (AEv.tmp rfl) (by first | assumption | exact gdAnd (by assumption) (by assumption))) (AEv.cond (AEv.tmp rfl) (by first | assumption | exact gdAnd (by assumption) (by assumption))) (by kernel_rfl) (by (try simp only [gd, Bool.and_eq_true, Bool.or_eq_true, Bool.not_eq_true', Bool.not_eq_false', decide_eq_true_eq, decide_eq_false_iff_not, Bool.or_eq_false_iff, Bool.and_eq_false_iff] at *); omega) (by (try simp only [gd, Bool.and_eq_true, Bool.or_eq_true, Bool.not_eq_true', Bool.not_eq_false', decide_eq_true_eq, decide_eq_false_iff_not, Bool.or_eq_false_iff, Bool.and_eq_false_iff] at *); omega)) ?_
        refine AL_g rfl rfl (AEv.tmp rfl) rfl (fun hg38 => S_gtr rfl (AEv.cond (AEv.tmp rfl) (by first | assumption | exact gdAnd (by assumption) (by assumption))) (AEv.const _)) ?_
        refine AL_p rfl rfl (S_or rfl (AEv.tmp rfl) (fun hp41 => (AEv.cond (AEv.tmp rfl) (by first | assumption | exact gdT hp41 | exact gdF hp41 | exact gdAnd (by assumption) (gdT hp41) | exact gdAnd (by assumption) (gdF hp41))))) ?_
        refine AL_nil ?_
        refine AC_cond (AEv.tmp rfl) (fun hb42 => ?_) (fun hb42 => ?_)
        · try simp only [Bool.and_eq_true, Bool.or_eq_true, Bool.not_eq_true', Bool.not_eq_false', Bool.and_eq_false_iff, Bool.or_eq_false_iff, decide_eq_true_eq, decide_eq_false_iff_not, gd] at hb42
          refine AC_seq ?_
          refine AC_region ?_
          refine AL_p rfl rfl (S_assign rfl (AEv.const _)) ?_
          refine AL_p rfl rfl (S_assign rfl (AEv.const _)) ?_
          refine AL_nil ?_
          refine AC_ret ?_
          refine ret_tmps (ts := [4, 5]) st rfl (by decide) rfl (List.Sublist.refl _) (Conv.refl (List.Sublist.refl _) _) ⟨parse_no (fun h => parse_nodig hkl (by unfold isDig; omega) h.1), rfl⟩ (.inl rfl)
        · try simp only [Bool.and_eq_true, Bool.or_eq_true, Bool.not_eq_true', Bool.not_eq_false', Bool.and_eq_false_iff, Bool.or_eq_false_iff, decide_eq_true_eq, decide_eq_false_iff_not, gd] at hb42
          have hdg : isDig (l.getD k 0) := by unfold isDig; omega
          have hf : fits (pv (l.take k) : Int) := by unfold fits; omega
          refine AC_skip ?_
          refine AC_seq ?_
          refine AC_region ?_
          refine AL_p rfl rfl (S_move rfl (AEv.tmp rfl)) ?_
          refine AL_p rfl rfl (S_pcall rfl (AEvs.cons (AEv.tmp rfl) (AEvs.cons (AEv.const _) AEvs.nil)) (num_Mul_ok _ _ (by first | assumption | decide) (by first | assumption | decide))) ?_
          refine AL_p rfl rfl (S_move rfl (AEv.tmp rfl)) ?_
          refine AL_p rfl rfl (S_extract 0 rfl (AEv.tmp rfl) rfl) ?_
          refine AL_p rfl rfl (S_extract 1 rfl (AEv.tmp rfl) rfl) ?_
          refine AL_p rfl rfl (S_assign rfl (AEv.tmp rfl)) ?_
          refine AL_p rfl rfl (S_assign rfl (AEv.tmp rfl)) ?_
          refine AL_nil ?_
          refine AC_seq ?_
          refine AC_seq ?_
          refine AC_region ?_
          refine AL_p rfl rfl (S_move rfl (AEv.tmp rfl)) ?_
          refine AL_p rfl rfl (S_not rfl (AEv.tmp rfl)) ?_
          refine AL_nil ?_
          refine AC_cond (AEv.tmp rfl) (fun hb43 => ?_) (fun hb43 => ?_)
          · try simp only [Bool.and_eq_true, Bool.or_eq_true, Bool.not_eq_true', Bool.not_eq_false', Bool.and_eq_false_iff, Bool.or_eq_false_iff, decide_eq_true_eq, decide_eq_false_iff_not, gd] at hb43
            have hno := mulV_bad hb43
            have hq1 := pv_take hkl
            have hq2 := pv_le (l := l) (k + 1)
            unfold fits at hno
            refine AC_seq ?_
            refine AC_region ?_
            refine AL_p rfl rfl (S_assign rfl (AEv.const _)) ?_
            refine AL_p rfl rfl (S_assign rfl (AEv.const _)) ?_
            refine AL_nil ?_
            refine AC_ret ?_
            refine ret_tmps (ts := [4, 5]) st rfl (by decide) rfl (List.Sublist.refl _) (Conv.refl (List.Sublist.refl _) _) ⟨parse_much (by omega), rfl⟩ (.inl rfl)
          · try simp only [Bool.and_eq_true, Bool.or_eq_true, Bool.not_eq_true', Bool.not_eq_false', Bool.and_eq_false_iff, Bool.or_eq_false_iff, decide_eq_true_eq, decide_eq_false_iff_not, gd] at hb43
            obtain ⟨hm, hf2⟩ := mulV_ok hb43
            rw [hm]
            try dsimp only
            refine AC_skip ?_
            refine AC_seq ?_
            refine AC_region ?_
            refine AL_p rfl rfl (S_move rfl (AEv.tmp rfl)) ?_
            refine AL_p rfl rfl (S_move rfl (AEv.tmp rfl)) ?_
            refine AL_p rfl rfl (S_move rfl (AEv.tmp rfl)) ?_
            refine AL_p rfl rfl (S_index rfl (AEv.tmp rfl) (AEv.tmp rfl) (by kernel_rfl) (by omega) (by omega)) ?_
            refine AL_p rfl rfl (S_sub rfl (AEv.tmp rfl) (AEv.const _)) ?_
            refine AL_p rfl rfl (S_conv (k' := .i64) rfl (AEv.tmp rfl) (by kernel_rfl) (by kernel_rfl)) ?_
            refine AL_p rfl rfl (S_pcall rfl (AEvs.cons (AEv.tmp rfl) (AEvs.cons ((AEv.tmp rfl).le (Le.of_eq (by rw [ha, parse_digit hdg]))) AEvs.nil)) (num_Add_ok (pv (l.take k) * 10 : Int) ((l.getD k 0).toNat - 48 : Nat) (by first | assumption | exact hf2) (by unfold fits; have := (l.getD k 0).toNat_lt; omega))) ?_
            refine AL_p rfl rfl (S_move rfl (AEv.tmp rfl)) ?_
            refine AL_p rfl rfl (S_extract 0 rfl (AEv.tmp rfl) rfl) ?_
            refine AL_p rfl rfl (S_extract 1 rfl (AEv.tmp rfl) rfl) ?_
            refine AL_p rfl rfl (S_assign rfl (AEv.tmp rfl)) ?_
            refine AL_p rfl rfl (S_assign rfl (AEv.tmp rfl)) ?_
            refine AL_nil ?_
            refine AC_seq ?_
            refine AC_region ?_
            refine AL_p rfl rfl (S_move rfl (AEv.tmp rfl)) ?_
            refine AL_p rfl rfl (S_not rfl (AEv.tmp rfl)) ?_
            refine AL_nil ?_
            refine AC_cond (AEv.tmp rfl) (fun hb44 => ?_) (fun hb44 => ?_)
            · try simp only [Bool.and_eq_true, Bool.or_eq_true, Bool.not_eq_true', Bool.not_eq_false', Bool.and_eq_false_iff, Bool.or_eq_false_iff, decide_eq_true_eq, decide_eq_false_iff_not, gd] at hb44
              have hno := addV_bad hb44
              have hq1 := pv_take hkl
              have hq2 := pv_le (l := l) (k + 1)
              unfold fits at hno
              refine AC_seq ?_
              refine AC_region ?_
              refine AL_p rfl rfl (S_assign rfl (AEv.const _)) ?_
              refine AL_p rfl rfl (S_assign rfl (AEv.const _)) ?_
              refine AL_nil ?_
              refine AC_ret ?_
              refine ret_tmps (ts := [4, 5]) st rfl (by decide) rfl (List.Sublist.refl _) (Conv.refl (List.Sublist.refl _) _) ⟨parse_much (by omega), rfl⟩ (.inl rfl)
            · try simp only [Bool.and_eq_true, Bool.or_eq_true, Bool.not_eq_true', Bool.not_eq_false', Bool.and_eq_false_iff, Bool.or_eq_false_iff, decide_eq_true_eq, decide_eq_false_iff_not, gd] at hb44
              obtain ⟨hm2, hf3⟩ := addV_ok hb44
              rw [hm2]
              try dsimp only
              have hq1 := pv_take hkl
              unfold fits at hf3
              refine AC_skip ?_
              refine AC_region ?_
              refine AL_p rfl rfl (S_addI rfl (AEv.tmp rfl) (AEv.const _) (by omega) (by omega)) ?_
              refine AL_p rfl rfl (S_move rfl (AEv.tmp rfl)) ?_
              refine AL_nil ?_
              refine ⟨k + 1, ⟨hI.next hkl hdg, by omega⟩, by omega, rfl, (.cons rfl (Le.refl _) (.cons rfl (Le.refl _) (.cons rfl (Le.of_eq (congrArg (AV.int .i64) (by omega))) (.cons rfl (Le.refl _) (.cons rfl (Le.of_eq (by simp)) .nil)))))⟩
      · try simp only [Bool.and_eq_true, Bool.or_eq_true, Bool.not_eq_true', Bool.not_eq_false', Bool.and_eq_false_iff, Bool.or_eq_false_iff, decide_eq_true_eq, decide_eq_false_iff_not, gd] at hb28
        have hall := hI.all (by omega)
        have hp2 := pv_all (l := l) (k := k) (by omega)
        refine AC_exit ?_
        refine AC_seq ?_
        refine AC_seq ?_
        refine AC_region ?_
        refine AL_p rfl rfl (S_move rfl (AEv.tmp rfl)) ?_
        refine AL_p rfl rfl (S_move rfl (AEv.tmp rfl)) ?_
        refine AL_p rfl rfl (S_gtr rfl (AEv.tmp rfl) (AEv.tmp rfl)) ?_
        refine AL_nil ?_
        refine AC_cond (AEv.tmp rfl) (fun hb45 => ?_) (fun hb45 => ?_)
        · try simp only [Bool.and_eq_true, Bool.or_eq_true, Bool.not_eq_true', Bool.not_eq_false', Bool.and_eq_false_iff, Bool.or_eq_false_iff, decide_eq_true_eq, decide_eq_false_iff_not, gd] at hb45
          refine AC_seq ?_
          refine AC_region ?_
          refine AL_p rfl rfl (S_assign rfl (AEv.const _)) ?_
          refine AL_p rfl rfl (S_assign rfl (AEv.const _)) ?_
          refine AL_nil ?_
          refine AC_ret ?_
          refine ret_tmps (ts := [4, 5]) st rfl (by decide) rfl (List.Sublist.refl _) (Conv.refl (List.Sublist.refl _) _) ⟨parse_no (by omega), rfl⟩ (.inl rfl)
        · try simp only [Bool.and_eq_true, Bool.or_eq_true, Bool.not_eq_true', Bool.not_eq_false', Bool.and_eq_false_iff, Bool.or_eq_false_iff, decide_eq_true_eq, decide_eq_false_iff_not, gd] at hb45
          refine AC_skip ?_
          refine AC_seq ?_
          refine AC_region ?_
          refine AL_p rfl rfl (S_move rfl (AEv.tmp rfl)) ?_
          refine AL_p rfl rfl (S_assign rfl (AEv.tmp rfl)) ?_
          refine AL_p rfl rfl (S_assign rfl (AEv.const _)) ?_
          refine AL_nil ?_
          refine AC_ret ?_
          refine ret_tmps (ts := [4, 5]) st rfl (by decide) rfl (List.Sublist.refl _) (Conv.refl (List.Sublist.refl _) _) ⟨parse_yes (parse_ok hne h1 hall) (by omega) (by omega) (by rw [hp2]), rfl⟩ (.inl rfl)

set_option maxRecDepth 100000 in
/-- provost/provostref01.Parse -/
theorem ref_Parse_ok (l : List UInt8) (most : Int) (hm : fits most) : PCalls Try.prog 19 [.S l, .int .i64 most] (okAV (parseV l most)) := by
  intro st
  refine ACalls_of (N := 61) Try.func19 (by kernel_rfl) rfl rfl rfl ?_
  refine AC_seq ?_
  refine AC_region ?_
  refine AL_p rfl rfl (S_assign rfl (AEv.const _)) ?_
  refine AL_p rfl rfl (S_assign rfl (AEv.const _)) ?_
  refine AL_nil ?_
  refine AC_seq ?_
  refine AC_seq ?_
  refine AC_region ?_
  refine AL_p rfl rfl (S_move rfl (AEv.tmp rfl)) ?_
  refine AL_p rfl rfl (S_lenS (ts := #[]) rfl (AEv.tmp rfl) (by kernel_rfl)) ?_
  refine AL_p rfl rfl (S_eql rfl (AEv.tmp rfl) (AEv.const _)) ?_
  refine AL_p rfl rfl (S_move rfl (AEv.tmp rfl)) ?_
  refine AL_g rfl rfl (AEv.tmp rfl) rfl (fun hg1 => S_move rfl (AEv.tmp rfl)) ?_
  refine AL_g rfl rfl (AEv.tmp rfl) rfl (fun hg4 => S_lenS (ts := #[]) rfl (AEv.cond (AEv.tmp rfl) (by first | assumption | exact gdAnd (by assumption) (by assumption))) (by kernel_rfl)) ?_
  refine AL_g rfl rfl (AEv.tmp rfl) rfl (fun hg7 => S_gtr rfl (AEv.cond (AEv.tmp rfl) (by first | assumption | exact gdAnd (by assumption) (by assumption))) (AEv.const _)) ?_
  refine AL_p rfl rfl (S_or rfl (AEv.tmp rfl) (fun hp10 => (AEv.cond (AEv.tmp rfl) (by first | assumption | exact gdT hp10 | exact gdF hp10 | exact gdAnd (by assumption) (gdT hp10) | exact gdAnd (by assumption) (gdF hp10))))) ?_
  refine AL_nil ?_
  refine AC_cond (AEv.tmp rfl) (fun hb11 => ?_) (fun hb11 => ?_)
  · try simp only [Bool.and_eq_true, Bool.or_eq_true, Bool.not_eq_true', Bool.not_eq_false', Bool.and_eq_false_iff, Bool.or_eq_false_iff, decide_eq_true_eq, decide_eq_false_iff_not, gd] at hb11
    refine AC_seq ?_
    refine AC_region ?_
    refine AL_p rfl rfl (S_assign rfl (AEv.const _)) ?_
    refine AL_p rfl rfl (S_assign rfl (AEv.const _)) ?_
    refine AL_nil ?_
    refine AC_ret ?_
    refine ret_tmps (ts := [4, 5]) st rfl (by decide) rfl (List.Sublist.refl _) (Conv.refl (List.Sublist.refl _) _) ⟨parse_long (by omega), rfl⟩ (.inl rfl)
  · try simp only [Bool.and_eq_true, Bool.or_eq_true, Bool.not_eq_true', Bool.not_eq_false', Bool.and_eq_false_iff, Bool.or_eq_false_iff, decide_eq_true_eq, decide_eq_false_iff_not, gd] at hb11
    have h19 : l.length ≤ 19 := by omega
    have hne : l ≠ [] := fun h => by rw [h] at hb11; simp at hb11
    refine AC_skip ?_
    refine AC_seq ?_
    refine AC_region ?_
    refine AL_p rfl rfl (S_assign rfl (AEv.const _)) ?_
    refine AL_nil ?_
    refine AC_seq ?_
    refine AC_seq ?_
    refine AC_region ?_
    refine AL_p rfl rfl (S_assign rfl (AEv.const _)) ?_
    refine AL_nil ?_
    refine AC_block ?_
    refine AC_loop (G := Nat) (ParseInv l) (fun k => [(0, .S l), (1, .int .i64 most), (6, .int .u64 (pv (l.take k) : Int)), (7, .int .i64 (k : Int))]) (fun k => st) (fun k => l.length - k) (0) (⟨by omega, by intro j hj; omega⟩) rfl ?_ ?_
    · exact (.cons rfl (by first | exact Le.refl _ | exact Le.nils | exact Le.row _ _ _ | (exact Le.of_eq (by simp))) (.cons rfl (by first | exact Le.refl _ | exact Le.nils | exact Le.row _ _ _ | (exact Le.of_eq (by simp))) (.cons rfl (by first | exact Le.refl _ | exact Le.nils | exact Le.row _ _ _ | (exact Le.of_eq (by simp))) (.cons rfl (by first | exact Le.refl _ | exact Le.nils | exact Le.row _ _ _ | (exact Le.of_eq (by simp))) .nil))))
    · rintro k hI
      try dsimp only
      have ha := atL_nat l k
      refine AC_seq ?_
      refine AC_seq ?_
      refine AC_region ?_
      refine AL_p rfl rfl (S_move rfl (AEv.tmp rfl)) ?_
      refine AL_p rfl rfl (S_move rfl (AEv.tmp rfl)) ?_
      refine AL_p rfl rfl (S_lenS (ts := #[]) rfl (AEv.tmp rfl) (by kernel_rfl)) ?_
      refine AL_p rfl rfl (S_lss rfl (AEv.tmp rfl) (AEv.tmp rfl)) ?_
      refine AL_nil ?_
      refine AC_cond (AEv.tmp rfl) (fun hb12 => ?_) (fun hb12 => ?_)
      · try simp only [Bool.and_eq_true, Bool.or_eq_true, Bool.not_eq_true', Bool.not_eq_false', Bool.and_eq_false_iff, Bool.or_eq_false_iff, decide_eq_true_eq, decide_eq_false_iff_not, gd] at hb12
        have hkl : k < l.length := by omega
        refine AC_skip ?_
        refine AC_seq ?_
        refine AC_block ?_
        refine AC_seq ?_
        refine AC_seq ?_
        refine AC_region ?_
        refine AL_p rfl rfl (S_move rfl (AEv.tmp rfl)) ?_
        refine AL_p rfl rfl (S_move rfl (AEv.tmp rfl)) ?_
        refine AL_p rfl rfl (S_index rfl (AEv.tmp rfl) (AEv.tmp rfl) (by kernel_rfl) (by omega) (by omega)) ?_
        refine AL_p rfl rfl (S_lss rfl (AEv.tmp rfl) (AEv.const _)) ?_
        refine AL_p rfl rfl (S_move rfl (AEv.tmp rfl)) ?_
        refine AL_g rfl rfl (AEv.tmp rfl) rfl (fun hg13 => S_move rfl (AEv.tmp rfl)) ?_
        refine AL_g rfl rfl (AEv.tmp rfl) rfl (fun hg16 => S_move rfl (AEv.tmp rfl)) ?_
        refine AL_g rfl rfl (AEv.tmp rfl) rfl (fun hg19 => S_index rfl (AEv.cond (AEv.tmp rfl) (by first | assumption | exact gdAnd (by assumption) (by assumption))) (AEv.cond (AEv.tmp rfl) (by first | assumption | exact gdAnd (by assumption) (by assumption))) (by kernel_rfl) (by (try simp only [gd, Bool.and_eq_true, Bool.or_eq_true, Bool.not_eq_true', Bool.not_eq_false', decide_eq_true_eq, decide_eq_false_iff_not, Bool.or_eq_false_iff, Bool.and_eq_false_iff] at *); omega) (by (try simp only [gd, Bool.and_eq_true, Bool.or_eq_true, Bool.not_eq_true', Bool.not_eq_false', decide_eq_true_eq, decide_eq_false_iff_not, Bool.or_eq_false_iff, Bool.and_eq_false_iff] at *); omega)) ?_
        refine AL_g rfl rfl (AEv.tmp rfl) rfl (fun hg22 => S_gtr rfl (AEv.cond (AEv.tmp rfl) (by first | assumption | exact gdAnd (by assumption) (by assumption))) (AEv.const _)) ?_
        refine AL_p rfl rfl (S_or rfl (AEv.tmp rfl) (fun hp25 => (AEv.cond (AEv.tmp rfl) (by first | assumption | exact gdT hp25 | exact gdF hp25 | exact gdAnd (by assumption) (gdT hp25) | exact gdAnd (by assumption) (gdF hp25))))) ?_
        refine AL_nil ?_
        refine AC_cond (AEv.tmp rfl) (fun hb26 => ?_) (fun hb26 => ?_)
        · try simp only [Bool.and_eq_true, Bool.or_eq_true, Bool.not_eq_true', Bool.not_eq_false', Bool.and_eq_false_iff, Bool.or_eq_false_iff, decide_eq_true_eq, decide_eq_false_iff_not, gd] at hb26
          refine AC_seq ?_
          refine AC_region ?_
          refine AL_p rfl rfl (S_assign rfl (AEv.const _)) ?_
          refine AL_p rfl rfl (S_assign rfl (AEv.const _)) ?_
          refine AL_nil ?_
          refine AC_ret ?_
          refine ret_tmps (ts := [4, 5]) st rfl (by decide) rfl (List.Sublist.refl _) (Conv.refl (List.Sublist.refl _) _) ⟨parse_no (fun h => parse_nodig hkl (by unfold isDig; omega) h.1), rfl⟩ (.inl rfl)
        · try simp only [Bool.and_eq_true, Bool.or_eq_true, Bool.not_eq_true', Bool.not_eq_false', Bool.and_eq_false_iff, Bool.or_eq_false_iff, decide_eq_true_eq, decide_eq_false_iff_not, gd] at hb26
          have hdg : isDig (l.getD k 0) := by unfold isDig; omega
          refine AC_skip ?_
          refine AC_region ?_
          refine AL_p rfl rfl (S_move rfl (AEv.tmp rfl)) ?_
          refine AL_p rfl rfl (S_mul rfl (AEv.const _) (AEv.tmp rfl)) ?_
          refine AL_p rfl rfl (S_move rfl (AEv.tmp rfl)) ?_
          refine AL_p rfl rfl (S_move rfl (AEv.tmp rfl)) ?_
          refine AL_p rfl rfl (S_index rfl (AEv.tmp rfl) (AEv.tmp rfl) (by kernel_rfl) (by omega) (by omega)) ?_
          refine AL_p rfl rfl (S_conv (k' := .u64) rfl (AEv.tmp rfl) (by kernel_rfl) (by kernel_rfl)) ?_
          refine AL_p rfl rfl (S_add rfl (AEv.tmp rfl) (AEv.tmp rfl)) ?_
          refine AL_p rfl rfl (S_sub rfl (AEv.tmp rfl) (AEv.const _)) ?_
          refine AL_p rfl rfl (S_assign rfl (AEv.tmp rfl)) ?_
          refine AL_nil ?_
          refine AC_region ?_
          refine AL_p rfl rfl (S_move rfl (AEv.tmp rfl)) ?_
          refine AL_p rfl rfl (S_addI rfl (AEv.tmp rfl) (AEv.const _) (by omega) (by omega)) ?_
          refine AL_p rfl rfl (S_assign rfl (AEv.tmp rfl)) ?_
          refine AL_nil ?_
          refine ⟨k + 1, hI.next hkl hdg, by omega, rfl, (.cons rfl (Le.refl _) (.cons rfl (Le.refl _) (.cons rfl (Le.of_eq (congrArg (AV.int .u64) (refparse_step hI hkl h19 hdg))) (.cons rfl (Le.of_eq (by simp)) .nil))))⟩
      · try simp only [Bool.and_eq_true, Bool.or_eq_true, Bool.not_eq_true', Bool.not_eq_false', Bool.and_eq_false_iff, Bool.or_eq_false_iff, decide_eq_true_eq, decide_eq_false_iff_not, gd] at hb12
        have hall := hI.all (by omega)
        have hp2 := pv_all (l := l) (k := k) (by omega)
        rw [hp2]
        have hp3 := pv_nineteen hall h19
        refine AC_exit ?_
        refine AC_seq ?_
        refine AC_seq ?_
        refine AC_region ?_
        refine AL_p rfl rfl (S_move rfl (AEv.tmp rfl)) ?_
        refine AL_p rfl rfl (S_gtr rfl (AEv.tmp rfl) (AEv.const _)) ?_
        refine AL_p rfl rfl (S_move rfl (AEv.tmp rfl)) ?_
        refine AL_g rfl rfl (AEv.tmp rfl) rfl (fun hg27 => S_move rfl (AEv.tmp rfl)) ?_
        refine AL_g rfl rfl (AEv.tmp rfl) rfl (fun hg30 => S_conv (k' := .i64) rfl (AEv.cond (AEv.tmp rfl) (by first | assumption | exact gdAnd (by assumption) (by assumption))) (by kernel_rfl) (by kernel_rfl)) ?_
        refine AL_g rfl rfl (AEv.tmp rfl) rfl (fun hg33 => S_pcall rfl (AEvs.cons (AEv.cond (AEv.tmp rfl) (by first | assumption | exact gdAnd (by assumption) (by assumption))) AEvs.nil) (ref_Text_ok _ (by first | assumption | exact wrap_fits _))) ?_
        refine AL_g rfl rfl (AEv.tmp rfl) rfl (fun hg36 => S_move rfl (AEv.tmp rfl)) ?_
        refine AL_g rfl rfl (AEv.tmp rfl) rfl (fun hg39 => S_neS rfl (AEv.cond (AEv.tmp rfl) (by first | assumption | exact gdAnd (by assumption) (by assumption))) (AEv.cond (AEv.tmp rfl) (by first | assumption | exact gdAnd (by assumption) (by assumption)))) ?_
        refine AL_p rfl rfl (S_or rfl (AEv.tmp rfl) (fun hp42 => (AEv.cond (AEv.tmp rfl) (by first | assumption | exact gdT hp42 | exact gdF hp42 | exact gdAnd (by assumption) (gdT hp42) | exact gdAnd (by assumption) (gdF hp42))))) ?_
        refine AL_p rfl rfl (S_move rfl (AEv.tmp rfl)) ?_
        refine AL_g rfl rfl (AEv.tmp rfl) rfl (fun hg43 => S_move rfl (AEv.tmp rfl)) ?_
        refine AL_g rfl rfl (AEv.tmp rfl) rfl (fun hg46 => S_lss rfl (AEv.cond (AEv.tmp rfl) (by first | assumption | exact gdAnd (by assumption) (by assumption))) (AEv.const _)) ?_
        refine AL_p rfl rfl (S_or rfl (AEv.tmp rfl) (fun hp49 => (AEv.cond (AEv.tmp rfl) (by first | assumption | exact gdT hp49 | exact gdF hp49 | exact gdAnd (by assumption) (gdT hp49) | exact gdAnd (by assumption) (gdF hp49))))) ?_
        refine AL_p rfl rfl (S_move rfl (AEv.tmp rfl)) ?_
        refine AL_g rfl rfl (AEv.tmp rfl) rfl (fun hg50 => S_move rfl (AEv.tmp rfl)) ?_
        refine AL_g rfl rfl (AEv.tmp rfl) rfl (fun hg53 => S_move rfl (AEv.tmp rfl)) ?_
        refine AL_g rfl rfl (AEv.tmp rfl) rfl (fun hg56 => S_conv (k' := .u64) rfl (AEv.cond (AEv.tmp rfl) (by first | assumption | exact gdAnd (by assumption) (by assumption))) (by kernel_rfl) (by kernel_rfl)) ?_
        refine AL_g rfl rfl (AEv.tmp rfl) rfl (fun hg59 => S_gtr rfl (AEv.cond (AEv.tmp rfl) (by first | assumption | exact gdAnd (by assumption) (by assumption))) (AEv.cond (AEv.tmp rfl) (by first | assumption | exact gdAnd (by assumption) (by assumption)))) ?_
        refine AL_p rfl rfl (S_or rfl (AEv.tmp rfl) (fun hp62 => (AEv.cond (AEv.tmp rfl) (by first | assumption | exact gdT hp62 | exact gdF hp62 | exact gdAnd (by assumption) (gdT hp62) | exact gdAnd (by assumption) (gdF hp62))))) ?_
        refine AL_nil ?_
        refine AC_cond (AEv.tmp rfl) (fun hb63 => ?_) (fun hb63 => ?_)
        · try simp only [Bool.and_eq_true, Bool.or_eq_true, Bool.not_eq_true', Bool.not_eq_false', Bool.and_eq_false_iff, Bool.or_eq_false_iff, decide_eq_true_eq, decide_eq_false_iff_not, gd] at hb63
          rw [refparse_test hm] at hb63
          refine AC_seq ?_
          refine AC_region ?_
          refine AL_p rfl rfl (S_assign rfl (AEv.const _)) ?_
          refine AL_p rfl rfl (S_assign rfl (AEv.const _)) ?_
          refine AL_nil ?_
          refine AC_ret ?_
          refine ret_tmps (ts := [4, 5]) st rfl (by decide) rfl (List.Sublist.refl _) (Conv.refl (List.Sublist.refl _) _) ⟨parse_no (by assumption), rfl⟩ (.inl rfl)
        · try simp only [Bool.and_eq_true, Bool.or_eq_true, Bool.not_eq_true', Bool.not_eq_false', Bool.and_eq_false_iff, Bool.or_eq_false_iff, decide_eq_true_eq, decide_eq_false_iff_not, gd] at hb63
          have hyes : l = digL (pv l) ∧ (pv l : Int) ≤ 9223372036854775807 ∧ (pv l : Int) ≤ most := Decidable.not_not.1 fun h => by
            rcases (refparse_test hm).2 h with ((h | h) | h) | h
            · exact hb63.1.1.1 h
            · exact h hb63.1.1.2
            · exact hb63.1.2 h
            · exact hb63.2 h
          refine AC_skip ?_
          refine AC_seq ?_
          refine AC_region ?_
          refine AL_p rfl rfl (S_move rfl (AEv.tmp rfl)) ?_
          refine AL_p rfl rfl (S_conv (k' := .i64) rfl (AEv.tmp rfl) (by kernel_rfl) (by kernel_rfl)) ?_
          refine AL_p rfl rfl (S_assign rfl (AEv.tmp rfl)) ?_
          refine AL_p rfl rfl (S_assign rfl (AEv.const _)) ?_
          refine AL_nil ?_
          refine AC_ret ?_
          refine ret_tmps (ts := [4, 5]) st rfl (by decide) rfl (List.Sublist.refl _) (Conv.refl (List.Sublist.refl _) _) ⟨parse_yes hyes.1 (by omega) hyes.2.2 (by rw [wrap_i64 (by omega) (by omega)]), rfl⟩ (.inl rfl)

set_option maxRecDepth 100000 in
/-- provost/provostlaw01.works -/
theorem law_works : PCalls Try.prog 13 [] (.bool true) := by
  intro st
  refine ACalls_of (N := 40) Try.func13 (by kernel_rfl) rfl rfl rfl ?_
  have e1 := works_take
  have e2 := works_put
  have e3 := works_mul
  have e4 := works_add
  refine AC_seq ?_
  refine AC_region ?_
  refine AL_p rfl rfl (S_assign rfl (AEv.const _)) ?_
  refine AL_nil ?_
  refine AC_seq ?_
  refine AC_region ?_
  refine AL_p rfl rfl (S_pcall rfl (AEvs.cons (AEv.S _) AEvs.nil) (num_Take_ok _)) ?_
  refine AL_p rfl rfl (S_move rfl (AEv.tmp rfl)) ?_
  refine AL_p rfl rfl (S_extract 0 rfl (AEv.tmp rfl) rfl) ?_
  refine AL_p rfl rfl (S_extract 1 rfl (AEv.tmp rfl) rfl) ?_
  refine AL_p rfl rfl (S_assign rfl (AEv.tmp rfl)) ?_
  refine AL_p rfl rfl (S_assign rfl (AEv.tmp rfl)) ?_
  refine AL_nil ?_
  refine AC_seq ?_
  refine AC_region ?_
  refine AL_p rfl rfl (S_pcall rfl (AEvs.cons (AEv.const _) (AEvs.cons (AEv.const _) AEvs.nil)) (num_Mul_ok 4611686018427387904 2 (by decide) (by decide))) ?_
  refine AL_p rfl rfl (S_move rfl (AEv.tmp rfl)) ?_
  refine AL_p rfl rfl (S_extract 0 rfl (AEv.tmp rfl) rfl) ?_
  refine AL_p rfl rfl (S_extract 1 rfl (AEv.tmp rfl) rfl) ?_
  refine AL_p rfl rfl (S_assign rfl (AEv.tmp rfl)) ?_
  refine AL_p rfl rfl (S_assign rfl (AEv.tmp rfl)) ?_
  refine AL_nil ?_
  refine AC_seq ?_
  refine AC_region ?_
  refine AL_p rfl rfl (S_pcall rfl (AEvs.cons (AEv.const _) (AEvs.cons (AEv.const _) AEvs.nil)) (num_Add_ok 2 3 (by decide) (by decide))) ?_
  refine AL_p rfl rfl (S_move rfl (AEv.tmp rfl)) ?_
  refine AL_p rfl rfl (S_extract 0 rfl (AEv.tmp rfl) rfl) ?_
  refine AL_p rfl rfl (S_extract 1 rfl (AEv.tmp rfl) rfl) ?_
  refine AL_p rfl rfl (S_assign rfl (AEv.tmp rfl)) ?_
  refine AL_p rfl rfl (S_assign rfl (AEv.tmp rfl)) ?_
  refine AL_nil ?_
  refine AC_seq ?_
  refine AC_region ?_
  refine AL_p rfl rfl (S_pcall rfl (AEvs.cons (AEv.const _) AEvs.nil) (num_Put_ok 300 (by decide))) ?_
  refine AL_p rfl rfl (S_eqS rfl (AEv.tmp rfl) (AEv.S _)) ?_
  refine AL_p rfl rfl (S_move rfl (AEv.tmp rfl)) ?_
  refine AL_g rfl rfl (AEv.tmp rfl) rfl (fun hg1 => S_move rfl (AEv.tmp rfl)) ?_
  refine AL_g rfl rfl (AEv.tmp rfl) rfl (fun hg4 => S_eql rfl (AEv.cond (AEv.tmp rfl) (by first | assumption | exact gdAnd (by assumption) (by assumption))) (AEv.const _)) ?_
  refine AL_p rfl rfl (S_and rfl (AEv.tmp rfl) (fun hp7 => (AEv.cond (AEv.tmp rfl) (by first | assumption | exact gdT hp7 | exact gdF hp7 | exact gdAnd (by assumption) (gdT hp7) | exact gdAnd (by assumption) (gdF hp7))))) ?_
  refine AL_p rfl rfl (S_move rfl (AEv.tmp rfl)) ?_
  refine AL_g rfl rfl (AEv.tmp rfl) rfl (fun hg8 => S_move rfl (AEv.tmp rfl)) ?_
  refine AL_g rfl rfl (AEv.tmp rfl) rfl (fun hg11 => S_eql rfl (AEv.cond (AEv.tmp rfl) (by first | assumption | exact gdAnd (by assumption) (by assumption))) (AEv.const _)) ?_
  refine AL_p rfl rfl (S_and rfl (AEv.tmp rfl) (fun hp14 => (AEv.cond (AEv.tmp rfl) (by first | assumption | exact gdT hp14 | exact gdF hp14 | exact gdAnd (by assumption) (gdT hp14) | exact gdAnd (by assumption) (gdF hp14))))) ?_
  refine AL_p rfl rfl (S_move rfl (AEv.tmp rfl)) ?_
  refine AL_g rfl rfl (AEv.tmp rfl) rfl (fun hg15 => S_move rfl (AEv.tmp rfl)) ?_
  refine AL_g rfl rfl (AEv.tmp rfl) rfl (fun hg18 => S_not rfl (AEv.cond (AEv.tmp rfl) (by first | assumption | exact gdAnd (by assumption) (by assumption)))) ?_
  refine AL_p rfl rfl (S_and rfl (AEv.tmp rfl) (fun hp21 => (AEv.cond (AEv.tmp rfl) (by first | assumption | exact gdT hp21 | exact gdF hp21 | exact gdAnd (by assumption) (gdT hp21) | exact gdAnd (by assumption) (gdF hp21))))) ?_
  refine AL_p rfl rfl (S_move rfl (AEv.tmp rfl)) ?_
  refine AL_g rfl rfl (AEv.tmp rfl) rfl (fun hg22 => S_move rfl (AEv.tmp rfl)) ?_
  refine AL_g rfl rfl (AEv.tmp rfl) rfl (fun hg25 => S_eql rfl (AEv.cond (AEv.tmp rfl) (by first | assumption | exact gdAnd (by assumption) (by assumption))) (AEv.const _)) ?_
  refine AL_p rfl rfl (S_and rfl (AEv.tmp rfl) (fun hp28 => (AEv.cond (AEv.tmp rfl) (by first | assumption | exact gdT hp28 | exact gdF hp28 | exact gdAnd (by assumption) (gdT hp28) | exact gdAnd (by assumption) (gdF hp28))))) ?_
  refine AL_p rfl rfl (S_move rfl (AEv.tmp rfl)) ?_
  refine AL_g rfl rfl (AEv.tmp rfl) rfl (fun hg29 => S_move rfl (AEv.tmp rfl)) ?_
  refine AL_p rfl rfl (S_and rfl (AEv.tmp rfl) (fun hp32 => (AEv.cond (AEv.tmp rfl) (by first | assumption | exact gdT hp32 | exact gdF hp32 | exact gdAnd (by assumption) (gdT hp32) | exact gdAnd (by assumption) (gdF hp32))))) ?_
  refine AL_p rfl rfl (S_assign rfl (AEv.tmp rfl)) ?_
  refine AL_nil ?_
  refine AC_ret ?_
  refine ret_tmp st rfl rfl (List.Sublist.refl _) (Conv.refl (List.Sublist.refl _) _) ⟨by rw [e1, e2, e3, e4]; rfl, rfl⟩ (.inl rfl)

set_option maxRecDepth 100000 in
/-- provost/provostlaw01.NumReckons -/
theorem law_NumReckons (a : Int) (ha : fits a) (b : Int) (hb : fits b) : PCalls Try.prog 3 [.int .i64 a, .int .i64 b] (.bool true) := by
  intro st
  refine ACalls_of (N := 58) Try.func3 (by kernel_rfl) rfl rfl rfl ?_
  refine AC_seq ?_
  refine AC_region ?_
  refine AL_p rfl rfl (S_assign rfl (AEv.const _)) ?_
  refine AL_nil ?_
  refine AC_seq ?_
  refine AC_region ?_
  refine AL_p rfl rfl (S_move rfl (AEv.tmp rfl)) ?_
  refine AL_p rfl rfl (S_move rfl (AEv.tmp rfl)) ?_
  refine AL_p rfl rfl (S_pcall rfl (AEvs.cons (AEv.tmp rfl) (AEvs.cons (AEv.tmp rfl) AEvs.nil)) (num_Add_ok _ _ (by first | assumption | decide) (by first | assumption | decide))) ?_
  refine AL_p rfl rfl (S_move rfl (AEv.tmp rfl)) ?_
  refine AL_p rfl rfl (S_extract 0 rfl (AEv.tmp rfl) rfl) ?_
  refine AL_p rfl rfl (S_extract 1 rfl (AEv.tmp rfl) rfl) ?_
  refine AL_p rfl rfl (S_assign rfl (AEv.tmp rfl)) ?_
  refine AL_p rfl rfl (S_assign rfl (AEv.tmp rfl)) ?_
  refine AL_nil ?_
  refine AC_seq ?_
  refine AC_region ?_
  refine AL_p rfl rfl (S_move rfl (AEv.tmp rfl)) ?_
  refine AL_p rfl rfl (S_move rfl (AEv.tmp rfl)) ?_
  refine AL_p rfl rfl (S_pcall rfl (AEvs.cons (AEv.tmp rfl) (AEvs.cons (AEv.tmp rfl) AEvs.nil)) (num_Mul_ok _ _ (by first | assumption | decide) (by first | assumption | decide))) ?_
  refine AL_p rfl rfl (S_move rfl (AEv.tmp rfl)) ?_
  refine AL_p rfl rfl (S_extract 0 rfl (AEv.tmp rfl) rfl) ?_
  refine AL_p rfl rfl (S_extract 1 rfl (AEv.tmp rfl) rfl) ?_
  refine AL_p rfl rfl (S_assign rfl (AEv.tmp rfl)) ?_
  refine AL_p rfl rfl (S_assign rfl (AEv.tmp rfl)) ?_
  refine AL_nil ?_
  refine AC_seq ?_
  refine AC_region ?_
  refine AL_p rfl rfl (S_move rfl (AEv.tmp rfl)) ?_
  refine AL_p rfl rfl (S_move rfl (AEv.tmp rfl)) ?_
  refine AL_p rfl rfl (S_pcall rfl (AEvs.cons (AEv.tmp rfl) (AEvs.cons (AEv.tmp rfl) AEvs.nil)) (ref_Add_ok _ _ (by first | assumption | decide) (by first | assumption | decide))) ?_
  refine AL_p rfl rfl (S_move rfl (AEv.tmp rfl)) ?_
  refine AL_p rfl rfl (S_extract 0 rfl (AEv.tmp rfl) rfl) ?_
  refine AL_p rfl rfl (S_extract 1 rfl (AEv.tmp rfl) rfl) ?_
  refine AL_p rfl rfl (S_assign rfl (AEv.tmp rfl)) ?_
  refine AL_p rfl rfl (S_assign rfl (AEv.tmp rfl)) ?_
  refine AL_nil ?_
  refine AC_seq ?_
  refine AC_region ?_
  refine AL_p rfl rfl (S_move rfl (AEv.tmp rfl)) ?_
  refine AL_p rfl rfl (S_move rfl (AEv.tmp rfl)) ?_
  refine AL_p rfl rfl (S_pcall rfl (AEvs.cons (AEv.tmp rfl) (AEvs.cons (AEv.tmp rfl) AEvs.nil)) (ref_Mul_ok _ _ (by first | assumption | decide) (by first | assumption | decide))) ?_
  refine AL_p rfl rfl (S_move rfl (AEv.tmp rfl)) ?_
  refine AL_p rfl rfl (S_extract 0 rfl (AEv.tmp rfl) rfl) ?_
  refine AL_p rfl rfl (S_extract 1 rfl (AEv.tmp rfl) rfl) ?_
  refine AL_p rfl rfl (S_assign rfl (AEv.tmp rfl)) ?_
  refine AL_p rfl rfl (S_assign rfl (AEv.tmp rfl)) ?_
  refine AL_nil ?_
  refine AC_seq ?_
  refine AC_region ?_
  refine AL_p rfl rfl (S_move rfl (AEv.tmp rfl)) ?_
  refine AL_p rfl rfl (S_move rfl (AEv.tmp rfl)) ?_
  refine AL_p rfl rfl (S_eql rfl (AEv.tmp rfl) (AEv.tmp rfl)) ?_
  refine AL_p rfl rfl (S_move rfl (AEv.tmp rfl)) ?_
  refine AL_g rfl rfl (AEv.tmp rfl) rfl (fun hg1 => S_move rfl (AEv.tmp rfl)) ?_
  refine AL_g rfl rfl (AEv.tmp rfl) rfl (fun hg4 => S_move rfl (AEv.tmp rfl)) ?_
  refine AL_g rfl rfl (AEv.tmp rfl) rfl (fun hg7 => S_eqB rfl (AEv.cond (AEv.tmp rfl) (by first | assumption | exact gdAnd (by assumption) (by assumption))) (AEv.cond (AEv.tmp rfl) (by first | assumption | exact gdAnd (by assumption) (by assumption))) (by kernel_rfl)) ?_
  refine AL_p rfl rfl (S_and rfl (AEv.tmp rfl) (fun hp10 => (AEv.cond (AEv.tmp rfl) (by first | assumption | exact gdT hp10 | exact gdF hp10 | exact gdAnd (by assumption) (gdT hp10) | exact gdAnd (by assumption) (gdF hp10))))) ?_
  refine AL_p rfl rfl (S_move rfl (AEv.tmp rfl)) ?_
  refine AL_g rfl rfl (AEv.tmp rfl) rfl (fun hg11 => S_move rfl (AEv.tmp rfl)) ?_
  refine AL_g rfl rfl (AEv.tmp rfl) rfl (fun hg14 => S_move rfl (AEv.tmp rfl)) ?_
  refine AL_g rfl rfl (AEv.tmp rfl) rfl (fun hg17 => S_eql rfl (AEv.cond (AEv.tmp rfl) (by first | assumption | exact gdAnd (by assumption) (by assumption))) (AEv.cond (AEv.tmp rfl) (by first | assumption | exact gdAnd (by assumption) (by assumption)))) ?_
  refine AL_p rfl rfl (S_and rfl (AEv.tmp rfl) (fun hp20 => (AEv.cond (AEv.tmp rfl) (by first | assumption | exact gdT hp20 | exact gdF hp20 | exact gdAnd (by assumption) (gdT hp20) | exact gdAnd (by assumption) (gdF hp20))))) ?_
  refine AL_p rfl rfl (S_move rfl (AEv.tmp rfl)) ?_
  refine AL_g rfl rfl (AEv.tmp rfl) rfl (fun hg21 => S_move rfl (AEv.tmp rfl)) ?_
  refine AL_g rfl rfl (AEv.tmp rfl) rfl (fun hg24 => S_move rfl (AEv.tmp rfl)) ?_
  refine AL_g rfl rfl (AEv.tmp rfl) rfl (fun hg27 => S_eqB rfl (AEv.cond (AEv.tmp rfl) (by first | assumption | exact gdAnd (by assumption) (by assumption))) (AEv.cond (AEv.tmp rfl) (by first | assumption | exact gdAnd (by assumption) (by assumption))) (by kernel_rfl)) ?_
  refine AL_p rfl rfl (S_and rfl (AEv.tmp rfl) (fun hp30 => (AEv.cond (AEv.tmp rfl) (by first | assumption | exact gdT hp30 | exact gdF hp30 | exact gdAnd (by assumption) (gdT hp30) | exact gdAnd (by assumption) (gdF hp30))))) ?_
  refine AL_p rfl rfl (S_move rfl (AEv.tmp rfl)) ?_
  refine AL_g rfl rfl (AEv.tmp rfl) rfl (fun hg31 => S_pcall rfl AEvs.nil (law_works)) ?_
  refine AL_p rfl rfl (S_and rfl (AEv.tmp rfl) (fun hp34 => (AEv.cond (AEv.tmp rfl) (by first | assumption | exact gdT hp34 | exact gdF hp34 | exact gdAnd (by assumption) (gdT hp34) | exact gdAnd (by assumption) (gdF hp34))))) ?_
  refine AL_p rfl rfl (S_assign rfl (AEv.tmp rfl)) ?_
  refine AL_nil ?_
  refine AC_ret ?_
  refine ret_tmp st rfl rfl (List.Sublist.refl _) (Conv.refl (List.Sublist.refl _) _) ⟨by first | rfl | (simp; done), rfl⟩ (.inl rfl)

set_option maxRecDepth 100000 in
/-- provost/provostlaw01.NumPuts -/
theorem law_NumPuts (n : Nat) (h : n < 18446744073709551616) (l : List UInt8) : PCalls Try.prog 4 [.int .u64 (n : Int), .S l] (.bool true) := by
  intro st
  refine ACalls_of (N := 37) Try.func4 (by kernel_rfl) rfl rfl rfl ?_
  refine AC_seq ?_
  refine AC_region ?_
  refine AL_p rfl rfl (S_assign rfl (AEv.const _)) ?_
  refine AL_nil ?_
  refine AC_seq ?_
  refine AC_region ?_
  refine AL_p rfl rfl (S_move rfl (AEv.tmp rfl)) ?_
  refine AL_p rfl rfl (S_pcall rfl (AEvs.cons (AEv.tmp rfl) AEvs.nil) (num_Take_ok _)) ?_
  refine AL_p rfl rfl (S_move rfl (AEv.tmp rfl)) ?_
  refine AL_p rfl rfl (S_extract 0 rfl (AEv.tmp rfl) rfl) ?_
  refine AL_p rfl rfl (S_extract 1 rfl (AEv.tmp rfl) rfl) ?_
  refine AL_p rfl rfl (S_assign rfl (AEv.tmp rfl)) ?_
  refine AL_p rfl rfl (S_assign rfl (AEv.tmp rfl)) ?_
  refine AL_nil ?_
  refine AC_seq ?_
  refine AC_region ?_
  refine AL_p rfl rfl (S_move rfl (AEv.tmp rfl)) ?_
  refine AL_p rfl rfl (S_pcall rfl (AEvs.cons (AEv.tmp rfl) AEvs.nil) (ref_Take_ok _)) ?_
  refine AL_p rfl rfl (S_move rfl (AEv.tmp rfl)) ?_
  refine AL_p rfl rfl (S_extract 0 rfl (AEv.tmp rfl) rfl) ?_
  refine AL_p rfl rfl (S_extract 1 rfl (AEv.tmp rfl) rfl) ?_
  refine AL_p rfl rfl (S_assign rfl (AEv.tmp rfl)) ?_
  refine AL_p rfl rfl (S_assign rfl (AEv.tmp rfl)) ?_
  refine AL_nil ?_
  refine AC_seq ?_
  refine AC_region ?_
  refine AL_p rfl rfl (S_move rfl (AEv.tmp rfl)) ?_
  refine AL_p rfl rfl (S_pcall rfl (AEvs.cons (AEv.tmp rfl) AEvs.nil) (num_Put_ok _ (by first | assumption | omega))) ?_
  refine AL_p rfl rfl (S_move rfl (AEv.tmp rfl)) ?_
  refine AL_p rfl rfl (S_pcall rfl (AEvs.cons (AEv.tmp rfl) AEvs.nil) (ref_Put_ok _ (by first | assumption | omega))) ?_
  refine AL_p rfl rfl (S_eqS rfl (AEv.tmp rfl) (AEv.tmp rfl)) ?_
  refine AL_p rfl rfl (S_move rfl (AEv.tmp rfl)) ?_
  refine AL_g rfl rfl (AEv.tmp rfl) rfl (fun hg1 => S_move rfl (AEv.tmp rfl)) ?_
  refine AL_g rfl rfl (AEv.tmp rfl) rfl (fun hg4 => S_move rfl (AEv.tmp rfl)) ?_
  refine AL_g rfl rfl (AEv.tmp rfl) rfl (fun hg7 => S_eql rfl (AEv.cond (AEv.tmp rfl) (by first | assumption | exact gdAnd (by assumption) (by assumption))) (AEv.cond (AEv.tmp rfl) (by first | assumption | exact gdAnd (by assumption) (by assumption)))) ?_
  refine AL_p rfl rfl (S_and rfl (AEv.tmp rfl) (fun hp10 => (AEv.cond (AEv.tmp rfl) (by first | assumption | exact gdT hp10 | exact gdF hp10 | exact gdAnd (by assumption) (gdT hp10) | exact gdAnd (by assumption) (gdF hp10))))) ?_
  refine AL_p rfl rfl (S_move rfl (AEv.tmp rfl)) ?_
  refine AL_g rfl rfl (AEv.tmp rfl) rfl (fun hg11 => S_move rfl (AEv.tmp rfl)) ?_
  refine AL_g rfl rfl (AEv.tmp rfl) rfl (fun hg14 => S_move rfl (AEv.tmp rfl)) ?_
  refine AL_g rfl rfl (AEv.tmp rfl) rfl (fun hg17 => S_eql rfl (AEv.cond (AEv.tmp rfl) (by first | assumption | exact gdAnd (by assumption) (by assumption))) (AEv.cond (AEv.tmp rfl) (by first | assumption | exact gdAnd (by assumption) (by assumption)))) ?_
  refine AL_p rfl rfl (S_and rfl (AEv.tmp rfl) (fun hp20 => (AEv.cond (AEv.tmp rfl) (by first | assumption | exact gdT hp20 | exact gdF hp20 | exact gdAnd (by assumption) (gdT hp20) | exact gdAnd (by assumption) (gdF hp20))))) ?_
  refine AL_p rfl rfl (S_move rfl (AEv.tmp rfl)) ?_
  refine AL_g rfl rfl (AEv.tmp rfl) rfl (fun hg21 => S_pcall rfl AEvs.nil (law_works)) ?_
  refine AL_p rfl rfl (S_and rfl (AEv.tmp rfl) (fun hp24 => (AEv.cond (AEv.tmp rfl) (by first | assumption | exact gdT hp24 | exact gdF hp24 | exact gdAnd (by assumption) (gdT hp24) | exact gdAnd (by assumption) (gdF hp24))))) ?_
  refine AL_p rfl rfl (S_assign rfl (AEv.tmp rfl)) ?_
  refine AL_nil ?_
  refine AC_ret ?_
  refine ret_tmp st rfl rfl (List.Sublist.refl _) (Conv.refl (List.Sublist.refl _) _) ⟨by first | rfl | (simp; done), rfl⟩ (.inl rfl)

set_option maxRecDepth 100000 in
/-- provost/provostlaw01.NumBack -/
theorem law_NumBack (n : Nat) (h : n < 18446744073709551616) (l : List UInt8) (hl : l.length ≤ 140737488355328) : PCalls Try.prog 5 [.int .u64 (n : Int), .S l] (.bool true) := by
  intro st
  refine ACalls_of (N := 67) Try.func5 (by kernel_rfl) rfl rfl rfl ?_
  have hf := take_fits l
  have h1 := putL_pos n
  have h2 := putL_few n h
  have h3 := takeV_le l
  refine AC_seq ?_
  refine AC_region ?_
  refine AL_p rfl rfl (S_assign rfl (AEv.const _)) ?_
  refine AL_nil ?_
  refine AC_seq ?_
  refine AC_seq ?_
  refine AC_region ?_
  refine AL_p rfl rfl (S_pcall rfl AEvs.nil (law_works)) ?_
  refine AL_p rfl rfl (S_not rfl (AEv.tmp rfl)) ?_
  refine AL_nil ?_
  refine AC_cond (AEv.tmp rfl) (fun hb1 => ?_) (fun hb1 => ?_)
  · simp at hb1; done
  · try simp only [Bool.and_eq_true, Bool.or_eq_true, Bool.not_eq_true', Bool.not_eq_false', Bool.and_eq_false_iff, Bool.or_eq_false_iff, decide_eq_true_eq, decide_eq_false_iff_not, gd] at hb1
    refine AC_skip ?_
    refine AC_seq ?_
    refine AC_region ?_
    refine AL_p rfl rfl (S_move rfl (AEv.tmp rfl)) ?_
    refine AL_p rfl rfl (S_pcall rfl (AEvs.cons (AEv.tmp rfl) AEvs.nil) (num_Put_ok _ (by first | assumption | omega))) ?_
    refine AL_p rfl rfl (S_assign rfl (AEv.tmp rfl)) ?_
    refine AL_nil ?_
    refine AC_seq ?_
    refine AC_region ?_
    refine AL_p rfl rfl (S_move rfl (AEv.tmp rfl)) ?_
    refine AL_p rfl rfl (S_move rfl (AEv.tmp rfl)) ?_
    refine AL_p rfl rfl (S_cat rfl (AEv.tmp rfl) (AEv.tmp rfl) (by first | omega | (simp; omega))) ?_
    refine AL_p rfl rfl (S_pcall rfl (AEvs.cons (AEv.tmp rfl) AEvs.nil) (num_Take_ok _)) ?_
    refine AL_p rfl rfl (S_move rfl (AEv.tmp rfl)) ?_
    refine AL_p rfl rfl (S_extract 0 rfl (AEv.tmp rfl) rfl) ?_
    refine AL_p rfl rfl (S_extract 1 rfl (AEv.tmp rfl) rfl) ?_
    refine AL_p rfl rfl (S_assign rfl (AEv.tmp rfl)) ?_
    refine AL_p rfl rfl (S_assign rfl (AEv.tmp rfl)) ?_
    refine AL_nil ?_
    refine AC_seq ?_
    refine AC_seq ?_
    rw [take_put n l h]
    try dsimp only
    refine AC_region ?_
    refine AL_p rfl rfl (S_move rfl (AEv.tmp rfl)) ?_
    refine AL_p rfl rfl (S_move rfl (AEv.tmp rfl)) ?_
    refine AL_p rfl rfl (S_neq rfl (AEv.tmp rfl) (AEv.tmp rfl)) ?_
    refine AL_p rfl rfl (S_move rfl (AEv.tmp rfl)) ?_
    refine AL_g rfl rfl (AEv.tmp rfl) rfl (fun hg2 => S_move rfl (AEv.tmp rfl)) ?_
    refine AL_g rfl rfl (AEv.tmp rfl) rfl (fun hg5 => S_move rfl (AEv.tmp rfl)) ?_
    refine AL_g rfl rfl (AEv.tmp rfl) rfl (fun hg8 => S_lenS (ts := #[]) rfl (AEv.cond (AEv.tmp rfl) (by first | assumption | exact gdAnd (by assumption) (by assumption))) (by kernel_rfl)) ?_
    refine AL_g rfl rfl (AEv.tmp rfl) rfl (fun hg11 => S_neq rfl (AEv.cond (AEv.tmp rfl) (by first | assumption | exact gdAnd (by assumption) (by assumption))) (AEv.cond (AEv.tmp rfl) (by first | assumption | exact gdAnd (by assumption) (by assumption)))) ?_
    refine AL_p rfl rfl (S_or rfl (AEv.tmp rfl) (fun hp14 => (AEv.cond (AEv.tmp rfl) (by first | assumption | exact gdT hp14 | exact gdF hp14 | exact gdAnd (by assumption) (gdT hp14) | exact gdAnd (by assumption) (gdF hp14))))) ?_
    refine AL_p rfl rfl (S_move rfl (AEv.tmp rfl)) ?_
    refine AL_g rfl rfl (AEv.tmp rfl) rfl (fun hg15 => S_move rfl (AEv.tmp rfl)) ?_
    refine AL_g rfl rfl (AEv.tmp rfl) rfl (fun hg18 => S_lss rfl (AEv.cond (AEv.tmp rfl) (by first | assumption | exact gdAnd (by assumption) (by assumption))) (AEv.const _)) ?_
    refine AL_p rfl rfl (S_or rfl (AEv.tmp rfl) (fun hp21 => (AEv.cond (AEv.tmp rfl) (by first | assumption | exact gdT hp21 | exact gdF hp21 | exact gdAnd (by assumption) (gdT hp21) | exact gdAnd (by assumption) (gdF hp21))))) ?_
    refine AL_p rfl rfl (S_move rfl (AEv.tmp rfl)) ?_
    refine AL_g rfl rfl (AEv.tmp rfl) rfl (fun hg22 => S_move rfl (AEv.tmp rfl)) ?_
    refine AL_g rfl rfl (AEv.tmp rfl) rfl (fun hg25 => S_gtr rfl (AEv.cond (AEv.tmp rfl) (by first | assumption | exact gdAnd (by assumption) (by assumption))) (AEv.const _)) ?_
    refine AL_p rfl rfl (S_or rfl (AEv.tmp rfl) (fun hp28 => (AEv.cond (AEv.tmp rfl) (by first | assumption | exact gdT hp28 | exact gdF hp28 | exact gdAnd (by assumption) (gdT hp28) | exact gdAnd (by assumption) (gdF hp28))))) ?_
    refine AL_nil ?_
    refine AC_cond (AEv.tmp rfl) (fun hb29 => ?_) (fun hb29 => ?_)
    · simp at hb29
      omega
    · try simp only [Bool.and_eq_true, Bool.or_eq_true, Bool.not_eq_true', Bool.not_eq_false', Bool.and_eq_false_iff, Bool.or_eq_false_iff, decide_eq_true_eq, decide_eq_false_iff_not, gd] at hb29
      refine AC_skip ?_
      refine AC_seq ?_
      refine AC_region ?_
      refine AL_p rfl rfl (S_move rfl (AEv.tmp rfl)) ?_
      refine AL_p rfl rfl (S_pcall rfl (AEvs.cons (AEv.tmp rfl) AEvs.nil) (num_Take_ok _)) ?_
      refine AL_p rfl rfl (S_move rfl (AEv.tmp rfl)) ?_
      refine AL_p rfl rfl (S_extract 0 rfl (AEv.tmp rfl) rfl) ?_
      refine AL_p rfl rfl (S_extract 1 rfl (AEv.tmp rfl) rfl) ?_
      refine AL_p rfl rfl (S_assign rfl (AEv.tmp rfl)) ?_
      refine AL_p rfl rfl (S_assign rfl (AEv.tmp rfl)) ?_
      refine AL_nil ?_
      refine AC_seq ?_
      refine AC_draw (by kernel_rfl) (by kernel_rfl) (.cons rfl (Q_p rfl (S_move rfl (AEv.tmp rfl))) <|
          .cons rfl (Q_p rfl (S_eql rfl (AEv.tmp rfl) (AEv.const _))) <|
          .cons rfl (Q_p rfl (S_move rfl (AEv.tmp rfl))) <|
          .cons rfl (Q_g rfl rfl (AEv.tmp rfl) (fun hg30 => S_move rfl (AEv.tmp rfl))) <|
          .cons rfl (Q_g rfl rfl (AEv.tmp rfl) (fun hg33 => S_eql rfl (AEv.cond (AEv.tmp rfl) (by first | assumption | exact gdAnd (by assumption) (by assumption))) (AEv.const _))) <|
          .cons rfl (Q_p rfl (S_and rfl (AEv.tmp rfl) (fun hp36 => (AEv.cond (AEv.tmp rfl) (by first | assumption | exact gdT hp36 | exact gdF hp36 | exact gdAnd (by assumption) (gdT hp36) | exact gdAnd (by assumption) (gdF hp36)))))) <|
          .cons rfl (Q_p rfl (S_move rfl (AEv.tmp rfl))) <|
          .cons rfl (Q_g rfl rfl (AEv.tmp rfl) (fun hg37 => S_move rfl (AEv.tmp rfl))) <|
          .cons rfl (Q_g rfl rfl (AEv.tmp rfl) (fun hg40 => S_gtr rfl (AEv.cond (AEv.tmp rfl) (by first | assumption | exact gdAnd (by assumption) (by assumption))) (AEv.const _))) <|
          .cons rfl (Q_g rfl rfl (AEv.tmp rfl) (fun hg43 => S_move rfl (AEv.cond (AEv.tmp rfl) (by first | assumption | exact gdAnd (by assumption) (by assumption))))) <|
          .cons rfl (Q_gg rfl rfl (AEv.tmp rfl) (fun hg46 hg47 hg48 => S_move rfl (AEv.tmp rfl))) <|
          .cons rfl (Q_gg rfl rfl (AEv.tmp rfl) (fun hg49 hg50 hg51 => S_move rfl (AEv.tmp rfl))) <|
          .cons rfl (Q_gg rfl rfl (AEv.tmp rfl) (fun hg52 hg53 hg54 => S_lenS (ts := #[]) rfl (AEv.cond (AEv.tmp rfl) (by first | assumption | exact gdAnd (by assumption) (by assumption))) (by kernel_rfl))) <|
          .cons rfl (Q_gg rfl rfl (AEv.tmp rfl) (fun hg55 hg56 hg57 => S_leq rfl (AEv.cond (AEv.tmp rfl) (by first | assumption | exact gdAnd (by assumption) (by assumption))) (AEv.cond (AEv.tmp rfl) (by first | assumption | exact gdAnd (by assumption) (by assumption))))) <|
          .cons rfl (Q_g rfl rfl (AEv.tmp rfl) (fun hg58 => S_and rfl (AEv.cond (AEv.tmp rfl) (by first | assumption | exact gdAnd (by assumption) (by assumption))) (fun hp61 => (AEv.cond (AEv.tmp rfl) (by first | assumption | exact gdT hp61 | exact gdF hp61 | exact gdAnd (by assumption) (gdT hp61) | exact gdAnd (by assumption) (gdF hp61)))))) <|
          .cons rfl (Q_g rfl rfl (AEv.tmp rfl) (fun hg62 => S_move rfl (AEv.cond (AEv.tmp rfl) (by first | assumption | exact gdAnd (by assumption) (by assumption))))) <|
          .cons rfl (Q_gg rfl rfl (AEv.tmp rfl) (fun hg65 hg66 hg67 => S_move rfl (AEv.tmp rfl))) <|
          .cons rfl (Q_gg rfl rfl (AEv.tmp rfl) (fun hg68 hg69 hg70 => S_pcall rfl (AEvs.cons (AEv.cond (AEv.tmp rfl) (by first | assumption | exact gdAnd (by assumption) (by assumption))) AEvs.nil) (num_Put_ok _ (by first | assumption | omega)))) <|
          .cons rfl (Q_gg rfl rfl (AEv.tmp rfl) (fun hg71 hg72 hg73 => S_move rfl (AEv.tmp rfl))) <|
          .cons rfl (Q_gg rfl rfl (AEv.tmp rfl) (fun hg74 hg75 hg76 => S_move rfl (AEv.tmp rfl))) <|
          .cons rfl (Q_gg rfl rfl (AEv.tmp rfl) (fun hg77 hg78 hg79 => S_sliceH rfl (AEv.cond (AEv.tmp rfl) (by first | assumption | exact gdAnd (by assumption) (by assumption))) (AEv.cond (AEv.tmp rfl) (by first | assumption | exact gdAnd (by assumption) (by assumption))) (by kernel_rfl) (by (try simp only [gd, Bool.and_eq_true, Bool.or_eq_true, Bool.not_eq_true', Bool.not_eq_false', decide_eq_true_eq, decide_eq_false_iff_not, Bool.or_eq_false_iff, Bool.and_eq_false_iff] at *); omega) (by (try simp only [gd, Bool.and_eq_true, Bool.or_eq_true, Bool.not_eq_true', Bool.not_eq_false', decide_eq_true_eq, decide_eq_false_iff_not, Bool.or_eq_false_iff, Bool.and_eq_false_iff] at *); omega))) <|
          .cons rfl (Q_gg rfl rfl (AEv.tmp rfl) (fun hg80 hg81 hg82 => S_eqS rfl (AEv.cond (AEv.tmp rfl) (by first | assumption | exact gdAnd (by assumption) (by assumption))) (AEv.cond (AEv.tmp rfl) (by first | assumption | exact gdAnd (by assumption) (by assumption))))) <|
          .cons rfl (Q_g rfl rfl (AEv.tmp rfl) (fun hg83 => S_and rfl (AEv.cond (AEv.tmp rfl) (by first | assumption | exact gdAnd (by assumption) (by assumption))) (fun hp86 => (AEv.cond (AEv.tmp rfl) (by first | assumption | exact gdT hp86 | exact gdF hp86 | exact gdAnd (by assumption) (gdT hp86) | exact gdAnd (by assumption) (gdF hp86)))))) <|
          .cons rfl (Q_p rfl (S_or rfl (AEv.tmp rfl) (fun hp87 => (AEv.cond (AEv.tmp rfl) (by first | assumption | exact gdT hp87 | exact gdF hp87 | exact gdAnd (by assumption) (gdT hp87) | exact gdAnd (by assumption) (gdF hp87)))))) <|
          .cons rfl (Q_p rfl (S_assign rfl (AEv.tmp rfl))) <|
          .nil) ?_
      refine AC_ret ?_
      refine ret_tmp st rfl rfl (List.Sublist.refl _) (Conv.refl (List.Sublist.refl _) _) ⟨by rw [back_end l], rfl⟩ (.inl rfl)

set_option maxRecDepth 100000 in
/-- provost/provostlaw01.NumTurns -/
theorem law_NumTurns (a : Int) (ha : fits a) (b : Int) (hb : fits b) : PCalls Try.prog 6 [.int .i64 a, .int .i64 b] (.bool true) := by
  intro st
  refine ACalls_of (N := 81) Try.func6 (by kernel_rfl) rfl rfl rfl ?_
  refine AC_seq ?_
  refine AC_region ?_
  refine AL_p rfl rfl (S_assign rfl (AEv.const _)) ?_
  refine AL_nil ?_
  refine AC_seq ?_
  refine AC_seq ?_
  refine AC_region ?_
  refine AL_p rfl rfl (S_pcall rfl AEvs.nil (law_works)) ?_
  refine AL_p rfl rfl (S_not rfl (AEv.tmp rfl)) ?_
  refine AL_nil ?_
  refine AC_cond (AEv.tmp rfl) (fun hb1 => ?_) (fun hb1 => ?_)
  · simp at hb1; done
  · try simp only [Bool.and_eq_true, Bool.or_eq_true, Bool.not_eq_true', Bool.not_eq_false', Bool.and_eq_false_iff, Bool.or_eq_false_iff, decide_eq_true_eq, decide_eq_false_iff_not, gd] at hb1
    refine AC_skip ?_
    refine AC_seq ?_
    refine AC_region ?_
    refine AL_p rfl rfl (S_move rfl (AEv.tmp rfl)) ?_
    refine AL_p rfl rfl (S_move rfl (AEv.tmp rfl)) ?_
    refine AL_p rfl rfl (S_pcall rfl (AEvs.cons (AEv.tmp rfl) (AEvs.cons (AEv.tmp rfl) AEvs.nil)) (num_Add_ok _ _ (by first | assumption | decide) (by first | assumption | decide))) ?_
    refine AL_p rfl rfl (S_move rfl (AEv.tmp rfl)) ?_
    refine AL_p rfl rfl (S_extract 0 rfl (AEv.tmp rfl) rfl) ?_
    refine AL_p rfl rfl (S_extract 1 rfl (AEv.tmp rfl) rfl) ?_
    refine AL_p rfl rfl (S_assign rfl (AEv.tmp rfl)) ?_
    refine AL_p rfl rfl (S_assign rfl (AEv.tmp rfl)) ?_
    refine AL_nil ?_
    refine AC_seq ?_
    refine AC_region ?_
    refine AL_p rfl rfl (S_move rfl (AEv.tmp rfl)) ?_
    refine AL_p rfl rfl (S_move rfl (AEv.tmp rfl)) ?_
    refine AL_p rfl rfl (S_pcall rfl (AEvs.cons (AEv.tmp rfl) (AEvs.cons (AEv.tmp rfl) AEvs.nil)) (num_Add_ok _ _ (by first | assumption | decide) (by first | assumption | decide))) ?_
    refine AL_p rfl rfl (S_move rfl (AEv.tmp rfl)) ?_
    refine AL_p rfl rfl (S_extract 0 rfl (AEv.tmp rfl) rfl) ?_
    refine AL_p rfl rfl (S_extract 1 rfl (AEv.tmp rfl) rfl) ?_
    refine AL_p rfl rfl (S_assign rfl (AEv.tmp rfl)) ?_
    refine AL_p rfl rfl (S_assign rfl (AEv.tmp rfl)) ?_
    refine AL_nil ?_
    refine AC_seq ?_
    refine AC_region ?_
    refine AL_p rfl rfl (S_move rfl (AEv.tmp rfl)) ?_
    refine AL_p rfl rfl (S_move rfl (AEv.tmp rfl)) ?_
    refine AL_p rfl rfl (S_pcall rfl (AEvs.cons (AEv.tmp rfl) (AEvs.cons (AEv.tmp rfl) AEvs.nil)) (num_Mul_ok _ _ (by first | assumption | decide) (by first | assumption | decide))) ?_
    refine AL_p rfl rfl (S_move rfl (AEv.tmp rfl)) ?_
    refine AL_p rfl rfl (S_extract 0 rfl (AEv.tmp rfl) rfl) ?_
    refine AL_p rfl rfl (S_extract 1 rfl (AEv.tmp rfl) rfl) ?_
    refine AL_p rfl rfl (S_assign rfl (AEv.tmp rfl)) ?_
    refine AL_p rfl rfl (S_assign rfl (AEv.tmp rfl)) ?_
    refine AL_nil ?_
    refine AC_seq ?_
    refine AC_region ?_
    refine AL_p rfl rfl (S_move rfl (AEv.tmp rfl)) ?_
    refine AL_p rfl rfl (S_move rfl (AEv.tmp rfl)) ?_
    refine AL_p rfl rfl (S_pcall rfl (AEvs.cons (AEv.tmp rfl) (AEvs.cons (AEv.tmp rfl) AEvs.nil)) (num_Mul_ok _ _ (by first | assumption | decide) (by first | assumption | decide))) ?_
    refine AL_p rfl rfl (S_move rfl (AEv.tmp rfl)) ?_
    refine AL_p rfl rfl (S_extract 0 rfl (AEv.tmp rfl) rfl) ?_
    refine AL_p rfl rfl (S_extract 1 rfl (AEv.tmp rfl) rfl) ?_
    refine AL_p rfl rfl (S_assign rfl (AEv.tmp rfl)) ?_
    refine AL_p rfl rfl (S_assign rfl (AEv.tmp rfl)) ?_
    refine AL_nil ?_
    refine AC_seq ?_
    refine AC_seq ?_
    rw [addV_comm b a, mulV_comm b a]
    refine AC_region ?_
    refine AL_p rfl rfl (S_move rfl (AEv.tmp rfl)) ?_
    refine AL_p rfl rfl (S_move rfl (AEv.tmp rfl)) ?_
    refine AL_p rfl rfl (S_neq rfl (AEv.tmp rfl) (AEv.tmp rfl)) ?_
    refine AL_p rfl rfl (S_move rfl (AEv.tmp rfl)) ?_
    refine AL_g rfl rfl (AEv.tmp rfl) rfl (fun hg2 => S_move rfl (AEv.tmp rfl)) ?_
    refine AL_g rfl rfl (AEv.tmp rfl) rfl (fun hg5 => S_move rfl (AEv.tmp rfl)) ?_
    refine AL_g rfl rfl (AEv.tmp rfl) rfl (fun hg8 => S_neB rfl (AEv.cond (AEv.tmp rfl) (by first | assumption | exact gdAnd (by assumption) (by assumption))) (AEv.cond (AEv.tmp rfl) (by first | assumption | exact gdAnd (by assumption) (by assumption))) (by kernel_rfl)) ?_
    refine AL_p rfl rfl (S_or rfl (AEv.tmp rfl) (fun hp11 => (AEv.cond (AEv.tmp rfl) (by first | assumption | exact gdT hp11 | exact gdF hp11 | exact gdAnd (by assumption) (gdT hp11) | exact gdAnd (by assumption) (gdF hp11))))) ?_
    refine AL_p rfl rfl (S_move rfl (AEv.tmp rfl)) ?_
    refine AL_g rfl rfl (AEv.tmp rfl) rfl (fun hg12 => S_move rfl (AEv.tmp rfl)) ?_
    refine AL_g rfl rfl (AEv.tmp rfl) rfl (fun hg15 => S_move rfl (AEv.tmp rfl)) ?_
    refine AL_g rfl rfl (AEv.tmp rfl) rfl (fun hg18 => S_neq rfl (AEv.cond (AEv.tmp rfl) (by first | assumption | exact gdAnd (by assumption) (by assumption))) (AEv.cond (AEv.tmp rfl) (by first | assumption | exact gdAnd (by assumption) (by assumption)))) ?_
    refine AL_p rfl rfl (S_or rfl (AEv.tmp rfl) (fun hp21 => (AEv.cond (AEv.tmp rfl) (by first | assumption | exact gdT hp21 | exact gdF hp21 | exact gdAnd (by assumption) (gdT hp21) | exact gdAnd (by assumption) (gdF hp21))))) ?_
    refine AL_p rfl rfl (S_move rfl (AEv.tmp rfl)) ?_
    refine AL_g rfl rfl (AEv.tmp rfl) rfl (fun hg22 => S_move rfl (AEv.tmp rfl)) ?_
    refine AL_g rfl rfl (AEv.tmp rfl) rfl (fun hg25 => S_move rfl (AEv.tmp rfl)) ?_
    refine AL_g rfl rfl (AEv.tmp rfl) rfl (fun hg28 => S_neB rfl (AEv.cond (AEv.tmp rfl) (by first | assumption | exact gdAnd (by assumption) (by assumption))) (AEv.cond (AEv.tmp rfl) (by first | assumption | exact gdAnd (by assumption) (by assumption))) (by kernel_rfl)) ?_
    refine AL_p rfl rfl (S_or rfl (AEv.tmp rfl) (fun hp31 => (AEv.cond (AEv.tmp rfl) (by first | assumption | exact gdT hp31 | exact gdF hp31 | exact gdAnd (by assumption) (gdT hp31) | exact gdAnd (by assumption) (gdF hp31))))) ?_
    refine AL_nil ?_
    refine AC_cond (AEv.tmp rfl) (fun hb32 => ?_) (fun hb32 => ?_)
    · simp at hb32; done
    · try simp only [Bool.and_eq_true, Bool.or_eq_true, Bool.not_eq_true', Bool.not_eq_false', Bool.and_eq_false_iff, Bool.or_eq_false_iff, decide_eq_true_eq, decide_eq_false_iff_not, gd] at hb32
      refine AC_skip ?_
      refine AC_seq ?_
      refine AC_region ?_
      refine AL_p rfl rfl (S_move rfl (AEv.tmp rfl)) ?_
      refine AL_p rfl rfl (S_not rfl (AEv.tmp rfl)) ?_
      refine AL_p rfl rfl (S_move rfl (AEv.tmp rfl)) ?_
      refine AL_g rfl rfl (AEv.tmp rfl) rfl (fun hg33 => S_move rfl (AEv.tmp rfl)) ?_
      refine AL_g rfl rfl (AEv.tmp rfl) rfl (fun hg36 => S_move rfl (AEv.tmp rfl)) ?_
      refine AL_g rfl rfl (AEv.tmp rfl) rfl (fun hg39 => S_sub rfl (AEv.cond (AEv.tmp rfl) (by first | assumption | exact gdAnd (by assumption) (by assumption))) (AEv.cond (AEv.tmp rfl) (by first | assumption | exact gdAnd (by assumption) (by assumption)))) ?_
      refine AL_g rfl rfl (AEv.tmp rfl) rfl (fun hg42 => S_move rfl (AEv.tmp rfl)) ?_
      refine AL_g rfl rfl (AEv.tmp rfl) rfl (fun hg45 => S_eql rfl (AEv.cond (AEv.tmp rfl) (by first | assumption | exact gdAnd (by assumption) (by assumption))) (AEv.cond (AEv.tmp rfl) (by first | assumption | exact gdAnd (by assumption) (by assumption)))) ?_
      refine AL_p rfl rfl (S_or rfl (AEv.tmp rfl) (fun hp48 => (AEv.cond (AEv.tmp rfl) (by first | assumption | exact gdT hp48 | exact gdF hp48 | exact gdAnd (by assumption) (gdT hp48) | exact gdAnd (by assumption) (gdF hp48))))) ?_
      refine AL_p rfl rfl (S_move rfl (AEv.tmp rfl)) ?_
      refine AL_g rfl rfl (AEv.tmp rfl) rfl (fun hg49 => S_move rfl (AEv.tmp rfl)) ?_
      refine AL_g rfl rfl (AEv.tmp rfl) rfl (fun hg52 => S_not rfl (AEv.cond (AEv.tmp rfl) (by first | assumption | exact gdAnd (by assumption) (by assumption)))) ?_
      refine AL_g rfl rfl (AEv.tmp rfl) rfl (fun hg55 => S_move rfl (AEv.cond (AEv.tmp rfl) (by first | assumption | exact gdAnd (by assumption) (by assumption)))) ?_
      refine AL_gg rfl rfl (AEv.tmp rfl) rfl (fun hg58 hg59 hg60 => S_move rfl (AEv.tmp rfl)) ?_
      refine AL_gg rfl rfl (AEv.tmp rfl) rfl (fun hg61 hg62 hg63 => S_eql rfl (AEv.cond (AEv.tmp rfl) (by first | assumption | exact gdAnd (by assumption) (by assumption))) (AEv.const _)) ?_
      refine AL_g rfl rfl (AEv.tmp rfl) rfl (fun hg64 => S_or rfl (AEv.cond (AEv.tmp rfl) (by first | assumption | exact gdAnd (by assumption) (by assumption))) (fun hp67 => (AEv.cond (AEv.tmp rfl) (by first | assumption | exact gdT hp67 | exact gdF hp67 | exact gdAnd (by assumption) (gdT hp67) | exact gdAnd (by assumption) (gdF hp67))))) ?_
      refine AL_g rfl rfl (AEv.tmp rfl) rfl (fun hg68 => S_move rfl (AEv.cond (AEv.tmp rfl) (by first | assumption | exact gdAnd (by assumption) (by assumption)))) ?_
      refine AL_gg rfl rfl (AEv.tmp rfl) rfl (fun hg71 hg72 hg73 => S_move rfl (AEv.tmp rfl)) ?_
      refine AL_gg rfl rfl (AEv.tmp rfl) rfl (fun hg74 hg75 hg76 => S_move rfl (AEv.tmp rfl)) ?_
      refine AL_gg rfl rfl (AEv.tmp rfl) rfl (fun hg77 hg78 hg79 => S_quo rfl (AEv.cond (AEv.tmp rfl) (by first | assumption | exact gdAnd (by assumption) (by assumption))) (AEv.cond (AEv.tmp rfl) (by first | assumption | exact gdAnd (by assumption) (by assumption))) (by (try simp only [gd, Bool.and_eq_true, Bool.or_eq_true, Bool.not_eq_true', Bool.not_eq_false', decide_eq_true_eq, decide_eq_false_iff_not, Bool.or_eq_false_iff, Bool.and_eq_false_iff] at *); omega)) ?_
      refine AL_gg rfl rfl (AEv.tmp rfl) rfl (fun hg80 hg81 hg82 => S_move rfl (AEv.tmp rfl)) ?_
      refine AL_gg rfl rfl (AEv.tmp rfl) rfl (fun hg83 hg84 hg85 => S_eql rfl (AEv.cond (AEv.tmp rfl) (by first | assumption | exact gdAnd (by assumption) (by assumption))) (AEv.cond (AEv.tmp rfl) (by first | assumption | exact gdAnd (by assumption) (by assumption)))) ?_
      refine AL_g rfl rfl (AEv.tmp rfl) rfl (fun hg86 => S_or rfl (AEv.cond (AEv.tmp rfl) (by first | assumption | exact gdAnd (by assumption) (by assumption))) (fun hp89 => (AEv.cond (AEv.tmp rfl) (by first | assumption | exact gdT hp89 | exact gdF hp89 | exact gdAnd (by assumption) (gdT hp89) | exact gdAnd (by assumption) (gdF hp89))))) ?_
      refine AL_p rfl rfl (S_and rfl (AEv.tmp rfl) (fun hp90 => (AEv.cond (AEv.tmp rfl) (by first | assumption | exact gdT hp90 | exact gdF hp90 | exact gdAnd (by assumption) (gdT hp90) | exact gdAnd (by assumption) (gdF hp90))))) ?_
      refine AL_p rfl rfl (S_assign rfl (AEv.tmp rfl)) ?_
      refine AL_nil ?_
      refine AC_ret ?_
      refine ret_tmp st rfl rfl (List.Sublist.refl _) (Conv.refl (List.Sublist.refl _) _) ⟨by rw [turns_end ha], rfl⟩ (.inl rfl)

set_option maxRecDepth 100000 in
/-- provost/provostlaw01.NumTexts -/
theorem law_NumTexts (n : Int) (hn : fits n) (l : List UInt8) (most : Int) (hm : fits most) : PCalls Try.prog 7 [.int .i64 n, .S l, .int .i64 most] (.bool true) := by
  intro st
  refine ACalls_of (N := 41) Try.func7 (by kernel_rfl) rfl rfl rfl ?_
  refine AC_seq ?_
  refine AC_region ?_
  refine AL_p rfl rfl (S_assign rfl (AEv.const _)) ?_
  refine AL_nil ?_
  refine AC_seq ?_
  refine AC_region ?_
  refine AL_p rfl rfl (S_move rfl (AEv.tmp rfl)) ?_
  refine AL_p rfl rfl (S_move rfl (AEv.tmp rfl)) ?_
  refine AL_p rfl rfl (S_pcall rfl (AEvs.cons (AEv.tmp rfl) (AEvs.cons (AEv.tmp rfl) AEvs.nil)) (num_Parse_ok _ _)) ?_
  refine AL_p rfl rfl (S_move rfl (AEv.tmp rfl)) ?_
  refine AL_p rfl rfl (S_extract 0 rfl (AEv.tmp rfl) rfl) ?_
  refine AL_p rfl rfl (S_extract 1 rfl (AEv.tmp rfl) rfl) ?_
  refine AL_p rfl rfl (S_assign rfl (AEv.tmp rfl)) ?_
  refine AL_p rfl rfl (S_assign rfl (AEv.tmp rfl)) ?_
  refine AL_nil ?_
  refine AC_seq ?_
  refine AC_region ?_
  refine AL_p rfl rfl (S_move rfl (AEv.tmp rfl)) ?_
  refine AL_p rfl rfl (S_move rfl (AEv.tmp rfl)) ?_
  refine AL_p rfl rfl (S_pcall rfl (AEvs.cons (AEv.tmp rfl) (AEvs.cons (AEv.tmp rfl) AEvs.nil)) (ref_Parse_ok _ _ (by first | assumption | decide))) ?_
  refine AL_p rfl rfl (S_move rfl (AEv.tmp rfl)) ?_
  refine AL_p rfl rfl (S_extract 0 rfl (AEv.tmp rfl) rfl) ?_
  refine AL_p rfl rfl (S_extract 1 rfl (AEv.tmp rfl) rfl) ?_
  refine AL_p rfl rfl (S_assign rfl (AEv.tmp rfl)) ?_
  refine AL_p rfl rfl (S_assign rfl (AEv.tmp rfl)) ?_
  refine AL_nil ?_
  refine AC_seq ?_
  refine AC_region ?_
  refine AL_p rfl rfl (S_move rfl (AEv.tmp rfl)) ?_
  refine AL_p rfl rfl (S_pcall rfl (AEvs.cons (AEv.tmp rfl) AEvs.nil) (num_Text_ok _ (by first | assumption | decide))) ?_
  refine AL_p rfl rfl (S_move rfl (AEv.tmp rfl)) ?_
  refine AL_p rfl rfl (S_pcall rfl (AEvs.cons (AEv.tmp rfl) AEvs.nil) (ref_Text_ok _ (by first | assumption | exact wrap_fits _))) ?_
  refine AL_p rfl rfl (S_eqS rfl (AEv.tmp rfl) (AEv.tmp rfl)) ?_
  refine AL_p rfl rfl (S_move rfl (AEv.tmp rfl)) ?_
  refine AL_g rfl rfl (AEv.tmp rfl) rfl (fun hg1 => S_move rfl (AEv.tmp rfl)) ?_
  refine AL_g rfl rfl (AEv.tmp rfl) rfl (fun hg4 => S_move rfl (AEv.tmp rfl)) ?_
  refine AL_g rfl rfl (AEv.tmp rfl) rfl (fun hg7 => S_eql rfl (AEv.cond (AEv.tmp rfl) (by first | assumption | exact gdAnd (by assumption) (by assumption))) (AEv.cond (AEv.tmp rfl) (by first | assumption | exact gdAnd (by assumption) (by assumption)))) ?_
  refine AL_p rfl rfl (S_and rfl (AEv.tmp rfl) (fun hp10 => (AEv.cond (AEv.tmp rfl) (by first | assumption | exact gdT hp10 | exact gdF hp10 | exact gdAnd (by assumption) (gdT hp10) | exact gdAnd (by assumption) (gdF hp10))))) ?_
  refine AL_p rfl rfl (S_move rfl (AEv.tmp rfl)) ?_
  refine AL_g rfl rfl (AEv.tmp rfl) rfl (fun hg11 => S_move rfl (AEv.tmp rfl)) ?_
  refine AL_g rfl rfl (AEv.tmp rfl) rfl (fun hg14 => S_move rfl (AEv.tmp rfl)) ?_
  refine AL_g rfl rfl (AEv.tmp rfl) rfl (fun hg17 => S_eqB rfl (AEv.cond (AEv.tmp rfl) (by first | assumption | exact gdAnd (by assumption) (by assumption))) (AEv.cond (AEv.tmp rfl) (by first | assumption | exact gdAnd (by assumption) (by assumption))) (by kernel_rfl)) ?_
  refine AL_p rfl rfl (S_and rfl (AEv.tmp rfl) (fun hp20 => (AEv.cond (AEv.tmp rfl) (by first | assumption | exact gdT hp20 | exact gdF hp20 | exact gdAnd (by assumption) (gdT hp20) | exact gdAnd (by assumption) (gdF hp20))))) ?_
  refine AL_p rfl rfl (S_move rfl (AEv.tmp rfl)) ?_
  refine AL_g rfl rfl (AEv.tmp rfl) rfl (fun hg21 => S_pcall rfl AEvs.nil (law_works)) ?_
  refine AL_p rfl rfl (S_and rfl (AEv.tmp rfl) (fun hp24 => (AEv.cond (AEv.tmp rfl) (by first | assumption | exact gdT hp24 | exact gdF hp24 | exact gdAnd (by assumption) (gdT hp24) | exact gdAnd (by assumption) (gdF hp24))))) ?_
  refine AL_p rfl rfl (S_assign rfl (AEv.tmp rfl)) ?_
  refine AL_nil ?_
  refine AC_ret ?_
  refine ret_tmp st rfl rfl (List.Sublist.refl _) (Conv.refl (List.Sublist.refl _) _) ⟨by first | rfl | (simp; done), rfl⟩ (.inl rfl)

set_option maxRecDepth 100000 in
/-- provost/provostlaw01.NumReads -/
theorem law_NumReads (a : Int) (ha : fits a) (b : Int) (hb : fits b) : PCalls Try.prog 8 [.int .i64 a, .int .i64 b] (.bool true) := by
  intro st
  refine ACalls_of (N := 46) Try.func8 (by kernel_rfl) rfl rfl rfl ?_
  have ht := texts_same a b
  refine AC_seq ?_
  refine AC_region ?_
  refine AL_p rfl rfl (S_assign rfl (AEv.const _)) ?_
  refine AL_nil ?_
  refine AC_seq ?_
  refine AC_seq ?_
  refine AC_region ?_
  refine AL_p rfl rfl (S_pcall rfl AEvs.nil (law_works)) ?_
  refine AL_p rfl rfl (S_not rfl (AEv.tmp rfl)) ?_
  refine AL_p rfl rfl (S_move rfl (AEv.tmp rfl)) ?_
  refine AL_g rfl rfl (AEv.tmp rfl) rfl (fun hg1 => S_move rfl (AEv.tmp rfl)) ?_
  refine AL_g rfl rfl (AEv.tmp rfl) rfl (fun hg4 => S_pcall rfl (AEvs.cons (AEv.cond (AEv.tmp rfl) (by first | assumption | exact gdAnd (by assumption) (by assumption))) AEvs.nil) (num_Text_ok _ (by first | assumption | decide))) ?_
  refine AL_g rfl rfl (AEv.tmp rfl) rfl (fun hg7 => S_move rfl (AEv.tmp rfl)) ?_
  refine AL_g rfl rfl (AEv.tmp rfl) rfl (fun hg10 => S_pcall rfl (AEvs.cons (AEv.cond (AEv.tmp rfl) (by first | assumption | exact gdAnd (by assumption) (by assumption))) AEvs.nil) (num_Text_ok _ (by first | assumption | decide))) ?_
  refine AL_g rfl rfl (AEv.tmp rfl) rfl (fun hg13 => S_eqS rfl (AEv.cond (AEv.tmp rfl) (by first | assumption | exact gdAnd (by assumption) (by assumption))) (AEv.cond (AEv.tmp rfl) (by first | assumption | exact gdAnd (by assumption) (by assumption)))) ?_
  refine AL_g rfl rfl (AEv.tmp rfl) rfl (fun hg16 => S_move rfl (AEv.tmp rfl)) ?_
  refine AL_g rfl rfl (AEv.tmp rfl) rfl (fun hg19 => S_move rfl (AEv.tmp rfl)) ?_
  refine AL_g rfl rfl (AEv.tmp rfl) rfl (fun hg22 => S_eql rfl (AEv.cond (AEv.tmp rfl) (by first | assumption | exact gdAnd (by assumption) (by assumption))) (AEv.cond (AEv.tmp rfl) (by first | assumption | exact gdAnd (by assumption) (by assumption)))) ?_
  refine AL_g rfl rfl (AEv.tmp rfl) rfl (fun hg25 => S_neB rfl (AEv.cond (AEv.tmp rfl) (by first | assumption | exact gdAnd (by assumption) (by assumption))) (AEv.cond (AEv.tmp rfl) (by first | assumption | exact gdAnd (by assumption) (by assumption))) (by kernel_rfl)) ?_
  refine AL_p rfl rfl (S_or rfl (AEv.tmp rfl) (fun hp28 => (AEv.cond (AEv.tmp rfl) (by first | assumption | exact gdT hp28 | exact gdF hp28 | exact gdAnd (by assumption) (gdT hp28) | exact gdAnd (by assumption) (gdF hp28))))) ?_
  refine AL_nil ?_
  refine AC_cond (AEv.tmp rfl) (fun hb29 => ?_) (fun hb29 => ?_)
  · simp [ht] at hb29
  · try simp only [Bool.and_eq_true, Bool.or_eq_true, Bool.not_eq_true', Bool.not_eq_false', Bool.and_eq_false_iff, Bool.or_eq_false_iff, decide_eq_true_eq, decide_eq_false_iff_not, gd] at hb29
    refine AC_skip ?_
    refine AC_seq ?_
    refine AC_region ?_
    refine AL_p rfl rfl (S_move rfl (AEv.tmp rfl)) ?_
    refine AL_p rfl rfl (S_pcall rfl (AEvs.cons (AEv.tmp rfl) AEvs.nil) (num_Text_ok _ (by first | assumption | decide))) ?_
    refine AL_p rfl rfl (S_move rfl (AEv.tmp rfl)) ?_
    refine AL_p rfl rfl (S_move rfl (AEv.tmp rfl)) ?_
    refine AL_p rfl rfl (S_max rfl (AEv.tmp rfl) (AEv.tmp rfl)) ?_
    refine AL_p rfl rfl (S_pcall rfl (AEvs.cons (AEv.tmp rfl) (AEvs.cons (AEv.tmp rfl) AEvs.nil)) (num_Parse_ok _ _)) ?_
    refine AL_p rfl rfl (S_move rfl (AEv.tmp rfl)) ?_
    refine AL_p rfl rfl (S_extract 0 rfl (AEv.tmp rfl) rfl) ?_
    refine AL_p rfl rfl (S_extract 1 rfl (AEv.tmp rfl) rfl) ?_
    refine AL_p rfl rfl (S_assign rfl (AEv.tmp rfl)) ?_
    refine AL_p rfl rfl (S_assign rfl (AEv.tmp rfl)) ?_
    refine AL_nil ?_
    refine AC_seq ?_
    refine AC_region ?_
    refine AL_p rfl rfl (S_move rfl (AEv.tmp rfl)) ?_
    refine AL_p rfl rfl (S_move rfl (AEv.tmp rfl)) ?_
    refine AL_p rfl rfl (S_geq rfl (AEv.tmp rfl) (AEv.const _)) ?_
    refine AL_p rfl rfl (S_eqB rfl (AEv.tmp rfl) (AEv.tmp rfl) (by kernel_rfl)) ?_
    refine AL_p rfl rfl (S_move rfl (AEv.tmp rfl)) ?_
    refine AL_g rfl rfl (AEv.tmp rfl) rfl (fun hg30 => S_move rfl (AEv.tmp rfl)) ?_
    refine AL_g rfl rfl (AEv.tmp rfl) rfl (fun hg33 => S_move rfl (AEv.tmp rfl)) ?_
    refine AL_g rfl rfl (AEv.tmp rfl) rfl (fun hg36 => S_eql rfl (AEv.cond (AEv.tmp rfl) (by first | assumption | exact gdAnd (by assumption) (by assumption))) (AEv.cond (AEv.tmp rfl) (by first | assumption | exact gdAnd (by assumption) (by assumption)))) ?_
    refine AL_g rfl rfl (AEv.tmp rfl) rfl (fun hg39 => S_move rfl (AEv.cond (AEv.tmp rfl) (by first | assumption | exact gdAnd (by assumption) (by assumption)))) ?_
    refine AL_gg rfl rfl (AEv.tmp rfl) rfl (fun hg42 hg43 hg44 => S_move rfl (AEv.tmp rfl)) ?_
    refine AL_gg rfl rfl (AEv.tmp rfl) rfl (fun hg45 hg46 hg47 => S_not rfl (AEv.cond (AEv.tmp rfl) (by first | assumption | exact gdAnd (by assumption) (by assumption)))) ?_
    refine AL_gg rfl rfl (AEv.tmp rfl) rfl (fun hg48 hg49 hg50 => S_move rfl (AEv.cond (AEv.tmp rfl) (by first | assumption | exact gdAnd (by assumption) (by assumption)))) ?_
    refine AL_gg rfl rfl (AEv.tmp rfl) rfl (fun hg51 hg52 hg53 => S_move rfl (AEv.tmp rfl)) ?_
    refine AL_gg rfl rfl (AEv.tmp rfl) rfl (fun hg54 hg55 hg56 => S_eql rfl (AEv.cond (AEv.tmp rfl) (by first | assumption | exact gdAnd (by assumption) (by assumption))) (AEv.const _)) ?_
    refine AL_gg rfl rfl (AEv.tmp rfl) rfl (fun hg57 hg58 hg59 => S_and rfl (AEv.cond (AEv.tmp rfl) (by first | assumption | exact gdAnd (by assumption) (by assumption))) (fun hp60 => (AEv.cond (AEv.tmp rfl) (by first | assumption | exact gdT hp60 | exact gdF hp60 | exact gdAnd (by assumption) (gdT hp60) | exact gdAnd (by assumption) (gdF hp60))))) ?_
    refine AL_g rfl rfl (AEv.tmp rfl) rfl (fun hg61 => S_or rfl (AEv.cond (AEv.tmp rfl) (by first | assumption | exact gdAnd (by assumption) (by assumption))) (fun hp64 => (AEv.cond (AEv.tmp rfl) (by first | assumption | exact gdT hp64 | exact gdF hp64 | exact gdAnd (by assumption) (gdT hp64) | exact gdAnd (by assumption) (gdF hp64))))) ?_
    refine AL_p rfl rfl (S_and rfl (AEv.tmp rfl) (fun hp65 => (AEv.cond (AEv.tmp rfl) (by first | assumption | exact gdT hp65 | exact gdF hp65 | exact gdAnd (by assumption) (gdT hp65) | exact gdAnd (by assumption) (gdF hp65))))) ?_
    refine AL_p rfl rfl (S_assign rfl (AEv.tmp rfl)) ?_
    refine AL_nil ?_
    refine AC_ret ?_
    refine ret_tmp st rfl rfl (List.Sublist.refl _) (Conv.refl (List.Sublist.refl _) _) ⟨by rw [parse_text ha (by omega)]; split <;> simp_all, rfl⟩ (.inl rfl)

end Go.Proofs.Ytjlfbahdfmhegaa
