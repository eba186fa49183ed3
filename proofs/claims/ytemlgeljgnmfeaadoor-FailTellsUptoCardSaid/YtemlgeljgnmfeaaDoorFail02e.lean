/-
The walks of Go functions in the logic AL: what each of them answers.
Conditions: those of each theorem.
-/
import Derived.Test.YtemlgeljgnmfeaaDoorFail02d
set_option linter.unusedVariables false
set_option linter.unusedSimpArgs false
namespace Go.Proofs.YtemlgeljgnmfeaaDoor
open Go.AL Go.NumSpec

set_option maxRecDepth 100000 in
/-- provost/fail.New -/
theorem fail_New_zero (ps : List (List UInt8)) : PCalls Tryd.prog 8 [.int .i64 0, .sl (strsV ps)] (.nili) := by
  intro st
  refine ACalls_of (N := 25) Tryd.func8 (by kernel_rfl) rfl rfl rfl ?_
  refine AC_seq ?_
  refine AC_region ?_
  refine AL_p rfl rfl (S_assign rfl (AEv.const _)) ?_
  refine AL_nil ?_
  refine AC_seq ?_
  refine AC_seq ?_
  refine AC_region ?_
  refine AL_p rfl rfl (S_move rfl (AEv.tmp rfl)) ?_
  refine AL_p rfl rfl (S_eql rfl (AEv.tmp rfl) (AEv.const _)) ?_
  refine AL_nil ?_
  refine AC_cond (AEv.tmp rfl) (fun hb1 => ?_) (fun hb1 => ?_)
  · try simp only [Bool.and_eq_true, Bool.or_eq_true, Bool.not_eq_true', Bool.not_eq_false', Bool.and_eq_false_iff, Bool.or_eq_false_iff, decide_eq_true_eq, decide_eq_false_iff_not, gd] at hb1
    refine AC_seq ?_
    refine AC_region ?_
    refine AL_p rfl rfl (S_assign rfl (AEv.const _)) ?_
    refine AL_nil ?_
    refine AC_ret ?_
    refine ret_tmp st rfl rfl (Sub.l (List.Sublist.refl _)) (Conv.refl (Sub.l (List.Sublist.refl _)) _) ⟨by first | rfl | (simp; done), rfl⟩ (.inl rfl)
  · simp at hb1; done

set_option maxRecDepth 100000 in
/-- provost/provostlaw02.FailWraps -/
theorem law_FailWraps (c : Int) (at_ : List (List UInt8)) (more : List UInt8) : GCalls Tryd.prog tabs 4 [.int .i64 c, .sl (strsV at_), .S more] (.bool true) := by
  intro st hG
  refine ACalls_of (N := 50) Tryd.func4 (by kernel_rfl) rfl rfl rfl ?_
  have hal := strsV_len at_
  refine AC_seq ?_
  refine AC_region ?_
  refine AL_p rfl rfl (S_assign rfl (AEv.const _)) ?_
  refine AL_nil ?_
  refine AC_seq ?_
  refine AC_seq ?_
  refine AC_region ?_
  refine AL_p rfl rfl (S_gcall rfl AEvs.nil ((law_works) _ (fun p hp => by first | exact hG p hp | (simp [hG p hp]; done)))) ?_
  refine AL_p rfl rfl (S_not rfl (AEv.tmp rfl)) ?_
  refine AL_nil ?_
  refine AC_cond (AEv.tmp rfl) (fun hb1 => ?_) (fun hb1 => ?_)
  · simp at hb1; done
  · try simp only [Bool.and_eq_true, Bool.or_eq_true, Bool.not_eq_true', Bool.not_eq_false', Bool.and_eq_false_iff, Bool.or_eq_false_iff, decide_eq_true_eq, decide_eq_false_iff_not, gd] at hb1
    refine AC_skip ?_
    refine AC_seq ?_
    refine AC_seq ?_
    refine AC_region ?_
    refine AL_p rfl rfl (S_move rfl (AEv.tmp rfl)) ?_
    refine AL_p rfl rfl (S_eql rfl (AEv.tmp rfl) (AEv.const _)) ?_
    refine AL_p rfl rfl (S_move rfl (AEv.tmp rfl)) ?_
    refine AL_g rfl rfl (AEv.tmp rfl) rfl (fun hg2 => S_move rfl (AEv.tmp rfl)) ?_
    refine AL_g rfl rfl (AEv.tmp rfl) rfl (fun hg5 => S_len (e := 9) rfl (AEv.cond (AEv.tmp rfl) (by first | assumption | exact gdAnd (by assumption) (by assumption))) (by kernel_rfl)) ?_
    refine AL_g rfl rfl (AEv.tmp rfl) rfl (fun hg8 => S_gtr rfl (AEv.cond (AEv.tmp rfl) (by first | assumption | exact gdAnd (by assumption) (by assumption))) (AEv.const _)) ?_
    refine AL_p rfl rfl (S_or rfl (AEv.tmp rfl) (fun hp11 => (AEv.cond (AEv.tmp rfl) (by first | assumption | exact gdT hp11 | exact gdF hp11 | exact gdAnd (by assumption) (gdT hp11) | exact gdAnd (by assumption) (gdF hp11))))) ?_
    refine AL_nil ?_
    refine AC_cond (AEv.tmp rfl) (fun hb12 => ?_) (fun hb12 => ?_)
    · try simp only [Bool.and_eq_true, Bool.or_eq_true, Bool.not_eq_true', Bool.not_eq_false', Bool.and_eq_false_iff, Bool.or_eq_false_iff, decide_eq_true_eq, decide_eq_false_iff_not, gd] at hb12
      refine AC_seq ?_
      refine AC_region ?_
      refine AL_p rfl rfl (S_move rfl (AEv.tmp rfl)) ?_
      refine AL_p rfl rfl (S_pcall rfl (AEvs.cons (AEv.const _) (AEvs.cons (AEv.tmp rfl) AEvs.nil)) (fail_New_zero at_)) ?_
      refine AL_p rfl rfl (S_move rfl (AEv.tmp rfl)) ?_
      refine AL_p rfl rfl (S_pcall rfl (AEvs.cons (AEv.tmp rfl) (AEvs.cons (AEv.tmp rfl) AEvs.nil)) (fail_In_ok none more)) ?_
      refine AL_p rfl rfl (S_eqlE (er_is 27 49 (erIn none more)) rfl (AEv.tmp rfl) (by kernel_rfl)) ?_
      refine AL_p rfl rfl (S_assign rfl (AEv.tmp rfl)) ?_
      refine AL_nil ?_
      refine AC_ret ?_
      refine ret_tmp st rfl rfl (Sub.l (List.Sublist.refl _)) (Conv.refl (Sub.l (List.Sublist.refl _)) _) ⟨rfl, rfl⟩ (.inl rfl)
    · try simp only [Bool.and_eq_true, Bool.or_eq_true, Bool.not_eq_true', Bool.not_eq_false', Bool.and_eq_false_iff, Bool.or_eq_false_iff, decide_eq_true_eq, decide_eq_false_iff_not, gd] at hb12
      have hc0 : c ≠ 0 := by omega
      have hal5 : at_.length ≤ 50 := by omega
      refine AC_skip ?_
      refine AC_seq ?_
      refine AC_region ?_
      refine AL_p rfl rfl (S_move rfl (AEv.tmp rfl)) ?_
      refine AL_p rfl rfl (S_move rfl (AEv.tmp rfl)) ?_
      refine AL_p rfl rfl (S_pcall rfl (AEvs.cons (AEv.tmp rfl) (AEvs.cons (AEv.tmp rfl) AEvs.nil)) (fail_New_ok c at_ (by omega))) ?_
      refine AL_p rfl rfl ((S_assign rfl (AEv.tmp rfl)).ofV (V' := erV 27 49 (some (c, at_))) (by rw [erNew_some hc0])) ?_
      refine AL_nil ?_
      refine AC_seq ?_
      refine AC_region ?_
      refine AL_p rfl rfl (S_move rfl (AEv.tmp rfl)) ?_
      refine AL_p rfl rfl (S_move rfl (AEv.tmp rfl)) ?_
      refine AL_p rfl rfl (S_pcall rfl (AEvs.cons (AEv.tmp rfl) (AEvs.cons (AEv.tmp rfl) AEvs.nil)) (fail_In_ok (some (c, at_)) more)) ?_
      refine AL_p rfl rfl (S_assign rfl (AEv.tmp rfl)) ?_
      refine AL_nil ?_
      refine AC_seq ?_
      refine AC_region ?_
      refine AL_p rfl rfl (S_move rfl (AEv.tmp rfl)) ?_
      refine AL_p rfl rfl (S_gcall rfl (AEvs.cons (AEv.tmp rfl) AEvs.nil) ((fail_Code_ok (erIn (some (c, at_)) more)) _ (fun p hp => by first | exact hG p hp | (simp [hG p hp]; done)))) ?_
      refine AL_p rfl rfl (S_move rfl (AEv.tmp rfl)) ?_
      refine AL_p rfl rfl (S_gcall rfl (AEvs.cons (AEv.tmp rfl) AEvs.nil) ((fail_Code_ok (some (c, at_))) _ (fun p hp => by first | exact hG p hp | (simp [hG p hp]; done)))) ?_
      refine AL_p rfl rfl (S_eql rfl (AEv.tmp rfl) (AEv.tmp rfl)) ?_
      refine AL_p rfl rfl (S_move rfl (AEv.tmp rfl)) ?_
      refine AL_gTp rfl rfl (AEv.tmp rfl) (by simp [gd, erIn, erCode, erPath]) rfl (S_move rfl (AEv.tmp rfl)) ?_
      refine AL_gTp rfl rfl (AEv.tmp rfl) (by simp [gd, erIn, erCode, erPath]) rfl (S_gcall rfl (AEvs.cons (AEv.tmp rfl) AEvs.nil) ((fail_Path_ok (erIn (some (c, at_)) more) (by show (more :: at_).length ≤ _; simp only [List.length_cons]; omega)) _ (fun p hp => by first | exact hG p hp | (simp [hG p hp]; done)))) ?_
      refine AL_gTp rfl rfl (AEv.tmp rfl) (by simp [gd, erIn, erCode, erPath]) rfl (S_move rfl (AEv.tmp rfl)) ?_
      refine AL_gT rfl rfl (AEv.tmp rfl) (by simp [gd, erIn, erCode, erPath]) rfl (S_buildOwn (e := 9) 1 rfl (AEvs.cons (AEv.tmp rfl) AEvs.nil) rfl (by kernel_rfl) (by kernel_rfl) (by simp [AV.flat, AV.one, AV.cells, Value.oneCell']) (by decide) (by decide) (by decide)) ?_
      rintro _ _ ⟨b3, rfl, rfl⟩
      refine AL_gTp rfl rfl (AEv.tmp rfl) (by simp [gd, erIn, erCode, erPath]) rfl (S_move rfl (AEv.tmp rfl)) ?_
      refine AL_gTp rfl rfl (AEv.tmp rfl) (by simp [gd, erIn, erCode, erPath]) rfl (S_gcall rfl (AEvs.cons (AEv.tmp rfl) AEvs.nil) ((fail_Path_ok (some (c, at_)) (by show at_.length ≤ _; omega)) _ (fun p hp => by first | exact hG p hp | (simp [hG p hp]; done)))) ?_
      refine AL_gT rfl rfl (AEv.tmp rfl) (by simp [gd, erIn, erCode, erPath]) rfl (S_appendRowAny (e := 9) (size := 1) (bytes := 16) (k := 0) (b := b3) (cap := 1) (xs := [.S more]) (ys := strsV at_) [] st rfl (AEv.tmp rfl) (AEv.tmp rfl) rfl (Nat.le_refl _) (by kernel_rfl) (by kernel_rfl) (by kernel_rfl) (fun x hx => by simp only [List.mem_singleton] at hx; subst hx; rfl) (fun x hx => by obtain ⟨q, _, rfl⟩ := List.mem_map.1 hx; exact ⟨rfl, rfl⟩) (by rw [hal]; simp only [List.length_singleton]; omega) (by rw [hal]; simp only [List.length_singleton]; omega)) ?_
      rintro _ _ ⟨b9, k9, cap9, hc9, rfl, rfl⟩
      refine AL_gTp rfl rfl (AEv.tmp rfl) (by simp [gd, erIn, erCode, erPath]) rfl (S_pcall rfl (AEvs.cons (AEv.tmp rfl) (AEvs.cons ((AEv.tmp rfl).le (Le_own (p := .row b9 k9 cap9) (xs := [AV.S more] ++ strsV at_) hc9)) AEvs.nil)) (book_SameTexts_ok (erPath (erIn (some (c, at_)) more)) (more :: at_) (by show (more :: at_).length ≤ _; simp only [List.length_cons]; omega) (by simp only [List.length_cons]; omega))) ?_
      refine AL_p rfl rfl (S_and rfl (AEv.tmp rfl) (fun hp13 => (AEv.tmp rfl))) ?_
      refine AL_p rfl rfl (S_move rfl (AEv.tmp rfl)) ?_
      refine AL_gTp rfl rfl (AEv.tmp rfl) (by simp [gd, erIn, erCode, erPath]) rfl (S_move rfl (AEv.tmp rfl)) ?_
      refine AL_gTp rfl rfl (AEv.tmp rfl) (by simp [gd, erIn, erCode, erPath]) rfl (S_gcall rfl (AEvs.cons (AEv.tmp rfl) AEvs.nil) ((fail_Path_ok (some (c, at_)) (by show at_.length ≤ _; omega)) _ (fun p hp => by first | exact hG p hp | (simp [hG p hp]; done)))) ?_
      refine AL_gTp rfl rfl (AEv.tmp rfl) (by simp [gd, erIn, erCode, erPath]) rfl (S_move rfl (AEv.tmp rfl)) ?_
      refine AL_gTp rfl rfl (AEv.tmp rfl) (by simp [gd, erIn, erCode, erPath]) rfl (S_pcall rfl (AEvs.cons (AEv.tmp rfl) (AEvs.cons (AEv.tmp rfl) AEvs.nil)) (book_SameTexts_ok (erPath (some (c, at_))) at_ (by show at_.length ≤ _; omega) (by omega))) ?_
      refine AL_p rfl rfl (S_and rfl (AEv.tmp rfl) (fun hp14 => (AEv.tmp rfl))) ?_
      refine AL_p rfl rfl (S_assign rfl (AEv.tmp rfl)) ?_
      refine AL_nil ?_
      refine AC_ret ?_
      refine ret_tmp st rfl rfl (Sub.l (List.sublist_append_right _ _)) (Conv.refl (Sub.l (List.sublist_append_right _ _)) _) ⟨by simp [erIn, erCode, erPath], rfl⟩ (.inl rfl)

theorem row_FailWraps (c : Int) (hc : fits c) (a : List (List UInt8)) (ha : ∀ y ∈ a, y.length ≤ 9223372036854775807) (m : List UInt8) (hm : m.length ≤ 9223372036854775807) : GCalls Tryd.prog tabs 4 [.int .i64 c, .sl (strsV a), .S m] (.bool true) := law_FailWraps c a m

end Go.Proofs.YtemlgeljgnmfeaaDoor
