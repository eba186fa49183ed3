/-
The walks of Go functions in the logic AL: what each of them answers.
Conditions: those of each theorem.
-/
import Derived.Test.YtbnimcdcgmjeaaaWire04b
set_option linter.unusedVariables false
set_option linter.unusedSimpArgs false
namespace Go.Proofs.Ytbnimcdcgmjeaaa
open Go.AL Go.NumSpec

set_option maxRecDepth 100000 in
/-- provost/provostlaw04.works -/
theorem law_works : PCalls Try.prog 7 [] (.bool true) := by
  intro st
  refine ACalls_of (N := 50) Try.func7 (by kernel_rfl) rfl rfl rfl ?_
  have e1 := works_w1
  have e2 := works_w2
  have e3 := works_r1
  have e4 := works_r2
  have e5 := works_r3
  refine AC_seq ?_
  refine AC_region ?_
  refine AL_p rfl rfl (S_assign rfl (AEv.const _)) ?_
  refine AL_nil ?_
  refine AC_seq ?_
  refine AC_region ?_
  refine AL_step rfl rfl (S_call rfl AEvs.nil (wire_Write_ok st)) ?_
  rintro _ _ ⟨_, ⟨b1, rfl, rfl⟩, rfl⟩
  refine AL_p rfl rfl (S_assign rfl (AEv.tmp rfl)) ?_
  refine AL_nil ?_
  refine AC_seq ?_
  refine AC_seq ?_
  refine AC_region ?_
  refine AL_p rfl rfl (S_move rfl (AEv.tmp rfl)) ?_
  refine AL_p rfl rfl (S_eqlNil rfl (AEv.tmp rfl) (AEv.const _) (by kernel_rfl)) ?_
  refine AL_nil ?_
  refine AC_cond (AEv.tmp rfl) (fun hb1 => ?_) (fun hb1 => ?_)
  · simp at hb1; done
  · try simp only [Bool.and_eq_true, Bool.or_eq_true, Bool.not_eq_true', Bool.not_eq_false', Bool.and_eq_false_iff, Bool.or_eq_false_iff, decide_eq_true_eq, decide_eq_false_iff_not, gd] at hb1
    refine AC_skip ?_
    refine AC_seq ?_
    refine AC_region ?_
    refine AL_p rfl rfl (S_move rfl (AEv.tmp rfl)) ?_
    refine AL_step rfl rfl (S_call rfl (AEvs.cons (AEv.tmp rfl) (AEvs.cons (AEv.const _) AEvs.nil)) (w_Num_ok b1 false .nil [] 0 rfl 300 (by decide) (by decide) st)) ?_
    rintro _ _ ⟨_, ⟨u1, q1, hq1, rfl, rfl⟩, rfl⟩
    rw [e1] at hq1 ⊢
    rw [if_neg (by decide)]
    refine AL_nil ?_
    refine AC_seq ?_
    refine AC_region ?_
    refine AL_p rfl rfl (S_move rfl (AEv.tmp rfl)) ?_
    refine AL_step rfl rfl (S_call rfl (AEvs.cons (AEv.tmp rfl) (AEvs.cons (AEv.S _) AEvs.nil)) (w_Text_ok b1 u1 q1 [172, 2] 0 hq1 [104, 105] (by decide) st)) ?_
    rintro _ _ ⟨_, ⟨u2, q2, hq2, rfl, rfl⟩, rfl⟩
    rw [e2] at hq2 ⊢
    refine AL_nil ?_
    refine AC_seq ?_
    refine AC_region ?_
    refine AL_p rfl rfl (S_move rfl (AEv.tmp rfl)) ?_
    refine AL_step rfl rfl (S_call rfl (AEvs.cons (AEv.tmp rfl) (AEvs.cons (AEv.const _) AEvs.nil)) (w_Bool_ok b1 u2 q2 [172, 2, 2, 104, 105] 0 hq2 true (by decide) st)) ?_
    rintro _ _ ⟨_, ⟨u3, q3, hq3, rfl, rfl⟩, rfl⟩
    
    refine AL_nil ?_
    refine AC_seq ?_
    refine AC_region ?_
    refine AL_p rfl rfl (S_move rfl (AEv.tmp rfl)) ?_
    refine AL_step rfl rfl (S_call rfl (AEvs.cons (AEv.tmp rfl) AEvs.nil) (w_End_ok b1 u3 q3 [172, 2, 2, 104, 105, 1] 0 hq3 st)) ?_
    rintro _ _ ⟨_, ⟨cs1, rfl, rfl⟩, rfl⟩
    refine AL_p rfl rfl (S_move rfl (AEv.tmp rfl)) ?_
    refine AL_p rfl rfl (S_extract 0 rfl (AEv.tmp rfl) rfl) ?_
    refine AL_p rfl rfl (S_extract 1 rfl (AEv.tmp rfl) rfl) ?_
    refine AL_p rfl rfl (S_assign rfl (AEv.tmp rfl)) ?_
    refine AL_p rfl rfl (S_assign rfl (AEv.tmp rfl)) ?_
    refine AL_nil ?_
    refine AC_seq ?_
    refine AC_region ?_
    refine AL_p rfl rfl (S_move rfl (AEv.tmp rfl)) ?_
    refine AL_step rfl rfl (S_call rfl (AEvs.cons (AEv.tmp rfl) AEvs.nil) (wire_Read_ok [172, 2, 2, 104, 105, 1] _)) ?_
    rintro _ _ ⟨_, ⟨b2, rfl, rfl⟩, rfl⟩
    refine AL_p rfl rfl (S_assign rfl (AEv.tmp rfl)) ?_
    refine AL_nil ?_
    refine AC_seq ?_
    refine AC_region ?_
    refine AL_p rfl rfl (S_move rfl (AEv.tmp rfl)) ?_
    refine AL_p rfl rfl (S_neqNil rfl (AEv.tmp rfl) (AEv.const _) (by kernel_rfl)) ?_
    refine AL_p rfl rfl (S_move rfl (AEv.tmp rfl)) ?_
    refine AL_gTp rfl rfl (AEv.tmp rfl) (by decide) rfl (S_move rfl (AEv.tmp rfl)) ?_
    refine AL_gTp rfl rfl (AEv.tmp rfl) (by decide) rfl (S_eql rfl (AEv.tmp rfl) (AEv.const _)) ?_
    refine AL_p rfl rfl (S_and rfl (AEv.tmp rfl) (fun hp2 => (AEv.tmp rfl))) ?_
    refine AL_p rfl rfl (S_move rfl (AEv.tmp rfl)) ?_
    refine AL_gTp rfl rfl (AEv.tmp rfl) (by decide) rfl (S_move rfl (AEv.tmp rfl)) ?_
    refine AL_gTp rfl rfl (AEv.tmp rfl) (by decide) rfl (S_eqS rfl (AEv.tmp rfl) (AEv.S _)) ?_
    refine AL_p rfl rfl (S_and rfl (AEv.tmp rfl) (fun hp3 => (AEv.tmp rfl))) ?_
    refine AL_p rfl rfl (S_move rfl (AEv.tmp rfl)) ?_
    refine AL_gTp rfl rfl (AEv.tmp rfl) (by decide) rfl (S_move rfl (AEv.tmp rfl)) ?_
    refine AL_gT rfl rfl (AEv.tmp rfl) (by decide) rfl (S_call rfl (AEvs.cons (AEv.tmp rfl) (AEvs.cons (AEv.const _) AEvs.nil)) (r_Num_ok b2 [172, 2, 2, 104, 105, 1] 0 300 (by decide) _)) ?_
    rintro _ _ ⟨_, ⟨rfl, rfl⟩, rfl⟩
    rw [e3]
    refine AL_gTp rfl rfl (AEv.tmp rfl) (by decide) rfl (S_eql rfl (AEv.tmp rfl) (AEv.const _)) ?_
    refine AL_p rfl rfl (S_and rfl (AEv.tmp rfl) (fun hp4 => (AEv.tmp rfl))) ?_
    refine AL_p rfl rfl (S_move rfl (AEv.tmp rfl)) ?_
    refine AL_gTp rfl rfl (AEv.tmp rfl) (by decide) rfl (S_move rfl (AEv.tmp rfl)) ?_
    refine AL_gT rfl rfl (AEv.tmp rfl) (by decide) rfl (S_call rfl (AEvs.cons (AEv.tmp rfl) (AEvs.cons (AEv.const _) AEvs.nil)) (r_Text_ok b2 [2, 104, 105, 1] 0 2 (by decide) _)) ?_
    rintro _ _ ⟨_, ⟨rfl, rfl⟩, rfl⟩
    rw [e4]
    refine AL_gTp rfl rfl (AEv.tmp rfl) (by decide) rfl (S_eqS rfl (AEv.tmp rfl) (AEv.S _)) ?_
    refine AL_p rfl rfl (S_and rfl (AEv.tmp rfl) (fun hp5 => (AEv.tmp rfl))) ?_
    refine AL_p rfl rfl (S_move rfl (AEv.tmp rfl)) ?_
    refine AL_gTp rfl rfl (AEv.tmp rfl) (by decide) rfl (S_move rfl (AEv.tmp rfl)) ?_
    refine AL_gT rfl rfl (AEv.tmp rfl) (by decide) rfl (S_call rfl (AEvs.cons (AEv.tmp rfl) AEvs.nil) (r_Bool_ok b2 [1] 0 _)) ?_
    rintro _ _ ⟨_, ⟨rfl, rfl⟩, rfl⟩
    rw [e5]
    refine AL_p rfl rfl (S_and rfl (AEv.tmp rfl) (fun hp6 => (AEv.tmp rfl))) ?_
    refine AL_p rfl rfl (S_move rfl (AEv.tmp rfl)) ?_
    refine AL_gTp rfl rfl (AEv.tmp rfl) (by decide) rfl (S_move rfl (AEv.tmp rfl)) ?_
    refine AL_gT rfl rfl (AEv.tmp rfl) (by decide) rfl (S_call rfl (AEvs.cons (AEv.tmp rfl) AEvs.nil) (r_End_ok b2 [] 0 _)) ?_
    rintro _ _ ⟨_, ⟨rfl, rfl⟩, rfl⟩
    refine AL_gTp rfl rfl (AEv.tmp rfl) (by decide) rfl (S_eql rfl (AEv.tmp rfl) (AEv.const _)) ?_
    refine AL_p rfl rfl (S_and rfl (AEv.tmp rfl) (fun hp7 => (AEv.tmp rfl))) ?_
    refine AL_p rfl rfl (S_assign rfl (AEv.tmp rfl)) ?_
    refine AL_nil ?_
    refine AC_ret ?_
    refine ret_tmp st rfl rfl (Sub.l (.cons _ (.cons _ (List.Sublist.refl _)))) (Conv.refl (Sub.l (.cons _ (.cons _ (List.Sublist.refl _)))) _) ⟨rfl, rfl⟩ (.inl rfl)

set_option maxRecDepth 100000 in
/-- provost/provostref04.Bytes -/
theorem ref04_Bytes_ok (s : List UInt8) (hs : s.length ≤ 1000000) : PCalls Try.prog 12 [.S s] (.S (putL s.length ++ s)) := by
  intro st
  refine ACalls_of (N := 9) Try.func12 (by kernel_rfl) rfl rfl rfl ?_
  have hp := putL_few s.length (by omega)
  refine AC_seq ?_
  refine AC_region ?_
  refine AL_p rfl rfl (S_assign rfl (AEv.S _)) ?_
  refine AL_nil ?_
  refine AC_seq ?_
  refine AC_region ?_
  refine AL_p rfl rfl (S_move rfl (AEv.tmp rfl)) ?_
  refine AL_p rfl rfl (S_lenS (ts := #[]) rfl (AEv.tmp rfl) (by kernel_rfl)) ?_
  refine AL_p rfl rfl (S_conv (k' := .u64) rfl (AEv.tmp rfl) (by kernel_rfl) (by kernel_rfl)) ?_
  refine AL_p rfl rfl (S_pcall rfl (AEvs.cons (y := .int .u64 (s.length : Int)) ((AEv.tmp rfl).le (Le.of_eq (by rw [wrap_u64 (by omega) (by omega)]))) AEvs.nil) (ref_Put_ok s.length (by omega))) ?_
  refine AL_p rfl rfl (S_move rfl (AEv.tmp rfl)) ?_
  refine AL_p rfl rfl (S_cat rfl (AEv.tmp rfl) (AEv.tmp rfl) (by first | omega | (simp; done) | (simp; omega))) ?_
  refine AL_p rfl rfl (S_assign rfl (AEv.tmp rfl)) ?_
  refine AL_nil ?_
  refine AC_ret ?_
  refine ret_tmp st rfl rfl (Sub.l (List.Sublist.refl _)) (Conv.refl (Sub.l (List.Sublist.refl _)) _) ⟨by first | rfl | (simp; done), rfl⟩ (.inl rfl)

end Go.Proofs.Ytbnimcdcgmjeaaa
