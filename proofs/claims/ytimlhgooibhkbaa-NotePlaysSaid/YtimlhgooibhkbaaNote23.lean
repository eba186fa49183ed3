/-
The walks of Go functions in the logic AL: what each of them answers.
Conditions: those of each theorem.
-/
import Derived.Test.YtimlhgooibhkbaaProg
import Derived.Test.YtimlhgooibhkbaaShelf23
import Derived.Test.YtimlhgooibhkbaaNoteLem
set_option linter.unusedVariables false
set_option linter.unusedSimpArgs false
namespace Go.Proofs.Ytimlhgooibhkbaa
open Go.AL Go.NumSpec

set_option maxRecDepth 100000 in
/-- provost/provostref01.size -/
theorem ref_size_ok (a : Int) (ha : fits a) : PCalls Try.prog 27 [.int .i64 a] (.int .u64 (a.natAbs : Int)) := by
  intro st
  refine ACalls_of (N := 10) Try.func27 (by kernel_rfl) rfl rfl rfl ?_
  have hw1 := u64w a
  have hw2 := u64w (0 - IntKind.u64.wrap a)
  unfold fits at ha
  refine AC_seq ?_
  refine AC_region ?_
  refine AL_p rfl rfl (S_assign rfl (AEv.const _)) ?_
  refine AL_nil ?_
  refine AC_seq ?_
  refine AC_seq ?_
  refine AC_region ?_
  refine AL_p rfl rfl (S_move rfl (AEv.tmp rfl)) ?_
  refine AL_p rfl rfl (S_lss rfl (AEv.tmp rfl) (AEv.const _)) ?_
  refine AL_nil ?_
  refine AC_cond (AEv.tmp rfl) (fun hb1 => ?_) (fun hb1 => ?_)
  · try simp only [Bool.and_eq_true, Bool.or_eq_true, Bool.not_eq_true', Bool.not_eq_false', Bool.and_eq_false_iff, Bool.or_eq_false_iff, decide_eq_true_eq, decide_eq_false_iff_not, gd] at hb1
    refine AC_seq ?_
    refine AC_region ?_
    refine AL_p rfl rfl (S_move rfl (AEv.tmp rfl)) ?_
    refine AL_p rfl rfl (S_conv (k' := .u64) rfl (AEv.tmp rfl) (by kernel_rfl) (by kernel_rfl)) ?_
    refine AL_p rfl rfl (S_sub rfl (AEv.const _) (AEv.tmp rfl)) ?_
    refine AL_p rfl rfl (S_assign rfl (AEv.tmp rfl)) ?_
    refine AL_nil ?_
    refine AC_ret ?_
    refine ret_tmp st rfl rfl (Sub.l (List.Sublist.refl _)) (Conv.refl (Sub.l (List.Sublist.refl _)) _) ⟨by rw [show IntKind.u64.wrap _ = (a.natAbs : Int) by omega], rfl⟩ (.inl rfl)
  · try simp only [Bool.and_eq_true, Bool.or_eq_true, Bool.not_eq_true', Bool.not_eq_false', Bool.and_eq_false_iff, Bool.or_eq_false_iff, decide_eq_true_eq, decide_eq_false_iff_not, gd] at hb1
    refine AC_skip ?_
    refine AC_seq ?_
    refine AC_region ?_
    refine AL_p rfl rfl (S_move rfl (AEv.tmp rfl)) ?_
    refine AL_p rfl rfl (S_conv (k' := .u64) rfl (AEv.tmp rfl) (by kernel_rfl) (by kernel_rfl)) ?_
    refine AL_p rfl rfl (S_assign rfl (AEv.tmp rfl)) ?_
    refine AL_nil ?_
    refine AC_ret ?_
    refine ret_tmp st rfl rfl (Sub.l (List.Sublist.refl _)) (Conv.refl (Sub.l (List.Sublist.refl _)) _) ⟨by rw [show IntKind.u64.wrap _ = (a.natAbs : Int) by omega], rfl⟩ (.inl rfl)

set_option maxRecDepth 100000 in
/-- provost/num.digits -/
theorem num_digits_ok (n : Nat) (h : n < 18446744073709551616) : PCalls Try.prog 26 [.int .u64 n] (.S (digL n)) := by
  intro st
  refine ACalls_of (N := 20) Try.func26 (by kernel_rfl) rfl rfl rfl ?_
  have hlen : (digL n).length ≤ 20 := digL_20 h
  refine AC_seq ?_
  refine AC_region ?_
  refine AL_p rfl rfl (S_assign rfl (AEv.S _)) ?_
  refine AL_nil ?_
  refine AC_seq ?_
  refine AC_region ?_
  refine AL_step rfl rfl (S_alloc (List.replicate 20 (.int .u8 0)) rfl (by kernel_rfl)) ?_
  rintro _ _ ⟨b1, rfl, rfl⟩
  refine AL_nil ?_
  refine AC_seq ?_
  refine AC_region ?_
  refine AL_p rfl rfl (S_assign rfl (AEv.const _)) ?_
  refine AL_nil ?_
  refine AC_block ?_
  refine AC_loop (G := Nat × List UInt8) (DigInv n) (fun g => [(0, .int .u64 g.1), (3, .ptr b1 0), (4, .int .i64 ((20 - g.2.length : Nat) : Int))]) (fun g => (b1, .cells (padR g.2)) :: st) (fun g => g.1) ((n, [])) (⟨by simp, h, hlen⟩) rfl ?_ ?_
  · exact (.cons rfl (by first | exact Le.refl _ | exact Le.nils | exact Le.row _ _ _ _ | (exact Le.of_eq (by simp))) (.cons rfl (by first | exact Le.refl _ | exact Le.nils | exact Le.row _ _ _ _ | (exact Le.of_eq (by simp))) (.cons rfl (by first | exact Le.refl _ | exact Le.nils | exact Le.row _ _ _ _ | (exact Le.of_eq (by simp))) .nil)))
  · rintro ⟨m, l⟩ hI
    try dsimp only
    have h3 := dig_le hI
    have h2 := hI.lt
    dsimp only at h2
    refine AC_block ?_
    refine AC_seq ?_
    refine AC_region ?_
    refine AL_p rfl rfl (S_move rfl (AEv.tmp rfl)) ?_
    refine AL_p rfl rfl (S_subI rfl (AEv.tmp rfl) (AEv.const _) (by omega) (by omega)) ?_
    refine AL_p rfl rfl (S_assign rfl (AEv.tmp rfl)) ?_
    refine AL_nil ?_
    refine AC_seq ?_
    refine AC_region ?_
    refine AL_p rfl rfl (S_move rfl (AEv.tmp rfl)) ?_
    refine AL_p rfl rfl (S_move rfl (AEv.tmp rfl)) ?_
    refine AL_p rfl rfl (S_remN (n := 10) rfl (AEv.tmp rfl) (AEv.const _) (by omega)) ?_
    refine AL_p rfl rfl (S_conv (k' := .u8) rfl (AEv.tmp rfl) (by kernel_rfl) (by kernel_rfl)) ?_
    refine AL_p rfl rfl (S_add rfl (AEv.const _) (AEv.tmp rfl)) ?_
    refine AL_p rfl rfl (S_elemA (e := 5) (len := 20) 1 rfl (AEv.tmp rfl) (AEv.tmp rfl) (by kernel_rfl) (by kernel_rfl) (by omega) (by omega)) ?_
    refine AL_step rfl rfl (S_store 0 rfl (AEv.tmp rfl) (AEv.tmp rfl) rfl (by rw [padR_len (by omega)]; omega) rfl (by kernel_rfl)) ?_
    rintro _ _ ⟨rfl, rfl⟩
    rw [padR_set (c := UInt8.ofNat (48 + m % 10)) rfl (by rw [wrap_u8 (n := ((m % 10 : Nat) : Int)) (by omega) (by omega), wrap_u8 (by omega) (by omega)]; simp; omega) h3]
    refine AL_nil ?_
    refine AC_seq ?_
    refine AC_region ?_
    refine AL_p rfl rfl (S_move rfl (AEv.tmp rfl)) ?_
    refine AL_p rfl rfl (S_quoN (n := 10) (.inl rfl) rfl (AEv.tmp rfl) (AEv.const _) (by omega) (.inr ⟨rfl, by omega⟩)) ?_
    refine AL_p rfl rfl (S_assign rfl (AEv.tmp rfl)) ?_
    refine AL_nil ?_
    refine AC_seq ?_
    refine AC_region ?_
    refine AL_p rfl rfl (S_move rfl (AEv.tmp rfl)) ?_
    refine AL_p rfl rfl (S_eql rfl (AEv.tmp rfl) (AEv.const _)) ?_
    refine AL_nil ?_
    refine AC_cond (AEv.tmp rfl) (fun hb2 => ?_) (fun hb2 => ?_)
    · try simp only [Bool.and_eq_true, Bool.or_eq_true, Bool.not_eq_true', Bool.not_eq_false', Bool.and_eq_false_iff, Bool.or_eq_false_iff, decide_eq_true_eq, decide_eq_false_iff_not, gd] at hb2
      have hq : m / 10 = 0 := by omega
      refine AC_seq ?_
      refine AC_region ?_
      refine AL_p rfl rfl (S_move rfl (AEv.tmp rfl)) ?_
      refine AL_p rfl rfl (S_cutA (e := 5) (len := 20) (i := 20 - (l.length + 1)) (j := 20) 1 rfl (AEv.tmp rfl) ⟨_, (AEv.tmp rfl).le (Le.of_eq (by rw [show ((20 - l.length : Nat) : Int) - 1 = ((20 - (l.length + 1) : Nat) : Int) by omega]))⟩ rfl (by kernel_rfl) (by kernel_rfl) (by omega) (by omega) (by omega)) ?_
      refine AL_p rfl rfl (S_bytes (e := 5) (l := UInt8.ofNat (48 + m % 10) :: l) 0 rfl (AEv.tmp rfl) rfl (by have := padR_drop (l := UInt8.ofNat (48 + m % 10) :: l) (by simp; omega); simp only [List.length_cons] at this; rw [show 20 - (20 - (l.length + 1)) = l.length + 1 by omega]; exact this) (by simp; omega) (by kernel_rfl) (by kernel_rfl) (by kernel_rfl)) ?_
      refine AL_p rfl rfl (S_assign rfl (AEv.tmp rfl)) ?_
      refine AL_nil ?_
      refine AC_ret ?_
      refine ret_tmp st rfl rfl (Sub.l (List.Sublist.cons _ (List.Sublist.refl _))) (Conv.refl (Sub.l (List.Sublist.cons _ (List.Sublist.refl _))) _) ⟨by rw [dig_end hI hq], rfl⟩ (.inl rfl)
    · try simp only [Bool.and_eq_true, Bool.or_eq_true, Bool.not_eq_true', Bool.not_eq_false', Bool.and_eq_false_iff, Bool.or_eq_false_iff, decide_eq_true_eq, decide_eq_false_iff_not, gd] at hb2
      have hq : m / 10 ≠ 0 := by omega
      refine AC_skip ?_
      refine ⟨_, dig_next hI hq, by show m / 10 < m; omega, rfl, .cons rfl (Le.refl _) (.cons rfl (Le.refl _) (.cons rfl (Le.of_eq (by simp only [List.length_cons]; rw [show ((20 - l.length : Nat) : Int) - 1 = ((20 - (l.length + 1) : Nat) : Int) by omega])) .nil))⟩

set_option maxRecDepth 100000 in
/-- provost/num.Text -/
theorem num_Text_ok (a : Int) (ha : fits a) : PCalls Try.prog 21 [.int .i64 a] (.S (textL a)) := by
  intro st
  refine ACalls_of (N := 13) Try.func21 (by kernel_rfl) rfl rfl rfl ?_
  have hw1 := u64w a
  have hw2 := u64w (-IntKind.u64.wrap a)
  unfold fits at ha
  have hlen : (digL a.natAbs).length ≤ 19 := digL_19 (by omega)
  refine AC_seq ?_
  refine AC_region ?_
  refine AL_p rfl rfl (S_assign rfl (AEv.S _)) ?_
  refine AL_nil ?_
  refine AC_seq ?_
  refine AC_seq ?_
  refine AC_region ?_
  refine AL_p rfl rfl (S_move rfl (AEv.tmp rfl)) ?_
  refine AL_p rfl rfl (S_lss rfl (AEv.tmp rfl) (AEv.const _)) ?_
  refine AL_nil ?_
  refine AC_cond (AEv.tmp rfl) (fun hb1 => ?_) (fun hb1 => ?_)
  · try simp only [Bool.and_eq_true, Bool.or_eq_true, Bool.not_eq_true', Bool.not_eq_false', Bool.and_eq_false_iff, Bool.or_eq_false_iff, decide_eq_true_eq, decide_eq_false_iff_not, gd] at hb1
    refine AC_seq ?_
    refine AC_region ?_
    refine AL_p rfl rfl (S_move rfl (AEv.tmp rfl)) ?_
    refine AL_p rfl rfl (S_conv (k' := .u64) rfl (AEv.tmp rfl) (by kernel_rfl) (by kernel_rfl)) ?_
    refine AL_p rfl rfl (S_neg rfl (AEv.tmp rfl)) ?_
    refine AL_p rfl rfl (S_pcall rfl (AEvs.cons ((AEv.tmp rfl).le (Le.of_eq (by rw [show IntKind.u64.wrap (-IntKind.u64.wrap a) = (a.natAbs : Int) by omega]))) AEvs.nil) (num_digits_ok a.natAbs (by omega))) ?_
    refine AL_p rfl rfl (S_cat rfl (AEv.S _) (AEv.tmp rfl) (by first | omega | (simp; done) | (simp; omega))) ?_
    refine AL_p rfl rfl (S_assign rfl (AEv.tmp rfl)) ?_
    refine AL_nil ?_
    refine AC_ret ?_
    refine ret_tmp st rfl rfl (Sub.l (List.Sublist.refl _)) (Conv.refl (Sub.l (List.Sublist.refl _)) _) ⟨by rw [textL, if_pos (by omega)]; rfl, rfl⟩ (.inl rfl)
  · try simp only [Bool.and_eq_true, Bool.or_eq_true, Bool.not_eq_true', Bool.not_eq_false', Bool.and_eq_false_iff, Bool.or_eq_false_iff, decide_eq_true_eq, decide_eq_false_iff_not, gd] at hb1
    refine AC_skip ?_
    refine AC_seq ?_
    refine AC_region ?_
    refine AL_p rfl rfl (S_move rfl (AEv.tmp rfl)) ?_
    refine AL_p rfl rfl (S_conv (k' := .u64) rfl (AEv.tmp rfl) (by kernel_rfl) (by kernel_rfl)) ?_
    refine AL_p rfl rfl (S_pcall rfl (AEvs.cons ((AEv.tmp rfl).le (Le.of_eq (by rw [show IntKind.u64.wrap a = (a.natAbs : Int) by omega]))) AEvs.nil) (num_digits_ok a.natAbs (by omega))) ?_
    refine AL_p rfl rfl (S_assign rfl (AEv.tmp rfl)) ?_
    refine AL_nil ?_
    refine AC_ret ?_
    refine ret_tmp st rfl rfl (Sub.l (List.Sublist.refl _)) (Conv.refl (Sub.l (List.Sublist.refl _)) _) ⟨by rw [textL, if_neg (by omega)], rfl⟩ (.inl rfl)

set_option maxRecDepth 100000 in
/-- provost/provostref01.Text -/
theorem ref_Text_ok (a : Int) (ha : fits a) : PCalls Try.prog 22 [.int .i64 a] (.S (textL a)) := by
  intro st
  refine ACalls_of (N := 35) Try.func22 (by kernel_rfl) rfl rfl rfl ?_
  have hlen : (digL a.natAbs).length ≤ 19 := digL_19 (by unfold fits at ha; omega)
  refine AC_seq ?_
  refine AC_region ?_
  refine AL_p rfl rfl (S_assign rfl (AEv.S _)) ?_
  refine AL_nil ?_
  refine AC_seq ?_
  refine AC_region ?_
  refine AL_p rfl rfl (S_assign rfl (AEv.S _)) ?_
  refine AL_nil ?_
  refine AC_seq ?_
  refine AC_region ?_
  refine AL_p rfl rfl (S_move rfl (AEv.tmp rfl)) ?_
  refine AL_p rfl rfl (S_pcall rfl (AEvs.cons (AEv.tmp rfl) AEvs.nil) (ref_size_ok _ (by first | assumption | decide))) ?_
  refine AL_p rfl rfl (S_assign rfl (AEv.tmp rfl)) ?_
  refine AL_nil ?_
  refine AC_seq ?_
  refine AC_seq ?_
  refine AC_region ?_
  refine AL_p rfl rfl (S_assign rfl (AEv.const _)) ?_
  refine AL_nil ?_
  refine AC_block ?_
  refine AC_loop (G := Nat × List UInt8) (TextInv a.natAbs) (fun g => [(0, .int .i64 a), (3, .S g.2), (4, .int .u64 (g.1 : Int)), (5, .int .i64 (g.2.length : Int))]) (fun g => st) (fun g => g.1 + (if g.2 = [] then 1 else 0)) ((a.natAbs, [])) (⟨hlen, by simp, by unfold fits at ha; dsimp only; omega, .inl ⟨rfl, rfl⟩⟩) rfl ?_ ?_
  · exact (.cons rfl (by first | exact Le.refl _ | exact Le.nils | exact Le.row _ _ _ _ | (exact Le.of_eq (by simp))) (.cons rfl (by first | exact Le.refl _ | exact Le.nils | exact Le.row _ _ _ _ | (exact Le.of_eq (by simp))) (.cons rfl (by first | exact Le.refl _ | exact Le.nils | exact Le.row _ _ _ _ | (exact Le.of_eq (by simp))) (.cons rfl (by first | exact Le.refl _ | exact Le.nils | exact Le.row _ _ _ _ | (exact Le.of_eq (by simp))) .nil))))
  · rintro ⟨u, s⟩ hI
    try dsimp only
    have hlow := hI.low
    have hlt := hI.lt
    dsimp only at hlow hlt
    refine AC_seq ?_
    refine AC_seq ?_
    refine AC_region ?_
    refine AL_p rfl rfl (S_move rfl (AEv.tmp rfl)) ?_
    refine AL_p rfl rfl (S_eql rfl (AEv.tmp rfl) (AEv.const _)) ?_
    refine AL_p rfl rfl (S_move rfl (AEv.tmp rfl)) ?_
    refine AL_g rfl rfl (AEv.tmp rfl) rfl (fun hg1 => S_move rfl (AEv.tmp rfl)) ?_
    refine AL_g rfl rfl (AEv.tmp rfl) rfl (fun hg4 => S_gtr rfl (AEv.cond (AEv.tmp rfl) (by first | assumption | exact gdAnd (by assumption) (by assumption))) (AEv.const _)) ?_
    refine AL_g rfl rfl (AEv.tmp rfl) rfl (fun hg7 => S_move rfl (AEv.cond (AEv.tmp rfl) (by first | assumption | exact gdAnd (by assumption) (by assumption)))) ?_
    refine AL_gg rfl rfl (AEv.tmp rfl) rfl (fun hg10 hg11 hg12 => S_move rfl (AEv.tmp rfl)) ?_
    refine AL_gg rfl rfl (AEv.tmp rfl) rfl (fun hg13 hg14 hg15 => S_lss rfl (AEv.cond (AEv.tmp rfl) (by first | assumption | exact gdAnd (by assumption) (by assumption))) (AEv.const _)) ?_
    refine AL_g rfl rfl (AEv.tmp rfl) rfl (fun hg16 => S_and rfl (AEv.cond (AEv.tmp rfl) (by first | assumption | exact gdAnd (by assumption) (by assumption))) (fun hp19 => (AEv.cond (AEv.tmp rfl) (by first | assumption | exact gdT hp19 | exact gdF hp19 | exact gdAnd (by assumption) (gdT hp19) | exact gdAnd (by assumption) (gdF hp19))))) ?_
    refine AL_p rfl rfl (S_or rfl (AEv.tmp rfl) (fun hp20 => (AEv.cond (AEv.tmp rfl) (by first | assumption | exact gdT hp20 | exact gdF hp20 | exact gdAnd (by assumption) (gdT hp20) | exact gdAnd (by assumption) (gdF hp20))))) ?_
    refine AL_nil ?_
    refine AC_cond (AEv.tmp rfl) (fun hb21 => ?_) (fun hb21 => ?_)
    · try simp only [Bool.and_eq_true, Bool.or_eq_true, Bool.not_eq_true', Bool.not_eq_false', Bool.and_eq_false_iff, Bool.or_eq_false_iff, decide_eq_true_eq, decide_eq_false_iff_not, gd] at hb21
      have hs : s = [] ∨ u ≠ 0 := by
        rcases hb21 with h | h
        · exact .inl (List.eq_nil_of_length_eq_zero (by omega))
        · exact .inr (by omega)
      refine AC_skip ?_
      refine AC_seq ?_
      refine AC_block ?_
      refine AC_seq ?_
      refine AC_region ?_
      refine AL_p rfl rfl (S_move rfl (AEv.tmp rfl)) ?_
      refine AL_p rfl rfl (S_remN (n := 10) rfl (AEv.tmp rfl) (AEv.const _) (by omega)) ?_
      refine AL_p rfl rfl (S_add rfl (AEv.const _) (AEv.tmp rfl)) ?_
      refine AL_p rfl rfl (S_conv (k' := .u8) rfl (AEv.tmp rfl) (by kernel_rfl) (by kernel_rfl)) ?_
      refine AL_p rfl rfl (S_buildSlice (e := 5) 1 rfl (AEvs.cons (AEv.tmp rfl) AEvs.nil) rfl (by kernel_rfl) (by kernel_rfl) (by simp [AV.flat, AV.one, AV.cells, Value.oneCell']) (by decide) (by decide) (by decide)) ?_
      refine AL_p rfl rfl (S_bytesSl (e := 5) [UInt8.ofNat (48 + u % 10)] rfl (AEv.tmp rfl) (by simp [bytesAV]; rw [wrap_u64 (by omega) (by omega), wrap_u8 (by omega) (by omega)]; omega) (by kernel_rfl) (by kernel_rfl) (by kernel_rfl)) ?_
      refine AL_p rfl rfl (S_move rfl (AEv.tmp rfl)) ?_
      refine AL_p rfl rfl (S_cat rfl (AEv.tmp rfl) (AEv.tmp rfl) (by first | omega | (simp; done) | (simp; omega))) ?_
      refine AL_p rfl rfl (S_assign rfl (AEv.tmp rfl)) ?_
      refine AL_nil ?_
      refine AC_region ?_
      refine AL_p rfl rfl (S_move rfl (AEv.tmp rfl)) ?_
      refine AL_p rfl rfl (S_quoN (n := 10) (.inl rfl) rfl (AEv.tmp rfl) (AEv.const _) (by omega) (.inr ⟨rfl, by omega⟩)) ?_
      refine AL_p rfl rfl (S_assign rfl (AEv.tmp rfl)) ?_
      refine AL_nil ?_
      refine AC_region ?_
      refine AL_p rfl rfl (S_move rfl (AEv.tmp rfl)) ?_
      refine AL_p rfl rfl (S_addI rfl (AEv.tmp rfl) (AEv.const _) (by omega) (by omega)) ?_
      refine AL_p rfl rfl (S_assign rfl (AEv.tmp rfl)) ?_
      refine AL_nil ?_
      refine ⟨(u / 10, UInt8.ofNat (48 + u % 10) :: s), text_next hI hs, ?_, rfl, .cons rfl (Le.refl _) (.cons rfl (Le.refl _) (.cons rfl (Le.refl _) (.cons rfl (Le.of_eq (by simp)) .nil)))⟩
      show u / 10 + _ < u + _
      rw [if_neg (by simp)]
      rcases hs with rfl | h
      · rw [if_pos rfl]; omega
      · split <;> omega
    · try simp only [Bool.and_eq_true, Bool.or_eq_true, Bool.not_eq_true', Bool.not_eq_false', Bool.and_eq_false_iff, Bool.or_eq_false_iff, decide_eq_true_eq, decide_eq_false_iff_not, gd] at hb21
      have he := text_end hI (by rintro rfl; simp at hb21) (by omega)
      refine AC_exit ?_
      refine AC_seq ?_
      refine AC_seq ?_
      refine AC_region ?_
      refine AL_p rfl rfl (S_move rfl (AEv.tmp rfl)) ?_
      refine AL_p rfl rfl (S_lss rfl (AEv.tmp rfl) (AEv.const _)) ?_
      refine AL_nil ?_
      refine AC_cond (AEv.tmp rfl) (fun hb22 => ?_) (fun hb22 => ?_)
      · try simp only [Bool.and_eq_true, Bool.or_eq_true, Bool.not_eq_true', Bool.not_eq_false', Bool.and_eq_false_iff, Bool.or_eq_false_iff, decide_eq_true_eq, decide_eq_false_iff_not, gd] at hb22
        refine AC_seq ?_
        refine AC_region ?_
        refine AL_p rfl rfl (S_move rfl (AEv.tmp rfl)) ?_
        refine AL_p rfl rfl (S_cat rfl (AEv.S _) (AEv.tmp rfl) (by first | omega | (simp; done) | (simp; omega))) ?_
        refine AL_p rfl rfl (S_assign rfl (AEv.tmp rfl)) ?_
        refine AL_nil ?_
        refine AC_ret ?_
        refine ret_tmp st rfl rfl (Sub.l (List.Sublist.refl _)) (Conv.refl (Sub.l (List.Sublist.refl _)) _) ⟨by rw [textL, if_pos (by omega), he]; rfl, rfl⟩ (.inl rfl)
      · try simp only [Bool.and_eq_true, Bool.or_eq_true, Bool.not_eq_true', Bool.not_eq_false', Bool.and_eq_false_iff, Bool.or_eq_false_iff, decide_eq_true_eq, decide_eq_false_iff_not, gd] at hb22
        refine AC_skip ?_
        refine AC_seq ?_
        refine AC_region ?_
        refine AL_p rfl rfl (S_move rfl (AEv.tmp rfl)) ?_
        refine AL_p rfl rfl (S_assign rfl (AEv.tmp rfl)) ?_
        refine AL_nil ?_
        refine AC_ret ?_
        refine ret_tmp st rfl rfl (Sub.l (List.Sublist.refl _)) (Conv.refl (Sub.l (List.Sublist.refl _)) _) ⟨by rw [textL, if_neg (by omega), he], rfl⟩ (.inl rfl)

theorem join_ok (ls : List (List UInt8)) (sep : List UInt8) (hN : ls.length ≤ 140737488355328) (hlen : (Lib.join ls sep).length ≤ 140737488355328) : PCalls Try.prog 19 [.sl (ls.map fun l => .S l), .S sep] (.S (Lib.join ls sep)) :=
  PCalls_join ⟨Try.f19, _, Try.func19, by kernel_rfl, rfl⟩ Try.strings_Join_none Try.strings_Join ls sep hN hlen

set_option maxRecDepth 100000 in
/-- provost/note.word -/
theorem note_word_ok (k : Int) : PCalls Try.prog 20 [.int .i64 k] (.S (wordV k)) := by
  intro st
  refine ACalls_of (N := 20) Try.func20 (by kernel_rfl) rfl rfl rfl ?_
  refine AC_seq ?_
  refine AC_region ?_
  refine AL_p rfl rfl (S_assign rfl (AEv.S _)) ?_
  refine AL_nil ?_
  refine AC_seq ?_
  refine AC_region ?_
  refine AL_p rfl rfl (S_move rfl (AEv.tmp rfl)) ?_
  refine AL_nil ?_
  refine AC_block ?_
  refine AC_seq ?_
  refine AC_region ?_
  refine AL_p rfl rfl (S_eql rfl (AEv.tmp rfl) (AEv.const _)) ?_
  refine AL_p rfl rfl (S_assign rfl (AEv.tmp rfl)) ?_
  refine AL_nil ?_
  refine AC_cond (AEv.tmp rfl) (fun hb1 => ?_) (fun hb1 => ?_)
  · try simp only [Bool.and_eq_true, Bool.or_eq_true, Bool.not_eq_true', Bool.not_eq_false', Bool.and_eq_false_iff, Bool.or_eq_false_iff, decide_eq_true_eq, decide_eq_false_iff_not, gd] at hb1
    refine AC_seq ?_
    refine AC_region ?_
    refine AL_p rfl rfl (S_assign rfl (AEv.S _)) ?_
    refine AL_nil ?_
    refine AC_ret ?_
    refine ret_tmp st rfl rfl (Sub.l (List.Sublist.refl _)) (Conv.refl (Sub.l (List.Sublist.refl _)) _) ⟨by rw [show k = 1 by omega]; rfl, rfl⟩ (.inl rfl)
  · try simp only [Bool.and_eq_true, Bool.or_eq_true, Bool.not_eq_true', Bool.not_eq_false', Bool.and_eq_false_iff, Bool.or_eq_false_iff, decide_eq_true_eq, decide_eq_false_iff_not, gd] at hb1
    refine AC_seq ?_
    refine AC_region ?_
    refine AL_p rfl rfl (S_eql rfl (AEv.tmp rfl) (AEv.const _)) ?_
    refine AL_p rfl rfl (S_assign rfl (AEv.tmp rfl)) ?_
    refine AL_nil ?_
    refine AC_cond (AEv.tmp rfl) (fun hb2 => ?_) (fun hb2 => ?_)
    · try simp only [Bool.and_eq_true, Bool.or_eq_true, Bool.not_eq_true', Bool.not_eq_false', Bool.and_eq_false_iff, Bool.or_eq_false_iff, decide_eq_true_eq, decide_eq_false_iff_not, gd] at hb2
      refine AC_seq ?_
      refine AC_region ?_
      refine AL_p rfl rfl (S_assign rfl (AEv.S _)) ?_
      refine AL_nil ?_
      refine AC_ret ?_
      refine ret_tmp st rfl rfl (Sub.l (List.Sublist.refl _)) (Conv.refl (Sub.l (List.Sublist.refl _)) _) ⟨by rw [show k = 2 by omega]; rfl, rfl⟩ (.inl rfl)
    · try simp only [Bool.and_eq_true, Bool.or_eq_true, Bool.not_eq_true', Bool.not_eq_false', Bool.and_eq_false_iff, Bool.or_eq_false_iff, decide_eq_true_eq, decide_eq_false_iff_not, gd] at hb2
      refine AC_seq ?_
      refine AC_region ?_
      refine AL_p rfl rfl (S_eql rfl (AEv.tmp rfl) (AEv.const _)) ?_
      refine AL_p rfl rfl (S_assign rfl (AEv.tmp rfl)) ?_
      refine AL_nil ?_
      refine AC_cond (AEv.tmp rfl) (fun hb3 => ?_) (fun hb3 => ?_)
      · try simp only [Bool.and_eq_true, Bool.or_eq_true, Bool.not_eq_true', Bool.not_eq_false', Bool.and_eq_false_iff, Bool.or_eq_false_iff, decide_eq_true_eq, decide_eq_false_iff_not, gd] at hb3
        refine AC_seq ?_
        refine AC_region ?_
        refine AL_p rfl rfl (S_assign rfl (AEv.S _)) ?_
        refine AL_nil ?_
        refine AC_ret ?_
        refine ret_tmp st rfl rfl (Sub.l (List.Sublist.refl _)) (Conv.refl (Sub.l (List.Sublist.refl _)) _) ⟨by rw [show k = 3 by omega]; rfl, rfl⟩ (.inl rfl)
      · try simp only [Bool.and_eq_true, Bool.or_eq_true, Bool.not_eq_true', Bool.not_eq_false', Bool.and_eq_false_iff, Bool.or_eq_false_iff, decide_eq_true_eq, decide_eq_false_iff_not, gd] at hb3
        refine AC_seq ?_
        refine AC_region ?_
        refine AL_p rfl rfl (S_eql rfl (AEv.tmp rfl) (AEv.const _)) ?_
        refine AL_p rfl rfl (S_assign rfl (AEv.tmp rfl)) ?_
        refine AL_nil ?_
        refine AC_cond (AEv.tmp rfl) (fun hb4 => ?_) (fun hb4 => ?_)
        · try simp only [Bool.and_eq_true, Bool.or_eq_true, Bool.not_eq_true', Bool.not_eq_false', Bool.and_eq_false_iff, Bool.or_eq_false_iff, decide_eq_true_eq, decide_eq_false_iff_not, gd] at hb4
          refine AC_seq ?_
          refine AC_region ?_
          refine AL_p rfl rfl (S_assign rfl (AEv.S _)) ?_
          refine AL_nil ?_
          refine AC_ret ?_
          refine ret_tmp st rfl rfl (Sub.l (List.Sublist.refl _)) (Conv.refl (Sub.l (List.Sublist.refl _)) _) ⟨by rw [show k = 4 by omega]; rfl, rfl⟩ (.inl rfl)
        · try simp only [Bool.and_eq_true, Bool.or_eq_true, Bool.not_eq_true', Bool.not_eq_false', Bool.and_eq_false_iff, Bool.or_eq_false_iff, decide_eq_true_eq, decide_eq_false_iff_not, gd] at hb4
          refine AC_seq ?_
          refine AC_region ?_
          refine AL_p rfl rfl (S_eql rfl (AEv.tmp rfl) (AEv.const _)) ?_
          refine AL_p rfl rfl (S_assign rfl (AEv.tmp rfl)) ?_
          refine AL_nil ?_
          refine AC_cond (AEv.tmp rfl) (fun hb5 => ?_) (fun hb5 => ?_)
          · try simp only [Bool.and_eq_true, Bool.or_eq_true, Bool.not_eq_true', Bool.not_eq_false', Bool.and_eq_false_iff, Bool.or_eq_false_iff, decide_eq_true_eq, decide_eq_false_iff_not, gd] at hb5
            refine AC_seq ?_
            refine AC_region ?_
            refine AL_p rfl rfl (S_assign rfl (AEv.S _)) ?_
            refine AL_nil ?_
            refine AC_ret ?_
            refine ret_tmp st rfl rfl (Sub.l (List.Sublist.refl _)) (Conv.refl (Sub.l (List.Sublist.refl _)) _) ⟨by rw [show k = 5 by omega]; rfl, rfl⟩ (.inl rfl)
          · try simp only [Bool.and_eq_true, Bool.or_eq_true, Bool.not_eq_true', Bool.not_eq_false', Bool.and_eq_false_iff, Bool.or_eq_false_iff, decide_eq_true_eq, decide_eq_false_iff_not, gd] at hb5
            refine AC_seq ?_
            refine AC_region ?_
            refine AL_p rfl rfl (S_eql rfl (AEv.tmp rfl) (AEv.const _)) ?_
            refine AL_p rfl rfl (S_assign rfl (AEv.tmp rfl)) ?_
            refine AL_nil ?_
            refine AC_cond (AEv.tmp rfl) (fun hb6 => ?_) (fun hb6 => ?_)
            · try simp only [Bool.and_eq_true, Bool.or_eq_true, Bool.not_eq_true', Bool.not_eq_false', Bool.and_eq_false_iff, Bool.or_eq_false_iff, decide_eq_true_eq, decide_eq_false_iff_not, gd] at hb6
              refine AC_seq ?_
              refine AC_region ?_
              refine AL_p rfl rfl (S_assign rfl (AEv.S _)) ?_
              refine AL_nil ?_
              refine AC_ret ?_
              refine ret_tmp st rfl rfl (Sub.l (List.Sublist.refl _)) (Conv.refl (Sub.l (List.Sublist.refl _)) _) ⟨by rw [show k = 6 by omega]; rfl, rfl⟩ (.inl rfl)
            · try simp only [Bool.and_eq_true, Bool.or_eq_true, Bool.not_eq_true', Bool.not_eq_false', Bool.and_eq_false_iff, Bool.or_eq_false_iff, decide_eq_true_eq, decide_eq_false_iff_not, gd] at hb6
              refine AC_seq ?_
              refine AC_region ?_
              refine AL_p rfl rfl (S_eql rfl (AEv.tmp rfl) (AEv.const _)) ?_
              refine AL_p rfl rfl (S_assign rfl (AEv.tmp rfl)) ?_
              refine AL_nil ?_
              refine AC_cond (AEv.tmp rfl) (fun hb7 => ?_) (fun hb7 => ?_)
              · try simp only [Bool.and_eq_true, Bool.or_eq_true, Bool.not_eq_true', Bool.not_eq_false', Bool.and_eq_false_iff, Bool.or_eq_false_iff, decide_eq_true_eq, decide_eq_false_iff_not, gd] at hb7
                refine AC_seq ?_
                refine AC_region ?_
                refine AL_p rfl rfl (S_assign rfl (AEv.S _)) ?_
                refine AL_nil ?_
                refine AC_ret ?_
                refine ret_tmp st rfl rfl (Sub.l (List.Sublist.refl _)) (Conv.refl (Sub.l (List.Sublist.refl _)) _) ⟨by rw [show k = 7 by omega]; rfl, rfl⟩ (.inl rfl)
              · try simp only [Bool.and_eq_true, Bool.or_eq_true, Bool.not_eq_true', Bool.not_eq_false', Bool.and_eq_false_iff, Bool.or_eq_false_iff, decide_eq_true_eq, decide_eq_false_iff_not, gd] at hb7
                refine AC_seq ?_
                refine AC_region ?_
                refine AL_p rfl rfl (S_eql rfl (AEv.tmp rfl) (AEv.const _)) ?_
                refine AL_p rfl rfl (S_assign rfl (AEv.tmp rfl)) ?_
                refine AL_nil ?_
                refine AC_cond (AEv.tmp rfl) (fun hb8 => ?_) (fun hb8 => ?_)
                · try simp only [Bool.and_eq_true, Bool.or_eq_true, Bool.not_eq_true', Bool.not_eq_false', Bool.and_eq_false_iff, Bool.or_eq_false_iff, decide_eq_true_eq, decide_eq_false_iff_not, gd] at hb8
                  refine AC_seq ?_
                  refine AC_region ?_
                  refine AL_p rfl rfl (S_assign rfl (AEv.S _)) ?_
                  refine AL_nil ?_
                  refine AC_ret ?_
                  refine ret_tmp st rfl rfl (Sub.l (List.Sublist.refl _)) (Conv.refl (Sub.l (List.Sublist.refl _)) _) ⟨by rw [show k = 8 by omega]; rfl, rfl⟩ (.inl rfl)
                · try simp only [Bool.and_eq_true, Bool.or_eq_true, Bool.not_eq_true', Bool.not_eq_false', Bool.and_eq_false_iff, Bool.or_eq_false_iff, decide_eq_true_eq, decide_eq_false_iff_not, gd] at hb8
                  refine AC_seq ?_
                  refine AC_region ?_
                  refine AL_p rfl rfl (S_assign rfl (AEv.S _)) ?_
                  refine AL_nil ?_
                  refine AC_ret ?_
                  refine ret_tmp st rfl rfl (Sub.l (List.Sublist.refl _)) (Conv.refl (Sub.l (List.Sublist.refl _)) _) ⟨by rw [word_no (by omega)], rfl⟩ (.inl rfl)

set_option maxRecDepth 100000 in
/-- provost/note.Text -/
theorem note_Text_ok (n : Note) (hn : fits4 n) : PCalls Try.prog 13 [noteAV n] (.S (noteText n)) := by
  intro st
  refine ACalls_of (N := 17) Try.func13 (by kernel_rfl) rfl rfl rfl ?_
  obtain ⟨h1, h2, h3, h4⟩ := hn
  have t0 := wordV_len n.1
  have t2 := textL_len h2
  have t3 := textL_len h3
  have t4 := textL_len h4
  refine AC_seq ?_
  refine AC_region ?_
  refine AL_step rfl rfl (S_box rfl (AEv.tmp rfl)) ?_
  rintro _ _ ⟨b1, rfl, rfl⟩
  refine AL_p rfl rfl (S_assign rfl (AEv.S _)) ?_
  refine AL_nil ?_
  refine AC_seq ?_
  refine AC_draw (by kernel_rfl) (by kernel_rfl) (.cons rfl (Q_p rfl (S_field 0 rfl (AEv.tmp rfl) (by kernel_rfl))) <|
      .cons rfl (Q_p rfl (S_load 0 rfl (AEv.tmp rfl) rfl rfl (by kernel_rfl))) <|
      .cons rfl (Q_p rfl (S_pcall rfl (AEvs.cons (AEv.tmp rfl) AEvs.nil) (note_word_ok _))) <|
      .cons rfl (Q_p rfl (S_field 1 rfl (AEv.tmp rfl) (by kernel_rfl))) <|
      .cons rfl (Q_p rfl (S_load 0 rfl (AEv.tmp rfl) rfl rfl (by kernel_rfl))) <|
      .cons rfl (Q_p rfl (S_pcall rfl (AEvs.cons (AEv.tmp rfl) AEvs.nil) (num_Text_ok _ (by first | assumption | decide)))) <|
      .cons rfl (Q_p rfl (S_field 2 rfl (AEv.tmp rfl) (by kernel_rfl))) <|
      .cons rfl (Q_p rfl (S_load 0 rfl (AEv.tmp rfl) rfl rfl (by kernel_rfl))) <|
      .cons rfl (Q_p rfl (S_pcall rfl (AEvs.cons (AEv.tmp rfl) AEvs.nil) (num_Text_ok _ (by first | assumption | decide)))) <|
      .cons rfl (Q_p rfl (S_field 3 rfl (AEv.tmp rfl) (by kernel_rfl))) <|
      .cons rfl (Q_p rfl (S_load 0 rfl (AEv.tmp rfl) rfl rfl (by kernel_rfl))) <|
      .cons rfl (Q_p rfl (S_pcall rfl (AEvs.cons (AEv.tmp rfl) AEvs.nil) (num_Text_ok _ (by first | assumption | decide)))) <|
      .cons rfl (Q_p rfl (S_buildSlice (e := 9) 1 rfl (AEvs.cons (AEv.tmp rfl) (AEvs.cons (AEv.tmp rfl) (AEvs.cons (AEv.tmp rfl) (AEvs.cons (AEv.tmp rfl) AEvs.nil)))) rfl (by kernel_rfl) (by kernel_rfl) (by simp [AV.flat, AV.one, AV.cells, Value.oneCell']) (by decide) (by decide) (by decide))) <|
      .cons rfl (Q_p rfl (S_pcall rfl (AEvs.cons (AEv.tmp rfl) (AEvs.cons (AEv.S _) AEvs.nil)) (join_ok [wordV n.1, textL n.2.1, textL n.2.2.1, textL n.2.2.2] [32] (by simp) (by rw [join4]; simp; omega)))) <|
      .cons rfl (Q_p rfl (S_assign rfl (AEv.tmp rfl))) <|
      .nil) ?_
  refine AC_ret ?_
  refine ret_tmp st rfl rfl (Sub.l (List.Sublist.cons _ (List.Sublist.refl _))) (Conv.refl (Sub.l (List.Sublist.cons _ (List.Sublist.refl _))) _) ⟨by rw [join4]; rfl, rfl⟩ (.inl rfl)

set_option maxRecDepth 100000 in
/-- provost/provostref23.Text -/
theorem ref23_Text_ok (n : Note) (hn : fits4 n) : PCalls Try.prog 14 [noteAV n] (.S (noteText n)) := by
  intro st
  refine ACalls_of (N := 35) Try.func14 (by kernel_rfl) rfl rfl rfl ?_
  obtain ⟨h1, h2, h3, h4⟩ := hn
  have t0 := wordV_len n.1
  have t2 := textL_len h2
  have t3 := textL_len h3
  have t4 := textL_len h4
  refine AC_seq ?_
  refine AC_region ?_
  refine AL_step rfl rfl (S_box rfl (AEv.tmp rfl)) ?_
  rintro _ _ ⟨b1, rfl, rfl⟩
  refine AL_p rfl rfl (S_assign rfl (AEv.S _)) ?_
  refine AL_nil ?_
  refine AC_seq ?_
  refine AC_region ?_
  refine AL_p rfl rfl (S_buildSlice (e := 9) 1 rfl (AEvs.cons (AEv.S _) (AEvs.cons (AEv.S _) (AEvs.cons (AEv.S _) (AEvs.cons (AEv.S _) (AEvs.cons (AEv.S _) (AEvs.cons (AEv.S _) (AEvs.cons (AEv.S _) (AEvs.cons (AEv.S _) (AEvs.cons (AEv.S _) AEvs.nil))))))))) rfl (by kernel_rfl) (by kernel_rfl) (by simp [AV.flat, AV.one, AV.cells, Value.oneCell']) (by decide) (by decide) (by decide)) ?_
  refine AL_p rfl rfl (S_assign rfl (AEv.tmp rfl)) ?_
  refine AL_nil ?_
  refine AC_seq ?_
  refine AC_region ?_
  refine AL_p rfl rfl (S_assign rfl (AEv.S _)) ?_
  refine AL_nil ?_
  refine AC_seq ?_
  refine AC_seq ?_
  refine AC_region ?_
  refine AL_p rfl rfl (S_field 0 rfl (AEv.tmp rfl) (by kernel_rfl)) ?_
  refine AL_p rfl rfl (S_load 0 rfl (AEv.tmp rfl) rfl rfl (by kernel_rfl)) ?_
  refine AL_p rfl rfl (S_geq rfl (AEv.tmp rfl) (AEv.const _)) ?_
  refine AL_p rfl rfl (S_move rfl (AEv.tmp rfl)) ?_
  refine AL_g rfl rfl (AEv.tmp rfl) rfl (fun hg2 => S_field 0 rfl (AEv.tmp rfl) (by kernel_rfl)) ?_
  refine AL_g rfl rfl (AEv.tmp rfl) rfl (fun hg5 => S_load 0 rfl (AEv.cond (AEv.tmp rfl) (by first | assumption | exact gdAnd (by assumption) (by assumption))) rfl rfl (by kernel_rfl)) ?_
  refine AL_g rfl rfl (AEv.tmp rfl) rfl (fun hg8 => S_leq rfl (AEv.cond (AEv.tmp rfl) (by first | assumption | exact gdAnd (by assumption) (by assumption))) (AEv.const _)) ?_
  refine AL_p rfl rfl (S_and rfl (AEv.tmp rfl) (fun hp11 => (AEv.cond (AEv.tmp rfl) (by first | assumption | exact gdT hp11 | exact gdF hp11 | exact gdAnd (by assumption) (gdT hp11) | exact gdAnd (by assumption) (gdF hp11))))) ?_
  refine AL_nil ?_
  refine AC_cond (AEv.tmp rfl) (fun hb12 => ?_) (fun hb12 => ?_)
  · try simp only [Bool.and_eq_true, Bool.or_eq_true, Bool.not_eq_true', Bool.not_eq_false', Bool.and_eq_false_iff, Bool.or_eq_false_iff, decide_eq_true_eq, decide_eq_false_iff_not, gd] at hb12
    have hk : 1 ≤ n.1 ∧ n.1 ≤ 8 := by omega
    refine AC_region ?_
    refine AL_p rfl rfl (S_move rfl (AEv.tmp rfl)) ?_
    refine AL_p rfl rfl (S_field 0 rfl (AEv.tmp rfl) (by kernel_rfl)) ?_
    refine AL_p rfl rfl (S_load 0 rfl (AEv.tmp rfl) rfl rfl (by kernel_rfl)) ?_
    refine AL_p rfl rfl (S_elem (e := 9) (c := .S (wordV n.1)) (i := n.1) 1 rfl (AEv.tmp rfl) (AEv.tmp rfl) (by kernel_rfl) (by kernel_rfl) (by omega) (word_at hk) rfl) ?_
    refine AL_p rfl rfl (S_loadP rfl (AEv.tmp rfl) rfl (by kernel_rfl)) ?_
    refine AL_p rfl rfl (S_assign rfl (AEv.tmp rfl)) ?_
    refine AL_nil ?_
    refine AC_seq ?_
    refine AC_draw (by kernel_rfl) (by kernel_rfl) (.cons rfl (Q_p rfl (S_move rfl (AEv.tmp rfl))) <|
        .cons rfl (Q_p rfl (S_cat rfl (AEv.tmp rfl) (AEv.S _) (by first | omega | (simp; done) | (simp; omega)))) <|
        .cons rfl (Q_p rfl (S_field 1 rfl (AEv.tmp rfl) (by kernel_rfl))) <|
        .cons rfl (Q_p rfl (S_load 0 rfl (AEv.tmp rfl) rfl rfl (by kernel_rfl))) <|
        .cons rfl (Q_p rfl (S_pcall rfl (AEvs.cons (AEv.tmp rfl) AEvs.nil) (ref_Text_ok _ (by first | assumption | exact wrap_fits _)))) <|
        .cons rfl (Q_p rfl (S_cat rfl (AEv.tmp rfl) (AEv.tmp rfl) (by first | omega | (simp; done) | (simp; omega)))) <|
        .cons rfl (Q_p rfl (S_cat rfl (AEv.tmp rfl) (AEv.S _) (by first | omega | (simp; done) | (simp; omega)))) <|
        .cons rfl (Q_p rfl (S_field 2 rfl (AEv.tmp rfl) (by kernel_rfl))) <|
        .cons rfl (Q_p rfl (S_load 0 rfl (AEv.tmp rfl) rfl rfl (by kernel_rfl))) <|
        .cons rfl (Q_p rfl (S_pcall rfl (AEvs.cons (AEv.tmp rfl) AEvs.nil) (ref_Text_ok _ (by first | assumption | exact wrap_fits _)))) <|
        .cons rfl (Q_p rfl (S_cat rfl (AEv.tmp rfl) (AEv.tmp rfl) (by first | omega | (simp; done) | (simp; omega)))) <|
        .cons rfl (Q_p rfl (S_cat rfl (AEv.tmp rfl) (AEv.S _) (by first | omega | (simp; done) | (simp; omega)))) <|
        .cons rfl (Q_p rfl (S_field 3 rfl (AEv.tmp rfl) (by kernel_rfl))) <|
        .cons rfl (Q_p rfl (S_load 0 rfl (AEv.tmp rfl) rfl rfl (by kernel_rfl))) <|
        .cons rfl (Q_p rfl (S_pcall rfl (AEvs.cons (AEv.tmp rfl) AEvs.nil) (ref_Text_ok _ (by first | assumption | exact wrap_fits _)))) <|
        .cons rfl (Q_p rfl (S_cat rfl (AEv.tmp rfl) (AEv.tmp rfl) (by first | omega | (simp; done) | (simp; omega)))) <|
        .cons rfl (Q_p rfl (S_assign rfl (AEv.tmp rfl))) <|
        .nil) ?_
    refine AC_ret ?_
    refine ret_tmp st rfl rfl (Sub.l (List.Sublist.cons _ (List.Sublist.refl _))) (Conv.refl (Sub.l (List.Sublist.cons _ (List.Sublist.refl _))) _) ⟨rfl, rfl⟩ (.inl rfl)
  · try simp only [Bool.and_eq_true, Bool.or_eq_true, Bool.not_eq_true', Bool.not_eq_false', Bool.and_eq_false_iff, Bool.or_eq_false_iff, decide_eq_true_eq, decide_eq_false_iff_not, gd] at hb12
    have hk : wordV n.1 = [45] := word_no (by omega)
    rw [hk] at t0
    refine AC_skip ?_
    refine AC_seq ?_
    refine AC_draw (by kernel_rfl) (by kernel_rfl) (.cons rfl (Q_p rfl (S_move rfl (AEv.tmp rfl))) <|
        .cons rfl (Q_p rfl (S_cat rfl (AEv.tmp rfl) (AEv.S _) (by first | omega | (simp; done) | (simp; omega)))) <|
        .cons rfl (Q_p rfl (S_field 1 rfl (AEv.tmp rfl) (by kernel_rfl))) <|
        .cons rfl (Q_p rfl (S_load 0 rfl (AEv.tmp rfl) rfl rfl (by kernel_rfl))) <|
        .cons rfl (Q_p rfl (S_pcall rfl (AEvs.cons (AEv.tmp rfl) AEvs.nil) (ref_Text_ok _ (by first | assumption | exact wrap_fits _)))) <|
        .cons rfl (Q_p rfl (S_cat rfl (AEv.tmp rfl) (AEv.tmp rfl) (by first | omega | (simp; done) | (simp; omega)))) <|
        .cons rfl (Q_p rfl (S_cat rfl (AEv.tmp rfl) (AEv.S _) (by first | omega | (simp; done) | (simp; omega)))) <|
        .cons rfl (Q_p rfl (S_field 2 rfl (AEv.tmp rfl) (by kernel_rfl))) <|
        .cons rfl (Q_p rfl (S_load 0 rfl (AEv.tmp rfl) rfl rfl (by kernel_rfl))) <|
        .cons rfl (Q_p rfl (S_pcall rfl (AEvs.cons (AEv.tmp rfl) AEvs.nil) (ref_Text_ok _ (by first | assumption | exact wrap_fits _)))) <|
        .cons rfl (Q_p rfl (S_cat rfl (AEv.tmp rfl) (AEv.tmp rfl) (by first | omega | (simp; done) | (simp; omega)))) <|
        .cons rfl (Q_p rfl (S_cat rfl (AEv.tmp rfl) (AEv.S _) (by first | omega | (simp; done) | (simp; omega)))) <|
        .cons rfl (Q_p rfl (S_field 3 rfl (AEv.tmp rfl) (by kernel_rfl))) <|
        .cons rfl (Q_p rfl (S_load 0 rfl (AEv.tmp rfl) rfl rfl (by kernel_rfl))) <|
        .cons rfl (Q_p rfl (S_pcall rfl (AEvs.cons (AEv.tmp rfl) AEvs.nil) (ref_Text_ok _ (by first | assumption | exact wrap_fits _)))) <|
        .cons rfl (Q_p rfl (S_cat rfl (AEv.tmp rfl) (AEv.tmp rfl) (by first | omega | (simp; done) | (simp; omega)))) <|
        .cons rfl (Q_p rfl (S_assign rfl (AEv.tmp rfl))) <|
        .nil) ?_
    refine AC_ret ?_
    refine ret_tmp st rfl rfl (Sub.l (List.Sublist.cons _ (List.Sublist.refl _))) (Conv.refl (Sub.l (List.Sublist.cons _ (List.Sublist.refl _))) _) ⟨by rw [noteText, hk], rfl⟩ (.inl rfl)

set_option maxRecDepth 100000 in
/-- (*provost/note.Queue).Len -/
theorem queue_Len_ok (b : Nat) (p : Own) (l : List Note) (lost : Int) (hp : p.ok (notesL l)) (F : St) : ACalls Try.prog 9 [.ptr b 0] (((b, .cells [ownAV p 4 (notesL l), .int .i64 lost]) :: ownSt p 28 4 (notesL l)) ++ F) (fun x st' => ∃ foot', (x = .int .i64 (l.length : Int) ∧ foot' = (b, .cells [ownAV p 4 (notesL l), .int .i64 lost]) :: ownSt p 28 4 (notesL l)) ∧ st' = foot' ++ F) := by
  refine ACalls_of (N := 8) Try.func9 (by kernel_rfl) rfl rfl rfl ?_
  refine AC_seq ?_
  refine AC_region ?_
  refine AL_p rfl rfl (S_assign rfl (AEv.const _)) ?_
  refine AL_nil ?_
  refine AC_seq ?_
  refine AC_region ?_
  refine AL_p rfl rfl (S_move rfl (AEv.tmp rfl)) ?_
  refine AL_p rfl rfl (S_nilCheck rfl (AEv.tmp rfl)) ?_
  refine AL_p rfl rfl (S_field 0 rfl (AEv.tmp rfl) (by kernel_rfl)) ?_
  refine AL_p rfl rfl (S_load 0 rfl (AEv.tmp rfl) rfl rfl (by kernel_rfl)) ?_
  refine AL_p rfl rfl (S_len (e := 28) rfl ((AEv.tmp rfl).le (Le_own hp)) (by kernel_rfl)) ?_
  refine AL_p rfl rfl (S_assign rfl (AEv.tmp rfl)) ?_
  refine AL_nil ?_
  refine AC_ret ?_
  refine ret_tmp (((b, .cells [ownAV p 4 (notesL l), .int .i64 lost]) :: ownSt p 28 4 (notesL l)) ++ F) rfl rfl (Sub.l (List.Sublist.refl _)) (Conv.refl (Sub.l (List.Sublist.refl _)) _) ⟨_, ⟨by rw [notesL_len], rfl⟩, rfl⟩ (.inl rfl)

set_option maxRecDepth 100000 in
/-- (*provost/note.Queue).Lost -/
theorem queue_Lost_ok (b : Nat) (p : Own) (l : List Note) (lost : Int) (hp : p.ok (notesL l)) (F : St) : ACalls Try.prog 10 [.ptr b 0] (((b, .cells [ownAV p 4 (notesL l), .int .i64 lost]) :: ownSt p 28 4 (notesL l)) ++ F) (fun x st' => ∃ foot', (x = .int .i64 lost ∧ foot' = (b, .cells [ownAV p 4 (notesL l), .int .i64 lost]) :: ownSt p 28 4 (notesL l)) ∧ st' = foot' ++ F) := by
  refine ACalls_of (N := 7) Try.func10 (by kernel_rfl) rfl rfl rfl ?_
  refine AC_seq ?_
  refine AC_region ?_
  refine AL_p rfl rfl (S_assign rfl (AEv.const _)) ?_
  refine AL_nil ?_
  refine AC_seq ?_
  refine AC_region ?_
  refine AL_p rfl rfl (S_move rfl (AEv.tmp rfl)) ?_
  refine AL_p rfl rfl (S_nilCheck rfl (AEv.tmp rfl)) ?_
  refine AL_p rfl rfl (S_field 1 rfl (AEv.tmp rfl) (by kernel_rfl)) ?_
  refine AL_p rfl rfl (S_load 0 rfl (AEv.tmp rfl) rfl rfl (by kernel_rfl)) ?_
  refine AL_p rfl rfl (S_assign rfl (AEv.tmp rfl)) ?_
  refine AL_nil ?_
  refine AC_ret ?_
  refine ret_tmp (((b, .cells [ownAV p 4 (notesL l), .int .i64 lost]) :: ownSt p 28 4 (notesL l)) ++ F) rfl rfl (Sub.l (List.Sublist.refl _)) (Conv.refl (Sub.l (List.Sublist.refl _)) _) ⟨_, ⟨rfl, rfl⟩, rfl⟩ (.inl rfl)

set_option maxRecDepth 100000 in
/-- (*provost/note.Queue).blind -/
theorem queue_blind_ok (b : Nat) (p : Own) (l : List Note) (lost : Int) (hp : p.ok (notesL l)) (F : St) : ACalls Try.prog 18 [.ptr b 0] (((b, .cells [ownAV p 4 (notesL l), .int .i64 lost]) :: ownSt p 28 4 (notesL l)) ++ F) (fun x st' => ∃ foot', (x = .bool (blindQ l) ∧ foot' = (b, .cells [ownAV p 4 (notesL l), .int .i64 lost]) :: ownSt p 28 4 (notesL l)) ∧ st' = foot' ++ F) := by
  refine ACalls_of (N := 19) Try.func18 (by kernel_rfl) rfl rfl rfl ?_
  refine AC_seq ?_
  refine AC_region ?_
  refine AL_p rfl rfl (S_assign rfl (AEv.const _)) ?_
  refine AL_nil ?_
  refine AC_seq ?_
  refine AC_region ?_
  refine AL_p rfl rfl (S_move rfl (AEv.tmp rfl)) ?_
  refine AL_p rfl rfl (S_nilCheck rfl (AEv.tmp rfl)) ?_
  refine AL_p rfl rfl (S_field 0 rfl (AEv.tmp rfl) (by kernel_rfl)) ?_
  refine AL_p rfl rfl (S_load 0 rfl (AEv.tmp rfl) rfl rfl (by kernel_rfl)) ?_
  refine AL_p rfl rfl (S_len (e := 28) rfl ((AEv.tmp rfl).le (Le_own hp)) (by kernel_rfl)) ?_
  refine AL_p rfl rfl (S_eql rfl (AEv.tmp rfl) (AEv.const _)) ?_
  refine AL_p rfl rfl (S_move rfl (AEv.tmp rfl)) ?_
  refine AL_g rfl rfl (AEv.tmp rfl) rfl (fun hg1 => S_move rfl (AEv.tmp rfl)) ?_
  refine AL_g rfl rfl (AEv.tmp rfl) rfl (fun hg4 => S_nilCheck rfl (AEv.cond (AEv.tmp rfl) (by first | assumption | exact gdAnd (by assumption) (by assumption)))) ?_
  refine AL_g rfl rfl (AEv.tmp rfl) rfl (fun hg7 => S_field 0 rfl (AEv.cond (AEv.tmp rfl) (by first | assumption | exact gdAnd (by assumption) (by assumption))) (by kernel_rfl)) ?_
  refine AL_g rfl rfl (AEv.tmp rfl) rfl (fun hg10 => S_load 0 rfl (AEv.cond (AEv.tmp rfl) (by first | assumption | exact gdAnd (by assumption) (by assumption))) rfl rfl (by kernel_rfl)) ?_
  refine AL_g rfl rfl (AEv.tmp rfl) rfl (fun hg13 => S_elem (e := 28) (c := noteAV (headN l)) (i := 0) 4 rfl ((AEv.cond (AEv.tmp rfl) (by first | assumption | exact gdAnd (by assumption) (by assumption))).le (Le_own hp)) (AEv.const _) (by kernel_rfl) (by kernel_rfl) (by omega) (head_at (by (try simp only [gd, Bool.and_eq_true, Bool.or_eq_true, Bool.not_eq_true', Bool.not_eq_false', decide_eq_true_eq, decide_eq_false_iff_not, Bool.or_eq_false_iff, Bool.and_eq_false_iff] at *); omega) rfl) rfl) ?_
  refine AL_g rfl rfl (AEv.tmp rfl) rfl (fun hg16 => S_fieldP 0 rfl (AEv.cond (AEv.tmp rfl) (by first | assumption | exact gdAnd (by assumption) (by assumption))) (by kernel_rfl)) ?_
  refine AL_g rfl rfl (AEv.tmp rfl) rfl (fun hg19 => S_loadP rfl (AEv.cond (AEv.tmp rfl) (by first | assumption | exact gdAnd (by assumption) (by assumption))) rfl (by kernel_rfl)) ?_
  refine AL_g rfl rfl (AEv.tmp rfl) rfl (fun hg22 => S_eql rfl (AEv.cond (AEv.tmp rfl) (by first | assumption | exact gdAnd (by assumption) (by assumption))) (AEv.const _)) ?_
  refine AL_p rfl rfl (S_and rfl (AEv.tmp rfl) (fun hp25 => (AEv.cond (AEv.tmp rfl) (by first | assumption | exact gdT hp25 | exact gdF hp25 | exact gdAnd (by assumption) (gdT hp25) | exact gdAnd (by assumption) (gdF hp25))))) ?_
  refine AL_p rfl rfl (S_assign rfl (AEv.tmp rfl)) ?_
  refine AL_nil ?_
  refine AC_ret ?_
  refine ret_tmp (((b, .cells [ownAV p 4 (notesL l), .int .i64 lost]) :: ownSt p 28 4 (notesL l)) ++ F) rfl rfl (Sub.l (List.Sublist.refl _)) (Conv.refl (Sub.l (List.Sublist.refl _)) _) ⟨_, ⟨by rw [notesL_len]; rfl, rfl⟩, rfl⟩ (.inl rfl)

set_option maxRecDepth 100000 in
/-- (*provost/note.Queue).Put -/
theorem queue_Put_ok (b : Nat) (p : Own) (l : List Note) (lost : Int) (n : Note) (hp : p.ok (notesL l)) (hl : l.length ≤ 32) (hlost : -1000000 ≤ lost ∧ lost ≤ 1000000) (F : St) : ACalls Try.prog 8 [.ptr b 0, noteAV n] (((b, .cells [ownAV p 4 (notesL l), .int .i64 lost]) :: ownSt p 28 4 (notesL l)) ++ F) (fun x st' => ∃ foot', (∃ p', p'.ok (notesL (putQ l lost n).1) ∧ x = .bool (putQ l lost n).2.2 ∧ foot' = (b, .cells [ownAV p' 4 (notesL (putQ l lost n).1), .int .i64 (putQ l lost n).2.1]) :: ownSt p' 28 4 (notesL (putQ l lost n).1)) ∧ st' = foot' ++ F) := by
  refine ACalls_of (N := 50) Try.func8 (by kernel_rfl) rfl rfl rfl ?_
  have hln := notesL_len l
  refine AC_seq ?_
  refine AC_region ?_
  refine AL_step rfl rfl (S_box rfl (AEv.tmp rfl)) ?_
  rintro _ _ ⟨b1, rfl, rfl⟩
  refine AL_p rfl rfl (S_assign rfl (AEv.const _)) ?_
  refine AL_nil ?_
  refine AC_block ?_
  refine AC_seq ?_
  refine AC_region ?_
  refine AL_p rfl rfl (S_move rfl (AEv.tmp rfl)) ?_
  refine AL_step rfl rfl (S_call rfl (AEvs.cons (AEv.tmp rfl) AEvs.nil) (ACalls.pre (queue_blind_ok b p l lost hp) [_] F)) ?_
  rintro _ _ ⟨_, ⟨rfl, rfl⟩, rfl⟩
  refine AL_p rfl rfl (S_assign rfl (AEv.tmp rfl)) ?_
  refine AL_nil ?_
  refine AC_cond (AEv.tmp rfl) (fun hb2 => ?_) (fun hb2 => ?_)
  · try simp only [Bool.and_eq_true, Bool.or_eq_true, Bool.not_eq_true', Bool.not_eq_false', Bool.and_eq_false_iff, Bool.or_eq_false_iff, decide_eq_true_eq, decide_eq_false_iff_not, gd] at hb2
    have hbl : blindQ l = true := hb2
    have hq : putQ l lost n = (l, lost + 1, false) := by rw [putQ, if_pos hbl]
    refine AC_seq ?_
    refine AC_region ?_
    refine AL_p rfl rfl (S_move rfl (AEv.tmp rfl)) ?_
    refine AL_p rfl rfl (S_nilCheck rfl (AEv.tmp rfl)) ?_
    refine AL_p rfl rfl (S_field 1 rfl (AEv.tmp rfl) (by kernel_rfl)) ?_
    refine AL_p rfl rfl (S_load 1 rfl (AEv.tmp rfl) rfl rfl (by kernel_rfl)) ?_
    refine AL_p rfl rfl (S_addI rfl (AEv.tmp rfl) (AEv.const _) (by omega) (by omega)) ?_
    refine AL_p rfl rfl (S_nilCheck rfl (AEv.tmp rfl)) ?_
    refine AL_p rfl rfl (S_field 1 rfl (AEv.tmp rfl) (by kernel_rfl)) ?_
    refine AL_step rfl rfl (S_store 1 rfl (AEv.tmp rfl) (AEv.tmp rfl) rfl (by first | exact Nat.le_of_ble_eq_true rfl | simp) rfl (by kernel_rfl)) ?_
    rintro _ _ ⟨rfl, rfl⟩
    refine AL_nil ?_
    refine AC_seq ?_
    refine AC_region ?_
    refine AL_p rfl rfl (S_assign rfl (AEv.const _)) ?_
    refine AL_nil ?_
    refine AC_ret ?_
    refine ret_tmp ((b, .cells [ownAV p 4 (notesL l), .int .i64 (lost + 1)]) :: (ownSt p 28 4 (notesL l) ++ F)) rfl rfl (Sub.l (List.Sublist.cons _ (List.Sublist.refl _))) (Conv.refl (Sub.l (List.Sublist.cons _ (List.Sublist.refl _))) _) ⟨_, ⟨p, by rw [hq]; exact hp, by rw [hq], rfl⟩, by rw [hq]; rfl⟩ (.inl rfl)
  · try simp only [Bool.and_eq_true, Bool.or_eq_true, Bool.not_eq_true', Bool.not_eq_false', Bool.and_eq_false_iff, Bool.or_eq_false_iff, decide_eq_true_eq, decide_eq_false_iff_not, gd] at hb2
    have hbl : ¬ blindQ l = true := by simpa using hb2
    refine AC_seq ?_
    refine AC_region ?_
    refine AL_p rfl rfl (S_move rfl (AEv.tmp rfl)) ?_
    refine AL_p rfl rfl (S_nilCheck rfl (AEv.tmp rfl)) ?_
    refine AL_p rfl rfl (S_field 0 rfl (AEv.tmp rfl) (by kernel_rfl)) ?_
    refine AL_p rfl rfl (S_load 1 rfl (AEv.tmp rfl) rfl rfl (by kernel_rfl)) ?_
    refine AL_p rfl rfl (S_len (e := 28) rfl ((AEv.tmp rfl).le (Le_own hp)) (by kernel_rfl)) ?_
    refine AL_p rfl rfl (S_geq rfl (AEv.tmp rfl) (AEv.const _)) ?_
    refine AL_p rfl rfl (S_assign rfl (AEv.tmp rfl)) ?_
    refine AL_nil ?_
    refine AC_cond (AEv.tmp rfl) (fun hb3 => ?_) (fun hb3 => ?_)
    · try simp only [Bool.and_eq_true, Bool.or_eq_true, Bool.not_eq_true', Bool.not_eq_false', Bool.and_eq_false_iff, Bool.or_eq_false_iff, decide_eq_true_eq, decide_eq_false_iff_not, gd] at hb3
      have h32 : 32 ≤ l.length := by rw [notesL_len] at hb3; omega
      have hq : putQ l lost n = ([(8, 0, 0, 0)], lost + (l.length + 1), false) := by rw [putQ, if_neg hbl, if_pos h32]
      refine AC_seq ?_
      refine AC_plan (σ := [(0, 0), (1, 0), (2, 0), (3, 0), (4, 0), (5, 0), (6, 0), (7, 0), (8, 0), (9, 0), (10, 0), (11, 0), (12, 0), (13, 2)]) (by kernel_rfl) _ (by kernel_rfl) (fun _ h => h) ?_
      refine AG.f rfl rfl (fun st' hst => Q_p rfl (S_move rfl (AEv.tmp rfl))) ?_
      refine AG.f rfl rfl (fun st' hst => Q_p rfl (S_nilCheck rfl (AEv.tmp rfl))) ?_
      refine AG.f rfl rfl (fun st' hst => Q_p rfl (S_field 1 rfl (AEv.tmp rfl) (by kernel_rfl))) ?_
      refine AG.f rfl rfl (fun st' hst => Q_p rfl (S_loadM rfl (AEv.tmp rfl) (hst _ (List.mem_of_getElem? (i := 1) rfl)) rfl (by kernel_rfl))) ?_
      refine AG.f rfl rfl (fun st' hst => Q_p rfl (S_move rfl (AEv.tmp rfl))) ?_
      refine AG.f rfl rfl (fun st' hst => Q_p rfl (S_nilCheck rfl (AEv.tmp rfl))) ?_
      refine AG.f rfl rfl (fun st' hst => Q_p rfl (S_field 0 rfl (AEv.tmp rfl) (by kernel_rfl))) ?_
      refine AG.f rfl rfl (fun st' hst => Q_p rfl (S_loadM rfl (AEv.tmp rfl) (hst _ (List.mem_of_getElem? (i := 1) rfl)) rfl (by kernel_rfl))) ?_
      refine AG.f rfl rfl (fun st' hst => Q_p rfl (S_len (e := 28) rfl ((AEv.tmp rfl).le (Le_own hp)) (by kernel_rfl))) ?_
      refine AG.f rfl rfl (fun st' hst => Q_p rfl (S_addI rfl (AEv.tmp rfl) (AEv.const _) (by omega) (by omega))) ?_
      refine AG.f rfl rfl (fun st' hst => Q_p rfl (S_addI rfl (AEv.tmp rfl) (AEv.tmp rfl) (by omega) (by omega))) ?_
      refine AG.f rfl rfl (fun st' hst => Q_p rfl (S_nilCheck rfl (AEv.tmp rfl))) ?_
      refine AG.f rfl rfl (fun st' hst => Q_p rfl (S_field 1 rfl (AEv.tmp rfl) (by kernel_rfl))) ?_
      refine AG.h rfl rfl rfl (S_store 1 rfl (AEv.tmp rfl) (AEv.tmp rfl) rfl (by first | exact Nat.le_of_ble_eq_true rfl | simp) rfl (by kernel_rfl)) ?_
      rintro _ _ ⟨rfl, rfl⟩
      refine AG.nil ?_
      refine AC_seq ?_
      refine AC_region ?_
      refine AL_p rfl rfl (S_move rfl (AEv.tmp rfl)) ?_
      refine AL_p rfl rfl (S_build (pl := [(0, 1), (1, 1), (2, 1), (3, 1)]) (zs := [.int .i64 0, .int .i64 0, .int .i64 0, .int .i64 0]) rfl (AEvs.cons (AEv.const _) AEvs.nil) (by kernel_rfl) rfl) ?_
      refine AL_step rfl rfl (S_buildOwn (e := 28) 4 rfl (AEvs.cons (y := noteAV (8, 0, 0, 0)) (AEv.tmp rfl) AEvs.nil) rfl (by kernel_rfl) (by kernel_rfl) (by simp [AV.flat, AV.cells]) (by decide) (by decide) (by decide)) ?_
      rintro _ _ ⟨b9, rfl, rfl⟩
      refine AL_p rfl rfl (S_nilCheck rfl (AEv.tmp rfl)) ?_
      refine AL_p rfl rfl (S_field 0 rfl (AEv.tmp rfl) (by kernel_rfl)) ?_
      refine AL_step rfl rfl (S_store 2 rfl (AEv.tmp rfl) (AEv.tmp rfl) rfl (by first | exact Nat.le_of_ble_eq_true rfl | simp) (by first | rfl | exact ownAV_one _ _ _) (by kernel_rfl)) ?_
      rintro _ _ ⟨rfl, rfl⟩
      refine AL_nil ?_
      refine AC_seq ?_
      refine AC_region ?_
      refine AL_p rfl rfl (S_assign rfl (AEv.const _)) ?_
      refine AL_nil ?_
      refine AC_ret ?_
      refine ret_tmp ((b, .cells [ownAV (.row b9 0 1) 4 [noteAV (8, 0, 0, 0)], .int .i64 (lost + (((notesL l).length : Int) + 1))]) :: (ownSt (.row b9 0 1) 28 4 [noteAV (8, 0, 0, 0)] ++ F)) rfl rfl (Sub.p (List.Perm.swap _ _ _) (.cons_cons _ (.cons _ (.cons_cons _ (List.sublist_append_right _ _))))) (Conv.refl (Sub.p (List.Perm.swap _ _ _) (.cons_cons _ (.cons _ (.cons_cons _ (List.sublist_append_right _ _))))) _) ⟨_, ⟨.row b9 0 1, by rw [hq]; exact Nat.le_refl _, by rw [hq], rfl⟩, by rw [hq, hln]; rfl⟩ (.inl rfl)
    · try simp only [Bool.and_eq_true, Bool.or_eq_true, Bool.not_eq_true', Bool.not_eq_false', Bool.and_eq_false_iff, Bool.or_eq_false_iff, decide_eq_true_eq, decide_eq_false_iff_not, gd] at hb3
      have h32 : ¬ 32 ≤ l.length := by rw [notesL_len] at hb3; omega
      have hq : putQ l lost n = (l ++ [n], lost, true) := by rw [putQ, if_neg hbl, if_neg h32]
      refine AC_seq ?_
      refine AC_plan (σ := [(0, 0), (1, 0), (2, 0), (3, 0), (4, 0), (5, 0), (6, 0), (7, 1), (8, 0), (9, 0), (10, 2)]) (by kernel_rfl) [(b1, .cells (noteL n)), (b, .cells [ownAV p 4 (notesL l), .int .i64 lost])] (by kernel_rfl) (fun q hq => List.mem_append_left (ownSt p 28 4 (notesL l) ++ F) hq) ?_
      refine AG.f rfl rfl (fun st' hst => Q_p rfl (S_move rfl (AEv.tmp rfl))) ?_
      refine AG.f rfl rfl (fun st' hst => Q_p rfl (S_move rfl (AEv.tmp rfl))) ?_
      refine AG.f rfl rfl (fun st' hst => Q_p rfl (S_nilCheck rfl (AEv.tmp rfl))) ?_
      refine AG.f rfl rfl (fun st' hst => Q_p rfl (S_field 0 rfl (AEv.tmp rfl) (by kernel_rfl))) ?_
      refine AG.f rfl rfl (fun st' hst => Q_p rfl (S_loadM rfl (AEv.tmp rfl) (hst _ (List.mem_of_getElem? (i := 1) rfl)) rfl (by kernel_rfl))) ?_
      refine AG.f rfl rfl (fun st' hst => Q_p rfl (S_loadNM (m := 4) rfl (AEv.tmp rfl) (hst _ (List.mem_of_getElem? (i := 0) rfl)) (by kernel_rfl) (by first | exact Nat.le_of_ble_eq_true rfl | (simp; omega) | simp))) ?_
      refine AG.f rfl rfl (fun st' hst => Q_p rfl (S_buildSlice (e := 28) 4 rfl (AEvs.cons (y := noteAV n) (AEv.tmp rfl) AEvs.nil) rfl (by kernel_rfl) (by kernel_rfl) (by simp [AV.flat, AV.cells]) (by decide) (by decide) (by decide))) ?_
      refine AG.s rfl rfl rfl (S_appendOwn (e := 28) (size := 4) (bytes := 32) (p := p) (xs := notesL l) [_, _] F rfl (AEv.tmp rfl) (AEv.tmp rfl) rfl hp (by kernel_rfl) (by simp) notesL_cells (by simp [AV.cells, AV.one, Value.oneCell']) (by simp only [List.length_singleton]; omega) (by simp only [List.length_singleton]; omega)) ?_ ?_
      · rintro _ _ ⟨b8, k8, cap8, hx, rfl, rfl⟩ q hq; exact List.mem_append_left _ hq
      rintro _ _ ⟨b8, k8, cap8, hx, rfl, rfl⟩
      refine AG.f rfl rfl (fun st' hst => Q_p rfl (S_nilCheck rfl (AEv.tmp rfl))) ?_
      refine AG.f rfl rfl (fun st' hst => Q_p rfl (S_field 0 rfl (AEv.tmp rfl) (by kernel_rfl))) ?_
      refine AG.h rfl rfl rfl (S_store 1 rfl (AEv.tmp rfl) (AEv.tmp rfl) rfl (by first | exact Nat.le_of_ble_eq_true rfl | simp) (by first | rfl | exact ownAV_one _ _ _) (by kernel_rfl)) ?_
      rintro _ _ ⟨rfl, rfl⟩
      refine AG.nil ?_
      refine AC_seq ?_
      refine AC_region ?_
      refine AL_p rfl rfl (S_assign rfl (AEv.const _)) ?_
      refine AL_nil ?_
      refine AC_ret ?_
      refine ret_tmp ((b, .cells [ownAV (.row b8 k8 cap8) 4 (notesL l ++ [noteAV n]), .int .i64 lost]) :: (ownSt (.row b8 k8 cap8) 28 4 (notesL l ++ [noteAV n]) ++ F)) rfl rfl (Sub.l (List.Sublist.cons _ (List.Sublist.refl _))) (Conv.refl (Sub.l (List.Sublist.cons _ (List.Sublist.refl _))) _) ⟨_, ⟨.row b8 k8 cap8, by rw [hq]; dsimp only; rw [notesL_snoc]; exact hx, by rw [hq], rfl⟩, by rw [hq]; dsimp only; rw [notesL_snoc]; rfl⟩ (.inl rfl)

set_option maxRecDepth 100000 in
/-- slices.Clone[[]provost/api.Note,provost/api.Note] -/
theorem clone_ok (l : List Note) (hl : l.length ≤ 100) (F : St) : ACalls Try.prog 17 [.sl (notesL l)] ([] ++ F) (fun x st' => ∃ foot', (∃ p : Own, p.ok (notesL l) ∧ x = ownAV p 4 (notesL l) ∧ foot' = ownSt p 28 4 (notesL l)) ∧ st' = foot' ++ F) := by
  refine ACalls_of (N := 8) Try.func17 (by kernel_rfl) rfl rfl rfl ?_
  have hln := notesL_len l
  refine AC_seq ?_
  refine AC_region ?_
  refine AL_p rfl rfl (S_assign rfl (AEv.const _)) ?_
  refine AL_nil ?_
  refine AC_seq ?_
  refine AC_seq ?_
  refine AC_region ?_
  refine AL_p rfl rfl (S_move rfl (AEv.tmp rfl)) ?_
  refine AL_step rfl rfl (S_eqlNilSl (e := 28) rfl (AEv.tmp rfl) (AEv.const _) (by kernel_rfl)) ?_
  rintro _ st9 ⟨c, rfl, hc, h9⟩
  rw [h9]
  clear h9 st9
  refine AL_nil ?_
  refine AC_cond (AEv.tmp rfl) (fun hb1 => ?_) (fun hb1 => ?_)
  · try simp only [Bool.and_eq_true, Bool.or_eq_true, Bool.not_eq_true', Bool.not_eq_false', Bool.and_eq_false_iff, Bool.or_eq_false_iff, decide_eq_true_eq, decide_eq_false_iff_not, gd] at hb1
    have hnil := hc hb1
    refine AC_seq ?_
    refine AC_region ?_
    refine AL_p rfl rfl (S_assign rfl (AEv.const _)) ?_
    refine AL_nil ?_
    refine AC_ret ?_
    refine ret_tmp ([] ++ F) rfl rfl (Sub.l (List.Sublist.refl _)) (Conv.refl (Sub.l (List.Sublist.refl _)) _) ⟨[], ⟨.nil, hnil, rfl, rfl⟩, rfl⟩ (.inl rfl)
  · try simp only [Bool.and_eq_true, Bool.or_eq_true, Bool.not_eq_true', Bool.not_eq_false', Bool.and_eq_false_iff, Bool.or_eq_false_iff, decide_eq_true_eq, decide_eq_false_iff_not, gd] at hb1
    refine AC_skip ?_
    refine AC_seq ?_
    refine AC_region ?_
    refine AL_step rfl rfl (S_build0 (e := 28) rfl rfl (by kernel_rfl) (by kernel_rfl)) ?_
    rintro _ st9 ⟨A, rfl, h9⟩
    rw [h9]
    clear h9 st9
    refine AL_p rfl rfl (S_move rfl (AEv.tmp rfl)) ?_
    refine AL_step rfl rfl (S_appendEmpAll (e := 28) (size := 4) (bytes := 32) rfl (AEv.tmp rfl) (AEv.tmp rfl) (by kernel_rfl) (fun y hy => by obtain ⟨r, _, rfl⟩ := List.mem_map.1 hy; exact ⟨rfl, rfl⟩) (by omega) (by omega)) ?_
    rintro _ _ ⟨p, hp, rfl, rfl⟩
    refine AL_p rfl rfl (S_assign rfl (AEv.tmp rfl)) ?_
    refine AL_nil ?_
    refine AC_ret ?_
    refine ret_tmp (ownSt p 28 4 (notesL l) ++ F) rfl rfl (Sub.l (List.Sublist.refl _)) (Conv.refl (Sub.l (List.Sublist.refl _)) _) ⟨_, ⟨p, hp, rfl, rfl⟩, rfl⟩ (.inl rfl)

set_option maxRecDepth 100000 in
/-- provost/note.New -/
theorem note_New_ok (F : St) : ACalls Try.prog 6 [] ([] ++ F) (fun x st' => ∃ foot', (∃ b, x = .ptr b 0 ∧ foot' = (b, .cells [ownAV .nil 4 (notesL []), .int .i64 0]) :: ownSt .nil 28 4 (notesL [])) ∧ st' = foot' ++ F) := by
  refine ACalls_of (N := 3) Try.func6 (by kernel_rfl) rfl rfl rfl ?_
  refine AC_seq ?_
  refine AC_region ?_
  refine AL_p rfl rfl (S_assign rfl (AEv.const _)) ?_
  refine AL_nil ?_
  refine AC_seq ?_
  refine AC_region ?_
  refine AL_p rfl rfl (S_build (pl := [(0, 1), (1, 1)]) (zs := [.slice none 0 0, .int .i64 0]) rfl AEvs.nil (by kernel_rfl) rfl) ?_
  refine AL_step rfl rfl (S_box rfl (AEv.tmp rfl)) ?_
  rintro _ _ ⟨b1, rfl, rfl⟩
  refine AL_p rfl rfl (S_assign rfl (AEv.tmp rfl)) ?_
  refine AL_nil ?_
  refine AC_ret ?_
  refine ret_tmp ((b1, .cells [ownAV .nil 4 (notesL []), .int .i64 0]) :: ([] ++ F)) rfl rfl (Sub.l (List.Sublist.refl _)) (Conv.refl (Sub.l (List.Sublist.refl _)) _) ⟨_, ⟨b1, rfl, rfl⟩, rfl⟩ (.inl rfl)

set_option maxRecDepth 100000 in
/-- (*provost/note.Queue).All -/
theorem queue_All_ok (b : Nat) (p : Own) (l : List Note) (lost : Int) (hp : p.ok (notesL l)) (hl : l.length ≤ 100) (F : St) : ACalls Try.prog 15 [.ptr b 0] (((b, .cells [ownAV p 4 (notesL l), .int .i64 lost]) :: ownSt p 28 4 (notesL l)) ++ F) (fun x st' => ∃ foot', (∃ p2 : Own, p2.ok (notesL l) ∧ x = ownAV p2 4 (notesL l) ∧ foot' = ownSt p2 28 4 (notesL l) ++ ((b, .cells [ownAV p 4 (notesL l), .int .i64 lost]) :: ownSt p 28 4 (notesL l))) ∧ st' = foot' ++ F) := by
  refine ACalls_of (N := 8) Try.func15 (by kernel_rfl) rfl rfl rfl ?_
  refine AC_seq ?_
  refine AC_region ?_
  refine AL_p rfl rfl (S_assign rfl (AEv.const _)) ?_
  refine AL_nil ?_
  refine AC_seq ?_
  refine AC_region ?_
  refine AL_p rfl rfl (S_move rfl (AEv.tmp rfl)) ?_
  refine AL_p rfl rfl (S_nilCheck rfl (AEv.tmp rfl)) ?_
  refine AL_p rfl rfl (S_field 0 rfl (AEv.tmp rfl) (by kernel_rfl)) ?_
  refine AL_p rfl rfl (S_load 0 rfl (AEv.tmp rfl) rfl rfl (by kernel_rfl)) ?_
  refine AL_step rfl rfl (S_call rfl (AEvs.cons ((AEv.tmp rfl).le (Le_own hp)) AEvs.nil) (clone_ok l hl _)) ?_
  rintro _ _ ⟨_, ⟨p2, hp2, rfl, rfl⟩, rfl⟩
  refine AL_p rfl rfl (S_assign rfl (AEv.tmp rfl)) ?_
  refine AL_nil ?_
  refine AC_ret ?_
  refine ret_tmp (ownSt p2 28 4 (notesL l) ++ (((b, .cells [ownAV p 4 (notesL l), .int .i64 lost]) :: ownSt p 28 4 (notesL l)) ++ F)) rfl rfl (Sub.l (List.Sublist.refl _)) (Conv.refl (Sub.l (List.Sublist.refl _)) _) ⟨_, ⟨p2, hp2, rfl, rfl⟩, by simp⟩ (.inl rfl)

set_option maxRecDepth 100000 in
/-- (*provost/note.Queue).Take -/
theorem queue_Take_ok (b : Nat) (p : Own) (l : List Note) (lost : Int) (hp : p.ok (notesL l)) (hl : l.length ≤ 100) (F : St) : ACalls Try.prog 7 [.ptr b 0] (((b, .cells [ownAV p 4 (notesL l), .int .i64 lost]) :: ownSt p 28 4 (notesL l)) ++ F) (fun x st' => ∃ foot', (∃ p' : Own, p'.ok (notesL (takeQ l).1) ∧ x = .tup [noteAV (takeQ l).2.1, .bool (takeQ l).2.2] ∧ foot' = (b, .cells [ownAV p' 4 (notesL (takeQ l).1), .int .i64 lost]) :: ownSt p' 28 4 (notesL (takeQ l).1)) ∧ st' = foot' ++ F) := by
  refine ACalls_of (N := 28) Try.func7 (by kernel_rfl) rfl rfl rfl ?_
  have hln := notesL_len l
  refine AC_seq ?_
  refine AC_region ?_
  refine AL_step rfl rfl (S_alloc (List.replicate 4 (.int .i64 0)) rfl (by kernel_rfl)) ?_
  rintro _ _ ⟨b1, rfl, rfl⟩
  refine AL_p rfl rfl (S_assign rfl (AEv.const _)) ?_
  refine AL_nil ?_
  refine AC_seq ?_
  refine AC_seq ?_
  refine AC_region ?_
  refine AL_p rfl rfl (S_move rfl (AEv.tmp rfl)) ?_
  refine AL_p rfl rfl (S_nilCheck rfl (AEv.tmp rfl)) ?_
  refine AL_p rfl rfl (S_field 0 rfl (AEv.tmp rfl) (by kernel_rfl)) ?_
  refine AL_p rfl rfl (S_load 1 rfl (AEv.tmp rfl) rfl rfl (by kernel_rfl)) ?_
  refine AL_p rfl rfl (S_len (e := 28) rfl ((AEv.tmp rfl).le (Le_own hp)) (by kernel_rfl)) ?_
  refine AL_p rfl rfl (S_eql rfl (AEv.tmp rfl) (AEv.const _)) ?_
  refine AL_nil ?_
  refine AC_cond (AEv.tmp rfl) (fun hb2 => ?_) (fun hb2 => ?_)
  · try simp only [Bool.and_eq_true, Bool.or_eq_true, Bool.not_eq_true', Bool.not_eq_false', Bool.and_eq_false_iff, Bool.or_eq_false_iff, decide_eq_true_eq, decide_eq_false_iff_not, gd] at hb2
    have h0 : l = [] := List.eq_nil_of_length_eq_zero (by omega)
    subst h0
    refine AC_seq ?_
    refine AC_region ?_
    refine AL_p rfl rfl (S_build (pl := [(0, 1), (1, 1), (2, 1), (3, 1)]) (zs := [.int .i64 0, .int .i64 0, .int .i64 0, .int .i64 0]) rfl AEvs.nil (by kernel_rfl) rfl) ?_
    refine AL_step rfl rfl (S_storeN 0 rfl (AEv.tmp rfl) (AEv.tmp rfl) rfl (by first | exact Nat.le_of_ble_eq_true rfl | (simp; omega) | simp) (by first | rfl | simp [AV.one, Value.oneCell']) (by kernel_rfl)) ?_
    rintro _ _ ⟨rfl, rfl⟩
    refine AL_p rfl rfl (S_assign rfl (AEv.const _)) ?_
    refine AL_nil ?_
    refine AC_ret ?_
    refine ret_outs (((b, .cells [ownAV p 4 (notesL []), .int .i64 lost]) :: ownSt p 28 4 (notesL [])) ++ F) rfl (by decide) (OutsR.row 0 rfl rfl (by kernel_rfl) (OutsR.tmp rfl OutsR.nil)) (Sub.l (List.Sublist.cons _ (List.Sublist.refl _))) (Conv.refl (Sub.l (List.Sublist.cons _ (List.Sublist.refl _))) _) ⟨_, ⟨p, hp, rfl, rfl⟩, rfl⟩ (.inl rfl)
  · try simp only [Bool.and_eq_true, Bool.or_eq_true, Bool.not_eq_true', Bool.not_eq_false', Bool.and_eq_false_iff, Bool.or_eq_false_iff, decide_eq_true_eq, decide_eq_false_iff_not, gd] at hb2
    obtain ⟨n, l, rfl⟩ : ∃ n l', l = n :: l' := by
      cases l with
      | nil => exact absurd (by simp [notesL]) hb2
      | cons n l => exact ⟨n, l, rfl⟩
    simp only [List.length_cons] at hl hln
    refine AC_skip ?_
    refine AC_seq ?_
    refine AC_region ?_
    refine AL_p rfl rfl (S_move rfl (AEv.tmp rfl)) ?_
    refine AL_p rfl rfl (S_nilCheck rfl (AEv.tmp rfl)) ?_
    refine AL_p rfl rfl (S_field 0 rfl (AEv.tmp rfl) (by kernel_rfl)) ?_
    refine AL_p rfl rfl (S_load 1 rfl (AEv.tmp rfl) rfl rfl (by kernel_rfl)) ?_
    refine AL_p rfl rfl (S_elem (e := 28) (c := noteAV n) (i := 0) 4 rfl ((AEv.tmp rfl).le (Le_own hp)) (AEv.const _) (by kernel_rfl) (by kernel_rfl) (by omega) rfl rfl) ?_
    refine AL_p rfl rfl (S_loadPN (m := 4) rfl (AEv.tmp rfl) (by kernel_rfl) (by first | exact Nat.le_of_ble_eq_true rfl | (simp; omega) | simp)) ?_
    refine AL_step rfl rfl (S_alloc (List.replicate 4 (.int .i64 0)) rfl (by kernel_rfl)) ?_
    rintro _ _ ⟨b3, rfl, rfl⟩
    refine AL_step rfl rfl (S_storeN 0 rfl (AEv.tmp rfl) (AEv.tmp rfl) rfl (by first | exact Nat.le_of_ble_eq_true rfl | (simp; omega) | simp) (by first | rfl | simp [AV.one, Value.oneCell']) (by kernel_rfl)) ?_
    rintro _ _ ⟨rfl, rfl⟩
    refine AL_nil ?_
    refine AC_seq ?_
    refine AC_region ?_
    refine AL_p rfl rfl (S_move rfl (AEv.tmp rfl)) ?_
    refine AL_p rfl rfl (S_move rfl (AEv.tmp rfl)) ?_
    refine AL_p rfl rfl (S_nilCheck rfl (AEv.tmp rfl)) ?_
    refine AL_p rfl rfl (S_field 0 rfl (AEv.tmp rfl) (by kernel_rfl)) ?_
    refine AL_p rfl rfl (S_load 2 rfl (AEv.tmp rfl) rfl rfl (by kernel_rfl)) ?_
    refine AL_p rfl rfl (S_cut (e := 28) (i := 1) (j := (notesL (n :: l)).length) 4 rfl ((AEv.tmp rfl).le (Le_own hp)) ⟨_, AEv.const _⟩ rfl (by kernel_rfl) (by kernel_rfl) notesL_cells (by omega) (by omega)) ?_
    refine AL_step rfl rfl (S_call rfl (AEvs.cons ((AEv.tmp rfl).le (Le.of_eq (by rw [List.take_of_length_le (Nat.le_refl _)]; rfl))) AEvs.nil) (ACalls.pre (foot := []) (clone_ok l (by omega)) [_, _, _] (ownSt p 28 4 (notesL (n :: l)) ++ F))) ?_
    rintro _ _ ⟨_, ⟨p2, hp2, rfl, rfl⟩, rfl⟩
    refine AL_p rfl rfl (S_nilCheck rfl (AEv.tmp rfl)) ?_
    refine AL_p rfl rfl (S_field 0 rfl (AEv.tmp rfl) (by kernel_rfl)) ?_
    refine AL_step rfl rfl (S_store 2 rfl (AEv.tmp rfl) (AEv.tmp rfl) rfl (by first | exact Nat.le_of_ble_eq_true rfl | simp) (by first | rfl | exact ownAV_one _ _ _) (by kernel_rfl)) ?_
    rintro _ _ ⟨rfl, rfl⟩
    refine AL_nil ?_
    refine AC_seq ?_
    refine AC_region ?_
    refine AL_p rfl rfl (S_loadN (m := 4) 0 rfl (AEv.tmp rfl) rfl (by kernel_rfl) (by first | exact Nat.le_of_ble_eq_true rfl | (simp; omega) | simp)) ?_
    refine AL_step rfl rfl (S_storeN 1 rfl (AEv.tmp rfl) (AEv.tmp rfl) rfl (by first | exact Nat.le_of_ble_eq_true rfl | (simp; omega) | simp) (by first | rfl | simp [AV.one, Value.oneCell']) (by kernel_rfl)) ?_
    rintro _ _ ⟨rfl, rfl⟩
    refine AL_p rfl rfl (S_assign rfl (AEv.const _)) ?_
    refine AL_nil ?_
    refine AC_ret ?_
    refine ret_outs ((b, .cells [ownAV p2 4 (notesL l), .int .i64 lost]) :: (ownSt p2 28 4 (notesL l) ++ F)) rfl (by decide) (OutsR.row 1 rfl rfl (by kernel_rfl) (OutsR.tmp rfl OutsR.nil)) (Sub.l (.cons _ (.cons _ (.cons_cons _ (List.Sublist.append (List.Sublist.refl _) (List.sublist_append_right _ _)))))) (Conv.refl (Sub.l (.cons _ (.cons _ (.cons_cons _ (List.Sublist.append (List.Sublist.refl _) (List.sublist_append_right _ _)))))) _) ⟨_, ⟨p2, hp2, rfl, rfl⟩, rfl⟩ (.inl rfl)

set_option maxRecDepth 100000 in
/-- provost/provostlaw23.works -/
theorem law_works : PCalls Try.prog 5 [] (.bool true) := by
  intro st
  refine ACalls_of (N := 37) Try.func5 (by kernel_rfl) rfl rfl rfl ?_
  have e1 := works_putq
  have e2 := works_note
  refine AC_seq ?_
  refine AC_region ?_
  refine AL_p rfl rfl (S_assign rfl (AEv.const _)) ?_
  refine AL_nil ?_
  refine AC_seq ?_
  refine AC_region ?_
  refine AL_step rfl rfl (S_call rfl AEvs.nil (note_New_ok st)) ?_
  rintro _ _ ⟨_, ⟨b1, rfl, rfl⟩, rfl⟩
  refine AL_p rfl rfl (S_assign rfl (AEv.tmp rfl)) ?_
  refine AL_nil ?_
  refine AC_seq ?_
  refine AC_seq ?_
  refine AC_region ?_
  refine AL_p rfl rfl (S_move rfl (AEv.tmp rfl)) ?_
  refine AL_p rfl rfl (S_eqlNil rfl (AEv.tmp rfl) (AEv.const _) (by kernel_rfl)) ?_
  refine AL_nil ?_
  refine AC_cond (AEv.tmp rfl) (fun hb1 => ?_) (fun hb1 => ?_)
  · simp at hb1; done
  · try simp only [Bool.and_eq_true, Bool.or_eq_true, Bool.not_eq_true', Bool.not_eq_false', Bool.and_eq_false_iff, Bool.or_eq_false_iff, decide_eq_true_eq, decide_eq_false_iff_not, gd] at hb1
    refine AC_skip ?_
    refine AC_seq ?_
    refine AC_region ?_
    refine AL_p rfl rfl (S_build (pl := [(0, 1), (1, 1), (2, 1), (3, 1)]) (zs := [.int .i64 0, .int .i64 0, .int .i64 0, .int .i64 0]) rfl (AEvs.cons (AEv.const _) (AEvs.cons (AEv.const _) (AEvs.cons (AEv.const _) AEvs.nil))) (by kernel_rfl) rfl) ?_
    refine AL_step rfl rfl (S_alloc (List.replicate 4 (.int .i64 0)) rfl (by kernel_rfl)) ?_
    rintro _ _ ⟨b2, rfl, rfl⟩
    refine AL_step rfl rfl (S_storeN 0 rfl (AEv.tmp rfl) (AEv.tmp rfl) rfl (by first | exact Nat.le_of_ble_eq_true rfl | (simp; omega) | simp) (by first | rfl | simp [AV.one, Value.oneCell']) (by kernel_rfl)) ?_
    rintro _ _ ⟨rfl, rfl⟩
    refine AL_nil ?_
    refine AC_seq ?_
    refine AC_region ?_
    refine AL_p rfl rfl (S_move rfl (AEv.tmp rfl)) ?_
    refine AL_p rfl rfl (S_loadN (m := 4) 0 rfl (AEv.tmp rfl) rfl (by kernel_rfl) (by first | exact Nat.le_of_ble_eq_true rfl | (simp; omega) | simp)) ?_
    refine AL_step rfl rfl (S_call rfl (AEvs.cons (AEv.tmp rfl) (AEvs.cons (y := noteAV (6, 3, 0, 137)) (AEv.tmp rfl) AEvs.nil)) (ACalls.pre (queue_Put_ok b1 .nil [] 0 (6, 3, 0, 137) rfl (by decide) (by decide)) [_] st)) ?_
    rintro _ _ ⟨_, ⟨p1, hp1, rfl, rfl⟩, rfl⟩
    rw [e1] at hp1 ⊢
    refine AL_p rfl rfl (S_assign rfl (AEv.tmp rfl)) ?_
    refine AL_nil ?_
    refine AC_seq ?_
    refine AC_region ?_
    refine AL_p rfl rfl (S_move rfl (AEv.tmp rfl)) ?_
    refine AL_step rfl rfl (S_call rfl (AEvs.cons (AEv.tmp rfl) AEvs.nil) (ACalls.pre (queue_Take_ok b1 p1 [(6, 3, 0, 137)] 0 hp1 (by decide)) [_] st)) ?_
    rintro _ _ ⟨_, ⟨p2, hp2, rfl, rfl⟩, rfl⟩
    refine AL_p rfl rfl (S_move rfl (AEv.tmp rfl)) ?_
    refine AL_p rfl rfl (S_extract 0 rfl (AEv.tmp rfl) rfl) ?_
    refine AL_p rfl rfl (S_extract 1 rfl (AEv.tmp rfl) rfl) ?_
    refine AL_step rfl rfl (S_alloc (List.replicate 4 (.int .i64 0)) rfl (by kernel_rfl)) ?_
    rintro _ _ ⟨b3, rfl, rfl⟩
    refine AL_step rfl rfl (S_storeN 0 rfl (AEv.tmp rfl) (AEv.tmp rfl) rfl (by first | exact Nat.le_of_ble_eq_true rfl | (simp; omega) | simp) (by first | rfl | simp [AV.one, Value.oneCell']) (by kernel_rfl)) ?_
    rintro _ _ ⟨rfl, rfl⟩
    refine AL_p rfl rfl (S_assign rfl (AEv.tmp rfl)) ?_
    refine AL_nil ?_
    refine AC_seq ?_
    refine AC_region ?_
    refine AL_p rfl rfl (S_move rfl (AEv.tmp rfl)) ?_
    refine AL_p rfl rfl (S_move rfl (AEv.tmp rfl)) ?_
    refine AL_g rfl rfl (AEv.tmp rfl) rfl (fun hg4 => S_move rfl (AEv.tmp rfl)) ?_
    refine AL_p rfl rfl (S_and rfl (AEv.tmp rfl) (fun hp7 => (AEv.cond (AEv.tmp rfl) (by first | assumption | exact gdT hp7 | exact gdF hp7 | exact gdAnd (by assumption) (gdT hp7) | exact gdAnd (by assumption) (gdF hp7))))) ?_
    refine AL_p rfl rfl (S_move rfl (AEv.tmp rfl)) ?_
    refine AL_g rfl rfl (AEv.tmp rfl) rfl (fun hg8 => S_loadN (m := 4) 0 rfl (AEv.tmp rfl) rfl (by kernel_rfl) (by first | exact Nat.le_of_ble_eq_true rfl | (simp; omega) | simp)) ?_
    refine AL_g rfl rfl (AEv.tmp rfl) rfl (fun hg11 => S_loadN (m := 4) 1 rfl (AEv.tmp rfl) rfl (by kernel_rfl) (by first | exact Nat.le_of_ble_eq_true rfl | (simp; omega) | simp)) ?_
    refine AL_g rfl rfl (AEv.tmp rfl) rfl (fun hg14 => S_eqlAgg rfl (AEv.cond (AEv.tmp rfl) (by first | assumption | exact gdAnd (by assumption) (by assumption))) (AEv.cond (AEv.tmp rfl) (by first | assumption | exact gdAnd (by assumption) (by assumption))) (by kernel_rfl) (EqAV.struct Try.underlying28 (by kernel_rfl) (EqFs.flat (by kernel_rfl) (by kernel_rfl) rfl rfl (EqAV.int (k' := .i64) (by kernel_rfl)) (EqFs.flat (by kernel_rfl) (by kernel_rfl) rfl rfl (EqAV.int (k' := .i64) (by kernel_rfl)) (EqFs.flat (by kernel_rfl) (by kernel_rfl) rfl rfl (EqAV.int (k' := .i64) (by kernel_rfl)) (EqFs.flat (by kernel_rfl) (by kernel_rfl) rfl rfl (EqAV.int (k' := .i64) (by kernel_rfl)) EqFs.nil)))))) ?_
    refine AL_p rfl rfl (S_and rfl (AEv.tmp rfl) (fun hp17 => (AEv.cond (AEv.tmp rfl) (by first | assumption | exact gdT hp17 | exact gdF hp17 | exact gdAnd (by assumption) (gdT hp17) | exact gdAnd (by assumption) (gdF hp17))))) ?_
    refine AL_p rfl rfl (S_move rfl (AEv.tmp rfl)) ?_
    refine AL_g rfl rfl (AEv.tmp rfl) rfl (fun hg18 => S_loadN (m := 4) 1 rfl (AEv.tmp rfl) rfl (by kernel_rfl) (by first | exact Nat.le_of_ble_eq_true rfl | (simp; omega) | simp)) ?_
    refine AL_g rfl rfl (AEv.tmp rfl) rfl (fun hg21 => S_pcall rfl (AEvs.cons (AEv.cond (AEv.tmp rfl) (by first | assumption | exact gdAnd (by assumption) (by assumption))) AEvs.nil) (note_Text_ok (6, 3, 0, 137) (by decide))) ?_
    refine AL_g rfl rfl (AEv.tmp rfl) rfl (fun hg24 => S_eqS rfl (AEv.cond (AEv.tmp rfl) (by first | assumption | exact gdAnd (by assumption) (by assumption))) (AEv.S _)) ?_
    refine AL_p rfl rfl (S_and rfl (AEv.tmp rfl) (fun hp27 => (AEv.cond (AEv.tmp rfl) (by first | assumption | exact gdT hp27 | exact gdF hp27 | exact gdAnd (by assumption) (gdT hp27) | exact gdAnd (by assumption) (gdF hp27))))) ?_
    refine AL_p rfl rfl (S_move rfl (AEv.tmp rfl)) ?_
    refine AL_g rfl rfl (AEv.tmp rfl) rfl (fun hg28 => S_move rfl (AEv.tmp rfl)) ?_
    refine AL_g rfl rfl (AEv.tmp rfl) rfl (fun hg31 => S_keep (S_call rfl (AEvs.cons (AEv.cond (AEv.tmp rfl) (by first | assumption | exact gdAnd (by assumption) (by assumption))) AEvs.nil) (ACalls.pre (queue_Len_ok b1 p2 [] 0 hp2) [_, _] st)) (by rintro _ _ ⟨_, ⟨rfl, rfl⟩, rfl⟩; exact ⟨rfl, rfl⟩)) ?_
    refine AL_g rfl rfl (AEv.tmp rfl) rfl (fun hg34 => S_eql rfl (AEv.cond (AEv.tmp rfl) (by first | assumption | exact gdAnd (by assumption) (by assumption))) (AEv.const _)) ?_
    refine AL_p rfl rfl (S_and rfl (AEv.tmp rfl) (fun hp37 => (AEv.cond (AEv.tmp rfl) (by first | assumption | exact gdT hp37 | exact gdF hp37 | exact gdAnd (by assumption) (gdT hp37) | exact gdAnd (by assumption) (gdF hp37))))) ?_
    refine AL_p rfl rfl (S_assign rfl (AEv.tmp rfl)) ?_
    refine AL_nil ?_
    refine AC_ret ?_
    refine ret_tmp st rfl rfl (Sub.l (List.Sublist.cons _ (List.Sublist.cons _ (List.Sublist.cons _ (List.sublist_append_right _ _))))) (Conv.refl (Sub.l (List.Sublist.cons _ (List.Sublist.cons _ (List.Sublist.cons _ (List.sublist_append_right _ _))))) _) ⟨by rw [e2]; rfl, rfl⟩ (.inl rfl)

set_option maxRecDepth 100000 in
/-- provost/provostlaw23.NoteOrder -/
theorem law_NoteOrder (l : List Bool) (rep : Int) (hrep : fits rep) : PCalls Try.prog 3 [.sl (l.map fun b => .bool b), .int .i64 rep] (.bool true) := by
  intro st
  refine ACalls_of (N := 124) Try.func3 (by kernel_rfl) rfl rfl rfl ?_
  have hlen0 : (l.map fun b => AV.bool b).length = l.length := by simp
  refine AC_seq ?_
  refine AC_region ?_
  refine AL_p rfl rfl (S_assign rfl (AEv.const _)) ?_
  refine AL_nil ?_
  refine AC_seq ?_
  refine AC_seq ?_
  refine AC_region ?_
  refine AL_p rfl rfl (S_pcall rfl AEvs.nil (law_works)) ?_
  refine AL_p rfl rfl (S_not rfl (AEv.tmp rfl)) ?_
  refine AL_nil ?_
  refine AC_cond (AEv.tmp rfl) (fun hb1 => ?_) (fun hb1 => ?_)
  · simp at hb1; done
  · try simp only [Bool.and_eq_true, Bool.or_eq_true, Bool.not_eq_true', Bool.not_eq_false', Bool.and_eq_false_iff, Bool.or_eq_false_iff, decide_eq_true_eq, decide_eq_false_iff_not, gd] at hb1
    refine AC_skip ?_
    refine AC_seq ?_
    refine AC_region ?_
    refine AL_step rfl rfl (S_call rfl AEvs.nil (note_New_ok st)) ?_
    rintro _ _ ⟨_, ⟨b1, rfl, rfl⟩, rfl⟩
    refine AL_p rfl rfl (S_assign rfl (AEv.tmp rfl)) ?_
    refine AL_nil ?_
    refine AC_seq ?_
    refine AC_seq ?_
    refine AC_region ?_
    refine AL_p rfl rfl (S_move rfl (AEv.tmp rfl)) ?_
    refine AL_p rfl rfl (S_eqlNil rfl (AEv.tmp rfl) (AEv.const _) (by kernel_rfl)) ?_
    refine AL_nil ?_
    refine AC_cond (AEv.tmp rfl) (fun hb2 => ?_) (fun hb2 => ?_)
    · simp at hb2; done
    · try simp only [Bool.and_eq_true, Bool.or_eq_true, Bool.not_eq_true', Bool.not_eq_false', Bool.and_eq_false_iff, Bool.or_eq_false_iff, decide_eq_true_eq, decide_eq_false_iff_not, gd] at hb2
      refine AC_skip ?_
      refine AC_seq ?_
      refine AC_region ?_
      refine AL_p rfl rfl (S_assign rfl (AEv.const _)) ?_
      refine AL_nil ?_
      refine AC_seq ?_
      refine AC_region ?_
      refine AL_p rfl rfl (S_assign rfl (AEv.const _)) ?_
      refine AL_nil ?_
      refine AC_seq ?_
      refine AC_region ?_
      refine AL_p rfl rfl (S_assign rfl (AEv.const _)) ?_
      refine AL_nil ?_
      refine AC_seq ?_
      refine AC_seq ?_
      refine AC_region ?_
      refine AL_p rfl rfl (S_assign rfl (AEv.const _)) ?_
      refine AL_nil ?_
      refine AC_block ?_
      refine AC_loopS (G := OG) (fun g => g.ok ∧ g.k = 0) (fun g => [(0, .sl (l.map fun b => .bool b)), (1, .int .i64 rep), (5, .ptr b1 0), (6, ownAV g.t 1 (ints g.th)), (7, .int .i64 g.nx), (8, .bool g.bl), (9, .int .i64 (g.i : Int))]) (fun g => ((b1, .cells [ownAV g.p 4 (notesL g.ql), .int .i64 g.lost]) :: (ownSt g.p 28 4 (notesL g.ql) ++ (ownSt g.t 3 1 (ints g.th) ++ st)))) (fun g => 200 - g.i) (⟨0, 0, .nil, [], 0, .nil, [], 0, false⟩) (⟨⟨rfl, rfl, Ord.start, by simp, by simp, by simp, by simp⟩, rfl⟩) (Sub.l (List.Sublist.refl _)) ?_ ?_
      · exact .cons rfl (Le.refl _) (.cons rfl (Le.refl _) (.cons rfl (Le.refl _) (.cons rfl (Le.refl _) (.cons rfl (Le.refl _) (.cons rfl (Le.refl _) (.cons rfl (Le.refl _) .nil))))))
      · rintro ⟨i, k0, p, ql, lost, t, th, nx, bl⟩ ⟨hI, hk0⟩
        try dsimp only
        dsimp only at hk0
        subst hk0
        dsimp only [OG.ok] at hI
        obtain ⟨hp, ht, hord, hn0, hn1, hi, hk40⟩ := hI
        try dsimp only at hp ht hord hn0 hn1 hi hk40
        have hlen := hord.len
        have hll := hord.lost_le (by omega)
        have hpos := hord.pos
        have hle := hord.le
        refine AC_seq ?_
        refine AC_seq ?_
        refine AC_region ?_
        refine AL_p rfl rfl (S_move rfl (AEv.tmp rfl)) ?_
        refine AL_p rfl rfl (S_move rfl (AEv.tmp rfl)) ?_
        refine AL_p rfl rfl (S_len (e := 4) rfl (AEv.tmp rfl) (by kernel_rfl)) ?_
        refine AL_p rfl rfl (S_lss rfl (AEv.tmp rfl) (AEv.tmp rfl)) ?_
        refine AL_p rfl rfl (S_move rfl (AEv.tmp rfl)) ?_
        refine AL_g rfl rfl (AEv.tmp rfl) rfl (fun hg3 => S_move rfl (AEv.tmp rfl)) ?_
        refine AL_g rfl rfl (AEv.tmp rfl) rfl (fun hg6 => S_lss rfl (AEv.cond (AEv.tmp rfl) (by first | assumption | exact gdAnd (by assumption) (by assumption))) (AEv.const _)) ?_
        refine AL_p rfl rfl (S_and rfl (AEv.tmp rfl) (fun hp9 => (AEv.cond (AEv.tmp rfl) (by first | assumption | exact gdT hp9 | exact gdF hp9 | exact gdAnd (by assumption) (gdT hp9) | exact gdAnd (by assumption) (gdF hp9))))) ?_
        refine AL_nil ?_
        refine AC_cond (AEv.tmp rfl) (fun hb10 => ?_) (fun hb10 => ?_)
        · try simp only [Bool.and_eq_true, Bool.or_eq_true, Bool.not_eq_true', Bool.not_eq_false', Bool.and_eq_false_iff, Bool.or_eq_false_iff, decide_eq_true_eq, decide_eq_false_iff_not, gd] at hb10
          have hil : i < l.length := by omega
          refine AC_skip ?_
          refine AC_seq ?_
          refine AC_block ?_
          refine AC_seq ?_
          refine AC_seq ?_
          refine AC_region ?_
          refine AL_p rfl rfl (S_move rfl (AEv.tmp rfl)) ?_
          refine AL_p rfl rfl (S_move rfl (AEv.tmp rfl)) ?_
          refine AL_p rfl rfl (S_elem (e := 4) (c := .bool (l[i]'hil)) (i := (i : Int)) 1 rfl (AEv.tmp rfl) (AEv.tmp rfl) (by kernel_rfl) (by kernel_rfl) (by omega) (by simp [hil]) rfl) ?_
          refine AL_p rfl rfl (S_loadP rfl (AEv.tmp rfl) rfl (by kernel_rfl)) ?_
          refine AL_p rfl rfl (S_not rfl (AEv.tmp rfl)) ?_
          refine AL_nil ?_
          refine AC_cond (AEv.tmp rfl) (fun hb11 => ?_) (fun hb11 => ?_)
          · try simp only [Bool.and_eq_true, Bool.or_eq_true, Bool.not_eq_true', Bool.not_eq_false', Bool.and_eq_false_iff, Bool.or_eq_false_iff, decide_eq_true_eq, decide_eq_false_iff_not, gd] at hb11
            refine AC_seq ?_
            refine AC_region ?_
            refine AL_p rfl rfl (S_move rfl (AEv.tmp rfl)) ?_
            refine AL_step rfl rfl (S_call rfl (AEvs.cons (AEv.tmp rfl) AEvs.nil) (queue_Take_ok b1 p ql lost hp (by omega) _)) ?_
            rintro _ _ ⟨_, ⟨p2, hp2, rfl, rfl⟩, rfl⟩
            obtain ⟨ta, tb, tc, hord2⟩ := hord.take
            generalize hqe : takeQ ql = tq at *
            obtain ⟨ql2, n2, ok2⟩ := tq
            dsimp only at ta tb tc hord2 hp2 ⊢
            refine AL_p rfl rfl (S_move rfl (AEv.tmp rfl)) ?_
            refine AL_p rfl rfl (S_extract 0 rfl (AEv.tmp rfl) rfl) ?_
            refine AL_p rfl rfl (S_extract 1 rfl (AEv.tmp rfl) rfl) ?_
            refine AL_step rfl rfl (S_alloc (List.replicate 4 (.int .i64 0)) rfl (by kernel_rfl)) ?_
            rintro _ _ ⟨b12, rfl, rfl⟩
            refine AL_step rfl rfl (S_storeN 0 rfl (AEv.tmp rfl) (AEv.tmp rfl) rfl (by first | exact Nat.le_of_ble_eq_true rfl | (simp; omega) | simp) (by first | rfl | simp [AV.one, Value.oneCell']) (by kernel_rfl)) ?_
            rintro _ _ ⟨rfl, rfl⟩
            refine AL_p rfl rfl (S_assign rfl (AEv.tmp rfl)) ?_
            refine AL_nil ?_
            refine AC_seq ?_
            refine AC_seq ?_
            refine AC_draw (by kernel_rfl) (by kernel_rfl) (.cons rfl (Q_p rfl (S_move rfl (AEv.tmp rfl))) <|
                .cons rfl (Q_p rfl (S_move rfl (AEv.tmp rfl))) <|
                .cons rfl (Q_g rfl rfl (AEv.tmp rfl) (fun hg13 => S_move rfl (AEv.tmp rfl))) <|
                .cons rfl (Q_g rfl rfl (AEv.tmp rfl) (fun hg16 => S_not rfl (AEv.cond (AEv.tmp rfl) (by first | assumption | exact gdAnd (by assumption) (by assumption))))) <|
                .cons rfl (Q_g rfl rfl (AEv.tmp rfl) (fun hg19 => S_move rfl (AEv.cond (AEv.tmp rfl) (by first | assumption | exact gdAnd (by assumption) (by assumption))))) <|
                .cons rfl (Q_gg rfl rfl (AEv.tmp rfl) (fun hg22 hg23 hg24 => S_field 0 rfl (AEv.tmp rfl) (by kernel_rfl))) <|
                .cons rfl (Q_gg rfl rfl (AEv.tmp rfl) (fun hg25 hg26 hg27 => S_load 0 rfl (AEv.cond (AEv.tmp rfl) (by first | assumption | exact gdAnd (by assumption) (by assumption))) rfl rfl (by kernel_rfl))) <|
                .cons rfl (Q_gg rfl rfl (AEv.tmp rfl) (fun hg28 hg29 hg30 => S_neq rfl (AEv.cond (AEv.tmp rfl) (by first | assumption | exact gdAnd (by assumption) (by assumption))) (AEv.const _))) <|
                .cons rfl (Q_g rfl rfl (AEv.tmp rfl) (fun hg31 => S_or rfl (AEv.cond (AEv.tmp rfl) (by first | assumption | exact gdAnd (by assumption) (by assumption))) (fun hp34 => (AEv.cond (AEv.tmp rfl) (by first | assumption | exact gdT hp34 | exact gdF hp34 | exact gdAnd (by assumption) (gdT hp34) | exact gdAnd (by assumption) (gdF hp34)))))) <|
                .cons rfl (Q_p rfl (S_and rfl (AEv.tmp rfl) (fun hp35 => (AEv.cond (AEv.tmp rfl) (by first | assumption | exact gdT hp35 | exact gdF hp35 | exact gdAnd (by assumption) (gdT hp35) | exact gdAnd (by assumption) (gdF hp35)))))) <|
                .cons rfl (Q_p rfl (S_move rfl (AEv.tmp rfl))) <|
                .cons rfl (Q_g rfl rfl (AEv.tmp rfl) (fun hg36 => S_move rfl (AEv.tmp rfl))) <|
                .cons rfl (Q_g rfl rfl (AEv.tmp rfl) (fun hg39 => S_not rfl (AEv.cond (AEv.tmp rfl) (by first | assumption | exact gdAnd (by assumption) (by assumption))))) <|
                .cons rfl (Q_g rfl rfl (AEv.tmp rfl) (fun hg42 => S_move rfl (AEv.cond (AEv.tmp rfl) (by first | assumption | exact gdAnd (by assumption) (by assumption))))) <|
                .cons rfl (Q_gg rfl rfl (AEv.tmp rfl) (fun hg45 hg46 hg47 => S_move rfl (AEv.tmp rfl))) <|
                .cons rfl (Q_gg rfl rfl (AEv.tmp rfl) (fun hg48 hg49 hg50 => S_move rfl (AEv.tmp rfl))) <|
                .cons rfl (Q_gg rfl rfl (AEv.tmp rfl) (fun hg51 hg52 hg53 => S_len (e := 3) rfl ((AEv.cond (AEv.tmp rfl) (by first | assumption | exact gdAnd (by assumption) (by assumption))).le (Le_own ht)) (by kernel_rfl))) <|
                .cons rfl (Q_gg rfl rfl (AEv.tmp rfl) (fun hg54 hg55 hg56 => S_gtr rfl (AEv.cond (AEv.tmp rfl) (by first | assumption | exact gdAnd (by assumption) (by assumption))) (AEv.const _))) <|
                .cons rfl (Q_gg rfl rfl (AEv.tmp rfl) (fun hg57 hg58 hg59 => S_neB rfl (AEv.cond (AEv.tmp rfl) (by first | assumption | exact gdAnd (by assumption) (by assumption))) (AEv.cond (AEv.tmp rfl) (by first | assumption | exact gdAnd (by assumption) (by assumption))) (by kernel_rfl))) <|
                .cons rfl (Q_g rfl rfl (AEv.tmp rfl) (fun hg60 => S_and rfl (AEv.cond (AEv.tmp rfl) (by first | assumption | exact gdAnd (by assumption) (by assumption))) (fun hp63 => (AEv.cond (AEv.tmp rfl) (by first | assumption | exact gdT hp63 | exact gdF hp63 | exact gdAnd (by assumption) (gdT hp63) | exact gdAnd (by assumption) (gdF hp63)))))) <|
                .cons rfl (Q_p rfl (S_or rfl (AEv.tmp rfl) (fun hp64 => (AEv.cond (AEv.tmp rfl) (by first | assumption | exact gdT hp64 | exact gdF hp64 | exact gdAnd (by assumption) (gdT hp64) | exact gdAnd (by assumption) (gdF hp64)))))) <|
                .cons rfl (Q_p rfl (S_move rfl (AEv.tmp rfl))) <|
                .cons rfl (Q_g rfl rfl (AEv.tmp rfl) (fun hg65 => S_move rfl (AEv.tmp rfl))) <|
                .cons rfl (Q_g rfl rfl (AEv.tmp rfl) (fun hg68 => S_not rfl (AEv.cond (AEv.tmp rfl) (by first | assumption | exact gdAnd (by assumption) (by assumption))))) <|
                .cons rfl (Q_g rfl rfl (AEv.tmp rfl) (fun hg71 => S_move rfl (AEv.cond (AEv.tmp rfl) (by first | assumption | exact gdAnd (by assumption) (by assumption))))) <|
                .cons rfl (Q_gg rfl rfl (AEv.tmp rfl) (fun hg74 hg75 hg76 => S_move rfl (AEv.tmp rfl))) <|
                .cons rfl (Q_g rfl rfl (AEv.tmp rfl) (fun hg77 => S_and rfl (AEv.cond (AEv.tmp rfl) (by first | assumption | exact gdAnd (by assumption) (by assumption))) (fun hp80 => (AEv.cond (AEv.tmp rfl) (by first | assumption | exact gdT hp80 | exact gdF hp80 | exact gdAnd (by assumption) (gdT hp80) | exact gdAnd (by assumption) (gdF hp80)))))) <|
                .cons rfl (Q_g rfl rfl (AEv.tmp rfl) (fun hg81 => S_move rfl (AEv.cond (AEv.tmp rfl) (by first | assumption | exact gdAnd (by assumption) (by assumption))))) <|
                .cons rfl (Q_gg rfl rfl (AEv.tmp rfl) (fun hg84 hg85 hg86 => S_field 0 rfl (AEv.tmp rfl) (by kernel_rfl))) <|
                .cons rfl (Q_gg rfl rfl (AEv.tmp rfl) (fun hg87 hg88 hg89 => S_load 0 rfl (AEv.cond (AEv.tmp rfl) (by first | assumption | exact gdAnd (by assumption) (by assumption))) rfl rfl (by kernel_rfl))) <|
                .cons rfl (Q_gg rfl rfl (AEv.tmp rfl) (fun hg90 hg91 hg92 => S_neq rfl (AEv.cond (AEv.tmp rfl) (by first | assumption | exact gdAnd (by assumption) (by assumption))) (AEv.const _))) <|
                .cons rfl (Q_gg rfl rfl (AEv.tmp rfl) (fun hg93 hg94 hg95 => S_move rfl (AEv.cond (AEv.tmp rfl) (by first | assumption | exact gdAnd (by assumption) (by assumption))))) <|
                .cons rfl (Q_gg rfl rfl (AEv.tmp rfl) (fun hg96 hg97 hg98 => S_field 1 rfl (AEv.tmp rfl) (by kernel_rfl))) <|
                .cons rfl (Q_gg rfl rfl (AEv.tmp rfl) (fun hg99 hg100 hg101 => S_load 0 rfl (AEv.cond (AEv.tmp rfl) (by first | assumption | exact gdAnd (by assumption) (by assumption))) rfl rfl (by kernel_rfl))) <|
                .cons rfl (Q_gg rfl rfl (AEv.tmp rfl) (fun hg102 hg103 hg104 => S_move rfl (AEv.tmp rfl))) <|
                .cons rfl (Q_gg rfl rfl (AEv.tmp rfl) (fun hg105 hg106 hg107 => S_elem (e := 3) (c := .int .i64 (th.headD 0)) (i := 0) 1 rfl ((AEv.cond (AEv.tmp rfl) (by first | assumption | exact gdAnd (by assumption) (by assumption))).le (Le_own ht)) (AEv.const _) (by kernel_rfl) (by kernel_rfl) (by omega) (by simp only [gd, Bool.and_eq_true, Bool.not_eq_true'] at *; exact (tc (by simp_all) (by simp_all)).2.2.1) rfl)) <|
                .cons rfl (Q_gg rfl rfl (AEv.tmp rfl) (fun hg108 hg109 hg110 => S_loadP rfl (AEv.cond (AEv.tmp rfl) (by first | assumption | exact gdAnd (by assumption) (by assumption))) rfl (by kernel_rfl))) <|
                .cons rfl (Q_gg rfl rfl (AEv.tmp rfl) (fun hg111 hg112 hg113 => S_neq rfl (AEv.cond (AEv.tmp rfl) (by first | assumption | exact gdAnd (by assumption) (by assumption))) (AEv.cond (AEv.tmp rfl) (by first | assumption | exact gdAnd (by assumption) (by assumption))))) <|
                .cons rfl (Q_gg rfl rfl (AEv.tmp rfl) (fun hg114 hg115 hg116 => S_or rfl (AEv.cond (AEv.tmp rfl) (by first | assumption | exact gdAnd (by assumption) (by assumption))) (fun hp117 => (AEv.cond (AEv.tmp rfl) (by first | assumption | exact gdT hp117 | exact gdF hp117 | exact gdAnd (by assumption) (gdT hp117) | exact gdAnd (by assumption) (gdF hp117)))))) <|
                .cons rfl (Q_g rfl rfl (AEv.tmp rfl) (fun hg118 => S_and rfl (AEv.cond (AEv.tmp rfl) (by first | assumption | exact gdAnd (by assumption) (by assumption))) (fun hp121 => (AEv.cond (AEv.tmp rfl) (by first | assumption | exact gdT hp121 | exact gdF hp121 | exact gdAnd (by assumption) (gdT hp121) | exact gdAnd (by assumption) (gdF hp121)))))) <|
                .cons rfl (Q_p rfl (S_or rfl (AEv.tmp rfl) (fun hp122 => (AEv.cond (AEv.tmp rfl) (by first | assumption | exact gdT hp122 | exact gdF hp122 | exact gdAnd (by assumption) (gdT hp122) | exact gdAnd (by assumption) (gdF hp122)))))) <|
                .nil) ?_
            refine AC_cond (AEv.tmp rfl) (fun hb123 => ?_) (fun hb123 => ?_)
            · exfalso; revert hb123; cases bl <;> cases ok2 <;> simp_all [gd]
            · try simp only [Bool.and_eq_true, Bool.or_eq_true, Bool.not_eq_true', Bool.not_eq_false', Bool.and_eq_false_iff, Bool.or_eq_false_iff, decide_eq_true_eq, decide_eq_false_iff_not, gd] at hb123
              refine AC_skip ?_
              refine AC_seq ?_
              refine AC_seq ?_
              refine AC_region ?_
              refine AL_p rfl rfl (S_move rfl (AEv.tmp rfl)) ?_
              refine AL_p rfl rfl (S_not rfl (AEv.tmp rfl)) ?_
              refine AL_p rfl rfl (S_move rfl (AEv.tmp rfl)) ?_
              refine AL_g rfl rfl (AEv.tmp rfl) rfl (fun hg124 => S_move rfl (AEv.tmp rfl)) ?_
              refine AL_p rfl rfl (S_and rfl (AEv.tmp rfl) (fun hp127 => (AEv.cond (AEv.tmp rfl) (by first | assumption | exact gdT hp127 | exact gdF hp127 | exact gdAnd (by assumption) (gdT hp127) | exact gdAnd (by assumption) (gdF hp127))))) ?_
              refine AL_nil ?_
              refine AC_cond (AEv.tmp rfl) (fun hb128 => ?_) (fun hb128 => ?_)
              · try simp only [Bool.and_eq_true, Bool.or_eq_true, Bool.not_eq_true', Bool.not_eq_false', Bool.and_eq_false_iff, Bool.or_eq_false_iff, decide_eq_true_eq, decide_eq_false_iff_not, gd] at hb128
                have hb : bl = false ∧ ok2 = true := by simpa using hb128
                obtain ⟨k1, k2, k3, k4⟩ := tc hb.1 hb.2
                obtain ⟨bt, kt, ct, rfl⟩ : ∃ b k c, t = .row b k c := by
                  cases t with
                  | row b k c => exact ⟨b, k, c, rfl⟩
                  | _ => exact absurd (List.map_eq_nil_iff.1 ht) k4
                have hthl : 0 < th.length := List.length_pos_iff.2 k4
                have htl : (ints th).length ≤ ct := ht
                have hil := ints_len th
                refine AC_region ?_
                refine AL_p rfl rfl (S_move rfl (AEv.tmp rfl)) ?_
                refine AL_p rfl rfl (S_cutOwn (e := 3) (i := 1) (m := 1) (k := kt) (b := bt) (cap := ct) (xs := ints th) rfl (AEv.tmp rfl) (AEv.const _) (by kernel_rfl) (by kernel_rfl) ints_cells (by omega) htl) ?_
                refine AL_p rfl rfl (S_assign rfl (AEv.tmp rfl)) ?_
                refine AL_nil ?_
                refine AC_seq ?_
                refine AC_region ?_
                refine AL_p rfl rfl (S_assign rfl (AEv.const _)) ?_
                refine AL_nil ?_
                refine AC_exit ?_
                refine AC_region ?_
                refine AL_p rfl rfl (S_move rfl (AEv.tmp rfl)) ?_
                refine AL_p rfl rfl (S_addI rfl (AEv.tmp rfl) (AEv.const _) (by omega) (by omega)) ?_
                refine AL_p rfl rfl (S_assign rfl (AEv.tmp rfl)) ?_
                refine AL_nil ?_
                by_cases hct : ct = 1
                · refine ⟨⟨i + 1, 0, p2, ql2, lost, .emp ⟨bt, kt * 1, none⟩, th.tail, nx, false⟩, ⟨⟨hp2, (by show ints th.tail = []; exact List.eq_nil_of_length_eq_zero (by rw [ints_len, List.length_tail]; omega)), hord2, hn0, by dsimp only; omega, by dsimp only; omega, by simp⟩, rfl⟩, by dsimp only; omega, ?_, .cons rfl (Le.refl _) (.cons rfl (Le.refl _) (.cons rfl (Le.refl _) (.cons rfl (Le.of_eq (by rw [ints_tail, if_pos hct])) (.cons rfl (Le.refl _) (.cons rfl (Le.refl _) (.cons rfl (Le.of_eq (by dsimp only; rw [Int.natCast_add]; rfl)) .nil))))))⟩
                  exact Sub.l (.cons _ (.cons_cons _ (List.Sublist.append (List.Sublist.refl _) (.cons _ (List.Sublist.refl _)))))
                · refine ⟨⟨i + 1, 0, p2, ql2, lost, .row bt (kt + 1) (ct - 1), th.tail, nx, false⟩, ⟨⟨hp2, (by show (ints th.tail).length ≤ ct - 1; rw [ints_len, List.length_tail]; omega), hord2, hn0, by dsimp only; omega, by dsimp only; omega, by simp⟩, rfl⟩, by dsimp only; omega, ?_, .cons rfl (Le.refl _) (.cons rfl (Le.refl _) (.cons rfl (Le.refl _) (.cons rfl (Le.of_eq (by rw [ints_tail, if_neg hct])) (.cons rfl (Le.refl _) (.cons rfl (Le.refl _) (.cons rfl (Le.of_eq (by dsimp only; rw [Int.natCast_add]; rfl)) .nil))))))⟩
                  refine Sub.l (.cons _ (.cons_cons _ (List.Sublist.append (List.Sublist.refl _) ?_)))
                  have e1 : kt + 1 + (ints th.tail).length = kt + (ints th).length := by rw [ints_len, ints_len, List.length_tail]; omega
                  have e2 : kt + 1 + (ct - 1) = kt + ct := by omega
                  simp only [ownSt, e1, e2]
                  exact List.Sublist.refl _
              · try simp only [Bool.and_eq_true, Bool.or_eq_true, Bool.not_eq_true', Bool.not_eq_false', Bool.and_eq_false_iff, Bool.or_eq_false_iff, decide_eq_true_eq, decide_eq_false_iff_not, gd] at hb128
                have htt : th.tail = th := by
                  cases bl with
                  | true => rw [(hord.blind rfl).2.1]; rfl
                  | false =>
                    have h0 : ok2 = false := by simpa using hb128
                    have h1 := tb rfl
                    rw [h0] at h1
                    cases th with
                    | nil => rfl
                    | cons x t => simp [ints] at h1
                refine AC_skip ?_
                refine AC_seq ?_
                refine AC_region ?_
                refine AL_p rfl rfl (S_assign rfl (AEv.const _)) ?_
                refine AL_nil ?_
                refine AC_exit ?_
                refine AC_region ?_
                refine AL_p rfl rfl (S_move rfl (AEv.tmp rfl)) ?_
                refine AL_p rfl rfl (S_addI rfl (AEv.tmp rfl) (AEv.const _) (by omega) (by omega)) ?_
                refine AL_p rfl rfl (S_assign rfl (AEv.tmp rfl)) ?_
                refine AL_nil ?_
                refine ⟨⟨i + 1, 0, p2, ql2, lost, t, th, nx, false⟩, ⟨⟨hp2, ht, htt ▸ hord2, hn0, by dsimp only; omega, by dsimp only; omega, by simp⟩, rfl⟩, by dsimp only; omega, Sub.l (.cons _ (List.Sublist.refl _)), .cons rfl (Le.refl _) (.cons rfl (Le.refl _) (.cons rfl (Le.refl _) (.cons rfl (Le.refl _) (.cons rfl (Le.refl _) (.cons rfl (Le.refl _) (.cons rfl (Le.of_eq (by dsimp only; rw [Int.natCast_add]; rfl)) .nil))))))⟩
          · try simp only [Bool.and_eq_true, Bool.or_eq_true, Bool.not_eq_true', Bool.not_eq_false', Bool.and_eq_false_iff, Bool.or_eq_false_iff, decide_eq_true_eq, decide_eq_false_iff_not, gd] at hb11
            refine AC_skip ?_
            refine AC_seq ?_
            refine AC_region ?_
            refine AL_p rfl rfl (S_assign rfl (AEv.const _)) ?_
            refine AL_nil ?_
            refine AC_block ?_
            refine AC_loopS (G := OG) (fun g => g.ok ∧ g.i = i) (fun g => [(0, .sl (l.map fun b => .bool b)), (1, .int .i64 rep), (5, .ptr b1 0), (6, ownAV g.t 1 (ints g.th)), (7, .int .i64 g.nx), (8, .bool g.bl), (9, .int .i64 (g.i : Int)), (12, .int .i64 (g.k : Int))]) (fun g => ((b1, .cells [ownAV g.p 4 (notesL g.ql), .int .i64 g.lost]) :: (ownSt g.p 28 4 (notesL g.ql) ++ (ownSt g.t 3 1 (ints g.th) ++ st)))) (fun g => 40 - g.k) (⟨i, 0, p, ql, lost, t, th, nx, bl⟩) (⟨⟨hp, ht, hord, hn0, by dsimp only; omega, by dsimp only; omega, by simp⟩, rfl⟩) (Sub.l (List.Sublist.refl _)) ?_ ?_
            · exact .cons rfl (Le.refl _) (.cons rfl (Le.refl _) (.cons rfl (Le.refl _) (.cons rfl (Le.refl _) (.cons rfl (Le.refl _) (.cons rfl (Le.refl _) (.cons rfl (Le.refl _) (.cons rfl (Le.refl _) .nil)))))))
            · rintro ⟨i', k, p, ql, lost, t, th, nx, bl⟩ ⟨hI, hi'⟩
              try dsimp only
              dsimp only at hi'
              subst hi'
              clear hp ht hord hn0 hn1 hk40 hlen hll hpos hle
              dsimp only [OG.ok] at hI
              obtain ⟨hp, ht, hord, hn0, hn1, hi, hk40⟩ := hI
              try dsimp only at hp ht hord hn0 hn1 hi hk40
              have hlen := hord.len
              have hll := hord.lost_le (by omega)
              have hpos := hord.pos
              have hle := hord.le
              refine AC_seq ?_
              refine AC_seq ?_
              refine AC_region ?_
              refine AL_p rfl rfl (S_move rfl (AEv.tmp rfl)) ?_
              refine AL_p rfl rfl (S_eql rfl (AEv.tmp rfl) (AEv.const _)) ?_
              refine AL_p rfl rfl (S_move rfl (AEv.tmp rfl)) ?_
              refine AL_g rfl rfl (AEv.tmp rfl) rfl (fun hg129 => S_move rfl (AEv.tmp rfl)) ?_
              refine AL_g rfl rfl (AEv.tmp rfl) rfl (fun hg132 => S_move rfl (AEv.tmp rfl)) ?_
              refine AL_g rfl rfl (AEv.tmp rfl) rfl (fun hg135 => S_lss rfl (AEv.cond (AEv.tmp rfl) (by first | assumption | exact gdAnd (by assumption) (by assumption))) (AEv.cond (AEv.tmp rfl) (by first | assumption | exact gdAnd (by assumption) (by assumption)))) ?_
              refine AL_g rfl rfl (AEv.tmp rfl) rfl (fun hg138 => S_move rfl (AEv.cond (AEv.tmp rfl) (by first | assumption | exact gdAnd (by assumption) (by assumption)))) ?_
              refine AL_gg rfl rfl (AEv.tmp rfl) rfl (fun hg141 hg142 hg143 => S_move rfl (AEv.tmp rfl)) ?_
              refine AL_gg rfl rfl (AEv.tmp rfl) rfl (fun hg144 hg145 hg146 => S_lss rfl (AEv.cond (AEv.tmp rfl) (by first | assumption | exact gdAnd (by assumption) (by assumption))) (AEv.const _)) ?_
              refine AL_g rfl rfl (AEv.tmp rfl) rfl (fun hg147 => S_and rfl (AEv.cond (AEv.tmp rfl) (by first | assumption | exact gdAnd (by assumption) (by assumption))) (fun hp150 => (AEv.cond (AEv.tmp rfl) (by first | assumption | exact gdT hp150 | exact gdF hp150 | exact gdAnd (by assumption) (gdT hp150) | exact gdAnd (by assumption) (gdF hp150))))) ?_
              refine AL_p rfl rfl (S_or rfl (AEv.tmp rfl) (fun hp151 => (AEv.cond (AEv.tmp rfl) (by first | assumption | exact gdT hp151 | exact gdF hp151 | exact gdAnd (by assumption) (gdT hp151) | exact gdAnd (by assumption) (gdF hp151))))) ?_
              refine AL_nil ?_
              refine AC_cond (AEv.tmp rfl) (fun hb152 => ?_) (fun hb152 => ?_)
              · try simp only [Bool.and_eq_true, Bool.or_eq_true, Bool.not_eq_true', Bool.not_eq_false', Bool.and_eq_false_iff, Bool.or_eq_false_iff, decide_eq_true_eq, decide_eq_false_iff_not, gd] at hb152
                refine AC_skip ?_
                refine AC_seq ?_
                refine AC_block ?_
                refine AC_seq ?_
                refine AC_region ?_
                refine AL_p rfl rfl (S_move rfl (AEv.tmp rfl)) ?_
                refine AL_p rfl rfl (S_addI rfl (AEv.tmp rfl) (AEv.const _) (by omega) (by omega)) ?_
                refine AL_p rfl rfl (S_assign rfl (AEv.tmp rfl)) ?_
                refine AL_nil ?_
                refine AC_seq ?_
                refine AC_region ?_
                refine AL_p rfl rfl (S_move rfl (AEv.tmp rfl)) ?_
                refine AL_p rfl rfl (S_move rfl (AEv.tmp rfl)) ?_
                refine AL_p rfl rfl (S_build (pl := [(0, 1), (1, 1), (2, 1), (3, 1)]) (zs := [.int .i64 0, .int .i64 0, .int .i64 0, .int .i64 0]) rfl (AEvs.cons (AEv.const _) (AEvs.cons (AEv.tmp rfl) AEvs.nil)) (by kernel_rfl) rfl) ?_
                refine AL_step rfl rfl (S_call rfl (AEvs.cons (AEv.tmp rfl) (AEvs.cons (y := noteAV (5, nx + 1, 0, 0)) (AEv.tmp rfl) AEvs.nil)) (queue_Put_ok b1 p ql lost (5, nx + 1, 0, 0) hp hlen hll _)) ?_
                rintro _ _ ⟨_, ⟨p2, hp2, rfl, rfl⟩, rfl⟩
                obtain ⟨pa, pb⟩ := hord.put
                generalize hqe : putQ ql lost (5, nx + 1, 0, 0) = tq at *
                obtain ⟨ql2, lost2, ok2⟩ := tq
                dsimp only at pa pb hp2 ⊢
                refine AL_p rfl rfl (S_assign rfl (AEv.tmp rfl)) ?_
                refine AL_nil ?_
                refine AC_seq ?_
                refine AC_seq ?_
                refine AC_region ?_
                refine AL_p rfl rfl (S_move rfl (AEv.tmp rfl)) ?_
                refine AL_nil ?_
                refine AC_cond (AEv.tmp rfl) (fun hb153 => ?_) (fun hb153 => ?_)
                · try simp only [Bool.and_eq_true, Bool.or_eq_true, Bool.not_eq_true', Bool.not_eq_false', Bool.and_eq_false_iff, Bool.or_eq_false_iff, decide_eq_true_eq, decide_eq_false_iff_not, gd] at hb153
                  have hok : ok2 = true := hb153
                  subst hok
                  obtain ⟨hbl, hord3⟩ := pa rfl
                  subst hbl
                  have hbnd : th.length ≤ 32 := by
                    have := (hord.open_ rfl).1
                    have := congrArg List.length this
                    simp at this
                    omega
                  have hlen3 := hord3.len
                  refine AC_region ?_
                  refine AL_p rfl rfl (S_move rfl (AEv.tmp rfl)) ?_
                  refine AL_p rfl rfl (S_move rfl (AEv.tmp rfl)) ?_
                  refine AL_p rfl rfl (S_buildSlice (e := 3) 1 rfl (AEvs.cons (AEv.tmp rfl) AEvs.nil) rfl (by kernel_rfl) (by kernel_rfl) (by simp [AV.flat, AV.one, AV.cells, Value.oneCell']) (by decide) (by decide) (by decide)) ?_
                  refine AL_step rfl rfl (S_appendOwn (e := 3) (size := 1) (bytes := 8) (p := t) (xs := ints th) ((b1, _) :: ownSt p2 28 4 (notesL ql2)) st rfl (AEv.tmp rfl) (AEv.tmp rfl) rfl ht (by kernel_rfl) (by simp) ints_cells (by simp [AV.cells, AV.one, Value.oneCell']) (by have := ints_len th; simp only [List.length_singleton]; omega) (by have := ints_len th; simp only [List.length_singleton]; omega)) ?_
                  rintro _ _ ⟨b9, k9, cap9, hc9, rfl, rfl⟩
                  refine AL_p rfl rfl (S_assign rfl (AEv.tmp rfl)) ?_
                  refine AL_nil ?_
                  refine AC_seq ?_
                  refine AC_region ?_
                  refine AL_p rfl rfl (S_move rfl (AEv.tmp rfl)) ?_
                  refine AL_p rfl rfl (S_move rfl (AEv.tmp rfl)) ?_
                  refine AL_g rfl rfl (AEv.tmp rfl) rfl (fun hg154 => S_move rfl (AEv.tmp rfl)) ?_
                  refine AL_p rfl rfl (S_and rfl (AEv.tmp rfl) (fun hp157 => (AEv.cond (AEv.tmp rfl) (by first | assumption | exact gdT hp157 | exact gdF hp157 | exact gdAnd (by assumption) (gdT hp157) | exact gdAnd (by assumption) (gdF hp157))))) ?_
                  refine AL_p rfl rfl (S_move rfl (AEv.tmp rfl)) ?_
                  refine AL_g rfl rfl (AEv.tmp rfl) rfl (fun hg158 => S_move rfl (AEv.tmp rfl)) ?_
                  refine AL_g rfl rfl (AEv.tmp rfl) rfl (fun hg161 => S_keep (S_call rfl (AEvs.cons (AEv.cond (AEv.tmp rfl) (by first | assumption | exact gdAnd (by assumption) (by assumption))) AEvs.nil) (queue_Len_ok b1 p2 ql2 lost2 hp2 _)) (by rintro _ _ ⟨_, ⟨rfl, rfl⟩, rfl⟩; exact ⟨rfl, rfl⟩)) ?_
                  refine AL_g rfl rfl (AEv.tmp rfl) rfl (fun hg164 => S_gtr rfl (AEv.cond (AEv.tmp rfl) (by first | assumption | exact gdAnd (by assumption) (by assumption))) (AEv.const _)) ?_
                  refine AL_p rfl rfl (S_or rfl (AEv.tmp rfl) (fun hp167 => (AEv.cond (AEv.tmp rfl) (by first | assumption | exact gdT hp167 | exact gdF hp167 | exact gdAnd (by assumption) (gdT hp167) | exact gdAnd (by assumption) (gdF hp167))))) ?_
                  refine AL_nil ?_
                  refine AC_cond (AEv.tmp rfl) (fun hb168 => ?_) (fun hb168 => ?_)
                  · exfalso; revert hb168; simp; omega
                  · try simp only [Bool.and_eq_true, Bool.or_eq_true, Bool.not_eq_true', Bool.not_eq_false', Bool.and_eq_false_iff, Bool.or_eq_false_iff, decide_eq_true_eq, decide_eq_false_iff_not, gd] at hb168
                    refine AC_skip ?_
                    refine AC_region ?_
                    refine AL_p rfl rfl (S_move rfl (AEv.tmp rfl)) ?_
                    refine AL_p rfl rfl (S_addI rfl (AEv.tmp rfl) (AEv.const _) (by omega) (by omega)) ?_
                    refine AL_p rfl rfl (S_assign rfl (AEv.tmp rfl)) ?_
                    refine AL_nil ?_
                    refine ⟨⟨i', k + 1, p2, ql2, lost2, .row b9 k9 cap9, th ++ [nx + 1], nx + 1, false⟩, ⟨⟨hp2, (by show (ints (th ++ [nx + 1])).length ≤ cap9; rw [ints_snoc]; exact hc9), hord3, by dsimp only; omega, by dsimp only; omega, hi, by dsimp only; omega⟩, rfl⟩, by dsimp only; omega, Sub.l (by rw [ints_snoc]; exact List.Sublist.refl _), .cons rfl (Le.refl _) (.cons rfl (Le.refl _) (.cons rfl (Le.refl _) (.cons rfl (Le.of_eq (by rw [ints_snoc])) (.cons rfl (Le.refl _) (.cons rfl (Le.refl _) (.cons rfl (Le.refl _) (.cons rfl (Le.of_eq (by dsimp only; rw [Int.natCast_add]; rfl)) .nil)))))))⟩
                · try simp only [Bool.and_eq_true, Bool.or_eq_true, Bool.not_eq_true', Bool.not_eq_false', Bool.and_eq_false_iff, Bool.or_eq_false_iff, decide_eq_true_eq, decide_eq_false_iff_not, gd] at hb153
                  have hok : ok2 = false := hb153
                  subst hok
                  have hlen3 := (pb rfl).len
                  refine AC_seq ?_
                  refine AC_region ?_
                  refine AL_p rfl rfl (S_assign rfl (AEv.const _)) ?_
                  refine AL_nil ?_
                  refine AC_region ?_
                  refine AL_p rfl rfl (S_assign rfl (AEv.const _)) ?_
                  refine AL_nil ?_
                  refine AC_seq ?_
                  refine AC_region ?_
                  refine AL_p rfl rfl (S_move rfl (AEv.tmp rfl)) ?_
                  refine AL_p rfl rfl (S_move rfl (AEv.tmp rfl)) ?_
                  refine AL_g rfl rfl (AEv.tmp rfl) rfl (fun hg169 => S_move rfl (AEv.tmp rfl)) ?_
                  refine AL_p rfl rfl (S_and rfl (AEv.tmp rfl) (fun hp172 => (AEv.cond (AEv.tmp rfl) (by first | assumption | exact gdT hp172 | exact gdF hp172 | exact gdAnd (by assumption) (gdT hp172) | exact gdAnd (by assumption) (gdF hp172))))) ?_
                  refine AL_p rfl rfl (S_move rfl (AEv.tmp rfl)) ?_
                  refine AL_g rfl rfl (AEv.tmp rfl) rfl (fun hg173 => S_move rfl (AEv.tmp rfl)) ?_
                  refine AL_g rfl rfl (AEv.tmp rfl) rfl (fun hg176 => S_keep (S_call rfl (AEvs.cons (AEv.cond (AEv.tmp rfl) (by first | assumption | exact gdAnd (by assumption) (by assumption))) AEvs.nil) (queue_Len_ok b1 p2 ql2 lost2 hp2 _)) (by rintro _ _ ⟨_, ⟨rfl, rfl⟩, rfl⟩; exact ⟨rfl, rfl⟩)) ?_
                  refine AL_g rfl rfl (AEv.tmp rfl) rfl (fun hg179 => S_gtr rfl (AEv.cond (AEv.tmp rfl) (by first | assumption | exact gdAnd (by assumption) (by assumption))) (AEv.const _)) ?_
                  refine AL_p rfl rfl (S_or rfl (AEv.tmp rfl) (fun hp182 => (AEv.cond (AEv.tmp rfl) (by first | assumption | exact gdT hp182 | exact gdF hp182 | exact gdAnd (by assumption) (gdT hp182) | exact gdAnd (by assumption) (gdF hp182))))) ?_
                  refine AL_nil ?_
                  refine AC_cond (AEv.tmp rfl) (fun hb183 => ?_) (fun hb183 => ?_)
                  · exfalso; revert hb183; simp; omega
                  · try simp only [Bool.and_eq_true, Bool.or_eq_true, Bool.not_eq_true', Bool.not_eq_false', Bool.and_eq_false_iff, Bool.or_eq_false_iff, decide_eq_true_eq, decide_eq_false_iff_not, gd] at hb183
                    refine AC_skip ?_
                    refine AC_region ?_
                    refine AL_p rfl rfl (S_move rfl (AEv.tmp rfl)) ?_
                    refine AL_p rfl rfl (S_addI rfl (AEv.tmp rfl) (AEv.const _) (by omega) (by omega)) ?_
                    refine AL_p rfl rfl (S_assign rfl (AEv.tmp rfl)) ?_
                    refine AL_nil ?_
                    refine ⟨⟨i', k + 1, p2, ql2, lost2, .nil, [], nx + 1, true⟩, ⟨⟨hp2, rfl, pb rfl, by dsimp only; omega, by dsimp only; omega, hi, by dsimp only; omega⟩, rfl⟩, by dsimp only; omega, Sub.l (.cons_cons _ (List.Sublist.append (List.Sublist.refl _) (List.sublist_append_right _ _))), .cons rfl (Le.refl _) (.cons rfl (Le.refl _) (.cons rfl (Le.refl _) (.cons rfl (Le.refl _) (.cons rfl (Le.refl _) (.cons rfl (Le.refl _) (.cons rfl (Le.refl _) (.cons rfl (Le.of_eq (by dsimp only; rw [Int.natCast_add]; rfl)) .nil)))))))⟩
              · try simp only [Bool.and_eq_true, Bool.or_eq_true, Bool.not_eq_true', Bool.not_eq_false', Bool.and_eq_false_iff, Bool.or_eq_false_iff, decide_eq_true_eq, decide_eq_false_iff_not, gd] at hb152
                refine AC_exit ?_
                refine AC_region ?_
                refine AL_p rfl rfl (S_move rfl (AEv.tmp rfl)) ?_
                refine AL_p rfl rfl (S_addI rfl (AEv.tmp rfl) (AEv.const _) (by omega) (by omega)) ?_
                refine AL_p rfl rfl (S_assign rfl (AEv.tmp rfl)) ?_
                refine AL_nil ?_
                refine ⟨⟨i' + 1, 0, p, ql, lost, t, th, nx, bl⟩, ⟨⟨hp, ht, hord, hn0, by dsimp only; omega, by dsimp only; omega, by simp⟩, rfl⟩, by dsimp only; omega, Sub.l (List.Sublist.refl _), .cons rfl (Le.refl _) (.cons rfl (Le.refl _) (.cons rfl (Le.refl _) (.cons rfl (Le.refl _) (.cons rfl (Le.refl _) (.cons rfl (Le.refl _) (.cons rfl (Le.of_eq (by dsimp only; rw [Int.natCast_add]; rfl)) .nil))))))⟩
        · try simp only [Bool.and_eq_true, Bool.or_eq_true, Bool.not_eq_true', Bool.not_eq_false', Bool.and_eq_false_iff, Bool.or_eq_false_iff, decide_eq_true_eq, decide_eq_false_iff_not, gd] at hb10
          refine AC_exit ?_
          refine AC_seq ?_
          refine AC_region ?_
          refine AL_p rfl rfl (S_move rfl (AEv.tmp rfl)) ?_
          refine AL_p rfl rfl (S_keep (S_call rfl (AEvs.cons (AEv.tmp rfl) AEvs.nil) (queue_Lost_ok b1 p ql lost hp _)) (by rintro _ _ ⟨_, ⟨rfl, rfl⟩, rfl⟩; exact ⟨rfl, rfl⟩)) ?_
          refine AL_p rfl rfl (S_move rfl (AEv.tmp rfl)) ?_
          refine AL_p rfl rfl (S_leq rfl (AEv.tmp rfl) (AEv.tmp rfl)) ?_
          refine AL_p rfl rfl (S_assign rfl (AEv.tmp rfl)) ?_
          refine AL_nil ?_
          refine AC_ret ?_
          refine ret_tmp st rfl rfl (Sub.l (List.Sublist.cons _ ((List.sublist_append_right _ _).trans (List.sublist_append_right _ _)))) (Conv.refl (Sub.l (List.Sublist.cons _ ((List.sublist_append_right _ _).trans (List.sublist_append_right _ _)))) _) ⟨by rw [decide_eq_true hle], rfl⟩ (.inl rfl)

set_option maxRecDepth 100000 in
/-- slices.Clone[[]provost/api.Note,provost/api.Note] -/
theorem clone_okV (l : List Note) (hl : l.length ≤ 100) (F : St) : ACalls Try.prog 17 [.sl (notesL l)] ([] ++ F) (fun x st' => ∃ foot', (∃ q : Vec, q.ok (notesL l) ∧ x = .lit (vecV q (notesL l).length) ∧ foot' = vecSt q 4 (notesL l)) ∧ st' = foot' ++ F) := by
  refine ACalls_of (N := 8) Try.func17 (by kernel_rfl) rfl rfl rfl ?_
  have hln := notesL_len l
  refine AC_seq ?_
  refine AC_region ?_
  refine AL_p rfl rfl (S_assign rfl (AEv.const _)) ?_
  refine AL_nil ?_
  refine AC_seq ?_
  refine AC_seq ?_
  refine AC_region ?_
  refine AL_p rfl rfl (S_move rfl (AEv.tmp rfl)) ?_
  refine AL_step rfl rfl (S_eqlNilSl (e := 28) rfl (AEv.tmp rfl) (AEv.const _) (by kernel_rfl)) ?_
  rintro _ st9 ⟨c, rfl, hc, h9⟩
  rw [h9]
  clear h9 st9
  refine AL_nil ?_
  refine AC_cond (AEv.tmp rfl) (fun hb1 => ?_) (fun hb1 => ?_)
  · try simp only [Bool.and_eq_true, Bool.or_eq_true, Bool.not_eq_true', Bool.not_eq_false', Bool.and_eq_false_iff, Bool.or_eq_false_iff, decide_eq_true_eq, decide_eq_false_iff_not, gd] at hb1
    have hnil := hc hb1
    refine AC_seq ?_
    refine AC_region ?_
    refine AL_p rfl rfl (S_assign rfl (AEv.const _)) ?_
    refine AL_nil ?_
    refine AC_ret ?_
    refine ret_tmp ([] ++ F) rfl rfl (Sub.l (List.Sublist.refl _)) (Conv.refl (Sub.l (List.Sublist.refl _)) _) ⟨[], ⟨.nil, hnil, by rw [hnil]; rfl, rfl⟩, rfl⟩ (.inl rfl)
  · try simp only [Bool.and_eq_true, Bool.or_eq_true, Bool.not_eq_true', Bool.not_eq_false', Bool.and_eq_false_iff, Bool.or_eq_false_iff, decide_eq_true_eq, decide_eq_false_iff_not, gd] at hb1
    refine AC_skip ?_
    refine AC_seq ?_
    refine AC_region ?_
    refine AL_step rfl rfl (S_build0 (e := 28) rfl rfl (by kernel_rfl) (by kernel_rfl)) ?_
    rintro _ st9 ⟨A, rfl, h9⟩
    rw [h9]
    clear h9 st9
    refine AL_p rfl rfl (S_move rfl (AEv.tmp rfl)) ?_
    refine AL_step rfl rfl (S_appendEmpV (e := 28) (size := 4) (bytes := 32) rfl (AEv.tmp rfl) (AEv.tmp rfl) (by kernel_rfl) (notesL_one l) (by omega) (by omega)) ?_
    rintro _ _ ⟨q, hq, rfl, rfl⟩
    refine AL_p rfl rfl (S_assign rfl (AEv.tmp rfl)) ?_
    refine AL_nil ?_
    refine AC_ret ?_
    refine ret_tmp (vecSt q 4 (notesL l) ++ F) rfl rfl (Sub.l (List.Sublist.refl _)) (Conv.refl (Sub.l (List.Sublist.refl _)) _) ⟨_, ⟨q, hq, rfl, rfl⟩, rfl⟩ (.inl rfl)

set_option maxRecDepth 100000 in
/-- (*provost/note.Queue).All -/
theorem queue_All_okV (b : Nat) (p : Own) (l : List Note) (lost : Int) (hp : p.ok (notesL l)) (hl : l.length ≤ 100) (F : St) : ACalls Try.prog 15 [.ptr b 0] (((b, .cells [ownAV p 4 (notesL l), .int .i64 lost]) :: ownSt p 28 4 (notesL l)) ++ F) (fun x st' => ∃ foot', (∃ q : Vec, q.ok (notesL l) ∧ x = .lit (vecV q (notesL l).length) ∧ foot' = vecSt q 4 (notesL l) ++ ((b, .cells [ownAV p 4 (notesL l), .int .i64 lost]) :: ownSt p 28 4 (notesL l))) ∧ st' = foot' ++ F) := by
  refine ACalls_of (N := 8) Try.func15 (by kernel_rfl) rfl rfl rfl ?_
  refine AC_seq ?_
  refine AC_region ?_
  refine AL_p rfl rfl (S_assign rfl (AEv.const _)) ?_
  refine AL_nil ?_
  refine AC_seq ?_
  refine AC_region ?_
  refine AL_p rfl rfl (S_move rfl (AEv.tmp rfl)) ?_
  refine AL_p rfl rfl (S_nilCheck rfl (AEv.tmp rfl)) ?_
  refine AL_p rfl rfl (S_field 0 rfl (AEv.tmp rfl) (by kernel_rfl)) ?_
  refine AL_p rfl rfl (S_load 0 rfl (AEv.tmp rfl) rfl rfl (by kernel_rfl)) ?_
  refine AL_step rfl rfl (S_call rfl (AEvs.cons ((AEv.tmp rfl).le (Le_own hp)) AEvs.nil) (clone_okV l hl _)) ?_
  rintro _ _ ⟨_, ⟨q, hq, rfl, rfl⟩, rfl⟩
  refine AL_p rfl rfl (S_assign rfl (AEv.tmp rfl)) ?_
  refine AL_nil ?_
  refine AC_ret ?_
  refine ret_tmp (vecSt q 4 (notesL l) ++ (((b, .cells [ownAV p 4 (notesL l), .int .i64 lost]) :: ownSt p 28 4 (notesL l)) ++ F)) rfl rfl (Sub.l (List.Sublist.refl _)) (Conv.refl (Sub.l (List.Sublist.refl _)) _) ⟨_, ⟨q, hq, rfl, rfl⟩, by simp⟩ (.inl rfl)

set_option maxRecDepth 100000 in
/-- provost/provostref23.Put -/
theorem ref23_Put_ok (l : List Note) (lost : Int) (n : Note) (hl : l.length ≤ 32) (hlost : -1000000 ≤ lost ∧ lost ≤ 1000000) : PCalls Try.prog 12 [.agg [.sl (notesL l), .int .i64 lost], noteAV n] (.tup [.agg [.sl (notesL (putQ l lost n).1), .int .i64 (putQ l lost n).2.1], .bool (putQ l lost n).2.2]) := by
  intro st
  refine ACalls_of (N := 42) Try.func12 (by kernel_rfl) rfl rfl rfl ?_
  have hln := notesL_len l
  refine AC_seq ?_
  refine AC_region ?_
  refine AL_step rfl rfl (S_box rfl (AEv.tmp rfl)) ?_
  rintro _ _ ⟨b1, rfl, rfl⟩
  refine AL_step rfl rfl (S_box rfl (AEv.tmp rfl)) ?_
  rintro _ _ ⟨b2, rfl, rfl⟩
  refine AL_step rfl rfl (S_alloc [.slice none 0 0, .int .i64 0] rfl (by kernel_rfl)) ?_
  rintro _ _ ⟨b3, rfl, rfl⟩
  refine AL_p rfl rfl (S_assign rfl (AEv.const _)) ?_
  refine AL_nil ?_
  refine AC_seq ?_
  refine AC_seq ?_
  refine AC_region ?_
  refine AL_p rfl rfl (S_field 0 rfl (AEv.tmp rfl) (by kernel_rfl)) ?_
  refine AL_p rfl rfl (S_load 2 rfl (AEv.tmp rfl) rfl rfl (by kernel_rfl)) ?_
  refine AL_p rfl rfl (S_len (e := 28) rfl (AEv.tmp rfl) (by kernel_rfl)) ?_
  refine AL_p rfl rfl (S_eql rfl (AEv.tmp rfl) (AEv.const _)) ?_
  refine AL_p rfl rfl (S_move rfl (AEv.tmp rfl)) ?_
  refine AL_g rfl rfl (AEv.tmp rfl) rfl (fun hg4 => S_field 0 rfl (AEv.tmp rfl) (by kernel_rfl)) ?_
  refine AL_g rfl rfl (AEv.tmp rfl) rfl (fun hg7 => S_load 2 rfl (AEv.cond (AEv.tmp rfl) (by first | assumption | exact gdAnd (by assumption) (by assumption))) rfl rfl (by kernel_rfl)) ?_
  refine AL_g rfl rfl (AEv.tmp rfl) rfl (fun hg10 => S_elem (e := 28) (c := noteAV (headN l)) (i := 0) 4 rfl (AEv.cond (AEv.tmp rfl) (by first | assumption | exact gdAnd (by assumption) (by assumption))) (AEv.const _) (by kernel_rfl) (by kernel_rfl) (by omega) (head_at (by (try simp only [gd, Bool.and_eq_true, Bool.or_eq_true, Bool.not_eq_true', Bool.not_eq_false', decide_eq_true_eq, decide_eq_false_iff_not, Bool.or_eq_false_iff, Bool.and_eq_false_iff] at *); omega) rfl) rfl) ?_
  refine AL_g rfl rfl (AEv.tmp rfl) rfl (fun hg13 => S_fieldP 0 rfl (AEv.cond (AEv.tmp rfl) (by first | assumption | exact gdAnd (by assumption) (by assumption))) (by kernel_rfl)) ?_
  refine AL_g rfl rfl (AEv.tmp rfl) rfl (fun hg16 => S_loadP rfl (AEv.cond (AEv.tmp rfl) (by first | assumption | exact gdAnd (by assumption) (by assumption))) rfl (by kernel_rfl)) ?_
  refine AL_g rfl rfl (AEv.tmp rfl) rfl (fun hg19 => S_eql rfl (AEv.cond (AEv.tmp rfl) (by first | assumption | exact gdAnd (by assumption) (by assumption))) (AEv.const _)) ?_
  refine AL_p rfl rfl (S_and rfl (AEv.tmp rfl) (fun hp22 => (AEv.cond (AEv.tmp rfl) (by first | assumption | exact gdT hp22 | exact gdF hp22 | exact gdAnd (by assumption) (gdT hp22) | exact gdAnd (by assumption) (gdF hp22))))) ?_
  refine AL_nil ?_
  refine AC_cond (AEv.tmp rfl) (fun hb23 => ?_) (fun hb23 => ?_)
  · try simp only [Bool.and_eq_true, Bool.or_eq_true, Bool.not_eq_true', Bool.not_eq_false', Bool.and_eq_false_iff, Bool.or_eq_false_iff, decide_eq_true_eq, decide_eq_false_iff_not, gd] at hb23
    have hbl : blindQ l = true := by unfold blindQ; rw [hln] at hb23; simpa using hb23
    have hq : putQ l lost n = (l, lost + 1, false) := by rw [putQ, if_pos hbl]
    refine AC_seq ?_
    refine AC_region ?_
    refine AL_p rfl rfl (S_field 1 rfl (AEv.tmp rfl) (by kernel_rfl)) ?_
    refine AL_p rfl rfl (S_load 2 rfl (AEv.tmp rfl) rfl rfl (by kernel_rfl)) ?_
    refine AL_p rfl rfl (S_addI rfl (AEv.tmp rfl) (AEv.const _) (by omega) (by omega)) ?_
    refine AL_p rfl rfl (S_field 1 rfl (AEv.tmp rfl) (by kernel_rfl)) ?_
    refine AL_step rfl rfl (S_store 2 rfl (AEv.tmp rfl) (AEv.tmp rfl) rfl (by first | exact Nat.le_of_ble_eq_true rfl | simp) rfl (by kernel_rfl)) ?_
    rintro _ _ ⟨rfl, rfl⟩
    refine AL_nil ?_
    refine AC_seq ?_
    refine AC_region ?_
    refine AL_p rfl rfl (S_loadN (m := 2) 2 rfl (AEv.tmp rfl) rfl (by kernel_rfl) (by first | exact Nat.le_of_ble_eq_true rfl | (simp; omega) | simp)) ?_
    refine AL_step rfl rfl (S_storeN 0 rfl (AEv.tmp rfl) (AEv.tmp rfl) rfl (by first | exact Nat.le_of_ble_eq_true rfl | (simp; omega) | simp) (by first | rfl | simp [AV.one, Value.oneCell']) (by kernel_rfl)) ?_
    rintro _ _ ⟨rfl, rfl⟩
    refine AL_p rfl rfl (S_assign rfl (AEv.const _)) ?_
    refine AL_nil ?_
    refine AC_ret ?_
    refine ret_outs st rfl (by decide) (OutsR.row 0 rfl rfl (by kernel_rfl) (OutsR.tmp rfl OutsR.nil)) (Sub.l (List.Sublist.cons _ (List.Sublist.cons _ (List.Sublist.cons _ (List.Sublist.refl _))))) (Conv.refl (Sub.l (List.Sublist.cons _ (List.Sublist.cons _ (List.Sublist.cons _ (List.Sublist.refl _))))) _) ⟨by rw [hq]; rfl, rfl⟩ (.inl rfl)
  · try simp only [Bool.and_eq_true, Bool.or_eq_true, Bool.not_eq_true', Bool.not_eq_false', Bool.and_eq_false_iff, Bool.or_eq_false_iff, decide_eq_true_eq, decide_eq_false_iff_not, gd] at hb23
    have hbl : ¬ blindQ l = true := by unfold blindQ; rw [hln] at hb23; simp; omega
    refine AC_skip ?_
    refine AC_seq ?_
    refine AC_seq ?_
    refine AC_region ?_
    refine AL_p rfl rfl (S_field 0 rfl (AEv.tmp rfl) (by kernel_rfl)) ?_
    refine AL_p rfl rfl (S_load 2 rfl (AEv.tmp rfl) rfl rfl (by kernel_rfl)) ?_
    refine AL_p rfl rfl (S_len (e := 28) rfl (AEv.tmp rfl) (by kernel_rfl)) ?_
    refine AL_p rfl rfl (S_eql rfl (AEv.tmp rfl) (AEv.const _)) ?_
    refine AL_nil ?_
    refine AC_cond (AEv.tmp rfl) (fun hb24 => ?_) (fun hb24 => ?_)
    · try simp only [Bool.and_eq_true, Bool.or_eq_true, Bool.not_eq_true', Bool.not_eq_false', Bool.and_eq_false_iff, Bool.or_eq_false_iff, decide_eq_true_eq, decide_eq_false_iff_not, gd] at hb24
      have h32 : 32 ≤ l.length := by rw [hln] at hb24; omega
      have hq : putQ l lost n = ([(8, 0, 0, 0)], lost + (l.length + 1), false) := by rw [putQ, if_neg hbl, if_pos h32]
      refine AC_seq ?_
      refine AC_region ?_
      refine AL_p rfl rfl (S_build (pl := [(0, 1), (1, 1), (2, 1), (3, 1)]) (zs := [.int .i64 0, .int .i64 0, .int .i64 0, .int .i64 0]) rfl (AEvs.cons (AEv.const _) AEvs.nil) (by kernel_rfl) rfl) ?_
      refine AL_p rfl rfl (S_buildSlice (e := 28) 4 rfl (AEvs.cons (y := noteAV (8, 0, 0, 0)) (AEv.tmp rfl) AEvs.nil) rfl (by kernel_rfl) (by kernel_rfl) (by simp [AV.flat, AV.cells]) (by decide) (by decide) (by decide)) ?_
      refine AL_p rfl rfl (S_field 1 rfl (AEv.tmp rfl) (by kernel_rfl)) ?_
      refine AL_p rfl rfl (S_load 2 rfl (AEv.tmp rfl) rfl rfl (by kernel_rfl)) ?_
      refine AL_p rfl rfl (S_addI rfl (AEv.tmp rfl) (AEv.const _) (by omega) (by omega)) ?_
      refine AL_p rfl rfl (S_build (pl := [(0, 1), (1, 1)]) (zs := [.slice none 0 0, .int .i64 0]) rfl (AEvs.cons (AEv.tmp rfl) (AEvs.cons (AEv.tmp rfl) AEvs.nil)) (by kernel_rfl) rfl) ?_
      refine AL_step rfl rfl (S_storeN 0 rfl (AEv.tmp rfl) (AEv.tmp rfl) rfl (by first | exact Nat.le_of_ble_eq_true rfl | (simp; omega) | simp) (by first | rfl | simp [AV.one, Value.oneCell']) (by kernel_rfl)) ?_
      rintro _ _ ⟨rfl, rfl⟩
      refine AL_p rfl rfl (S_assign rfl (AEv.const _)) ?_
      refine AL_nil ?_
      refine AC_ret ?_
      refine ret_outs st rfl (by decide) (OutsR.row 0 rfl rfl (by kernel_rfl) (OutsR.tmp rfl OutsR.nil)) (Sub.l (List.Sublist.cons _ (List.Sublist.cons _ (List.Sublist.cons _ (List.Sublist.refl _))))) (Conv.refl (Sub.l (List.Sublist.cons _ (List.Sublist.cons _ (List.Sublist.cons _ (List.Sublist.refl _))))) _) ⟨by rw [hq]; dsimp only; rw [show lost + ((l.length : Int) + 1) = lost + 33 by omega]; rfl, rfl⟩ (.inl rfl)
    · try simp only [Bool.and_eq_true, Bool.or_eq_true, Bool.not_eq_true', Bool.not_eq_false', Bool.and_eq_false_iff, Bool.or_eq_false_iff, decide_eq_true_eq, decide_eq_false_iff_not, gd] at hb24
      have h32 : ¬ 32 ≤ l.length := by rw [hln] at hb24; omega
      have hq : putQ l lost n = (l ++ [n], lost, true) := by rw [putQ, if_neg hbl, if_neg h32]
      refine AC_skip ?_
      refine AC_seq ?_
      refine AC_plan (σ := [(1, 0), (2, 0), (4, 0), (5, 0), (0, 1), (3, 1), (6, 2), (7, 0), (8, 2)]) (by kernel_rfl) _ (by kernel_rfl) (fun _ h => h) ?_
      refine AG.f rfl rfl (fun st' hst => Q_p rfl (S_field 0 rfl (AEv.tmp rfl) (by kernel_rfl))) ?_
      refine AG.f rfl rfl (fun st' hst => Q_p rfl (S_loadM rfl (AEv.tmp rfl) (hst _ (List.mem_of_getElem? (i := 2) rfl)) rfl (by kernel_rfl))) ?_
      refine AG.f rfl rfl (fun st' hst => Q_p rfl (S_loadNM (m := 4) rfl (AEv.tmp rfl) (hst _ (List.mem_of_getElem? (i := 1) rfl)) (by kernel_rfl) (by first | exact Nat.le_of_ble_eq_true rfl | (simp; omega) | simp))) ?_
      refine AG.f rfl rfl (fun st' hst => Q_p rfl (S_buildSlice (e := 28) 4 rfl (AEvs.cons (y := noteAV n) (AEv.tmp rfl) AEvs.nil) rfl (by kernel_rfl) (by kernel_rfl) (by simp [AV.flat, AV.cells]) (by decide) (by decide) (by decide))) ?_
      refine AG.s rfl rfl rfl (S_build0 (e := 28) rfl rfl (by kernel_rfl) (by kernel_rfl)) ?_ ?_
      · rintro _ _ ⟨A, rfl, rfl⟩ q h; exact h
      rintro _ st9 ⟨A, rfl, h9⟩
      rw [h9]
      clear h9 st9
      refine AG.s rfl rfl rfl (S_appendEmpAll (e := 28) (size := 4) (bytes := 32) rfl (AEv.tmp rfl) (AEv.tmp rfl) (by kernel_rfl) (notesL_one l) (by omega) (by omega)) ?_ ?_
      · rintro _ _ ⟨p8, hp8, rfl, rfl⟩ q h; exact List.mem_append_right _ h
      rintro _ _ ⟨p8, hp8, rfl, rfl⟩
      refine AG.h rfl rfl rfl (S_appendOwn (e := 28) (size := 4) (bytes := 32) (p := p8) (xs := notesL l) [] _ rfl (AEv.tmp rfl) (AEv.tmp rfl) rfl hp8 (by kernel_rfl) (by simp) notesL_cells (by simp [AV.cells, AV.one, Value.oneCell']) (by simp only [List.length_singleton]; omega) (by simp only [List.length_singleton]; omega)) ?_
      rintro _ _ ⟨b8, k8, cap8, hx, rfl, rfl⟩
      refine AG.f rfl rfl (fun st' hst => Q_p rfl (S_field 0 rfl (AEv.tmp rfl) (by kernel_rfl))) ?_
      refine AG.h rfl rfl rfl (S_store 3 rfl (AEv.tmp rfl) (AEv.tmp rfl) rfl (by first | exact Nat.le_of_ble_eq_true rfl | simp) (by first | rfl | exact ownAV_one _ _ _) (by kernel_rfl)) ?_
      rintro _ _ ⟨rfl, rfl⟩
      refine AG.nil ?_
      refine AC_seq ?_
      refine AC_region ?_
      refine AL_p rfl rfl (S_loadN (m := 2) 3 rfl (AEv.tmp rfl) rfl (by kernel_rfl) (by first | exact Nat.le_of_ble_eq_true rfl | (simp; omega) | simp)) ?_
      refine AL_step rfl rfl (S_storeN 1 rfl (AEv.tmp rfl) (AEv.tmp rfl) rfl (by first | exact Nat.le_of_ble_eq_true rfl | (simp; omega) | simp) (by first | rfl | simp [AV.one, Value.oneCell']) (by kernel_rfl)) ?_
      rintro _ _ ⟨rfl, rfl⟩
      refine AL_p rfl rfl (S_assign rfl (AEv.const _)) ?_
      refine AL_nil ?_
      refine AC_ret ?_
      refine ret_outs st rfl (by decide) (OutsR.row 1 rfl rfl (by kernel_rfl) (OutsR.tmp rfl OutsR.nil)) (Sub.l (List.Sublist.cons _ (List.Sublist.cons _ (List.Sublist.cons _ (List.Sublist.cons _ (List.Sublist.refl _)))))) (Conv.le (Sub.l (List.Sublist.cons _ (List.Sublist.cons _ (List.Sublist.cons _ (List.Sublist.cons _ (List.Sublist.refl _)))))) (Le_put (p := .row b8 k8 cap8) (xs := notesL l ++ [noteAV n]) hx)) ⟨by rw [hq]; dsimp only; rw [notesL_snoc], rfl⟩ (.inl rfl)

set_option maxRecDepth 100000 in
/-- provost/provostref23.Take -/
theorem ref23_Take_ok (l : List Note) (lost : Int) (hl : l.length ≤ 32) : PCalls Try.prog 11 [.agg [.sl (notesL l), .int .i64 lost]] (.tup [.agg [.sl (notesL (takeQ l).1), .int .i64 lost], noteAV (takeQ l).2.1, .bool (takeQ l).2.2]) := by
  intro st
  refine ACalls_of (N := 22) Try.func11 (by kernel_rfl) rfl rfl rfl ?_
  have hln := notesL_len l
  refine AC_seq ?_
  refine AC_region ?_
  refine AL_step rfl rfl (S_box rfl (AEv.tmp rfl)) ?_
  rintro _ _ ⟨b1, rfl, rfl⟩
  refine AL_step rfl rfl (S_alloc [.slice none 0 0, .int .i64 0] rfl (by kernel_rfl)) ?_
  rintro _ _ ⟨b2, rfl, rfl⟩
  refine AL_step rfl rfl (S_alloc (List.replicate 4 (.int .i64 0)) rfl (by kernel_rfl)) ?_
  rintro _ _ ⟨b3, rfl, rfl⟩
  refine AL_p rfl rfl (S_assign rfl (AEv.const _)) ?_
  refine AL_nil ?_
  refine AC_seq ?_
  refine AC_seq ?_
  refine AC_region ?_
  refine AL_p rfl rfl (S_field 0 rfl (AEv.tmp rfl) (by kernel_rfl)) ?_
  refine AL_p rfl rfl (S_load 2 rfl (AEv.tmp rfl) rfl rfl (by kernel_rfl)) ?_
  refine AL_p rfl rfl (S_len (e := 28) rfl (AEv.tmp rfl) (by kernel_rfl)) ?_
  refine AL_p rfl rfl (S_eql rfl (AEv.tmp rfl) (AEv.const _)) ?_
  refine AL_nil ?_
  refine AC_cond (AEv.tmp rfl) (fun hb4 => ?_) (fun hb4 => ?_)
  · try simp only [Bool.and_eq_true, Bool.or_eq_true, Bool.not_eq_true', Bool.not_eq_false', Bool.and_eq_false_iff, Bool.or_eq_false_iff, decide_eq_true_eq, decide_eq_false_iff_not, gd] at hb4
    have h0 : l = [] := List.eq_nil_of_length_eq_zero (by omega)
    subst h0
    refine AC_seq ?_
    refine AC_region ?_
    refine AL_p rfl rfl (S_loadN (m := 2) 2 rfl (AEv.tmp rfl) rfl (by kernel_rfl) (by first | exact Nat.le_of_ble_eq_true rfl | (simp; omega) | simp)) ?_
    refine AL_p rfl rfl (S_build (pl := [(0, 1), (1, 1), (2, 1), (3, 1)]) (zs := [.int .i64 0, .int .i64 0, .int .i64 0, .int .i64 0]) rfl AEvs.nil (by kernel_rfl) rfl) ?_
    refine AL_step rfl rfl (S_storeN 1 rfl (AEv.tmp rfl) (AEv.tmp rfl) rfl (by first | exact Nat.le_of_ble_eq_true rfl | (simp; omega) | simp) (by first | rfl | simp [AV.one, Value.oneCell']) (by kernel_rfl)) ?_
    rintro _ _ ⟨rfl, rfl⟩
    refine AL_step rfl rfl (S_storeN 0 rfl (AEv.tmp rfl) (AEv.tmp rfl) rfl (by first | exact Nat.le_of_ble_eq_true rfl | (simp; omega) | simp) (by first | rfl | simp [AV.one, Value.oneCell']) (by kernel_rfl)) ?_
    rintro _ _ ⟨rfl, rfl⟩
    refine AL_p rfl rfl (S_assign rfl (AEv.const _)) ?_
    refine AL_nil ?_
    refine AC_ret ?_
    refine ret_outs st rfl (by decide) (OutsR.row 1 rfl rfl (by kernel_rfl) (OutsR.row 0 rfl rfl (by kernel_rfl) (OutsR.tmp rfl OutsR.nil))) (Sub.l (List.Sublist.cons _ (List.Sublist.cons _ (List.Sublist.cons _ (List.Sublist.refl _))))) (Conv.refl (Sub.l (List.Sublist.cons _ (List.Sublist.cons _ (List.Sublist.cons _ (List.Sublist.refl _))))) _) ⟨rfl, rfl⟩ (.inl rfl)
  · try simp only [Bool.and_eq_true, Bool.or_eq_true, Bool.not_eq_true', Bool.not_eq_false', Bool.and_eq_false_iff, Bool.or_eq_false_iff, decide_eq_true_eq, decide_eq_false_iff_not, gd] at hb4
    obtain ⟨n, l, rfl⟩ : ∃ n l', l = n :: l' := by
      cases l with
      | nil => exact absurd (by simp [notesL]) hb4
      | cons n l => exact ⟨n, l, rfl⟩
    simp only [List.length_cons] at hl hln
    refine AC_skip ?_
    refine AC_seq ?_
    refine AC_region ?_
    refine AL_p rfl rfl (S_field 0 rfl (AEv.tmp rfl) (by kernel_rfl)) ?_
    refine AL_p rfl rfl (S_load 2 rfl (AEv.tmp rfl) rfl rfl (by kernel_rfl)) ?_
    refine AL_p rfl rfl (S_elem (e := 28) (c := noteAV n) (i := 0) 4 rfl (AEv.tmp rfl) (AEv.const _) (by kernel_rfl) (by kernel_rfl) (by omega) rfl rfl) ?_
    refine AL_p rfl rfl (S_loadPN (m := 4) rfl (AEv.tmp rfl) (by kernel_rfl) (by first | exact Nat.le_of_ble_eq_true rfl | (simp; omega) | simp)) ?_
    refine AL_step rfl rfl (S_alloc (List.replicate 4 (.int .i64 0)) rfl (by kernel_rfl)) ?_
    rintro _ _ ⟨b5, rfl, rfl⟩
    refine AL_step rfl rfl (S_storeN 0 rfl (AEv.tmp rfl) (AEv.tmp rfl) rfl (by first | exact Nat.le_of_ble_eq_true rfl | (simp; omega) | simp) (by first | rfl | simp [AV.one, Value.oneCell']) (by kernel_rfl)) ?_
    rintro _ _ ⟨rfl, rfl⟩
    refine AL_nil ?_
    refine AC_seq ?_
    refine AC_region ?_
    refine AL_p rfl rfl (S_field 0 rfl (AEv.tmp rfl) (by kernel_rfl)) ?_
    refine AL_p rfl rfl (S_load 3 rfl (AEv.tmp rfl) rfl rfl (by kernel_rfl)) ?_
    refine AL_p rfl rfl (S_cut (e := 28) (i := 1) (j := (notesL (n :: l)).length) 4 rfl (AEv.tmp rfl) ⟨_, AEv.const _⟩ rfl (by kernel_rfl) (by kernel_rfl) notesL_cells (by omega) (by omega)) ?_
    refine AL_p rfl rfl (S_field 0 rfl (AEv.tmp rfl) (by kernel_rfl)) ?_
    refine AL_step rfl rfl (S_store 3 rfl (AEv.tmp rfl) (AEv.tmp rfl) rfl (by first | exact Nat.le_of_ble_eq_true rfl | simp) rfl (by kernel_rfl)) ?_
    rintro _ _ ⟨rfl, rfl⟩
    refine AL_nil ?_
    refine AC_seq ?_
    refine AC_plan (σ := [(0, 0), (1, 0), (2, 1), (3, 2), (4, 0)]) (by kernel_rfl) [(b5, .cells (noteL n)), (b5, .cells (noteL n)), (b5, .cells (noteL n)), (b1, .cells [.sl (List.drop 1 (List.take (notesL (n :: l)).length (notesL (n :: l)))), .int .i64 lost])] (by kernel_rfl) (fun q hq => by simp only [List.mem_cons, List.not_mem_nil, or_false] at hq; rcases hq with rfl | rfl | rfl | rfl <;> first | exact .head _ | exact .tail _ (.tail _ (.tail _ (.head _)))) ?_
    refine AG.f rfl rfl (fun st' hst => Q_p rfl (S_loadNM (m := 2) rfl (AEv.tmp rfl) (hst _ (List.mem_of_getElem? (i := 3) rfl)) (by kernel_rfl) (by first | exact Nat.le_of_ble_eq_true rfl | (simp; omega) | simp))) ?_
    refine AG.f rfl rfl (fun st' hst => Q_p rfl (S_loadNM (m := 4) rfl (AEv.tmp rfl) (hst _ (List.mem_of_getElem? (i := 0) rfl)) (by kernel_rfl) (by first | exact Nat.le_of_ble_eq_true rfl | (simp; omega) | simp))) ?_
    refine AG.s rfl rfl rfl (S_storeN 2 rfl (AEv.tmp rfl) (AEv.tmp rfl) rfl (by first | exact Nat.le_of_ble_eq_true rfl | (simp; omega) | simp) (by first | rfl | simp [AV.one, Value.oneCell']) (by kernel_rfl)) ?_ ?_
    · rintro _ _ ⟨rfl, rfl⟩ q hq; simp only [List.mem_cons, List.not_mem_nil, or_false] at hq; rcases hq with rfl | rfl | rfl | rfl <;> first | exact .head _ | exact .tail _ (.tail _ (.tail _ (.head _)))
    rintro _ _ ⟨rfl, rfl⟩
    refine AG.h rfl rfl rfl (S_storeN 1 rfl (AEv.tmp rfl) (AEv.tmp rfl) rfl (by first | exact Nat.le_of_ble_eq_true rfl | (simp; omega) | simp) (by first | rfl | simp [AV.one, Value.oneCell']) (by kernel_rfl)) ?_
    rintro _ _ ⟨rfl, rfl⟩
    refine AG.f rfl rfl (fun st' hst => Q_p rfl (S_assign rfl (AEv.const _))) ?_
    refine AG.nil ?_
    refine AC_ret ?_
    refine ret_outs st rfl (by decide) (OutsR.row 2 rfl rfl (by kernel_rfl) (OutsR.row 1 rfl rfl (by kernel_rfl) (OutsR.tmp rfl OutsR.nil))) (Sub.l (List.Sublist.cons _ (List.Sublist.cons _ (List.Sublist.cons _ (List.Sublist.cons _ (List.Sublist.refl _)))))) (Conv.refl (Sub.l (List.Sublist.cons _ (List.Sublist.cons _ (List.Sublist.cons _ (List.Sublist.cons _ (List.Sublist.refl _)))))) _) ⟨by rw [List.take_of_length_le (Nat.le_refl _)]; rfl, rfl⟩ (.inl rfl)

set_option maxRecDepth 100000 in
/-- provost/provostlaw23.same -/
theorem same_ok (l : List Note) (hl : l.length ≤ 100) : PCalls Try.prog 16 [.sl (notesL l), .sl (notesL l)] (.bool true) := by
  intro st
  refine ACalls_of (N := 32) Try.func16 (by kernel_rfl) rfl rfl rfl ?_
  have hln := notesL_len l
  refine AC_seq ?_
  refine AC_region ?_
  refine AL_p rfl rfl (S_assign rfl (AEv.const _)) ?_
  refine AL_nil ?_
  refine AC_seq ?_
  refine AC_seq ?_
  refine AC_region ?_
  refine AL_p rfl rfl (S_move rfl (AEv.tmp rfl)) ?_
  refine AL_p rfl rfl (S_len (e := 28) rfl (AEv.tmp rfl) (by kernel_rfl)) ?_
  refine AL_p rfl rfl (S_move rfl (AEv.tmp rfl)) ?_
  refine AL_p rfl rfl (S_len (e := 28) rfl (AEv.tmp rfl) (by kernel_rfl)) ?_
  refine AL_p rfl rfl (S_neq rfl (AEv.tmp rfl) (AEv.tmp rfl)) ?_
  refine AL_nil ?_
  refine AC_cond (AEv.tmp rfl) (fun hb1 => ?_) (fun hb1 => ?_)
  · simp at hb1; done
  · try simp only [Bool.and_eq_true, Bool.or_eq_true, Bool.not_eq_true', Bool.not_eq_false', Bool.and_eq_false_iff, Bool.or_eq_false_iff, decide_eq_true_eq, decide_eq_false_iff_not, gd] at hb1
    refine AC_skip ?_
    refine AC_seq ?_
    refine AC_seq ?_
    refine AC_region ?_
    refine AL_p rfl rfl (S_assign rfl (AEv.const _)) ?_
    refine AL_nil ?_
    refine AC_block ?_
    refine AC_loop (G := Nat) (fun g => True) (fun g => [(0, .sl (notesL l)), (1, .sl (notesL l)), (5, .int .i64 (g : Int))]) (fun g => st) (fun g => l.length - g) (0) (trivial) rfl ?_ ?_
    · exact (.cons rfl (by first | exact Le.refl _ | exact Le.nils | exact Le.row _ _ _ _ | (exact Le.of_eq (by simp))) (.cons rfl (by first | exact Le.refl _ | exact Le.nils | exact Le.row _ _ _ _ | (exact Le.of_eq (by simp))) (.cons rfl (by first | exact Le.refl _ | exact Le.nils | exact Le.row _ _ _ _ | (exact Le.of_eq (by simp))) .nil)))
    · rintro g _
      try dsimp only
      refine AC_seq ?_
      refine AC_seq ?_
      refine AC_region ?_
      refine AL_p rfl rfl (S_move rfl (AEv.tmp rfl)) ?_
      refine AL_p rfl rfl (S_move rfl (AEv.tmp rfl)) ?_
      refine AL_p rfl rfl (S_len (e := 28) rfl (AEv.tmp rfl) (by kernel_rfl)) ?_
      refine AL_p rfl rfl (S_lss rfl (AEv.tmp rfl) (AEv.tmp rfl)) ?_
      refine AL_p rfl rfl (S_move rfl (AEv.tmp rfl)) ?_
      refine AL_g rfl rfl (AEv.tmp rfl) rfl (fun hg2 => S_move rfl (AEv.tmp rfl)) ?_
      refine AL_g rfl rfl (AEv.tmp rfl) rfl (fun hg5 => S_move rfl (AEv.tmp rfl)) ?_
      refine AL_g rfl rfl (AEv.tmp rfl) rfl (fun hg8 => S_len (e := 28) rfl (AEv.cond (AEv.tmp rfl) (by first | assumption | exact gdAnd (by assumption) (by assumption))) (by kernel_rfl)) ?_
      refine AL_g rfl rfl (AEv.tmp rfl) rfl (fun hg11 => S_lss rfl (AEv.cond (AEv.tmp rfl) (by first | assumption | exact gdAnd (by assumption) (by assumption))) (AEv.cond (AEv.tmp rfl) (by first | assumption | exact gdAnd (by assumption) (by assumption)))) ?_
      refine AL_p rfl rfl (S_and rfl (AEv.tmp rfl) (fun hp14 => (AEv.cond (AEv.tmp rfl) (by first | assumption | exact gdT hp14 | exact gdF hp14 | exact gdAnd (by assumption) (gdT hp14) | exact gdAnd (by assumption) (gdF hp14))))) ?_
      refine AL_nil ?_
      refine AC_cond (AEv.tmp rfl) (fun hb15 => ?_) (fun hb15 => ?_)
      · try simp only [Bool.and_eq_true, Bool.or_eq_true, Bool.not_eq_true', Bool.not_eq_false', Bool.and_eq_false_iff, Bool.or_eq_false_iff, decide_eq_true_eq, decide_eq_false_iff_not, gd] at hb15
        have hgl : g < l.length := by omega
        refine AC_skip ?_
        refine AC_seq ?_
        refine AC_block ?_
        refine AC_seq ?_
        refine AC_draw (by kernel_rfl) (by kernel_rfl) (.cons rfl (Q_p rfl (S_move rfl (AEv.tmp rfl))) <|
            .cons rfl (Q_p rfl (S_move rfl (AEv.tmp rfl))) <|
            .cons rfl (Q_p rfl (S_elem (e := 28) (c := noteAV (l[g]'hgl)) (i := (g : Int)) 4 rfl (AEv.tmp rfl) (AEv.tmp rfl) (by kernel_rfl) (by kernel_rfl) (by omega) (by simp [notesL, hgl]) rfl)) <|
            .cons rfl (Q_p rfl (S_loadPN (m := 4) rfl (AEv.tmp rfl) (by kernel_rfl) (by first | exact Nat.le_of_ble_eq_true rfl | (simp; omega) | simp))) <|
            .cons rfl (Q_p rfl (S_move rfl (AEv.tmp rfl))) <|
            .cons rfl (Q_p rfl (S_move rfl (AEv.tmp rfl))) <|
            .cons rfl (Q_p rfl (S_elem (e := 28) (c := noteAV (l[g]'hgl)) (i := (g : Int)) 4 rfl (AEv.tmp rfl) (AEv.tmp rfl) (by kernel_rfl) (by kernel_rfl) (by omega) (by simp [notesL, hgl]) rfl)) <|
            .cons rfl (Q_p rfl (S_loadPN (m := 4) rfl (AEv.tmp rfl) (by kernel_rfl) (by first | exact Nat.le_of_ble_eq_true rfl | (simp; omega) | simp))) <|
            .cons rfl (Q_p rfl (S_neqAgg rfl (AEv.tmp rfl) (AEv.tmp rfl) (by kernel_rfl) (EqAV.struct Try.underlying28 (by kernel_rfl) (EqFs.flat (by kernel_rfl) (by kernel_rfl) rfl rfl (EqAV.int (k' := .i64) (by kernel_rfl)) (EqFs.flat (by kernel_rfl) (by kernel_rfl) rfl rfl (EqAV.int (k' := .i64) (by kernel_rfl)) (EqFs.flat (by kernel_rfl) (by kernel_rfl) rfl rfl (EqAV.int (k' := .i64) (by kernel_rfl)) (EqFs.flat (by kernel_rfl) (by kernel_rfl) rfl rfl (EqAV.int (k' := .i64) (by kernel_rfl)) EqFs.nil))))))) <|
            .nil) ?_
        refine AC_cond (AEv.tmp rfl) (fun hb16 => ?_) (fun hb16 => ?_)
        · simp at hb16; done
        · try simp only [Bool.and_eq_true, Bool.or_eq_true, Bool.not_eq_true', Bool.not_eq_false', Bool.and_eq_false_iff, Bool.or_eq_false_iff, decide_eq_true_eq, decide_eq_false_iff_not, gd] at hb16
          refine AC_skip ?_
          refine AC_region ?_
          refine AL_p rfl rfl (S_move rfl (AEv.tmp rfl)) ?_
          refine AL_p rfl rfl (S_addI rfl (AEv.tmp rfl) (AEv.const _) (by omega) (by omega)) ?_
          refine AL_p rfl rfl (S_assign rfl (AEv.tmp rfl)) ?_
          refine AL_nil ?_
          refine ⟨g + 1, trivial, by omega, rfl, .cons rfl (Le.refl _) (.cons rfl (Le.refl _) (.cons rfl (Le.of_eq (by rw [Int.natCast_add]; rfl)) .nil))⟩
      · try simp only [Bool.and_eq_true, Bool.or_eq_true, Bool.not_eq_true', Bool.not_eq_false', Bool.and_eq_false_iff, Bool.or_eq_false_iff, decide_eq_true_eq, decide_eq_false_iff_not, gd] at hb15
        refine AC_exit ?_
        refine AC_seq ?_
        refine AC_region ?_
        refine AL_p rfl rfl (S_assign rfl (AEv.const _)) ?_
        refine AL_nil ?_
        refine AC_ret ?_
        refine ret_tmp st rfl rfl (Sub.l (List.Sublist.refl _)) (Conv.refl (Sub.l (List.Sublist.refl _)) _) ⟨by first | rfl | (simp; done), rfl⟩ (.inl rfl)

set_option maxRecDepth 100000 in
/-- provost/provostlaw23.NotePlays -/
theorem law_NotePlays (l : List Note) (hl4 : ∀ r, r ∈ l → fits4 r) (rep : Int) (hrep : fits rep) : PCalls Try.prog 4 [.sl (notesL l), .int .i64 rep] (.bool true) := by
  intro st
  refine ACalls_of (N := 151) Try.func4 (by kernel_rfl) rfl rfl rfl ?_
  have hln := notesL_len l
  refine AC_seq ?_
  refine AC_region ?_
  refine AL_p rfl rfl (S_assign rfl (AEv.const _)) ?_
  refine AL_nil ?_
  refine AC_seq ?_
  refine AC_region ?_
  refine AL_step rfl rfl (S_call rfl AEvs.nil (note_New_ok st)) ?_
  rintro _ _ ⟨_, ⟨b1, rfl, rfl⟩, rfl⟩
  refine AL_p rfl rfl (S_assign rfl (AEv.tmp rfl)) ?_
  refine AL_nil ?_
  refine AC_seq ?_
  refine AC_seq ?_
  refine AC_region ?_
  refine AL_p rfl rfl (S_move rfl (AEv.tmp rfl)) ?_
  refine AL_p rfl rfl (S_eqlNil rfl (AEv.tmp rfl) (AEv.const _) (by kernel_rfl)) ?_
  refine AL_nil ?_
  refine AC_cond (AEv.tmp rfl) (fun hb1 => ?_) (fun hb1 => ?_)
  · simp at hb1; done
  · try simp only [Bool.and_eq_true, Bool.or_eq_true, Bool.not_eq_true', Bool.not_eq_false', Bool.and_eq_false_iff, Bool.or_eq_false_iff, decide_eq_true_eq, decide_eq_false_iff_not, gd] at hb1
    refine AC_skip ?_
    refine AC_seq ?_
    refine AC_region ?_
    refine AL_p rfl rfl (S_build (pl := [(0, 1), (1, 1)]) (zs := [.slice none 0 0, .int .i64 0]) rfl AEvs.nil (by kernel_rfl) rfl) ?_
    refine AL_step rfl rfl (S_alloc [.slice none 0 0, .int .i64 0] rfl (by kernel_rfl)) ?_
    rintro _ _ ⟨b2, rfl, rfl⟩
    refine AL_step rfl rfl (S_storeN 0 rfl (AEv.tmp rfl) (AEv.tmp rfl) rfl (by first | exact Nat.le_of_ble_eq_true rfl | (simp; omega) | simp) (by first | rfl | simp [AV.one, Value.oneCell']) (by kernel_rfl)) ?_
    rintro _ _ ⟨rfl, rfl⟩
    refine AL_nil ?_
    refine AC_seq ?_
    refine AC_seq ?_
    refine AC_cells (n := 0) (ds := [.sl (notesL []), .int .i64 0]) rfl (.cons Le.nils (.cons (Le.refl _) .nil)) ?_
    refine AC_region ?_
    refine AL_p rfl rfl (S_assign rfl (AEv.const _)) ?_
    refine AL_nil ?_
    refine AC_block ?_
    refine AC_loopS (G := PG) (fun g => g.ok ∧ g.k = 0) (fun g => [(0, .sl (notesL l)), (1, .int .i64 rep), (5, .ptr b1 0), (6, .ptr b2 0), (7, .int .i64 (g.i : Int))]) (fun g => ((b2, .cells [.sl (notesL g.ql), .int .i64 g.lost]) :: (((b1, .cells [ownAV g.p 4 (notesL g.ql), .int .i64 g.lost]) :: ownSt g.p 28 4 (notesL g.ql)) ++ st))) (fun g => 200 - g.i) (⟨0, 0, .nil, [], 0⟩) (⟨⟨rfl, by simp, by simp, by simp, by simp, by simp⟩, rfl⟩) (Sub.l (List.Sublist.refl _)) ?_ ?_
    · exact (.cons rfl (Le.refl _) (.cons rfl (Le.refl _) (.cons rfl (Le.refl _) (.cons rfl (Le.refl _) (.cons rfl (Le.refl _) .nil)))))
    · rintro ⟨i, k0, p, ql, lost⟩ ⟨hI, hk0⟩
      try dsimp only
      dsimp only at hk0
      subst hk0
      dsimp only [PG.ok] at hI
      obtain ⟨hp, hlen, hlo, hlost, hi, hk40⟩ := hI
      try dsimp only at hp hlen hlo hlost hi hk40
      refine AC_seq ?_
      refine AC_seq ?_
      refine AC_region ?_
      refine AL_p rfl rfl (S_move rfl (AEv.tmp rfl)) ?_
      refine AL_p rfl rfl (S_move rfl (AEv.tmp rfl)) ?_
      refine AL_p rfl rfl (S_len (e := 28) rfl (AEv.tmp rfl) (by kernel_rfl)) ?_
      refine AL_p rfl rfl (S_lss rfl (AEv.tmp rfl) (AEv.tmp rfl)) ?_
      refine AL_p rfl rfl (S_move rfl (AEv.tmp rfl)) ?_
      refine AL_g rfl rfl (AEv.tmp rfl) rfl (fun hg3 => S_move rfl (AEv.tmp rfl)) ?_
      refine AL_g rfl rfl (AEv.tmp rfl) rfl (fun hg6 => S_lss rfl (AEv.cond (AEv.tmp rfl) (by first | assumption | exact gdAnd (by assumption) (by assumption))) (AEv.const _)) ?_
      refine AL_p rfl rfl (S_and rfl (AEv.tmp rfl) (fun hp9 => (AEv.cond (AEv.tmp rfl) (by first | assumption | exact gdT hp9 | exact gdF hp9 | exact gdAnd (by assumption) (gdT hp9) | exact gdAnd (by assumption) (gdF hp9))))) ?_
      refine AL_nil ?_
      refine AC_cond (AEv.tmp rfl) (fun hb10 => ?_) (fun hb10 => ?_)
      · try simp only [Bool.and_eq_true, Bool.or_eq_true, Bool.not_eq_true', Bool.not_eq_false', Bool.and_eq_false_iff, Bool.or_eq_false_iff, decide_eq_true_eq, decide_eq_false_iff_not, gd] at hb10
        have hil : i < l.length := by omega
        refine AC_skip ?_
        refine AC_seq ?_
        refine AC_block ?_
        refine AC_joinS (G := PG) (fun g => g.ok ∧ g.i = i ∧ g.k = 0) (fun g => [(0, .sl (notesL l)), (1, .int .i64 rep), (5, .ptr b1 0), (6, .ptr b2 0), (7, .int .i64 (g.i : Int))]) (fun g => ((b2, .cells [.sl (notesL g.ql), .int .i64 g.lost]) :: (((b1, .cells [ownAV g.p 4 (notesL g.ql), .int .i64 g.lost]) :: ownSt g.p 28 4 (notesL g.ql)) ++ st))) ?_ ?_
        · refine AC_seq ?_
          refine AC_region ?_
          refine AL_p rfl rfl (S_move rfl (AEv.tmp rfl)) ?_
          refine AL_p rfl rfl (S_move rfl (AEv.tmp rfl)) ?_
          refine AL_p rfl rfl (S_elem (e := 28) (c := noteAV (l[i]'hil)) (i := (i : Int)) 4 rfl (AEv.tmp rfl) (AEv.tmp rfl) (by kernel_rfl) (by kernel_rfl) (by omega) (by simp [notesL, hil]) rfl) ?_
          refine AL_p rfl rfl (S_fieldP 0 rfl (AEv.tmp rfl) (by kernel_rfl)) ?_
          refine AL_p rfl rfl (S_loadP rfl (AEv.tmp rfl) rfl (by kernel_rfl)) ?_
          refine AL_p rfl rfl (S_lss rfl (AEv.tmp rfl) (AEv.const _)) ?_
          refine AL_nil ?_
          refine AC_cond (AEv.tmp rfl) (fun hb11 => ?_) (fun hb11 => ?_)
          · try simp only [Bool.and_eq_true, Bool.or_eq_true, Bool.not_eq_true', Bool.not_eq_false', Bool.and_eq_false_iff, Bool.or_eq_false_iff, decide_eq_true_eq, decide_eq_false_iff_not, gd] at hb11
            refine AC_seq ?_
            refine AC_region ?_
            refine AL_p rfl rfl (S_loadN (m := 2) 0 rfl (AEv.tmp rfl) rfl (by kernel_rfl) (by first | exact Nat.le_of_ble_eq_true rfl | (simp; omega) | simp)) ?_
            refine AL_p rfl rfl (S_pcall rfl (AEvs.cons (AEv.tmp rfl) AEvs.nil) (ref23_Take_ok ql lost hlen)) ?_
            refine AL_p rfl rfl (S_move rfl (AEv.tmp rfl)) ?_
            refine AL_p rfl rfl (S_extract 0 rfl (AEv.tmp rfl) rfl) ?_
            refine AL_p rfl rfl (S_extract 1 rfl (AEv.tmp rfl) rfl) ?_
            refine AL_p rfl rfl (S_extract 2 rfl (AEv.tmp rfl) rfl) ?_
            refine AL_step rfl rfl (S_alloc [.slice none 0 0, .int .i64 0] rfl (by kernel_rfl)) ?_
            rintro _ _ ⟨b12, rfl, rfl⟩
            refine AL_step rfl rfl (S_alloc (List.replicate 4 (.int .i64 0)) rfl (by kernel_rfl)) ?_
            rintro _ _ ⟨b13, rfl, rfl⟩
            refine AL_step rfl rfl (S_storeN 1 rfl (AEv.tmp rfl) (AEv.tmp rfl) rfl (by first | exact Nat.le_of_ble_eq_true rfl | (simp; omega) | simp) (by first | rfl | simp [AV.one, Value.oneCell']) (by kernel_rfl)) ?_
            rintro _ _ ⟨rfl, rfl⟩
            refine AL_step rfl rfl (S_storeN 0 rfl (AEv.tmp rfl) (AEv.tmp rfl) rfl (by first | exact Nat.le_of_ble_eq_true rfl | (simp; omega) | simp) (by first | rfl | simp [AV.one, Value.oneCell']) (by kernel_rfl)) ?_
            rintro _ _ ⟨rfl, rfl⟩
            refine AL_p rfl rfl (S_assign rfl (AEv.tmp rfl)) ?_
            refine AL_nil ?_
            refine AC_seq ?_
            refine AC_region ?_
            refine AL_p rfl rfl (S_loadN (m := 2) 1 rfl (AEv.tmp rfl) rfl (by kernel_rfl) (by first | exact Nat.le_of_ble_eq_true rfl | (simp; omega) | simp)) ?_
            refine AL_step rfl rfl (S_storeN 2 rfl (AEv.tmp rfl) (AEv.tmp rfl) rfl (by first | exact Nat.le_of_ble_eq_true rfl | (simp; omega) | simp) (by first | rfl | simp [AV.one, Value.oneCell']) (by kernel_rfl)) ?_
            rintro _ _ ⟨rfl, rfl⟩
            refine AL_nil ?_
            refine AC_seq ?_
            refine AC_region ?_
            refine AL_p rfl rfl (S_move rfl (AEv.tmp rfl)) ?_
            refine AL_step rfl rfl (S_call rfl (AEvs.cons (AEv.tmp rfl) AEvs.nil) (ACalls.pre (queue_Take_ok b1 p ql lost hp (by omega)) [_, _, _] st)) ?_
            rintro _ _ ⟨_, ⟨p2, hp2, rfl, rfl⟩, rfl⟩
            refine AL_p rfl rfl (S_move rfl (AEv.tmp rfl)) ?_
            refine AL_p rfl rfl (S_extract 0 rfl (AEv.tmp rfl) rfl) ?_
            refine AL_p rfl rfl (S_extract 1 rfl (AEv.tmp rfl) rfl) ?_
            refine AL_step rfl rfl (S_alloc (List.replicate 4 (.int .i64 0)) rfl (by kernel_rfl)) ?_
            rintro _ _ ⟨b14, rfl, rfl⟩
            refine AL_step rfl rfl (S_storeN 0 rfl (AEv.tmp rfl) (AEv.tmp rfl) rfl (by first | exact Nat.le_of_ble_eq_true rfl | (simp; omega) | simp) (by first | rfl | simp [AV.one, Value.oneCell']) (by kernel_rfl)) ?_
            rintro _ _ ⟨rfl, rfl⟩
            refine AL_p rfl rfl (S_assign rfl (AEv.tmp rfl)) ?_
            refine AL_nil ?_
            refine AC_seq ?_
            refine AC_region ?_
            refine AL_p rfl rfl (S_loadN (m := 4) 0 rfl (AEv.tmp rfl) rfl (by kernel_rfl) (by first | exact Nat.le_of_ble_eq_true rfl | (simp; omega) | simp)) ?_
            refine AL_p rfl rfl (S_loadN (m := 4) 1 rfl (AEv.tmp rfl) rfl (by kernel_rfl) (by first | exact Nat.le_of_ble_eq_true rfl | (simp; omega) | simp)) ?_
            refine AL_p rfl rfl (S_neqAgg rfl (AEv.tmp rfl) (AEv.tmp rfl) (by kernel_rfl) (EqAV.struct Try.underlying28 (by kernel_rfl) (EqFs.flat (by kernel_rfl) (by kernel_rfl) rfl rfl (EqAV.int (k' := .i64) (by kernel_rfl)) (EqFs.flat (by kernel_rfl) (by kernel_rfl) rfl rfl (EqAV.int (k' := .i64) (by kernel_rfl)) (EqFs.flat (by kernel_rfl) (by kernel_rfl) rfl rfl (EqAV.int (k' := .i64) (by kernel_rfl)) (EqFs.flat (by kernel_rfl) (by kernel_rfl) rfl rfl (EqAV.int (k' := .i64) (by kernel_rfl)) EqFs.nil)))))) ?_
            refine AL_p rfl rfl (S_move rfl (AEv.tmp rfl)) ?_
            refine AL_g rfl rfl (AEv.tmp rfl) rfl (fun hg15 => S_move rfl (AEv.tmp rfl)) ?_
            refine AL_g rfl rfl (AEv.tmp rfl) rfl (fun hg18 => S_move rfl (AEv.tmp rfl)) ?_
            refine AL_g rfl rfl (AEv.tmp rfl) rfl (fun hg21 => S_neB rfl (AEv.cond (AEv.tmp rfl) (by first | assumption | exact gdAnd (by assumption) (by assumption))) (AEv.cond (AEv.tmp rfl) (by first | assumption | exact gdAnd (by assumption) (by assumption))) (by kernel_rfl)) ?_
            refine AL_p rfl rfl (S_or rfl (AEv.tmp rfl) (fun hp24 => (AEv.cond (AEv.tmp rfl) (by first | assumption | exact gdT hp24 | exact gdF hp24 | exact gdAnd (by assumption) (gdT hp24) | exact gdAnd (by assumption) (gdF hp24))))) ?_
            refine AL_nil ?_
            refine AC_cond (AEv.tmp rfl) (fun hb25 => ?_) (fun hb25 => ?_)
            · exfalso; revert hb25; simp
            · try simp only [Bool.and_eq_true, Bool.or_eq_true, Bool.not_eq_true', Bool.not_eq_false', Bool.and_eq_false_iff, Bool.or_eq_false_iff, decide_eq_true_eq, decide_eq_false_iff_not, gd] at hb25
              refine AC_skip ?_
              exact ⟨⟨i, 0, p2, (takeQ ql).1, lost⟩, ⟨⟨hp2, takeQ_len hlen, hlo, hlost, hi, hk40⟩, rfl, rfl⟩, Sub.l (.cons _ (.cons _ (.cons _ (List.Sublist.refl _)))), (.cons rfl (Le.refl _) (.cons rfl (Le.refl _) (.cons rfl (Le.refl _) (.cons rfl (Le.refl _) (.cons rfl (Le.refl _) .nil)))))⟩
          · try simp only [Bool.and_eq_true, Bool.or_eq_true, Bool.not_eq_true', Bool.not_eq_false', Bool.and_eq_false_iff, Bool.or_eq_false_iff, decide_eq_true_eq, decide_eq_false_iff_not, gd] at hb11
            refine AC_skip ?_
            exact ⟨⟨i, 0, p, ql, lost⟩, ⟨⟨hp, hlen, hlo, hlost, hi, hk40⟩, rfl, rfl⟩, Sub.l (List.Sublist.refl _), (.cons rfl (Le.refl _) (.cons rfl (Le.refl _) (.cons rfl (Le.refl _) (.cons rfl (Le.refl _) (.cons rfl (Le.refl _) .nil)))))⟩
        · rintro ⟨i', k0, p, ql, lost⟩ ⟨hI, hi', hk0⟩
          try dsimp only
          dsimp only at hi' hk0
          subst hi' hk0
          clear hp hlen hlo hlost hk40
          dsimp only [PG.ok] at hI
          obtain ⟨hp, hlen, hlo, hlost, hi, hk40⟩ := hI
          try dsimp only at hp hlen hlo hlost hi hk40
          refine AC_seq ?_
          refine AC_seq ?_
          refine AC_region ?_
          refine AL_p rfl rfl (S_assign rfl (AEv.const _)) ?_
          refine AL_nil ?_
          refine AC_block ?_
          refine AC_loopS (G := PG) (fun g => g.ok ∧ g.i = i') (fun g => [(0, .sl (notesL l)), (1, .int .i64 rep), (5, .ptr b1 0), (6, .ptr b2 0), (7, .int .i64 (g.i : Int)), (13, .int .i64 (g.k : Int))]) (fun g => ((b2, .cells [.sl (notesL g.ql), .int .i64 g.lost]) :: (((b1, .cells [ownAV g.p 4 (notesL g.ql), .int .i64 g.lost]) :: ownSt g.p 28 4 (notesL g.ql)) ++ st))) (fun g => 40 - g.k) (⟨i', 0, p, ql, lost⟩) (⟨⟨hp, hlen, hlo, by dsimp only; omega, by dsimp only; omega, by simp⟩, rfl⟩) (Sub.l (List.Sublist.refl _)) ?_ ?_
          · exact (.cons rfl (Le.refl _) (.cons rfl (Le.refl _) (.cons rfl (Le.refl _) (.cons rfl (Le.refl _) (.cons rfl (Le.refl _) (.cons rfl (Le.refl _) .nil))))))
          · rintro ⟨i', k, p, ql, lost⟩ ⟨hI, hi'⟩
            try dsimp only
            dsimp only at hi'
            subst hi'
            clear hp hlen hlo hlost hk40
            dsimp only [PG.ok] at hI
            obtain ⟨hp, hlen, hlo, hlost, hi, hk40⟩ := hI
            try dsimp only at hp hlen hlo hlost hi hk40
            refine AC_seq ?_
            refine AC_seq ?_
            refine AC_region ?_
            refine AL_p rfl rfl (S_move rfl (AEv.tmp rfl)) ?_
            refine AL_p rfl rfl (S_move rfl (AEv.tmp rfl)) ?_
            refine AL_p rfl rfl (S_elem (e := 28) (c := noteAV (l[i']'hil)) (i := (i' : Int)) 4 rfl (AEv.tmp rfl) (AEv.tmp rfl) (by kernel_rfl) (by kernel_rfl) (by omega) (by simp [notesL, hil]) rfl) ?_
            refine AL_p rfl rfl (S_fieldP 0 rfl (AEv.tmp rfl) (by kernel_rfl)) ?_
            refine AL_p rfl rfl (S_loadP rfl (AEv.tmp rfl) rfl (by kernel_rfl)) ?_
            refine AL_p rfl rfl (S_geq rfl (AEv.tmp rfl) (AEv.const _)) ?_
            refine AL_p rfl rfl (S_move rfl (AEv.tmp rfl)) ?_
            refine AL_g rfl rfl (AEv.tmp rfl) rfl (fun hg26 => S_move rfl (AEv.tmp rfl)) ?_
            refine AL_g rfl rfl (AEv.tmp rfl) rfl (fun hg29 => S_eql rfl (AEv.cond (AEv.tmp rfl) (by first | assumption | exact gdAnd (by assumption) (by assumption))) (AEv.const _)) ?_
            refine AL_g rfl rfl (AEv.tmp rfl) rfl (fun hg32 => S_move rfl (AEv.cond (AEv.tmp rfl) (by first | assumption | exact gdAnd (by assumption) (by assumption)))) ?_
            refine AL_gg rfl rfl (AEv.tmp rfl) rfl (fun hg35 hg36 hg37 => S_move rfl (AEv.tmp rfl)) ?_
            refine AL_gg rfl rfl (AEv.tmp rfl) rfl (fun hg38 hg39 hg40 => S_move rfl (AEv.tmp rfl)) ?_
            refine AL_gg rfl rfl (AEv.tmp rfl) rfl (fun hg41 hg42 hg43 => S_lss rfl (AEv.cond (AEv.tmp rfl) (by first | assumption | exact gdAnd (by assumption) (by assumption))) (AEv.cond (AEv.tmp rfl) (by first | assumption | exact gdAnd (by assumption) (by assumption)))) ?_
            refine AL_gg rfl rfl (AEv.tmp rfl) rfl (fun hg44 hg45 hg46 => S_move rfl (AEv.cond (AEv.tmp rfl) (by first | assumption | exact gdAnd (by assumption) (by assumption)))) ?_
            refine AL_gg rfl rfl (AEv.tmp rfl) rfl (fun hg47 hg48 hg49 => S_move rfl (AEv.tmp rfl)) ?_
            refine AL_gg rfl rfl (AEv.tmp rfl) rfl (fun hg50 hg51 hg52 => S_lss rfl (AEv.cond (AEv.tmp rfl) (by first | assumption | exact gdAnd (by assumption) (by assumption))) (AEv.const _)) ?_
            refine AL_gg rfl rfl (AEv.tmp rfl) rfl (fun hg53 hg54 hg55 => S_and rfl (AEv.cond (AEv.tmp rfl) (by first | assumption | exact gdAnd (by assumption) (by assumption))) (fun hp56 => (AEv.cond (AEv.tmp rfl) (by first | assumption | exact gdT hp56 | exact gdF hp56 | exact gdAnd (by assumption) (gdT hp56) | exact gdAnd (by assumption) (gdF hp56))))) ?_
            refine AL_g rfl rfl (AEv.tmp rfl) rfl (fun hg57 => S_or rfl (AEv.cond (AEv.tmp rfl) (by first | assumption | exact gdAnd (by assumption) (by assumption))) (fun hp60 => (AEv.cond (AEv.tmp rfl) (by first | assumption | exact gdT hp60 | exact gdF hp60 | exact gdAnd (by assumption) (gdT hp60) | exact gdAnd (by assumption) (gdF hp60))))) ?_
            refine AL_p rfl rfl (S_and rfl (AEv.tmp rfl) (fun hp61 => (AEv.cond (AEv.tmp rfl) (by first | assumption | exact gdT hp61 | exact gdF hp61 | exact gdAnd (by assumption) (gdT hp61) | exact gdAnd (by assumption) (gdF hp61))))) ?_
            refine AL_nil ?_
            refine AC_cond (AEv.tmp rfl) (fun hb62 => ?_) (fun hb62 => ?_)
            · try simp only [Bool.and_eq_true, Bool.or_eq_true, Bool.not_eq_true', Bool.not_eq_false', Bool.and_eq_false_iff, Bool.or_eq_false_iff, decide_eq_true_eq, decide_eq_false_iff_not, gd] at hb62
              refine AC_skip ?_
              refine AC_seq ?_
              refine AC_block ?_
              refine AC_seq ?_
              refine AC_plan (σ := [(0, 0), (1, 0), (2, 0), (3, 0), (4, 0), (5, 0), (6, 0), (7, 0), (8, 0), (9, 3), (10, 1), (11, 0)]) (by kernel_rfl) _ (by kernel_rfl) (fun _ h => h) ?_
              have hlb : -1000000 ≤ lost ∧ lost ≤ 1000000 := by omega
              obtain ⟨hb1, hb2, hb3⟩ := putQ_bounds (lost := lost) (n := l[i']'hil) hlen
              refine AG.f rfl rfl (fun st' hst => Q_p rfl (S_loadNM (m := 2) rfl (AEv.tmp rfl) (hst _ (List.mem_of_getElem? (i := 0) rfl)) (by kernel_rfl) (by first | exact Nat.le_of_ble_eq_true rfl | (simp; omega) | simp))) ?_
              refine AG.f rfl rfl (fun st' hst => Q_p rfl (S_move rfl (AEv.tmp rfl))) ?_
              refine AG.f rfl rfl (fun st' hst => Q_p rfl (S_move rfl (AEv.tmp rfl))) ?_
              refine AG.f rfl rfl (fun st' hst => Q_p rfl (S_elem (e := 28) (c := noteAV (l[i']'hil)) (i := (i' : Int)) 4 rfl (AEv.tmp rfl) (AEv.tmp rfl) (by kernel_rfl) (by kernel_rfl) (by omega) (by simp [notesL, hil]) rfl)) ?_
              refine AG.f rfl rfl (fun st' hst => Q_p rfl (S_loadPN (m := 4) rfl (AEv.tmp rfl) (by kernel_rfl) (by first | exact Nat.le_of_ble_eq_true rfl | (simp; omega) | simp))) ?_
              refine AG.f rfl rfl (fun st' hst => Q_p rfl (S_pcall rfl (AEvs.cons (y := .agg [.sl (notesL ql), .int .i64 lost]) (AEv.tmp rfl) (AEvs.cons (y := noteAV (l[i']'hil)) (AEv.tmp rfl) AEvs.nil)) (ref23_Put_ok ql lost (l[i']'hil) hlen hlb))) ?_
              refine AG.f rfl rfl (fun st' hst => Q_p rfl (S_move rfl (AEv.tmp rfl))) ?_
              refine AG.f rfl rfl (fun st' hst => Q_p rfl (S_extract 0 rfl (AEv.tmp rfl) rfl)) ?_
              refine AG.f rfl rfl (fun st' hst => Q_p rfl (S_extract 1 rfl (AEv.tmp rfl) rfl)) ?_
              refine AG.al [(9, 14, [.slice none 0 0, .int .i64 0])] (by simp) (by simp) (AllocsAt.all (AllocsAt.cons rfl rfl rfl (by decide) rfl (by kernel_rfl) AllocsAt.nil)) (by simp) (fun β => ?_)
              simp only [allocEnv, allocSt, List.foldl_cons, List.foldl_nil, List.map_cons, List.map_nil, List.cons_append, List.nil_append]
              generalize β 14 = b63
              refine AG.s rfl rfl rfl (S_storeN 0 rfl (AEv.tmp rfl) (AEv.tmp rfl) rfl (by first | exact Nat.le_of_ble_eq_true rfl | (simp; omega) | simp) (by first | rfl | simp [AV.one, Value.oneCell']) (by kernel_rfl)) ?_ ?_
              · rintro _ _ ⟨rfl, rfl⟩ _ h; first | exact h | exact List.mem_cons_of_mem _ h | exact List.mem_cons_of_mem _ (List.mem_cons_of_mem _ h) | exact List.mem_cons_of_mem _ (List.mem_cons_of_mem _ (List.mem_cons_of_mem _ h))
              rintro _ _ ⟨rfl, rfl⟩
              refine AG.f rfl rfl (fun st' hst => Q_p rfl (S_assign rfl (AEv.tmp rfl))) ?_
              refine AG.nil ?_
              refine AC_seq ?_
              refine AC_region ?_
              refine AL_p rfl rfl (S_loadN (m := 2) 0 rfl (AEv.tmp rfl) rfl (by kernel_rfl) (by first | exact Nat.le_of_ble_eq_true rfl | (simp; omega) | simp)) ?_
              refine AL_step rfl rfl (S_storeN 1 rfl (AEv.tmp rfl) (AEv.tmp rfl) rfl (by first | exact Nat.le_of_ble_eq_true rfl | (simp; omega) | simp) (by first | rfl | simp [AV.one, Value.oneCell']) (by kernel_rfl)) ?_
              rintro _ _ ⟨rfl, rfl⟩
              refine AL_nil ?_
              refine AC_seq ?_
              refine AC_region ?_
              refine AL_p rfl rfl (S_move rfl (AEv.tmp rfl)) ?_
              refine AL_p rfl rfl (S_move rfl (AEv.tmp rfl)) ?_
              refine AL_p rfl rfl (S_move rfl (AEv.tmp rfl)) ?_
              refine AL_p rfl rfl (S_elem (e := 28) (c := noteAV (l[i']'hil)) (i := (i' : Int)) 4 rfl (AEv.tmp rfl) (AEv.tmp rfl) (by kernel_rfl) (by kernel_rfl) (by omega) (by simp [notesL, hil]) rfl) ?_
              refine AL_p rfl rfl (S_loadPN (m := 4) rfl (AEv.tmp rfl) (by kernel_rfl) (by first | exact Nat.le_of_ble_eq_true rfl | (simp; omega) | simp)) ?_
              refine AL_step rfl rfl (S_call rfl (AEvs.cons (AEv.tmp rfl) (AEvs.cons (y := noteAV (l[i']'hil)) (AEv.tmp rfl) AEvs.nil)) (ACalls.pre (queue_Put_ok b1 p ql lost (l[i']'hil) hp hlen hlb) [_, _] st)) ?_
              rintro _ _ ⟨_, ⟨p2, hp2, rfl, rfl⟩, rfl⟩
              refine AL_p rfl rfl (S_move rfl (AEv.tmp rfl)) ?_
              refine AL_p rfl rfl (S_neB rfl (AEv.tmp rfl) (AEv.tmp rfl) (by kernel_rfl)) ?_
              refine AL_nil ?_
              refine AC_cond (AEv.tmp rfl) (fun hb64 => ?_) (fun hb64 => ?_)
              · exfalso; revert hb64; simp
              · try simp only [Bool.and_eq_true, Bool.or_eq_true, Bool.not_eq_true', Bool.not_eq_false', Bool.and_eq_false_iff, Bool.or_eq_false_iff, decide_eq_true_eq, decide_eq_false_iff_not, gd] at hb64
                refine AC_skip ?_
                refine AC_region ?_
                refine AL_p rfl rfl (S_move rfl (AEv.tmp rfl)) ?_
                refine AL_p rfl rfl (S_addI rfl (AEv.tmp rfl) (AEv.const _) (by omega) (by omega)) ?_
                refine AL_p rfl rfl (S_assign rfl (AEv.tmp rfl)) ?_
                refine AL_nil ?_
                refine ⟨⟨i', k + 1, p2, (putQ ql lost (l[i']'hil)).1, (putQ ql lost (l[i']'hil)).2.1⟩, ⟨⟨hp2, hb1, by dsimp only; omega, by dsimp only; omega, hi, by dsimp only; omega⟩, rfl⟩, by dsimp only; omega, Sub.l (.cons _ (List.Sublist.refl _)), (.cons rfl (Le.refl _) (.cons rfl (Le.refl _) (.cons rfl (Le.refl _) (.cons rfl (Le.refl _) (.cons rfl (Le.refl _) (.cons rfl (Le.of_eq (by dsimp only; rw [Int.natCast_add]; rfl)) .nil))))))⟩
            · try simp only [Bool.and_eq_true, Bool.or_eq_true, Bool.not_eq_true', Bool.not_eq_false', Bool.and_eq_false_iff, Bool.or_eq_false_iff, decide_eq_true_eq, decide_eq_false_iff_not, gd] at hb62
              refine AC_exit ?_
              refine AC_seq ?_
              refine AC_draw (by kernel_rfl) (by kernel_rfl) (.cons rfl (Q_p rfl (S_move rfl (AEv.tmp rfl))) <|
                  .cons rfl (Q_p rfl (S_keep (S_call rfl (AEvs.cons (AEv.tmp rfl) AEvs.nil) (ACalls.pre (queue_Len_ok b1 p ql lost hp) [_] st)) (by rintro _ _ ⟨_, ⟨rfl, rfl⟩, rfl⟩; exact ⟨rfl, rfl⟩))) <|
                  .cons rfl (Q_p rfl (S_field 0 rfl (AEv.tmp rfl) (by kernel_rfl))) <|
                  .cons rfl (Q_p rfl (S_load 0 rfl (AEv.tmp rfl) rfl rfl (by kernel_rfl))) <|
                  .cons rfl (Q_p rfl (S_len (e := 28) rfl (AEv.tmp rfl) (by kernel_rfl))) <|
                  .cons rfl (Q_p rfl (S_neq rfl (AEv.tmp rfl) (AEv.tmp rfl))) <|
                  .cons rfl (Q_p rfl (S_move rfl (AEv.tmp rfl))) <|
                  .cons rfl (Q_g rfl rfl (AEv.tmp rfl) (fun hg65 => S_move rfl (AEv.tmp rfl))) <|
                  .cons rfl (Q_g rfl rfl (AEv.tmp rfl) (fun hg68 => S_keep (S_call rfl (AEvs.cons (AEv.cond (AEv.tmp rfl) (by first | assumption | exact gdAnd (by assumption) (by assumption))) AEvs.nil) (ACalls.pre (queue_Lost_ok b1 p ql lost hp) [_] st)) (by rintro _ _ ⟨_, ⟨rfl, rfl⟩, rfl⟩; exact ⟨rfl, rfl⟩))) <|
                  .cons rfl (Q_g rfl rfl (AEv.tmp rfl) (fun hg71 => S_field 1 rfl (AEv.tmp rfl) (by kernel_rfl))) <|
                  .cons rfl (Q_g rfl rfl (AEv.tmp rfl) (fun hg74 => S_load 0 rfl (AEv.cond (AEv.tmp rfl) (by first | assumption | exact gdAnd (by assumption) (by assumption))) rfl rfl (by kernel_rfl))) <|
                  .cons rfl (Q_g rfl rfl (AEv.tmp rfl) (fun hg77 => S_neq rfl (AEv.cond (AEv.tmp rfl) (by first | assumption | exact gdAnd (by assumption) (by assumption))) (AEv.cond (AEv.tmp rfl) (by first | assumption | exact gdAnd (by assumption) (by assumption))))) <|
                  .cons rfl (Q_p rfl (S_or rfl (AEv.tmp rfl) (fun hp80 => (AEv.cond (AEv.tmp rfl) (by first | assumption | exact gdT hp80 | exact gdF hp80 | exact gdAnd (by assumption) (gdT hp80) | exact gdAnd (by assumption) (gdF hp80)))))) <|
                  .cons rfl (Q_p rfl (S_move rfl (AEv.tmp rfl))) <|
                  .cons rfl (Q_g rfl rfl (AEv.tmp rfl) (fun hg81 => S_move rfl (AEv.tmp rfl))) <|
                  .cons rfl (Q_g rfl rfl (AEv.tmp rfl) (fun hg84 => S_move rfl (AEv.tmp rfl))) <|
                  .cons rfl (Q_g rfl rfl (AEv.tmp rfl) (fun hg87 => S_elem (e := 28) (c := noteAV (l[i']'hil)) (i := (i' : Int)) 4 rfl (AEv.cond (AEv.tmp rfl) (by first | assumption | exact gdAnd (by assumption) (by assumption))) (AEv.cond (AEv.tmp rfl) (by first | assumption | exact gdAnd (by assumption) (by assumption))) (by kernel_rfl) (by kernel_rfl) (by omega) (by simp [notesL, hil]) rfl)) <|
                  .cons rfl (Q_g rfl rfl (AEv.tmp rfl) (fun hg90 => S_loadPN (m := 4) rfl (AEv.cond (AEv.tmp rfl) (by first | assumption | exact gdAnd (by assumption) (by assumption))) (by kernel_rfl) (by first | exact Nat.le_of_ble_eq_true rfl | (simp; omega) | simp))) <|
                  .cons rfl (Q_g rfl rfl (AEv.tmp rfl) (fun hg93 => S_pcall rfl (AEvs.cons (y := noteAV (l[i']'hil)) (AEv.cond (AEv.tmp rfl) (by first | assumption | exact gdAnd (by assumption) (by assumption))) AEvs.nil) (note_Text_ok (l[i']'hil) (hl4 _ (List.getElem_mem _))))) <|
                  .cons rfl (Q_g rfl rfl (AEv.tmp rfl) (fun hg96 => S_move rfl (AEv.tmp rfl))) <|
                  .cons rfl (Q_g rfl rfl (AEv.tmp rfl) (fun hg99 => S_move rfl (AEv.tmp rfl))) <|
                  .cons rfl (Q_g rfl rfl (AEv.tmp rfl) (fun hg102 => S_elem (e := 28) (c := noteAV (l[i']'hil)) (i := (i' : Int)) 4 rfl (AEv.cond (AEv.tmp rfl) (by first | assumption | exact gdAnd (by assumption) (by assumption))) (AEv.cond (AEv.tmp rfl) (by first | assumption | exact gdAnd (by assumption) (by assumption))) (by kernel_rfl) (by kernel_rfl) (by omega) (by simp [notesL, hil]) rfl)) <|
                  .cons rfl (Q_g rfl rfl (AEv.tmp rfl) (fun hg105 => S_loadPN (m := 4) rfl (AEv.cond (AEv.tmp rfl) (by first | assumption | exact gdAnd (by assumption) (by assumption))) (by kernel_rfl) (by first | exact Nat.le_of_ble_eq_true rfl | (simp; omega) | simp))) <|
                  .cons rfl (Q_g rfl rfl (AEv.tmp rfl) (fun hg108 => S_pcall rfl (AEvs.cons (y := noteAV (l[i']'hil)) (AEv.cond (AEv.tmp rfl) (by first | assumption | exact gdAnd (by assumption) (by assumption))) AEvs.nil) (ref23_Text_ok (l[i']'hil) (hl4 _ (List.getElem_mem _))))) <|
                  .cons rfl (Q_g rfl rfl (AEv.tmp rfl) (fun hg111 => S_neS rfl (AEv.cond (AEv.tmp rfl) (by first | assumption | exact gdAnd (by assumption) (by assumption))) (AEv.cond (AEv.tmp rfl) (by first | assumption | exact gdAnd (by assumption) (by assumption))))) <|
                  .cons rfl (Q_p rfl (S_or rfl (AEv.tmp rfl) (fun hp114 => (AEv.cond (AEv.tmp rfl) (by first | assumption | exact gdT hp114 | exact gdF hp114 | exact gdAnd (by assumption) (gdT hp114) | exact gdAnd (by assumption) (gdF hp114)))))) <|
                  .nil) ?_
              refine AC_cond (AEv.tmp rfl) (fun hb115 => ?_) (fun hb115 => ?_)
              · exfalso; revert hb115; rw [notesL_len]; simp
              · try simp only [Bool.and_eq_true, Bool.or_eq_true, Bool.not_eq_true', Bool.not_eq_false', Bool.and_eq_false_iff, Bool.or_eq_false_iff, decide_eq_true_eq, decide_eq_false_iff_not, gd] at hb115
                refine AC_skip ?_
                refine AC_region ?_
                refine AL_p rfl rfl (S_move rfl (AEv.tmp rfl)) ?_
                refine AL_p rfl rfl (S_addI rfl (AEv.tmp rfl) (AEv.const _) (by omega) (by omega)) ?_
                refine AL_p rfl rfl (S_assign rfl (AEv.tmp rfl)) ?_
                refine AL_nil ?_
                refine ⟨⟨i' + 1, 0, p, ql, lost⟩, ⟨⟨hp, hlen, hlo, by dsimp only; omega, by dsimp only; omega, by simp⟩, rfl⟩, by dsimp only; omega, Sub.l (List.Sublist.refl _), (.cons rfl (Le.refl _) (.cons rfl (Le.refl _) (.cons rfl (Le.refl _) (.cons rfl (Le.refl _) (.cons rfl (Le.of_eq (by dsimp only; rw [Int.natCast_add]; rfl)) .nil)))))⟩
      · try simp only [Bool.and_eq_true, Bool.or_eq_true, Bool.not_eq_true', Bool.not_eq_false', Bool.and_eq_false_iff, Bool.or_eq_false_iff, decide_eq_true_eq, decide_eq_false_iff_not, gd] at hb10
        refine AC_exit ?_
        refine AC_seq ?_
        refine AC_region ?_
        refine AL_p rfl rfl (S_move rfl (AEv.tmp rfl)) ?_
        refine AL_step rfl rfl (S_call rfl (AEvs.cons (AEv.tmp rfl) AEvs.nil) (ACalls.pre (queue_All_okV b1 p ql lost hp (by omega)) [_] st)) ?_
        rintro _ _ ⟨_, ⟨q2, hq2, rfl, rfl⟩, rfl⟩
        refine AL_p rfl rfl (S_assign rfl (AEv.tmp rfl)) ?_
        refine AL_nil ?_
        refine AC_seq ?_
        refine AC_region ?_
        refine AL_p rfl rfl (S_move rfl (AEv.tmp rfl)) ?_
        refine AL_p rfl rfl (S_field 0 rfl (AEv.tmp rfl) (by kernel_rfl)) ?_
        refine AL_p rfl rfl (S_load 0 rfl (AEv.tmp rfl) rfl rfl (by kernel_rfl)) ?_
        refine AL_p rfl rfl (S_pcallB rfl (AEvs.cons (AEv.tmp rfl) (AEvs.cons (AEv.tmp rfl) AEvs.nil)) (Lends.cons (Conv.vec Sub.nil hq2 notesL_cells (fun x hx => by simp [hx]) (by simp)) (Lends.cons (Conv.refl Sub.nil _) Lends.nil)) (same_ok ql (by omega))) ?_
        refine AL_p rfl rfl (S_assign rfl (AEv.tmp rfl)) ?_
        refine AL_nil ?_
        refine AC_seq ?_
        refine AC_seq ?_
        refine AC_region ?_
        refine AL_p rfl rfl (S_move rfl (AEv.tmp rfl)) ?_
        refine AL_p rfl rfl (S_lenV (e := 28) hq2 rfl (AEv.tmp rfl) (by kernel_rfl)) ?_
        refine AL_p rfl rfl (S_move rfl (AEv.const _)) ?_
        refine AL_nil ?_
        refine AC_block ?_
        refine AC_loopS (G := Nat × List AV) (fun g => g.1 ≤ (notesL ql).length ∧ (∀ b c, q2 = .at b c → (notesL ql).length * 4 ≤ g.2.length)) (fun g => [(5, .ptr b1 0), (6, .ptr b2 0), (16, .lit (vecV q2 (notesL ql).length)), (17, .bool true), (131, .int .i64 ((notesL ql).length : Int)), (132, .int .i64 (g.1 : Int))]) (fun g => ((b2, .cells [.sl (notesL ql), .int .i64 lost]) :: ((vecStC q2 g.2 ++ ((b1, .cells [ownAV p 4 (notesL ql), .int .i64 lost]) :: ownSt p 28 4 (notesL ql))) ++ st))) (fun g => (notesL ql).length - g.1) ((0, vecC q2 4 (notesL ql))) (⟨by simp, by rintro b c rfl; exact vecCells_len notesL_cells⟩) (Sub.l (by (try dsimp only); rw [vecStC_vecC]; exact List.Sublist.refl _)) ?_ ?_
        · exact .cons rfl (Le.refl _) (.cons rfl (Le.refl _) (.cons rfl (Le.refl _) (.cons rfl (Le.refl _) (.cons rfl (Le.refl _) (.cons rfl (Le.refl _) .nil)))))
        · rintro ⟨j, cs⟩ ⟨hj, hcs⟩
          try dsimp only
          dsimp only at hj hcs
          refine AC_seq ?_
          refine AC_region ?_
          refine AL_p rfl rfl (S_lss rfl (AEv.tmp rfl) (AEv.tmp rfl)) ?_
          refine AL_nil ?_
          refine AC_seq ?_
          refine AC_cond (AEv.tmp rfl) (fun hb116 => ?_) (fun hb116 => ?_)
          · try simp only [Bool.and_eq_true, Bool.or_eq_true, Bool.not_eq_true', Bool.not_eq_false', Bool.and_eq_false_iff, Bool.or_eq_false_iff, decide_eq_true_eq, decide_eq_false_iff_not, gd] at hb116
            obtain ⟨bv, cv, rfl, hcv⟩ := Vec.at_of hq2 (fun h => by rw [h] at hb116; simp at hb116; omega)
            have hcs' := hcs bv cv rfl
            have hqn := notesL_len ql
            refine AC_skip ?_
            refine AC_seq ?_
            refine AC_block ?_
            refine AC_seq ?_
            refine AC_region ?_
            refine AL_p rfl rfl (S_move rfl (AEv.tmp rfl)) ?_
            refine AL_p rfl rfl (S_assign rfl (AEv.tmp rfl)) ?_
            refine AL_nil ?_
            refine AC_region ?_
            refine AL_p rfl rfl (S_move rfl (AEv.tmp rfl)) ?_
            refine AL_p rfl rfl (S_move rfl (AEv.tmp rfl)) ?_
            refine AL_p rfl rfl (S_build (pl := [(0, 1), (1, 1), (2, 1), (3, 1)]) (zs := [.int .i64 0, .int .i64 0, .int .i64 0, .int .i64 0]) rfl AEvs.nil (by kernel_rfl) rfl) ?_
            refine AL_p rfl rfl (S_elemO (e := 28) 4 rfl (AEv.tmp rfl) (AEv.tmp rfl) (by kernel_rfl) (by kernel_rfl) (by omega) (by omega)) ?_
            refine AL_step rfl rfl (S_storeN 1 rfl (AEv.tmp rfl) (AEv.tmp rfl) rfl (by rw [Int.toNat_natCast]; show 0 + j * 4 + 4 ≤ cs.length; omega) (by first | rfl | simp [AV.one, Value.oneCell']) (by kernel_rfl)) ?_
            rintro _ _ ⟨rfl, rfl⟩
            refine AL_nil ?_
            refine AC_region ?_
            refine AL_p rfl rfl (S_addI rfl (AEv.tmp rfl) (AEv.const _) (by omega) (by omega)) ?_
            refine AL_p rfl rfl (S_move rfl (AEv.tmp rfl)) ?_
            refine AL_nil ?_
            refine ⟨(j + 1, putAt cs (0 + (j : Int).toNat * 4) _), ⟨by dsimp only; omega, fun b c h => by rw [putAt_len (by rw [Int.toNat_natCast]; show 0 + j * 4 + 4 ≤ cs.length; omega)]; exact hcs b c h⟩, by dsimp only; omega, Sub.l (List.Sublist.refl _), .cons rfl (Le.refl _) (.cons rfl (Le.refl _) (.cons rfl (Le.refl _) (.cons rfl (Le.refl _) (.cons rfl (Le.refl _) (.cons rfl (Le.of_eq (by dsimp only; rw [Int.natCast_add]; rfl)) .nil)))))⟩
          · try simp only [Bool.and_eq_true, Bool.or_eq_true, Bool.not_eq_true', Bool.not_eq_false', Bool.and_eq_false_iff, Bool.or_eq_false_iff, decide_eq_true_eq, decide_eq_false_iff_not, gd] at hb116
            refine AC_exit ?_
            refine AC_seq ?_
            refine AC_sub (st1 := ((b2, .cells [.sl (notesL ql), .int .i64 lost]) :: (((b1, .cells [ownAV p 4 (notesL ql), .int .i64 lost]) :: ownSt p 28 4 (notesL ql)) ++ st))) (Sub.l (.cons_cons _ (List.Sublist.append (List.sublist_append_right _ _) (List.Sublist.refl _)))) ?_
            refine AC_draw (by kernel_rfl) (by kernel_rfl) (.cons rfl (Q_p rfl (S_move rfl (AEv.tmp rfl))) <|
                .cons rfl (Q_p rfl (S_move rfl (AEv.tmp rfl))) <|
                .cons rfl (Q_g rfl rfl (AEv.tmp rfl) (fun hg117 => S_move rfl (AEv.tmp rfl))) <|
                .cons rfl (Q_g rfl rfl (AEv.tmp rfl) (fun hg120 => S_keepC (S_call rfl (AEvs.cons (AEv.cond (AEv.tmp rfl) (by first | assumption | exact gdAnd (by assumption) (by assumption))) AEvs.nil) (ACalls.pre (queue_All_ok b1 p ql lost hp (by omega)) [_] st)) (by rintro _ _ ⟨_, ⟨p9, hp9, rfl, rfl⟩, rfl⟩; have hs : ∀ (A B C : St) (x : Nat × Ob), Sub (x :: (A ++ C)) ([x] ++ ((B ++ A) ++ C)) := fun A B C x => (by show Sub (x :: (A ++ C)) (x :: ((B ++ A) ++ C)); exact Sub.l (.cons_cons _ (List.Sublist.append (List.sublist_append_right _ _) (List.Sublist.refl _)))); exact ⟨hs _ _ _ _, Conv.le (hs _ _ _ _) (Le_own hp9)⟩))) <|
                .cons rfl (Q_g rfl rfl (AEv.tmp rfl) (fun hg123 => S_field 0 rfl (AEv.tmp rfl) (by kernel_rfl))) <|
                .cons rfl (Q_g rfl rfl (AEv.tmp rfl) (fun hg126 => S_load 0 rfl (AEv.cond (AEv.tmp rfl) (by first | assumption | exact gdAnd (by assumption) (by assumption))) rfl rfl (by kernel_rfl))) <|
                .cons rfl (Q_g rfl rfl (AEv.tmp rfl) (fun hg129 => S_pcall rfl (AEvs.cons (AEv.cond (AEv.tmp rfl) (by first | assumption | exact gdAnd (by assumption) (by assumption))) (AEvs.cons (AEv.cond (AEv.tmp rfl) (by first | assumption | exact gdAnd (by assumption) (by assumption))) AEvs.nil)) (same_ok ql (by omega)))) <|
                .cons rfl (Q_p rfl (S_and rfl (AEv.tmp rfl) (fun hp132 => (AEv.cond (AEv.tmp rfl) (by first | assumption | exact gdT hp132 | exact gdF hp132 | exact gdAnd (by assumption) (gdT hp132) | exact gdAnd (by assumption) (gdF hp132)))))) <|
                .cons rfl (Q_p rfl (S_move rfl (AEv.tmp rfl))) <|
                .cons rfl (Q_g rfl rfl (AEv.tmp rfl) (fun hg133 => S_pcall rfl AEvs.nil (law_works))) <|
                .cons rfl (Q_p rfl (S_and rfl (AEv.tmp rfl) (fun hp136 => (AEv.cond (AEv.tmp rfl) (by first | assumption | exact gdT hp136 | exact gdF hp136 | exact gdAnd (by assumption) (gdT hp136) | exact gdAnd (by assumption) (gdF hp136)))))) <|
                .cons rfl (Q_p rfl (S_assign rfl (AEv.tmp rfl))) <|
                .nil) ?_
            refine AC_ret ?_
            refine ret_tmp st rfl rfl (Sub.l (.cons _ (List.sublist_append_right _ _))) (Conv.refl (Sub.l (.cons _ (List.sublist_append_right _ _))) _) ⟨rfl, rfl⟩ (.inl rfl)

end Go.Proofs.Ytimlhgooibhkbaa
