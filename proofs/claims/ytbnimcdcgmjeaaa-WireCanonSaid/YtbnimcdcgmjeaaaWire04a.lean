/-
The walks of Go functions in the logic AL: what each of them answers.
Conditions: those of each theorem.
-/
import Derived.Test.YtbnimcdcgmjeaaaProg
import Derived.Test.YtbnimcdcgmjeaaaWireLem
set_option linter.unusedVariables false
set_option linter.unusedSimpArgs false
namespace Go.Proofs.Ytbnimcdcgmjeaaa
open Go.AL Go.NumSpec

set_option maxRecDepth 100000 in
/-- provost/num.Put -/
theorem num_Put_ok (n : Nat) (h : n < 18446744073709551616) : PCalls Try.prog 25 [.int .u64 n] (.S (putL n)) := by
  intro st
  refine ACalls_of (N := 25) Try.func25 (by kernel_rfl) rfl rfl rfl ?_
  refine AC_seq ?_
  refine AC_region ?_
  refine AL_p rfl rfl (S_assign rfl (AEv.S _)) ?_
  refine AL_nil ?_
  refine AC_seq ?_
  refine AC_region ?_
  refine AL_step rfl rfl (S_alloc (List.replicate 10 (.int .u8 0)) rfl (by kernel_rfl)) ?_
  rintro _ _ ⟨b1, rfl, rfl⟩
  refine AL_nil ?_
  refine AC_seq ?_
  refine AC_region ?_
  refine AL_p rfl rfl (S_assign rfl (AEv.const _)) ?_
  refine AL_nil ?_
  refine AC_seq ?_
  refine AC_block ?_
  refine AC_loop (G := Nat × List UInt8) (PutInv n) (fun g => [(0, .int .u64 g.1), (3, .ptr b1 0), (4, .int .i64 g.2.length)]) (fun g => (b1, .cells (pad g.2 10)) :: st) (fun g => g.1) ((n, [])) (⟨rfl, by simpa using h, by simp⟩) rfl ?_ ?_
  · exact (.cons rfl (by first | exact Le.refl _ | exact Le.nils | exact Le.row _ _ _ _ | (exact Le.of_eq (by simp))) (.cons rfl (by first | exact Le.refl _ | exact Le.nils | exact Le.row _ _ _ _ | (exact Le.of_eq (by simp))) (.cons rfl (by first | exact Le.refl _ | exact Le.nils | exact Le.row _ _ _ _ | (exact Le.of_eq (by simp))) .nil)))
  · rintro ⟨m, l⟩ hI
    try dsimp only
    have h3 := hI.le
    have h2 := hI.lt
    dsimp only at h3 h2
    refine AC_seq ?_
    refine AC_seq ?_
    refine AC_region ?_
    refine AL_p rfl rfl (S_move rfl (AEv.tmp rfl)) ?_
    refine AL_p rfl rfl (S_geq rfl (AEv.tmp rfl) (AEv.const _)) ?_
    refine AL_nil ?_
    refine AC_cond (AEv.tmp rfl) (fun hb2 => ?_) (fun hb2 => ?_)
    · try simp only [Bool.and_eq_true, Bool.or_eq_true, Bool.not_eq_true', Bool.not_eq_false', Bool.and_eq_false_iff, Bool.or_eq_false_iff, decide_eq_true_eq, decide_eq_false_iff_not, gd] at hb2
      have hm : 128 ≤ m := by omega
      have hI' := put_next hI hm
      have h5 := hI'.le
      simp only [List.length_append, List.length_cons, List.length_nil] at h5
      have hN : m ≤ 18446744073709551615 := by
        have h6 : m * 1 ≤ m * 128 ^ l.length := Nat.mul_le_mul_left m (pow128 _)
        omega
      refine AC_skip ?_
      refine AC_seq ?_
      refine AC_block ?_
      refine AC_seq ?_
      refine AC_region ?_
      refine AL_p rfl rfl (S_move rfl (AEv.tmp rfl)) ?_
      refine AL_p rfl rfl (S_move rfl (AEv.tmp rfl)) ?_
      refine AL_p rfl rfl (S_remN (n := 128) rfl (AEv.tmp rfl) (AEv.const _) (by omega)) ?_
      refine AL_p rfl rfl (S_conv (k' := .u8) rfl (AEv.tmp rfl) (by kernel_rfl) (by kernel_rfl)) ?_
      refine AL_p rfl rfl (S_add rfl (AEv.tmp rfl) (AEv.const _)) ?_
      refine AL_p rfl rfl (S_elemA (e := 5) (len := 10) 1 rfl (AEv.tmp rfl) (AEv.tmp rfl) (by kernel_rfl) (by kernel_rfl) (by omega) (by omega)) ?_
      refine AL_step rfl rfl (S_store 0 rfl (AEv.tmp rfl) (AEv.tmp rfl) rfl (by rw [pad_len (by omega)]; omega) rfl (by kernel_rfl)) ?_
      rintro _ _ ⟨rfl, rfl⟩
      refine AL_nil ?_
      refine AC_region ?_
      refine AL_p rfl rfl (S_move rfl (AEv.tmp rfl)) ?_
      refine AL_p rfl rfl (S_quoN (n := 128) (.inl rfl) rfl (AEv.tmp rfl) (AEv.const _) (by omega) (.inr ⟨rfl, hN⟩)) ?_
      refine AL_p rfl rfl (S_assign rfl (AEv.tmp rfl)) ?_
      refine AL_nil ?_
      refine AC_region ?_
      refine AL_p rfl rfl (S_move rfl (AEv.tmp rfl)) ?_
      refine AL_p rfl rfl (S_addI rfl (AEv.tmp rfl) (AEv.const _) (by omega) (by omega)) ?_
      refine AL_p rfl rfl (S_assign rfl (AEv.tmp rfl)) ?_
      refine AL_nil ?_
      refine ⟨_, hI', by show m / 128 < m; omega, ?_, (.cons rfl (by first | exact Le.refl _ | exact Le.nils | exact Le.row _ _ _ _ | (exact Le.of_eq (by simp))) (.cons rfl (by first | exact Le.refl _ | exact Le.nils | exact Le.row _ _ _ _ | (exact Le.of_eq (by simp))) (.cons rfl (by first | exact Le.refl _ | exact Le.nils | exact Le.row _ _ _ _ | (exact Le.of_eq (by simp))) .nil)))⟩
      show (b1, Ob.cells _) :: st = _
      rw [pad_set (c := UInt8.ofNat (m % 128 + 128)) (by rw [wrap_u8 (n := ((m % 128 : Nat) : Int)) (by omega) (by omega), wrap_u8 (by omega) (by omega)]; simp; omega) h3]
    · try simp only [Bool.and_eq_true, Bool.or_eq_true, Bool.not_eq_true', Bool.not_eq_false', Bool.and_eq_false_iff, Bool.or_eq_false_iff, decide_eq_true_eq, decide_eq_false_iff_not, gd] at hb2
      have hm : m < 128 := by omega
      refine AC_exit ?_
      refine AC_seq ?_
      refine AC_region ?_
      refine AL_p rfl rfl (S_move rfl (AEv.tmp rfl)) ?_
      refine AL_p rfl rfl (S_move rfl (AEv.tmp rfl)) ?_
      refine AL_p rfl rfl (S_conv (k' := .u8) rfl (AEv.tmp rfl) (by kernel_rfl) (by kernel_rfl)) ?_
      refine AL_p rfl rfl (S_elemA (e := 5) (len := 10) 1 rfl (AEv.tmp rfl) (AEv.tmp rfl) (by kernel_rfl) (by kernel_rfl) (by omega) (by omega)) ?_
      refine AL_step rfl rfl (S_store 0 rfl (AEv.tmp rfl) (AEv.tmp rfl) rfl (by rw [pad_len (by omega)]; omega) rfl (by kernel_rfl)) ?_
      rintro _ _ ⟨rfl, rfl⟩
      refine AL_nil ?_
      refine AC_seq ?_
      refine AC_region ?_
      rw [pad_set (c := UInt8.ofNat m) (by rw [wrap_u8 (by omega) (by omega)]; simp; omega) h3]
      refine AL_p rfl rfl (S_move rfl (AEv.tmp rfl)) ?_
      refine AL_p rfl rfl (S_addI rfl (AEv.tmp rfl) (AEv.const _) (by omega) (by omega)) ?_
      refine AL_p rfl rfl (S_cutA (e := 5) (len := 10) (i := 0) (j := l.length + 1) 1 rfl (AEv.tmp rfl) rfl ⟨_, AEv.tmp rfl⟩ (by kernel_rfl) (by kernel_rfl) (by omega) (by omega) (by omega)) ?_
      refine AL_p rfl rfl (S_bytes (e := 5) (l := l ++ [UInt8.ofNat m]) 0 rfl (AEv.tmp rfl) rfl (by rw [← pad_take (l := l ++ [UInt8.ofNat m])]; simp) (by simp) (by kernel_rfl) (by kernel_rfl) (by kernel_rfl)) ?_
      refine AL_p rfl rfl (S_assign rfl (AEv.tmp rfl)) ?_
      refine AL_nil ?_
      refine AC_ret ?_
      refine ret_tmp st rfl rfl (Sub.l (List.Sublist.cons _ (List.Sublist.refl _))) (Conv.refl (Sub.l (List.Sublist.cons _ (List.Sublist.refl _))) _) ⟨by rw [← hI.eq]; dsimp only; rw [putL, if_pos hm], rfl⟩ (.inl rfl)

set_option maxRecDepth 100000 in
/-- provost/provostref01.Put -/
theorem ref_Put_ok (n : Nat) (h : n < 18446744073709551616) : PCalls Try.prog 9 [.int .u64 n] (.S (putL n)) := by
  revert h
  induction n using Nat.strongRecOn with
  | _ n ih =>
    intro h
    intro st
    refine ACalls_of (N := 19) Try.func9 (by kernel_rfl) rfl rfl rfl ?_
    refine AC_seq ?_
    refine AC_region ?_
    refine AL_p rfl rfl (S_assign rfl (AEv.S _)) ?_
    refine AL_nil ?_
    refine AC_seq ?_
    refine AC_seq ?_
    refine AC_region ?_
    refine AL_p rfl rfl (S_move rfl (AEv.tmp rfl)) ?_
    refine AL_p rfl rfl (S_lss rfl (AEv.tmp rfl) (AEv.const _)) ?_
    refine AL_nil ?_
    refine AC_cond (AEv.tmp rfl) (fun hb1 => ?_) (fun hb1 => ?_)
    · try simp only [Bool.and_eq_true, Bool.or_eq_true, Bool.not_eq_true', Bool.not_eq_false', Bool.and_eq_false_iff, Bool.or_eq_false_iff, decide_eq_true_eq, decide_eq_false_iff_not, gd] at hb1
      refine AC_seq ?_
      refine AC_region ?_
      refine AL_p rfl rfl (S_move rfl (AEv.tmp rfl)) ?_
      refine AL_p rfl rfl (S_conv (k' := .u8) rfl (AEv.tmp rfl) (by kernel_rfl) (by kernel_rfl)) ?_
      refine AL_p rfl rfl (S_buildSlice (e := 5) 1 rfl (AEvs.cons (AEv.tmp rfl) AEvs.nil) rfl (by kernel_rfl) (by kernel_rfl) (by simp [AV.flat, AV.one, AV.cells, Value.oneCell']) (by decide) (by decide) (by decide)) ?_
      refine AL_p rfl rfl (S_bytesSl (e := 5) [UInt8.ofNat n] rfl (AEv.tmp rfl) (by simp [bytesAV]; rw [wrap_u8 (by omega) (by omega)]; omega) (by kernel_rfl) (by kernel_rfl) (by kernel_rfl)) ?_
      refine AL_p rfl rfl (S_assign rfl (AEv.tmp rfl)) ?_
      refine AL_nil ?_
      refine AC_ret ?_
      refine ret_tmp st rfl rfl (Sub.l (List.Sublist.refl _)) (Conv.refl (Sub.l (List.Sublist.refl _)) _) ⟨by rw [putL_small (by omega)], rfl⟩ (.inl rfl)
    · try simp only [Bool.and_eq_true, Bool.or_eq_true, Bool.not_eq_true', Bool.not_eq_false', Bool.and_eq_false_iff, Bool.or_eq_false_iff, decide_eq_true_eq, decide_eq_false_iff_not, gd] at hb1
      refine AC_skip ?_
      refine AC_seq ?_
      refine AC_draw (by kernel_rfl) (by kernel_rfl) (.cons rfl (Q_p rfl (S_move rfl (AEv.tmp rfl))) <|
          .cons rfl (Q_p rfl (S_remN (n := 128) rfl (AEv.tmp rfl) (AEv.const _) (by omega))) <|
          .cons rfl (Q_p rfl (S_add rfl (AEv.tmp rfl) (AEv.const _))) <|
          .cons rfl (Q_p rfl (S_conv (k' := .u8) rfl (AEv.tmp rfl) (by kernel_rfl) (by kernel_rfl))) <|
          .cons rfl (Q_p rfl (S_buildSlice (e := 5) 1 rfl (AEvs.cons (AEv.tmp rfl) AEvs.nil) rfl (by kernel_rfl) (by kernel_rfl) (by simp [AV.flat, AV.one, AV.cells, Value.oneCell']) (by decide) (by decide) (by decide))) <|
          .cons rfl (Q_p rfl (S_bytesSl (e := 5) [UInt8.ofNat (n % 128 + 128)] rfl (AEv.tmp rfl) (by simp [bytesAV]; rw [wrap_u64 (by omega) (by omega), wrap_u8 (by omega) (by omega)]; omega) (by kernel_rfl) (by kernel_rfl) (by kernel_rfl))) <|
          .cons rfl (Q_p rfl (S_move rfl (AEv.tmp rfl))) <|
          .cons rfl (Q_p rfl (S_quoN (n := 128) (.inl rfl) rfl (AEv.tmp rfl) (AEv.const _) (by omega) (.inr ⟨rfl, by omega⟩))) <|
          .cons rfl (Q_p rfl (S_pcall rfl (AEvs.cons (AEv.tmp rfl) AEvs.nil) (ih (n / 128) (by omega) (by omega)))) <|
          .cons rfl (Q_p rfl (S_cat rfl (AEv.tmp rfl) (AEv.tmp rfl) (by have := putL_few (n / 128) (by omega); simp; omega))) <|
          .cons rfl (Q_p rfl (S_assign rfl (AEv.tmp rfl))) <|
          .nil) ?_
      refine AC_ret ?_
      refine ret_tmp st rfl rfl (Sub.l (List.Sublist.refl _)) (Conv.refl (Sub.l (List.Sublist.refl _)) _) ⟨by rw [putL_big (n := n) (by omega)]; rfl, rfl⟩ (.inl rfl)

set_option maxRecDepth 100000 in
/-- provost/num.Take -/
theorem num_Take_ok (l : List UInt8) : PCalls Try.prog 28 [.S l] (takeAV (takeV l)) := by
  intro st
  refine ACalls_of (N := 45) Try.func28 (by kernel_rfl) rfl rfl rfl ?_
  refine AC_seq ?_
  refine AC_region ?_
  refine AL_p rfl rfl (S_assign rfl (AEv.const _)) ?_
  refine AL_p rfl rfl (S_assign rfl (AEv.const _)) ?_
  refine AL_nil ?_
  refine AC_seq ?_
  refine AC_seq ?_
  refine AC_region ?_
  refine AL_p rfl rfl (S_assign rfl (AEv.const _)) ?_
  refine AL_nil ?_
  refine AC_block ?_
  refine AC_loop (G := Nat) (fun k => k ≤ (lead l).length ∧ k ≤ 9) (fun k => [(0, .S l), (2, .int .u64 (dv (l.take k) : Int)), (4, .int .i64 (k : Int))]) (fun k => st) (fun k => l.length - k) (0) (⟨by omega, by omega⟩) rfl ?_ ?_
  · exact (.cons rfl (by first | exact Le.refl _ | exact Le.nils | exact Le.row _ _ _ _ | (exact Le.of_eq (by simp))) (.cons rfl (by first | exact Le.refl _ | exact Le.nils | exact Le.row _ _ _ _ | (exact Le.of_eq (by simp))) (.cons rfl (by first | exact Le.refl _ | exact Le.nils | exact Le.row _ _ _ _ | (exact Le.of_eq (by simp))) .nil)))
  · rintro k ⟨hk1, hk2⟩
    try dsimp only
    have hc := (l.getD k 0).toNat_lt
    have hw : IntKind.u64.wrap (atL l (k : Int)) = ((l.getD k 0).toNat : Int) := by rw [atL_nat, wrap_u64 (by omega) (by omega)]
    have hw2 : IntKind.u64.wrap (7 * IntKind.u64.wrap (k : Int)) = 7 * (k : Int) := by rw [wrap_u64 (n := (k : Int)) (by omega) (by omega), wrap_u64 (by omega) (by omega)]
    refine AC_seq ?_
    refine AC_seq ?_
    refine AC_region ?_
    refine AL_p rfl rfl (S_move rfl (AEv.tmp rfl)) ?_
    refine AL_p rfl rfl (S_move rfl (AEv.tmp rfl)) ?_
    refine AL_p rfl rfl (S_lenS (ts := #[]) rfl (AEv.tmp rfl) (by kernel_rfl)) ?_
    refine AL_p rfl rfl (S_lss rfl (AEv.tmp rfl) (AEv.tmp rfl)) ?_
    refine AL_p rfl rfl (S_move rfl (AEv.tmp rfl)) ?_
    refine AL_g rfl rfl (AEv.tmp rfl) rfl (fun hg1 => S_move rfl (AEv.tmp rfl)) ?_
    refine AL_g rfl rfl (AEv.tmp rfl) rfl (fun hg4 => S_lss rfl (AEv.cond (AEv.tmp rfl) (by first | assumption | exact gdAnd (by assumption) (by assumption))) (AEv.const _)) ?_
    refine AL_p rfl rfl (S_and rfl (AEv.tmp rfl) (fun hp7 => (AEv.cond (AEv.tmp rfl) (by first | assumption | exact gdT hp7 | exact gdF hp7 | exact gdAnd (by assumption) (gdT hp7) | exact gdAnd (by assumption) (gdF hp7))))) ?_
    refine AL_nil ?_
    refine AC_cond (AEv.tmp rfl) (fun hb8 => ?_) (fun hb8 => ?_)
    · try simp only [Bool.and_eq_true, Bool.or_eq_true, Bool.not_eq_true', Bool.not_eq_false', Bool.and_eq_false_iff, Bool.or_eq_false_iff, decide_eq_true_eq, decide_eq_false_iff_not, gd] at hb8
      have hkl : k < l.length := by omega
      refine AC_skip ?_
      refine AC_seq ?_
      refine AC_block ?_
      refine AC_seq ?_
      refine AC_region ?_
      refine AL_p rfl rfl (S_move rfl (AEv.tmp rfl)) ?_
      refine AL_p rfl rfl (S_move rfl (AEv.tmp rfl)) ?_
      refine AL_p rfl rfl (S_index rfl (AEv.tmp rfl) (AEv.tmp rfl) (by kernel_rfl) (by omega) (by omega)) ?_
      refine AL_p rfl rfl (S_conv (k' := .u64) rfl (AEv.tmp rfl) (by kernel_rfl) (by kernel_rfl)) ?_
      refine AL_p rfl rfl (S_assign rfl (AEv.tmp rfl)) ?_
      refine AL_nil ?_
      refine AC_seq ?_
      refine AC_seq ?_
      refine AC_region ?_
      refine AL_p rfl rfl (S_move rfl (AEv.tmp rfl)) ?_
      refine AL_p rfl rfl (S_eql rfl (AEv.tmp rfl) (AEv.const _)) ?_
      refine AL_p rfl rfl (S_move rfl (AEv.tmp rfl)) ?_
      refine AL_g rfl rfl (AEv.tmp rfl) rfl (fun hg9 => S_move rfl (AEv.tmp rfl)) ?_
      refine AL_g rfl rfl (AEv.tmp rfl) rfl (fun hg12 => S_gtr rfl (AEv.cond (AEv.tmp rfl) (by first | assumption | exact gdAnd (by assumption) (by assumption))) (AEv.const _)) ?_
      refine AL_p rfl rfl (S_and rfl (AEv.tmp rfl) (fun hp15 => (AEv.cond (AEv.tmp rfl) (by first | assumption | exact gdT hp15 | exact gdF hp15 | exact gdAnd (by assumption) (gdT hp15) | exact gdAnd (by assumption) (gdF hp15))))) ?_
      refine AL_nil ?_
      refine AC_cond (AEv.tmp rfl) (fun hb16 => ?_) (fun hb16 => ?_)
      · try simp only [Bool.and_eq_true, Bool.or_eq_true, Bool.not_eq_true', Bool.not_eq_false', Bool.and_eq_false_iff, Bool.or_eq_false_iff, decide_eq_true_eq, decide_eq_false_iff_not, gd] at hb16
        have hk9 : k = 9 := by omega
        subst hk9
        refine AC_seq ?_
        refine AC_region ?_
        refine AL_p rfl rfl (S_assign rfl (AEv.const _)) ?_
        refine AL_p rfl rfl (S_assign rfl (AEv.const _)) ?_
        refine AL_nil ?_
        refine AC_ret ?_
        refine ret_tmps (ts := [2, 3]) st rfl (by decide) rfl (Sub.l (List.Sublist.refl _)) (Conv.refl (Sub.l (List.Sublist.refl _)) _) ⟨take_no (take_nine hk1 hkl (by omega)), rfl⟩ (.inl rfl)
      · try simp only [Bool.and_eq_true, Bool.or_eq_true, Bool.not_eq_true', Bool.not_eq_false', Bool.and_eq_false_iff, Bool.or_eq_false_iff, decide_eq_true_eq, decide_eq_false_iff_not, gd] at hb16
        refine AC_skip ?_
        refine AC_seq ?_
        refine AC_region ?_
        refine AL_p rfl rfl (S_move rfl (AEv.tmp rfl)) ?_
        refine AL_p rfl rfl (S_move rfl (AEv.tmp rfl)) ?_
        refine AL_p rfl rfl (S_rem rfl (AEv.tmp rfl) (AEv.const _) (by omega)) ?_
        refine AL_p rfl rfl (S_move rfl (AEv.tmp rfl)) ?_
        refine AL_p rfl rfl (S_conv (k' := .u64) rfl (AEv.tmp rfl) (by kernel_rfl) (by kernel_rfl)) ?_
        refine AL_p rfl rfl (S_mul rfl (AEv.const _) (AEv.tmp rfl)) ?_
        refine AL_p rfl rfl (S_shift rfl (by simp) (AEv.tmp rfl) (AEv.tmp rfl) (shift_shl _ _ _ _ (by omega) (by simp only [IntKind.bits]; omega))) ?_
        refine AL_p rfl rfl (S_bits rfl (by simp) (AEv.tmp rfl) (AEv.tmp rfl)) ?_
        refine AL_p rfl rfl (S_assign rfl ((AEv.tmp rfl).le (Le.of_eq (congrArg (AV.int .u64) (take_step hkl hk2 (fun h => by omega)))))) ?_
        refine AL_nil ?_
        refine AC_seq ?_
        refine AC_region ?_
        refine AL_p rfl rfl (S_move rfl (AEv.tmp rfl)) ?_
        refine AL_p rfl rfl (S_lss rfl (AEv.tmp rfl) (AEv.const _)) ?_
        refine AL_nil ?_
        refine AC_cond (AEv.tmp rfl) (fun hb17 => ?_) (fun hb17 => ?_)
        · try simp only [Bool.and_eq_true, Bool.or_eq_true, Bool.not_eq_true', Bool.not_eq_false', Bool.and_eq_false_iff, Bool.or_eq_false_iff, decide_eq_true_eq, decide_eq_false_iff_not, gd] at hb17
          refine AC_seq ?_
          refine AC_seq ?_
          refine AC_region ?_
          refine AL_p rfl rfl (S_move rfl (AEv.tmp rfl)) ?_
          refine AL_p rfl rfl (S_eql rfl (AEv.tmp rfl) (AEv.const _)) ?_
          refine AL_p rfl rfl (S_move rfl (AEv.tmp rfl)) ?_
          refine AL_g rfl rfl (AEv.tmp rfl) rfl (fun hg18 => S_move rfl (AEv.tmp rfl)) ?_
          refine AL_g rfl rfl (AEv.tmp rfl) rfl (fun hg21 => S_gtr rfl (AEv.cond (AEv.tmp rfl) (by first | assumption | exact gdAnd (by assumption) (by assumption))) (AEv.const _)) ?_
          refine AL_p rfl rfl (S_and rfl (AEv.tmp rfl) (fun hp24 => (AEv.cond (AEv.tmp rfl) (by first | assumption | exact gdT hp24 | exact gdF hp24 | exact gdAnd (by assumption) (gdT hp24) | exact gdAnd (by assumption) (gdF hp24))))) ?_
          refine AL_nil ?_
          refine AC_cond (AEv.tmp rfl) (fun hb25 => ?_) (fun hb25 => ?_)
          · try simp only [Bool.and_eq_true, Bool.or_eq_true, Bool.not_eq_true', Bool.not_eq_false', Bool.and_eq_false_iff, Bool.or_eq_false_iff, decide_eq_true_eq, decide_eq_false_iff_not, gd] at hb25
            refine AC_seq ?_
            refine AC_region ?_
            refine AL_p rfl rfl (S_assign rfl (AEv.const _)) ?_
            refine AL_p rfl rfl (S_assign rfl (AEv.const _)) ?_
            refine AL_nil ?_
            refine AC_ret ?_
            refine ret_tmps (ts := [2, 3]) st rfl (by decide) rfl (Sub.l (List.Sublist.refl _)) (Conv.refl (Sub.l (List.Sublist.refl _)) _) ⟨take_no (by rw [take_at hk1 hkl (by omega), if_neg (by omega)]), rfl⟩ (.inl rfl)
          · try simp only [Bool.and_eq_true, Bool.or_eq_true, Bool.not_eq_true', Bool.not_eq_false', Bool.and_eq_false_iff, Bool.or_eq_false_iff, decide_eq_true_eq, decide_eq_false_iff_not, gd] at hb25
            refine AC_skip ?_
            refine AC_seq ?_
            refine AC_region ?_
            refine AL_p rfl rfl (S_move rfl (AEv.tmp rfl)) ?_
            refine AL_p rfl rfl (S_move rfl (AEv.tmp rfl)) ?_
            refine AL_p rfl rfl (S_addI rfl (AEv.tmp rfl) (AEv.const _) (by omega) (by omega)) ?_
            refine AL_p rfl rfl (S_assign rfl (AEv.tmp rfl)) ?_
            refine AL_p rfl rfl (S_assign rfl (AEv.tmp rfl)) ?_
            refine AL_nil ?_
            refine AC_ret ?_
            refine ret_tmps (ts := [2, 3]) st rfl (by decide) rfl (Sub.l (List.Sublist.refl _)) (Conv.refl (Sub.l (List.Sublist.refl _)) _) ⟨take_yes (by rw [take_at hk1 hkl (by omega), if_pos (by omega)]) rfl (by simp), rfl⟩ (.inl rfl)
        · try simp only [Bool.and_eq_true, Bool.or_eq_true, Bool.not_eq_true', Bool.not_eq_false', Bool.and_eq_false_iff, Bool.or_eq_false_iff, decide_eq_true_eq, decide_eq_false_iff_not, gd] at hb17
          refine AC_skip ?_
          refine AC_region ?_
          refine AL_p rfl rfl (S_move rfl (AEv.tmp rfl)) ?_
          refine AL_p rfl rfl (S_addI rfl (AEv.tmp rfl) (AEv.const _) (by omega) (by omega)) ?_
          refine AL_p rfl rfl (S_assign rfl (AEv.tmp rfl)) ?_
          refine AL_nil ?_
          refine ⟨k + 1, ⟨lead_grow hk1 hkl (by omega), by omega⟩, by omega, rfl, (.cons rfl (by first | exact Le.refl _ | exact Le.nils | exact Le.row _ _ _ _ | (exact Le.of_eq (by simp))) (.cons rfl (by first | exact Le.refl _ | exact Le.nils | exact Le.row _ _ _ _ | (exact Le.of_eq (by simp))) (.cons rfl (by first | exact Le.refl _ | exact Le.nils | exact Le.row _ _ _ _ | (exact Le.of_eq (by simp))) .nil)))⟩
    · try simp only [Bool.and_eq_true, Bool.or_eq_true, Bool.not_eq_true', Bool.not_eq_false', Bool.and_eq_false_iff, Bool.or_eq_false_iff, decide_eq_true_eq, decide_eq_false_iff_not, gd] at hb8
      refine AC_exit ?_
      refine AC_seq ?_
      refine AC_region ?_
      refine AL_p rfl rfl (S_assign rfl (AEv.const _)) ?_
      refine AL_p rfl rfl (S_assign rfl (AEv.const _)) ?_
      refine AL_nil ?_
      refine AC_ret ?_
      refine ret_tmps (ts := [2, 3]) st rfl (by decide) rfl (Sub.l (List.Sublist.refl _)) (Conv.refl (Sub.l (List.Sublist.refl _)) _) ⟨take_no (take_end (by omega)), rfl⟩ (.inl rfl)

set_option maxRecDepth 100000 in
/-- (*strings.Builder).copyCheck -/
theorem copyCheck_fresh (b T m : Nat) (cs : List AV) (hm : 0 < m) (hl : liesAt Try.prog Try.prog.depth T (m / Try.prog.cellsOf T) 0 39 1 = true) (F : St) : ACalls Try.prog 30 [.ptr b 0] ((b, .cells (.nilB b T m :: cs)) :: F) (fun x st' => x = .tup [] ∧ st' = (b, .cells (.ptr b 0 :: cs)) :: F) := by
  refine ACalls_of (N := 20) Try.func30 (by kernel_rfl) rfl rfl rfl ?_
  refine AC_seq ?_
  refine AC_region ?_
  refine AL_p rfl rfl (S_move rfl (AEv.tmp rfl)) ?_
  refine AL_p rfl rfl (S_nilCheck rfl (AEv.tmp rfl)) ?_
  refine AL_p rfl rfl (S_field 0 rfl (AEv.tmp rfl) (by kernel_rfl)) ?_
  refine AL_p rfl rfl (S_load 0 rfl (AEv.tmp rfl) rfl rfl (by kernel_rfl)) ?_
  refine AL_p rfl rfl (S_eqlPtr rfl ((AEv.tmp rfl).le (Le.nilB _ _ _)) (AEv.const _) (by kernel_rfl)) ?_
  refine AL_nil ?_
  refine AC_cond (AEv.tmp rfl) (fun hb1 => ?_) (fun hb1 => ?_)
  · try simp only [Bool.and_eq_true, Bool.or_eq_true, Bool.not_eq_true', Bool.not_eq_false', Bool.and_eq_false_iff, Bool.or_eq_false_iff, decide_eq_true_eq, decide_eq_false_iff_not, gd] at hb1
    refine AC_region ?_
    refine AL_p rfl rfl (S_move rfl (AEv.tmp rfl)) ?_
    refine AL_p rfl rfl (S_move rfl (AEv.tmp rfl)) ?_
    refine AL_p rfl rfl (S_toUnsafe (t := 39) (k := 0) 0 rfl (AEv.tmp rfl) rfl rfl (by kernel_rfl) (by kernel_rfl) (by kernel_rfl) hm) ?_
    refine AL_p rfl rfl (S_noEscape rfl (AEv.tmp rfl) Try.func31 (by kernel_rfl) (by kernel_rfl) (by kernel_rfl) (by kernel_rfl)) ?_
    refine AL_p rfl rfl (S_fromUnsafe (t := 39) (k := 0) 0 rfl (AEv.tmp rfl) rfl rfl (by kernel_rfl) (by kernel_rfl) (by kernel_rfl) hl) ?_
    refine AL_p rfl rfl (S_nilCheck rfl (AEv.tmp rfl)) ?_
    refine AL_p rfl rfl (S_field 0 rfl (AEv.tmp rfl) (by kernel_rfl)) ?_
    refine AL_step rfl rfl (S_store 0 rfl (AEv.tmp rfl) (AEv.tmp rfl) rfl (by first | exact Nat.le_of_ble_eq_true rfl | simp) rfl (by kernel_rfl)) ?_
    rintro _ _ ⟨rfl, rfl⟩
    refine AL_nil ?_
    refine ret_none ((b, .cells (.ptr b 0 :: cs)) :: F) rfl (Sub.l (List.Sublist.refl _)) ⟨rfl, rfl⟩ (.inr rfl)
  · simp at hb1; done

set_option maxRecDepth 100000 in
/-- (*strings.Builder).copyCheck -/
theorem copyCheck_used (b : Nat) (cs : List AV) (F : St) : ACalls Try.prog 30 [.ptr b 0] ((b, .cells (.ptr b 0 :: cs)) :: F) (fun x st' => x = .tup [] ∧ st' = (b, .cells (.ptr b 0 :: cs)) :: F) := by
  refine ACalls_of (N := 20) Try.func30 (by kernel_rfl) rfl rfl rfl ?_
  refine AC_seq ?_
  refine AC_region ?_
  refine AL_p rfl rfl (S_move rfl (AEv.tmp rfl)) ?_
  refine AL_p rfl rfl (S_nilCheck rfl (AEv.tmp rfl)) ?_
  refine AL_p rfl rfl (S_field 0 rfl (AEv.tmp rfl) (by kernel_rfl)) ?_
  refine AL_p rfl rfl (S_load 0 rfl (AEv.tmp rfl) rfl rfl (by kernel_rfl)) ?_
  refine AL_p rfl rfl (S_eqlNil rfl (AEv.tmp rfl) (AEv.const _) (by kernel_rfl)) ?_
  refine AL_nil ?_
  refine AC_cond (AEv.tmp rfl) (fun hb1 => ?_) (fun hb1 => ?_)
  · simp at hb1; done
  · try simp only [Bool.and_eq_true, Bool.or_eq_true, Bool.not_eq_true', Bool.not_eq_false', Bool.and_eq_false_iff, Bool.or_eq_false_iff, decide_eq_true_eq, decide_eq_false_iff_not, gd] at hb1
    refine AC_seq ?_
    refine AC_region ?_
    refine AL_p rfl rfl (S_move rfl (AEv.tmp rfl)) ?_
    refine AL_p rfl rfl (S_nilCheck rfl (AEv.tmp rfl)) ?_
    refine AL_p rfl rfl (S_field 0 rfl (AEv.tmp rfl) (by kernel_rfl)) ?_
    refine AL_p rfl rfl (S_load 0 rfl (AEv.tmp rfl) rfl rfl (by kernel_rfl)) ?_
    refine AL_p rfl rfl (S_move rfl (AEv.tmp rfl)) ?_
    refine AL_p rfl rfl (S_neqPtr rfl (AEv.tmp rfl) (AEv.tmp rfl) (by kernel_rfl)) ?_
    refine AL_nil ?_
    refine AC_cond (AEv.tmp rfl) (fun hb2 => ?_) (fun hb2 => ?_)
    · simp at hb2; done
    · try simp only [Bool.and_eq_true, Bool.or_eq_true, Bool.not_eq_true', Bool.not_eq_false', Bool.and_eq_false_iff, Bool.or_eq_false_iff, decide_eq_true_eq, decide_eq_false_iff_not, gd] at hb2
      refine AC_skip ?_
      refine ret_none ((b, .cells (.ptr b 0 :: cs)) :: F) rfl (Sub.l (List.Sublist.refl _)) ⟨rfl, rfl⟩ (.inr rfl)

theorem copyCheck_ok (u : Bool) (b T m : Nat) (cs : List AV) (hm : 0 < m) (hl : liesAt Try.prog Try.prog.depth T (m / Try.prog.cellsOf T) 0 39 1 = true) (F : St) : ACalls Try.prog 30 [.ptr b 0] ((b, .cells (addrB u b T m :: cs)) :: F) (fun x st' => x = .tup [] ∧ st' = (b, .cells (.ptr b 0 :: cs)) :: F) := by
  cases u
  · exact copyCheck_fresh b T m cs hm hl F
  · exact copyCheck_used b cs F

set_option maxRecDepth 100000 in
/-- (*strings.Builder).WriteString -/
theorem WriteString_ok (b : Nat) (u : Bool) (q : Buf) (l s : List UInt8) (T m : Nat) (post : List AV) (hq : q.ok l) (hlen : l.length + s.length ≤ 140737488355328) (hm : 0 < m) (hl : liesAt Try.prog Try.prog.depth T (m / Try.prog.cellsOf T) 0 39 1 = true) (F : St) : ACalls Try.prog 29 [.ptr b 0, .S s] (((b, .cells (addrB u b T m :: bufAV q (l) :: post)) :: bufSt q 5 (l)) ++ F) (fun x st' => ∃ foot', (∃ q' : Buf, q'.ok (l ++ s) ∧ x = .tup [.int .i64 (s.length : Int), .nili] ∧ foot' = (b, .cells (.ptr b 0 :: bufAV q' (l ++ s) :: post)) :: bufSt q' 5 (l ++ s)) ∧ st' = foot' ++ F) := by
  refine ACalls_of (N := 19) Try.func29 (by kernel_rfl) rfl rfl rfl ?_
  refine AC_seq ?_
  refine AC_region ?_
  refine AL_p rfl rfl (S_assign rfl (AEv.const _)) ?_
  refine AL_p rfl rfl (S_assign rfl (AEv.const _)) ?_
  refine AL_nil ?_
  refine AC_seq ?_
  refine AC_region ?_
  refine AL_p rfl rfl (S_move rfl (AEv.tmp rfl)) ?_
  refine AL_step rfl rfl (S_call rfl (AEvs.cons (AEv.tmp rfl) AEvs.nil) (copyCheck_ok u b T m _ hm hl _)) ?_
  rintro _ _ ⟨rfl, rfl⟩
  refine AL_nil ?_
  refine AC_seq ?_
  refine AC_region ?_
  refine AL_p rfl rfl (S_move rfl (AEv.tmp rfl)) ?_
  refine AL_p rfl rfl (S_move rfl (AEv.tmp rfl)) ?_
  refine AL_p rfl rfl (S_nilCheck rfl (AEv.tmp rfl)) ?_
  refine AL_p rfl rfl (S_field 1 rfl (AEv.tmp rfl) (by kernel_rfl)) ?_
  refine AL_p rfl rfl (S_load 0 rfl (AEv.tmp rfl) rfl rfl (by kernel_rfl)) ?_
  refine AL_p rfl rfl (S_move rfl (AEv.tmp rfl)) ?_
  refine AL_step rfl rfl (S_appendStr (q := q) (l := l) (s := s) (e := 5) [(b, _)] F rfl (AEv.tmp rfl) (AEv.tmp rfl) rfl hq (by kernel_rfl) (by kernel_rfl) hlen) ?_
  rintro _ _ ⟨q2, hq2, rfl, rfl⟩
  refine AL_p rfl rfl (S_nilCheck rfl (AEv.tmp rfl)) ?_
  refine AL_p rfl rfl (S_field 1 rfl (AEv.tmp rfl) (by kernel_rfl)) ?_
  refine AL_step rfl rfl (S_store 0 rfl (AEv.tmp rfl) (AEv.tmp rfl) rfl (by first | exact Nat.le_of_ble_eq_true rfl | simp) (bufAV_one _ _) (by kernel_rfl)) ?_
  rintro _ _ ⟨rfl, rfl⟩
  refine AL_nil ?_
  refine AC_seq ?_
  refine AC_region ?_
  refine AL_p rfl rfl (S_move rfl (AEv.tmp rfl)) ?_
  refine AL_p rfl rfl (S_lenS (ts := #[]) rfl (AEv.tmp rfl) (by kernel_rfl)) ?_
  refine AL_p rfl rfl (S_assign rfl (AEv.tmp rfl)) ?_
  refine AL_p rfl rfl (S_assign rfl (AEv.const _)) ?_
  refine AL_nil ?_
  refine AC_ret ?_
  refine ret_tmps (ts := [4, 5]) (((b, .cells (.ptr b 0 :: bufAV q2 (l ++ s) :: post)) :: bufSt q2 5 (l ++ s)) ++ F) rfl (by decide) rfl (Sub.l (List.Sublist.refl _)) (Conv.refl (Sub.l (List.Sublist.refl _)) _) ⟨_, ⟨q2, hq2, rfl, rfl⟩, rfl⟩ (.inl rfl)

set_option maxRecDepth 100000 in
/-- (*strings.Builder).String -/
theorem String_ok (b : Nat) (q : Buf) (l : List UInt8) (a : AV) (post : List AV) (hq : q.ok l) (F : St) : ACalls Try.prog 26 [.ptr b 0] (((b, .cells (a :: bufAV q (l) :: post)) :: bufSt q 5 (l)) ++ F) (fun x st' => ∃ foot', (x = .S l ∧ foot' = [(b, .cells (a :: bufAV q l :: post))]) ∧ st' = foot' ++ F) := by
  refine ACalls_of (N := 14) Try.func26 (by kernel_rfl) rfl rfl rfl ?_
  refine AC_seq ?_
  refine AC_region ?_
  refine AL_p rfl rfl (S_assign rfl (AEv.S _)) ?_
  refine AL_nil ?_
  refine AC_seq ?_
  refine AC_plan (σ := [(0, 0), (1, 0), (2, 0), (3, 0), (4, 0), (5, 0), (6, 0), (7, 0), (8, 0), (9, 0), (10, 2), (11, 0)]) (by kernel_rfl) _ (by kernel_rfl) (fun _ h => h) ?_
  refine AG.f rfl rfl (fun st' hst => Q_p rfl (S_move rfl (AEv.tmp rfl))) ?_
  refine AG.f rfl rfl (fun st' hst => Q_p rfl (S_nilCheck rfl (AEv.tmp rfl))) ?_
  refine AG.f rfl rfl (fun st' hst => Q_p rfl (S_field 1 rfl (AEv.tmp rfl) (by kernel_rfl))) ?_
  refine AG.f rfl rfl (fun st' hst => Q_p rfl (S_loadM rfl (AEv.tmp rfl) (hst _ (List.mem_of_getElem? (i := 0) rfl)) rfl (by kernel_rfl))) ?_
  refine AG.f rfl rfl (fun st' hst => Q_p rfl (S_unsafeData rfl (AEv.tmp rfl) hq)) ?_
  refine AG.f rfl rfl (fun st' hst => Q_p rfl (S_move rfl (AEv.tmp rfl))) ?_
  refine AG.f rfl rfl (fun st' hst => Q_p rfl (S_nilCheck rfl (AEv.tmp rfl))) ?_
  refine AG.f rfl rfl (fun st' hst => Q_p rfl (S_field 1 rfl (AEv.tmp rfl) (by kernel_rfl))) ?_
  refine AG.f rfl rfl (fun st' hst => Q_p rfl (S_loadM rfl (AEv.tmp rfl) (hst _ (List.mem_of_getElem? (i := 0) rfl)) rfl (by kernel_rfl))) ?_
  refine AG.f rfl rfl (fun st' hst => Q_p rfl (S_len (e := 5) rfl ((AEv.tmp rfl).le (Le_buf hq)) (by kernel_rfl))) ?_
  refine AG.h rfl rfl rfl (S_unsafeString (q := q) (l := l) (e := 5) (n := 0) (k := 1) [(b, _)] F rfl (AEv.tmp rfl) ((AEv.tmp rfl).le (Le.of_eq (by rw [bytesV_len]))) rfl rfl rfl hq (by kernel_rfl) (by kernel_rfl)) ?_
  rintro _ _ ⟨rfl, rfl⟩
  refine AG.f rfl rfl (fun st' hst => Q_p rfl (S_assign rfl (AEv.tmp rfl))) ?_
  refine AG.nil ?_
  refine AC_ret ?_
  refine ret_tmp ([(b, Ob.cells (a :: bufAV q l :: post))] ++ F) rfl rfl (Sub.l (List.Sublist.refl _)) (Conv.refl (Sub.l (List.Sublist.refl _)) _) ⟨_, ⟨rfl, rfl⟩, rfl⟩ (.inl rfl)

set_option maxRecDepth 100000 in
/-- (*provost/wire.sticks).Fail -/
theorem sticks_Fail_ok (b k : Nat) (cs : List AV) (c d : Int) (hk : cs[k]? = some (.int .i64 c)) (F : St) : ACalls Try.prog 14 [.ptr b k, .int .i64 d] ((b, .cells cs) :: F) (fun x st' => x = .tup [] ∧ st' = (b, .cells (cs.set k (.int .i64 (failC c d)))) :: F) := by
  refine ACalls_of (N := 13) Try.func14 (by kernel_rfl) rfl rfl rfl ?_
  have hlt : k < cs.length := (List.getElem?_eq_some_iff.1 hk).1
  refine AC_seq ?_
  refine AC_region ?_
  refine AL_p rfl rfl (S_move rfl (AEv.tmp rfl)) ?_
  refine AL_p rfl rfl (S_nilCheck rfl (AEv.tmp rfl)) ?_
  refine AL_p rfl rfl (S_field 0 rfl (AEv.tmp rfl) (by kernel_rfl)) ?_
  refine AL_p rfl rfl (S_load 0 rfl (AEv.tmp rfl) rfl hk (by kernel_rfl)) ?_
  refine AL_p rfl rfl (S_eql rfl (AEv.tmp rfl) (AEv.const _)) ?_
  refine AL_nil ?_
  refine AC_cond (AEv.tmp rfl) (fun hb1 => ?_) (fun hb1 => ?_)
  · try simp only [Bool.and_eq_true, Bool.or_eq_true, Bool.not_eq_true', Bool.not_eq_false', Bool.and_eq_false_iff, Bool.or_eq_false_iff, decide_eq_true_eq, decide_eq_false_iff_not, gd] at hb1
    have hc : c = 0 := by omega
    subst hc
    refine AC_region ?_
    refine AL_p rfl rfl (S_move rfl (AEv.tmp rfl)) ?_
    refine AL_p rfl rfl (S_move rfl (AEv.tmp rfl)) ?_
    refine AL_p rfl rfl (S_nilCheck rfl (AEv.tmp rfl)) ?_
    refine AL_p rfl rfl (S_field 0 rfl (AEv.tmp rfl) (by kernel_rfl)) ?_
    refine AL_step rfl rfl (S_store 0 rfl (AEv.tmp rfl) (AEv.tmp rfl) rfl hlt rfl (by kernel_rfl)) ?_
    rintro _ _ ⟨rfl, rfl⟩
    refine AL_nil ?_
    refine ret_none ((b, .cells (cs.set k (.int .i64 d))) :: F) rfl (Sub.l (List.Sublist.refl _)) ⟨rfl, rfl⟩ (.inr rfl)
  · try simp only [Bool.and_eq_true, Bool.or_eq_true, Bool.not_eq_true', Bool.not_eq_false', Bool.and_eq_false_iff, Bool.or_eq_false_iff, decide_eq_true_eq, decide_eq_false_iff_not, gd] at hb1
    have hs : cs.set k (.int .i64 (failC c d)) = cs := by
      rw [failC, if_neg (by omega)]
      obtain ⟨h1, h2⟩ := List.getElem?_eq_some_iff.1 hk
      rw [← h2]
      exact List.set_getElem_self h1
    refine AC_skip ?_
    refine ret_none ((b, .cells cs) :: F) rfl (Sub.l (List.Sublist.refl _)) ⟨rfl, by rw [hs]⟩ (.inr rfl)

set_option maxRecDepth 100000 in
/-- provost/wire.Write -/
theorem wire_Write_ok (F : St) : ACalls Try.prog 6 [] ([] ++ F) (fun x st' => ∃ foot', (∃ b, x = .ptr b 0 ∧ foot' = (b, .cells [addrB false b 44 3, bufAV .nil ([]), .int .i64 (0)]) :: bufSt .nil 5 ([])) ∧ st' = foot' ++ F) := by
  refine ACalls_of (N := 3) Try.func6 (by kernel_rfl) rfl rfl rfl ?_
  refine AC_seq ?_
  refine AC_region ?_
  refine AL_p rfl rfl (S_assign rfl (AEv.const _)) ?_
  refine AL_nil ?_
  refine AC_seq ?_
  refine AC_region ?_
  refine AL_p rfl rfl (S_build (pl := [(0, 2), (2, 1)]) (zs := [.pointer none, .slice none 0 0, .int .i64 0]) rfl AEvs.nil (by kernel_rfl) rfl) ?_
  refine AL_step rfl rfl (S_boxB (cs := [.nils, .int .i64 0]) rfl ((AEv.tmp rfl).le (Le.of_eq rfl))) ?_
  rintro _ _ ⟨b1, rfl, rfl⟩
  refine AL_p rfl rfl (S_assign rfl (AEv.tmp rfl)) ?_
  refine AL_nil ?_
  refine AC_ret ?_
  refine ret_tmp (((b1, .cells [addrB false b1 44 3, bufAV .nil ([]), .int .i64 (0)]) :: bufSt .nil 5 ([])) ++ F) rfl rfl (Sub.l (List.Sublist.refl _)) (Conv.refl (Sub.l (List.Sublist.refl _)) _) ⟨_, ⟨b1, rfl, rfl⟩, rfl⟩ (.inl rfl)

set_option maxRecDepth 100000 in
/-- (*provost/wire.Writer).put -/
theorem w_put_ok (b : Nat) (u : Bool) (q : Buf) (l : List UInt8) (c : Int) (hq : q.ok l) (s : List UInt8) (hlen : l.length + s.length ≤ 140737488355328) (F : St) : ACalls Try.prog 24 [.ptr b 0, .S s] (((b, .cells [addrB u b 44 3, bufAV q (l), .int .i64 (c)]) :: bufSt q 5 (l)) ++ F) (fun x st' => ∃ foot', (∃ (u' : Bool) (q' : Buf), q'.ok (wput c l s) ∧ x = .tup [] ∧ foot' = (b, .cells [addrB u' b 44 3, bufAV q' (wput c l s), .int .i64 (c)]) :: bufSt q' 5 (wput c l s)) ∧ st' = foot' ++ F) := by
  refine ACalls_of (N := 15) Try.func24 (by kernel_rfl) rfl rfl rfl ?_
  refine AC_seq ?_
  refine AC_region ?_
  refine AL_p rfl rfl (S_move rfl (AEv.tmp rfl)) ?_
  refine AL_p rfl rfl (S_nilCheck rfl (AEv.tmp rfl)) ?_
  refine AL_p rfl rfl (S_field 2 rfl (AEv.tmp rfl) (by kernel_rfl)) ?_
  refine AL_p rfl rfl (S_field 0 rfl (AEv.tmp rfl) (by kernel_rfl)) ?_
  refine AL_p rfl rfl (S_load 0 rfl (AEv.tmp rfl) rfl rfl (by kernel_rfl)) ?_
  refine AL_p rfl rfl (S_eql rfl (AEv.tmp rfl) (AEv.const _)) ?_
  refine AL_nil ?_
  refine AC_cond (AEv.tmp rfl) (fun hb1 => ?_) (fun hb1 => ?_)
  · try simp only [Bool.and_eq_true, Bool.or_eq_true, Bool.not_eq_true', Bool.not_eq_false', Bool.and_eq_false_iff, Bool.or_eq_false_iff, decide_eq_true_eq, decide_eq_false_iff_not, gd] at hb1
    have hc : c = 0 := by omega
    subst hc
    refine AC_region ?_
    refine AL_p rfl rfl (S_move rfl (AEv.tmp rfl)) ?_
    refine AL_p rfl rfl (S_nilCheck rfl (AEv.tmp rfl)) ?_
    refine AL_p rfl rfl (S_field 0 rfl (AEv.tmp rfl) (by kernel_rfl)) ?_
    refine AL_p rfl rfl (S_move rfl (AEv.tmp rfl)) ?_
    refine AL_step rfl rfl (S_call rfl (AEvs.cons (AEv.tmp rfl) (AEvs.cons (AEv.tmp rfl) AEvs.nil)) (WriteString_ok b u q l s 44 3 [_] hq hlen (by decide) (by kernel_rfl) F)) ?_
    rintro _ _ ⟨_, ⟨q2, hq2, rfl, rfl⟩, rfl⟩
    refine AL_nil ?_
    refine ret_none (((b, .cells [addrB true b 44 3, bufAV q2 (l ++ s), .int .i64 (0)]) :: bufSt q2 5 (l ++ s)) ++ F) rfl (Sub.l (List.Sublist.refl _)) ⟨_, ⟨true, q2, hq2, rfl, rfl⟩, rfl⟩ (.inr rfl)
  · try simp only [Bool.and_eq_true, Bool.or_eq_true, Bool.not_eq_true', Bool.not_eq_false', Bool.and_eq_false_iff, Bool.or_eq_false_iff, decide_eq_true_eq, decide_eq_false_iff_not, gd] at hb1
    have hw : wput c l s = l := wput_err (by omega) l s
    refine AC_skip ?_
    refine ret_none (((b, .cells [addrB u b 44 3, bufAV q (l), .int .i64 (c)]) :: bufSt q 5 (l)) ++ F) rfl (Sub.l (List.Sublist.refl _)) ⟨_, ⟨u, q, by rw [hw]; exact hq, rfl, by rw [hw]⟩, rfl⟩ (.inr rfl)

set_option maxRecDepth 100000 in
/-- (*provost/wire.Writer).Big -/
theorem w_Big_ok (b : Nat) (u : Bool) (q : Buf) (l : List UInt8) (c : Int) (hq : q.ok l) (n : Nat) (hn : n < 18446744073709551616) (hlen : l.length + 10 ≤ 140737488355328) (F : St) : ACalls Try.prog 10 [.ptr b 0, .int .u64 (n : Int)] (((b, .cells [addrB u b 44 3, bufAV q (l), .int .i64 (c)]) :: bufSt q 5 (l)) ++ F) (fun x st' => ∃ foot', (∃ (u' : Bool) (q' : Buf), q'.ok (wput c l (putL n)) ∧ x = .tup [] ∧ foot' = (b, .cells [addrB u' b 44 3, bufAV q' (wput c l (putL n)), .int .i64 (c)]) :: bufSt q' 5 (wput c l (putL n))) ∧ st' = foot' ++ F) := by
  refine ACalls_of (N := 8) Try.func10 (by kernel_rfl) rfl rfl rfl ?_
  have hp := putL_few n hn
  refine AC_region ?_
  refine AL_p rfl rfl (S_move rfl (AEv.tmp rfl)) ?_
  refine AL_p rfl rfl (S_move rfl (AEv.tmp rfl)) ?_
  refine AL_p rfl rfl (S_pcall rfl (AEvs.cons (AEv.tmp rfl) AEvs.nil) (num_Put_ok _ (by first | assumption | omega))) ?_
  refine AL_step rfl rfl (S_call rfl (AEvs.cons (AEv.tmp rfl) (AEvs.cons (AEv.tmp rfl) AEvs.nil)) (w_put_ok b u q l c hq (putL n) (by omega) F)) ?_
  rintro _ _ ⟨_, ⟨u2, q2, hq2, rfl, rfl⟩, rfl⟩
  refine AL_nil ?_
  refine ret_none (((b, .cells [addrB u2 b 44 3, bufAV q2 (wput c l (putL n)), .int .i64 (c)]) :: bufSt q2 5 (wput c l (putL n))) ++ F) rfl (Sub.l (List.Sublist.refl _)) ⟨_, ⟨u2, q2, hq2, rfl, rfl⟩, rfl⟩ (.inr rfl)

set_option maxRecDepth 100000 in
/-- (*provost/wire.Writer).Num -/
theorem w_Num_ok (b : Nat) (u : Bool) (q : Buf) (l : List UInt8) (c : Int) (hq : q.ok l) (n : Int) (hn : fits n) (hlen : l.length + 10 ≤ 140737488355328) (F : St) : ACalls Try.prog 8 [.ptr b 0, .int .i64 n] (((b, .cells [addrB u b 44 3, bufAV q (l), .int .i64 (c)]) :: bufSt q 5 (l)) ++ F) (fun x st' => ∃ foot', (∃ (u' : Bool) (q' : Buf), q'.ok (if n < 0 then l else wput c l (putL n.toNat)) ∧ x = .tup [] ∧ foot' = (b, .cells [addrB u' b 44 3, bufAV q' (if n < 0 then l else wput c l (putL n.toNat)), .int .i64 (if n < 0 then failC c 1 else c)]) :: bufSt q' 5 (if n < 0 then l else wput c l (putL n.toNat))) ∧ st' = foot' ++ F) := by
  refine ACalls_of (N := 14) Try.func8 (by kernel_rfl) rfl rfl rfl ?_
  have hw := u64w n
  unfold fits at hn
  refine AC_seq ?_
  refine AC_seq ?_
  refine AC_region ?_
  refine AL_p rfl rfl (S_move rfl (AEv.tmp rfl)) ?_
  refine AL_p rfl rfl (S_lss rfl (AEv.tmp rfl) (AEv.const _)) ?_
  refine AL_nil ?_
  refine AC_cond (AEv.tmp rfl) (fun hb1 => ?_) (fun hb1 => ?_)
  · try simp only [Bool.and_eq_true, Bool.or_eq_true, Bool.not_eq_true', Bool.not_eq_false', Bool.and_eq_false_iff, Bool.or_eq_false_iff, decide_eq_true_eq, decide_eq_false_iff_not, gd] at hb1
    refine AC_seq ?_
    refine AC_region ?_
    refine AL_p rfl rfl (S_move rfl (AEv.tmp rfl)) ?_
    refine AL_p rfl rfl (S_nilCheck rfl (AEv.tmp rfl)) ?_
    refine AL_p rfl rfl (S_field 2 rfl (AEv.tmp rfl) (by kernel_rfl)) ?_
    refine AL_step rfl rfl (S_call rfl (AEvs.cons (AEv.tmp rfl) (AEvs.cons (AEv.const _) AEvs.nil)) (sticks_Fail_ok b 2 [_, _, .int .i64 c] c 1 rfl _)) ?_
    rintro _ _ ⟨rfl, rfl⟩
    refine AL_nil ?_
    refine AC_ret ?_
    refine ret_none (((b, .cells [addrB u b 44 3, bufAV q (l), .int .i64 (failC c 1)]) :: bufSt q 5 (l)) ++ F) rfl (Sub.l (List.Sublist.refl _)) ⟨_, ⟨u, q, by rw [if_pos (by assumption)]; exact hq, rfl, by rw [if_pos (by assumption), if_pos (by assumption)]⟩, rfl⟩ (.inl rfl)
  · try simp only [Bool.and_eq_true, Bool.or_eq_true, Bool.not_eq_true', Bool.not_eq_false', Bool.and_eq_false_iff, Bool.or_eq_false_iff, decide_eq_true_eq, decide_eq_false_iff_not, gd] at hb1
    refine AC_skip ?_
    refine AC_region ?_
    refine AL_p rfl rfl (S_move rfl (AEv.tmp rfl)) ?_
    refine AL_p rfl rfl (S_move rfl (AEv.tmp rfl)) ?_
    refine AL_p rfl rfl (S_conv (k' := .u64) rfl (AEv.tmp rfl) (by kernel_rfl) (by kernel_rfl)) ?_
    refine AL_step rfl rfl (S_call rfl (AEvs.cons (AEv.tmp rfl) (AEvs.cons (y := .int .u64 (n.toNat : Int)) ((AEv.tmp rfl).le (Le.of_eq (by rw [show IntKind.u64.wrap n = (n.toNat : Int) by omega]))) AEvs.nil)) (w_Big_ok b u q l c hq n.toNat (by omega) hlen F)) ?_
    rintro _ _ ⟨_, ⟨u2, q2, hq2, rfl, rfl⟩, rfl⟩
    refine AL_nil ?_
    refine ret_none (((b, .cells [addrB u2 b 44 3, bufAV q2 (wput c l (putL n.toNat)), .int .i64 (c)]) :: bufSt q2 5 (wput c l (putL n.toNat))) ++ F) rfl (Sub.l (List.Sublist.refl _)) ⟨_, ⟨u2, q2, by rw [if_neg (by omega)]; exact hq2, rfl, by rw [if_neg (by omega), if_neg (by omega)]⟩, rfl⟩ (.inr rfl)

set_option maxRecDepth 100000 in
/-- (*provost/wire.Writer).Text -/
theorem w_Text_ok (b : Nat) (u : Bool) (q : Buf) (l : List UInt8) (c : Int) (hq : q.ok l) (s : List UInt8) (hlen : l.length + s.length + 10 ≤ 140737488355328) (F : St) : ACalls Try.prog 11 [.ptr b 0, .S s] (((b, .cells [addrB u b 44 3, bufAV q (l), .int .i64 (c)]) :: bufSt q 5 (l)) ++ F) (fun x st' => ∃ foot', (∃ (u' : Bool) (q' : Buf), q'.ok (wput c l (putL s.length ++ s)) ∧ x = .tup [] ∧ foot' = (b, .cells [addrB u' b 44 3, bufAV q' (wput c l (putL s.length ++ s)), .int .i64 (c)]) :: bufSt q' 5 (wput c l (putL s.length ++ s))) ∧ st' = foot' ++ F) := by
  refine ACalls_of (N := 11) Try.func11 (by kernel_rfl) rfl rfl rfl ?_
  have hp := putL_few s.length (by omega)
  have hwl := wput_len c l (putL s.length)
  have hneg : ¬ ((s.length : Int) < 0) := by omega
  refine AC_seq ?_
  refine AC_region ?_
  refine AL_p rfl rfl (S_move rfl (AEv.tmp rfl)) ?_
  refine AL_p rfl rfl (S_move rfl (AEv.tmp rfl)) ?_
  refine AL_p rfl rfl (S_lenS (ts := #[]) rfl (AEv.tmp rfl) (by kernel_rfl)) ?_
  refine AL_step rfl rfl (S_call rfl (AEvs.cons (AEv.tmp rfl) (AEvs.cons (AEv.tmp rfl) AEvs.nil)) (w_Num_ok b u q l c hq (s.length : Int) (by unfold fits; omega) (by omega) F)) ?_
  rintro _ _ ⟨_, ⟨u2, q2, hq2, rfl, rfl⟩, rfl⟩
  rw [if_neg hneg, Int.toNat_natCast] at hq2
  simp only [if_neg hneg, Int.toNat_natCast]
  refine AL_nil ?_
  refine AC_region ?_
  refine AL_p rfl rfl (S_move rfl (AEv.tmp rfl)) ?_
  refine AL_p rfl rfl (S_move rfl (AEv.tmp rfl)) ?_
  refine AL_step rfl rfl (S_call rfl (AEvs.cons (AEv.tmp rfl) (AEvs.cons (AEv.tmp rfl) AEvs.nil)) (w_put_ok b u2 q2 (wput c l (putL s.length)) c hq2 s (by omega) F)) ?_
  rintro _ _ ⟨_, ⟨u3, q3, hq3, rfl, rfl⟩, rfl⟩
  rw [wput_wput] at hq3 ⊢
  refine AL_nil ?_
  refine ret_none (((b, .cells [addrB u3 b 44 3, bufAV q3 (wput c l (putL s.length ++ s)), .int .i64 (c)]) :: bufSt q3 5 (wput c l (putL s.length ++ s))) ++ F) rfl (Sub.l (List.Sublist.refl _)) ⟨_, ⟨u3, q3, hq3, rfl, rfl⟩, rfl⟩ (.inr rfl)

set_option maxRecDepth 100000 in
/-- (*provost/wire.Writer).Bool -/
theorem w_Bool_ok (b : Nat) (u : Bool) (q : Buf) (l : List UInt8) (c : Int) (hq : q.ok l) (t : Bool) (hlen : l.length + 10 ≤ 140737488355328) (F : St) : ACalls Try.prog 13 [.ptr b 0, .bool t] (((b, .cells [addrB u b 44 3, bufAV q (l), .int .i64 (c)]) :: bufSt q 5 (l)) ++ F) (fun x st' => ∃ foot', (∃ (u' : Bool) (q' : Buf), q'.ok (wput c l [if t then 1 else 0]) ∧ x = .tup [] ∧ foot' = (b, .cells [addrB u' b 44 3, bufAV q' (wput c l [if t then 1 else 0]), .int .i64 (c)]) :: bufSt q' 5 (wput c l [if t then 1 else 0])) ∧ st' = foot' ++ F) := by
  refine ACalls_of (N := 9) Try.func13 (by kernel_rfl) rfl rfl rfl ?_
  refine AC_seq ?_
  refine AC_region ?_
  refine AL_p rfl rfl (S_assign rfl (AEv.const _)) ?_
  refine AL_nil ?_
  refine AC_seq ?_
  refine AC_seq ?_
  refine AC_region ?_
  refine AL_p rfl rfl (S_move rfl (AEv.tmp rfl)) ?_
  refine AL_nil ?_
  refine AC_cond (AEv.tmp rfl) (fun hb1 => ?_) (fun hb1 => ?_)
  · try simp only [Bool.and_eq_true, Bool.or_eq_true, Bool.not_eq_true', Bool.not_eq_false', Bool.and_eq_false_iff, Bool.or_eq_false_iff, decide_eq_true_eq, decide_eq_false_iff_not, gd] at hb1
    have ht : t = true := hb1
    subst ht
    refine AC_region ?_
    refine AL_p rfl rfl (S_assign rfl (AEv.const _)) ?_
    refine AL_nil ?_
    refine AC_region ?_
    refine AL_p rfl rfl (S_move rfl (AEv.tmp rfl)) ?_
    refine AL_p rfl rfl (S_move rfl (AEv.tmp rfl)) ?_
    refine AL_step rfl rfl (S_call rfl (AEvs.cons (AEv.tmp rfl) (AEvs.cons (AEv.tmp rfl) AEvs.nil)) (w_Big_ok b u q l c hq 1 (by decide) hlen F)) ?_
    rintro _ _ ⟨_, ⟨u2, q2, hq2, rfl, rfl⟩, rfl⟩
    refine AL_nil ?_
    refine ret_none (((b, .cells [addrB u2 b 44 3, bufAV q2 (wput c l (putL 1)), .int .i64 (c)]) :: bufSt q2 5 (wput c l (putL 1))) ++ F) rfl (Sub.l (List.Sublist.refl _)) ⟨_, ⟨u2, q2, by rw [show [if true then 1 else 0] = putL 1 by rw [putL_small (by decide)]; rfl]; exact hq2, rfl, by rw [show [if true then (1 : UInt8) else 0] = putL 1 by rw [putL_small (by decide)]; rfl]⟩, rfl⟩ (.inr rfl)
  · try simp only [Bool.and_eq_true, Bool.or_eq_true, Bool.not_eq_true', Bool.not_eq_false', Bool.and_eq_false_iff, Bool.or_eq_false_iff, decide_eq_true_eq, decide_eq_false_iff_not, gd] at hb1
    have ht : t = false := hb1
    subst ht
    refine AC_skip ?_
    refine AC_region ?_
    refine AL_p rfl rfl (S_move rfl (AEv.tmp rfl)) ?_
    refine AL_p rfl rfl (S_move rfl (AEv.tmp rfl)) ?_
    refine AL_step rfl rfl (S_call rfl (AEvs.cons (AEv.tmp rfl) (AEvs.cons (AEv.tmp rfl) AEvs.nil)) (w_Big_ok b u q l c hq 0 (by decide) hlen F)) ?_
    rintro _ _ ⟨_, ⟨u2, q2, hq2, rfl, rfl⟩, rfl⟩
    refine AL_nil ?_
    refine ret_none (((b, .cells [addrB u2 b 44 3, bufAV q2 (wput c l (putL 0)), .int .i64 (c)]) :: bufSt q2 5 (wput c l (putL 0))) ++ F) rfl (Sub.l (List.Sublist.refl _)) ⟨_, ⟨u2, q2, by rw [show [if false then 1 else 0] = putL 0 by rw [putL_small (by decide)]; rfl]; exact hq2, rfl, by rw [show [if false then (1 : UInt8) else 0] = putL 0 by rw [putL_small (by decide)]; rfl]⟩, rfl⟩ (.inr rfl)

set_option maxRecDepth 100000 in
/-- (*provost/wire.Writer).End -/
theorem w_End_ok (b : Nat) (u : Bool) (q : Buf) (l : List UInt8) (c : Int) (hq : q.ok l) (F : St) : ACalls Try.prog 15 [.ptr b 0] (((b, .cells [addrB u b 44 3, bufAV q (l), .int .i64 (c)]) :: bufSt q 5 (l)) ++ F) (fun x st' => ∃ foot', (∃ cs : List AV, x = .tup [.S (if c = 0 then l else []), .int .i64 c] ∧ foot' = [(b, .cells cs)]) ∧ st' = foot' ++ F) := by
  refine ACalls_of (N := 19) Try.func15 (by kernel_rfl) rfl rfl rfl ?_
  refine AC_seq ?_
  refine AC_region ?_
  refine AL_p rfl rfl (S_assign rfl (AEv.S _)) ?_
  refine AL_p rfl rfl (S_assign rfl (AEv.const _)) ?_
  refine AL_nil ?_
  refine AC_seq ?_
  refine AC_seq ?_
  refine AC_region ?_
  refine AL_p rfl rfl (S_move rfl (AEv.tmp rfl)) ?_
  refine AL_p rfl rfl (S_nilCheck rfl (AEv.tmp rfl)) ?_
  refine AL_p rfl rfl (S_field 2 rfl (AEv.tmp rfl) (by kernel_rfl)) ?_
  refine AL_p rfl rfl (S_field 0 rfl (AEv.tmp rfl) (by kernel_rfl)) ?_
  refine AL_p rfl rfl (S_load 0 rfl (AEv.tmp rfl) rfl rfl (by kernel_rfl)) ?_
  refine AL_p rfl rfl (S_neq rfl (AEv.tmp rfl) (AEv.const _)) ?_
  refine AL_nil ?_
  refine AC_cond (AEv.tmp rfl) (fun hb1 => ?_) (fun hb1 => ?_)
  · try simp only [Bool.and_eq_true, Bool.or_eq_true, Bool.not_eq_true', Bool.not_eq_false', Bool.and_eq_false_iff, Bool.or_eq_false_iff, decide_eq_true_eq, decide_eq_false_iff_not, gd] at hb1
    refine AC_seq ?_
    refine AC_draw (by kernel_rfl) (by kernel_rfl) (.cons rfl (Q_p rfl (S_move rfl (AEv.tmp rfl))) <|
        .cons rfl (Q_p rfl (S_nilCheck rfl (AEv.tmp rfl))) <|
        .cons rfl (Q_p rfl (S_field 2 rfl (AEv.tmp rfl) (by kernel_rfl))) <|
        .cons rfl (Q_p rfl (S_field 0 rfl (AEv.tmp rfl) (by kernel_rfl))) <|
        .cons rfl (Q_p rfl (S_load 0 rfl (AEv.tmp rfl) rfl rfl (by kernel_rfl))) <|
        .cons rfl (Q_p rfl (S_assign rfl (AEv.S _))) <|
        .cons rfl (Q_p rfl (S_assign rfl (AEv.tmp rfl))) <|
        .nil) ?_
    refine AC_ret ?_
    refine ret_tmps (ts := [2, 3]) ([(b, Ob.cells [addrB u b 44 3, bufAV q l, .int .i64 c])] ++ F) rfl (by decide) rfl (Sub.l (.cons_cons _ (List.sublist_append_right _ _))) (Conv.refl (Sub.l (.cons_cons _ (List.sublist_append_right _ _))) _) ⟨_, ⟨_, by rw [if_neg (by assumption)], rfl⟩, rfl⟩ (.inl rfl)
  · try simp only [Bool.and_eq_true, Bool.or_eq_true, Bool.not_eq_true', Bool.not_eq_false', Bool.and_eq_false_iff, Bool.or_eq_false_iff, decide_eq_true_eq, decide_eq_false_iff_not, gd] at hb1
    have hc : c = 0 := by omega
    subst hc
    refine AC_skip ?_
    refine AC_seq ?_
    refine AC_region ?_
    refine AL_p rfl rfl (S_move rfl (AEv.tmp rfl)) ?_
    refine AL_p rfl rfl (S_nilCheck rfl (AEv.tmp rfl)) ?_
    refine AL_p rfl rfl (S_field 0 rfl (AEv.tmp rfl) (by kernel_rfl)) ?_
    refine AL_step rfl rfl (S_call rfl (AEvs.cons (AEv.tmp rfl) AEvs.nil) (String_ok b q l (addrB u b 44 3) [_] hq F)) ?_
    rintro _ _ ⟨_, ⟨rfl, rfl⟩, rfl⟩
    refine AL_p rfl rfl (S_assign rfl (AEv.tmp rfl)) ?_
    refine AL_p rfl rfl (S_assign rfl (AEv.const _)) ?_
    refine AL_nil ?_
    refine AC_ret ?_
    refine ret_tmps (ts := [2, 3]) ([(b, Ob.cells [addrB u b 44 3, bufAV q l, .int .i64 0])] ++ F) rfl (by decide) rfl (Sub.l (List.Sublist.refl _)) (Conv.refl (Sub.l (List.Sublist.refl _)) _) ⟨_, ⟨_, rfl, rfl⟩, rfl⟩ (.inl rfl)

end Go.Proofs.Ytbnimcdcgmjeaaa
