/-
The walks of Go functions in the logic AL: what each of them answers.
Conditions: those of each theorem.
-/
import Derived.Test.YtbnimcdcgmjeaaaWire04a
set_option linter.unusedVariables false
set_option linter.unusedSimpArgs false
namespace Go.Proofs.Ytbnimcdcgmjeaaa
open Go.AL Go.NumSpec

set_option maxRecDepth 100000 in
/-- provost/wire.Read -/
theorem wire_Read_ok (s : List UInt8) (F : St) : ACalls Try.prog 16 [.S s] ([] ++ F) (fun x st' => ∃ foot', (∃ b, x = .ptr b 0 ∧ foot' = [(b, Ob.cells [.S (s), .int .i64 (0)])]) ∧ st' = foot' ++ F) := by
  refine ACalls_of (N := 6) Try.func16 (by kernel_rfl) rfl rfl rfl ?_
  refine AC_seq ?_
  refine AC_region ?_
  refine AL_p rfl rfl (S_assign rfl (AEv.const _)) ?_
  refine AL_nil ?_
  refine AC_seq ?_
  refine AC_region ?_
  refine AL_p rfl rfl (S_move rfl (AEv.tmp rfl)) ?_
  refine AL_p rfl rfl (S_build (pl := [(0, 1), (1, 1)]) (zs := [.string ⟨#[]⟩, .int .i64 0]) rfl (AEvs.cons (AEv.tmp rfl) AEvs.nil) (by kernel_rfl) rfl) ?_
  refine AL_step rfl rfl (S_box rfl (AEv.tmp rfl)) ?_
  rintro _ _ ⟨b1, rfl, rfl⟩
  refine AL_p rfl rfl (S_assign rfl (AEv.tmp rfl)) ?_
  refine AL_nil ?_
  refine AC_ret ?_
  refine ret_tmp ([(b1, Ob.cells [.S (s), .int .i64 (0)])] ++ F) rfl rfl (Sub.l (List.Sublist.refl _)) (Conv.refl (Sub.l (List.Sublist.refl _)) _) ⟨_, ⟨b1, rfl, rfl⟩, rfl⟩ (.inl rfl)

set_option maxRecDepth 100000 in
/-- (*provost/wire.Reader).Left -/
theorem r_Left_ok (b : Nat) (s : List UInt8) (c : Int) (F : St) : ACalls Try.prog 22 [.ptr b 0] ([(b, Ob.cells [.S (s), .int .i64 (c)])] ++ F) (fun x st' => ∃ foot', (x = .int .i64 (s.length : Int) ∧ foot' = [(b, Ob.cells [.S (s), .int .i64 (c)])]) ∧ st' = foot' ++ F) := by
  refine ACalls_of (N := 8) Try.func22 (by kernel_rfl) rfl rfl rfl ?_
  refine AC_seq ?_
  refine AC_region ?_
  refine AL_p rfl rfl (S_assign rfl (AEv.const _)) ?_
  refine AL_nil ?_
  refine AC_seq ?_
  refine AC_region ?_
  refine AL_p rfl rfl (S_move rfl (AEv.tmp rfl)) ?_
  refine AL_p rfl rfl (S_nilCheck rfl (AEv.tmp rfl)) ?_
  refine AL_p rfl rfl (S_field 0 rfl (AEv.tmp rfl) (by kernel_rfl)) ?_
  refine AL_p rfl rfl (S_load 0 rfl (AEv.tmp rfl) rfl rfl (by kernel_rfl)) ?_
  refine AL_p rfl rfl (S_lenS (ts := #[]) rfl (AEv.tmp rfl) (by kernel_rfl)) ?_
  refine AL_p rfl rfl (S_assign rfl (AEv.tmp rfl)) ?_
  refine AL_nil ?_
  refine AC_ret ?_
  refine ret_tmp ([(b, Ob.cells [.S (s), .int .i64 (c)])] ++ F) rfl rfl (Sub.l (List.Sublist.refl _)) (Conv.refl (Sub.l (List.Sublist.refl _)) _) ⟨_, ⟨rfl, rfl⟩, rfl⟩ (.inl rfl)

set_option maxRecDepth 100000 in
/-- (*provost/wire.Reader).Code -/
theorem r_Code_ok (b : Nat) (s : List UInt8) (c : Int) (F : St) : ACalls Try.prog 23 [.ptr b 0] ([(b, Ob.cells [.S (s), .int .i64 (c)])] ++ F) (fun x st' => ∃ foot', (x = .int .i64 c ∧ foot' = [(b, Ob.cells [.S (s), .int .i64 (c)])]) ∧ st' = foot' ++ F) := by
  refine ACalls_of (N := 8) Try.func23 (by kernel_rfl) rfl rfl rfl ?_
  refine AC_seq ?_
  refine AC_region ?_
  refine AL_p rfl rfl (S_assign rfl (AEv.const _)) ?_
  refine AL_nil ?_
  refine AC_seq ?_
  refine AC_region ?_
  refine AL_p rfl rfl (S_move rfl (AEv.tmp rfl)) ?_
  refine AL_p rfl rfl (S_nilCheck rfl (AEv.tmp rfl)) ?_
  refine AL_p rfl rfl (S_field 1 rfl (AEv.tmp rfl) (by kernel_rfl)) ?_
  refine AL_p rfl rfl (S_field 0 rfl (AEv.tmp rfl) (by kernel_rfl)) ?_
  refine AL_p rfl rfl (S_load 0 rfl (AEv.tmp rfl) rfl rfl (by kernel_rfl)) ?_
  refine AL_p rfl rfl (S_assign rfl (AEv.tmp rfl)) ?_
  refine AL_nil ?_
  refine AC_ret ?_
  refine ret_tmp ([(b, Ob.cells [.S (s), .int .i64 (c)])] ++ F) rfl rfl (Sub.l (List.Sublist.refl _)) (Conv.refl (Sub.l (List.Sublist.refl _)) _) ⟨_, ⟨rfl, rfl⟩, rfl⟩ (.inl rfl)

set_option maxRecDepth 100000 in
/-- (*provost/wire.Reader).End -/
theorem r_End_ok (b : Nat) (s : List UInt8) (c : Int) (F : St) : ACalls Try.prog 21 [.ptr b 0] ([(b, Ob.cells [.S (s), .int .i64 (c)])] ++ F) (fun x st' => ∃ foot', (x = .int .i64 (endR s c) ∧ foot' = [(b, Ob.cells [.S (s), .int .i64 (endR s c)])]) ∧ st' = foot' ++ F) := by
  refine ACalls_of (N := 18) Try.func21 (by kernel_rfl) rfl rfl rfl ?_
  refine AC_seq ?_
  refine AC_region ?_
  refine AL_p rfl rfl (S_assign rfl (AEv.const _)) ?_
  refine AL_nil ?_
  refine AC_seq ?_
  refine AC_seq ?_
  refine AC_region ?_
  refine AL_p rfl rfl (S_move rfl (AEv.tmp rfl)) ?_
  refine AL_p rfl rfl (S_nilCheck rfl (AEv.tmp rfl)) ?_
  refine AL_p rfl rfl (S_field 0 rfl (AEv.tmp rfl) (by kernel_rfl)) ?_
  refine AL_p rfl rfl (S_load 0 rfl (AEv.tmp rfl) rfl rfl (by kernel_rfl)) ?_
  refine AL_p rfl rfl (S_lenS (ts := #[]) rfl (AEv.tmp rfl) (by kernel_rfl)) ?_
  refine AL_p rfl rfl (S_gtr rfl (AEv.tmp rfl) (AEv.const _)) ?_
  refine AL_nil ?_
  refine AC_cond (AEv.tmp rfl) (fun hb1 => ?_) (fun hb1 => ?_)
  · try simp only [Bool.and_eq_true, Bool.or_eq_true, Bool.not_eq_true', Bool.not_eq_false', Bool.and_eq_false_iff, Bool.or_eq_false_iff, decide_eq_true_eq, decide_eq_false_iff_not, gd] at hb1
    have he : endR s c = failC c 3 := by rw [endR, if_pos (by intro h; subst h; simp at hb1)]
    refine AC_region ?_
    refine AL_p rfl rfl (S_move rfl (AEv.tmp rfl)) ?_
    refine AL_p rfl rfl (S_nilCheck rfl (AEv.tmp rfl)) ?_
    refine AL_p rfl rfl (S_field 1 rfl (AEv.tmp rfl) (by kernel_rfl)) ?_
    refine AL_step rfl rfl (S_call rfl (AEvs.cons (AEv.tmp rfl) (AEvs.cons (AEv.const _) AEvs.nil)) (sticks_Fail_ok b 1 _ c 3 rfl _)) ?_
    rintro _ _ ⟨rfl, rfl⟩
    refine AL_nil ?_
    refine AC_seq ?_
    refine AC_region ?_
    refine AL_p rfl rfl (S_move rfl (AEv.tmp rfl)) ?_
    refine AL_p rfl rfl (S_nilCheck rfl (AEv.tmp rfl)) ?_
    refine AL_p rfl rfl (S_field 1 rfl (AEv.tmp rfl) (by kernel_rfl)) ?_
    refine AL_p rfl rfl (S_field 0 rfl (AEv.tmp rfl) (by kernel_rfl)) ?_
    refine AL_p rfl rfl (S_load 0 rfl (AEv.tmp rfl) rfl rfl (by kernel_rfl)) ?_
    refine AL_p rfl rfl (S_assign rfl (AEv.tmp rfl)) ?_
    refine AL_nil ?_
    refine AC_ret ?_
    refine ret_tmp ([(b, Ob.cells [.S (s), .int .i64 (failC c 3)])] ++ F) rfl rfl (Sub.l (List.Sublist.refl _)) (Conv.refl (Sub.l (List.Sublist.refl _)) _) ⟨_, ⟨by rw [he] <;> rfl, by rw [he] <;> rfl⟩, rfl⟩ (.inl rfl)
  · try simp only [Bool.and_eq_true, Bool.or_eq_true, Bool.not_eq_true', Bool.not_eq_false', Bool.and_eq_false_iff, Bool.or_eq_false_iff, decide_eq_true_eq, decide_eq_false_iff_not, gd] at hb1
    have hs : s = [] := List.eq_nil_of_length_eq_zero (by omega)
    have he : endR s c = c := by rw [endR, if_neg (by simp [hs])]
    refine AC_skip ?_
    refine AC_seq ?_
    refine AC_region ?_
    refine AL_p rfl rfl (S_move rfl (AEv.tmp rfl)) ?_
    refine AL_p rfl rfl (S_nilCheck rfl (AEv.tmp rfl)) ?_
    refine AL_p rfl rfl (S_field 1 rfl (AEv.tmp rfl) (by kernel_rfl)) ?_
    refine AL_p rfl rfl (S_field 0 rfl (AEv.tmp rfl) (by kernel_rfl)) ?_
    refine AL_p rfl rfl (S_load 0 rfl (AEv.tmp rfl) rfl rfl (by kernel_rfl)) ?_
    refine AL_p rfl rfl (S_assign rfl (AEv.tmp rfl)) ?_
    refine AL_nil ?_
    refine AC_ret ?_
    refine ret_tmp ([(b, Ob.cells [.S (s), .int .i64 (c)])] ++ F) rfl rfl (Sub.l (List.Sublist.refl _)) (Conv.refl (Sub.l (List.Sublist.refl _)) _) ⟨_, ⟨by rw [he] <;> rfl, by rw [he] <;> rfl⟩, rfl⟩ (.inl rfl)

set_option maxRecDepth 100000 in
/-- (*provost/wire.Reader).lacks -/
theorem r_lacks_ok (b : Nat) (s : List UInt8) (c : Int) (F : St) : ACalls Try.prog 27 [.ptr b 0] ([(b, Ob.cells [.S (s), .int .i64 (c)])] ++ F) (fun x st' => ∃ foot', (x = .bool (lacksV s) ∧ foot' = [(b, Ob.cells [.S (s), .int .i64 (c)])]) ∧ st' = foot' ++ F) := by
  refine ACalls_of (N := 27) Try.func27 (by kernel_rfl) rfl rfl rfl ?_
  refine AC_seq ?_
  refine AC_region ?_
  refine AL_p rfl rfl (S_assign rfl (AEv.const _)) ?_
  refine AL_nil ?_
  refine AC_seq ?_
  refine AC_seq ?_
  refine AC_region ?_
  refine AL_p rfl rfl (S_move rfl (AEv.tmp rfl)) ?_
  refine AL_p rfl rfl (S_nilCheck rfl (AEv.tmp rfl)) ?_
  refine AL_p rfl rfl (S_field 0 rfl (AEv.tmp rfl) (by kernel_rfl)) ?_
  refine AL_p rfl rfl (S_load 0 rfl (AEv.tmp rfl) rfl rfl (by kernel_rfl)) ?_
  refine AL_p rfl rfl (S_lenS (ts := #[]) rfl (AEv.tmp rfl) (by kernel_rfl)) ?_
  refine AL_p rfl rfl (S_min rfl (AEv.tmp rfl) (AEv.const _)) ?_
  refine AL_p rfl rfl (S_move rfl (AEv.const _)) ?_
  refine AL_nil ?_
  refine AC_block ?_
  refine AC_loop (G := Nat) (fun k => (k : Int) ≤ min (s.length : Int) 10 ∧ ∀ i : Nat, i < k → 128 ≤ (s.getD i 0).toNat) (fun k => [(0, .ptr b 0), (9, .int .i64 (min (s.length : Int) 10)), (10, .int .i64 (k : Int))]) (fun k => ([(b, Ob.cells [.S (s), .int .i64 (c)])] ++ F)) (fun k => 10 - k) (0) (⟨by omega, fun i hi => by omega⟩) rfl ?_ ?_
  · exact (.cons rfl (by first | exact Le.refl _ | exact Le.nils | exact Le.row _ _ _ _ | (exact Le.of_eq (by simp))) (.cons rfl (by first | exact Le.refl _ | exact Le.nils | exact Le.row _ _ _ _ | (exact Le.of_eq (by simp))) (.cons rfl (by first | exact Le.refl _ | exact Le.nils | exact Le.row _ _ _ _ | (exact Le.of_eq (by simp))) .nil)))
  · rintro k ⟨hk, hall⟩
    try dsimp only
    have hat := atL_nat s k
    refine AC_seq ?_
    refine AC_region ?_
    refine AL_p rfl rfl (S_lss rfl (AEv.tmp rfl) (AEv.tmp rfl)) ?_
    refine AL_nil ?_
    refine AC_seq ?_
    refine AC_cond (AEv.tmp rfl) (fun hb1 => ?_) (fun hb1 => ?_)
    · try simp only [Bool.and_eq_true, Bool.or_eq_true, Bool.not_eq_true', Bool.not_eq_false', Bool.and_eq_false_iff, Bool.or_eq_false_iff, decide_eq_true_eq, decide_eq_false_iff_not, gd] at hb1
      have hk1 : k < s.length := by omega
      have hk2 : k < 10 := by omega
      refine AC_skip ?_
      refine AC_seq ?_
      refine AC_block ?_
      refine AC_seq ?_
      refine AC_region ?_
      refine AL_p rfl rfl (S_move rfl (AEv.tmp rfl)) ?_
      refine AL_p rfl rfl (S_assign rfl (AEv.tmp rfl)) ?_
      refine AL_nil ?_
      refine AC_seq ?_
      refine AC_region ?_
      refine AL_p rfl rfl (S_move rfl (AEv.tmp rfl)) ?_
      refine AL_p rfl rfl (S_nilCheck rfl (AEv.tmp rfl)) ?_
      refine AL_p rfl rfl (S_field 0 rfl (AEv.tmp rfl) (by kernel_rfl)) ?_
      refine AL_p rfl rfl (S_load 0 rfl (AEv.tmp rfl) rfl rfl (by kernel_rfl)) ?_
      refine AL_p rfl rfl (S_move rfl (AEv.tmp rfl)) ?_
      refine AL_p rfl rfl (S_index rfl (AEv.tmp rfl) (AEv.tmp rfl) (by kernel_rfl) (by omega) (by omega)) ?_
      refine AL_p rfl rfl (S_lss rfl (AEv.tmp rfl) (AEv.const _)) ?_
      refine AL_nil ?_
      refine AC_cond (AEv.tmp rfl) (fun hb2 => ?_) (fun hb2 => ?_)
      · try simp only [Bool.and_eq_true, Bool.or_eq_true, Bool.not_eq_true', Bool.not_eq_false', Bool.and_eq_false_iff, Bool.or_eq_false_iff, decide_eq_true_eq, decide_eq_false_iff_not, gd] at hb2
        have hl := lacks_false hk1 hk2 (by omega)
        refine AC_seq ?_
        refine AC_region ?_
        refine AL_p rfl rfl (S_assign rfl (AEv.const _)) ?_
        refine AL_nil ?_
        refine AC_ret ?_
        refine ret_tmp ([(b, Ob.cells [.S (s), .int .i64 (c)])] ++ F) rfl rfl (Sub.l (List.Sublist.refl _)) (Conv.refl (Sub.l (List.Sublist.refl _)) _) ⟨_, ⟨by rw [hl], rfl⟩, rfl⟩ (.inl rfl)
      · try simp only [Bool.and_eq_true, Bool.or_eq_true, Bool.not_eq_true', Bool.not_eq_false', Bool.and_eq_false_iff, Bool.or_eq_false_iff, decide_eq_true_eq, decide_eq_false_iff_not, gd] at hb2
        refine AC_skip ?_
        refine AC_region ?_
        refine AL_p rfl rfl (S_addI rfl (AEv.tmp rfl) (AEv.const _) (by omega) (by omega)) ?_
        refine AL_p rfl rfl (S_move rfl (AEv.tmp rfl)) ?_
        refine AL_nil ?_
        refine ⟨k + 1, ⟨by omega, fun i hi => ?_⟩, by omega, rfl, .cons rfl (Le.refl _) (.cons rfl (Le.refl _) (.cons rfl (Le.of_eq (by rw [Int.natCast_add]; rfl)) .nil))⟩
        rcases Nat.lt_or_ge i k with h | h
        · exact hall i h
        · obtain rfl : i = k := by omega
          omega
    · try simp only [Bool.and_eq_true, Bool.or_eq_true, Bool.not_eq_true', Bool.not_eq_false', Bool.and_eq_false_iff, Bool.or_eq_false_iff, decide_eq_true_eq, decide_eq_false_iff_not, gd] at hb1
      have hl := lacks_end hall (by omega)
      refine AC_exit ?_
      refine AC_seq ?_
      refine AC_region ?_
      refine AL_p rfl rfl (S_move rfl (AEv.tmp rfl)) ?_
      refine AL_p rfl rfl (S_nilCheck rfl (AEv.tmp rfl)) ?_
      refine AL_p rfl rfl (S_field 0 rfl (AEv.tmp rfl) (by kernel_rfl)) ?_
      refine AL_p rfl rfl (S_load 0 rfl (AEv.tmp rfl) rfl rfl (by kernel_rfl)) ?_
      refine AL_p rfl rfl (S_lenS (ts := #[]) rfl (AEv.tmp rfl) (by kernel_rfl)) ?_
      refine AL_p rfl rfl (S_lss rfl (AEv.tmp rfl) (AEv.const _)) ?_
      refine AL_p rfl rfl (S_assign rfl (AEv.tmp rfl)) ?_
      refine AL_nil ?_
      refine AC_ret ?_
      refine ret_tmp ([(b, Ob.cells [.S (s), .int .i64 (c)])] ++ F) rfl rfl (Sub.l (List.Sublist.refl _)) (Conv.refl (Sub.l (List.Sublist.refl _)) _) ⟨_, ⟨by rw [hl], rfl⟩, rfl⟩ (.inl rfl)

set_option maxRecDepth 100000 in
/-- (*provost/wire.Reader).Big -/
theorem r_Big_ok (b : Nat) (s : List UInt8) (c : Int) (F : St) : ACalls Try.prog 18 [.ptr b 0] ([(b, Ob.cells [.S (s), .int .i64 (c)])] ++ F) (fun x st' => ∃ foot', (x = .int .u64 ((bigR s c).1 : Int) ∧ foot' = [(b, Ob.cells [.S ((bigR s c).2.1), .int .i64 ((bigR s c).2.2)])]) ∧ st' = foot' ++ F) := by
  refine ACalls_of (N := 41) Try.func18 (by kernel_rfl) rfl rfl rfl ?_
  have hle := takeV_le s
  refine AC_seq ?_
  refine AC_region ?_
  refine AL_p rfl rfl (S_assign rfl (AEv.const _)) ?_
  refine AL_nil ?_
  refine AC_seq ?_
  refine AC_seq ?_
  refine AC_region ?_
  refine AL_p rfl rfl (S_move rfl (AEv.tmp rfl)) ?_
  refine AL_p rfl rfl (S_nilCheck rfl (AEv.tmp rfl)) ?_
  refine AL_p rfl rfl (S_field 1 rfl (AEv.tmp rfl) (by kernel_rfl)) ?_
  refine AL_p rfl rfl (S_field 0 rfl (AEv.tmp rfl) (by kernel_rfl)) ?_
  refine AL_p rfl rfl (S_load 0 rfl (AEv.tmp rfl) rfl rfl (by kernel_rfl)) ?_
  refine AL_p rfl rfl (S_neq rfl (AEv.tmp rfl) (AEv.const _)) ?_
  refine AL_nil ?_
  refine AC_cond (AEv.tmp rfl) (fun hb1 => ?_) (fun hb1 => ?_)
  · try simp only [Bool.and_eq_true, Bool.or_eq_true, Bool.not_eq_true', Bool.not_eq_false', Bool.and_eq_false_iff, Bool.or_eq_false_iff, decide_eq_true_eq, decide_eq_false_iff_not, gd] at hb1
    have he := bigR_err (s := s) (c := c) (by omega)
    refine AC_seq ?_
    refine AC_region ?_
    refine AL_p rfl rfl (S_assign rfl (AEv.const _)) ?_
    refine AL_nil ?_
    refine AC_ret ?_
    refine ret_tmp ([(b, Ob.cells [.S (s), .int .i64 (c)])] ++ F) rfl rfl (Sub.l (List.Sublist.refl _)) (Conv.refl (Sub.l (List.Sublist.refl _)) _) ⟨_, ⟨by rw [he] <;> rfl, by rw [he] <;> rfl⟩, rfl⟩ (.inl rfl)
  · try simp only [Bool.and_eq_true, Bool.or_eq_true, Bool.not_eq_true', Bool.not_eq_false', Bool.and_eq_false_iff, Bool.or_eq_false_iff, decide_eq_true_eq, decide_eq_false_iff_not, gd] at hb1
    have hc : c = 0 := by omega
    subst hc
    refine AC_skip ?_
    refine AC_seq ?_
    refine AC_seq ?_
    refine AC_region ?_
    refine AL_p rfl rfl (S_move rfl (AEv.tmp rfl)) ?_
    refine AL_step rfl rfl (S_call rfl (AEvs.cons (AEv.tmp rfl) AEvs.nil) (r_lacks_ok b s _ F)) ?_
    rintro _ _ ⟨_, ⟨rfl, rfl⟩, rfl⟩
    refine AL_nil ?_
    refine AC_cond (AEv.tmp rfl) (fun hb2 => ?_) (fun hb2 => ?_)
    · try simp only [Bool.and_eq_true, Bool.or_eq_true, Bool.not_eq_true', Bool.not_eq_false', Bool.and_eq_false_iff, Bool.or_eq_false_iff, decide_eq_true_eq, decide_eq_false_iff_not, gd] at hb2
      have he := bigR_lack (s := s) hb2
      refine AC_seq ?_
      refine AC_region ?_
      refine AL_p rfl rfl (S_move rfl (AEv.tmp rfl)) ?_
      refine AL_p rfl rfl (S_nilCheck rfl (AEv.tmp rfl)) ?_
      refine AL_p rfl rfl (S_field 1 rfl (AEv.tmp rfl) (by kernel_rfl)) ?_
      refine AL_step rfl rfl (S_call rfl (AEvs.cons (AEv.tmp rfl) (AEvs.cons (AEv.const _) AEvs.nil)) (sticks_Fail_ok b 1 _ _ 40 rfl _)) ?_
      rintro _ _ ⟨rfl, rfl⟩
      refine AL_nil ?_
      refine AC_seq ?_
      refine AC_region ?_
      refine AL_p rfl rfl (S_assign rfl (AEv.const _)) ?_
      refine AL_nil ?_
      refine AC_ret ?_
      refine ret_tmp ([(b, Ob.cells [.S (s), .int .i64 (40)])] ++ F) rfl rfl (Sub.l (List.Sublist.refl _)) (Conv.refl (Sub.l (List.Sublist.refl _)) _) ⟨_, ⟨by rw [he] <;> rfl, by rw [he] <;> rfl⟩, rfl⟩ (.inl rfl)
    · try simp only [Bool.and_eq_true, Bool.or_eq_true, Bool.not_eq_true', Bool.not_eq_false', Bool.and_eq_false_iff, Bool.or_eq_false_iff, decide_eq_true_eq, decide_eq_false_iff_not, gd] at hb2
      have hl : lacksV s = false := hb2
      refine AC_skip ?_
      refine AC_seq ?_
      refine AC_region ?_
      refine AL_p rfl rfl (S_move rfl (AEv.tmp rfl)) ?_
      refine AL_p rfl rfl (S_nilCheck rfl (AEv.tmp rfl)) ?_
      refine AL_p rfl rfl (S_field 0 rfl (AEv.tmp rfl) (by kernel_rfl)) ?_
      refine AL_p rfl rfl (S_load 0 rfl (AEv.tmp rfl) rfl rfl (by kernel_rfl)) ?_
      refine AL_p rfl rfl (S_pcall rfl (AEvs.cons (AEv.tmp rfl) AEvs.nil) (num_Take_ok _)) ?_
      refine AL_p rfl rfl (S_move rfl (AEv.tmp rfl)) ?_
      refine AL_p rfl rfl (S_extract 0 rfl (AEv.tmp rfl) rfl) ?_
      refine AL_p rfl rfl (S_extract 1 rfl (AEv.tmp rfl) rfl) ?_
      refine AL_p rfl rfl (S_assign rfl (AEv.tmp rfl)) ?_
      refine AL_p rfl rfl (S_assign rfl (AEv.tmp rfl)) ?_
      refine AL_nil ?_
      refine AC_seq ?_
      refine AC_seq ?_
      refine AC_region ?_
      refine AL_p rfl rfl (S_move rfl (AEv.tmp rfl)) ?_
      refine AL_p rfl rfl (S_eql rfl (AEv.tmp rfl) (AEv.const _)) ?_
      refine AL_nil ?_
      refine AC_cond (AEv.tmp rfl) (fun hb3 => ?_) (fun hb3 => ?_)
      · try simp only [Bool.and_eq_true, Bool.or_eq_true, Bool.not_eq_true', Bool.not_eq_false', Bool.and_eq_false_iff, Bool.or_eq_false_iff, decide_eq_true_eq, decide_eq_false_iff_not, gd] at hb3
        have he := bigR_form hl (by omega)
        refine AC_seq ?_
        refine AC_region ?_
        refine AL_p rfl rfl (S_move rfl (AEv.tmp rfl)) ?_
        refine AL_p rfl rfl (S_nilCheck rfl (AEv.tmp rfl)) ?_
        refine AL_p rfl rfl (S_field 1 rfl (AEv.tmp rfl) (by kernel_rfl)) ?_
        refine AL_step rfl rfl (S_call rfl (AEvs.cons (AEv.tmp rfl) (AEvs.cons (AEv.const _) AEvs.nil)) (sticks_Fail_ok b 1 _ _ 3 rfl _)) ?_
        rintro _ _ ⟨rfl, rfl⟩
        refine AL_nil ?_
        refine AC_seq ?_
        refine AC_region ?_
        refine AL_p rfl rfl (S_assign rfl (AEv.const _)) ?_
        refine AL_nil ?_
        refine AC_ret ?_
        refine ret_tmp ([(b, Ob.cells [.S (s), .int .i64 (3)])] ++ F) rfl rfl (Sub.l (List.Sublist.refl _)) (Conv.refl (Sub.l (List.Sublist.refl _)) _) ⟨_, ⟨by rw [he] <;> rfl, by rw [he] <;> rfl⟩, rfl⟩ (.inl rfl)
      · try simp only [Bool.and_eq_true, Bool.or_eq_true, Bool.not_eq_true', Bool.not_eq_false', Bool.and_eq_false_iff, Bool.or_eq_false_iff, decide_eq_true_eq, decide_eq_false_iff_not, gd] at hb3
        have he := bigR_ok hl (by omega)
        refine AC_skip ?_
        refine AC_seq ?_
        refine AC_region ?_
        refine AL_p rfl rfl (S_move rfl (AEv.tmp rfl)) ?_
        refine AL_p rfl rfl (S_move rfl (AEv.tmp rfl)) ?_
        refine AL_p rfl rfl (S_nilCheck rfl (AEv.tmp rfl)) ?_
        refine AL_p rfl rfl (S_field 0 rfl (AEv.tmp rfl) (by kernel_rfl)) ?_
        refine AL_p rfl rfl (S_load 0 rfl (AEv.tmp rfl) rfl rfl (by kernel_rfl)) ?_
        refine AL_p rfl rfl (S_move rfl (AEv.tmp rfl)) ?_
        refine AL_p rfl rfl (S_sliceL rfl (AEv.tmp rfl) (AEv.tmp rfl) (by kernel_rfl) (by omega) (by omega)) ?_
        refine AL_p rfl rfl (S_nilCheck rfl (AEv.tmp rfl)) ?_
        refine AL_p rfl rfl (S_field 0 rfl (AEv.tmp rfl) (by kernel_rfl)) ?_
        refine AL_step rfl rfl (S_store 0 rfl (AEv.tmp rfl) (AEv.tmp rfl) rfl (by first | exact Nat.le_of_ble_eq_true rfl | simp) rfl (by kernel_rfl)) ?_
        rintro _ _ ⟨rfl, rfl⟩
        refine AL_nil ?_
        refine AC_seq ?_
        refine AC_region ?_
        refine AL_p rfl rfl (S_move rfl (AEv.tmp rfl)) ?_
        refine AL_p rfl rfl (S_assign rfl (AEv.tmp rfl)) ?_
        refine AL_nil ?_
        refine AC_ret ?_
        refine ret_tmp ([(b, Ob.cells [.S (s.drop (takeV s).2), .int .i64 (0)])] ++ F) rfl rfl (Sub.l (List.Sublist.refl _)) (Conv.refl (Sub.l (List.Sublist.refl _)) _) ⟨_, ⟨by rw [he] <;> rfl, by rw [he] <;> rfl⟩, rfl⟩ (.inl rfl)

set_option maxRecDepth 100000 in
/-- (*provost/wire.Reader).Num -/
theorem r_Num_ok (b : Nat) (s : List UInt8) (c : Int) (most : Int) (hm : fits most) (F : St) : ACalls Try.prog 17 [.ptr b 0, .int .i64 most] ([(b, Ob.cells [.S (s), .int .i64 (c)])] ++ F) (fun x st' => ∃ foot', (x = .int .i64 (numR s c most).1 ∧ foot' = [(b, Ob.cells [.S ((numR s c most).2.1), .int .i64 ((numR s c most).2.2)])]) ∧ st' = foot' ++ F) := by
  refine ACalls_of (N := 42) Try.func17 (by kernel_rfl) rfl rfl rfl ?_
  have hlt := bigR_lt s c
  unfold fits at hm
  have hw := u64w (max most 0)
  refine AC_seq ?_
  refine AC_region ?_
  refine AL_p rfl rfl (S_assign rfl (AEv.const _)) ?_
  refine AL_nil ?_
  refine AC_seq ?_
  refine AC_region ?_
  refine AL_p rfl rfl (S_move rfl (AEv.tmp rfl)) ?_
  refine AL_p rfl rfl (S_nilCheck rfl (AEv.tmp rfl)) ?_
  refine AL_p rfl rfl (S_field 0 rfl (AEv.tmp rfl) (by kernel_rfl)) ?_
  refine AL_p rfl rfl (S_load 0 rfl (AEv.tmp rfl) rfl rfl (by kernel_rfl)) ?_
  refine AL_p rfl rfl (S_assign rfl (AEv.tmp rfl)) ?_
  refine AL_nil ?_
  refine AC_seq ?_
  refine AC_region ?_
  refine AL_p rfl rfl (S_move rfl (AEv.tmp rfl)) ?_
  refine AL_step rfl rfl (S_call rfl (AEvs.cons (AEv.tmp rfl) AEvs.nil) (r_Big_ok b s c F)) ?_
  rintro _ _ ⟨_, ⟨rfl, rfl⟩, rfl⟩
  refine AL_p rfl rfl (S_assign rfl (AEv.tmp rfl)) ?_
  refine AL_nil ?_
  refine AC_seq ?_
  refine AC_seq ?_
  refine AC_region ?_
  refine AL_p rfl rfl (S_move rfl (AEv.tmp rfl)) ?_
  refine AL_p rfl rfl (S_nilCheck rfl (AEv.tmp rfl)) ?_
  refine AL_p rfl rfl (S_field 1 rfl (AEv.tmp rfl) (by kernel_rfl)) ?_
  refine AL_p rfl rfl (S_field 0 rfl (AEv.tmp rfl) (by kernel_rfl)) ?_
  refine AL_p rfl rfl (S_load 0 rfl (AEv.tmp rfl) rfl rfl (by kernel_rfl)) ?_
  refine AL_p rfl rfl (S_eql rfl (AEv.tmp rfl) (AEv.const _)) ?_
  refine AL_p rfl rfl (S_move rfl (AEv.tmp rfl)) ?_
  refine AL_g rfl rfl (AEv.tmp rfl) rfl (fun hg1 => S_move rfl (AEv.tmp rfl)) ?_
  refine AL_g rfl rfl (AEv.tmp rfl) rfl (fun hg4 => S_move rfl (AEv.tmp rfl)) ?_
  refine AL_g rfl rfl (AEv.tmp rfl) rfl (fun hg7 => S_max rfl (AEv.cond (AEv.tmp rfl) (by first | assumption | exact gdAnd (by assumption) (by assumption))) (AEv.const _)) ?_
  refine AL_g rfl rfl (AEv.tmp rfl) rfl (fun hg10 => S_conv (k' := .u64) rfl (AEv.cond (AEv.tmp rfl) (by first | assumption | exact gdAnd (by assumption) (by assumption))) (by kernel_rfl) (by kernel_rfl)) ?_
  refine AL_g rfl rfl (AEv.tmp rfl) rfl (fun hg13 => S_gtr rfl (AEv.cond (AEv.tmp rfl) (by first | assumption | exact gdAnd (by assumption) (by assumption))) (AEv.cond (AEv.tmp rfl) (by first | assumption | exact gdAnd (by assumption) (by assumption)))) ?_
  refine AL_p rfl rfl (S_and rfl (AEv.tmp rfl) (fun hp16 => (AEv.cond (AEv.tmp rfl) (by first | assumption | exact gdT hp16 | exact gdF hp16 | exact gdAnd (by assumption) (gdT hp16) | exact gdAnd (by assumption) (gdF hp16))))) ?_
  refine AL_nil ?_
  refine AC_cond (AEv.tmp rfl) (fun hb17 => ?_) (fun hb17 => ?_)
  · try simp only [Bool.and_eq_true, Bool.or_eq_true, Bool.not_eq_true', Bool.not_eq_false', Bool.and_eq_false_iff, Bool.or_eq_false_iff, decide_eq_true_eq, decide_eq_false_iff_not, gd] at hb17
    have hc : (bigR s c).2.2 = 0 := by omega
    have he : numR s c most = (0, s, 2) := by rw [numR, if_pos ⟨hc, by omega⟩]
    rw [hc]
    refine AC_seq ?_
    refine AC_region ?_
    refine AL_p rfl rfl (S_move rfl (AEv.tmp rfl)) ?_
    refine AL_p rfl rfl (S_move rfl (AEv.tmp rfl)) ?_
    refine AL_p rfl rfl (S_nilCheck rfl (AEv.tmp rfl)) ?_
    refine AL_p rfl rfl (S_field 0 rfl (AEv.tmp rfl) (by kernel_rfl)) ?_
    refine AL_step rfl rfl (S_store 0 rfl (AEv.tmp rfl) (AEv.tmp rfl) rfl (by first | exact Nat.le_of_ble_eq_true rfl | simp) rfl (by kernel_rfl)) ?_
    rintro _ _ ⟨rfl, rfl⟩
    refine AL_nil ?_
    refine AC_region ?_
    refine AL_p rfl rfl (S_move rfl (AEv.tmp rfl)) ?_
    refine AL_p rfl rfl (S_nilCheck rfl (AEv.tmp rfl)) ?_
    refine AL_p rfl rfl (S_field 1 rfl (AEv.tmp rfl) (by kernel_rfl)) ?_
    refine AL_step rfl rfl (S_call rfl (AEvs.cons (AEv.tmp rfl) (AEvs.cons (AEv.const _) AEvs.nil)) (sticks_Fail_ok b 1 _ _ 2 rfl _)) ?_
    rintro _ _ ⟨rfl, rfl⟩
    refine AL_nil ?_
    refine AC_seq ?_
    refine AC_seq ?_
    refine AC_region ?_
    refine AL_p rfl rfl (S_move rfl (AEv.tmp rfl)) ?_
    refine AL_p rfl rfl (S_nilCheck rfl (AEv.tmp rfl)) ?_
    refine AL_p rfl rfl (S_field 1 rfl (AEv.tmp rfl) (by kernel_rfl)) ?_
    refine AL_p rfl rfl (S_field 0 rfl (AEv.tmp rfl) (by kernel_rfl)) ?_
    refine AL_p rfl rfl (S_load 0 rfl (AEv.tmp rfl) rfl rfl (by kernel_rfl)) ?_
    refine AL_p rfl rfl (S_neq rfl (AEv.tmp rfl) (AEv.const _)) ?_
    refine AL_nil ?_
    refine AC_cond (AEv.tmp rfl) (fun hb18 => ?_) (fun hb18 => ?_)
    · try simp only [Bool.and_eq_true, Bool.or_eq_true, Bool.not_eq_true', Bool.not_eq_false', Bool.and_eq_false_iff, Bool.or_eq_false_iff, decide_eq_true_eq, decide_eq_false_iff_not, gd] at hb18
      refine AC_seq ?_
      refine AC_region ?_
      refine AL_p rfl rfl (S_assign rfl (AEv.const _)) ?_
      refine AL_nil ?_
      refine AC_ret ?_
      refine ret_tmp ([(b, Ob.cells [.S (s), .int .i64 (2)])] ++ F) rfl rfl (Sub.l (List.Sublist.refl _)) (Conv.refl (Sub.l (List.Sublist.refl _)) _) ⟨_, ⟨by rw [he] <;> rfl, by rw [he] <;> rfl⟩, rfl⟩ (.inl rfl)
    · exact absurd hb18 (by decide)
  · try simp only [Bool.and_eq_true, Bool.or_eq_true, Bool.not_eq_true', Bool.not_eq_false', Bool.and_eq_false_iff, Bool.or_eq_false_iff, decide_eq_true_eq, decide_eq_false_iff_not, gd] at hb17
    have hne : ¬ ((bigR s c).2.2 = 0 ∧ max most 0 < (bigR s c).1) := by omega
    refine AC_skip ?_
    refine AC_seq ?_
    refine AC_seq ?_
    refine AC_region ?_
    refine AL_p rfl rfl (S_move rfl (AEv.tmp rfl)) ?_
    refine AL_p rfl rfl (S_nilCheck rfl (AEv.tmp rfl)) ?_
    refine AL_p rfl rfl (S_field 1 rfl (AEv.tmp rfl) (by kernel_rfl)) ?_
    refine AL_p rfl rfl (S_field 0 rfl (AEv.tmp rfl) (by kernel_rfl)) ?_
    refine AL_p rfl rfl (S_load 0 rfl (AEv.tmp rfl) rfl rfl (by kernel_rfl)) ?_
    refine AL_p rfl rfl (S_neq rfl (AEv.tmp rfl) (AEv.const _)) ?_
    refine AL_nil ?_
    refine AC_cond (AEv.tmp rfl) (fun hb19 => ?_) (fun hb19 => ?_)
    · try simp only [Bool.and_eq_true, Bool.or_eq_true, Bool.not_eq_true', Bool.not_eq_false', Bool.and_eq_false_iff, Bool.or_eq_false_iff, decide_eq_true_eq, decide_eq_false_iff_not, gd] at hb19
      refine AC_seq ?_
      refine AC_region ?_
      refine AL_p rfl rfl (S_assign rfl (AEv.const _)) ?_
      refine AL_nil ?_
      refine AC_ret ?_
      refine ret_tmp ([(b, Ob.cells [.S ((bigR s c).2.1), .int .i64 ((bigR s c).2.2)])] ++ F) rfl rfl (Sub.l (List.Sublist.refl _)) (Conv.refl (Sub.l (List.Sublist.refl _)) _) ⟨_, ⟨by rw [numR, if_neg hne, if_pos (by assumption)], by rw [numR, if_neg hne, if_pos (by assumption)]⟩, rfl⟩ (.inl rfl)
    · try simp only [Bool.and_eq_true, Bool.or_eq_true, Bool.not_eq_true', Bool.not_eq_false', Bool.and_eq_false_iff, Bool.or_eq_false_iff, decide_eq_true_eq, decide_eq_false_iff_not, gd] at hb19
      refine AC_skip ?_
      refine AC_seq ?_
      refine AC_region ?_
      refine AL_p rfl rfl (S_move rfl (AEv.tmp rfl)) ?_
      refine AL_p rfl rfl (S_conv (k' := .i64) rfl (AEv.tmp rfl) (by kernel_rfl) (by kernel_rfl)) ?_
      refine AL_p rfl rfl (S_assign rfl (AEv.tmp rfl)) ?_
      refine AL_nil ?_
      refine AC_ret ?_
      refine ret_tmp ([(b, Ob.cells [.S ((bigR s c).2.1), .int .i64 ((bigR s c).2.2)])] ++ F) rfl rfl (Sub.l (List.Sublist.refl _)) (Conv.refl (Sub.l (List.Sublist.refl _)) _) ⟨_, ⟨by rw [numR, if_neg hne, if_neg (by omega)]; rw [wrap_i64 (by omega) (by omega)], by rw [numR, if_neg hne, if_neg (by omega)]; rw [show (bigR s c).2.2 = 0 by omega]⟩, rfl⟩ (.inl rfl)

set_option maxRecDepth 100000 in
/-- (*provost/wire.Reader).Text -/
theorem r_Text_ok (b : Nat) (s : List UInt8) (c : Int) (most : Int) (hm : fits most) (F : St) : ACalls Try.prog 19 [.ptr b 0, .int .i64 most] ([(b, Ob.cells [.S (s), .int .i64 (c)])] ++ F) (fun x st' => ∃ foot', (x = .S (textR s c most).1 ∧ foot' = [(b, Ob.cells [.S ((textR s c most).2.1), .int .i64 ((textR s c most).2.2)])]) ∧ st' = foot' ++ F) := by
  refine ACalls_of (N := 43) Try.func19 (by kernel_rfl) rfl rfl rfl ?_
  have h0 := numR_nonneg s c most
  have herr := numR_err (s := s) (c := c) (most := most)
  refine AC_seq ?_
  refine AC_region ?_
  refine AL_p rfl rfl (S_assign rfl (AEv.S _)) ?_
  refine AL_nil ?_
  refine AC_seq ?_
  refine AC_region ?_
  refine AL_p rfl rfl (S_move rfl (AEv.tmp rfl)) ?_
  refine AL_p rfl rfl (S_move rfl (AEv.tmp rfl)) ?_
  refine AL_step rfl rfl (S_call rfl (AEvs.cons (AEv.tmp rfl) (AEvs.cons (AEv.tmp rfl) AEvs.nil)) (r_Num_ok b s c most hm F)) ?_
  rintro _ _ ⟨_, ⟨rfl, rfl⟩, rfl⟩
  refine AL_p rfl rfl (S_assign rfl (AEv.tmp rfl)) ?_
  refine AL_nil ?_
  refine AC_seq ?_
  refine AC_seq ?_
  refine AC_region ?_
  refine AL_p rfl rfl (S_move rfl (AEv.tmp rfl)) ?_
  refine AL_p rfl rfl (S_move rfl (AEv.tmp rfl)) ?_
  refine AL_p rfl rfl (S_nilCheck rfl (AEv.tmp rfl)) ?_
  refine AL_p rfl rfl (S_field 0 rfl (AEv.tmp rfl) (by kernel_rfl)) ?_
  refine AL_p rfl rfl (S_load 0 rfl (AEv.tmp rfl) rfl rfl (by kernel_rfl)) ?_
  refine AL_p rfl rfl (S_lenS (ts := #[]) rfl (AEv.tmp rfl) (by kernel_rfl)) ?_
  refine AL_p rfl rfl (S_gtr rfl (AEv.tmp rfl) (AEv.tmp rfl)) ?_
  refine AL_nil ?_
  refine AC_cond (AEv.tmp rfl) (fun hb1 => ?_) (fun hb1 => ?_)
  · try simp only [Bool.and_eq_true, Bool.or_eq_true, Bool.not_eq_true', Bool.not_eq_false', Bool.and_eq_false_iff, Bool.or_eq_false_iff, decide_eq_true_eq, decide_eq_false_iff_not, gd] at hb1
    have hc : (numR s c most).2.2 = 0 := Decidable.byContradiction fun h => by have := herr h; omega
    have he : textR s c most = ([], (numR s c most).2.1, 40) := by rw [textR, if_pos ⟨hc, by omega⟩]
    rw [hc]
    refine AC_region ?_
    refine AL_p rfl rfl (S_move rfl (AEv.tmp rfl)) ?_
    refine AL_p rfl rfl (S_nilCheck rfl (AEv.tmp rfl)) ?_
    refine AL_p rfl rfl (S_field 1 rfl (AEv.tmp rfl) (by kernel_rfl)) ?_
    refine AL_step rfl rfl (S_call rfl (AEvs.cons (AEv.tmp rfl) (AEvs.cons (AEv.const _) AEvs.nil)) (sticks_Fail_ok b 1 _ _ 40 rfl _)) ?_
    rintro _ _ ⟨rfl, rfl⟩
    refine AL_nil ?_
    refine AC_seq ?_
    refine AC_seq ?_
    refine AC_region ?_
    refine AL_p rfl rfl (S_move rfl (AEv.tmp rfl)) ?_
    refine AL_p rfl rfl (S_nilCheck rfl (AEv.tmp rfl)) ?_
    refine AL_p rfl rfl (S_field 1 rfl (AEv.tmp rfl) (by kernel_rfl)) ?_
    refine AL_p rfl rfl (S_field 0 rfl (AEv.tmp rfl) (by kernel_rfl)) ?_
    refine AL_p rfl rfl (S_load 0 rfl (AEv.tmp rfl) rfl rfl (by kernel_rfl)) ?_
    refine AL_p rfl rfl (S_neq rfl (AEv.tmp rfl) (AEv.const _)) ?_
    refine AL_nil ?_
    refine AC_cond (AEv.tmp rfl) (fun hb2 => ?_) (fun hb2 => ?_)
    · try simp only [Bool.and_eq_true, Bool.or_eq_true, Bool.not_eq_true', Bool.not_eq_false', Bool.and_eq_false_iff, Bool.or_eq_false_iff, decide_eq_true_eq, decide_eq_false_iff_not, gd] at hb2
      refine AC_seq ?_
      refine AC_region ?_
      refine AL_p rfl rfl (S_assign rfl (AEv.S _)) ?_
      refine AL_nil ?_
      refine AC_ret ?_
      refine ret_tmp ([(b, Ob.cells [.S ((numR s c most).2.1), .int .i64 (40)])] ++ F) rfl rfl (Sub.l (List.Sublist.refl _)) (Conv.refl (Sub.l (List.Sublist.refl _)) _) ⟨_, ⟨by rw [he] <;> rfl, by rw [he] <;> rfl⟩, rfl⟩ (.inl rfl)
    · exact absurd hb2 (by decide)
  · try simp only [Bool.and_eq_true, Bool.or_eq_true, Bool.not_eq_true', Bool.not_eq_false', Bool.and_eq_false_iff, Bool.or_eq_false_iff, decide_eq_true_eq, decide_eq_false_iff_not, gd] at hb1
    have hne : ¬ ((numR s c most).2.2 = 0 ∧ ((numR s c most).2.1.length : Int) < (numR s c most).1) := by omega
    refine AC_skip ?_
    refine AC_seq ?_
    refine AC_seq ?_
    refine AC_region ?_
    refine AL_p rfl rfl (S_move rfl (AEv.tmp rfl)) ?_
    refine AL_p rfl rfl (S_nilCheck rfl (AEv.tmp rfl)) ?_
    refine AL_p rfl rfl (S_field 1 rfl (AEv.tmp rfl) (by kernel_rfl)) ?_
    refine AL_p rfl rfl (S_field 0 rfl (AEv.tmp rfl) (by kernel_rfl)) ?_
    refine AL_p rfl rfl (S_load 0 rfl (AEv.tmp rfl) rfl rfl (by kernel_rfl)) ?_
    refine AL_p rfl rfl (S_neq rfl (AEv.tmp rfl) (AEv.const _)) ?_
    refine AL_nil ?_
    refine AC_cond (AEv.tmp rfl) (fun hb3 => ?_) (fun hb3 => ?_)
    · try simp only [Bool.and_eq_true, Bool.or_eq_true, Bool.not_eq_true', Bool.not_eq_false', Bool.and_eq_false_iff, Bool.or_eq_false_iff, decide_eq_true_eq, decide_eq_false_iff_not, gd] at hb3
      refine AC_seq ?_
      refine AC_region ?_
      refine AL_p rfl rfl (S_assign rfl (AEv.S _)) ?_
      refine AL_nil ?_
      refine AC_ret ?_
      refine ret_tmp ([(b, Ob.cells [.S ((numR s c most).2.1), .int .i64 ((numR s c most).2.2)])] ++ F) rfl rfl (Sub.l (List.Sublist.refl _)) (Conv.refl (Sub.l (List.Sublist.refl _)) _) ⟨_, ⟨by rw [textR, if_neg hne, if_pos (by assumption)], by rw [textR, if_neg hne, if_pos (by assumption)]⟩, rfl⟩ (.inl rfl)
    · try simp only [Bool.and_eq_true, Bool.or_eq_true, Bool.not_eq_true', Bool.not_eq_false', Bool.and_eq_false_iff, Bool.or_eq_false_iff, decide_eq_true_eq, decide_eq_false_iff_not, gd] at hb3
      refine AC_skip ?_
      refine AC_seq ?_
      refine AC_region ?_
      refine AL_p rfl rfl (S_move rfl (AEv.tmp rfl)) ?_
      refine AL_p rfl rfl (S_nilCheck rfl (AEv.tmp rfl)) ?_
      refine AL_p rfl rfl (S_field 0 rfl (AEv.tmp rfl) (by kernel_rfl)) ?_
      refine AL_p rfl rfl (S_load 0 rfl (AEv.tmp rfl) rfl rfl (by kernel_rfl)) ?_
      refine AL_p rfl rfl (S_move rfl (AEv.tmp rfl)) ?_
      refine AL_p rfl rfl (S_sliceH rfl (AEv.tmp rfl) (AEv.tmp rfl) (by kernel_rfl) (by omega) (by omega)) ?_
      refine AL_p rfl rfl (S_assign rfl (AEv.tmp rfl)) ?_
      refine AL_nil ?_
      refine AC_seq ?_
      refine AC_region ?_
      refine AL_p rfl rfl (S_move rfl (AEv.tmp rfl)) ?_
      refine AL_p rfl rfl (S_move rfl (AEv.tmp rfl)) ?_
      refine AL_p rfl rfl (S_nilCheck rfl (AEv.tmp rfl)) ?_
      refine AL_p rfl rfl (S_field 0 rfl (AEv.tmp rfl) (by kernel_rfl)) ?_
      refine AL_p rfl rfl (S_load 0 rfl (AEv.tmp rfl) rfl rfl (by kernel_rfl)) ?_
      refine AL_p rfl rfl (S_move rfl (AEv.tmp rfl)) ?_
      refine AL_p rfl rfl (S_sliceL rfl (AEv.tmp rfl) (AEv.tmp rfl) (by kernel_rfl) (by omega) (by omega)) ?_
      refine AL_p rfl rfl (S_nilCheck rfl (AEv.tmp rfl)) ?_
      refine AL_p rfl rfl (S_field 0 rfl (AEv.tmp rfl) (by kernel_rfl)) ?_
      refine AL_step rfl rfl (S_store 0 rfl (AEv.tmp rfl) (AEv.tmp rfl) rfl (by first | exact Nat.le_of_ble_eq_true rfl | simp) rfl (by kernel_rfl)) ?_
      rintro _ _ ⟨rfl, rfl⟩
      refine AL_nil ?_
      refine AC_seq ?_
      refine AC_region ?_
      refine AL_p rfl rfl (S_move rfl (AEv.tmp rfl)) ?_
      refine AL_p rfl rfl (S_assign rfl (AEv.tmp rfl)) ?_
      refine AL_nil ?_
      refine AC_ret ?_
      refine ret_tmp ([(b, Ob.cells [.S ((numR s c most).2.1.drop (numR s c most).1.toNat), .int .i64 ((numR s c most).2.2)])] ++ F) rfl rfl (Sub.l (List.Sublist.refl _)) (Conv.refl (Sub.l (List.Sublist.refl _)) _) ⟨_, ⟨by rw [textR, if_neg hne, if_neg (by omega)], by rw [textR, if_neg hne, if_neg (by omega)]; rw [show (numR s c most).2.2 = 0 by omega]⟩, rfl⟩ (.inl rfl)

set_option maxRecDepth 100000 in
/-- (*provost/wire.Reader).Bool -/
theorem r_Bool_ok (b : Nat) (s : List UInt8) (c : Int) (F : St) : ACalls Try.prog 20 [.ptr b 0] ([(b, Ob.cells [.S (s), .int .i64 (c)])] ++ F) (fun x st' => ∃ foot', (x = .bool (boolR s c).1 ∧ foot' = [(b, Ob.cells [.S ((boolR s c).2.1), .int .i64 ((boolR s c).2.2)])]) ∧ st' = foot' ++ F) := by
  refine ACalls_of (N := 47) Try.func20 (by kernel_rfl) rfl rfl rfl ?_
  refine AC_seq ?_
  refine AC_region ?_
  refine AL_p rfl rfl (S_assign rfl (AEv.const _)) ?_
  refine AL_nil ?_
  refine AC_seq ?_
  refine AC_block ?_
  refine AC_seq ?_
  refine AC_region ?_
  refine AL_p rfl rfl (S_move rfl (AEv.tmp rfl)) ?_
  refine AL_p rfl rfl (S_nilCheck rfl (AEv.tmp rfl)) ?_
  refine AL_p rfl rfl (S_field 1 rfl (AEv.tmp rfl) (by kernel_rfl)) ?_
  refine AL_p rfl rfl (S_field 0 rfl (AEv.tmp rfl) (by kernel_rfl)) ?_
  refine AL_p rfl rfl (S_load 0 rfl (AEv.tmp rfl) rfl rfl (by kernel_rfl)) ?_
  refine AL_p rfl rfl (S_neq rfl (AEv.tmp rfl) (AEv.const _)) ?_
  refine AL_p rfl rfl (S_assign rfl (AEv.tmp rfl)) ?_
  refine AL_nil ?_
  refine AC_cond (AEv.tmp rfl) (fun hb1 => ?_) (fun hb1 => ?_)
  · try simp only [Bool.and_eq_true, Bool.or_eq_true, Bool.not_eq_true', Bool.not_eq_false', Bool.and_eq_false_iff, Bool.or_eq_false_iff, decide_eq_true_eq, decide_eq_false_iff_not, gd] at hb1
    have he := boolR_err (s := s) (c := c) (by omega)
    refine AC_seq ?_
    refine AC_region ?_
    refine AL_p rfl rfl (S_assign rfl (AEv.const _)) ?_
    refine AL_nil ?_
    refine AC_ret ?_
    refine ret_tmp ([(b, Ob.cells [.S (s), .int .i64 (c)])] ++ F) rfl rfl (Sub.l (List.Sublist.refl _)) (Conv.refl (Sub.l (List.Sublist.refl _)) _) ⟨_, ⟨by rw [he] <;> rfl, by rw [he] <;> rfl⟩, rfl⟩ (.inl rfl)
  · try simp only [Bool.and_eq_true, Bool.or_eq_true, Bool.not_eq_true', Bool.not_eq_false', Bool.and_eq_false_iff, Bool.or_eq_false_iff, decide_eq_true_eq, decide_eq_false_iff_not, gd] at hb1
    have hc : c = 0 := by omega
    subst hc
    refine AC_seq ?_
    refine AC_region ?_
    refine AL_p rfl rfl (S_move rfl (AEv.tmp rfl)) ?_
    refine AL_p rfl rfl (S_nilCheck rfl (AEv.tmp rfl)) ?_
    refine AL_p rfl rfl (S_field 0 rfl (AEv.tmp rfl) (by kernel_rfl)) ?_
    refine AL_p rfl rfl (S_load 0 rfl (AEv.tmp rfl) rfl rfl (by kernel_rfl)) ?_
    refine AL_p rfl rfl (S_eqS rfl (AEv.tmp rfl) (AEv.S _)) ?_
    refine AL_p rfl rfl (S_assign rfl (AEv.tmp rfl)) ?_
    refine AL_nil ?_
    refine AC_cond (AEv.tmp rfl) (fun hb2 => ?_) (fun hb2 => ?_)
    · try simp only [Bool.and_eq_true, Bool.or_eq_true, Bool.not_eq_true', Bool.not_eq_false', Bool.and_eq_false_iff, Bool.or_eq_false_iff, decide_eq_true_eq, decide_eq_false_iff_not, gd] at hb2
      subst hb2
      have he : boolR [] 0 = (false, [], 40) := rfl
      refine AC_seq ?_
      refine AC_region ?_
      refine AL_p rfl rfl (S_move rfl (AEv.tmp rfl)) ?_
      refine AL_p rfl rfl (S_nilCheck rfl (AEv.tmp rfl)) ?_
      refine AL_p rfl rfl (S_field 1 rfl (AEv.tmp rfl) (by kernel_rfl)) ?_
      refine AL_step rfl rfl (S_call rfl (AEvs.cons (AEv.tmp rfl) (AEvs.cons (AEv.const _) AEvs.nil)) (sticks_Fail_ok b 1 _ _ 40 rfl _)) ?_
      rintro _ _ ⟨rfl, rfl⟩
      refine AL_nil ?_
      refine AC_seq ?_
      refine AC_region ?_
      refine AL_p rfl rfl (S_assign rfl (AEv.const _)) ?_
      refine AL_nil ?_
      refine AC_ret ?_
      refine ret_tmp ([(b, Ob.cells [.S ([]), .int .i64 (40)])] ++ F) rfl rfl (Sub.l (List.Sublist.refl _)) (Conv.refl (Sub.l (List.Sublist.refl _)) _) ⟨_, ⟨by rw [he] <;> rfl, by rw [he] <;> rfl⟩, rfl⟩ (.inl rfl)
    · try simp only [Bool.and_eq_true, Bool.or_eq_true, Bool.not_eq_true', Bool.not_eq_false', Bool.and_eq_false_iff, Bool.or_eq_false_iff, decide_eq_true_eq, decide_eq_false_iff_not, gd] at hb2
      obtain ⟨x, t, rfl⟩ := List.exists_cons_of_ne_nil hb2
      have hx : atL (x :: t) 0 = (x.toNat : Int) := rfl
      have hxl : (x :: t).length = t.length + 1 := rfl
      refine AC_seq ?_
      refine AC_region ?_
      refine AL_p rfl rfl (S_move rfl (AEv.tmp rfl)) ?_
      refine AL_p rfl rfl (S_nilCheck rfl (AEv.tmp rfl)) ?_
      refine AL_p rfl rfl (S_field 0 rfl (AEv.tmp rfl) (by kernel_rfl)) ?_
      refine AL_p rfl rfl (S_load 0 rfl (AEv.tmp rfl) rfl rfl (by kernel_rfl)) ?_
      refine AL_p rfl rfl (S_index rfl (AEv.tmp rfl) (AEv.const _) (by kernel_rfl) (by omega) (by omega)) ?_
      refine AL_p rfl rfl (S_gtr rfl (AEv.tmp rfl) (AEv.const _)) ?_
      refine AL_p rfl rfl (S_assign rfl (AEv.tmp rfl)) ?_
      refine AL_nil ?_
      refine AC_cond (AEv.tmp rfl) (fun hb3 => ?_) (fun hb3 => ?_)
      · try simp only [Bool.and_eq_true, Bool.or_eq_true, Bool.not_eq_true', Bool.not_eq_false', Bool.and_eq_false_iff, Bool.or_eq_false_iff, decide_eq_true_eq, decide_eq_false_iff_not, gd] at hb3
        have he := boolR_form (x := x) (t := t) (by omega)
        refine AC_seq ?_
        refine AC_region ?_
        refine AL_p rfl rfl (S_move rfl (AEv.tmp rfl)) ?_
        refine AL_p rfl rfl (S_nilCheck rfl (AEv.tmp rfl)) ?_
        refine AL_p rfl rfl (S_field 1 rfl (AEv.tmp rfl) (by kernel_rfl)) ?_
        refine AL_step rfl rfl (S_call rfl (AEvs.cons (AEv.tmp rfl) (AEvs.cons (AEv.const _) AEvs.nil)) (sticks_Fail_ok b 1 _ _ 3 rfl _)) ?_
        rintro _ _ ⟨rfl, rfl⟩
        refine AL_nil ?_
        refine AC_seq ?_
        refine AC_region ?_
        refine AL_p rfl rfl (S_assign rfl (AEv.const _)) ?_
        refine AL_nil ?_
        refine AC_ret ?_
        refine ret_tmp ([(b, Ob.cells [.S (x :: t), .int .i64 (3)])] ++ F) rfl rfl (Sub.l (List.Sublist.refl _)) (Conv.refl (Sub.l (List.Sublist.refl _)) _) ⟨_, ⟨by rw [he] <;> rfl, by rw [he] <;> rfl⟩, rfl⟩ (.inl rfl)
      · try simp only [Bool.and_eq_true, Bool.or_eq_true, Bool.not_eq_true', Bool.not_eq_false', Bool.and_eq_false_iff, Bool.or_eq_false_iff, decide_eq_true_eq, decide_eq_false_iff_not, gd] at hb3
        have he := boolR_ok (x := x) (t := t) (by omega)
        refine AC_skip ?_
        refine AC_seq ?_
        refine AC_region ?_
        refine AL_p rfl rfl (S_move rfl (AEv.tmp rfl)) ?_
        refine AL_p rfl rfl (S_nilCheck rfl (AEv.tmp rfl)) ?_
        refine AL_p rfl rfl (S_field 0 rfl (AEv.tmp rfl) (by kernel_rfl)) ?_
        refine AL_p rfl rfl (S_load 0 rfl (AEv.tmp rfl) rfl rfl (by kernel_rfl)) ?_
        refine AL_p rfl rfl (S_index rfl (AEv.tmp rfl) (AEv.const _) (by kernel_rfl) (by omega) (by omega)) ?_
        refine AL_p rfl rfl (S_eql rfl (AEv.tmp rfl) (AEv.const _)) ?_
        refine AL_p rfl rfl (S_assign rfl (AEv.tmp rfl)) ?_
        refine AL_nil ?_
        refine AC_seq ?_
        refine AC_region ?_
        refine AL_p rfl rfl (S_move rfl (AEv.tmp rfl)) ?_
        refine AL_p rfl rfl (S_move rfl (AEv.tmp rfl)) ?_
        refine AL_p rfl rfl (S_nilCheck rfl (AEv.tmp rfl)) ?_
        refine AL_p rfl rfl (S_field 0 rfl (AEv.tmp rfl) (by kernel_rfl)) ?_
        refine AL_p rfl rfl (S_load 0 rfl (AEv.tmp rfl) rfl rfl (by kernel_rfl)) ?_
        refine AL_p rfl rfl (S_sliceL rfl (AEv.tmp rfl) (AEv.const _) (by kernel_rfl) (by omega) (by omega)) ?_
        refine AL_p rfl rfl (S_nilCheck rfl (AEv.tmp rfl)) ?_
        refine AL_p rfl rfl (S_field 0 rfl (AEv.tmp rfl) (by kernel_rfl)) ?_
        refine AL_step rfl rfl (S_store 0 rfl (AEv.tmp rfl) (AEv.tmp rfl) rfl (by first | exact Nat.le_of_ble_eq_true rfl | simp) rfl (by kernel_rfl)) ?_
        rintro _ _ ⟨rfl, rfl⟩
        refine AL_nil ?_
        refine AC_seq ?_
        refine AC_region ?_
        refine AL_p rfl rfl (S_move rfl (AEv.tmp rfl)) ?_
        refine AL_p rfl rfl (S_assign rfl (AEv.tmp rfl)) ?_
        refine AL_nil ?_
        refine AC_ret ?_
        refine ret_tmp ([(b, Ob.cells [.S (t), .int .i64 (0)])] ++ F) rfl rfl (Sub.l (List.Sublist.refl _)) (Conv.refl (Sub.l (List.Sublist.refl _)) _) ⟨_, ⟨by rw [he, hx]; exact congrArg _ (decide_eq_decide.2 (by omega)), by rw [he] <;> rfl⟩, rfl⟩ (.inl rfl)

end Go.Proofs.Ytbnimcdcgmjeaaa
