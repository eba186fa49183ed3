import Derived.Test.YtfdcadnaginnpaaDoorSpecPartsW1
/-
The walks of Go functions in the logic AL: what each of them answers.
Conditions: those of each theorem.
-/
set_option linter.unusedVariables false
set_option linter.unusedSimpArgs false
namespace Go.Proofs.YtfdcadnaginnpaaDoor
open Go.AL Go.NumSpec

set_option maxRecDepth 100000 in
/-- provost/provostbook.lightContainers -/
theorem book_lightContainers_ok (l : List Ctr) (hl : l.length ≤ 1000) : PCalls Tryd.prog 12 [.sl (ctrsV l)] (.bool (l.all lightC)) := by
  intro st
  refine ACalls_of (N := 35) Tryd.func12 (by kernel_rfl) rfl rfl rfl ?_
  have hll : (ctrsV l).length = l.length := by simp [ctrsV]
  refine AC_seq ?_
  refine AC_region ?_
  refine AL_p rfl rfl (S_assign rfl (AEv.const _)) ?_
  refine AL_nil ?_
  refine AC_seq ?_
  refine AC_seq ?_
  refine AC_region ?_
  refine AL_p rfl rfl (S_assign rfl (AEv.const _)) ?_
  refine AL_nil ?_
  refine AC_block ?_
  refine AC_loop (G := Nat) (fun i => i ≤ l.length ∧ (l.take i).all lightC = true) (fun i => [(0, .sl (ctrsV l)), (3, .int .i64 (i : Int))]) (fun i => st) (fun i => l.length - i) (0) (⟨Nat.zero_le _, by simp⟩) rfl ?_ ?_
  · exact .cons rfl (Le.refl _) (.cons rfl (Le.refl _) .nil)
  · rintro i ⟨hi, hall⟩
    try dsimp only
    refine AC_seq ?_
    refine AC_seq ?_
    refine AC_region ?_
    refine AL_p rfl rfl (S_move rfl (AEv.tmp rfl)) ?_
    refine AL_p rfl rfl (S_move rfl (AEv.tmp rfl)) ?_
    refine AL_p rfl rfl (S_len (e := 38) rfl (AEv.tmp rfl) (by kernel_rfl)) ?_
    refine AL_p rfl rfl (S_lss rfl (AEv.tmp rfl) (AEv.tmp rfl)) ?_
    refine AL_nil ?_
    refine AC_cond (AEv.tmp rfl) (fun hb1 => ?_) (fun hb1 => ?_)
    · try simp only [Bool.and_eq_true, Bool.or_eq_true, Bool.not_eq_true', Bool.not_eq_false', Bool.and_eq_false_iff, Bool.or_eq_false_iff, decide_eq_true_eq, decide_eq_false_iff_not, gd] at hb1
      have hil : i < l.length := by omega
      have hpl := intsV_len (l[i]'hil).ports
      refine AC_skip ?_
      refine AC_seq ?_
      refine AC_block ?_
      refine AC_seq ?_
      refine AC_region ?_
      refine AL_p rfl rfl (S_move rfl (AEv.tmp rfl)) ?_
      refine AL_p rfl rfl (S_move rfl (AEv.tmp rfl)) ?_
      refine AL_p rfl rfl (S_elem (e := 38) (c := ctrAV (l[i]'hil)) (i := (i : Int)) 11 rfl (AEv.tmp rfl) (AEv.tmp rfl) (by kernel_rfl) (by kernel_rfl) (by omega) (by simp [ctrsV, hil]) rfl) ?_
      refine AL_p rfl rfl (S_fieldP 0 rfl (AEv.tmp rfl) (by kernel_rfl)) ?_
      refine AL_p rfl rfl (S_loadP rfl (AEv.tmp rfl) rfl (by kernel_rfl)) ?_
      refine AL_p rfl rfl (S_lenS (ts := #[]) rfl (AEv.tmp rfl) (by kernel_rfl)) ?_
      refine AL_p rfl rfl (S_gtr rfl (AEv.tmp rfl) (AEv.const _)) ?_
      refine AL_p rfl rfl (S_move rfl (AEv.tmp rfl)) ?_
      refine AL_g rfl rfl (AEv.tmp rfl) rfl (fun hg2 => S_move rfl (AEv.tmp rfl)) ?_
      refine AL_g rfl rfl (AEv.tmp rfl) rfl (fun hg5 => S_move rfl (AEv.tmp rfl)) ?_
      refine AL_g rfl rfl (AEv.tmp rfl) rfl (fun hg8 => S_elem (e := 38) (c := ctrAV (l[i]'hil)) (i := (i : Int)) 11 rfl (AEv.cond (AEv.tmp rfl) (by first | assumption | exact gdAnd (by assumption) (by assumption))) (AEv.cond (AEv.tmp rfl) (by first | assumption | exact gdAnd (by assumption) (by assumption))) (by kernel_rfl) (by kernel_rfl) (by omega) (by simp [ctrsV, hil]) rfl) ?_
      refine AL_g rfl rfl (AEv.tmp rfl) rfl (fun hg11 => S_fieldP 1 rfl (AEv.cond (AEv.tmp rfl) (by first | assumption | exact gdAnd (by assumption) (by assumption))) (by kernel_rfl)) ?_
      refine AL_g rfl rfl (AEv.tmp rfl) rfl (fun hg14 => S_loadP rfl (AEv.cond (AEv.tmp rfl) (by first | assumption | exact gdAnd (by assumption) (by assumption))) rfl (by kernel_rfl)) ?_
      refine AL_g rfl rfl (AEv.tmp rfl) rfl (fun hg17 => S_lenS (ts := #[]) rfl (AEv.cond (AEv.tmp rfl) (by first | assumption | exact gdAnd (by assumption) (by assumption))) (by kernel_rfl)) ?_
      refine AL_g rfl rfl (AEv.tmp rfl) rfl (fun hg20 => S_gtr rfl (AEv.cond (AEv.tmp rfl) (by first | assumption | exact gdAnd (by assumption) (by assumption))) (AEv.const _)) ?_
      refine AL_p rfl rfl (S_or rfl (AEv.tmp rfl) (fun hp23 => (AEv.cond (AEv.tmp rfl) (by first | assumption | exact gdT hp23 | exact gdF hp23 | exact gdAnd (by assumption) (gdT hp23) | exact gdAnd (by assumption) (gdF hp23))))) ?_
      refine AL_p rfl rfl (S_move rfl (AEv.tmp rfl)) ?_
      refine AL_g rfl rfl (AEv.tmp rfl) rfl (fun hg24 => S_move rfl (AEv.tmp rfl)) ?_
      refine AL_g rfl rfl (AEv.tmp rfl) rfl (fun hg27 => S_move rfl (AEv.tmp rfl)) ?_
      refine AL_g rfl rfl (AEv.tmp rfl) rfl (fun hg30 => S_elem (e := 38) (c := ctrAV (l[i]'hil)) (i := (i : Int)) 11 rfl (AEv.cond (AEv.tmp rfl) (by first | assumption | exact gdAnd (by assumption) (by assumption))) (AEv.cond (AEv.tmp rfl) (by first | assumption | exact gdAnd (by assumption) (by assumption))) (by kernel_rfl) (by kernel_rfl) (by omega) (by simp [ctrsV, hil]) rfl) ?_
      refine AL_g rfl rfl (AEv.tmp rfl) rfl (fun hg33 => S_fieldP 8 rfl (AEv.cond (AEv.tmp rfl) (by first | assumption | exact gdAnd (by assumption) (by assumption))) (by kernel_rfl)) ?_
      refine AL_g rfl rfl (AEv.tmp rfl) rfl (fun hg36 => S_loadP rfl (AEv.cond (AEv.tmp rfl) (by first | assumption | exact gdAnd (by assumption) (by assumption))) rfl (by kernel_rfl)) ?_
      refine AL_g rfl rfl (AEv.tmp rfl) rfl (fun hg39 => S_len (e := 3) rfl (AEv.cond (AEv.tmp rfl) (by first | assumption | exact gdAnd (by assumption) (by assumption))) (by kernel_rfl)) ?_
      refine AL_g rfl rfl (AEv.tmp rfl) rfl (fun hg42 => S_gtr rfl (AEv.cond (AEv.tmp rfl) (by first | assumption | exact gdAnd (by assumption) (by assumption))) (AEv.const _)) ?_
      refine AL_p rfl rfl (S_or rfl (AEv.tmp rfl) (fun hp45 => (AEv.cond (AEv.tmp rfl) (by first | assumption | exact gdT hp45 | exact gdF hp45 | exact gdAnd (by assumption) (gdT hp45) | exact gdAnd (by assumption) (gdF hp45))))) ?_
      refine AL_nil ?_
      refine AC_cond (AEv.tmp rfl) (fun hb46 => ?_) (fun hb46 => ?_)
      · try simp only [Bool.and_eq_true, Bool.or_eq_true, Bool.not_eq_true', Bool.not_eq_false', Bool.and_eq_false_iff, Bool.or_eq_false_iff, decide_eq_true_eq, decide_eq_false_iff_not, gd] at hb46
        have hc : lightC (l[i]'hil) = false := by unfold lightC; rw [decide_eq_false_iff_not]; omega
        have hf : l.all lightC = false := List.all_eq_false.2 ⟨_, List.getElem_mem hil, by rw [hc]; simp⟩
        refine AC_seq ?_
        refine AC_region ?_
        refine AL_p rfl rfl (S_assign rfl (AEv.const _)) ?_
        refine AL_nil ?_
        refine AC_ret ?_
        refine ret_tmp st rfl rfl (Sub.l (List.Sublist.refl _)) (Conv.refl (Sub.l (List.Sublist.refl _)) _) ⟨by rw [hf], rfl⟩ (.inl rfl)
      · try simp only [Bool.and_eq_true, Bool.or_eq_true, Bool.not_eq_true', Bool.not_eq_false', Bool.and_eq_false_iff, Bool.or_eq_false_iff, decide_eq_true_eq, decide_eq_false_iff_not, gd] at hb46
        have hc : lightC (l[i]'hil) = true := by unfold lightC; rw [decide_eq_true_eq]; omega
        refine AC_skip ?_
        refine AC_region ?_
        refine AL_p rfl rfl (S_move rfl (AEv.tmp rfl)) ?_
        refine AL_p rfl rfl (S_addI rfl (AEv.tmp rfl) (AEv.const _) (by omega) (by omega)) ?_
        refine AL_p rfl rfl (S_assign rfl (AEv.tmp rfl)) ?_
        refine AL_nil ?_
        refine ⟨i + 1, ⟨by omega, by rw [List.take_succ_eq_append_getElem hil, List.all_append, hall]; simp [hc]⟩, by omega, rfl, .cons rfl (Le.refl _) (.cons rfl (Le.of_eq (by rw [Int.natCast_add]; rfl)) .nil)⟩
    · try simp only [Bool.and_eq_true, Bool.or_eq_true, Bool.not_eq_true', Bool.not_eq_false', Bool.and_eq_false_iff, Bool.or_eq_false_iff, decide_eq_true_eq, decide_eq_false_iff_not, gd] at hb1
      have ht : l.all lightC = true := by rw [List.take_of_length_le (by omega)] at hall; exact hall
      refine AC_exit ?_
      refine AC_seq ?_
      refine AC_region ?_
      refine AL_p rfl rfl (S_assign rfl (AEv.const _)) ?_
      refine AL_nil ?_
      refine AC_ret ?_
      refine ret_tmp st rfl rfl (Sub.l (List.Sublist.refl _)) (Conv.refl (Sub.l (List.Sublist.refl _)) _) ⟨by rw [ht], rfl⟩ (.inl rfl)

set_option maxRecDepth 100000 in
/-- provost/provostbook.LightSpec -/
theorem book_LightSpec_ok (s : Spc) : PCalls Tryd.prog 5 [spcAV s] (.bool (lightS s)) := by
  intro st
  refine ACalls_of (N := 61) Tryd.func5 (by kernel_rfl) rfl rfl rfl ?_
  have h1 : (labsV s.labels).length = s.labels.length := by simp [labsV]
  have h2 : (ctrsV s.init).length = s.init.length := by simp [ctrsV]
  have h3 : (ctrsV s.main).length = s.main.length := by simp [ctrsV]
  refine AC_seq ?_
  refine AC_region ?_
  refine AL_step rfl rfl (S_box rfl (AEv.tmp rfl)) ?_
  rintro _ _ ⟨b1, rfl, rfl⟩
  refine AL_p rfl rfl (S_assign rfl (AEv.const _)) ?_
  refine AL_nil ?_
  refine AC_seq ?_
  refine AC_region ?_
  refine AL_p rfl rfl (S_field 0 rfl (AEv.tmp rfl) (by kernel_rfl)) ?_
  refine AL_p rfl rfl (S_load 0 rfl (AEv.tmp rfl) rfl rfl (by kernel_rfl)) ?_
  refine AL_p rfl rfl (S_lenS (ts := #[]) rfl (AEv.tmp rfl) (by kernel_rfl)) ?_
  refine AL_p rfl rfl (S_assign rfl (AEv.tmp rfl)) ?_
  refine AL_nil ?_
  refine AC_seq ?_
  refine AC_seq ?_
  refine AC_region ?_
  refine AL_p rfl rfl (S_move rfl (AEv.tmp rfl)) ?_
  refine AL_p rfl rfl (S_gtr rfl (AEv.tmp rfl) (AEv.const _)) ?_
  refine AL_p rfl rfl (S_move rfl (AEv.tmp rfl)) ?_
  refine AL_g rfl rfl (AEv.tmp rfl) rfl (fun hg2 => S_field 1 rfl (AEv.tmp rfl) (by kernel_rfl)) ?_
  refine AL_g rfl rfl (AEv.tmp rfl) rfl (fun hg5 => S_load 0 rfl (AEv.cond (AEv.tmp rfl) (by first | assumption | exact gdAnd (by assumption) (by assumption))) rfl rfl (by kernel_rfl)) ?_
  refine AL_g rfl rfl (AEv.tmp rfl) rfl (fun hg8 => S_len (e := 45) rfl (AEv.cond (AEv.tmp rfl) (by first | assumption | exact gdAnd (by assumption) (by assumption))) (by kernel_rfl)) ?_
  refine AL_g rfl rfl (AEv.tmp rfl) rfl (fun hg11 => S_gtr rfl (AEv.cond (AEv.tmp rfl) (by first | assumption | exact gdAnd (by assumption) (by assumption))) (AEv.const _)) ?_
  refine AL_p rfl rfl (S_or rfl (AEv.tmp rfl) (fun hp14 => (AEv.cond (AEv.tmp rfl) (by first | assumption | exact gdT hp14 | exact gdF hp14 | exact gdAnd (by assumption) (gdT hp14) | exact gdAnd (by assumption) (gdF hp14))))) ?_
  refine AL_p rfl rfl (S_move rfl (AEv.tmp rfl)) ?_
  refine AL_g rfl rfl (AEv.tmp rfl) rfl (fun hg15 => S_field 2 rfl (AEv.tmp rfl) (by kernel_rfl)) ?_
  refine AL_g rfl rfl (AEv.tmp rfl) rfl (fun hg18 => S_load 0 rfl (AEv.cond (AEv.tmp rfl) (by first | assumption | exact gdAnd (by assumption) (by assumption))) rfl rfl (by kernel_rfl)) ?_
  refine AL_g rfl rfl (AEv.tmp rfl) rfl (fun hg21 => S_len (e := 38) rfl (AEv.cond (AEv.tmp rfl) (by first | assumption | exact gdAnd (by assumption) (by assumption))) (by kernel_rfl)) ?_
  refine AL_g rfl rfl (AEv.tmp rfl) rfl (fun hg24 => S_gtr rfl (AEv.cond (AEv.tmp rfl) (by first | assumption | exact gdAnd (by assumption) (by assumption))) (AEv.const _)) ?_
  refine AL_p rfl rfl (S_or rfl (AEv.tmp rfl) (fun hp27 => (AEv.cond (AEv.tmp rfl) (by first | assumption | exact gdT hp27 | exact gdF hp27 | exact gdAnd (by assumption) (gdT hp27) | exact gdAnd (by assumption) (gdF hp27))))) ?_
  refine AL_p rfl rfl (S_move rfl (AEv.tmp rfl)) ?_
  refine AL_g rfl rfl (AEv.tmp rfl) rfl (fun hg28 => S_field 3 rfl (AEv.tmp rfl) (by kernel_rfl)) ?_
  refine AL_g rfl rfl (AEv.tmp rfl) rfl (fun hg31 => S_load 0 rfl (AEv.cond (AEv.tmp rfl) (by first | assumption | exact gdAnd (by assumption) (by assumption))) rfl rfl (by kernel_rfl)) ?_
  refine AL_g rfl rfl (AEv.tmp rfl) rfl (fun hg34 => S_len (e := 38) rfl (AEv.cond (AEv.tmp rfl) (by first | assumption | exact gdAnd (by assumption) (by assumption))) (by kernel_rfl)) ?_
  refine AL_g rfl rfl (AEv.tmp rfl) rfl (fun hg37 => S_gtr rfl (AEv.cond (AEv.tmp rfl) (by first | assumption | exact gdAnd (by assumption) (by assumption))) (AEv.const _)) ?_
  refine AL_p rfl rfl (S_or rfl (AEv.tmp rfl) (fun hp40 => (AEv.cond (AEv.tmp rfl) (by first | assumption | exact gdT hp40 | exact gdF hp40 | exact gdAnd (by assumption) (gdT hp40) | exact gdAnd (by assumption) (gdF hp40))))) ?_
  refine AL_nil ?_
  refine AC_cond (AEv.tmp rfl) (fun hb41 => ?_) (fun hb41 => ?_)
  · try simp only [Bool.and_eq_true, Bool.or_eq_true, Bool.not_eq_true', Bool.not_eq_false', Bool.and_eq_false_iff, Bool.or_eq_false_iff, decide_eq_true_eq, decide_eq_false_iff_not, gd] at hb41
    have hf : lightS s = false := by
      unfold lightS
      rw [show decide (s.name.length ≤ 100 ∧ s.labels.length ≤ 10 ∧ s.init.length ≤ 8 ∧ s.main.length ≤ 8) = false from decide_eq_false (by omega)]
      rfl
    refine AC_seq ?_
    refine AC_region ?_
    refine AL_p rfl rfl (S_assign rfl (AEv.const _)) ?_
    refine AL_nil ?_
    refine AC_ret ?_
    refine ret_tmp st rfl rfl (Sub.l (List.Sublist.cons _ (List.Sublist.refl _))) (Conv.refl (Sub.l (List.Sublist.cons _ (List.Sublist.refl _))) _) ⟨by rw [hf], rfl⟩ (.inl rfl)
  · try simp only [Bool.and_eq_true, Bool.or_eq_true, Bool.not_eq_true', Bool.not_eq_false', Bool.and_eq_false_iff, Bool.or_eq_false_iff, decide_eq_true_eq, decide_eq_false_iff_not, gd] at hb41
    have hb : s.name.length ≤ 100 ∧ s.labels.length ≤ 10 ∧ s.init.length ≤ 8 ∧ s.main.length ≤ 8 := by omega
    refine AC_skip ?_
    refine AC_seq ?_
    refine AC_seq ?_
    refine AC_region ?_
    refine AL_p rfl rfl (S_assign rfl (AEv.const _)) ?_
    refine AL_nil ?_
    refine AC_block ?_
    refine AC_loop (G := Nat) (fun i => i ≤ s.labels.length ∧ (s.labels.take i).all lightL = true) (fun i => [(1, .ptr b1 0), (4, .int .i64 (i : Int))]) (fun i => (b1, .cells (spcL s)) :: st) (fun i => s.labels.length - i) (0) (⟨Nat.zero_le _, by simp⟩) rfl ?_ ?_
    · exact .cons rfl (Le.refl _) (.cons rfl (Le.refl _) .nil)
    · rintro i ⟨hi, hall⟩
      try dsimp only
      refine AC_seq ?_
      refine AC_seq ?_
      refine AC_region ?_
      refine AL_p rfl rfl (S_move rfl (AEv.tmp rfl)) ?_
      refine AL_p rfl rfl (S_field 1 rfl (AEv.tmp rfl) (by kernel_rfl)) ?_
      refine AL_p rfl rfl (S_load 0 rfl (AEv.tmp rfl) rfl rfl (by kernel_rfl)) ?_
      refine AL_p rfl rfl (S_len (e := 45) rfl (AEv.tmp rfl) (by kernel_rfl)) ?_
      refine AL_p rfl rfl (S_lss rfl (AEv.tmp rfl) (AEv.tmp rfl)) ?_
      refine AL_nil ?_
      refine AC_cond (AEv.tmp rfl) (fun hb42 => ?_) (fun hb42 => ?_)
      · try simp only [Bool.and_eq_true, Bool.or_eq_true, Bool.not_eq_true', Bool.not_eq_false', Bool.and_eq_false_iff, Bool.or_eq_false_iff, decide_eq_true_eq, decide_eq_false_iff_not, gd] at hb42
        have hil : i < s.labels.length := by omega
        refine AC_skip ?_
        refine AC_seq ?_
        refine AC_block ?_
        refine AC_seq ?_
        refine AC_region ?_
        refine AL_p rfl rfl (S_field 1 rfl (AEv.tmp rfl) (by kernel_rfl)) ?_
        refine AL_p rfl rfl (S_load 0 rfl (AEv.tmp rfl) rfl rfl (by kernel_rfl)) ?_
        refine AL_p rfl rfl (S_move rfl (AEv.tmp rfl)) ?_
        refine AL_p rfl rfl (S_elem (e := 45) (c := labAV (s.labels[i]'hil)) (i := (i : Int)) 2 rfl (AEv.tmp rfl) (AEv.tmp rfl) (by kernel_rfl) (by kernel_rfl) (by omega) (by simp [labsV, hil]) rfl) ?_
        refine AL_p rfl rfl (S_fieldP 0 rfl (AEv.tmp rfl) (by kernel_rfl)) ?_
        refine AL_p rfl rfl (S_loadP rfl (AEv.tmp rfl) rfl (by kernel_rfl)) ?_
        refine AL_p rfl rfl (S_lenS (ts := #[]) rfl (AEv.tmp rfl) (by kernel_rfl)) ?_
        refine AL_p rfl rfl (S_gtr rfl (AEv.tmp rfl) (AEv.const _)) ?_
        refine AL_p rfl rfl (S_move rfl (AEv.tmp rfl)) ?_
        refine AL_g rfl rfl (AEv.tmp rfl) rfl (fun hg43 => S_field 1 rfl (AEv.tmp rfl) (by kernel_rfl)) ?_
        refine AL_g rfl rfl (AEv.tmp rfl) rfl (fun hg46 => S_load 0 rfl (AEv.cond (AEv.tmp rfl) (by first | assumption | exact gdAnd (by assumption) (by assumption))) rfl rfl (by kernel_rfl)) ?_
        refine AL_g rfl rfl (AEv.tmp rfl) rfl (fun hg49 => S_move rfl (AEv.tmp rfl)) ?_
        refine AL_g rfl rfl (AEv.tmp rfl) rfl (fun hg52 => S_elem (e := 45) (c := labAV (s.labels[i]'hil)) (i := (i : Int)) 2 rfl (AEv.cond (AEv.tmp rfl) (by first | assumption | exact gdAnd (by assumption) (by assumption))) (AEv.cond (AEv.tmp rfl) (by first | assumption | exact gdAnd (by assumption) (by assumption))) (by kernel_rfl) (by kernel_rfl) (by omega) (by simp [labsV, hil]) rfl) ?_
        refine AL_g rfl rfl (AEv.tmp rfl) rfl (fun hg55 => S_fieldP 1 rfl (AEv.cond (AEv.tmp rfl) (by first | assumption | exact gdAnd (by assumption) (by assumption))) (by kernel_rfl)) ?_
        refine AL_g rfl rfl (AEv.tmp rfl) rfl (fun hg58 => S_loadP rfl (AEv.cond (AEv.tmp rfl) (by first | assumption | exact gdAnd (by assumption) (by assumption))) rfl (by kernel_rfl)) ?_
        refine AL_g rfl rfl (AEv.tmp rfl) rfl (fun hg61 => S_lenS (ts := #[]) rfl (AEv.cond (AEv.tmp rfl) (by first | assumption | exact gdAnd (by assumption) (by assumption))) (by kernel_rfl)) ?_
        refine AL_g rfl rfl (AEv.tmp rfl) rfl (fun hg64 => S_gtr rfl (AEv.cond (AEv.tmp rfl) (by first | assumption | exact gdAnd (by assumption) (by assumption))) (AEv.const _)) ?_
        refine AL_p rfl rfl (S_or rfl (AEv.tmp rfl) (fun hp67 => (AEv.cond (AEv.tmp rfl) (by first | assumption | exact gdT hp67 | exact gdF hp67 | exact gdAnd (by assumption) (gdT hp67) | exact gdAnd (by assumption) (gdF hp67))))) ?_
        refine AL_nil ?_
        refine AC_cond (AEv.tmp rfl) (fun hb68 => ?_) (fun hb68 => ?_)
        · try simp only [Bool.and_eq_true, Bool.or_eq_true, Bool.not_eq_true', Bool.not_eq_false', Bool.and_eq_false_iff, Bool.or_eq_false_iff, decide_eq_true_eq, decide_eq_false_iff_not, gd] at hb68
          have hc : lightL (s.labels[i]'hil) = false := by unfold lightL; rw [decide_eq_false_iff_not]; omega
          have hf : lightS s = false := by
            unfold lightS
            rw [show s.labels.all lightL = false from List.all_eq_false.2 ⟨_, List.getElem_mem hil, by rw [hc]; simp⟩]
            simp
          refine AC_seq ?_
          refine AC_region ?_
          refine AL_p rfl rfl (S_assign rfl (AEv.const _)) ?_
          refine AL_nil ?_
          refine AC_ret ?_
          refine ret_tmp st rfl rfl (Sub.l (List.Sublist.cons _ (List.Sublist.refl _))) (Conv.refl (Sub.l (List.Sublist.cons _ (List.Sublist.refl _))) _) ⟨by rw [hf], rfl⟩ (.inl rfl)
        · try simp only [Bool.and_eq_true, Bool.or_eq_true, Bool.not_eq_true', Bool.not_eq_false', Bool.and_eq_false_iff, Bool.or_eq_false_iff, decide_eq_true_eq, decide_eq_false_iff_not, gd] at hb68
          have hc : lightL (s.labels[i]'hil) = true := by unfold lightL; rw [decide_eq_true_eq]; omega
          refine AC_skip ?_
          refine AC_region ?_
          refine AL_p rfl rfl (S_move rfl (AEv.tmp rfl)) ?_
          refine AL_p rfl rfl (S_addI rfl (AEv.tmp rfl) (AEv.const _) (by omega) (by omega)) ?_
          refine AL_p rfl rfl (S_assign rfl (AEv.tmp rfl)) ?_
          refine AL_nil ?_
          refine ⟨i + 1, ⟨by omega, by rw [List.take_succ_eq_append_getElem hil, List.all_append, hall]; simp [hc]⟩, by omega, rfl, .cons rfl (Le.refl _) (.cons rfl (Le.of_eq (by rw [Int.natCast_add]; rfl)) .nil)⟩
      · try simp only [Bool.and_eq_true, Bool.or_eq_true, Bool.not_eq_true', Bool.not_eq_false', Bool.and_eq_false_iff, Bool.or_eq_false_iff, decide_eq_true_eq, decide_eq_false_iff_not, gd] at hb42
        have ht : lightS s = (s.init.all lightC && s.main.all lightC) := by
          rw [List.take_of_length_le (by omega)] at hall
          unfold lightS
          rw [decide_eq_true hb, hall]
          simp
        refine AC_exit ?_
        refine AC_seq ?_
        refine AC_region ?_
        refine AL_p rfl rfl (S_field 2 rfl (AEv.tmp rfl) (by kernel_rfl)) ?_
        refine AL_p rfl rfl (S_load 0 rfl (AEv.tmp rfl) rfl rfl (by kernel_rfl)) ?_
        refine AL_p rfl rfl (S_pcall rfl (AEvs.cons (AEv.tmp rfl) AEvs.nil) (book_lightContainers_ok s.init (by omega))) ?_
        refine AL_p rfl rfl (S_move rfl (AEv.tmp rfl)) ?_
        refine AL_g rfl rfl (AEv.tmp rfl) rfl (fun hg69 => S_field 3 rfl (AEv.tmp rfl) (by kernel_rfl)) ?_
        refine AL_g rfl rfl (AEv.tmp rfl) rfl (fun hg72 => S_load 0 rfl (AEv.cond (AEv.tmp rfl) (by first | assumption | exact gdAnd (by assumption) (by assumption))) rfl rfl (by kernel_rfl)) ?_
        refine AL_g rfl rfl (AEv.tmp rfl) rfl (fun hg75 => S_pcall rfl (AEvs.cons (AEv.cond (AEv.tmp rfl) (by first | assumption | exact gdAnd (by assumption) (by assumption))) AEvs.nil) (book_lightContainers_ok s.main (by omega))) ?_
        refine AL_p rfl rfl (S_and rfl (AEv.tmp rfl) (fun hp78 => (AEv.cond (AEv.tmp rfl) (by first | assumption | exact gdT hp78 | exact gdF hp78 | exact gdAnd (by assumption) (gdT hp78) | exact gdAnd (by assumption) (gdF hp78))))) ?_
        refine AL_p rfl rfl (S_assign rfl (AEv.tmp rfl)) ?_
        refine AL_nil ?_
        refine AC_ret ?_
        refine ret_tmp st rfl rfl (Sub.l (List.Sublist.cons _ (List.Sublist.refl _))) (Conv.refl (Sub.l (List.Sublist.cons _ (List.Sublist.refl _))) _) ⟨by rw [ht], rfl⟩ (.inl rfl)

theorem seen_name_f (b : Nat) (p q : Own) (ns : List (List UInt8)) (ps : List Int) (hp : p.ok (strsV ns)) (hq : q.ok (intsV ps)) (hns : ns.length ≤ 1000) (c : Ctr) (F : St) (hG : ∀ r, r ∈ Gs tabs → r ∈ F) : ACalls Tryd.prog 47 [.ptr b 0, ctrAV c] (seenSt 9 3 b p q ns ps ++ F) fun x st' => ∃ foot', (∃ p' : Own, p'.ok (strsV (ns ++ [c.name])) ∧ x = erV 40 79 (nameE ns c.name) ∧ foot' = seenSt 9 3 b p' q (ns ++ [c.name]) ps) ∧ st' = foot' ++ F := by
  unfold seenSt
  simp only [List.cons_append, List.append_assoc]
  exact (seen_name_ok b p q ns ps hp hq hns c F hG).mono fun x st' ⟨p', h1, h2, h3⟩ => ⟨_, ⟨p', h1, h2, rfl⟩, by rw [h3]; simp only [List.cons_append, List.append_assoc]⟩

theorem seen_port_f (b : Nat) (p q : Own) (ns : List (List UInt8)) (ps : List Int) (hp : p.ok (strsV ns)) (hq : q.ok (intsV ps)) (hps : ps.length ≤ 1000) (l : List Int) (hl : l.length ≤ 1000) (n : Int) (F : St) : ACalls Tryd.prog 51 [.ptr b 0, .sl (intsV l), .int .i64 n] (seenSt 9 3 b p q ns ps ++ F) fun x st' => ∃ foot', (∃ (q' : Own) (m : Nat), m ≤ (l).length ∧ (portE ps (l) (n) = none → m = (l).length) ∧ q'.ok (intsV (ps ++ (l).take m)) ∧ x = erV 40 79 (portE ps (l) (n)) ∧ foot' = seenSt 9 3 b p q' ns (ps ++ (l).take m)) ∧ st' = foot' ++ F := by
  unfold seenSt
  simp only [List.cons_append, List.append_assoc]
  exact (seen_port_ok b p q ns ps hp hq hps l hl n F).mono fun x st' ⟨q', m, h1, h2, h3, h4, h5⟩ => ⟨_, ⟨q', m, h1, h2, h3, h4, rfl⟩, by rw [h5]; simp only [List.cons_append, List.append_assoc]⟩

set_option maxRecDepth 100000 in
/-- (*provost/spec.seen).container -/
theorem seen_container_ok (b : Nat) (p q : Own) (ns : List (List UInt8)) (ps : List Int) (hp : p.ok (strsV ns)) (hq : q.ok (intsV ps)) (hns : ns.length ≤ 1000) (hps : ps.length ≤ 1000) (c : Ctr) (himg : c.image.length ≤ 1000000) (hpo : c.ports.length ≤ 1000) (ports every : Int) (F : St) (hG : ∀ r, r ∈ Gs tabs → r ∈ F) : ACalls Tryd.prog 32 [.ptr b 0, ctrAV c, .int .i64 ports, .int .i64 every] (seenSt 9 3 b p q ns ps ++ F) (fun x st' => ∃ foot', (∃ (p' q' : Own) (m : Nat), m ≤ c.ports.length ∧ (portE ps c.ports ports = none → m = c.ports.length) ∧ p'.ok (strsV (ns ++ [c.name])) ∧ q'.ok (intsV (ps ++ c.ports.take m)) ∧ x = erV 40 79 (ctrE ns ps c ports every) ∧ foot' = seenSt 9 3 b p' q' (ns ++ [c.name]) (ps ++ c.ports.take m)) ∧ st' = foot' ++ F) := by
  refine ACalls_of (N := 36) Tryd.func32 (by kernel_rfl) rfl rfl rfl ?_
  refine AC_seq ?_
  refine AC_region ?_
  refine AL_step rfl rfl (S_box rfl (AEv.tmp rfl)) ?_
  rintro _ _ ⟨b1, rfl, rfl⟩
  refine AL_p rfl rfl (S_assign rfl (AEv.const _)) ?_
  refine AL_nil ?_
  refine AC_seq ?_
  refine AC_plan (σ := [(0, 0), (1, 0), (3, 0), (4, 0), (6, 0), (8, 0), (9, 0), (11, 0), (12, 0), (13, 0), (14, 0), (16, 0), (17, 0), (18, 0), (19, 0), (21, 0), (22, 0), (23, 0), (2, 1), (5, 0), (7, 0), (10, 0), (15, 0), (20, 1), (24, 0), (25, 0), (26, 0), (27, 0)]) (by kernel_rfl) ((b1, .cells (ctrL c)) :: Gs tabs) (by kernel_rfl) (fun r hr => by rcases List.mem_cons.1 hr with rfl | hr2; exact List.mem_cons_self; exact List.mem_cons_of_mem _ (List.mem_append_right _ (hG r hr2))) ?_
  refine AG.f rfl rfl (fun st' hst => Q_p rfl (S_move rfl (AEv.tmp rfl))) ?_
  refine AG.f rfl rfl (fun st' hst => Q_p rfl (S_loadNM (m := 11) rfl (AEv.tmp rfl) (hst _ (List.mem_of_getElem? (i := 0) rfl)) (by kernel_rfl) (by first | exact Nat.le_of_ble_eq_true rfl | (simp; omega) | simp))) ?_
  refine AG.f rfl rfl (fun st' hst => Q_p rfl (S_field 1 rfl (AEv.tmp rfl) (by kernel_rfl))) ?_
  refine AG.f rfl rfl (fun st' hst => Q_p rfl (S_loadM rfl (AEv.tmp rfl) (hst _ (List.mem_of_getElem? (i := 0) rfl)) rfl (by kernel_rfl))) ?_
  refine AG.f rfl rfl (fun st' hst => Q_p rfl (S_buildSlice (e := 9) 1 rfl (AEvs.cons (AEv.S _) AEvs.nil) rfl (by kernel_rfl) (by kernel_rfl) (by simp [AV.flat, AV.one, AV.cells, Value.oneCell']) (by decide) (by decide) (by decide))) ?_
  refine AG.f rfl rfl (fun st' hst => Q_p rfl (S_field 2 rfl (AEv.tmp rfl) (by kernel_rfl))) ?_
  refine AG.f rfl rfl (fun st' hst => Q_p rfl (S_loadNM (m := 3) rfl (AEv.tmp rfl) (hst _ (List.mem_of_getElem? (i := 0) rfl)) (by kernel_rfl) (by first | exact Nat.le_of_ble_eq_true rfl | (simp; omega) | simp))) ?_
  refine AG.f rfl rfl (fun st' hst => Q_p rfl (S_field 5 rfl (AEv.tmp rfl) (by kernel_rfl))) ?_
  refine AG.f rfl rfl (fun st' hst => Q_p rfl (S_loadNM (m := 3) rfl (AEv.tmp rfl) (hst _ (List.mem_of_getElem? (i := 0) rfl)) (by kernel_rfl) (by first | exact Nat.le_of_ble_eq_true rfl | (simp; omega) | simp))) ?_
  refine AG.f rfl rfl (fun st' hst => Q_p rfl (S_field 2 rfl (AEv.tmp rfl) (by kernel_rfl))) ?_
  refine AG.f rfl rfl (fun st' hst => Q_p rfl (S_loadNM (m := 3) rfl (AEv.tmp rfl) (hst _ (List.mem_of_getElem? (i := 0) rfl)) (by kernel_rfl) (by first | exact Nat.le_of_ble_eq_true rfl | (simp; omega) | simp))) ?_
  refine AG.f rfl rfl (fun st' hst => Q_p rfl (S_move rfl (AEv.tmp rfl))) ?_
  refine AG.f rfl rfl (fun st' hst => Q_p rfl (S_field 8 rfl (AEv.tmp rfl) (by kernel_rfl))) ?_
  refine AG.f rfl rfl (fun st' hst => Q_p rfl (S_loadM rfl (AEv.tmp rfl) (hst _ (List.mem_of_getElem? (i := 0) rfl)) rfl (by kernel_rfl))) ?_
  refine AG.f rfl rfl (fun st' hst => Q_p rfl (S_move rfl (AEv.tmp rfl))) ?_
  refine AG.f rfl rfl (fun st' hst => Q_p rfl (S_field 9 rfl (AEv.tmp rfl) (by kernel_rfl))) ?_
  refine AG.f rfl rfl (fun st' hst => Q_p rfl (S_loadNM (m := 2) rfl (AEv.tmp rfl) (hst _ (List.mem_of_getElem? (i := 0) rfl)) (by kernel_rfl) (by first | exact Nat.le_of_ble_eq_true rfl | (simp; omega) | simp))) ?_
  refine AG.f rfl rfl (fun st' hst => Q_p rfl (S_move rfl (AEv.tmp rfl))) ?_
  refine AG.s rfl rfl rfl (S_call rfl (AEvs.cons (AEv.tmp rfl) (AEvs.cons (y := ctrAV c) (AEv.tmp rfl) AEvs.nil)) (ACalls.preP (G := fun F => ∀ r, r ∈ Gs tabs → r ∈ F) (fun pre F h r hr => List.mem_append_right _ (h r hr)) (foot := seenSt 9 3 b p q ns ps) (K := fun x foot' => ∃ p' : Own, p'.ok (strsV (ns ++ [c.name])) ∧ x = erV 40 79 (nameE ns c.name) ∧ foot' = seenSt 9 3 b p' q (ns ++ [c.name]) ps) (fun F hF => seen_name_f b p q ns ps hp hq hns c F hF) [(b1, Ob.cells (ctrL c))] F hG)) ?_ ?_
  · rintro _ _ ⟨_, ⟨p2, hp2, rfl, rfl⟩, rfl⟩ r hr; exact (List.mem_cons.1 hr).elim (fun h => h ▸ List.mem_append_left _ List.mem_cons_self) (fun h => List.mem_append_right _ (List.mem_append_right _ (hG r h)))
  rintro _ _ ⟨_, ⟨p2, hp2, rfl, rfl⟩, rfl⟩
  refine AG.f rfl rfl (fun st' hst => Q_p rfl (S_gcall rfl (AEvs.cons (AEv.tmp rfl) AEvs.nil) ((text_Image_ok c.image (by omega)) _ (fun r hr => hst r (List.mem_cons_of_mem _ hr))))) ?_
  refine AG.f rfl rfl (fun st' hst => Q_p rfl (S_pcall rfl (AEvs.cons (AEv.tmp rfl) (AEvs.cons (AEv.tmp rfl) AEvs.nil)) (fail_New_ok (saysV (tparts c.image).2.2 33) [[105, 109, 97, 103, 101]] (by simp)))) ?_
  refine AG.f rfl rfl (fun st' hst => Q_p rfl (S_pcall rfl (AEvs.cons (y := resAV c.req) (AEv.tmp rfl) AEvs.nil) (spec_req_ok c.req))) ?_
  refine AG.f rfl rfl (fun st' hst => Q_p rfl (S_pcall rfl (AEvs.cons (y := resAV c.lim) (AEv.tmp rfl) (AEvs.cons (y := resAV c.req) (AEv.tmp rfl) AEvs.nil)) (spec_lim_ok c.lim c.req))) ?_
  refine AG.s rfl rfl rfl (S_call rfl (AEvs.cons (AEv.tmp rfl) (AEvs.cons (AEv.tmp rfl) (AEvs.cons (AEv.tmp rfl) AEvs.nil))) (ACalls.pre (foot := seenSt 9 3 b p2 q (ns ++ [c.name]) ps) (K := fun x foot' => ∃ (q' : Own) (m : Nat), m ≤ (c.ports).length ∧ (portE ps (c.ports) (ports) = none → m = (c.ports).length) ∧ q'.ok (intsV (ps ++ (c.ports).take m)) ∧ x = erV 40 79 (portE ps (c.ports) (ports)) ∧ foot' = seenSt 9 3 b p2 q' (ns ++ [c.name]) (ps ++ (c.ports).take m)) (fun F => seen_port_f b p2 q (ns ++ [c.name]) ps hp2 hq hps c.ports hpo ports F) [(b1, Ob.cells (ctrL c))] F)) ?_ ?_
  · rintro _ _ ⟨_, ⟨q2, m, hm, hm2, hq2, rfl, rfl⟩, rfl⟩ r hr; exact (List.mem_cons.1 hr).elim (fun h => h ▸ List.mem_append_left _ List.mem_cons_self) (fun h => List.mem_append_right _ (List.mem_append_right _ (hG r h)))
  rintro _ _ ⟨_, ⟨q2, m, hm, hm2, hq2, rfl, rfl⟩, rfl⟩
  refine AG.f rfl rfl (fun st' hst => Q_p rfl (S_pcall rfl (AEvs.cons (y := probeAV c.probe) (AEv.tmp rfl) (AEvs.cons (AEv.tmp rfl) AEvs.nil)) (spec_probe_ok c.probe every))) ?_
  refine AG.f rfl rfl (fun st' hst => Q_p rfl (S_buildSlice (e := 29) 1 rfl (AEvs.cons (AEv.tmp rfl) (AEvs.cons (AEv.tmp rfl) (AEvs.cons (AEv.tmp rfl) (AEvs.cons (AEv.tmp rfl) (AEvs.cons (AEv.tmp rfl) (AEvs.cons (AEv.tmp rfl) AEvs.nil)))))) rfl (by kernel_rfl) (by kernel_rfl) (by intro y hy; simp only [List.mem_cons, List.not_mem_nil, or_false] at hy; rcases hy with rfl | rfl | rfl | rfl | rfl | rfl <;> exact ⟨er_flat _ _ _, by rw [er_cells]; rfl⟩) (by decide) (by decide) (by decide))) ?_
  refine AG.f rfl rfl (fun st' hst => Q_p rfl (S_pcall rfl (AEvs.cons (AEv.tmp rfl) AEvs.nil) (fail_First_ok [nameE ns c.name, erNew (saysV (tparts c.image).2.2 33) [[105, 109, 97, 103, 101]], reqE c.req, limE c.lim c.req, portE ps c.ports ports, probeE c.probe every] (by simp)))) ?_
  refine AG.f rfl rfl (fun st' hst => Q_p rfl (S_assign rfl (AEv.tmp rfl))) ?_
  refine AG.nil ?_
  refine AC_ret ?_
  refine ret_tmp (seenSt 9 3 b p2 q2 (ns ++ [c.name]) (ps ++ c.ports.take m) ++ F) rfl rfl (Sub.l (List.Sublist.cons _ (List.Sublist.refl _))) (Conv.refl (Sub.l (List.Sublist.cons _ (List.Sublist.refl _))) _) ⟨_, ⟨p2, q2, m, hm, hm2, hp2, hq2, rfl, rfl⟩, rfl⟩ (.inl rfl)

set_option maxRecDepth 100000 in
/-- (*provost/spec.seen).containers -/
theorem seen_containers_ok (b : Nat) (p q : Own) (name : List UInt8) (hn : name.length ≤ 1000000) (ns : List (List UInt8)) (ps : List Int) (hp : p.ok (strsV ns)) (hq : q.ok (intsV ps)) (hns : ns.length ≤ 100) (hps : ps.length ≤ 100) (l : List Ctr) (hl : l.length ≤ 8) (hc : ∀ c ∈ l, lightC c = true) (ports every : Int) (F : St) (hG : ∀ r, r ∈ Gs tabs → r ∈ F) : ACalls Tryd.prog 18 [.ptr b 0, .S name, .sl (ctrsV l), .int .i64 ports, .int .i64 every] (seenSt 9 3 b p q ns ps ++ F) (fun x st' => ∃ foot', (∃ (p' q' : Own) (ns' : List (List UInt8)) (ps' : List Int), p'.ok (strsV ns') ∧ q'.ok (intsV ps') ∧ (ctrsE name ns ps l ports every = none → ns' = namesTo ns l l.length ∧ ps' = portsTo ps l l.length) ∧ x = erV 40 79 (ctrsE name ns ps l ports every) ∧ foot' = seenSt 9 3 b p' q' ns' ps') ∧ st' = foot' ++ F) := by
  refine ACalls_of (N := 34) Tryd.func18 (by kernel_rfl) rfl rfl rfl ?_
  have hll : (ctrsV l).length = l.length := by simp [ctrsV]
  have hpo : ∀ c ∈ l, c.ports.length ≤ 10 := fun c h => (of_decide_eq_true (hc c h)).2.2
  refine AC_seq ?_
  refine AC_region ?_
  refine AL_p rfl rfl (S_assign rfl (AEv.const _)) ?_
  refine AL_nil ?_
  refine AC_seq ?_
  refine AC_seq ?_
  refine AC_region ?_
  refine AL_p rfl rfl (S_move rfl (AEv.tmp rfl)) ?_
  refine AL_p rfl rfl (S_len (e := 38) rfl (AEv.tmp rfl) (by kernel_rfl)) ?_
  refine AL_p rfl rfl (S_move rfl (AEv.const _)) ?_
  refine AL_nil ?_
  refine AC_block ?_
  refine AC_loopS (G := Nat × Own × Own) (fun g => g.1 ≤ l.length ∧ (∀ j, j < g.1 → ctrAt ns ps l ports every j = none) ∧ g.2.1.ok (strsV (namesTo ns l g.1)) ∧ g.2.2.ok (intsV (portsTo ps l g.1))) (fun g => [(0, .ptr b 0), (1, .S name), (3, .int .i64 ports), (4, .int .i64 every), (14, .sl (ctrsV l)), (15, .int .i64 ((ctrsV l).length : Int)), (16, .int .i64 (g.1 : Int))]) (fun g => (seenSt 9 3 b g.2.1 g.2.2 (namesTo ns l g.1) (portsTo ps l g.1) ++ F)) (fun g => l.length - g.1) ((0, p, q)) (⟨Nat.zero_le _, fun j hj => absurd hj (Nat.not_lt_zero _), by simpa [namesTo] using hp, by simpa [portsTo] using hq⟩) (by simp only [namesTo, portsTo, List.take_zero, List.map_nil, List.flatMap_nil, List.append_nil]; exact Sub.l (List.Sublist.refl _)) ?_ ?_
  · exact (.cons rfl (Le.refl _) (.cons rfl (Le.refl _) (.cons rfl (Le.refl _) (.cons rfl (Le.refl _) (.cons rfl (Le.refl _) (.cons rfl (Le.refl _) (.cons rfl (Le.refl _) .nil)))))))
  · rintro ⟨i, p1, q1⟩ ⟨hi, hno, hp1, hq1⟩
    try dsimp only
    dsimp only at hi hno hp1 hq1
    refine AC_seq ?_
    refine AC_region ?_
    refine AL_p rfl rfl (S_lss rfl (AEv.tmp rfl) (AEv.tmp rfl)) ?_
    refine AL_nil ?_
    refine AC_seq ?_
    refine AC_cond (AEv.tmp rfl) (fun hb1 => ?_) (fun hb1 => ?_)
    · try simp only [Bool.and_eq_true, Bool.or_eq_true, Bool.not_eq_true', Bool.not_eq_false', Bool.and_eq_false_iff, Bool.or_eq_false_iff, decide_eq_true_eq, decide_eq_false_iff_not, gd] at hb1
      have hil : i < l.length := by omega
      have hif : fits (i : Int) := by unfold fits; omega
      have hb1 := namesTo_le (i := i) hl hns
      have hb2 := portsTo_le (i := i) hpo hl hps
      obtain ⟨k1, k2, k3⟩ := of_decide_eq_true (hc _ (List.getElem_mem hil))
      refine AC_skip ?_
      refine AC_seq ?_
      refine AC_block ?_
      refine AC_seq ?_
      refine AC_region ?_
      refine AL_p rfl rfl (S_move rfl (AEv.tmp rfl)) ?_
      refine AL_p rfl rfl (S_elem (e := 38) (c := ctrAV (l[i]'hil)) (i := (i : Int)) 11 rfl (AEv.tmp rfl) (AEv.tmp rfl) (by kernel_rfl) (by kernel_rfl) (by omega) (by simp [ctrsV, hil]) rfl) ?_
      refine AL_p rfl rfl (S_loadPN (m := 11) rfl (AEv.tmp rfl) (by kernel_rfl) (by first | exact Nat.le_of_ble_eq_true rfl | (simp; omega) | simp)) ?_
      refine AL_step rfl rfl (S_alloc [.string ⟨#[]⟩, .string ⟨#[]⟩, .int .i64 0, .int .i64 0, .int .i64 0, .int .i64 0, .int .i64 0, .int .i64 0, .slice none 0 0, .int .i64 0, .int .i64 0] rfl (by kernel_rfl)) ?_
      rintro _ _ ⟨b2, rfl, rfl⟩
      refine AL_p rfl rfl (S_assign rfl (AEv.tmp rfl)) ?_
      refine AL_step rfl rfl (S_storeN 0 rfl (AEv.tmp rfl) (AEv.tmp rfl) rfl (by first | exact Nat.le_of_ble_eq_true rfl | (simp; omega) | simp) (by first | rfl | simp [AV.one, Value.oneCell']) (by kernel_rfl)) ?_
      rintro _ _ ⟨rfl, rfl⟩
      refine AL_nil ?_
      refine AC_seq ?_
      refine AC_region ?_
      refine AL_p rfl rfl (S_move rfl (AEv.tmp rfl)) ?_
      refine AL_p rfl rfl (S_loadN (m := 11) 0 rfl (AEv.tmp rfl) rfl (by kernel_rfl) (by first | exact Nat.le_of_ble_eq_true rfl | (simp; omega) | simp)) ?_
      refine AL_p rfl rfl (S_move rfl (AEv.tmp rfl)) ?_
      refine AL_p rfl rfl (S_move rfl (AEv.tmp rfl)) ?_
      refine AL_step rfl rfl (S_call rfl (AEvs.cons (AEv.tmp rfl) (AEvs.cons (y := ctrAV (l[i]'hil)) (AEv.tmp rfl) (AEvs.cons (AEv.tmp rfl) (AEvs.cons (AEv.tmp rfl) AEvs.nil)))) (ACalls.preP (G := fun F => ∀ r, r ∈ Gs tabs → r ∈ F) (fun pre F h r hr => List.mem_append_right _ (h r hr)) (foot := seenSt 9 3 b p1 q1 (namesTo ns l i) (portsTo ps l i)) (K := fun x foot' => ∃ (p' q' : Own) (m : Nat), m ≤ ((l[i]'hil)).ports.length ∧ (portE (portsTo ps l i) ((l[i]'hil)).ports ports = none → m = ((l[i]'hil)).ports.length) ∧ p'.ok (strsV ((namesTo ns l i) ++ [((l[i]'hil)).name])) ∧ q'.ok (intsV ((portsTo ps l i) ++ ((l[i]'hil)).ports.take m)) ∧ x = erV 40 79 (ctrE (namesTo ns l i) (portsTo ps l i) (l[i]'hil) ports every) ∧ foot' = seenSt 9 3 b p' q' ((namesTo ns l i) ++ [((l[i]'hil)).name]) ((portsTo ps l i) ++ ((l[i]'hil)).ports.take m)) (fun F hF => seen_container_ok b p1 q1 (namesTo ns l i) (portsTo ps l i) hp1 hq1 (by omega) (by omega) (l[i]'hil) (by omega) (by omega) ports every F hF) [(_, _)] F hG)) ?_
      rintro _ _ ⟨_, ⟨p2, q2, m, hm, hm2, hp2, hq2, rfl, rfl⟩, rfl⟩
      refine AL_p rfl rfl (S_assign rfl (AEv.tmp rfl)) ?_
      refine AL_nil ?_
      refine AC_seq ?_
      refine AC_region ?_
      refine AL_p rfl rfl (S_move rfl (AEv.tmp rfl)) ?_
      refine AL_p rfl rfl (S_neqE (er_is 40 79 (ctrE (namesTo ns l i) (portsTo ps l i) (l[i]'hil) ports every)) rfl (AEv.tmp rfl) (by kernel_rfl)) ?_
      refine AL_nil ?_
      refine AC_cond (AEv.tmp rfl) (fun hb3 => ?_) (fun hb3 => ?_)
      · try simp only [Bool.and_eq_true, Bool.or_eq_true, Bool.not_eq_true', Bool.not_eq_false', Bool.and_eq_false_iff, Bool.or_eq_false_iff, decide_eq_true_eq, decide_eq_false_iff_not, gd] at hb3
        obtain ⟨y, hy⟩ : ∃ y, (ctrE (namesTo ns l i) (portsTo ps l i) (l[i]'hil) ports every) = some y := by cases h : (ctrE (namesTo ns l i) (portsTo ps l i) (l[i]'hil) ports every) with | none => rw [h] at hb3; simp at hb3 | some y => exact ⟨y, rfl⟩
        have hend : ctrsE name ns ps l ports every = erIn (some y) (atT name (i : Int)) := eachE_at hil (by rw [ctrAt_at hil, hy]; rfl) (fun j hj => by rw [hno j hj]; rfl)
        refine AC_seq ?_
        refine AC_region ?_
        refine AL_p rfl rfl (S_move rfl (AEv.tmp rfl)) ?_
        refine AL_p rfl rfl (S_move rfl (AEv.tmp rfl)) ?_
        refine AL_p rfl rfl (S_move rfl (AEv.tmp rfl)) ?_
        refine AL_p rfl rfl (S_pcall rfl (AEvs.cons (AEv.tmp rfl) (AEvs.cons (AEv.tmp rfl) AEvs.nil)) (spec_at_ok name hn (i : Int) hif)) ?_
        refine AL_p rfl rfl (S_pcall rfl (AEvs.cons (AEv.tmp rfl) (AEvs.cons (AEv.tmp rfl) AEvs.nil)) (fail_In_ok (ctrE (namesTo ns l i) (portsTo ps l i) (l[i]'hil) ports every) (atT name (i : Int)))) ?_
        refine AL_p rfl rfl (S_assign rfl (AEv.tmp rfl)) ?_
        refine AL_nil ?_
        refine AC_ret ?_
        refine ret_tmp (seenSt 9 3 b p2 q2 ((namesTo ns l i) ++ [((l[i]'hil)).name]) ((portsTo ps l i) ++ ((l[i]'hil)).ports.take m) ++ F) rfl rfl (Sub.l (List.Sublist.cons _ (List.Sublist.refl _))) (Conv.refl (Sub.l (List.Sublist.cons _ (List.Sublist.refl _))) _) ⟨_, ⟨p2, q2, _, _, hp2, hq2, (fun h => by rw [hend] at h; cases h), by rw [hend, hy], rfl⟩, rfl⟩ (.inl rfl)
      · try simp only [Bool.and_eq_true, Bool.or_eq_true, Bool.not_eq_true', Bool.not_eq_false', Bool.and_eq_false_iff, Bool.or_eq_false_iff, decide_eq_true_eq, decide_eq_false_iff_not, gd] at hb3
        have hnone : (ctrE (namesTo ns l i) (portsTo ps l i) (l[i]'hil) ports every) = none := by cases h : (ctrE (namesTo ns l i) (portsTo ps l i) (l[i]'hil) ports every) with | none => rfl | some y => rw [h] at hb3; simp at hb3
        obtain rfl := hm2 (ctrE_port hnone)
        rw [List.take_length] at hq2 ⊢
        refine AC_skip ?_
        refine AC_region ?_
        refine AL_p rfl rfl (S_addI rfl (AEv.tmp rfl) (AEv.const _) (by omega) (by omega)) ?_
        refine AL_p rfl rfl (S_move rfl (AEv.tmp rfl)) ?_
        refine AL_nil ?_
        refine ⟨(i + 1, p2, q2), ⟨by dsimp only; omega, fun j hj => ?_, by dsimp only; rw [namesTo_next hil]; exact hp2, by dsimp only; rw [portsTo_next hil]; exact hq2⟩, by dsimp only; omega, by dsimp only; rw [namesTo_next hil, portsTo_next hil]; exact Sub.l (List.Sublist.cons _ (List.Sublist.refl _)), (.cons rfl (Le.refl _) (.cons rfl (Le.refl _) (.cons rfl (Le.refl _) (.cons rfl (Le.refl _) (.cons rfl (Le.refl _) (.cons rfl (Le.refl _) (.cons rfl (Le.of_eq (by dsimp only; rw [Int.natCast_add]; rfl)) .nil)))))))⟩
        rcases Nat.lt_or_ge j i with h' | h'
        · exact hno j h'
        · rw [show j = i by omega, ctrAt_at hil]; exact hnone
    · try simp only [Bool.and_eq_true, Bool.or_eq_true, Bool.not_eq_true', Bool.not_eq_false', Bool.and_eq_false_iff, Bool.or_eq_false_iff, decide_eq_true_eq, decide_eq_false_iff_not, gd] at hb1
      obtain rfl : i = l.length := by omega
      have hend : ctrsE name ns ps l ports every = none := eachE_all fun j hj => by rw [hno j hj]; rfl
      refine AC_exit ?_
      refine AC_seq ?_
      refine AC_region ?_
      refine AL_p rfl rfl (S_assign rfl (AEv.const _)) ?_
      refine AL_nil ?_
      refine AC_ret ?_
      refine ret_tmp (seenSt 9 3 b p1 q1 (namesTo ns l l.length) (portsTo ps l l.length) ++ F) rfl rfl (Sub.l (List.Sublist.refl _)) (Conv.refl (Sub.l (List.Sublist.refl _)) _) ⟨_, ⟨p1, q1, _, _, hp1, hq1, fun _ => ⟨rfl, rfl⟩, by rw [hend]; rfl, rfl⟩, rfl⟩ (.inl rfl)

set_option maxRecDepth 100000 in
/-- provost/spec.Check -/
theorem spec_Check_ok (s : Spc) (hs : lightS s = true) : GCalls Tryd.prog tabs 6 [spcAV s] (erV 40 79 (checkE s)) := by
  intro st hG
  refine ACalls_of (N := 52) Tryd.func6 (by kernel_rfl) rfl rfl rfl ?_
  obtain ⟨h1, h2, h3, h4, h5, h6, h7⟩ := lightS_out hs
  refine AC_seq ?_
  refine AC_region ?_
  refine AL_step rfl rfl (S_box rfl (AEv.tmp rfl)) ?_
  rintro _ _ ⟨b1, rfl, rfl⟩
  refine AL_p rfl rfl (S_assign rfl (AEv.const _)) ?_
  refine AL_nil ?_
  refine AC_seq ?_
  refine AC_draw (by kernel_rfl) (by kernel_rfl) (.cons rfl (Q_p rfl (S_field 0 rfl (AEv.tmp rfl) (by kernel_rfl))) <|
      .cons rfl (Q_p rfl (S_load 0 rfl (AEv.tmp rfl) rfl rfl (by kernel_rfl))) <|
      .cons rfl (Q_p rfl (S_gcall rfl (AEvs.cons (AEv.tmp rfl) AEvs.nil) ((text_Name_ok s.name) _ (fun p hp => by first | exact hG p hp | (simp [hG p hp]; done))))) <|
      .cons rfl (Q_p rfl (S_buildSlice (e := 9) 1 rfl (AEvs.cons (AEv.S _) AEvs.nil) rfl (by kernel_rfl) (by kernel_rfl) (by intro y hy; simp only [List.mem_cons, List.not_mem_nil, or_false] at hy; rcases hy with rfl <;> exact ⟨rfl, rfl⟩) (by decide) (by decide) (by decide))) <|
      .cons rfl (Q_p rfl (S_pcall rfl (AEvs.cons (AEv.tmp rfl) (AEvs.cons (AEv.tmp rfl) AEvs.nil)) (fail_New_ok (saysV (nameV s.name) 30) [nameN] (by simp)))) <|
      .cons rfl (Q_p rfl (S_field 1 rfl (AEv.tmp rfl) (by kernel_rfl))) <|
      .cons rfl (Q_p rfl (S_load 0 rfl (AEv.tmp rfl) rfl rfl (by kernel_rfl))) <|
      .cons rfl (Q_p rfl (S_gcall rfl (AEvs.cons (AEv.S _) (AEvs.cons (AEv.tmp rfl) AEvs.nil)) ((spec_Labels_ok labelsN (by decide) s.labels (by omega) h5) _ (fun p hp => by first | exact hG p hp | (simp [hG p hp]; done))))) <|
      .cons rfl (Q_p rfl (S_field 2 rfl (AEv.tmp rfl) (by kernel_rfl))) <|
      .cons rfl (Q_p rfl (S_load 0 rfl (AEv.tmp rfl) rfl rfl (by kernel_rfl))) <|
      .cons rfl (Q_p rfl (by first | exact S_lenM (e := 38) rfl (AEv.tmp rfl) (by kernel_rfl) | exact S_len (e := 38) rfl (AEv.tmp rfl) (by kernel_rfl))) <|
      .cons rfl (Q_p rfl (S_pcall rfl (AEvs.cons (AEv.S _) (AEvs.cons (AEv.tmp rfl) (AEvs.cons (AEv.const _) (AEvs.cons (AEv.const _) AEvs.nil)))) (spec_atMost_ok initN (s.init.length : Int) 0 3))) <|
      .cons rfl (Q_p rfl (S_buildSlice (e := 29) 1 rfl (AEvs.cons (AEv.tmp rfl) (AEvs.cons (AEv.tmp rfl) (AEvs.cons (AEv.tmp rfl) AEvs.nil))) rfl (by kernel_rfl) (by kernel_rfl) (by intro y hy; simp only [List.mem_cons, List.not_mem_nil, or_false] at hy; rcases hy with rfl | rfl | rfl <;> exact ⟨er_flat _ _ _, by rw [er_cells]; rfl⟩) (by decide) (by decide) (by decide))) <|
      .cons rfl (Q_p rfl (S_pcall rfl (AEvs.cons (AEv.tmp rfl) AEvs.nil) (fail_First_ok (check1 s) (by simp)))) <|
      .cons rfl (Q_p rfl (S_assign rfl (AEv.tmp rfl))) <|
      .nil) ?_
  refine AC_seq ?_
  refine AC_seq ?_
  refine AC_region ?_
  refine AL_p rfl rfl (S_move rfl (AEv.tmp rfl)) ?_
  refine AL_p rfl rfl (S_neqE (er_is 40 79 (firstE (check1 s))) rfl (AEv.tmp rfl) (by kernel_rfl)) ?_
  refine AL_nil ?_
  refine AC_cond (AEv.tmp rfl) (fun hb2 => ?_) (fun hb2 => ?_)
  · try simp only [Bool.and_eq_true, Bool.or_eq_true, Bool.not_eq_true', Bool.not_eq_false', Bool.and_eq_false_iff, Bool.or_eq_false_iff, decide_eq_true_eq, decide_eq_false_iff_not, gd] at hb2
    obtain ⟨x, hx⟩ : ∃ x, firstE (check1 s) = some x := by cases h : firstE (check1 s) with | none => rw [h] at hb2; simp at hb2 | some y => exact ⟨y, rfl⟩
    refine AC_seq ?_
    refine AC_region ?_
    refine AL_p rfl rfl (S_move rfl (AEv.tmp rfl)) ?_
    refine AL_p rfl rfl (S_assign rfl (AEv.tmp rfl)) ?_
    refine AL_nil ?_
    refine AC_ret ?_
    refine ret_tmp st rfl rfl (Sub.l (List.Sublist.cons _ (List.Sublist.refl _))) (Conv.refl (Sub.l (List.Sublist.cons _ (List.Sublist.refl _))) _) ⟨by rw [check_bad1 hx, hx], rfl⟩ (.inl rfl)
  · try simp only [Bool.and_eq_true, Bool.or_eq_true, Bool.not_eq_true', Bool.not_eq_false', Bool.and_eq_false_iff, Bool.or_eq_false_iff, decide_eq_true_eq, decide_eq_false_iff_not, gd] at hb2
    have hn1 : firstE (check1 s) = none := by cases h : firstE (check1 s) with | none => rfl | some y => rw [h] at hb2; simp at hb2
    refine AC_skip ?_
    refine AC_seq ?_
    refine AC_region ?_
    refine AL_p rfl rfl (S_build (t := 55) (pl := [(0, 1), (1, 1)]) (zs := [.slice none 0 0, .slice none 0 0]) rfl AEvs.nil (by kernel_rfl) rfl) ?_
    refine AL_step rfl rfl (S_box rfl (AEv.tmp rfl)) ?_
    rintro _ _ ⟨b3, rfl, rfl⟩
    refine AL_p rfl rfl (S_assign rfl (AEv.tmp rfl)) ?_
    refine AL_nil ?_
    refine AC_seq ?_
    have hB : ∀ r, r ∈ ((b1, Ob.cells (spcL s)) :: Gs tabs) → r ∈ ((b1, Ob.cells (spcL s)) :: st) := fun r hr => by
      rcases List.mem_cons.1 hr with rfl | h
      · exact List.mem_cons_self
      · exact List.mem_cons_of_mem _ (hG r h)
    have hG1 : ∀ r, r ∈ Gs tabs → r ∈ ((b1, Ob.cells (spcL s)) :: st) := fun r hr => List.mem_cons_of_mem _ (hG r hr)
    refine AC_plan (σ := [(0, 0), (1, 0), (2, 0), (4, 0), (5, 0), (6, 0), (3, 1), (7, 0), (8, 0), (9, 0), (10, 0)]) (by kernel_rfl) ((b1, Ob.cells (spcL s)) :: Gs tabs) (by kernel_rfl) (fun r hr => List.mem_cons_of_mem _ (hB r hr)) ?_
    refine AG.f rfl rfl (fun st' hst => Q_p rfl (S_move rfl (AEv.tmp rfl))) ?_
    refine AG.f rfl rfl (fun st' hst => Q_p rfl (S_field 2 rfl (AEv.tmp rfl) (by kernel_rfl))) ?_
    refine AG.f rfl rfl (fun st' hst => Q_p rfl (S_loadM rfl (AEv.tmp rfl) (hst _ (List.mem_of_getElem? (i := 0) rfl)) rfl (by kernel_rfl))) ?_
    refine AG.f rfl rfl (fun st' hst => Q_p rfl (S_field 3 rfl (AEv.tmp rfl) (by kernel_rfl))) ?_
    refine AG.f rfl rfl (fun st' hst => Q_p rfl (S_loadM rfl (AEv.tmp rfl) (hst _ (List.mem_of_getElem? (i := 0) rfl)) rfl (by kernel_rfl))) ?_
    refine AG.f rfl rfl (fun st' hst => Q_p rfl (by first | exact S_lenM (e := 38) rfl (AEv.tmp rfl) (by kernel_rfl) | exact S_len (e := 38) rfl (AEv.tmp rfl) (by kernel_rfl))) ?_
    refine AG.s rfl rfl rfl (S_call (K := fun x st' => ∃ foot', (∃ (p' q' : Own) (ns' : List (List UInt8)) (ps' : List Int), p'.ok (strsV ns') ∧ q'.ok (intsV ps') ∧ (ctrsE initN [] [] s.init 0 0 = none → ns' = namesTo [] s.init (s.init).length ∧ ps' = portsTo [] s.init (s.init).length) ∧ x = erV 40 79 (ctrsE initN [] [] s.init 0 0) ∧ foot' = seenSt 9 3 b3 p' q' ns' ps') ∧ st' = foot' ++ ((b1, Ob.cells (spcL s)) :: st)) rfl (AEvs.cons (AEv.tmp rfl) (AEvs.cons (AEv.S _) (AEvs.cons (AEv.tmp rfl) (AEvs.cons (AEv.const _) (AEvs.cons (AEv.const _) AEvs.nil))))) (seen_containers_ok b3 .nil .nil initN (by decide) [] [] rfl rfl (by first | decide | omega) (by first | decide | omega) s.init (by omega) h6 0 0 ((b1, Ob.cells (spcL s)) :: st) hG1)) ?_ ?_
    · rintro _ _ ⟨_, ⟨p2, q2, n2, m2, hp2, hq2, hn2, rfl, rfl⟩, rfl⟩ r hr; exact List.mem_append_right _ (hB r hr)
    rintro _ _ ⟨_, ⟨p2, q2, n2, m2, hp2, hq2, hn2, rfl, rfl⟩, rfl⟩
    refine AG.f rfl rfl (fun st' hst => Q_p rfl (S_pcall rfl (AEvs.cons (AEv.S _) (AEvs.cons (AEv.tmp rfl) (AEvs.cons (AEv.const _) (AEvs.cons (AEv.const _) AEvs.nil)))) (spec_atMost_ok mainN (s.main.length : Int) 1 4))) ?_
    refine AG.f rfl rfl (fun st' hst => Q_p rfl (S_buildSlice (e := 29) 1 rfl (AEvs.cons (AEv.tmp rfl) (AEvs.cons (AEv.tmp rfl) AEvs.nil)) rfl (by kernel_rfl) (by kernel_rfl) (by intro y hy; simp only [List.mem_cons, List.not_mem_nil, or_false] at hy; rcases hy with rfl | rfl <;> exact ⟨er_flat _ _ _, by rw [er_cells]; rfl⟩) (by decide) (by decide) (by decide))) ?_
    refine AG.f rfl rfl (fun st' hst => Q_p rfl (S_pcall rfl (AEvs.cons (AEv.tmp rfl) AEvs.nil) (fail_First_ok (check2 s) (by simp)))) ?_
    refine AG.f rfl rfl (fun st' hst => Q_p rfl (S_assign rfl (AEv.tmp rfl))) ?_
    refine AG.nil ?_
    refine AC_seq ?_
    refine AC_seq ?_
    refine AC_region ?_
    refine AL_p rfl rfl (S_move rfl (AEv.tmp rfl)) ?_
    refine AL_p rfl rfl (S_neqE (er_is 40 79 (firstE (check2 s))) rfl (AEv.tmp rfl) (by kernel_rfl)) ?_
    refine AL_nil ?_
    refine AC_cond (AEv.tmp rfl) (fun hb4 => ?_) (fun hb4 => ?_)
    · try simp only [Bool.and_eq_true, Bool.or_eq_true, Bool.not_eq_true', Bool.not_eq_false', Bool.and_eq_false_iff, Bool.or_eq_false_iff, decide_eq_true_eq, decide_eq_false_iff_not, gd] at hb4
      obtain ⟨x, hx⟩ : ∃ x, firstE (check2 s) = some x := by cases h : firstE (check2 s) with | none => rw [h] at hb4; simp at hb4 | some y => exact ⟨y, rfl⟩
      refine AC_seq ?_
      refine AC_region ?_
      refine AL_p rfl rfl (S_move rfl (AEv.tmp rfl)) ?_
      refine AL_p rfl rfl (S_assign rfl (AEv.tmp rfl)) ?_
      refine AL_nil ?_
      refine AC_ret ?_
      refine ret_tmp st rfl rfl (Sub.l (List.sublist_append_of_sublist_right (List.Sublist.cons _ (List.Sublist.refl _)))) (Conv.refl (Sub.l (List.sublist_append_of_sublist_right (List.Sublist.cons _ (List.Sublist.refl _)))) _) ⟨by rw [check_bad2 hn1 hx, hx], rfl⟩ (.inl rfl)
    · try simp only [Bool.and_eq_true, Bool.or_eq_true, Bool.not_eq_true', Bool.not_eq_false', Bool.and_eq_false_iff, Bool.or_eq_false_iff, decide_eq_true_eq, decide_eq_false_iff_not, gd] at hb4
      have hn2_ : firstE (check2 s) = none := by cases h : firstE (check2 s) with | none => rfl | some y => rw [h] at hb4; simp at hb4
      obtain ⟨rfl, rfl⟩ := hn2 (firstE_none hn2_ _ List.mem_cons_self)
      obtain ⟨hb1, hb2⟩ := check_seen hn1 h6
      refine AC_skip ?_
      refine AC_seq ?_
      refine AC_plan (σ := [(0, 0), (1, 0), (2, 0), (4, 0), (5, 0), (7, 0), (8, 0), (10, 0), (11, 0), (3, 1), (6, 0), (9, 0), (12, 0), (13, 0), (14, 0), (15, 0)]) (by kernel_rfl) ((b1, Ob.cells (spcL s)) :: Gs tabs) (by kernel_rfl) (fun r hr => List.mem_append_right _ (hB r hr)) ?_
      refine AG.f rfl rfl (fun st' hst => Q_p rfl (S_move rfl (AEv.tmp rfl))) ?_
      refine AG.f rfl rfl (fun st' hst => Q_p rfl (S_field 3 rfl (AEv.tmp rfl) (by kernel_rfl))) ?_
      refine AG.f rfl rfl (fun st' hst => Q_p rfl (S_loadM rfl (AEv.tmp rfl) (hst _ (List.mem_of_getElem? (i := 0) rfl)) rfl (by kernel_rfl))) ?_
      refine AG.f rfl rfl (fun st' hst => Q_p rfl (S_field 4 rfl (AEv.tmp rfl) (by kernel_rfl))) ?_
      refine AG.f rfl rfl (fun st' hst => Q_p rfl (S_loadM rfl (AEv.tmp rfl) (hst _ (List.mem_of_getElem? (i := 0) rfl)) rfl (by kernel_rfl))) ?_
      refine AG.f rfl rfl (fun st' hst => Q_p rfl (S_field 5 rfl (AEv.tmp rfl) (by kernel_rfl))) ?_
      refine AG.f rfl rfl (fun st' hst => Q_p rfl (S_loadM rfl (AEv.tmp rfl) (hst _ (List.mem_of_getElem? (i := 0) rfl)) rfl (by kernel_rfl))) ?_
      refine AG.f rfl rfl (fun st' hst => Q_p rfl (S_field 6 rfl (AEv.tmp rfl) (by kernel_rfl))) ?_
      refine AG.f rfl rfl (fun st' hst => Q_p rfl (S_loadM rfl (AEv.tmp rfl) (hst _ (List.mem_of_getElem? (i := 0) rfl)) rfl (by kernel_rfl))) ?_
      refine AG.s rfl rfl rfl (S_call (K := fun x st' => ∃ foot', (∃ (p' q' : Own) (ns' : List (List UInt8)) (ps' : List Int), p'.ok (strsV ns') ∧ q'.ok (intsV ps') ∧ (ctrsE mainN (namesTo [] s.init s.init.length) (portsTo [] s.init s.init.length) s.main 3 1000 = none → ns' = namesTo (namesTo [] s.init s.init.length) s.main (s.main).length ∧ ps' = portsTo (portsTo [] s.init s.init.length) s.main (s.main).length) ∧ x = erV 40 79 (ctrsE mainN (namesTo [] s.init s.init.length) (portsTo [] s.init s.init.length) s.main 3 1000) ∧ foot' = seenSt 9 3 b3 p' q' ns' ps') ∧ st' = foot' ++ ((b1, Ob.cells (spcL s)) :: st)) rfl (AEvs.cons (AEv.tmp rfl) (AEvs.cons (AEv.S _) (AEvs.cons (AEv.tmp rfl) (AEvs.cons (AEv.const _) (AEvs.cons (AEv.const _) AEvs.nil))))) (seen_containers_ok b3 p2 q2 mainN (by decide) (namesTo [] s.init s.init.length) (portsTo [] s.init s.init.length) hp2 hq2 (by first | decide | omega) (by first | decide | omega) s.main (by omega) h7 3 1000 ((b1, Ob.cells (spcL s)) :: st) hG1)) ?_ ?_
      · rintro _ _ ⟨_, ⟨p2, q2, n2, m2, hp2, hq2, hn2, rfl, rfl⟩, rfl⟩ r hr; exact List.mem_append_right _ (hB r hr)
      rintro _ _ ⟨_, ⟨p2, q2, n2, m2, hp2, hq2, hn2, rfl, rfl⟩, rfl⟩
      refine AG.f rfl rfl (fun st' hst => Q_p rfl (S_pcall rfl (AEvs.cons (AEv.S _) (AEvs.cons (AEv.tmp rfl) (AEvs.cons (AEv.const _) (AEvs.cons (AEv.const _) AEvs.nil)))) (spec_within_ok [114, 101, 115, 116, 97, 114, 116] s.restart 1 3))) ?_
      refine AG.f rfl rfl (fun st' hst => Q_p rfl (S_pcall rfl (AEvs.cons (AEv.S _) (AEvs.cons (AEv.tmp rfl) (AEvs.cons (AEv.const _) (AEvs.cons (AEv.const _) AEvs.nil)))) (spec_within_ok [103, 114, 97, 99, 101] s.grace 0 1000))) ?_
      refine AG.f rfl rfl (fun st' hst => Q_p rfl (S_pcall rfl (AEvs.cons (AEv.S _) (AEvs.cons (AEv.tmp rfl) (AEvs.cons (AEv.const _) (AEvs.cons (AEv.const _) AEvs.nil)))) (spec_within_ok [112, 114, 105, 111] s.prio 0 10))) ?_
      refine AG.f rfl rfl (fun st' hst => Q_p rfl (S_buildSlice (e := 29) 1 rfl (AEvs.cons (AEv.tmp rfl) (AEvs.cons (AEv.tmp rfl) (AEvs.cons (AEv.tmp rfl) (AEvs.cons (AEv.tmp rfl) AEvs.nil)))) rfl (by kernel_rfl) (by kernel_rfl) (by intro y hy; simp only [List.mem_cons, List.not_mem_nil, or_false] at hy; rcases hy with rfl | rfl | rfl | rfl <;> exact ⟨er_flat _ _ _, by rw [er_cells]; rfl⟩) (by decide) (by decide) (by decide))) ?_
      refine AG.f rfl rfl (fun st' hst => Q_p rfl (S_pcall rfl (AEvs.cons (AEv.tmp rfl) AEvs.nil) (fail_First_ok (check3 s) (by simp)))) ?_
      refine AG.f rfl rfl (fun st' hst => Q_p rfl (S_assign rfl (AEv.tmp rfl))) ?_
      refine AG.nil ?_
      refine AC_ret ?_
      refine ret_tmp st rfl rfl (Sub.l (List.sublist_append_of_sublist_right (List.Sublist.cons _ (List.Sublist.refl _)))) (Conv.refl (Sub.l (List.sublist_append_of_sublist_right (List.Sublist.cons _ (List.Sublist.refl _)))) _) ⟨by rw [check_good hn1 hn2_], rfl⟩ (.inl rfl)

end Go.Proofs.YtfdcadnaginnpaaDoor

/-
The walks of Go functions in the logic AL: what each of them answers.
Conditions: those of each theorem.
-/
set_option linter.unusedVariables false
set_option linter.unusedSimpArgs false
namespace Go.Proofs.YtfdcadnaginnpaaDoor
open Go.AL Go.NumSpec

set_option maxRecDepth 100000 in
/-- slices.Equal[[]int,int] -/
theorem slices_EqualI_ok (l m : List (Int)) (hl : l.length ≤ 1000000) (hm : m.length ≤ 1000000) : PCalls Tryd.prog 41 [.sl (intsV l), .sl (intsV m)] (.bool (sameL (fun a b => decide (a = b)) l m)) := by
  intro st
  refine ACalls_of (N := 26) Tryd.func41 (by kernel_rfl) rfl rfl rfl ?_
  refine AC_seq ?_
  refine AC_region ?_
  refine AL_p rfl rfl (S_assign rfl (AEv.const _)) ?_
  refine AL_nil ?_
  refine AC_seq ?_
  refine AC_seq ?_
  refine AC_region ?_
  refine AL_p rfl rfl (S_move rfl (AEv.tmp rfl)) ?_
  refine AL_p rfl rfl (by first | exact S_lenM (e := 3) rfl (AEv.tmp rfl) (by kernel_rfl) | exact S_len (e := 3) rfl (AEv.tmp rfl) (by kernel_rfl)) ?_
  refine AL_p rfl rfl (S_move rfl (AEv.tmp rfl)) ?_
  refine AL_p rfl rfl (by first | exact S_lenM (e := 3) rfl (AEv.tmp rfl) (by kernel_rfl) | exact S_len (e := 3) rfl (AEv.tmp rfl) (by kernel_rfl)) ?_
  refine AL_p rfl rfl (S_neq rfl (AEv.tmp rfl) (AEv.tmp rfl)) ?_
  refine AL_nil ?_
  refine AC_cond (AEv.tmp rfl) (fun hb1 => ?_) (fun hb1 => ?_)
  · try simp only [Bool.and_eq_true, Bool.or_eq_true, Bool.not_eq_true', Bool.not_eq_false', Bool.and_eq_false_iff, Bool.or_eq_false_iff, decide_eq_true_eq, decide_eq_false_iff_not, gd] at hb1
    have hbad : sameL (fun a b => decide (a = b)) l m = false := sameL_len (by omega)
    refine AC_seq ?_
    refine AC_region ?_
    refine AL_p rfl rfl (S_assign rfl (AEv.const _)) ?_
    refine AL_nil ?_
    refine AC_ret ?_
    refine ret_tmp st rfl rfl (Sub.l (List.Sublist.refl _)) (Conv.refl (Sub.l (List.Sublist.refl _)) _) ⟨by rw [hbad], rfl⟩ (.inl rfl)
  · try simp only [Bool.and_eq_true, Bool.or_eq_true, Bool.not_eq_true', Bool.not_eq_false', Bool.and_eq_false_iff, Bool.or_eq_false_iff, decide_eq_true_eq, decide_eq_false_iff_not, gd] at hb1
    have hlen : l.length = m.length := by omega
    refine AC_skip ?_
    refine AC_seq ?_
    refine AC_seq ?_
    refine AC_region ?_
    refine AL_p rfl rfl (S_move rfl (AEv.tmp rfl)) ?_
    refine AL_p rfl rfl (by first | exact S_lenM (e := 3) rfl (AEv.tmp rfl) (by kernel_rfl) | exact S_len (e := 3) rfl (AEv.tmp rfl) (by kernel_rfl)) ?_
    refine AL_p rfl rfl (S_move rfl (AEv.const _)) ?_
    refine AL_nil ?_
    refine AC_block ?_
    refine AC_loopK (G := Nat) [(0, _), (1, _), (12, _)] (fun i => i ≤ l.length ∧ ∀ j (h1 : j < l.length) (h2 : j < m.length), j < i → (fun a b => decide (a = b)) (l[j]'h1) (m[j]'h2) = true) (fun g => [(13, .int .i64 (g : Int))]) (fun g => st) (fun g => l.length - g) (0) (⟨Nat.zero_le _, fun j _ _ h => absurd h (Nat.not_lt_zero _)⟩) (Sub.l (List.Sublist.refl _)) (.cons rfl (Le.refl _) (.cons rfl (Le.refl _) (.cons rfl (Le.refl _) .nil))) (.cons rfl (by first | exact Le.refl _ | exact Le.nils | exact Le.row _ _ _ _ | exact Le.of_eq (by first | rfl | (simp; done) | (push_cast; rfl) | (simp; omega))) .nil) ?_
    · rintro i ⟨hi, hall⟩
      try dsimp only
      simp only [List.cons_append, List.nil_append]
      refine AC_seq ?_
      refine AC_region ?_
      refine AL_p rfl rfl (S_lss rfl (AEv.tmp rfl) (AEv.tmp rfl)) ?_
      refine AL_nil ?_
      refine AC_seq ?_
      refine AC_cond (AEv.tmp rfl) (fun hb2 => ?_) (fun hb2 => ?_)
      · try simp only [Bool.and_eq_true, Bool.or_eq_true, Bool.not_eq_true', Bool.not_eq_false', Bool.and_eq_false_iff, Bool.or_eq_false_iff, decide_eq_true_eq, decide_eq_false_iff_not, gd] at hb2
        have hil : i < l.length := by omega
        refine AC_skip ?_
        refine AC_seq ?_
        refine AC_block ?_
        refine AC_seq ?_
        refine AC_region ?_
        refine AL_p rfl rfl (S_move rfl (AEv.tmp rfl)) ?_
        refine AL_p rfl rfl (S_assign rfl (AEv.tmp rfl)) ?_
        refine AL_nil ?_
        refine AC_seq ?_
        refine AC_draw (by kernel_rfl) (by kernel_rfl) (.cons rfl (Q_p rfl (S_move rfl (AEv.tmp rfl))) <|
            .cons rfl (Q_p rfl (S_move rfl (AEv.tmp rfl))) <|
            .cons rfl (Q_p rfl (S_elemN (e := 3) 1 rfl (AEv.tmp rfl) (AEv.tmp rfl) (by kernel_rfl) (by kernel_rfl) (by omega) (fun _ => rfl))) <|
            .cons rfl (Q_p rfl (S_loadP rfl (AEv.tmp rfl) rfl (by kernel_rfl))) <|
            .cons rfl (Q_p rfl (S_move rfl (AEv.tmp rfl))) <|
            .cons rfl (Q_p rfl (S_move rfl (AEv.tmp rfl))) <|
            .cons rfl (Q_p rfl (S_elemN (e := 3) 1 rfl (AEv.tmp rfl) (AEv.tmp rfl) (by kernel_rfl) (by kernel_rfl) (by omega) (fun _ => rfl))) <|
            .cons rfl (Q_p rfl (S_loadP rfl (AEv.tmp rfl) rfl (by kernel_rfl))) <|
            .cons rfl (Q_p rfl (S_neq rfl (AEv.tmp rfl) (AEv.tmp rfl))) <|
            .nil) ?_
        refine AC_cond (AEv.tmp rfl) (fun hb3 => ?_) (fun hb3 => ?_)
        · try simp only [Bool.and_eq_true, Bool.or_eq_true, Bool.not_eq_true', Bool.not_eq_false', Bool.and_eq_false_iff, Bool.or_eq_false_iff, decide_eq_true_eq, decide_eq_false_iff_not, gd] at hb3
          have hbad : sameL (fun a b => decide (a = b)) l m = false := sameL_bad hil (by omega) (by simpa using hb3)
          refine AC_seq ?_
          refine AC_region ?_
          refine AL_p rfl rfl (S_assign rfl (AEv.const _)) ?_
          refine AL_nil ?_
          refine AC_ret ?_
          refine ret_tmp st rfl rfl (Sub.l (List.Sublist.refl _)) (Conv.refl (Sub.l (List.Sublist.refl _)) _) ⟨by rw [hbad], rfl⟩ (.inl rfl)
        · try simp only [Bool.and_eq_true, Bool.or_eq_true, Bool.not_eq_true', Bool.not_eq_false', Bool.and_eq_false_iff, Bool.or_eq_false_iff, decide_eq_true_eq, decide_eq_false_iff_not, gd] at hb3
          have hne : (fun a b => decide (a = b)) (l[i]'hil) (m[i]'(by omega)) = true := by simpa using hb3
          refine AC_skip ?_
          refine AC_region ?_
          refine AL_p rfl rfl (S_addI rfl (AEv.tmp rfl) (AEv.const _) (by omega) (by omega)) ?_
          refine AL_p rfl rfl (S_move rfl (AEv.tmp rfl)) ?_
          refine AL_nil ?_
          refine ⟨i + 1, ⟨by omega, fun j h1 h2 h => ?_⟩, by omega, Sub.l (List.Sublist.refl _), (.cons rfl (by first | exact Le.refl _ | exact Le.nils | exact Le.row _ _ _ _ | exact Le.of_eq (by first | rfl | (simp; done) | (push_cast; rfl) | (simp; omega))) .nil), (.cons rfl (Le.refl _) (.cons rfl (Le.refl _) (.cons rfl (Le.refl _) .nil)))⟩
          rcases Nat.lt_or_ge j i with h' | h'
          · exact hall j h1 h2 h'
          · have : j = i := by omega
            subst this
            exact hne
      · try simp only [Bool.and_eq_true, Bool.or_eq_true, Bool.not_eq_true', Bool.not_eq_false', Bool.and_eq_false_iff, Bool.or_eq_false_iff, decide_eq_true_eq, decide_eq_false_iff_not, gd] at hb2
        have hgood : sameL (fun a b => decide (a = b)) l m = true := sameL_all hlen fun j h1 h2 => hall j h1 h2 (by omega)
        refine AC_exit ?_
        refine AC_seq ?_
        refine AC_region ?_
        refine AL_p rfl rfl (S_assign rfl (AEv.const _)) ?_
        refine AL_nil ?_
        refine AC_ret ?_
        refine ret_tmp st rfl rfl (Sub.l (List.Sublist.refl _)) (Conv.refl (Sub.l (List.Sublist.refl _)) _) ⟨by rw [hgood], rfl⟩ (.inl rfl)

set_option maxRecDepth 100000 in
/-- provost/spec.alike -/
theorem spec_alike_ok (a b : Ctr) (ha : a.ports.length ≤ 1000000) (hb : b.ports.length ≤ 1000000) : PCalls Tryd.prog 25 [ctrAV a, ctrAV b] (.bool (alikeC a b)) := by
  intro st
  refine ACalls_of (N := 38) Tryd.func25 (by kernel_rfl) rfl rfl rfl ?_
  refine AC_seq ?_
  refine AC_region ?_
  refine AL_step rfl rfl (S_box rfl (AEv.tmp rfl)) ?_
  rintro _ _ ⟨b1, rfl, rfl⟩
  refine AL_step rfl rfl (S_box rfl (AEv.tmp rfl)) ?_
  rintro _ _ ⟨b2, rfl, rfl⟩
  refine AL_p rfl rfl (S_assign rfl (AEv.const _)) ?_
  refine AL_nil ?_
  refine AC_seq ?_
  refine AC_region ?_
  refine AL_p rfl rfl (S_field 0 rfl (AEv.tmp rfl) (by kernel_rfl)) ?_
  refine AL_p rfl rfl (S_load 1 rfl (AEv.tmp rfl) rfl rfl (by kernel_rfl)) ?_
  refine AL_p rfl rfl (S_field 0 rfl (AEv.tmp rfl) (by kernel_rfl)) ?_
  refine AL_p rfl rfl (S_load 0 rfl (AEv.tmp rfl) rfl rfl (by kernel_rfl)) ?_
  refine AL_p rfl rfl (S_eqS rfl (AEv.tmp rfl) (AEv.tmp rfl)) ?_
  refine AL_p rfl rfl (S_move rfl (AEv.tmp rfl)) ?_
  refine AL_g rfl rfl (AEv.tmp rfl) rfl (fun hg3 => S_field 2 rfl (AEv.tmp rfl) (by kernel_rfl)) ?_
  refine AL_g rfl rfl (AEv.tmp rfl) rfl (fun hg6 => S_loadN (m := 3) 1 rfl (AEv.cond (AEv.tmp rfl) (by first | assumption | exact gdAnd (by assumption) (by assumption))) rfl (by kernel_rfl) (by first | exact Nat.le_of_ble_eq_true rfl | (simp; omega) | simp)) ?_
  refine AL_g rfl rfl (AEv.tmp rfl) rfl (fun hg9 => S_field 2 rfl (AEv.tmp rfl) (by kernel_rfl)) ?_
  refine AL_g rfl rfl (AEv.tmp rfl) rfl (fun hg12 => S_loadN (m := 3) 0 rfl (AEv.cond (AEv.tmp rfl) (by first | assumption | exact gdAnd (by assumption) (by assumption))) rfl (by kernel_rfl) (by first | exact Nat.le_of_ble_eq_true rfl | (simp; omega) | simp)) ?_
  refine AL_g rfl rfl (AEv.tmp rfl) rfl (fun hg15 => S_eqlAgg rfl (AEv.cond (AEv.tmp rfl) (by first | assumption | exact gdAnd (by assumption) (by assumption))) (AEv.cond (AEv.tmp rfl) (by first | assumption | exact gdAnd (by assumption) (by assumption))) (by kernel_rfl) (EqAV.struct Tryd.underlying33 (by kernel_rfl) (EqFs.flat (by kernel_rfl) (by kernel_rfl) rfl rfl (EqAV.int (k' := .i64) (by kernel_rfl)) (EqFs.flat (by kernel_rfl) (by kernel_rfl) rfl rfl (EqAV.int (k' := .i64) (by kernel_rfl)) (EqFs.flat (by kernel_rfl) (by kernel_rfl) rfl rfl (EqAV.int (k' := .i64) (by kernel_rfl)) EqFs.nil))))) ?_
  refine AL_p rfl rfl (S_and rfl (AEv.tmp rfl) (fun hp18 => (AEv.cond (AEv.tmp rfl) (by first | assumption | exact gdT hp18 | exact gdF hp18 | exact gdAnd (by assumption) (gdT hp18) | exact gdAnd (by assumption) (gdF hp18))))) ?_
  refine AL_p rfl rfl (S_move rfl (AEv.tmp rfl)) ?_
  refine AL_g rfl rfl (AEv.tmp rfl) rfl (fun hg19 => S_field 5 rfl (AEv.tmp rfl) (by kernel_rfl)) ?_
  refine AL_g rfl rfl (AEv.tmp rfl) rfl (fun hg22 => S_loadN (m := 3) 1 rfl (AEv.cond (AEv.tmp rfl) (by first | assumption | exact gdAnd (by assumption) (by assumption))) rfl (by kernel_rfl) (by first | exact Nat.le_of_ble_eq_true rfl | (simp; omega) | simp)) ?_
  refine AL_g rfl rfl (AEv.tmp rfl) rfl (fun hg25 => S_field 5 rfl (AEv.tmp rfl) (by kernel_rfl)) ?_
  refine AL_g rfl rfl (AEv.tmp rfl) rfl (fun hg28 => S_loadN (m := 3) 0 rfl (AEv.cond (AEv.tmp rfl) (by first | assumption | exact gdAnd (by assumption) (by assumption))) rfl (by kernel_rfl) (by first | exact Nat.le_of_ble_eq_true rfl | (simp; omega) | simp)) ?_
  refine AL_g rfl rfl (AEv.tmp rfl) rfl (fun hg31 => S_eqlAgg rfl (AEv.cond (AEv.tmp rfl) (by first | assumption | exact gdAnd (by assumption) (by assumption))) (AEv.cond (AEv.tmp rfl) (by first | assumption | exact gdAnd (by assumption) (by assumption))) (by kernel_rfl) (EqAV.struct Tryd.underlying33 (by kernel_rfl) (EqFs.flat (by kernel_rfl) (by kernel_rfl) rfl rfl (EqAV.int (k' := .i64) (by kernel_rfl)) (EqFs.flat (by kernel_rfl) (by kernel_rfl) rfl rfl (EqAV.int (k' := .i64) (by kernel_rfl)) (EqFs.flat (by kernel_rfl) (by kernel_rfl) rfl rfl (EqAV.int (k' := .i64) (by kernel_rfl)) EqFs.nil))))) ?_
  refine AL_p rfl rfl (S_and rfl (AEv.tmp rfl) (fun hp34 => (AEv.cond (AEv.tmp rfl) (by first | assumption | exact gdT hp34 | exact gdF hp34 | exact gdAnd (by assumption) (gdT hp34) | exact gdAnd (by assumption) (gdF hp34))))) ?_
  refine AL_p rfl rfl (S_move rfl (AEv.tmp rfl)) ?_
  refine AL_g rfl rfl (AEv.tmp rfl) rfl (fun hg35 => S_field 8 rfl (AEv.tmp rfl) (by kernel_rfl)) ?_
  refine AL_g rfl rfl (AEv.tmp rfl) rfl (fun hg38 => S_load 1 rfl (AEv.cond (AEv.tmp rfl) (by first | assumption | exact gdAnd (by assumption) (by assumption))) rfl rfl (by kernel_rfl)) ?_
  refine AL_g rfl rfl (AEv.tmp rfl) rfl (fun hg41 => S_field 8 rfl (AEv.tmp rfl) (by kernel_rfl)) ?_
  refine AL_g rfl rfl (AEv.tmp rfl) rfl (fun hg44 => S_load 0 rfl (AEv.cond (AEv.tmp rfl) (by first | assumption | exact gdAnd (by assumption) (by assumption))) rfl rfl (by kernel_rfl)) ?_
  refine AL_g rfl rfl (AEv.tmp rfl) rfl (fun hg47 => S_pcall rfl (AEvs.cons (AEv.cond (AEv.tmp rfl) (by first | assumption | exact gdAnd (by assumption) (by assumption))) (AEvs.cons (AEv.cond (AEv.tmp rfl) (by first | assumption | exact gdAnd (by assumption) (by assumption))) AEvs.nil)) (slices_EqualI_ok a.ports b.ports ha hb)) ?_
  refine AL_p rfl rfl (S_and rfl (AEv.tmp rfl) (fun hp50 => (AEv.cond (AEv.tmp rfl) (by first | assumption | exact gdT hp50 | exact gdF hp50 | exact gdAnd (by assumption) (gdT hp50) | exact gdAnd (by assumption) (gdF hp50))))) ?_
  refine AL_p rfl rfl (S_move rfl (AEv.tmp rfl)) ?_
  refine AL_g rfl rfl (AEv.tmp rfl) rfl (fun hg51 => S_field 9 rfl (AEv.tmp rfl) (by kernel_rfl)) ?_
  refine AL_g rfl rfl (AEv.tmp rfl) rfl (fun hg54 => S_loadN (m := 2) 1 rfl (AEv.cond (AEv.tmp rfl) (by first | assumption | exact gdAnd (by assumption) (by assumption))) rfl (by kernel_rfl) (by first | exact Nat.le_of_ble_eq_true rfl | (simp; omega) | simp)) ?_
  refine AL_g rfl rfl (AEv.tmp rfl) rfl (fun hg57 => S_field 9 rfl (AEv.tmp rfl) (by kernel_rfl)) ?_
  refine AL_g rfl rfl (AEv.tmp rfl) rfl (fun hg60 => S_loadN (m := 2) 0 rfl (AEv.cond (AEv.tmp rfl) (by first | assumption | exact gdAnd (by assumption) (by assumption))) rfl (by kernel_rfl) (by first | exact Nat.le_of_ble_eq_true rfl | (simp; omega) | simp)) ?_
  refine AL_g rfl rfl (AEv.tmp rfl) rfl (fun hg63 => S_eqlAgg rfl (AEv.cond (AEv.tmp rfl) (by first | assumption | exact gdAnd (by assumption) (by assumption))) (AEv.cond (AEv.tmp rfl) (by first | assumption | exact gdAnd (by assumption) (by assumption))) (by kernel_rfl) (EqAV.struct Tryd.underlying36 (by kernel_rfl) (EqFs.flat (by kernel_rfl) (by kernel_rfl) rfl rfl (EqAV.int (k' := .i64) (by kernel_rfl)) (EqFs.flat (by kernel_rfl) (by kernel_rfl) rfl rfl (EqAV.int (k' := .i64) (by kernel_rfl)) EqFs.nil)))) ?_
  refine AL_p rfl rfl (S_and rfl (AEv.tmp rfl) (fun hp66 => (AEv.cond (AEv.tmp rfl) (by first | assumption | exact gdT hp66 | exact gdF hp66 | exact gdAnd (by assumption) (gdT hp66) | exact gdAnd (by assumption) (gdF hp66))))) ?_
  refine AL_p rfl rfl (S_assign rfl (AEv.tmp rfl)) ?_
  refine AL_nil ?_
  refine AC_ret ?_
  refine ret_tmp st rfl rfl (Sub.l (List.Sublist.cons _ (List.Sublist.cons _ (List.Sublist.refl _)))) (Conv.refl (Sub.l (List.Sublist.cons _ (List.Sublist.cons _ (List.Sublist.refl _)))) _) ⟨congrArg AV.bool (by rw [res_eqB, res_eqB, probe_eqB, sameL_eq]; simp only [alikeC, Bool.and_assoc]), rfl⟩ (.inl rfl)

set_option maxRecDepth 100000 in
/-- provost/spec.exact -/
theorem spec_exact_ok (a b : Ctr) (ha : a.ports.length ≤ 1000000) (hb : b.ports.length ≤ 1000000) : PCalls Tryd.prog 24 [ctrAV a, ctrAV b] (.bool (exactC a b)) := by
  intro st
  refine ACalls_of (N := 15) Tryd.func24 (by kernel_rfl) rfl rfl rfl ?_
  refine AC_seq ?_
  refine AC_region ?_
  refine AL_step rfl rfl (S_box rfl (AEv.tmp rfl)) ?_
  rintro _ _ ⟨b1, rfl, rfl⟩
  refine AL_step rfl rfl (S_box rfl (AEv.tmp rfl)) ?_
  rintro _ _ ⟨b2, rfl, rfl⟩
  refine AL_p rfl rfl (S_assign rfl (AEv.const _)) ?_
  refine AL_nil ?_
  refine AC_seq ?_
  refine AC_region ?_
  refine AL_p rfl rfl (S_loadN (m := 11) 1 rfl (AEv.tmp rfl) rfl (by kernel_rfl) (by first | exact Nat.le_of_ble_eq_true rfl | (simp; omega) | simp)) ?_
  refine AL_p rfl rfl (S_loadN (m := 11) 0 rfl (AEv.tmp rfl) rfl (by kernel_rfl) (by first | exact Nat.le_of_ble_eq_true rfl | (simp; omega) | simp)) ?_
  refine AL_p rfl rfl (S_pcall rfl (AEvs.cons (y := ctrAV a) (AEv.tmp rfl) (AEvs.cons (y := ctrAV b) (AEv.tmp rfl) AEvs.nil)) (spec_alike_ok a b ha hb)) ?_
  refine AL_p rfl rfl (S_move rfl (AEv.tmp rfl)) ?_
  refine AL_g rfl rfl (AEv.tmp rfl) rfl (fun hg3 => S_field 1 rfl (AEv.tmp rfl) (by kernel_rfl)) ?_
  refine AL_g rfl rfl (AEv.tmp rfl) rfl (fun hg6 => S_load 1 rfl (AEv.cond (AEv.tmp rfl) (by first | assumption | exact gdAnd (by assumption) (by assumption))) rfl rfl (by kernel_rfl)) ?_
  refine AL_g rfl rfl (AEv.tmp rfl) rfl (fun hg9 => S_field 1 rfl (AEv.tmp rfl) (by kernel_rfl)) ?_
  refine AL_g rfl rfl (AEv.tmp rfl) rfl (fun hg12 => S_load 0 rfl (AEv.cond (AEv.tmp rfl) (by first | assumption | exact gdAnd (by assumption) (by assumption))) rfl rfl (by kernel_rfl)) ?_
  refine AL_g rfl rfl (AEv.tmp rfl) rfl (fun hg15 => S_eqS rfl (AEv.cond (AEv.tmp rfl) (by first | assumption | exact gdAnd (by assumption) (by assumption))) (AEv.cond (AEv.tmp rfl) (by first | assumption | exact gdAnd (by assumption) (by assumption)))) ?_
  refine AL_p rfl rfl (S_and rfl (AEv.tmp rfl) (fun hp18 => (AEv.cond (AEv.tmp rfl) (by first | assumption | exact gdT hp18 | exact gdF hp18 | exact gdAnd (by assumption) (gdT hp18) | exact gdAnd (by assumption) (gdF hp18))))) ?_
  refine AL_p rfl rfl (S_assign rfl (AEv.tmp rfl)) ?_
  refine AL_nil ?_
  refine AC_ret ?_
  refine ret_tmp st rfl rfl (Sub.l (List.Sublist.cons _ (List.Sublist.cons _ (List.Sublist.refl _)))) (Conv.refl (Sub.l (List.Sublist.cons _ (List.Sublist.cons _ (List.Sublist.refl _)))) _) ⟨rfl, rfl⟩ (.inl rfl)

set_option maxRecDepth 100000 in
/-- slices.EqualFunc[[]provost/api.Container,[]provost/api.Container,provost/api.Container,provost/api.Container] -/
theorem slices_EqualFunc_ok (l m : List Ctr) (hl : l.length ≤ 1000000) (hm : m.length ≤ 1000000) (hlp : ∀ c ∈ l, c.ports.length ≤ 1000000) (hmp : ∀ c ∈ m, c.ports.length ≤ 1000000) : PCalls Tryd.prog 40 [.sl (ctrsV l), .sl (ctrsV m), .fn 24 []] (.bool (sameL exactC l m)) := by
  intro st
  refine ACalls_of (N := 32) Tryd.func40 (by kernel_rfl) rfl rfl rfl ?_
  refine AC_seq ?_
  refine AC_region ?_
  refine AL_p rfl rfl (S_assign rfl (AEv.const _)) ?_
  refine AL_nil ?_
  refine AC_seq ?_
  refine AC_seq ?_
  refine AC_region ?_
  refine AL_p rfl rfl (S_move rfl (AEv.tmp rfl)) ?_
  refine AL_p rfl rfl (by first | exact S_lenM (e := 38) rfl (AEv.tmp rfl) (by kernel_rfl) | exact S_len (e := 38) rfl (AEv.tmp rfl) (by kernel_rfl)) ?_
  refine AL_p rfl rfl (S_move rfl (AEv.tmp rfl)) ?_
  refine AL_p rfl rfl (by first | exact S_lenM (e := 38) rfl (AEv.tmp rfl) (by kernel_rfl) | exact S_len (e := 38) rfl (AEv.tmp rfl) (by kernel_rfl)) ?_
  refine AL_p rfl rfl (S_neq rfl (AEv.tmp rfl) (AEv.tmp rfl)) ?_
  refine AL_nil ?_
  refine AC_cond (AEv.tmp rfl) (fun hb1 => ?_) (fun hb1 => ?_)
  · try simp only [Bool.and_eq_true, Bool.or_eq_true, Bool.not_eq_true', Bool.not_eq_false', Bool.and_eq_false_iff, Bool.or_eq_false_iff, decide_eq_true_eq, decide_eq_false_iff_not, gd] at hb1
    have hbad : sameL exactC l m = false := sameL_len (by omega)
    refine AC_seq ?_
    refine AC_region ?_
    refine AL_p rfl rfl (S_assign rfl (AEv.const _)) ?_
    refine AL_nil ?_
    refine AC_ret ?_
    refine ret_tmp st rfl rfl (Sub.l (List.Sublist.refl _)) (Conv.refl (Sub.l (List.Sublist.refl _)) _) ⟨by rw [hbad], rfl⟩ (.inl rfl)
  · try simp only [Bool.and_eq_true, Bool.or_eq_true, Bool.not_eq_true', Bool.not_eq_false', Bool.and_eq_false_iff, Bool.or_eq_false_iff, decide_eq_true_eq, decide_eq_false_iff_not, gd] at hb1
    have hlen : l.length = m.length := by omega
    refine AC_skip ?_
    refine AC_seq ?_
    refine AC_seq ?_
    refine AC_region ?_
    refine AL_p rfl rfl (S_move rfl (AEv.tmp rfl)) ?_
    refine AL_p rfl rfl (by first | exact S_lenM (e := 38) rfl (AEv.tmp rfl) (by kernel_rfl) | exact S_len (e := 38) rfl (AEv.tmp rfl) (by kernel_rfl)) ?_
    refine AL_p rfl rfl (S_move rfl (AEv.const _)) ?_
    refine AL_nil ?_
    refine AC_block ?_
    refine AC_loopK (G := Nat) [(1, _), (2, _), (15, _), (16, _)] (fun i => i ≤ l.length ∧ ∀ j (h1 : j < l.length) (h2 : j < m.length), j < i → exactC (l[j]'h1) (m[j]'h2) = true) (fun g => [(17, .int .i64 (g : Int))]) (fun g => st) (fun g => l.length - g) (0) (⟨Nat.zero_le _, fun j _ _ h => absurd h (Nat.not_lt_zero _)⟩) (Sub.l (List.Sublist.refl _)) (.cons rfl (Le.refl _) (.cons rfl (Le.refl _) (.cons rfl (Le.refl _) (.cons rfl (Le.refl _) .nil)))) (.cons rfl (by first | exact Le.refl _ | exact Le.nils | exact Le.row _ _ _ _ | exact Le.of_eq (by first | rfl | (simp; done) | (push_cast; rfl) | (simp; omega))) .nil) ?_
    · rintro i ⟨hi, hall⟩
      try dsimp only
      simp only [List.cons_append, List.nil_append]
      refine AC_seq ?_
      refine AC_region ?_
      refine AL_p rfl rfl (S_lss rfl (AEv.tmp rfl) (AEv.tmp rfl)) ?_
      refine AL_nil ?_
      refine AC_seq ?_
      refine AC_cond (AEv.tmp rfl) (fun hb2 => ?_) (fun hb2 => ?_)
      · try simp only [Bool.and_eq_true, Bool.or_eq_true, Bool.not_eq_true', Bool.not_eq_false', Bool.and_eq_false_iff, Bool.or_eq_false_iff, decide_eq_true_eq, decide_eq_false_iff_not, gd] at hb2
        have hil : i < l.length := by omega
        have him : i < m.length := by omega
        refine AC_skip ?_
        refine AC_seq ?_
        refine AC_block ?_
        refine AC_seq ?_
        refine AC_region ?_
        refine AL_p rfl rfl (S_move rfl (AEv.tmp rfl)) ?_
        refine AL_p rfl rfl (S_elemN (e := 38) 11 rfl (AEv.tmp rfl) (AEv.tmp rfl) (by kernel_rfl) (by kernel_rfl) (by omega) (fun _ => rfl)) ?_
        refine AL_p rfl rfl (S_loadPN (m := 11) rfl (AEv.tmp rfl) (by kernel_rfl) (by first | exact Nat.le_of_ble_eq_true rfl | (simp; omega) | simp)) ?_
        refine AL_step rfl rfl (S_alloc [.string ⟨#[]⟩, .string ⟨#[]⟩, .int .i64 0, .int .i64 0, .int .i64 0, .int .i64 0, .int .i64 0, .int .i64 0, .slice none 0 0, .int .i64 0, .int .i64 0] rfl (by kernel_rfl)) ?_
        rintro _ _ ⟨b8, rfl, rfl⟩
        refine AL_p rfl rfl (S_assign rfl (AEv.tmp rfl)) ?_
        refine AL_step rfl rfl (S_storeW 0 rfl (AEv.tmp rfl) (AEv.tmp rfl) rfl rfl rfl (by kernel_rfl)) ?_
        rintro _ _ ⟨rfl, rfl⟩
        refine AL_nil ?_
        refine AC_seq ?_
        refine AC_region ?_
        refine AL_p rfl rfl (S_move rfl (AEv.tmp rfl)) ?_
        refine AL_p rfl rfl (S_move rfl (AEv.tmp rfl)) ?_
        refine AL_p rfl rfl (S_elemN (e := 38) 11 rfl (AEv.tmp rfl) (AEv.tmp rfl) (by kernel_rfl) (by kernel_rfl) (by omega) (fun _ => rfl)) ?_
        refine AL_p rfl rfl (S_loadPN (m := 11) rfl (AEv.tmp rfl) (by kernel_rfl) (by first | exact Nat.le_of_ble_eq_true rfl | (simp; omega) | simp)) ?_
        refine AL_step rfl rfl (S_alloc [.string ⟨#[]⟩, .string ⟨#[]⟩, .int .i64 0, .int .i64 0, .int .i64 0, .int .i64 0, .int .i64 0, .int .i64 0, .slice none 0 0, .int .i64 0, .int .i64 0] rfl (by kernel_rfl)) ?_
        rintro _ _ ⟨b9, rfl, rfl⟩
        refine AL_step rfl rfl (S_storeW 0 rfl (AEv.tmp rfl) (AEv.tmp rfl) rfl rfl rfl (by kernel_rfl)) ?_
        rintro _ _ ⟨rfl, rfl⟩
        refine AL_nil ?_
        refine AC_seq ?_
        refine AC_region ?_
        refine AL_p rfl rfl (S_move rfl (AEv.tmp rfl)) ?_
        refine AL_p rfl rfl (S_loadN (m := 11) 1 rfl (AEv.tmp rfl) rfl (by kernel_rfl) (by first | exact Nat.le_of_ble_eq_true rfl | (simp; omega) | simp)) ?_
        refine AL_p rfl rfl (S_loadN (m := 11) 0 rfl (AEv.tmp rfl) rfl (by kernel_rfl) (by first | exact Nat.le_of_ble_eq_true rfl | (simp; omega) | simp)) ?_
        refine AL_step rfl rfl (S_callF (caps := []) rfl (AEv.tmp rfl) (AEvs.cons (y := ctrAV (l[i]'hil)) (AEv.tmp rfl) (AEvs.cons (y := ctrAV (m[i]'him)) (AEv.tmp rfl) AEvs.nil)) (spec_exact_ok (l[i]'hil) (m[i]'him) (hlp _ (List.getElem_mem _)) (hmp _ (List.getElem_mem _)) _)) ?_
        rintro _ _ ⟨rfl, rfl⟩
        refine AL_p rfl rfl (S_not rfl (AEv.tmp rfl)) ?_
        refine AL_nil ?_
        refine AC_cond (AEv.tmp rfl) (fun hb5 => ?_) (fun hb5 => ?_)
        · try simp only [Bool.and_eq_true, Bool.or_eq_true, Bool.not_eq_true', Bool.not_eq_false', Bool.and_eq_false_iff, Bool.or_eq_false_iff, decide_eq_true_eq, decide_eq_false_iff_not, gd] at hb5
          have hbad : sameL exactC l m = false := sameL_bad hil him hb5
          refine AC_seq ?_
          refine AC_region ?_
          refine AL_p rfl rfl (S_assign rfl (AEv.const _)) ?_
          refine AL_nil ?_
          refine AC_ret ?_
          refine ret_tmp st rfl rfl (Sub.l (List.Sublist.cons _ (List.Sublist.cons _ (List.Sublist.refl _)))) (Conv.refl (Sub.l (List.Sublist.cons _ (List.Sublist.cons _ (List.Sublist.refl _)))) _) ⟨by rw [hbad], rfl⟩ (.inl rfl)
        · try simp only [Bool.and_eq_true, Bool.or_eq_true, Bool.not_eq_true', Bool.not_eq_false', Bool.and_eq_false_iff, Bool.or_eq_false_iff, decide_eq_true_eq, decide_eq_false_iff_not, gd] at hb5
          have hne : exactC (l[i]'hil) (m[i]'him) = true := hb5
          refine AC_skip ?_
          refine AC_region ?_
          refine AL_p rfl rfl (S_addI rfl (AEv.tmp rfl) (AEv.const _) (by omega) (by omega)) ?_
          refine AL_p rfl rfl (S_move rfl (AEv.tmp rfl)) ?_
          refine AL_nil ?_
          refine ⟨i + 1, ⟨by omega, fun j h1 h2 h => ?_⟩, by omega, (Sub.l (List.Sublist.cons _ (List.Sublist.cons _ (List.Sublist.refl _)))), (.cons rfl (by first | exact Le.refl _ | exact Le.nils | exact Le.row _ _ _ _ | exact Le.of_eq (by first | rfl | (simp; done) | (push_cast; rfl) | (simp; omega))) .nil), (.cons rfl (Le.refl _) (.cons rfl (Le.refl _) (.cons rfl (Le.refl _) (.cons rfl (Le.refl _) .nil))))⟩
          rcases Nat.lt_or_ge j i with h' | h'
          · exact hall j h1 h2 h'
          · have : j = i := by omega
            subst this
            exact hne
      · try simp only [Bool.and_eq_true, Bool.or_eq_true, Bool.not_eq_true', Bool.not_eq_false', Bool.and_eq_false_iff, Bool.or_eq_false_iff, decide_eq_true_eq, decide_eq_false_iff_not, gd] at hb2
        have hgood : sameL exactC l m = true := sameL_all hlen fun j h1 h2 => hall j h1 h2 (by omega)
        refine AC_exit ?_
        refine AC_seq ?_
        refine AC_region ?_
        refine AL_p rfl rfl (S_assign rfl (AEv.const _)) ?_
        refine AL_nil ?_
        refine AC_ret ?_
        refine ret_tmp st rfl rfl (Sub.l (List.Sublist.refl _)) (Conv.refl (Sub.l (List.Sublist.refl _)) _) ⟨by rw [hgood], rfl⟩ (.inl rfl)

set_option maxRecDepth 100000 in
/-- provost/spec.each[provost/api.Container] -/
theorem spec_each_ok (l m : List Ctr) (hl : l.length ≤ 1000000) (hm : m.length ≤ 1000000) (hlp : ∀ c ∈ l, c.ports.length ≤ 1000000) (hmp : ∀ c ∈ m, c.ports.length ≤ 1000000) : PCalls Tryd.prog 23 [.sl (ctrsV l), .sl (ctrsV m), .fn 24 []] (.bool (sameL exactC l m)) := by
  intro st
  refine ACalls_of (N := 11) Tryd.func23 (by kernel_rfl) rfl rfl rfl ?_
  refine AC_seq ?_
  refine AC_region ?_
  refine AL_p rfl rfl (S_assign rfl (AEv.const _)) ?_
  refine AL_nil ?_
  refine AC_seq ?_
  refine AC_region ?_
  refine AL_p rfl rfl (S_move rfl (AEv.tmp rfl)) ?_
  refine AL_p rfl rfl (S_move rfl (AEv.tmp rfl)) ?_
  refine AL_p rfl rfl (S_move rfl (AEv.tmp rfl)) ?_
  refine AL_p rfl rfl (S_pcall rfl (AEvs.cons (AEv.tmp rfl) (AEvs.cons (AEv.tmp rfl) (AEvs.cons (AEv.tmp rfl) AEvs.nil))) (slices_EqualFunc_ok _ _ (by omega) (by omega) (by assumption) (by assumption))) ?_
  refine AL_p rfl rfl (S_assign rfl (AEv.tmp rfl)) ?_
  refine AL_nil ?_
  refine AC_ret ?_
  refine ret_tmp st rfl rfl (Sub.l (List.Sublist.refl _)) (Conv.refl (Sub.l (List.Sublist.refl _)) _) ⟨rfl, rfl⟩ (.inl rfl)

set_option maxRecDepth 100000 in
/-- provost/spec.Frozen -/
theorem spec_Frozen_ok (a b : Spc) (h1 : a.init.length ≤ 1000000) (h2 : b.init.length ≤ 1000000) (h3 : a.main.length ≤ 1000000) (h4 : b.main.length ≤ 1000000) (hp : ∀ s : Spc, s = a ∨ s = b → (∀ c ∈ s.init, c.ports.length ≤ 1000000) ∧ ∀ c ∈ s.main, c.ports.length ≤ 1000000 ∧ c.image.length ≤ 1000000) : GCalls Tryd.prog tabs 11 [spcAV a, spcAV b] (erV 40 79 (frozenE a b)) := by
  intro st hG
  refine ACalls_of (N := 80) Tryd.func11 (by kernel_rfl) rfl rfl rfl ?_
  obtain ⟨pa1, pa2⟩ := hp a (.inl rfl)
  obtain ⟨pb1, pb2⟩ := hp b (.inr rfl)
  refine AC_seq ?_
  refine AC_region ?_
  refine AL_step rfl rfl (S_box rfl (AEv.tmp rfl)) ?_
  rintro _ _ ⟨b2, rfl, rfl⟩
  refine AL_step rfl rfl (S_box rfl (AEv.tmp rfl)) ?_
  rintro _ _ ⟨b3, rfl, rfl⟩
  refine AL_p rfl rfl (S_assign rfl (AEv.const _)) ?_
  refine AL_nil ?_
  refine AC_seq ?_
  refine AC_block ?_
  refine AC_seq ?_
  refine AC_region ?_
  refine AL_p rfl rfl (S_field 0 rfl (AEv.tmp rfl) (by kernel_rfl)) ?_
  refine AL_p rfl rfl (S_load 1 rfl (AEv.tmp rfl) rfl rfl (by kernel_rfl)) ?_
  refine AL_p rfl rfl (S_field 0 rfl (AEv.tmp rfl) (by kernel_rfl)) ?_
  refine AL_p rfl rfl (S_load 0 rfl (AEv.tmp rfl) rfl rfl (by kernel_rfl)) ?_
  refine AL_p rfl rfl (S_neS rfl (AEv.tmp rfl) (AEv.tmp rfl)) ?_
  refine AL_p rfl rfl (S_assign rfl (AEv.tmp rfl)) ?_
  refine AL_nil ?_
  refine AC_cond (AEv.tmp rfl) (fun hb3 => ?_) (fun hb3 => ?_)
  · try simp only [Bool.and_eq_true, Bool.or_eq_true, Bool.not_eq_true', Bool.not_eq_false', Bool.and_eq_false_iff, Bool.or_eq_false_iff, decide_eq_true_eq, decide_eq_false_iff_not, gd] at hb3
    have hne : a.name ≠ b.name := by simpa using hb3
    refine AC_seq ?_
    refine AC_region ?_
    refine AL_p rfl rfl (S_buildSlice (e := 9) 1 rfl (AEvs.cons (AEv.S _) AEvs.nil) rfl (by kernel_rfl) (by kernel_rfl) (by intro y hy; simp only [List.mem_cons, List.not_mem_nil, or_false] at hy; rcases hy with rfl <;> exact ⟨rfl, rfl⟩) (by decide) (by decide) (by decide)) ?_
    refine AL_p rfl rfl (S_pcall rfl (AEvs.cons (AEv.const _) (AEvs.cons (AEv.tmp rfl) AEvs.nil)) (fail_New_ok 4 [nameN] (by simp))) ?_
    refine AL_p rfl rfl (S_assign rfl (AEv.tmp rfl)) ?_
    refine AL_nil ?_
    refine AC_ret ?_
    refine ret_tmp st rfl rfl (Sub.l (List.Sublist.cons _ (List.Sublist.cons _ (List.Sublist.refl _)))) (Conv.refl (Sub.l (List.Sublist.cons _ (List.Sublist.cons _ (List.Sublist.refl _)))) _) ⟨by rw [frozenE, if_pos hne]; rfl, rfl⟩ (.inl rfl)
  · try simp only [Bool.and_eq_true, Bool.or_eq_true, Bool.not_eq_true', Bool.not_eq_false', Bool.and_eq_false_iff, Bool.or_eq_false_iff, decide_eq_true_eq, decide_eq_false_iff_not, gd] at hb3
    have hnm : a.name = b.name := by simpa using hb3
    refine AC_seq ?_
    refine AC_region ?_
    refine AL_p rfl rfl (S_field 2 rfl (AEv.tmp rfl) (by kernel_rfl)) ?_
    refine AL_p rfl rfl (S_load 1 rfl (AEv.tmp rfl) rfl rfl (by kernel_rfl)) ?_
    refine AL_p rfl rfl (S_field 2 rfl (AEv.tmp rfl) (by kernel_rfl)) ?_
    refine AL_p rfl rfl (S_load 0 rfl (AEv.tmp rfl) rfl rfl (by kernel_rfl)) ?_
    refine AL_p rfl rfl (S_pcall rfl (AEvs.cons (AEv.tmp rfl) (AEvs.cons (AEv.tmp rfl) (AEvs.cons (AEv.func _) AEvs.nil))) (spec_each_ok _ _ (by omega) (by omega) (by assumption) (by assumption))) ?_
    refine AL_p rfl rfl (S_not rfl (AEv.tmp rfl)) ?_
    refine AL_p rfl rfl (S_assign rfl (AEv.tmp rfl)) ?_
    refine AL_nil ?_
    refine AC_cond (AEv.tmp rfl) (fun hb4 => ?_) (fun hb4 => ?_)
    · try simp only [Bool.and_eq_true, Bool.or_eq_true, Bool.not_eq_true', Bool.not_eq_false', Bool.and_eq_false_iff, Bool.or_eq_false_iff, decide_eq_true_eq, decide_eq_false_iff_not, gd] at hb4
      have hbi : sameL exactC a.init b.init = false := hb4
      refine AC_seq ?_
      refine AC_region ?_
      refine AL_p rfl rfl (S_buildSlice (e := 9) 1 rfl (AEvs.cons (AEv.S _) AEvs.nil) rfl (by kernel_rfl) (by kernel_rfl) (by intro y hy; simp only [List.mem_cons, List.not_mem_nil, or_false] at hy; rcases hy with rfl <;> exact ⟨rfl, rfl⟩) (by decide) (by decide) (by decide)) ?_
      refine AL_p rfl rfl (S_pcall rfl (AEvs.cons (AEv.const _) (AEvs.cons (AEv.tmp rfl) AEvs.nil)) (fail_New_ok 4 [initN] (by simp))) ?_
      refine AL_p rfl rfl (S_assign rfl (AEv.tmp rfl)) ?_
      refine AL_nil ?_
      refine AC_ret ?_
      refine ret_tmp st rfl rfl (Sub.l (List.Sublist.cons _ (List.Sublist.cons _ (List.Sublist.refl _)))) (Conv.refl (Sub.l (List.Sublist.cons _ (List.Sublist.cons _ (List.Sublist.refl _)))) _) ⟨by rw [frozenE, if_neg (fun h => h hnm), if_pos hbi]; rfl, rfl⟩ (.inl rfl)
    · try simp only [Bool.and_eq_true, Bool.or_eq_true, Bool.not_eq_true', Bool.not_eq_false', Bool.and_eq_false_iff, Bool.or_eq_false_iff, decide_eq_true_eq, decide_eq_false_iff_not, gd] at hb4
      have hbi : sameL exactC a.init b.init = true := hb4
      refine AC_seq ?_
      refine AC_region ?_
      refine AL_p rfl rfl (S_field 3 rfl (AEv.tmp rfl) (by kernel_rfl)) ?_
      refine AL_p rfl rfl (S_load 1 rfl (AEv.tmp rfl) rfl rfl (by kernel_rfl)) ?_
      refine AL_p rfl rfl (by first | exact S_lenM (e := 38) rfl (AEv.tmp rfl) (by kernel_rfl) | exact S_len (e := 38) rfl (AEv.tmp rfl) (by kernel_rfl)) ?_
      refine AL_p rfl rfl (S_field 3 rfl (AEv.tmp rfl) (by kernel_rfl)) ?_
      refine AL_p rfl rfl (S_load 0 rfl (AEv.tmp rfl) rfl rfl (by kernel_rfl)) ?_
      refine AL_p rfl rfl (by first | exact S_lenM (e := 38) rfl (AEv.tmp rfl) (by kernel_rfl) | exact S_len (e := 38) rfl (AEv.tmp rfl) (by kernel_rfl)) ?_
      refine AL_p rfl rfl (S_neq rfl (AEv.tmp rfl) (AEv.tmp rfl)) ?_
      refine AL_p rfl rfl (S_assign rfl (AEv.tmp rfl)) ?_
      refine AL_nil ?_
      refine AC_cond (AEv.tmp rfl) (fun hb5 => ?_) (fun hb5 => ?_)
      · try simp only [Bool.and_eq_true, Bool.or_eq_true, Bool.not_eq_true', Bool.not_eq_false', Bool.and_eq_false_iff, Bool.or_eq_false_iff, decide_eq_true_eq, decide_eq_false_iff_not, gd] at hb5
        have hml : a.main.length ≠ b.main.length := by omega
        refine AC_seq ?_
        refine AC_region ?_
        refine AL_p rfl rfl (S_buildSlice (e := 9) 1 rfl (AEvs.cons (AEv.S _) AEvs.nil) rfl (by kernel_rfl) (by kernel_rfl) (by intro y hy; simp only [List.mem_cons, List.not_mem_nil, or_false] at hy; rcases hy with rfl <;> exact ⟨rfl, rfl⟩) (by decide) (by decide) (by decide)) ?_
        refine AL_p rfl rfl (S_pcall rfl (AEvs.cons (AEv.const _) (AEvs.cons (AEv.tmp rfl) AEvs.nil)) (fail_New_ok 4 [mainN] (by simp))) ?_
        refine AL_p rfl rfl (S_assign rfl (AEv.tmp rfl)) ?_
        refine AL_nil ?_
        refine AC_ret ?_
        refine ret_tmp st rfl rfl (Sub.l (List.Sublist.cons _ (List.Sublist.cons _ (List.Sublist.refl _)))) (Conv.refl (Sub.l (List.Sublist.cons _ (List.Sublist.cons _ (List.Sublist.refl _)))) _) ⟨by rw [frozenE, if_neg (fun h => h hnm), if_neg (by rw [hbi]; simp), if_pos hml]; rfl, rfl⟩ (.inl rfl)
      · try simp only [Bool.and_eq_true, Bool.or_eq_true, Bool.not_eq_true', Bool.not_eq_false', Bool.and_eq_false_iff, Bool.or_eq_false_iff, decide_eq_true_eq, decide_eq_false_iff_not, gd] at hb5
        have hml : a.main.length = b.main.length := by omega
        have hfe : frozenE a b = eachE a.main.length (frozenAt a.main b.main) := by rw [frozenE, if_neg (fun h => h hnm), if_neg (by rw [hbi]; simp), if_neg (fun h => h hml)]
        refine AC_skip ?_
        refine AC_seq ?_
        refine AC_seq ?_
        refine AC_region ?_
        refine AL_p rfl rfl (S_field 3 rfl (AEv.tmp rfl) (by kernel_rfl)) ?_
        refine AL_p rfl rfl (S_load 1 rfl (AEv.tmp rfl) rfl rfl (by kernel_rfl)) ?_
        refine AL_p rfl rfl (by first | exact S_lenM (e := 38) rfl (AEv.tmp rfl) (by kernel_rfl) | exact S_len (e := 38) rfl (AEv.tmp rfl) (by kernel_rfl)) ?_
        refine AL_p rfl rfl (S_move rfl (AEv.const _)) ?_
        refine AL_nil ?_
        refine AC_block ?_
        refine AC_loopK (G := Nat) [(3, _), (35, _), (36, _)] (fun g => g ≤ a.main.length ∧ ∀ j, j < g → frozenAt a.main b.main j = none) (fun g => [(37, .int .i64 (g : Int))]) (fun g => (b3, .cells (spcL b)) :: (b2, .cells (spcL a)) :: st) (fun g => a.main.length - g) (0) (⟨Nat.zero_le _, fun j h => absurd h (Nat.not_lt_zero _)⟩) (Sub.l (List.Sublist.refl _)) (.cons rfl (Le.refl _) (.cons rfl (Le.refl _) (.cons rfl (Le.refl _) .nil))) (.cons rfl (by first | exact Le.refl _ | exact Le.nils | exact Le.row _ _ _ _ | exact Le.of_eq (by first | rfl | (simp; done) | (push_cast; rfl) | (simp; omega))) .nil) ?_
        · rintro i ⟨hi, hall⟩
          try dsimp only
          simp only [List.cons_append, List.nil_append]
          refine AC_seq ?_
          refine AC_region ?_
          refine AL_p rfl rfl (S_lss rfl (AEv.tmp rfl) (AEv.tmp rfl)) ?_
          refine AL_nil ?_
          refine AC_seq ?_
          refine AC_cond (AEv.tmp rfl) (fun hb6 => ?_) (fun hb6 => ?_)
          · try simp only [Bool.and_eq_true, Bool.or_eq_true, Bool.not_eq_true', Bool.not_eq_false', Bool.and_eq_false_iff, Bool.or_eq_false_iff, decide_eq_true_eq, decide_eq_false_iff_not, gd] at hb6
            have hil : i < a.main.length := by omega
            have him : i < b.main.length := by omega
            have hif : fits (i : Int) := by unfold fits; omega
            have hat := frozenAt_at hil him
            refine AC_skip ?_
            refine AC_seq ?_
            refine AC_block ?_
            refine AC_seq ?_
            refine AC_region ?_
            refine AL_p rfl rfl (S_move rfl (AEv.tmp rfl)) ?_
            refine AL_p rfl rfl (S_elemN (e := 38) 11 rfl (AEv.tmp rfl) (AEv.tmp rfl) (by kernel_rfl) (by kernel_rfl) (by omega) (fun _ => rfl)) ?_
            refine AL_p rfl rfl (S_loadPN (m := 11) rfl (AEv.tmp rfl) (by kernel_rfl) (by first | exact Nat.le_of_ble_eq_true rfl | (simp; omega) | simp)) ?_
            refine AL_step rfl rfl (S_alloc [.string ⟨#[]⟩, .string ⟨#[]⟩, .int .i64 0, .int .i64 0, .int .i64 0, .int .i64 0, .int .i64 0, .int .i64 0, .slice none 0 0, .int .i64 0, .int .i64 0] rfl (by kernel_rfl)) ?_
            rintro _ _ ⟨b6, rfl, rfl⟩
            refine AL_p rfl rfl (S_assign rfl (AEv.tmp rfl)) ?_
            refine AL_step rfl rfl (S_storeW 0 rfl (AEv.tmp rfl) (AEv.tmp rfl) rfl rfl rfl (by kernel_rfl)) ?_
            rintro _ _ ⟨rfl, rfl⟩
            refine AL_nil ?_
            refine AC_seq ?_
            refine AC_seq ?_
            refine AC_draw (by kernel_rfl) (by kernel_rfl) (.cons rfl (Q_p rfl (S_loadN (m := 11) 0 rfl (AEv.tmp rfl) rfl (by kernel_rfl) (by first | exact Nat.le_of_ble_eq_true rfl | (simp; omega) | simp))) <|
                .cons rfl (Q_p rfl (S_field 3 rfl (AEv.tmp rfl) (by kernel_rfl))) <|
                .cons rfl (Q_p rfl (S_load 1 rfl (AEv.tmp rfl) rfl rfl (by kernel_rfl))) <|
                .cons rfl (Q_p rfl (S_move rfl (AEv.tmp rfl))) <|
                .cons rfl (Q_p rfl (S_elemN (e := 38) 11 rfl (AEv.tmp rfl) (AEv.tmp rfl) (by kernel_rfl) (by kernel_rfl) (by omega) (fun _ => rfl))) <|
                .cons rfl (Q_p rfl (S_loadPN (m := 11) rfl (AEv.tmp rfl) (by kernel_rfl) (by first | exact Nat.le_of_ble_eq_true rfl | (simp; omega) | simp))) <|
                .cons rfl (Q_p rfl (S_pcall rfl (AEvs.cons (y := ctrAV (a.main[i]'hil)) (AEv.tmp rfl) (AEvs.cons (y := ctrAV (b.main[i]'him)) (AEv.tmp rfl) AEvs.nil)) (spec_alike_ok (a.main[i]'hil) (b.main[i]'him) (pa2 _ (List.getElem_mem _)).1 (pb2 _ (List.getElem_mem _)).1))) <|
                .cons rfl (Q_p rfl (S_not rfl (AEv.tmp rfl))) <|
                .nil) ?_
            refine AC_cond (AEv.tmp rfl) (fun hb8 => ?_) (fun hb8 => ?_)
            · try simp only [Bool.and_eq_true, Bool.or_eq_true, Bool.not_eq_true', Bool.not_eq_false', Bool.and_eq_false_iff, Bool.or_eq_false_iff, decide_eq_true_eq, decide_eq_false_iff_not, gd] at hb8
              have hend : frozenE a b = some (4, [atT mainN (i : Int)]) := by rw [hfe, eachE_at hil (by rw [hat, if_pos hb8]) hall]
              refine AC_seq ?_
              refine AC_region ?_
              refine AL_p rfl rfl (S_move rfl (AEv.tmp rfl)) ?_
              refine AL_p rfl rfl (S_pcall rfl (AEvs.cons (AEv.S _) (AEvs.cons (AEv.tmp rfl) AEvs.nil)) (spec_at_ok mainN (by decide) (i : Int) hif)) ?_
              refine AL_p rfl rfl (S_buildSlice (e := 9) 1 rfl (AEvs.cons (AEv.tmp rfl) AEvs.nil) rfl (by kernel_rfl) (by kernel_rfl) (by intro y hy; simp only [List.mem_cons, List.not_mem_nil, or_false] at hy; rcases hy with rfl <;> exact ⟨rfl, rfl⟩) (by decide) (by decide) (by decide)) ?_
              refine AL_p rfl rfl (S_pcall rfl (AEvs.cons (AEv.const _) (AEvs.cons (AEv.tmp rfl) AEvs.nil)) (fail_New_ok 4 [atT mainN (i : Int)] (by simp))) ?_
              refine AL_p rfl rfl (S_assign rfl (AEv.tmp rfl)) ?_
              refine AL_nil ?_
              refine AC_ret ?_
              refine ret_tmp st rfl rfl (Sub.l (List.Sublist.cons _ (List.Sublist.cons _ (List.Sublist.cons _ (List.Sublist.refl _))))) (Conv.refl (Sub.l (List.Sublist.cons _ (List.Sublist.cons _ (List.Sublist.cons _ (List.Sublist.refl _))))) _) ⟨by rw [hend]; rfl, rfl⟩ (.inl rfl)
            · try simp only [Bool.and_eq_true, Bool.or_eq_true, Bool.not_eq_true', Bool.not_eq_false', Bool.and_eq_false_iff, Bool.or_eq_false_iff, decide_eq_true_eq, decide_eq_false_iff_not, gd] at hb8
              have hal : ¬ alikeC (a.main[i]'hil) (b.main[i]'him) = false := by rw [hb8]; simp
              refine AC_skip ?_
              refine AC_seq ?_
              refine AC_draw (by kernel_rfl) (by kernel_rfl) (.cons rfl (Q_p rfl (S_field 1 rfl (AEv.tmp rfl) (by kernel_rfl))) <|
                  .cons rfl (Q_p rfl (S_load 0 rfl (AEv.tmp rfl) rfl rfl (by kernel_rfl))) <|
                  .cons rfl (Q_p rfl (S_field 3 rfl (AEv.tmp rfl) (by kernel_rfl))) <|
                  .cons rfl (Q_p rfl (S_load 1 rfl (AEv.tmp rfl) rfl rfl (by kernel_rfl))) <|
                  .cons rfl (Q_p rfl (S_move rfl (AEv.tmp rfl))) <|
                  .cons rfl (Q_p rfl (S_elemN (e := 38) (f := ctrAV) (l := b.main) 11 rfl (AEv.tmp rfl) (AEv.tmp rfl) (by kernel_rfl) (by kernel_rfl) (by omega) (fun _ => rfl))) <|
                  .cons rfl (Q_p rfl (S_fieldP 1 rfl (AEv.tmp rfl) (by kernel_rfl))) <|
                  .cons rfl (Q_p rfl (S_loadP rfl (AEv.tmp rfl) rfl (by kernel_rfl))) <|
                  .cons rfl (Q_p rfl (S_neS rfl (AEv.tmp rfl) (AEv.tmp rfl))) <|
                  .cons rfl (Q_p rfl (S_move rfl (AEv.tmp rfl))) <|
                  .cons rfl (Q_g rfl rfl (AEv.tmp rfl) (fun hg9 => S_field 1 rfl (AEv.tmp rfl) (by kernel_rfl))) <|
                  .cons rfl (Q_g rfl rfl (AEv.tmp rfl) (fun hg12 => S_load 0 rfl (AEv.cond (AEv.tmp rfl) (by first | assumption | exact gdAnd (by assumption) (by assumption))) rfl rfl (by kernel_rfl))) <|
                  .cons rfl (Q_g rfl rfl (AEv.tmp rfl) (fun hg15 => S_field 3 rfl (AEv.tmp rfl) (by kernel_rfl))) <|
                  .cons rfl (Q_g rfl rfl (AEv.tmp rfl) (fun hg18 => S_load 1 rfl (AEv.cond (AEv.tmp rfl) (by first | assumption | exact gdAnd (by assumption) (by assumption))) rfl rfl (by kernel_rfl))) <|
                  .cons rfl (Q_g rfl rfl (AEv.tmp rfl) (fun hg21 => S_move rfl (AEv.tmp rfl))) <|
                  .cons rfl (Q_g rfl rfl (AEv.tmp rfl) (fun hg24 => S_elemN (e := 38) (f := ctrAV) (l := b.main) 11 rfl (AEv.cond (AEv.tmp rfl) (by first | assumption | exact gdAnd (by assumption) (by assumption))) (AEv.cond (AEv.tmp rfl) (by first | assumption | exact gdAnd (by assumption) (by assumption))) (by kernel_rfl) (by kernel_rfl) (by (try simp only [gd, Bool.and_eq_true, Bool.or_eq_true, Bool.not_eq_true', Bool.not_eq_false', decide_eq_true_eq, decide_eq_false_iff_not, Bool.or_eq_false_iff, Bool.and_eq_false_iff] at *); omega) (fun _ => rfl))) <|
                  .cons rfl (Q_g rfl rfl (AEv.tmp rfl) (fun hg27 => S_fieldP 1 rfl (AEv.cond (AEv.tmp rfl) (by first | assumption | exact gdAnd (by assumption) (by assumption))) (by kernel_rfl))) <|
                  .cons rfl (Q_g rfl rfl (AEv.tmp rfl) (fun hg30 => S_loadP rfl (AEv.cond (AEv.tmp rfl) (by first | assumption | exact gdAnd (by assumption) (by assumption))) rfl (by kernel_rfl))) <|
                  .cons rfl (Q_g rfl rfl (AEv.tmp rfl) (fun hg33 => S_gcall rfl (AEvs.cons (AEv.cond (AEv.tmp rfl) (by first | assumption | exact gdAnd (by assumption) (by assumption))) (AEvs.cons (AEv.cond (AEv.tmp rfl) (by first | assumption | exact gdAnd (by assumption) (by assumption))) AEvs.nil)) ((text_Same_ok (a.main[i]'hil).image (b.main[i]'him).image (by have := (pa2 _ (List.getElem_mem hil)).2; omega) (by have := (pb2 _ (List.getElem_mem him)).2; omega)) _ (fun p hp => by first | exact hG p hp | (simp [hG p hp]; done))))) <|
                  .cons rfl (Q_g rfl rfl (AEv.tmp rfl) (fun hg36 => S_not rfl (AEv.cond (AEv.tmp rfl) (by first | assumption | exact gdAnd (by assumption) (by assumption))))) <|
                  .cons rfl (Q_p rfl (S_and rfl (AEv.tmp rfl) (fun hp39 => (AEv.cond (AEv.tmp rfl) (by first | assumption | exact gdT hp39 | exact gdF hp39 | exact gdAnd (by assumption) (gdT hp39) | exact gdAnd (by assumption) (gdF hp39)))))) <|
                  .nil) ?_
              refine AC_cond (AEv.tmp rfl) (fun hb40 => ?_) (fun hb40 => ?_)
              · try simp only [Bool.and_eq_true, Bool.or_eq_true, Bool.not_eq_true', Bool.not_eq_false', Bool.and_eq_false_iff, Bool.or_eq_false_iff, decide_eq_true_eq, decide_eq_false_iff_not, gd] at hb40
                have hend : frozenE a b = some (33, [atT mainN (i : Int), [105, 109, 97, 103, 101]]) := by rw [hfe, eachE_at hil (by rw [hat, if_neg hal, if_pos ⟨by simpa using hb40.1, by simpa using hb40.2⟩]) hall]
                refine AC_seq ?_
                refine AC_region ?_
                refine AL_p rfl rfl (S_move rfl (AEv.tmp rfl)) ?_
                refine AL_p rfl rfl (S_pcall rfl (AEvs.cons (AEv.S _) (AEvs.cons (AEv.tmp rfl) AEvs.nil)) (spec_at_ok mainN (by decide) (i : Int) hif)) ?_
                refine AL_p rfl rfl (S_buildSlice (e := 9) 1 rfl (AEvs.cons (AEv.tmp rfl) (AEvs.cons (AEv.S _) AEvs.nil)) rfl (by kernel_rfl) (by kernel_rfl) (by intro y hy; simp only [List.mem_cons, List.not_mem_nil, or_false] at hy; rcases hy with rfl | rfl <;> exact ⟨rfl, rfl⟩) (by decide) (by decide) (by decide)) ?_
                refine AL_p rfl rfl (S_pcall rfl (AEvs.cons (AEv.const _) (AEvs.cons (AEv.tmp rfl) AEvs.nil)) (fail_New_ok 33 [atT mainN (i : Int), [105, 109, 97, 103, 101]] (by simp))) ?_
                refine AL_p rfl rfl (S_assign rfl (AEv.tmp rfl)) ?_
                refine AL_nil ?_
                refine AC_ret ?_
                refine ret_tmp st rfl rfl (Sub.l (List.Sublist.cons _ (List.Sublist.cons _ (List.Sublist.cons _ (List.Sublist.refl _))))) (Conv.refl (Sub.l (List.Sublist.cons _ (List.Sublist.cons _ (List.Sublist.cons _ (List.Sublist.refl _))))) _) ⟨by rw [hend]; rfl, rfl⟩ (.inl rfl)
              · try simp only [Bool.and_eq_true, Bool.or_eq_true, Bool.not_eq_true', Bool.not_eq_false', Bool.and_eq_false_iff, Bool.or_eq_false_iff, decide_eq_true_eq, decide_eq_false_iff_not, gd] at hb40
                have hfa : (frozenAt a.main b.main i) = none := by
                  rw [hat, if_neg hal, if_neg]
                  rintro ⟨k1, k2⟩
                  rcases hb40 with h | h
                  · exact k1 (by simpa using h)
                  · rw [k2] at h; simp at h
                refine AC_skip ?_
                refine AC_region ?_
                refine AL_p rfl rfl (S_addI rfl (AEv.tmp rfl) (AEv.const _) (by omega) (by omega)) ?_
                refine AL_p rfl rfl (S_move rfl (AEv.tmp rfl)) ?_
                refine AL_nil ?_
                refine ⟨i + 1, ⟨by omega, fun j h => ?_⟩, by omega, (Sub.l (List.Sublist.cons _ (List.Sublist.refl _))), (.cons rfl (by first | exact Le.refl _ | exact Le.nils | exact Le.row _ _ _ _ | exact Le.of_eq (by first | rfl | (simp; done) | (push_cast; rfl) | (simp; omega))) .nil), (.cons rfl (Le.refl _) (.cons rfl (Le.refl _) (.cons rfl (Le.refl _) .nil)))⟩
                rcases Nat.lt_or_ge j i with h' | h'
                · exact hall j h'
                · have : j = i := by omega
                  subst this
                  exact hfa
          · try simp only [Bool.and_eq_true, Bool.or_eq_true, Bool.not_eq_true', Bool.not_eq_false', Bool.and_eq_false_iff, Bool.or_eq_false_iff, decide_eq_true_eq, decide_eq_false_iff_not, gd] at hb6
            have hend : frozenE a b = none := by rw [hfe, eachE_all fun j hj => hall j (by omega)]
            refine AC_exit ?_
            refine AC_seq ?_
            refine AC_region ?_
            refine AL_p rfl rfl (S_assign rfl (AEv.const _)) ?_
            refine AL_nil ?_
            refine AC_ret ?_
            refine ret_tmp st rfl rfl (Sub.l (List.Sublist.cons _ (List.Sublist.cons _ (List.Sublist.refl _)))) (Conv.refl (Sub.l (List.Sublist.cons _ (List.Sublist.cons _ (List.Sublist.refl _)))) _) ⟨by rw [hend]; rfl, rfl⟩ (.inl rfl)

set_option maxRecDepth 100000 in
/-- provost/spec.Ports -/
theorem spec_Ports_ok (s : Spc) (hm : s.main.length ≤ 8) (hp : ∀ c ∈ s.main, c.ports.length ≤ 10) : PCalls Tryd.prog 10 [spcAV s] (.sl (intsV (portsS s))) := by
  intro st
  refine ACalls_of (N := 19) Tryd.func10 (by kernel_rfl) rfl rfl rfl ?_
  refine AC_seq ?_
  refine AC_region ?_
  refine AL_step rfl rfl (S_box rfl (AEv.tmp rfl)) ?_
  rintro _ _ ⟨b1, rfl, rfl⟩
  refine AL_p rfl rfl (S_assign rfl (AEv.const _)) ?_
  refine AL_nil ?_
  refine AC_seq ?_
  refine AC_region ?_
  refine AL_p rfl rfl (S_assign rfl (AEv.const _)) ?_
  refine AL_nil ?_
  refine AC_seq ?_
  refine AC_seq ?_
  refine AC_region ?_
  refine AL_p rfl rfl (S_field 3 rfl (AEv.tmp rfl) (by kernel_rfl)) ?_
  refine AL_p rfl rfl (S_load 0 rfl (AEv.tmp rfl) rfl rfl (by kernel_rfl)) ?_
  refine AL_p rfl rfl (by first | exact S_lenM (e := 38) rfl (AEv.tmp rfl) (by kernel_rfl) | exact S_len (e := 38) rfl (AEv.tmp rfl) (by kernel_rfl)) ?_
  refine AL_p rfl rfl (S_move rfl (AEv.const _)) ?_
  refine AL_nil ?_
  refine AC_block ?_
  refine AC_loopK (G := Nat × Own) [(2, _), (7, _), (8, _)] (fun g => g.1 ≤ s.main.length ∧ g.2.ok (((s.main.take g.1).flatMap Ctr.ports).map (fun n : Int => AV.int .i64 n))) (fun g => [(3, ownAV g.2 1 (((s.main.take g.1).flatMap Ctr.ports).map (fun n : Int => AV.int .i64 n))), (9, .int .i64 (g.1 : Int))]) (fun g => (b1, .cells (spcL s)) :: (ownSt g.2 3 1 (((s.main.take g.1).flatMap Ctr.ports).map (fun n : Int => AV.int .i64 n)) ++ st)) (fun g => s.main.length - g.1) ((0, .nil)) (⟨Nat.zero_le _, by simp [Own.ok]⟩) (Sub.l (List.Sublist.refl _)) (.cons rfl (Le.refl _) (.cons rfl (Le.refl _) (.cons rfl (Le.refl _) .nil))) (.cons rfl (by first | exact Le.refl _ | exact Le.nils | exact Le.row _ _ _ _ | exact Le.of_eq (by first | rfl | (simp; done) | (push_cast; rfl) | (simp; omega))) (.cons rfl (by first | exact Le.refl _ | exact Le.nils | exact Le.row _ _ _ _ | exact Le.of_eq (by first | rfl | (simp; done) | (push_cast; rfl) | (simp; omega))) .nil)) ?_
  · rintro ⟨i, p⟩ ⟨hi, hq⟩
    try dsimp only
    simp only [List.cons_append, List.nil_append]
    dsimp only at hi hq
    refine AC_seq ?_
    refine AC_region ?_
    refine AL_p rfl rfl (S_lss rfl (AEv.tmp rfl) (AEv.tmp rfl)) ?_
    refine AL_nil ?_
    refine AC_seq ?_
    refine AC_cond (AEv.tmp rfl) (fun hb2 => ?_) (fun hb2 => ?_)
    · try simp only [Bool.and_eq_true, Bool.or_eq_true, Bool.not_eq_true', Bool.not_eq_false', Bool.and_eq_false_iff, Bool.or_eq_false_iff, decide_eq_true_eq, decide_eq_false_iff_not, gd] at hb2
      have hil : i < s.main.length := by omega
      have hpl := hp _ (List.getElem_mem hil)
      have hfl := flat_le (l := s.main.take i) fun c h => hp c (List.mem_of_mem_take h)
      have htl : (s.main.take i).length = i := by rw [List.length_take]; omega
      refine AC_skip ?_
      refine AC_seq ?_
      refine AC_block ?_
      refine AC_seq ?_
      refine AC_region ?_
      refine AL_p rfl rfl (S_elemN (e := 38) 11 rfl (AEv.tmp rfl) (AEv.tmp rfl) (by kernel_rfl) (by kernel_rfl) (by omega) (fun _ => rfl)) ?_
      refine AL_p rfl rfl (S_loadPN (m := 11) rfl (AEv.tmp rfl) (by kernel_rfl) (by first | exact Nat.le_of_ble_eq_true rfl | (simp; omega) | simp)) ?_
      refine AL_step rfl rfl (S_alloc [.string ⟨#[]⟩, .string ⟨#[]⟩, .int .i64 0, .int .i64 0, .int .i64 0, .int .i64 0, .int .i64 0, .int .i64 0, .slice none 0 0, .int .i64 0, .int .i64 0] rfl (by kernel_rfl)) ?_
      rintro _ _ ⟨b5, rfl, rfl⟩
      refine AL_step rfl rfl (S_storeW 0 rfl (AEv.tmp rfl) (AEv.tmp rfl) rfl rfl rfl (by kernel_rfl)) ?_
      rintro _ _ ⟨rfl, rfl⟩
      refine AL_nil ?_
      refine AC_region ?_
      refine AL_p rfl rfl (S_move rfl (AEv.tmp rfl)) ?_
      refine AL_p rfl rfl (S_field 8 rfl (AEv.tmp rfl) (by kernel_rfl)) ?_
      refine AL_p rfl rfl (S_load 0 rfl (AEv.tmp rfl) rfl rfl (by kernel_rfl)) ?_
      refine AL_step rfl rfl (S_appendAny (f := (fun n : Int => AV.int .i64 n)) (l := (s.main.take i).flatMap Ctr.ports) (l2 := (s.main[i]'hil).ports) (e := 3) (size := 1) (bytes := 8) (p := p) ([_, _]) (st) rfl (AEv.tmp rfl) (AEv.tmp rfl) rfl hq (by kernel_rfl) (fun _ => ⟨rfl, rfl⟩) (by omega) (by omega)) ?_
      rintro _ _ ⟨q8, hx, rfl, rfl⟩
      refine AL_p rfl rfl (S_assign rfl (AEv.tmp rfl)) ?_
      refine AL_nil ?_
      refine AC_region ?_
      refine AL_p rfl rfl (S_addI rfl (AEv.tmp rfl) (AEv.const _) (by omega) (by omega)) ?_
      refine AL_p rfl rfl (S_move rfl (AEv.tmp rfl)) ?_
      refine AL_nil ?_
      rw [flat_snoc hil] at hx ⊢
      exact ⟨(i + 1, q8), ⟨by dsimp only; omega, hx⟩, by dsimp only; omega, (Sub.l (List.Sublist.cons _ (List.Sublist.refl _))), (.cons rfl (by first | exact Le.refl _ | exact Le.nils | exact Le.row _ _ _ _ | exact Le.of_eq (by first | rfl | (simp; done) | (push_cast; rfl) | (simp; omega))) (.cons rfl (by first | exact Le.refl _ | exact Le.nils | exact Le.row _ _ _ _ | exact Le.of_eq (by first | rfl | (simp; done) | (push_cast; rfl) | (simp; omega))) .nil)), (.cons rfl (Le.refl _) (.cons rfl (Le.refl _) (.cons rfl (Le.refl _) .nil)))⟩
    · try simp only [Bool.and_eq_true, Bool.or_eq_true, Bool.not_eq_true', Bool.not_eq_false', Bool.and_eq_false_iff, Bool.or_eq_false_iff, decide_eq_true_eq, decide_eq_false_iff_not, gd] at hb2
      obtain rfl : i = s.main.length := by omega
      refine AC_exit ?_
      refine AC_seq ?_
      refine AC_region ?_
      refine AL_p rfl rfl (S_move rfl (AEv.tmp rfl)) ?_
      refine AL_p rfl rfl (S_assign rfl (AEv.tmp rfl)) ?_
      refine AL_nil ?_
      refine AC_ret ?_
      refine ret_tmp st rfl rfl (Sub.l (List.Sublist.cons _ (List.sublist_append_right _ _))) (Conv.le (Sub.l (List.Sublist.cons _ (List.sublist_append_right _ _))) (Le_own hq)) ⟨by rw [List.take_length]; rfl, rfl⟩ (.inl rfl)

end Go.Proofs.YtfdcadnaginnpaaDoor

/-
The walks of Go functions in the logic AL: what each of them answers.
Conditions: those of each theorem.
-/
set_option linter.unusedVariables false
set_option linter.unusedSimpArgs false
namespace Go.Proofs.YtfdcadnaginnpaaDoor
open Go.AL Go.NumSpec

set_option maxRecDepth 100000 in
/-- provost/provostlaw06.plain -/
theorem law_plain (st : St) : ACalls Tryd.prog 7 [] st (fun x st' => ∃ b, x = .agg [.S [119, 101, 98], .nils, .nils, .lit (.slice (some ⟨b, 0, none⟩) 2 2), .int .i64 3, .int .i64 0, .int .i64 0] ∧ st' = (b, .cells ([ctrAV ctrA6, ctrAV (ctrB6 [98])].flatMap AV.cells)) :: st) := by
  refine ACalls_of (N := 6) Tryd.func7 (by kernel_rfl) rfl rfl rfl ?_
  refine AC_seq ?_
  refine AC_region ?_
  refine AL_step rfl rfl (S_alloc [.string ⟨#[]⟩, .slice none 0 0, .slice none 0 0, .slice none 0 0, .int .i64 0, .int .i64 0, .int .i64 0] rfl (by kernel_rfl)) ?_
  rintro _ _ ⟨b0, rfl, rfl⟩
  refine AL_nil ?_
  refine AC_seq ?_
  refine AC_region ?_
  refine AL_p rfl rfl (S_build (t := 38) (pl := [(0, 1), (1, 1), (2, 3), (5, 3), (8, 1), (9, 2)]) (zs := [.string ⟨#[]⟩, .string ⟨#[]⟩, .int .i64 0, .int .i64 0, .int .i64 0, .int .i64 0, .int .i64 0, .int .i64 0, .slice none 0 0, .int .i64 0, .int .i64 0]) rfl (AEvs.cons (AEv.S _) (AEvs.cons (AEv.S _) AEvs.nil)) (by kernel_rfl) rfl) ?_
  refine AL_p rfl rfl (S_buildSlice (e := 3) 1 rfl (AEvs.cons (AEv.const _) AEvs.nil) rfl (by kernel_rfl) (by kernel_rfl) (by intro y hy; simp only [List.mem_cons, List.not_mem_nil, or_false] at hy; rcases hy with rfl <;> exact ⟨rfl, rfl⟩) (by decide) (by decide) (by decide)) ?_
  refine AL_p rfl rfl (S_build (t := 38) (pl := [(0, 1), (1, 1), (2, 3), (5, 3), (8, 1), (9, 2)]) (zs := [.string ⟨#[]⟩, .string ⟨#[]⟩, .int .i64 0, .int .i64 0, .int .i64 0, .int .i64 0, .int .i64 0, .int .i64 0, .slice none 0 0, .int .i64 0, .int .i64 0]) rfl (AEvs.cons (AEv.S _) (AEvs.cons (AEv.S _) (AEvs.cons (AEv.tmp rfl) AEvs.nil))) (by kernel_rfl) rfl) ?_
  refine AL_step rfl rfl (S_buildV (e := 38) (ys := [ctrAV ctrA6, ctrAV (ctrB6 [98])]) 11 rfl (AEvs.cons ((AEv.tmp rfl).le (Les.agg (.cons (Le.refl _) (.cons (Le.refl _) (.cons (Le.refl _) (.cons (Le.refl _) (.cons (Le.refl _) (.cons (Le.refl _) (.cons (Le.refl _) (.cons (Le.refl _) (.cons Le.nils (.cons (Le.refl _) (.cons (Le.refl _) .nil))))))))))))) (AEvs.cons (AEv.tmp rfl) AEvs.nil)) rfl (by kernel_rfl) (by kernel_rfl) (by intro y hy; simp only [List.mem_cons, List.not_mem_nil, or_false] at hy; rcases hy with rfl | rfl <;> exact ⟨rfl, rfl⟩) (by decide) (by decide) (by decide)) ?_
  rintro _ _ ⟨b9, rfl, rfl⟩
  refine AL_p rfl rfl (S_build (t := 25) (pl := [(0, 1), (1, 1), (2, 1), (3, 1), (4, 1), (5, 1), (6, 1)]) (zs := [.string ⟨#[]⟩, .slice none 0 0, .slice none 0 0, .slice none 0 0, .int .i64 0, .int .i64 0, .int .i64 0]) rfl (AEvs.cons (AEv.S _) (AEvs.cons (AEv.tmp rfl) (AEvs.cons (AEv.const _) AEvs.nil))) (by kernel_rfl) rfl) ?_
  refine AL_step rfl rfl (S_storeW 1 rfl (AEv.tmp rfl) (AEv.tmp rfl) rfl rfl rfl (by kernel_rfl)) ?_
  rintro _ _ ⟨rfl, rfl⟩
  refine AL_nil ?_
  refine AC_ret ?_
  refine ret_cell (y := .agg [.S [119, 101, 98], .nils, .nils, .lit (.slice (some ⟨b9, 0, none⟩) 2 2), .int .i64 3, .int .i64 0, .int .i64 0]) 1 ((b9, .cells ([ctrAV ctrA6, ctrAV (ctrB6 [98])].flatMap AV.cells)) :: st) rfl rfl rfl (by kernel_rfl) (Sub.l (List.Sublist.cons_cons _ (List.Sublist.cons _ (List.Sublist.refl _)))) (Conv.refl (Sub.l (List.Sublist.cons_cons _ (List.Sublist.cons _ (List.Sublist.refl _)))) _) ⟨b9, rfl, rfl⟩ (.inl rfl)

set_option maxRecDepth 100000 in
set_option maxHeartbeats 1000000 in
/-- provost/provostlaw06.works -/
theorem law_works : GCalls Tryd.prog tabs 4 [] (.bool true) := by
  intro st hG
  refine ACalls_of (N := 37) Tryd.func4 (by kernel_rfl) rfl rfl rfl ?_
  refine AC_seq ?_
  refine AC_region ?_
  refine AL_p rfl rfl (S_assign rfl (AEv.const _)) ?_
  refine AL_nil ?_
  refine AC_seq ?_
  refine AC_region ?_
  refine AL_step rfl rfl (S_call rfl AEvs.nil (law_plain _)) ?_
  rintro _ _ ⟨b9, rfl, rfl⟩
  refine AL_step rfl rfl (S_alloc [.string ⟨#[]⟩, .slice none 0 0, .slice none 0 0, .slice none 0 0, .int .i64 0, .int .i64 0, .int .i64 0] rfl (by kernel_rfl)) ?_
  rintro _ _ ⟨b1, rfl, rfl⟩
  refine AL_step rfl rfl (S_storeW 0 rfl (AEv.tmp rfl) (AEv.tmp rfl) rfl rfl rfl (by kernel_rfl)) ?_
  rintro _ _ ⟨rfl, rfl⟩
  refine AL_nil ?_
  refine AC_seq ?_
  refine AC_region ?_
  refine AL_p rfl rfl (S_loadN (m := 7) 0 rfl (AEv.tmp rfl) rfl (by kernel_rfl) (by first | exact Nat.le_of_ble_eq_true rfl | (simp; omega) | simp)) ?_
  refine AL_p rfl rfl (S_gcallB (gs := tabs) (fun p hp => List.mem_cons_of_mem _ (List.mem_cons_of_mem _ (hG p hp))) (by decide) rfl (AEvs.cons (AEv.tmp rfl) AEvs.nil) (args := [spcAV (plain6 [98])]) (.cons (LendsG.agg (.cons (Conv.mut (MutLe.memb (fun p hp => List.mem_cons_of_mem _ (List.mem_cons_of_mem _ (hG p hp)))) (Le.refl _)) (.cons (Conv.mut (MutLe.memb (fun p hp => List.mem_cons_of_mem _ (List.mem_cons_of_mem _ (hG p hp)))) Le.nils) (.cons (Conv.mut (MutLe.memb (fun p hp => List.mem_cons_of_mem _ (List.mem_cons_of_mem _ (hG p hp)))) Le.nils) (.cons (Conv.nd fun hnd => (Conv.vecM (q := .at b9 2) (size := 11) (xs := [ctrAV ctrA6, ctrAV (ctrB6 [98])]) (MutLe.memb (fun p hp => List.mem_cons_of_mem _ (List.mem_cons_of_mem _ (hG p hp)))) (Nat.le_refl 2) (fun x hx => by simp only [List.mem_cons, List.not_mem_nil, or_false] at hx; rcases hx with rfl | rfl <;> rfl) (fun p hp => by obtain rfl := List.mem_singleton.1 hp; exact List.mem_cons_of_mem _ List.mem_cons_self) (fun b cap hb => by cases hb; exact not_table hnd (fun p hp => List.mem_cons_of_mem _ (List.mem_cons_of_mem _ (hG p hp))) (cs := ([ctrAV ctrA6, ctrAV (ctrB6 [98])].flatMap AV.cells)) (List.mem_cons_of_mem _ List.mem_cons_self)))) (.cons (Conv.mut (MutLe.memb (fun p hp => List.mem_cons_of_mem _ (List.mem_cons_of_mem _ (hG p hp)))) (Le.refl _)) (.cons (Conv.mut (MutLe.memb (fun p hp => List.mem_cons_of_mem _ (List.mem_cons_of_mem _ (hG p hp)))) (Le.refl _)) (.cons (Conv.mut (MutLe.memb (fun p hp => List.mem_cons_of_mem _ (List.mem_cons_of_mem _ (hG p hp)))) (Le.refl _)) .nil)))))))) .nil) (v := .nilIface) (spec_Check_ok (plain6 [98]) (by decide +kernel))) ?_
  refine AL_p rfl rfl (S_assign rfl (AEv.tmp rfl)) ?_
  refine AL_nil ?_
  refine AC_seq ?_
  refine AC_region ?_
  refine AL_p rfl rfl (S_field 3 rfl (AEv.tmp rfl) (by kernel_rfl)) ?_
  refine AL_p rfl rfl (S_load 0 rfl (AEv.tmp rfl) rfl rfl (by kernel_rfl)) ?_
  refine AL_p rfl rfl (S_elemO (e := 38) 11 rfl (AEv.tmp rfl) (AEv.const _) (by kernel_rfl) (by kernel_rfl) (by omega) (by omega)) ?_
  refine AL_p rfl rfl (S_field 0 rfl (AEv.tmp rfl) (by kernel_rfl)) ?_
  refine AL_step rfl rfl (S_store 1 rfl (AEv.tmp rfl) (AEv.S _) rfl (by decide) rfl (by kernel_rfl)) ?_
  rintro _ _ ⟨rfl, rfl⟩
  refine AL_nil ?_
  refine AC_seq ?_
  refine AC_conv (st' := (b1, .cells (spcL (plain6 [65]))) :: st) (env' := [(1, .ptr b1 0), (2, .nili)]) (StConv.cellsL (.cons (Conv.mut (MutLe.cells (MutLe.drop (MutLe.refl _))) (Le.refl _)) (.cons (Conv.mut (MutLe.cells (MutLe.drop (MutLe.refl _))) Le.nils) (.cons (Conv.mut (MutLe.cells (MutLe.drop (MutLe.refl _))) Le.nils) (.cons (Conv.nd fun hnd => (Conv.vecM (q := .at b9 2) (size := 11) (xs := [ctrAV ctrA6, ctrAV (ctrB6 [65])]) (MutLe.cells (MutLe.drop (MutLe.refl _))) (Nat.le_refl 2) (fun x hx => by simp only [List.mem_cons, List.not_mem_nil, or_false] at hx; rcases hx with rfl | rfl <;> rfl) (fun p hp => by obtain rfl := List.mem_singleton.1 hp; exact List.mem_cons_of_mem _ List.mem_cons_self) (fun b cap hb => by cases hb; exact (fun o ho => by
      simp only [List.set_cons_zero, List.set_cons_succ, List.map_cons, List.nodup_cons, List.mem_cons] at hnd
      rcases List.mem_cons.1 ho with h | h
      · cases h; exact hnd.1 (.inl rfl)
      · exact hnd.2.1 (List.mem_map_of_mem (f := Prod.fst) h))))) (.cons (Conv.mut (MutLe.cells (MutLe.drop (MutLe.refl _))) (Le.refl _)) (.cons (Conv.mut (MutLe.cells (MutLe.drop (MutLe.refl _))) (Le.refl _)) (.cons (Conv.mut (MutLe.cells (MutLe.drop (MutLe.refl _))) (Le.refl _)) .nil))))))) (.drop (.rest _ (fun c => Conv.mut (MutLe.cells (MutLe.drop (MutLe.refl _))) (Le.refl c))))) (.cons rfl (Conv.lits _) (.cons rfl (Conv.lits _) .nil)) ?_
  refine AC_region ?_
  refine AL_p rfl rfl (S_loadN (m := 7) 0 rfl (AEv.tmp rfl) rfl (by kernel_rfl) (by first | exact Nat.le_of_ble_eq_true rfl | (simp; omega) | simp)) ?_
  refine AL_p rfl rfl (S_gcall rfl (AEvs.cons (y := spcAV (plain6 [65])) (AEv.tmp rfl) AEvs.nil) ((spec_Check_ok (plain6 [65]) (by decide +kernel)) _ (fun p hp => by first | exact hG p hp | (simp [hG p hp]; done)))) ?_
  refine AL_p rfl rfl (S_assign rfl (AEv.tmp rfl)) ?_
  refine AL_nil ?_
  refine AC_seq ?_
  refine AC_region ?_
  refine AL_p rfl rfl (S_move rfl (AEv.tmp rfl)) ?_
  refine AL_p rfl rfl (S_eqlE (show ErrIs .nili true from rfl) rfl (AEv.tmp rfl) (by kernel_rfl)) ?_
  refine AL_p rfl rfl (S_move rfl (AEv.tmp rfl)) ?_
  refine AL_g rfl rfl (AEv.tmp rfl) rfl (fun hg2 => S_move rfl (AEv.tmp rfl)) ?_
  refine AL_g rfl rfl (AEv.tmp rfl) rfl (fun hg5 => S_gcall rfl (AEvs.cons (AEv.cond (AEv.tmp rfl) (by first | assumption | exact gdAnd (by assumption) (by assumption))) AEvs.nil) ((fail_Text_ok (checkE (plain6 [65])) (by decide +kernel) (by decide +kernel)) _ (fun p hp => by first | exact hG p hp | (simp [hG p hp]; done)))) ?_
  refine AL_g rfl rfl (AEv.tmp rfl) rfl (fun hg8 => S_eqS rfl (AEv.cond (AEv.tmp rfl) (by first | assumption | exact gdAnd (by assumption) (by assumption))) (AEv.S _)) ?_
  refine AL_p rfl rfl (S_and rfl (AEv.tmp rfl) (fun hp11 => (AEv.cond (AEv.tmp rfl) (by first | assumption | exact gdT hp11 | exact gdF hp11 | exact gdAnd (by assumption) (gdT hp11) | exact gdAnd (by assumption) (gdF hp11))))) ?_
  refine AL_p rfl rfl (S_move rfl (AEv.tmp rfl)) ?_
  refine AL_g rfl rfl (AEv.tmp rfl) rfl (fun hg12 => S_move rfl (AEv.tmp rfl)) ?_
  refine AL_g rfl rfl (AEv.tmp rfl) rfl (fun hg15 => S_gcall rfl (AEvs.cons (AEv.cond (AEv.tmp rfl) (by first | assumption | exact gdAnd (by assumption) (by assumption))) AEvs.nil) ((fail_Code_ok (checkE (plain6 [65]))) _ (fun p hp => by first | exact hG p hp | (simp [hG p hp]; done)))) ?_
  refine AL_g rfl rfl (AEv.tmp rfl) rfl (fun hg18 => S_eql rfl (AEv.cond (AEv.tmp rfl) (by first | assumption | exact gdAnd (by assumption) (by assumption))) (AEv.const _)) ?_
  refine AL_p rfl rfl (S_and rfl (AEv.tmp rfl) (fun hp21 => (AEv.cond (AEv.tmp rfl) (by first | assumption | exact gdT hp21 | exact gdF hp21 | exact gdAnd (by assumption) (gdT hp21) | exact gdAnd (by assumption) (gdF hp21))))) ?_
  refine AL_p rfl rfl (S_move rfl (AEv.tmp rfl)) ?_
  refine AL_g rfl rfl (AEv.tmp rfl) rfl (fun hg22 => S_loadN (m := 7) 0 rfl (AEv.tmp rfl) rfl (by kernel_rfl) (by first | exact Nat.le_of_ble_eq_true rfl | (simp; omega) | simp)) ?_
  refine AL_g rfl rfl (AEv.tmp rfl) rfl (fun hg25 => S_pcall rfl (AEvs.cons (y := spcAV (plain6 [65])) (AEv.cond (AEv.tmp rfl) (by first | assumption | exact gdAnd (by assumption) (by assumption))) AEvs.nil) (spec_Ports_ok (plain6 [65]) (by decide) (by decide))) ?_
  refine AL_g rfl rfl (AEv.tmp rfl) rfl (fun hg28 => by first | exact S_lenM (e := 3) rfl (AEv.cond (AEv.tmp rfl) (by first | assumption | exact gdAnd (by assumption) (by assumption))) (by kernel_rfl) | exact S_len (e := 3) rfl (AEv.cond (AEv.tmp rfl) (by first | assumption | exact gdAnd (by assumption) (by assumption))) (by kernel_rfl)) ?_
  refine AL_g rfl rfl (AEv.tmp rfl) rfl (fun hg31 => S_eql rfl (AEv.cond (AEv.tmp rfl) (by first | assumption | exact gdAnd (by assumption) (by assumption))) (AEv.const _)) ?_
  refine AL_p rfl rfl (S_and rfl (AEv.tmp rfl) (fun hp34 => (AEv.cond (AEv.tmp rfl) (by first | assumption | exact gdT hp34 | exact gdF hp34 | exact gdAnd (by assumption) (gdT hp34) | exact gdAnd (by assumption) (gdF hp34))))) ?_
  refine AL_p rfl rfl (S_move rfl (AEv.tmp rfl)) ?_
  refine AL_g rfl rfl (AEv.tmp rfl) rfl (fun hg35 => S_loadN (m := 7) 0 rfl (AEv.tmp rfl) rfl (by kernel_rfl) (by first | exact Nat.le_of_ble_eq_true rfl | (simp; omega) | simp)) ?_
  refine AL_g rfl rfl (AEv.tmp rfl) rfl (fun hg38 => S_loadN (m := 7) 0 rfl (AEv.tmp rfl) rfl (by kernel_rfl) (by first | exact Nat.le_of_ble_eq_true rfl | (simp; omega) | simp)) ?_
  refine AL_g rfl rfl (AEv.tmp rfl) rfl (fun hg41 => S_gcall rfl (AEvs.cons (y := spcAV (plain6 [65])) (AEv.cond (AEv.tmp rfl) (by first | assumption | exact gdAnd (by assumption) (by assumption))) (AEvs.cons (y := spcAV (plain6 [65])) (AEv.cond (AEv.tmp rfl) (by first | assumption | exact gdAnd (by assumption) (by assumption))) AEvs.nil)) ((spec_Frozen_ok (plain6 [65]) (plain6 [65]) (by decide) (by decide) (by decide) (by decide) (by rintro s (rfl | rfl) <;> exact ⟨by decide, by decide⟩)) _ (fun p hp => by first | exact hG p hp | (simp [hG p hp]; done)))) ?_
  refine AL_g rfl rfl (AEv.tmp rfl) rfl (fun hg44 => S_eqlE (er_is 40 79 (frozenE (plain6 [65]) (plain6 [65]))) rfl (AEv.cond (AEv.tmp rfl) (by first | assumption | exact gdAnd (by assumption) (by assumption))) (by kernel_rfl)) ?_
  refine AL_p rfl rfl (S_and rfl (AEv.tmp rfl) (fun hp47 => (AEv.cond (AEv.tmp rfl) (by first | assumption | exact gdT hp47 | exact gdF hp47 | exact gdAnd (by assumption) (gdT hp47) | exact gdAnd (by assumption) (gdF hp47))))) ?_
  refine AL_p rfl rfl (S_assign rfl (AEv.tmp rfl)) ?_
  refine AL_nil ?_
  refine AC_ret ?_
  refine ret_tmp st rfl rfl (Sub.l (List.Sublist.cons _ (List.Sublist.refl _))) (Conv.refl (Sub.l (List.Sublist.cons _ (List.Sublist.refl _))) _) ⟨congrArg AV.bool (by decide +kernel), rfl⟩ (.inl rfl)

end Go.Proofs.YtfdcadnaginnpaaDoor

/-
The walks of Go functions in the logic AL: what each of them answers.
Conditions: those of each theorem.
-/
set_option linter.unusedVariables false
set_option linter.unusedSimpArgs false
namespace Go.Proofs.YtfdcadnaginnpaaDoor
open Go.AL Go.NumSpec

set_option maxRecDepth 100000 in
/-- provost/provostlaw06.SpecParts -/
theorem law_SpecParts (s : Spc) : GCalls Tryd.prog tabs 3 [spcAV s] (.bool true) := by
  intro st hG
  refine ACalls_of (N := 68) Tryd.func3 (by kernel_rfl) rfl rfl rfl ?_
  refine AC_seq ?_
  refine AC_region ?_
  refine AL_step rfl rfl (S_box rfl (AEv.tmp rfl)) ?_
  rintro _ _ ⟨b1, rfl, rfl⟩
  refine AL_p rfl rfl (S_assign rfl (AEv.const _)) ?_
  refine AL_nil ?_
  refine AC_seq ?_
  refine AC_seq ?_
  refine AC_region ?_
  refine AL_p rfl rfl (S_gcall rfl AEvs.nil ((law_works) _ (fun p hp => by first | exact hG p hp | (simp [hG p hp]; done)))) ?_
  refine AL_p rfl rfl (S_not rfl (AEv.tmp rfl)) ?_
  refine AL_nil ?_
  refine AC_cond (AEv.tmp rfl) (fun hb2 => ?_) (fun hb2 => ?_)
  · simp at hb2; done
  · try simp only [Bool.and_eq_true, Bool.or_eq_true, Bool.not_eq_true', Bool.not_eq_false', Bool.and_eq_false_iff, Bool.or_eq_false_iff, decide_eq_true_eq, decide_eq_false_iff_not, gd] at hb2
    refine AC_skip ?_
    refine AC_seq ?_
    refine AC_seq ?_
    refine AC_region ?_
    refine AL_p rfl rfl (S_loadN (m := 7) 0 rfl (AEv.tmp rfl) rfl (by kernel_rfl) (by first | exact Nat.le_of_ble_eq_true rfl | (simp; omega) | simp)) ?_
    refine AL_p rfl rfl (S_pcall rfl (AEvs.cons (AEv.tmp rfl) AEvs.nil) (book_LightSpec_ok _)) ?_
    refine AL_p rfl rfl (S_not rfl (AEv.tmp rfl)) ?_
    refine AL_p rfl rfl (S_move rfl (AEv.tmp rfl)) ?_
    refine AL_g rfl rfl (AEv.tmp rfl) rfl (fun hg3 => S_loadN (m := 7) 0 rfl (AEv.tmp rfl) rfl (by kernel_rfl) (by first | exact Nat.le_of_ble_eq_true rfl | (simp; omega) | simp)) ?_
    refine AL_g rfl rfl (AEv.tmp rfl) rfl (fun hg6 => S_gcall rfl (AEvs.cons (AEv.cond (AEv.tmp rfl) (by first | assumption | exact gdAnd (by assumption) (by assumption))) AEvs.nil) ((spec_Check_ok s (gd_nf (by assumption))) _ (fun p hp => by first | exact hG p hp | (simp [hG p hp]; done)))) ?_
    refine AL_g rfl rfl (AEv.tmp rfl) rfl (fun hg9 => S_neqE (er_is 40 79 (checkE s)) rfl (AEv.cond (AEv.tmp rfl) (by first | assumption | exact gdAnd (by assumption) (by assumption))) (by kernel_rfl)) ?_
    refine AL_p rfl rfl (S_or rfl (AEv.tmp rfl) (fun hp12 => (AEv.cond (AEv.tmp rfl) (by first | assumption | exact gdT hp12 | exact gdF hp12 | exact gdAnd (by assumption) (gdT hp12) | exact gdAnd (by assumption) (gdF hp12))))) ?_
    refine AL_nil ?_
    refine AC_cond (AEv.tmp rfl) (fun hb13 => ?_) (fun hb13 => ?_)
    · try simp only [Bool.and_eq_true, Bool.or_eq_true, Bool.not_eq_true', Bool.not_eq_false', Bool.and_eq_false_iff, Bool.or_eq_false_iff, decide_eq_true_eq, decide_eq_false_iff_not, gd] at hb13
      refine AC_seq ?_
      refine AC_region ?_
      refine AL_p rfl rfl (S_assign rfl (AEv.const _)) ?_
      refine AL_nil ?_
      refine AC_ret ?_
      refine ret_tmp st rfl rfl (Sub.l (List.Sublist.cons _ (List.Sublist.refl _))) (Conv.refl (Sub.l (List.Sublist.cons _ (List.Sublist.refl _))) _) ⟨rfl, rfl⟩ (.inl rfl)
    · try simp only [Bool.and_eq_true, Bool.or_eq_true, Bool.not_eq_true', Bool.not_eq_false', Bool.and_eq_false_iff, Bool.or_eq_false_iff, decide_eq_true_eq, decide_eq_false_iff_not, gd] at hb13
      obtain ⟨hl, hc⟩ : lightS s = true ∧ checkE s = none := by
        cases h1 : lightS s <;> cases h2 : checkE s <;> simp [h1, h2] at hb13 ⊢
      obtain ⟨h1, h2, h3, h4, h5, h6, h7⟩ := lightS_out hl
      obtain ⟨hla, hlb, hlc⟩ := light_parts hl
      refine AC_skip ?_
      refine AC_seq ?_
      refine AC_plan (σ := [(0, 0), (1, 0), (2, 0), (3, 3), (4, 3), (5, 3), (6, 1), (7, 1), (8, 2)]) (by kernel_rfl) [_] (by kernel_rfl) (fun r hr => List.mem_append_left _ hr) ?_
      refine AG.f rfl rfl (fun st' hst => Q_p rfl (S_loadNM (m := 7) rfl (AEv.tmp rfl) (hst _ (List.mem_of_getElem? (i := 0) rfl)) (by kernel_rfl) (by first | exact Nat.le_of_ble_eq_true rfl | (simp; omega) | simp))) ?_
      refine AG.f rfl rfl (fun st' hst => Q_p rfl (S_loadNM (m := 7) rfl (AEv.tmp rfl) (hst _ (List.mem_of_getElem? (i := 0) rfl)) (by kernel_rfl) (by first | exact Nat.le_of_ble_eq_true rfl | (simp; omega) | simp))) ?_
      refine AG.f rfl rfl (fun st' hst => Q_p rfl (S_loadNM (m := 7) rfl (AEv.tmp rfl) (hst _ (List.mem_of_getElem? (i := 0) rfl)) (by kernel_rfl) (by first | exact Nat.le_of_ble_eq_true rfl | (simp; omega) | simp))) ?_
      refine AG.al [(3, 3, [.string ⟨#[]⟩, .slice none 0 0, .slice none 0 0, .slice none 0 0, .int .i64 0, .int .i64 0, .int .i64 0]), (4, 4, [.string ⟨#[]⟩, .slice none 0 0, .slice none 0 0, .slice none 0 0, .int .i64 0, .int .i64 0, .int .i64 0]), (5, 5, [.string ⟨#[]⟩, .slice none 0 0, .slice none 0 0, .slice none 0 0, .int .i64 0, .int .i64 0, .int .i64 0])] (by simp) (by simp) (AllocsAt.all (AllocsAt.cons rfl rfl rfl (by decide) rfl (by kernel_rfl) (AllocsAt.cons rfl rfl rfl (by decide) rfl (by kernel_rfl) (AllocsAt.cons rfl rfl rfl (by decide) rfl (by kernel_rfl) AllocsAt.nil)))) (by simp) (fun β => ?_)
      simp only [allocEnv, allocSt, List.foldl_cons, List.foldl_nil, List.map_cons, List.map_nil, List.cons_append, List.nil_append]
      generalize β 3 = b3
      generalize β 4 = b4
      generalize β 5 = b5
      refine AG.s rfl rfl rfl (S_storeW 0 rfl (AEv.tmp rfl) (AEv.tmp rfl) rfl rfl rfl (by kernel_rfl)) ?_ ?_
      · rintro _ _ ⟨rfl, rfl⟩ _ h; first | exact h | exact List.mem_cons_of_mem _ h | exact List.mem_cons_of_mem _ (List.mem_cons_of_mem _ h) | exact List.mem_cons_of_mem _ (List.mem_cons_of_mem _ (List.mem_cons_of_mem _ h)) | (repeat (first | exact List.mem_append_left _ h | refine List.mem_cons_of_mem _ ?_))
      rintro _ _ ⟨rfl, rfl⟩
      refine AG.s rfl rfl rfl (S_storeW 1 rfl (AEv.tmp rfl) (AEv.tmp rfl) rfl rfl rfl (by kernel_rfl)) ?_ ?_
      · rintro _ _ ⟨rfl, rfl⟩ _ h; first | exact h | exact List.mem_cons_of_mem _ h | exact List.mem_cons_of_mem _ (List.mem_cons_of_mem _ h) | exact List.mem_cons_of_mem _ (List.mem_cons_of_mem _ (List.mem_cons_of_mem _ h)) | (repeat (first | exact List.mem_append_left _ h | refine List.mem_cons_of_mem _ ?_))
      rintro _ _ ⟨rfl, rfl⟩
      refine AG.h rfl rfl rfl (S_storeW 2 rfl (AEv.tmp rfl) (AEv.tmp rfl) rfl rfl rfl (by kernel_rfl)) ?_
      rintro _ _ ⟨rfl, rfl⟩
      refine AG.nil ?_
      refine AC_joinK (G := Unit) [(1, _), (2, _), (3, _), (4, _), (5, _)] (fun _ => True) (fun _ => []) (fun _ => (b3, .cells (spcL (partA s))) :: (b4, .cells (spcL s)) :: (b5, .cells (spcL s)) :: (b1, .cells (spcL s)) :: st) (.cons rfl (Le.refl _) (.cons rfl (Le.refl _) (.cons rfl (Le.refl _) (.cons rfl (Le.refl _) (.cons rfl (Le.refl _) .nil))))) ?_ ?_
      · refine AC_seq ?_
        refine AC_region ?_
        refine AL_p rfl rfl (S_field 1 rfl (AEv.tmp rfl) (by kernel_rfl)) ?_
        refine AL_p rfl rfl (S_load 3 rfl (AEv.tmp rfl) rfl rfl (by kernel_rfl)) ?_
        refine AL_p rfl rfl (by first | exact S_lenM (e := 45) rfl (AEv.tmp rfl) (by kernel_rfl) | exact S_len (e := 45) rfl (AEv.tmp rfl) (by kernel_rfl)) ?_
        refine AL_p rfl rfl (S_gtr rfl (AEv.tmp rfl) (AEv.const _)) ?_
        refine AL_nil ?_
        refine AC_cond (AEv.tmp rfl) (fun hb17 => ?_) (fun hb17 => ?_)
        · try simp only [Bool.and_eq_true, Bool.or_eq_true, Bool.not_eq_true', Bool.not_eq_false', Bool.and_eq_false_iff, Bool.or_eq_false_iff, decide_eq_true_eq, decide_eq_false_iff_not, gd] at hb17
          refine AC_region ?_
          refine AL_p rfl rfl (S_field 1 rfl (AEv.tmp rfl) (by kernel_rfl)) ?_
          refine AL_p rfl rfl (S_load 3 rfl (AEv.tmp rfl) rfl rfl (by kernel_rfl)) ?_
          refine AL_p rfl rfl (S_field 1 rfl (AEv.tmp rfl) (by kernel_rfl)) ?_
          refine AL_p rfl rfl (S_load 3 rfl (AEv.tmp rfl) rfl rfl (by kernel_rfl)) ?_
          refine AL_p rfl rfl (by first | exact S_lenM (e := 45) rfl (AEv.tmp rfl) (by kernel_rfl) | exact S_len (e := 45) rfl (AEv.tmp rfl) (by kernel_rfl)) ?_
          refine AL_p rfl rfl (S_subI rfl (AEv.tmp rfl) (AEv.const _) (by omega) (by omega)) ?_
          refine AL_p rfl rfl (S_cutHM (e := 45) (j := s.labels.length - 1) 2 rfl (AEv.tmp rfl) ((AEv.tmp rfl).le (Le.of_eq (congrArg (AV.int _) (by omega)))) (by kernel_rfl) (by kernel_rfl) (fun _ => rfl) (by omega)) ?_
          refine AL_p rfl rfl (S_field 1 rfl (AEv.tmp rfl) (by kernel_rfl)) ?_
          refine AL_step rfl rfl (S_store 0 rfl (AEv.tmp rfl) (AEv.tmp rfl) rfl (by first | exact Nat.le_of_ble_eq_true rfl | simp) rfl (by kernel_rfl)) ?_
          rintro _ _ ⟨rfl, rfl⟩
          refine AL_nil ?_
          exact ⟨(), trivial, (Sub.l (List.Sublist.refl _)), .nil, (.cons rfl (Le.refl _) (.cons rfl (Le.refl _) (.cons rfl (Le.refl _) (.cons rfl (Le.refl _) (.cons rfl (Le.refl _) .nil)))))⟩
        · try simp only [Bool.and_eq_true, Bool.or_eq_true, Bool.not_eq_true', Bool.not_eq_false', Bool.and_eq_false_iff, Bool.or_eq_false_iff, decide_eq_true_eq, decide_eq_false_iff_not, gd] at hb17
          refine AC_skip ?_
          have e : (partA s) = s := by
            have h0 : s.labels = [] := List.length_eq_zero_iff.1 (by omega)
            unfold partA; cases s; simp only at h0; subst h0; rfl
          rw [e]
          exact ⟨(), trivial, (Sub.l (List.Sublist.refl _)), .nil, (.cons rfl (Le.refl _) (.cons rfl (Le.refl _) (.cons rfl (Le.refl _) (.cons rfl (Le.refl _) (.cons rfl (Le.refl _) .nil)))))⟩
      · rintro _ _
        try dsimp only
        simp only [List.cons_append, List.nil_append]
        refine AC_joinK (G := Unit) [(1, _), (2, _), (3, _), (4, _), (5, _)] (fun _ => True) (fun _ => []) (fun _ => (b3, .cells (spcL (partA s))) :: (b4, .cells (spcL (partB s))) :: (b5, .cells (spcL s)) :: (b1, .cells (spcL s)) :: st) (.cons rfl (Le.refl _) (.cons rfl (Le.refl _) (.cons rfl (Le.refl _) (.cons rfl (Le.refl _) (.cons rfl (Le.refl _) .nil))))) ?_ ?_
        · refine AC_seq ?_
          refine AC_region ?_
          refine AL_p rfl rfl (S_field 2 rfl (AEv.tmp rfl) (by kernel_rfl)) ?_
          refine AL_p rfl rfl (S_load 3 rfl (AEv.tmp rfl) rfl rfl (by kernel_rfl)) ?_
          refine AL_p rfl rfl (by first | exact S_lenM (e := 38) rfl (AEv.tmp rfl) (by kernel_rfl) | exact S_len (e := 38) rfl (AEv.tmp rfl) (by kernel_rfl)) ?_
          refine AL_p rfl rfl (S_gtr rfl (AEv.tmp rfl) (AEv.const _)) ?_
          refine AL_nil ?_
          refine AC_cond (AEv.tmp rfl) (fun hb18 => ?_) (fun hb18 => ?_)
          · try simp only [Bool.and_eq_true, Bool.or_eq_true, Bool.not_eq_true', Bool.not_eq_false', Bool.and_eq_false_iff, Bool.or_eq_false_iff, decide_eq_true_eq, decide_eq_false_iff_not, gd] at hb18
            refine AC_region ?_
            refine AL_p rfl rfl (S_field 2 rfl (AEv.tmp rfl) (by kernel_rfl)) ?_
            refine AL_p rfl rfl (S_load 3 rfl (AEv.tmp rfl) rfl rfl (by kernel_rfl)) ?_
            refine AL_p rfl rfl (S_field 2 rfl (AEv.tmp rfl) (by kernel_rfl)) ?_
            refine AL_p rfl rfl (S_load 3 rfl (AEv.tmp rfl) rfl rfl (by kernel_rfl)) ?_
            refine AL_p rfl rfl (by first | exact S_lenM (e := 38) rfl (AEv.tmp rfl) (by kernel_rfl) | exact S_len (e := 38) rfl (AEv.tmp rfl) (by kernel_rfl)) ?_
            refine AL_p rfl rfl (S_subI rfl (AEv.tmp rfl) (AEv.const _) (by omega) (by omega)) ?_
            refine AL_p rfl rfl (S_cutHM (e := 38) (j := s.init.length - 1) 11 rfl (AEv.tmp rfl) ((AEv.tmp rfl).le (Le.of_eq (congrArg (AV.int _) (by omega)))) (by kernel_rfl) (by kernel_rfl) (fun _ => rfl) (by omega)) ?_
            refine AL_p rfl rfl (S_field 2 rfl (AEv.tmp rfl) (by kernel_rfl)) ?_
            refine AL_step rfl rfl (S_store 1 rfl (AEv.tmp rfl) (AEv.tmp rfl) rfl (by first | exact Nat.le_of_ble_eq_true rfl | simp) rfl (by kernel_rfl)) ?_
            rintro _ _ ⟨rfl, rfl⟩
            refine AL_nil ?_
            exact ⟨(), trivial, (Sub.l (List.Sublist.refl _)), .nil, (.cons rfl (Le.refl _) (.cons rfl (Le.refl _) (.cons rfl (Le.refl _) (.cons rfl (Le.refl _) (.cons rfl (Le.refl _) .nil)))))⟩
          · try simp only [Bool.and_eq_true, Bool.or_eq_true, Bool.not_eq_true', Bool.not_eq_false', Bool.and_eq_false_iff, Bool.or_eq_false_iff, decide_eq_true_eq, decide_eq_false_iff_not, gd] at hb18
            refine AC_skip ?_
            have e : (partB s) = s := by
              have h0 : s.init = [] := List.length_eq_zero_iff.1 (by omega)
              unfold partB; cases s; simp only at h0; subst h0; rfl
            rw [e]
            exact ⟨(), trivial, (Sub.l (List.Sublist.refl _)), .nil, (.cons rfl (Le.refl _) (.cons rfl (Le.refl _) (.cons rfl (Le.refl _) (.cons rfl (Le.refl _) (.cons rfl (Le.refl _) .nil)))))⟩
        · rintro _ _
          try dsimp only
          simp only [List.cons_append, List.nil_append]
          refine AC_joinK (G := Unit) [(1, _), (2, _), (3, _), (4, _), (5, _)] (fun _ => True) (fun _ => []) (fun _ => (b3, .cells (spcL (partA s))) :: (b4, .cells (spcL (partB s))) :: (b5, .cells (spcL (partC s))) :: (b1, .cells (spcL s)) :: st) (.cons rfl (Le.refl _) (.cons rfl (Le.refl _) (.cons rfl (Le.refl _) (.cons rfl (Le.refl _) (.cons rfl (Le.refl _) .nil))))) ?_ ?_
          · refine AC_seq ?_
            refine AC_region ?_
            refine AL_p rfl rfl (S_field 3 rfl (AEv.tmp rfl) (by kernel_rfl)) ?_
            refine AL_p rfl rfl (S_load 3 rfl (AEv.tmp rfl) rfl rfl (by kernel_rfl)) ?_
            refine AL_p rfl rfl (by first | exact S_lenM (e := 38) rfl (AEv.tmp rfl) (by kernel_rfl) | exact S_len (e := 38) rfl (AEv.tmp rfl) (by kernel_rfl)) ?_
            refine AL_p rfl rfl (S_gtr rfl (AEv.tmp rfl) (AEv.const _)) ?_
            refine AL_nil ?_
            refine AC_cond (AEv.tmp rfl) (fun hb19 => ?_) (fun hb19 => ?_)
            · try simp only [Bool.and_eq_true, Bool.or_eq_true, Bool.not_eq_true', Bool.not_eq_false', Bool.and_eq_false_iff, Bool.or_eq_false_iff, decide_eq_true_eq, decide_eq_false_iff_not, gd] at hb19
              refine AC_region ?_
              refine AL_p rfl rfl (S_field 3 rfl (AEv.tmp rfl) (by kernel_rfl)) ?_
              refine AL_p rfl rfl (S_load 3 rfl (AEv.tmp rfl) rfl rfl (by kernel_rfl)) ?_
              refine AL_p rfl rfl (S_field 3 rfl (AEv.tmp rfl) (by kernel_rfl)) ?_
              refine AL_p rfl rfl (S_load 3 rfl (AEv.tmp rfl) rfl rfl (by kernel_rfl)) ?_
              refine AL_p rfl rfl (by first | exact S_lenM (e := 38) rfl (AEv.tmp rfl) (by kernel_rfl) | exact S_len (e := 38) rfl (AEv.tmp rfl) (by kernel_rfl)) ?_
              refine AL_p rfl rfl (S_subI rfl (AEv.tmp rfl) (AEv.const _) (by omega) (by omega)) ?_
              refine AL_p rfl rfl (S_cutHM (e := 38) (j := s.main.length - 1) 11 rfl (AEv.tmp rfl) ((AEv.tmp rfl).le (Le.of_eq (congrArg (AV.int _) (by omega)))) (by kernel_rfl) (by kernel_rfl) (fun _ => rfl) (by omega)) ?_
              refine AL_p rfl rfl (S_field 3 rfl (AEv.tmp rfl) (by kernel_rfl)) ?_
              refine AL_step rfl rfl (S_store 2 rfl (AEv.tmp rfl) (AEv.tmp rfl) rfl (by first | exact Nat.le_of_ble_eq_true rfl | simp) rfl (by kernel_rfl)) ?_
              rintro _ _ ⟨rfl, rfl⟩
              refine AL_nil ?_
              have e : (partC s) = { s with main := s.main.take (s.main.length - 1) } := by unfold partC; rw [if_pos (by omega)]
              rw [e]
              exact ⟨(), trivial, (Sub.l (List.Sublist.refl _)), .nil, (.cons rfl (Le.refl _) (.cons rfl (Le.refl _) (.cons rfl (Le.refl _) (.cons rfl (Le.refl _) (.cons rfl (Le.refl _) .nil)))))⟩
            · try simp only [Bool.and_eq_true, Bool.or_eq_true, Bool.not_eq_true', Bool.not_eq_false', Bool.and_eq_false_iff, Bool.or_eq_false_iff, decide_eq_true_eq, decide_eq_false_iff_not, gd] at hb19
              refine AC_skip ?_
              have e : (partC s) = s := by unfold partC; rw [if_neg (by omega)]
              rw [e]
              exact ⟨(), trivial, (Sub.l (List.Sublist.refl _)), .nil, (.cons rfl (Le.refl _) (.cons rfl (Le.refl _) (.cons rfl (Le.refl _) (.cons rfl (Le.refl _) (.cons rfl (Le.refl _) .nil)))))⟩
          · rintro _ _
            try dsimp only
            simp only [List.cons_append, List.nil_append]
            refine AC_seq ?_
            refine AC_region ?_
            refine AL_p rfl rfl (S_loadN (m := 7) 0 rfl (AEv.tmp rfl) rfl (by kernel_rfl) (by first | exact Nat.le_of_ble_eq_true rfl | (simp; omega) | simp)) ?_
            refine AL_p rfl rfl (S_gcall rfl (AEvs.cons (y := spcAV (partA s)) (AEv.tmp rfl) AEvs.nil) ((spec_Check_ok (partA s) hla) _ (fun p hp => by first | exact hG p hp | (simp [hG p hp]; done)))) ?_
            refine AL_p rfl rfl (S_eqlE (er_is 40 79 (checkE (partA s))) rfl (AEv.tmp rfl) (by kernel_rfl)) ?_
            refine AL_p rfl rfl (S_move rfl (AEv.tmp rfl)) ?_
            refine AL_g rfl rfl (AEv.tmp rfl) rfl (fun hg20 => S_loadN (m := 7) 1 rfl (AEv.tmp rfl) rfl (by kernel_rfl) (by first | exact Nat.le_of_ble_eq_true rfl | (simp; omega) | simp)) ?_
            refine AL_g rfl rfl (AEv.tmp rfl) rfl (fun hg23 => S_gcall rfl (AEvs.cons (y := spcAV (partB s)) (AEv.cond (AEv.tmp rfl) (by first | assumption | exact gdAnd (by assumption) (by assumption))) AEvs.nil) ((spec_Check_ok (partB s) hlb) _ (fun p hp => by first | exact hG p hp | (simp [hG p hp]; done)))) ?_
            refine AL_g rfl rfl (AEv.tmp rfl) rfl (fun hg26 => S_eqlE (er_is 40 79 (checkE (partB s))) rfl (AEv.cond (AEv.tmp rfl) (by first | assumption | exact gdAnd (by assumption) (by assumption))) (by kernel_rfl)) ?_
            refine AL_p rfl rfl (S_and rfl (AEv.tmp rfl) (fun hp29 => (AEv.cond (AEv.tmp rfl) (by first | assumption | exact gdT hp29 | exact gdF hp29 | exact gdAnd (by assumption) (gdT hp29) | exact gdAnd (by assumption) (gdF hp29))))) ?_
            refine AL_p rfl rfl (S_move rfl (AEv.tmp rfl)) ?_
            refine AL_g rfl rfl (AEv.tmp rfl) rfl (fun hg30 => S_loadN (m := 7) 2 rfl (AEv.tmp rfl) rfl (by kernel_rfl) (by first | exact Nat.le_of_ble_eq_true rfl | (simp; omega) | simp)) ?_
            refine AL_g rfl rfl (AEv.tmp rfl) rfl (fun hg33 => S_gcall rfl (AEvs.cons (y := spcAV (partC s)) (AEv.cond (AEv.tmp rfl) (by first | assumption | exact gdAnd (by assumption) (by assumption))) AEvs.nil) ((spec_Check_ok (partC s) hlc) _ (fun p hp => by first | exact hG p hp | (simp [hG p hp]; done)))) ?_
            refine AL_g rfl rfl (AEv.tmp rfl) rfl (fun hg36 => S_eqlE (er_is 40 79 (checkE (partC s))) rfl (AEv.cond (AEv.tmp rfl) (by first | assumption | exact gdAnd (by assumption) (by assumption))) (by kernel_rfl)) ?_
            refine AL_p rfl rfl (S_and rfl (AEv.tmp rfl) (fun hp39 => (AEv.cond (AEv.tmp rfl) (by first | assumption | exact gdT hp39 | exact gdF hp39 | exact gdAnd (by assumption) (gdT hp39) | exact gdAnd (by assumption) (gdF hp39))))) ?_
            refine AL_p rfl rfl (S_assign rfl (AEv.tmp rfl)) ?_
            refine AL_nil ?_
            refine AC_ret ?_
            refine ret_tmp st rfl rfl (Sub.l (List.Sublist.cons _ (List.Sublist.cons _ (List.Sublist.cons _ (List.Sublist.cons _ (List.Sublist.refl _)))))) (Conv.refl (Sub.l (List.Sublist.cons _ (List.Sublist.cons _ (List.Sublist.cons _ (List.Sublist.cons _ (List.Sublist.refl _)))))) _) ⟨by rw [check_partA hc, check_partB hc, check_partC hc]; rfl, rfl⟩ (.inl rfl)

end Go.Proofs.YtfdcadnaginnpaaDoor
