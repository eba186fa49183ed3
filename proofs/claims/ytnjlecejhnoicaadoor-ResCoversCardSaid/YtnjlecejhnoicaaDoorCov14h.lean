/-
The walks of Go functions in the logic AL: what each of them answers.
Conditions: those of each theorem.
-/
import Derived.Test.YtnjlecejhnoicaaDoorCov14g
import Derived.Test.YtnjlecejhnoicaaDoorSpecLem3
set_option linter.unusedVariables false
set_option linter.unusedSimpArgs false
namespace Go.Proofs.YtnjlecejhnoicaaDoor
open Go.AL Go.NumSpec

set_option maxRecDepth 100000 in
/-- provost/provostbook.lightContainers -/
theorem book_lightContainers_ok (l : List Ctr) (hl : l.length ≤ 1000) : PCalls Tryd.prog 12 [.sl (ctrsV l)] (.bool (l.all lightC)) := by
  intro st
  refine ACalls_of (N := 35) Tryd.func12 (by kernel_rfl) rfl rfl rfl ?_
  have hll : (ctrsV l).length = l.length := by simp [ctrsV]
  refine AC_seq ?_
  refine AC_region ?_
  refine AL_p rfl rfl (S_assign rfl (AEv.const _)) ?_
  refine AL_nil ?_
  refine AC_seq ?_
  refine AC_seq ?_
  refine AC_region ?_
  refine AL_p rfl rfl (S_assign rfl (AEv.const _)) ?_
  refine AL_nil ?_
  refine AC_block ?_
  refine AC_loop (G := Nat) (fun i => i ≤ l.length ∧ (l.take i).all lightC = true) (fun i => [(0, .sl (ctrsV l)), (3, .int .i64 (i : Int))]) (fun i => st) (fun i => l.length - i) (0) (⟨Nat.zero_le _, by simp⟩) rfl ?_ ?_
  · exact .cons rfl (Le.refl _) (.cons rfl (Le.refl _) .nil)
  · rintro i ⟨hi, hall⟩
    try dsimp only
    refine AC_seq ?_
    refine AC_seq ?_
    refine AC_region ?_
    refine AL_p rfl rfl (S_move rfl (AEv.tmp rfl)) ?_
    refine AL_p rfl rfl (S_move rfl (AEv.tmp rfl)) ?_
    refine AL_p rfl rfl (S_len (e := 40) rfl (AEv.tmp rfl) (by kernel_rfl)) ?_
    refine AL_p rfl rfl (S_lss rfl (AEv.tmp rfl) (AEv.tmp rfl)) ?_
    refine AL_nil ?_
    refine AC_cond (AEv.tmp rfl) (fun hb1 => ?_) (fun hb1 => ?_)
    · try simp only [Bool.and_eq_true, Bool.or_eq_true, Bool.not_eq_true', Bool.not_eq_false', Bool.and_eq_false_iff, Bool.or_eq_false_iff, decide_eq_true_eq, decide_eq_false_iff_not, gd] at hb1
      have hil : i < l.length := by omega
      have hpl := intsV_len (l[i]'hil).ports
      refine AC_skip ?_
      refine AC_seq ?_
      refine AC_block ?_
      refine AC_seq ?_
      refine AC_region ?_
      refine AL_p rfl rfl (S_move rfl (AEv.tmp rfl)) ?_
      refine AL_p rfl rfl (S_move rfl (AEv.tmp rfl)) ?_
      refine AL_p rfl rfl (S_elem (e := 40) (c := ctrAV (l[i]'hil)) (i := (i : Int)) 11 rfl (AEv.tmp rfl) (AEv.tmp rfl) (by kernel_rfl) (by kernel_rfl) (by omega) (by simp [ctrsV, hil]) rfl) ?_
      refine AL_p rfl rfl (S_fieldP 0 rfl (AEv.tmp rfl) (by kernel_rfl)) ?_
      refine AL_p rfl rfl (S_loadP rfl (AEv.tmp rfl) rfl (by kernel_rfl)) ?_
      refine AL_p rfl rfl (S_lenS (ts := #[]) rfl (AEv.tmp rfl) (by kernel_rfl)) ?_
      refine AL_p rfl rfl (S_gtr rfl (AEv.tmp rfl) (AEv.const _)) ?_
      refine AL_p rfl rfl (S_move rfl (AEv.tmp rfl)) ?_
      refine AL_g rfl rfl (AEv.tmp rfl) rfl (fun hg2 => S_move rfl (AEv.tmp rfl)) ?_
      refine AL_g rfl rfl (AEv.tmp rfl) rfl (fun hg5 => S_move rfl (AEv.tmp rfl)) ?_
      refine AL_g rfl rfl (AEv.tmp rfl) rfl (fun hg8 => S_elem (e := 40) (c := ctrAV (l[i]'hil)) (i := (i : Int)) 11 rfl (AEv.cond (AEv.tmp rfl) (by first | assumption | exact gdAnd (by assumption) (by assumption))) (AEv.cond (AEv.tmp rfl) (by first | assumption | exact gdAnd (by assumption) (by assumption))) (by kernel_rfl) (by kernel_rfl) (by omega) (by simp [ctrsV, hil]) rfl) ?_
      refine AL_g rfl rfl (AEv.tmp rfl) rfl (fun hg11 => S_fieldP 1 rfl (AEv.cond (AEv.tmp rfl) (by first | assumption | exact gdAnd (by assumption) (by assumption))) (by kernel_rfl)) ?_
      refine AL_g rfl rfl (AEv.tmp rfl) rfl (fun hg14 => S_loadP rfl (AEv.cond (AEv.tmp rfl) (by first | assumption | exact gdAnd (by assumption) (by assumption))) rfl (by kernel_rfl)) ?_
      refine AL_g rfl rfl (AEv.tmp rfl) rfl (fun hg17 => S_lenS (ts := #[]) rfl (AEv.cond (AEv.tmp rfl) (by first | assumption | exact gdAnd (by assumption) (by assumption))) (by kernel_rfl)) ?_
      refine AL_g rfl rfl (AEv.tmp rfl) rfl (fun hg20 => S_gtr rfl (AEv.cond (AEv.tmp rfl) (by first | assumption | exact gdAnd (by assumption) (by assumption))) (AEv.const _)) ?_
      refine AL_p rfl rfl (S_or rfl (AEv.tmp rfl) (fun hp23 => (AEv.cond (AEv.tmp rfl) (by first | assumption | exact gdT hp23 | exact gdF hp23 | exact gdAnd (by assumption) (gdT hp23) | exact gdAnd (by assumption) (gdF hp23))))) ?_
      refine AL_p rfl rfl (S_move rfl (AEv.tmp rfl)) ?_
      refine AL_g rfl rfl (AEv.tmp rfl) rfl (fun hg24 => S_move rfl (AEv.tmp rfl)) ?_
      refine AL_g rfl rfl (AEv.tmp rfl) rfl (fun hg27 => S_move rfl (AEv.tmp rfl)) ?_
      refine AL_g rfl rfl (AEv.tmp rfl) rfl (fun hg30 => S_elem (e := 40) (c := ctrAV (l[i]'hil)) (i := (i : Int)) 11 rfl (AEv.cond (AEv.tmp rfl) (by first | assumption | exact gdAnd (by assumption) (by assumption))) (AEv.cond (AEv.tmp rfl) (by first | assumption | exact gdAnd (by assumption) (by assumption))) (by kernel_rfl) (by kernel_rfl) (by omega) (by simp [ctrsV, hil]) rfl) ?_
      refine AL_g rfl rfl (AEv.tmp rfl) rfl (fun hg33 => S_fieldP 8 rfl (AEv.cond (AEv.tmp rfl) (by first | assumption | exact gdAnd (by assumption) (by assumption))) (by kernel_rfl)) ?_
      refine AL_g rfl rfl (AEv.tmp rfl) rfl (fun hg36 => S_loadP rfl (AEv.cond (AEv.tmp rfl) (by first | assumption | exact gdAnd (by assumption) (by assumption))) rfl (by kernel_rfl)) ?_
      refine AL_g rfl rfl (AEv.tmp rfl) rfl (fun hg39 => S_len (e := 3) rfl (AEv.cond (AEv.tmp rfl) (by first | assumption | exact gdAnd (by assumption) (by assumption))) (by kernel_rfl)) ?_
      refine AL_g rfl rfl (AEv.tmp rfl) rfl (fun hg42 => S_gtr rfl (AEv.cond (AEv.tmp rfl) (by first | assumption | exact gdAnd (by assumption) (by assumption))) (AEv.const _)) ?_
      refine AL_p rfl rfl (S_or rfl (AEv.tmp rfl) (fun hp45 => (AEv.cond (AEv.tmp rfl) (by first | assumption | exact gdT hp45 | exact gdF hp45 | exact gdAnd (by assumption) (gdT hp45) | exact gdAnd (by assumption) (gdF hp45))))) ?_
      refine AL_nil ?_
      refine AC_cond (AEv.tmp rfl) (fun hb46 => ?_) (fun hb46 => ?_)
      · try simp only [Bool.and_eq_true, Bool.or_eq_true, Bool.not_eq_true', Bool.not_eq_false', Bool.and_eq_false_iff, Bool.or_eq_false_iff, decide_eq_true_eq, decide_eq_false_iff_not, gd] at hb46
        have hc : lightC (l[i]'hil) = false := by unfold lightC; rw [decide_eq_false_iff_not]; omega
        have hf : l.all lightC = false := List.all_eq_false.2 ⟨_, List.getElem_mem hil, by rw [hc]; simp⟩
        refine AC_seq ?_
        refine AC_region ?_
        refine AL_p rfl rfl (S_assign rfl (AEv.const _)) ?_
        refine AL_nil ?_
        refine AC_ret ?_
        refine ret_tmp st rfl rfl (Sub.l (List.Sublist.refl _)) (Conv.refl (Sub.l (List.Sublist.refl _)) _) ⟨by rw [hf], rfl⟩ (.inl rfl)
      · try simp only [Bool.and_eq_true, Bool.or_eq_true, Bool.not_eq_true', Bool.not_eq_false', Bool.and_eq_false_iff, Bool.or_eq_false_iff, decide_eq_true_eq, decide_eq_false_iff_not, gd] at hb46
        have hc : lightC (l[i]'hil) = true := by unfold lightC; rw [decide_eq_true_eq]; omega
        refine AC_skip ?_
        refine AC_region ?_
        refine AL_p rfl rfl (S_move rfl (AEv.tmp rfl)) ?_
        refine AL_p rfl rfl (S_addI rfl (AEv.tmp rfl) (AEv.const _) (by omega) (by omega)) ?_
        refine AL_p rfl rfl (S_assign rfl (AEv.tmp rfl)) ?_
        refine AL_nil ?_
        refine ⟨i + 1, ⟨by omega, by rw [List.take_succ_eq_append_getElem hil, List.all_append, hall]; simp [hc]⟩, by omega, rfl, .cons rfl (Le.refl _) (.cons rfl (Le.of_eq (by rw [Int.natCast_add]; rfl)) .nil)⟩
    · try simp only [Bool.and_eq_true, Bool.or_eq_true, Bool.not_eq_true', Bool.not_eq_false', Bool.and_eq_false_iff, Bool.or_eq_false_iff, decide_eq_true_eq, decide_eq_false_iff_not, gd] at hb1
      have ht : l.all lightC = true := by rw [List.take_of_length_le (by omega)] at hall; exact hall
      refine AC_exit ?_
      refine AC_seq ?_
      refine AC_region ?_
      refine AL_p rfl rfl (S_assign rfl (AEv.const _)) ?_
      refine AL_nil ?_
      refine AC_ret ?_
      refine ret_tmp st rfl rfl (Sub.l (List.Sublist.refl _)) (Conv.refl (Sub.l (List.Sublist.refl _)) _) ⟨by rw [ht], rfl⟩ (.inl rfl)

set_option maxRecDepth 100000 in
/-- provost/provostbook.LightSpec -/
theorem book_LightSpec_ok (s : Spc) : PCalls Tryd.prog 5 [spcAV s] (.bool (lightS s)) := by
  intro st
  refine ACalls_of (N := 61) Tryd.func5 (by kernel_rfl) rfl rfl rfl ?_
  have h1 : (labsV s.labels).length = s.labels.length := by simp [labsV]
  have h2 : (ctrsV s.init).length = s.init.length := by simp [ctrsV]
  have h3 : (ctrsV s.main).length = s.main.length := by simp [ctrsV]
  refine AC_seq ?_
  refine AC_region ?_
  refine AL_step rfl rfl (S_box rfl (AEv.tmp rfl)) ?_
  rintro _ _ ⟨b1, rfl, rfl⟩
  refine AL_p rfl rfl (S_assign rfl (AEv.const _)) ?_
  refine AL_nil ?_
  refine AC_seq ?_
  refine AC_region ?_
  refine AL_p rfl rfl (S_field 0 rfl (AEv.tmp rfl) (by kernel_rfl)) ?_
  refine AL_p rfl rfl (S_load 0 rfl (AEv.tmp rfl) rfl rfl (by kernel_rfl)) ?_
  refine AL_p rfl rfl (S_lenS (ts := #[]) rfl (AEv.tmp rfl) (by kernel_rfl)) ?_
  refine AL_p rfl rfl (S_assign rfl (AEv.tmp rfl)) ?_
  refine AL_nil ?_
  refine AC_seq ?_
  refine AC_seq ?_
  refine AC_region ?_
  refine AL_p rfl rfl (S_move rfl (AEv.tmp rfl)) ?_
  refine AL_p rfl rfl (S_gtr rfl (AEv.tmp rfl) (AEv.const _)) ?_
  refine AL_p rfl rfl (S_move rfl (AEv.tmp rfl)) ?_
  refine AL_g rfl rfl (AEv.tmp rfl) rfl (fun hg2 => S_field 1 rfl (AEv.tmp rfl) (by kernel_rfl)) ?_
  refine AL_g rfl rfl (AEv.tmp rfl) rfl (fun hg5 => S_load 0 rfl (AEv.cond (AEv.tmp rfl) (by first | assumption | exact gdAnd (by assumption) (by assumption))) rfl rfl (by kernel_rfl)) ?_
  refine AL_g rfl rfl (AEv.tmp rfl) rfl (fun hg8 => S_len (e := 44) rfl (AEv.cond (AEv.tmp rfl) (by first | assumption | exact gdAnd (by assumption) (by assumption))) (by kernel_rfl)) ?_
  refine AL_g rfl rfl (AEv.tmp rfl) rfl (fun hg11 => S_gtr rfl (AEv.cond (AEv.tmp rfl) (by first | assumption | exact gdAnd (by assumption) (by assumption))) (AEv.const _)) ?_
  refine AL_p rfl rfl (S_or rfl (AEv.tmp rfl) (fun hp14 => (AEv.cond (AEv.tmp rfl) (by first | assumption | exact gdT hp14 | exact gdF hp14 | exact gdAnd (by assumption) (gdT hp14) | exact gdAnd (by assumption) (gdF hp14))))) ?_
  refine AL_p rfl rfl (S_move rfl (AEv.tmp rfl)) ?_
  refine AL_g rfl rfl (AEv.tmp rfl) rfl (fun hg15 => S_field 2 rfl (AEv.tmp rfl) (by kernel_rfl)) ?_
  refine AL_g rfl rfl (AEv.tmp rfl) rfl (fun hg18 => S_load 0 rfl (AEv.cond (AEv.tmp rfl) (by first | assumption | exact gdAnd (by assumption) (by assumption))) rfl rfl (by kernel_rfl)) ?_
  refine AL_g rfl rfl (AEv.tmp rfl) rfl (fun hg21 => S_len (e := 40) rfl (AEv.cond (AEv.tmp rfl) (by first | assumption | exact gdAnd (by assumption) (by assumption))) (by kernel_rfl)) ?_
  refine AL_g rfl rfl (AEv.tmp rfl) rfl (fun hg24 => S_gtr rfl (AEv.cond (AEv.tmp rfl) (by first | assumption | exact gdAnd (by assumption) (by assumption))) (AEv.const _)) ?_
  refine AL_p rfl rfl (S_or rfl (AEv.tmp rfl) (fun hp27 => (AEv.cond (AEv.tmp rfl) (by first | assumption | exact gdT hp27 | exact gdF hp27 | exact gdAnd (by assumption) (gdT hp27) | exact gdAnd (by assumption) (gdF hp27))))) ?_
  refine AL_p rfl rfl (S_move rfl (AEv.tmp rfl)) ?_
  refine AL_g rfl rfl (AEv.tmp rfl) rfl (fun hg28 => S_field 3 rfl (AEv.tmp rfl) (by kernel_rfl)) ?_
  refine AL_g rfl rfl (AEv.tmp rfl) rfl (fun hg31 => S_load 0 rfl (AEv.cond (AEv.tmp rfl) (by first | assumption | exact gdAnd (by assumption) (by assumption))) rfl rfl (by kernel_rfl)) ?_
  refine AL_g rfl rfl (AEv.tmp rfl) rfl (fun hg34 => S_len (e := 40) rfl (AEv.cond (AEv.tmp rfl) (by first | assumption | exact gdAnd (by assumption) (by assumption))) (by kernel_rfl)) ?_
  refine AL_g rfl rfl (AEv.tmp rfl) rfl (fun hg37 => S_gtr rfl (AEv.cond (AEv.tmp rfl) (by first | assumption | exact gdAnd (by assumption) (by assumption))) (AEv.const _)) ?_
  refine AL_p rfl rfl (S_or rfl (AEv.tmp rfl) (fun hp40 => (AEv.cond (AEv.tmp rfl) (by first | assumption | exact gdT hp40 | exact gdF hp40 | exact gdAnd (by assumption) (gdT hp40) | exact gdAnd (by assumption) (gdF hp40))))) ?_
  refine AL_nil ?_
  refine AC_cond (AEv.tmp rfl) (fun hb41 => ?_) (fun hb41 => ?_)
  · try simp only [Bool.and_eq_true, Bool.or_eq_true, Bool.not_eq_true', Bool.not_eq_false', Bool.and_eq_false_iff, Bool.or_eq_false_iff, decide_eq_true_eq, decide_eq_false_iff_not, gd] at hb41
    have hf : lightS s = false := by
      unfold lightS
      rw [show decide (s.name.length ≤ 100 ∧ s.labels.length ≤ 10 ∧ s.init.length ≤ 8 ∧ s.main.length ≤ 8) = false from decide_eq_false (by omega)]
      rfl
    refine AC_seq ?_
    refine AC_region ?_
    refine AL_p rfl rfl (S_assign rfl (AEv.const _)) ?_
    refine AL_nil ?_
    refine AC_ret ?_
    refine ret_tmp st rfl rfl (Sub.l (List.Sublist.cons _ (List.Sublist.refl _))) (Conv.refl (Sub.l (List.Sublist.cons _ (List.Sublist.refl _))) _) ⟨by rw [hf], rfl⟩ (.inl rfl)
  · try simp only [Bool.and_eq_true, Bool.or_eq_true, Bool.not_eq_true', Bool.not_eq_false', Bool.and_eq_false_iff, Bool.or_eq_false_iff, decide_eq_true_eq, decide_eq_false_iff_not, gd] at hb41
    have hb : s.name.length ≤ 100 ∧ s.labels.length ≤ 10 ∧ s.init.length ≤ 8 ∧ s.main.length ≤ 8 := by omega
    refine AC_skip ?_
    refine AC_seq ?_
    refine AC_seq ?_
    refine AC_region ?_
    refine AL_p rfl rfl (S_assign rfl (AEv.const _)) ?_
    refine AL_nil ?_
    refine AC_block ?_
    refine AC_loop (G := Nat) (fun i => i ≤ s.labels.length ∧ (s.labels.take i).all lightL = true) (fun i => [(1, .ptr b1 0), (4, .int .i64 (i : Int))]) (fun i => (b1, .cells (spcL s)) :: st) (fun i => s.labels.length - i) (0) (⟨Nat.zero_le _, by simp⟩) rfl ?_ ?_
    · exact .cons rfl (Le.refl _) (.cons rfl (Le.refl _) .nil)
    · rintro i ⟨hi, hall⟩
      try dsimp only
      refine AC_seq ?_
      refine AC_seq ?_
      refine AC_region ?_
      refine AL_p rfl rfl (S_move rfl (AEv.tmp rfl)) ?_
      refine AL_p rfl rfl (S_field 1 rfl (AEv.tmp rfl) (by kernel_rfl)) ?_
      refine AL_p rfl rfl (S_load 0 rfl (AEv.tmp rfl) rfl rfl (by kernel_rfl)) ?_
      refine AL_p rfl rfl (S_len (e := 44) rfl (AEv.tmp rfl) (by kernel_rfl)) ?_
      refine AL_p rfl rfl (S_lss rfl (AEv.tmp rfl) (AEv.tmp rfl)) ?_
      refine AL_nil ?_
      refine AC_cond (AEv.tmp rfl) (fun hb42 => ?_) (fun hb42 => ?_)
      · try simp only [Bool.and_eq_true, Bool.or_eq_true, Bool.not_eq_true', Bool.not_eq_false', Bool.and_eq_false_iff, Bool.or_eq_false_iff, decide_eq_true_eq, decide_eq_false_iff_not, gd] at hb42
        have hil : i < s.labels.length := by omega
        refine AC_skip ?_
        refine AC_seq ?_
        refine AC_block ?_
        refine AC_seq ?_
        refine AC_region ?_
        refine AL_p rfl rfl (S_field 1 rfl (AEv.tmp rfl) (by kernel_rfl)) ?_
        refine AL_p rfl rfl (S_load 0 rfl (AEv.tmp rfl) rfl rfl (by kernel_rfl)) ?_
        refine AL_p rfl rfl (S_move rfl (AEv.tmp rfl)) ?_
        refine AL_p rfl rfl (S_elem (e := 44) (c := labAV (s.labels[i]'hil)) (i := (i : Int)) 2 rfl (AEv.tmp rfl) (AEv.tmp rfl) (by kernel_rfl) (by kernel_rfl) (by omega) (by simp [labsV, hil]) rfl) ?_
        refine AL_p rfl rfl (S_fieldP 0 rfl (AEv.tmp rfl) (by kernel_rfl)) ?_
        refine AL_p rfl rfl (S_loadP rfl (AEv.tmp rfl) rfl (by kernel_rfl)) ?_
        refine AL_p rfl rfl (S_lenS (ts := #[]) rfl (AEv.tmp rfl) (by kernel_rfl)) ?_
        refine AL_p rfl rfl (S_gtr rfl (AEv.tmp rfl) (AEv.const _)) ?_
        refine AL_p rfl rfl (S_move rfl (AEv.tmp rfl)) ?_
        refine AL_g rfl rfl (AEv.tmp rfl) rfl (fun hg43 => S_field 1 rfl (AEv.tmp rfl) (by kernel_rfl)) ?_
        refine AL_g rfl rfl (AEv.tmp rfl) rfl (fun hg46 => S_load 0 rfl (AEv.cond (AEv.tmp rfl) (by first | assumption | exact gdAnd (by assumption) (by assumption))) rfl rfl (by kernel_rfl)) ?_
        refine AL_g rfl rfl (AEv.tmp rfl) rfl (fun hg49 => S_move rfl (AEv.tmp rfl)) ?_
        refine AL_g rfl rfl (AEv.tmp rfl) rfl (fun hg52 => S_elem (e := 44) (c := labAV (s.labels[i]'hil)) (i := (i : Int)) 2 rfl (AEv.cond (AEv.tmp rfl) (by first | assumption | exact gdAnd (by assumption) (by assumption))) (AEv.cond (AEv.tmp rfl) (by first | assumption | exact gdAnd (by assumption) (by assumption))) (by kernel_rfl) (by kernel_rfl) (by omega) (by simp [labsV, hil]) rfl) ?_
        refine AL_g rfl rfl (AEv.tmp rfl) rfl (fun hg55 => S_fieldP 1 rfl (AEv.cond (AEv.tmp rfl) (by first | assumption | exact gdAnd (by assumption) (by assumption))) (by kernel_rfl)) ?_
        refine AL_g rfl rfl (AEv.tmp rfl) rfl (fun hg58 => S_loadP rfl (AEv.cond (AEv.tmp rfl) (by first | assumption | exact gdAnd (by assumption) (by assumption))) rfl (by kernel_rfl)) ?_
        refine AL_g rfl rfl (AEv.tmp rfl) rfl (fun hg61 => S_lenS (ts := #[]) rfl (AEv.cond (AEv.tmp rfl) (by first | assumption | exact gdAnd (by assumption) (by assumption))) (by kernel_rfl)) ?_
        refine AL_g rfl rfl (AEv.tmp rfl) rfl (fun hg64 => S_gtr rfl (AEv.cond (AEv.tmp rfl) (by first | assumption | exact gdAnd (by assumption) (by assumption))) (AEv.const _)) ?_
        refine AL_p rfl rfl (S_or rfl (AEv.tmp rfl) (fun hp67 => (AEv.cond (AEv.tmp rfl) (by first | assumption | exact gdT hp67 | exact gdF hp67 | exact gdAnd (by assumption) (gdT hp67) | exact gdAnd (by assumption) (gdF hp67))))) ?_
        refine AL_nil ?_
        refine AC_cond (AEv.tmp rfl) (fun hb68 => ?_) (fun hb68 => ?_)
        · try simp only [Bool.and_eq_true, Bool.or_eq_true, Bool.not_eq_true', Bool.not_eq_false', Bool.and_eq_false_iff, Bool.or_eq_false_iff, decide_eq_true_eq, decide_eq_false_iff_not, gd] at hb68
          have hc : lightL (s.labels[i]'hil) = false := by unfold lightL; rw [decide_eq_false_iff_not]; omega
          have hf : lightS s = false := by
            unfold lightS
            rw [show s.labels.all lightL = false from List.all_eq_false.2 ⟨_, List.getElem_mem hil, by rw [hc]; simp⟩]
            simp
          refine AC_seq ?_
          refine AC_region ?_
          refine AL_p rfl rfl (S_assign rfl (AEv.const _)) ?_
          refine AL_nil ?_
          refine AC_ret ?_
          refine ret_tmp st rfl rfl (Sub.l (List.Sublist.cons _ (List.Sublist.refl _))) (Conv.refl (Sub.l (List.Sublist.cons _ (List.Sublist.refl _))) _) ⟨by rw [hf], rfl⟩ (.inl rfl)
        · try simp only [Bool.and_eq_true, Bool.or_eq_true, Bool.not_eq_true', Bool.not_eq_false', Bool.and_eq_false_iff, Bool.or_eq_false_iff, decide_eq_true_eq, decide_eq_false_iff_not, gd] at hb68
          have hc : lightL (s.labels[i]'hil) = true := by unfold lightL; rw [decide_eq_true_eq]; omega
          refine AC_skip ?_
          refine AC_region ?_
          refine AL_p rfl rfl (S_move rfl (AEv.tmp rfl)) ?_
          refine AL_p rfl rfl (S_addI rfl (AEv.tmp rfl) (AEv.const _) (by omega) (by omega)) ?_
          refine AL_p rfl rfl (S_assign rfl (AEv.tmp rfl)) ?_
          refine AL_nil ?_
          refine ⟨i + 1, ⟨by omega, by rw [List.take_succ_eq_append_getElem hil, List.all_append, hall]; simp [hc]⟩, by omega, rfl, .cons rfl (Le.refl _) (.cons rfl (Le.of_eq (by rw [Int.natCast_add]; rfl)) .nil)⟩
      · try simp only [Bool.and_eq_true, Bool.or_eq_true, Bool.not_eq_true', Bool.not_eq_false', Bool.and_eq_false_iff, Bool.or_eq_false_iff, decide_eq_true_eq, decide_eq_false_iff_not, gd] at hb42
        have ht : lightS s = (s.init.all lightC && s.main.all lightC) := by
          rw [List.take_of_length_le (by omega)] at hall
          unfold lightS
          rw [decide_eq_true hb, hall]
          simp
        refine AC_exit ?_
        refine AC_seq ?_
        refine AC_region ?_
        refine AL_p rfl rfl (S_field 2 rfl (AEv.tmp rfl) (by kernel_rfl)) ?_
        refine AL_p rfl rfl (S_load 0 rfl (AEv.tmp rfl) rfl rfl (by kernel_rfl)) ?_
        refine AL_p rfl rfl (S_pcall rfl (AEvs.cons (AEv.tmp rfl) AEvs.nil) (book_lightContainers_ok s.init (by omega))) ?_
        refine AL_p rfl rfl (S_move rfl (AEv.tmp rfl)) ?_
        refine AL_g rfl rfl (AEv.tmp rfl) rfl (fun hg69 => S_field 3 rfl (AEv.tmp rfl) (by kernel_rfl)) ?_
        refine AL_g rfl rfl (AEv.tmp rfl) rfl (fun hg72 => S_load 0 rfl (AEv.cond (AEv.tmp rfl) (by first | assumption | exact gdAnd (by assumption) (by assumption))) rfl rfl (by kernel_rfl)) ?_
        refine AL_g rfl rfl (AEv.tmp rfl) rfl (fun hg75 => S_pcall rfl (AEvs.cons (AEv.cond (AEv.tmp rfl) (by first | assumption | exact gdAnd (by assumption) (by assumption))) AEvs.nil) (book_lightContainers_ok s.main (by omega))) ?_
        refine AL_p rfl rfl (S_and rfl (AEv.tmp rfl) (fun hp78 => (AEv.cond (AEv.tmp rfl) (by first | assumption | exact gdT hp78 | exact gdF hp78 | exact gdAnd (by assumption) (gdT hp78) | exact gdAnd (by assumption) (gdF hp78))))) ?_
        refine AL_p rfl rfl (S_assign rfl (AEv.tmp rfl)) ?_
        refine AL_nil ?_
        refine AC_ret ?_
        refine ret_tmp st rfl rfl (Sub.l (List.Sublist.cons _ (List.Sublist.refl _))) (Conv.refl (Sub.l (List.Sublist.cons _ (List.Sublist.refl _))) _) ⟨by rw [ht], rfl⟩ (.inl rfl)

end Go.Proofs.YtnjlecejhnoicaaDoor
