/-
The walks of Go functions in the logic AL: what each of them answers.
Conditions: those of each theorem.
-/
import Derived.Test.YtnjlecejhnoicaaDoorCov14c
import Derived.Test.YtnjlecejhnoicaaDoorSpecLem
set_option linter.unusedVariables false
set_option linter.unusedSimpArgs false
namespace Go.Proofs.YtnjlecejhnoicaaDoor
open Go.AL Go.NumSpec

set_option maxRecDepth 100000 in
/-- provost/spec.within -/
theorem spec_within_ok (name : List UInt8) (n lo hi : Int) : PCalls Tryd.prog 19 [.S name, .int .i64 n, .int .i64 lo, .int .i64 hi] (erV 48 76 (withinE name n lo hi)) := by
  intro st
  refine ACalls_of (N := 20) Tryd.func19 (by kernel_rfl) rfl rfl rfl ?_
  refine AC_seq ?_
  refine AC_region ?_
  refine AL_p rfl rfl (S_assign rfl (AEv.const _)) ?_
  refine AL_nil ?_
  refine AC_seq ?_
  refine AC_seq ?_
  refine AC_region ?_
  refine AL_p rfl rfl (S_move rfl (AEv.tmp rfl)) ?_
  refine AL_p rfl rfl (S_move rfl (AEv.tmp rfl)) ?_
  refine AL_p rfl rfl (S_lss rfl (AEv.tmp rfl) (AEv.tmp rfl)) ?_
  refine AL_p rfl rfl (S_move rfl (AEv.tmp rfl)) ?_
  refine AL_g rfl rfl (AEv.tmp rfl) rfl (fun hg1 => S_move rfl (AEv.tmp rfl)) ?_
  refine AL_g rfl rfl (AEv.tmp rfl) rfl (fun hg4 => S_move rfl (AEv.tmp rfl)) ?_
  refine AL_g rfl rfl (AEv.tmp rfl) rfl (fun hg7 => S_gtr rfl (AEv.cond (AEv.tmp rfl) (by first | assumption | exact gdAnd (by assumption) (by assumption))) (AEv.cond (AEv.tmp rfl) (by first | assumption | exact gdAnd (by assumption) (by assumption)))) ?_
  refine AL_p rfl rfl (S_or rfl (AEv.tmp rfl) (fun hp10 => (AEv.cond (AEv.tmp rfl) (by first | assumption | exact gdT hp10 | exact gdF hp10 | exact gdAnd (by assumption) (gdT hp10) | exact gdAnd (by assumption) (gdF hp10))))) ?_
  refine AL_nil ?_
  refine AC_cond (AEv.tmp rfl) (fun hb11 => ?_) (fun hb11 => ?_)
  · try simp only [Bool.and_eq_true, Bool.or_eq_true, Bool.not_eq_true', Bool.not_eq_false', Bool.and_eq_false_iff, Bool.or_eq_false_iff, decide_eq_true_eq, decide_eq_false_iff_not, gd] at hb11
    refine AC_seq ?_
    refine AC_region ?_
    refine AL_p rfl rfl (S_move rfl (AEv.tmp rfl)) ?_
    refine AL_p rfl rfl (S_buildSlice (e := 9) 1 rfl (AEvs.cons (AEv.tmp rfl) AEvs.nil) rfl (by kernel_rfl) (by kernel_rfl) (by simp [AV.flat, AV.one, AV.cells, Value.oneCell']) (by decide) (by decide) (by decide)) ?_
    refine AL_p rfl rfl (S_pcall rfl (AEvs.cons (AEv.const _) (AEvs.cons (AEv.tmp rfl) AEvs.nil)) (fail_New_ok 1 [name] (by simp))) ?_
    refine AL_p rfl rfl (S_assign rfl (AEv.tmp rfl)) ?_
    refine AL_nil ?_
    refine AC_ret ?_
    refine ret_tmp st rfl rfl (Sub.l (List.Sublist.refl _)) (Conv.refl (Sub.l (List.Sublist.refl _)) _) ⟨by rw [withinE, if_pos (by omega)]; rfl, rfl⟩ (.inl rfl)
  · try simp only [Bool.and_eq_true, Bool.or_eq_true, Bool.not_eq_true', Bool.not_eq_false', Bool.and_eq_false_iff, Bool.or_eq_false_iff, decide_eq_true_eq, decide_eq_false_iff_not, gd] at hb11
    refine AC_skip ?_
    refine AC_seq ?_
    refine AC_region ?_
    refine AL_p rfl rfl (S_assign rfl (AEv.const _)) ?_
    refine AL_nil ?_
    refine AC_ret ?_
    refine ret_tmp st rfl rfl (Sub.l (List.Sublist.refl _)) (Conv.refl (Sub.l (List.Sublist.refl _)) _) ⟨by rw [withinE, if_neg (by omega)]; rfl, rfl⟩ (.inl rfl)

set_option maxRecDepth 100000 in
/-- provost/spec.atMost -/
theorem spec_atMost_ok (name : List UInt8) (n lo hi : Int) : PCalls Tryd.prog 17 [.S name, .int .i64 n, .int .i64 lo, .int .i64 hi] (erV 48 76 (atMostE name n lo hi)) := by
  intro st
  refine ACalls_of (N := 20) Tryd.func17 (by kernel_rfl) rfl rfl rfl ?_
  refine AC_seq ?_
  refine AC_region ?_
  refine AL_p rfl rfl (S_assign rfl (AEv.const _)) ?_
  refine AL_nil ?_
  refine AC_seq ?_
  refine AC_seq ?_
  refine AC_region ?_
  refine AL_p rfl rfl (S_move rfl (AEv.tmp rfl)) ?_
  refine AL_p rfl rfl (S_move rfl (AEv.tmp rfl)) ?_
  refine AL_p rfl rfl (S_lss rfl (AEv.tmp rfl) (AEv.tmp rfl)) ?_
  refine AL_p rfl rfl (S_move rfl (AEv.tmp rfl)) ?_
  refine AL_g rfl rfl (AEv.tmp rfl) rfl (fun hg1 => S_move rfl (AEv.tmp rfl)) ?_
  refine AL_g rfl rfl (AEv.tmp rfl) rfl (fun hg4 => S_move rfl (AEv.tmp rfl)) ?_
  refine AL_g rfl rfl (AEv.tmp rfl) rfl (fun hg7 => S_gtr rfl (AEv.cond (AEv.tmp rfl) (by first | assumption | exact gdAnd (by assumption) (by assumption))) (AEv.cond (AEv.tmp rfl) (by first | assumption | exact gdAnd (by assumption) (by assumption)))) ?_
  refine AL_p rfl rfl (S_or rfl (AEv.tmp rfl) (fun hp10 => (AEv.cond (AEv.tmp rfl) (by first | assumption | exact gdT hp10 | exact gdF hp10 | exact gdAnd (by assumption) (gdT hp10) | exact gdAnd (by assumption) (gdF hp10))))) ?_
  refine AL_nil ?_
  refine AC_cond (AEv.tmp rfl) (fun hb11 => ?_) (fun hb11 => ?_)
  · try simp only [Bool.and_eq_true, Bool.or_eq_true, Bool.not_eq_true', Bool.not_eq_false', Bool.and_eq_false_iff, Bool.or_eq_false_iff, decide_eq_true_eq, decide_eq_false_iff_not, gd] at hb11
    refine AC_seq ?_
    refine AC_region ?_
    refine AL_p rfl rfl (S_move rfl (AEv.tmp rfl)) ?_
    refine AL_p rfl rfl (S_buildSlice (e := 9) 1 rfl (AEvs.cons (AEv.tmp rfl) AEvs.nil) rfl (by kernel_rfl) (by kernel_rfl) (by simp [AV.flat, AV.one, AV.cells, Value.oneCell']) (by decide) (by decide) (by decide)) ?_
    refine AL_p rfl rfl (S_pcall rfl (AEvs.cons (AEv.const _) (AEvs.cons (AEv.tmp rfl) AEvs.nil)) (fail_New_ok 2 [name] (by simp))) ?_
    refine AL_p rfl rfl (S_assign rfl (AEv.tmp rfl)) ?_
    refine AL_nil ?_
    refine AC_ret ?_
    refine ret_tmp st rfl rfl (Sub.l (List.Sublist.refl _)) (Conv.refl (Sub.l (List.Sublist.refl _)) _) ⟨by rw [atMostE, if_pos (by omega)]; rfl, rfl⟩ (.inl rfl)
  · try simp only [Bool.and_eq_true, Bool.or_eq_true, Bool.not_eq_true', Bool.not_eq_false', Bool.and_eq_false_iff, Bool.or_eq_false_iff, decide_eq_true_eq, decide_eq_false_iff_not, gd] at hb11
    refine AC_skip ?_
    refine AC_seq ?_
    refine AC_region ?_
    refine AL_p rfl rfl (S_assign rfl (AEv.const _)) ?_
    refine AL_nil ?_
    refine AC_ret ?_
    refine ret_tmp st rfl rfl (Sub.l (List.Sublist.refl _)) (Conv.refl (Sub.l (List.Sublist.refl _)) _) ⟨by rw [atMostE, if_neg (by omega)]; rfl, rfl⟩ (.inl rfl)

set_option maxRecDepth 100000 in
/-- provost/spec.most -/
theorem spec_most_ok (name : List UInt8) (n lo : Int) : PCalls Tryd.prog 47 [.S name, .int .i64 n, .int .i64 lo] (erV 48 76 (mostE name n lo)) := by
  intro st
  refine ACalls_of (N := 13) Tryd.func47 (by kernel_rfl) rfl rfl rfl ?_
  refine AC_seq ?_
  refine AC_region ?_
  refine AL_p rfl rfl (S_assign rfl (AEv.const _)) ?_
  refine AL_nil ?_
  refine AC_seq ?_
  refine AC_seq ?_
  refine AC_region ?_
  refine AL_p rfl rfl (S_move rfl (AEv.tmp rfl)) ?_
  refine AL_p rfl rfl (S_eql rfl (AEv.tmp rfl) (AEv.const _)) ?_
  refine AL_nil ?_
  refine AC_cond (AEv.tmp rfl) (fun hb1 => ?_) (fun hb1 => ?_)
  · try simp only [Bool.and_eq_true, Bool.or_eq_true, Bool.not_eq_true', Bool.not_eq_false', Bool.and_eq_false_iff, Bool.or_eq_false_iff, decide_eq_true_eq, decide_eq_false_iff_not, gd] at hb1
    refine AC_seq ?_
    refine AC_region ?_
    refine AL_p rfl rfl (S_assign rfl (AEv.const _)) ?_
    refine AL_nil ?_
    refine AC_ret ?_
    refine ret_tmp st rfl rfl (Sub.l (List.Sublist.refl _)) (Conv.refl (Sub.l (List.Sublist.refl _)) _) ⟨by rw [mostE, if_pos (by omega)]; rfl, rfl⟩ (.inl rfl)
  · try simp only [Bool.and_eq_true, Bool.or_eq_true, Bool.not_eq_true', Bool.not_eq_false', Bool.and_eq_false_iff, Bool.or_eq_false_iff, decide_eq_true_eq, decide_eq_false_iff_not, gd] at hb1
    refine AC_skip ?_
    refine AC_seq ?_
    refine AC_region ?_
    refine AL_p rfl rfl (S_move rfl (AEv.tmp rfl)) ?_
    refine AL_p rfl rfl (S_move rfl (AEv.tmp rfl)) ?_
    refine AL_p rfl rfl (S_move rfl (AEv.tmp rfl)) ?_
    refine AL_p rfl rfl (S_pcall rfl (AEvs.cons (AEv.tmp rfl) (AEvs.cons (AEv.tmp rfl) (AEvs.cons (AEv.tmp rfl) (AEvs.cons (AEv.const _) AEvs.nil)))) (spec_within_ok _ _ _ _)) ?_
    refine AL_p rfl rfl (S_assign rfl (AEv.tmp rfl)) ?_
    refine AL_nil ?_
    refine AC_ret ?_
    refine ret_tmp st rfl rfl (Sub.l (List.Sublist.refl _)) (Conv.refl (Sub.l (List.Sublist.refl _)) _) ⟨by rw [mostE, if_neg (by omega)], rfl⟩ (.inl rfl)

set_option maxRecDepth 100000 in
/-- provost/spec.at -/
theorem spec_at_ok (name : List UInt8) (hn : name.length ≤ 1000000) (i : Int) (hi : fits i) : PCalls Tryd.prog 32 [.S name, .int .i64 i] (.S (atT name i)) := by
  intro st
  refine ACalls_of (N := 11) Tryd.func32 (by kernel_rfl) rfl rfl rfl ?_
  have ht := textL_len hi
  refine AC_seq ?_
  refine AC_region ?_
  refine AL_p rfl rfl (S_assign rfl (AEv.S _)) ?_
  refine AL_nil ?_
  refine AC_seq ?_
  refine AC_region ?_
  refine AL_p rfl rfl (S_move rfl (AEv.tmp rfl)) ?_
  refine AL_p rfl rfl (S_cat rfl (AEv.tmp rfl) (AEv.S _) (by first | omega | (simp only [List.length_append, List.length_singleton]; omega))) ?_
  refine AL_p rfl rfl (S_move rfl (AEv.tmp rfl)) ?_
  refine AL_p rfl rfl (S_pcall rfl (AEvs.cons (AEv.tmp rfl) AEvs.nil) (num_Text_ok i hi)) ?_
  refine AL_p rfl rfl (S_cat rfl (AEv.tmp rfl) (AEv.tmp rfl) (by first | omega | (simp only [List.length_append, List.length_singleton]; omega))) ?_
  refine AL_p rfl rfl (S_cat rfl (AEv.tmp rfl) (AEv.S _) (by first | omega | (simp only [List.length_append, List.length_singleton]; omega))) ?_
  refine AL_p rfl rfl (S_assign rfl (AEv.tmp rfl)) ?_
  refine AL_nil ?_
  refine AC_ret ?_
  refine ret_tmp st rfl rfl (Sub.l (List.Sublist.refl _)) (Conv.refl (Sub.l (List.Sublist.refl _)) _) ⟨rfl, rfl⟩ (.inl rfl)

set_option maxRecDepth 100000 in
/-- provost/spec.req -/
theorem spec_req_ok (r : Int × Int × Int) : PCalls Tryd.prog 39 [resAV r] (erV 48 76 (reqE r)) := by
  intro st
  refine ACalls_of (N := 15) Tryd.func39 (by kernel_rfl) rfl rfl rfl ?_
  refine AC_seq ?_
  refine AC_region ?_
  refine AL_step rfl rfl (S_box rfl (AEv.tmp rfl)) ?_
  rintro _ _ ⟨b1, rfl, rfl⟩
  refine AL_p rfl rfl (S_assign rfl (AEv.const _)) ?_
  refine AL_nil ?_
  refine AC_seq ?_
  refine AC_draw (by kernel_rfl) (by kernel_rfl) (.cons rfl (Q_p rfl (S_field 0 rfl (AEv.tmp rfl) (by kernel_rfl))) <|
      .cons rfl (Q_p rfl (S_load 0 rfl (AEv.tmp rfl) rfl rfl (by kernel_rfl))) <|
      .cons rfl (Q_p rfl (S_pcall rfl (AEvs.cons (AEv.S _) (AEvs.cons (AEv.tmp rfl) (AEvs.cons (AEv.const _) (AEvs.cons (AEv.const _) AEvs.nil)))) (spec_within_ok _ _ _ _))) <|
      .cons rfl (Q_p rfl (S_field 1 rfl (AEv.tmp rfl) (by kernel_rfl))) <|
      .cons rfl (Q_p rfl (S_load 0 rfl (AEv.tmp rfl) rfl rfl (by kernel_rfl))) <|
      .cons rfl (Q_p rfl (S_pcall rfl (AEvs.cons (AEv.S _) (AEvs.cons (AEv.tmp rfl) (AEvs.cons (AEv.const _) (AEvs.cons (AEv.const _) AEvs.nil)))) (spec_within_ok _ _ _ _))) <|
      .cons rfl (Q_p rfl (S_field 2 rfl (AEv.tmp rfl) (by kernel_rfl))) <|
      .cons rfl (Q_p rfl (S_load 0 rfl (AEv.tmp rfl) rfl rfl (by kernel_rfl))) <|
      .cons rfl (Q_p rfl (S_pcall rfl (AEvs.cons (AEv.S _) (AEvs.cons (AEv.tmp rfl) (AEvs.cons (AEv.const _) (AEvs.cons (AEv.const _) AEvs.nil)))) (spec_within_ok _ _ _ _))) <|
      .cons rfl (Q_p rfl (S_buildSlice (e := 29) 1 rfl (AEvs.cons (AEv.tmp rfl) (AEvs.cons (AEv.tmp rfl) (AEvs.cons (AEv.tmp rfl) AEvs.nil))) rfl (by kernel_rfl) (by kernel_rfl) (by intro y hy; simp only [List.mem_cons, List.not_mem_nil, or_false] at hy; rcases hy with rfl | rfl | rfl <;> exact ⟨er_flat _ _ _, by rw [er_cells]; rfl⟩) (by decide) (by decide) (by decide))) <|
      .cons rfl (Q_p rfl (S_pcall rfl (AEvs.cons (AEv.tmp rfl) AEvs.nil) (fail_First_ok [withinE [99, 112, 117] r.1 0 1099511627776, withinE [109, 101, 109] r.2.1 0 1099511627776, withinE [112, 105, 100, 115] r.2.2 0 1099511627776] (by simp)))) <|
      .cons rfl (Q_p rfl (S_pcall rfl (AEvs.cons (AEv.tmp rfl) (AEvs.cons (AEv.S _) AEvs.nil)) (fail_In_ok (firstE [withinE [99, 112, 117] r.1 0 1099511627776, withinE [109, 101, 109] r.2.1 0 1099511627776, withinE [112, 105, 100, 115] r.2.2 0 1099511627776]) [114, 101, 113]))) <|
      .cons rfl (Q_p rfl (S_assign rfl (AEv.tmp rfl))) <|
      .nil) ?_
  refine AC_ret ?_
  refine ret_tmp st rfl rfl (Sub.l (List.Sublist.cons _ (List.Sublist.refl _))) (Conv.refl (Sub.l (List.Sublist.cons _ (List.Sublist.refl _))) _) ⟨rfl, rfl⟩ (.inl rfl)

set_option maxRecDepth 100000 in
/-- provost/spec.lim -/
theorem spec_lim_ok (l r : Int × Int × Int) : PCalls Tryd.prog 40 [resAV l, resAV r] (erV 48 76 (limE l r)) := by
  intro st
  refine ACalls_of (N := 23) Tryd.func40 (by kernel_rfl) rfl rfl rfl ?_
  refine AC_seq ?_
  refine AC_region ?_
  refine AL_step rfl rfl (S_box rfl (AEv.tmp rfl)) ?_
  rintro _ _ ⟨b1, rfl, rfl⟩
  refine AL_step rfl rfl (S_box rfl (AEv.tmp rfl)) ?_
  rintro _ _ ⟨b2, rfl, rfl⟩
  refine AL_p rfl rfl (S_assign rfl (AEv.const _)) ?_
  refine AL_nil ?_
  refine AC_seq ?_
  refine AC_draw (by kernel_rfl) (by kernel_rfl) (.cons rfl (Q_p rfl (S_field 0 rfl (AEv.tmp rfl) (by kernel_rfl))) <|
      .cons rfl (Q_p rfl (S_load 1 rfl (AEv.tmp rfl) rfl rfl (by kernel_rfl))) <|
      .cons rfl (Q_p rfl (S_field 0 rfl (AEv.tmp rfl) (by kernel_rfl))) <|
      .cons rfl (Q_p rfl (S_load 0 rfl (AEv.tmp rfl) rfl rfl (by kernel_rfl))) <|
      .cons rfl (Q_p rfl (S_pcall rfl (AEvs.cons (AEv.S _) (AEvs.cons (AEv.tmp rfl) (AEvs.cons (AEv.tmp rfl) AEvs.nil))) (spec_most_ok _ _ _))) <|
      .cons rfl (Q_p rfl (S_field 1 rfl (AEv.tmp rfl) (by kernel_rfl))) <|
      .cons rfl (Q_p rfl (S_load 1 rfl (AEv.tmp rfl) rfl rfl (by kernel_rfl))) <|
      .cons rfl (Q_p rfl (S_field 1 rfl (AEv.tmp rfl) (by kernel_rfl))) <|
      .cons rfl (Q_p rfl (S_load 0 rfl (AEv.tmp rfl) rfl rfl (by kernel_rfl))) <|
      .cons rfl (Q_p rfl (S_pcall rfl (AEvs.cons (AEv.S _) (AEvs.cons (AEv.tmp rfl) (AEvs.cons (AEv.tmp rfl) AEvs.nil))) (spec_most_ok _ _ _))) <|
      .cons rfl (Q_p rfl (S_field 2 rfl (AEv.tmp rfl) (by kernel_rfl))) <|
      .cons rfl (Q_p rfl (S_load 1 rfl (AEv.tmp rfl) rfl rfl (by kernel_rfl))) <|
      .cons rfl (Q_p rfl (S_field 2 rfl (AEv.tmp rfl) (by kernel_rfl))) <|
      .cons rfl (Q_p rfl (S_load 0 rfl (AEv.tmp rfl) rfl rfl (by kernel_rfl))) <|
      .cons rfl (Q_p rfl (S_pcall rfl (AEvs.cons (AEv.S _) (AEvs.cons (AEv.tmp rfl) (AEvs.cons (AEv.tmp rfl) AEvs.nil))) (spec_most_ok _ _ _))) <|
      .cons rfl (Q_p rfl (S_buildSlice (e := 29) 1 rfl (AEvs.cons (AEv.tmp rfl) (AEvs.cons (AEv.tmp rfl) (AEvs.cons (AEv.tmp rfl) AEvs.nil))) rfl (by kernel_rfl) (by kernel_rfl) (by intro y hy; simp only [List.mem_cons, List.not_mem_nil, or_false] at hy; rcases hy with rfl | rfl | rfl <;> exact ⟨er_flat _ _ _, by rw [er_cells]; rfl⟩) (by decide) (by decide) (by decide))) <|
      .cons rfl (Q_p rfl (S_pcall rfl (AEvs.cons (AEv.tmp rfl) AEvs.nil) (fail_First_ok [mostE [99, 112, 117] l.1 r.1, mostE [109, 101, 109] l.2.1 r.2.1, mostE [112, 105, 100, 115] l.2.2 r.2.2] (by simp)))) <|
      .cons rfl (Q_p rfl (S_pcall rfl (AEvs.cons (AEv.tmp rfl) (AEvs.cons (AEv.S _) AEvs.nil)) (fail_In_ok (firstE [mostE [99, 112, 117] l.1 r.1, mostE [109, 101, 109] l.2.1 r.2.1, mostE [112, 105, 100, 115] l.2.2 r.2.2]) [108, 105, 109]))) <|
      .cons rfl (Q_p rfl (S_assign rfl (AEv.tmp rfl))) <|
      .nil) ?_
  refine AC_ret ?_
  refine ret_tmp st rfl rfl (Sub.l (List.Sublist.cons _ (List.Sublist.cons _ (List.Sublist.refl _)))) (Conv.refl (Sub.l (List.Sublist.cons _ (List.Sublist.cons _ (List.Sublist.refl _)))) _) ⟨rfl, rfl⟩ (.inl rfl)

set_option maxRecDepth 100000 in
/-- provost/spec.probe -/
theorem spec_probe_ok (p : Int × Int) (every : Int) : PCalls Tryd.prog 42 [probeAV p, .int .i64 every] (erV 48 76 (probeE p every)) := by
  intro st
  refine ACalls_of (N := 22) Tryd.func42 (by kernel_rfl) rfl rfl rfl ?_
  refine AC_seq ?_
  refine AC_region ?_
  refine AL_step rfl rfl (S_box rfl (AEv.tmp rfl)) ?_
  rintro _ _ ⟨b1, rfl, rfl⟩
  refine AL_p rfl rfl (S_assign rfl (AEv.const _)) ?_
  refine AL_nil ?_
  refine AC_seq ?_
  refine AC_region ?_
  refine AL_p rfl rfl (S_assign rfl (AEv.const _)) ?_
  refine AL_p rfl rfl (S_assign rfl (AEv.const _)) ?_
  refine AL_nil ?_
  refine AC_join (G := Unit) (fun _ => True) (fun _ => [(1, .int .i64 every), (2, .ptr b1 0), (5, .int .i64 (if p.1 = 0 then 0 else 1)), (6, .int .i64 (if p.1 = 0 then 0 else 10))]) (fun _ => (b1, .cells [.int .i64 p.1, .int .i64 p.2]) :: st) ?_ ?_
  · refine AC_seq ?_
    refine AC_region ?_
    refine AL_p rfl rfl (S_field 0 rfl (AEv.tmp rfl) (by kernel_rfl)) ?_
    refine AL_p rfl rfl (S_load 0 rfl (AEv.tmp rfl) rfl rfl (by kernel_rfl)) ?_
    refine AL_p rfl rfl (S_eql rfl (AEv.tmp rfl) (AEv.const _)) ?_
    refine AL_nil ?_
    refine AC_cond (AEv.tmp rfl) (fun hb2 => ?_) (fun hb2 => ?_)
    · try simp only [Bool.and_eq_true, Bool.or_eq_true, Bool.not_eq_true', Bool.not_eq_false', Bool.and_eq_false_iff, Bool.or_eq_false_iff, decide_eq_true_eq, decide_eq_false_iff_not, gd] at hb2
      have hp0 : p.1 = 0 := by omega
      refine AC_region ?_
      refine AL_p rfl rfl (S_assign rfl (AEv.const _)) ?_
      refine AL_p rfl rfl (S_assign rfl (AEv.const _)) ?_
      refine AL_nil ?_
      exact ⟨(), trivial, rfl, .cons rfl (Le.refl _) (.cons rfl (Le.refl _) (.cons rfl (Le.of_eq (by rw [if_pos hp0])) (.cons rfl (Le.of_eq (by rw [if_pos hp0])) .nil)))⟩
    · try simp only [Bool.and_eq_true, Bool.or_eq_true, Bool.not_eq_true', Bool.not_eq_false', Bool.and_eq_false_iff, Bool.or_eq_false_iff, decide_eq_true_eq, decide_eq_false_iff_not, gd] at hb2
      have hp0 : ¬ p.1 = 0 := by omega
      refine AC_skip ?_
      exact ⟨(), trivial, rfl, .cons rfl (Le.refl _) (.cons rfl (Le.refl _) (.cons rfl (Le.of_eq (by rw [if_neg hp0])) (.cons rfl (Le.of_eq (by rw [if_neg hp0])) .nil)))⟩
  · rintro _ _
    try dsimp only
    refine AC_seq ?_
    refine AC_draw (by kernel_rfl) (by kernel_rfl) (.cons rfl (Q_p rfl (S_field 0 rfl (AEv.tmp rfl) (by kernel_rfl))) <|
        .cons rfl (Q_p rfl (S_load 0 rfl (AEv.tmp rfl) rfl rfl (by kernel_rfl))) <|
        .cons rfl (Q_p rfl (S_move rfl (AEv.tmp rfl))) <|
        .cons rfl (Q_p rfl (S_pcall rfl (AEvs.cons (AEv.S _) (AEvs.cons (AEv.tmp rfl) (AEvs.cons (AEv.const _) (AEvs.cons (AEv.tmp rfl) AEvs.nil)))) (spec_within_ok _ _ _ _))) <|
        .cons rfl (Q_p rfl (S_field 1 rfl (AEv.tmp rfl) (by kernel_rfl))) <|
        .cons rfl (Q_p rfl (S_load 0 rfl (AEv.tmp rfl) rfl rfl (by kernel_rfl))) <|
        .cons rfl (Q_p rfl (S_move rfl (AEv.tmp rfl))) <|
        .cons rfl (Q_p rfl (S_move rfl (AEv.tmp rfl))) <|
        .cons rfl (Q_p rfl (S_pcall rfl (AEvs.cons (AEv.S _) (AEvs.cons (AEv.tmp rfl) (AEvs.cons (AEv.tmp rfl) (AEvs.cons (AEv.tmp rfl) AEvs.nil)))) (spec_within_ok [102, 97, 105, 108, 115] p.2 (if p.1 = 0 then 0 else 1) (if p.1 = 0 then 0 else 10)))) <|
        .cons rfl (Q_p rfl (S_buildSlice (e := 29) 1 rfl (AEvs.cons (AEv.tmp rfl) (AEvs.cons (AEv.tmp rfl) AEvs.nil)) rfl (by kernel_rfl) (by kernel_rfl) (by intro y hy; simp only [List.mem_cons, List.not_mem_nil, or_false] at hy; rcases hy with rfl | rfl <;> exact ⟨er_flat _ _ _, by rw [er_cells]; rfl⟩) (by decide) (by decide) (by decide))) <|
        .cons rfl (Q_p rfl (S_pcall rfl (AEvs.cons (AEv.tmp rfl) AEvs.nil) (fail_First_ok [withinE [101, 118, 101, 114, 121] p.1 0 every, withinE [102, 97, 105, 108, 115] p.2 (if p.1 = 0 then 0 else 1) (if p.1 = 0 then 0 else 10)] (by simp)))) <|
        .cons rfl (Q_p rfl (S_pcall rfl (AEvs.cons (AEv.tmp rfl) (AEvs.cons (AEv.S _) AEvs.nil)) (fail_In_ok (firstE [withinE [101, 118, 101, 114, 121] p.1 0 every, withinE [102, 97, 105, 108, 115] p.2 (if p.1 = 0 then 0 else 1) (if p.1 = 0 then 0 else 10)]) [112, 114, 111, 98, 101]))) <|
        .cons rfl (Q_p rfl (S_assign rfl (AEv.tmp rfl))) <|
        .nil) ?_
    refine AC_ret ?_
    refine ret_tmp st rfl rfl (Sub.l (List.Sublist.cons _ (List.Sublist.refl _))) (Conv.refl (Sub.l (List.Sublist.cons _ (List.Sublist.refl _))) _) ⟨rfl, rfl⟩ (.inl rfl)

set_option maxRecDepth 100000 in
/-- slices.Index[[]string,string] -/
theorem slices_IndexS_ok (l : List (List UInt8)) (s : List UInt8) (hl : l.length ≤ 1000000) : PCalls Tryd.prog 50 [.sl (strsV l), .S s] (.int .i64 (idxG l s)) := by
  intro st
  refine ACalls_of (N := 19) Tryd.func50 (by kernel_rfl) rfl rfl rfl ?_
  have hll : (strsV l).length = l.length := by simp [strsV]
  refine AC_seq ?_
  refine AC_region ?_
  refine AL_p rfl rfl (S_assign rfl (AEv.const _)) ?_
  refine AL_nil ?_
  refine AC_seq ?_
  refine AC_seq ?_
  refine AC_region ?_
  refine AL_p rfl rfl (S_move rfl (AEv.tmp rfl)) ?_
  refine AL_p rfl rfl (S_len (e := 9) rfl (AEv.tmp rfl) (by kernel_rfl)) ?_
  refine AL_p rfl rfl (S_move rfl (AEv.const _)) ?_
  refine AL_nil ?_
  refine AC_block ?_
  refine AC_loop (G := Nat) (fun i => i ≤ l.length ∧ ∀ j (hj : j < i) (hj2 : j < l.length), l[j] ≠ s) (fun i => [(0, .sl (strsV l)), (1, .S s), (7, .int .i64 ((strsV l).length : Int)), (8, .int .i64 (i : Int))]) (fun i => st) (fun i => l.length - i) (0) (⟨Nat.zero_le _, fun j hj => absurd hj (Nat.not_lt_zero _)⟩) rfl ?_ ?_
  · exact .cons rfl (Le.refl _) (.cons rfl (Le.refl _) (.cons rfl (Le.refl _) (.cons rfl (Le.refl _) .nil)))
  · rintro i ⟨hi, hno⟩
    try dsimp only
    refine AC_seq ?_
    refine AC_region ?_
    refine AL_p rfl rfl (S_lss rfl (AEv.tmp rfl) (AEv.tmp rfl)) ?_
    refine AL_nil ?_
    refine AC_seq ?_
    refine AC_cond (AEv.tmp rfl) (fun hb1 => ?_) (fun hb1 => ?_)
    · try simp only [Bool.and_eq_true, Bool.or_eq_true, Bool.not_eq_true', Bool.not_eq_false', Bool.and_eq_false_iff, Bool.or_eq_false_iff, decide_eq_true_eq, decide_eq_false_iff_not, gd] at hb1
      have hil : i < l.length := by omega
      refine AC_skip ?_
      refine AC_seq ?_
      refine AC_block ?_
      refine AC_seq ?_
      refine AC_region ?_
      refine AL_p rfl rfl (S_move rfl (AEv.tmp rfl)) ?_
      refine AL_p rfl rfl (S_assign rfl (AEv.tmp rfl)) ?_
      refine AL_nil ?_
      refine AC_seq ?_
      refine AC_region ?_
      refine AL_p rfl rfl (S_move rfl (AEv.tmp rfl)) ?_
      refine AL_p rfl rfl (S_move rfl (AEv.tmp rfl)) ?_
      refine AL_p rfl rfl (S_move rfl (AEv.tmp rfl)) ?_
      refine AL_p rfl rfl (S_elem (e := 9) (c := .S (l[i]'hil)) (i := (i : Int)) 1 rfl (AEv.tmp rfl) (AEv.tmp rfl) (by kernel_rfl) (by kernel_rfl) (by omega) (by simp [strsV, hil]) rfl) ?_
      refine AL_p rfl rfl (S_loadP rfl (AEv.tmp rfl) rfl (by kernel_rfl)) ?_
      refine AL_p rfl rfl (S_eqS rfl (AEv.tmp rfl) (AEv.tmp rfl)) ?_
      refine AL_nil ?_
      refine AC_cond (AEv.tmp rfl) (fun hb2 => ?_) (fun hb2 => ?_)
      · try simp only [Bool.and_eq_true, Bool.or_eq_true, Bool.not_eq_true', Bool.not_eq_false', Bool.and_eq_false_iff, Bool.or_eq_false_iff, decide_eq_true_eq, decide_eq_false_iff_not, gd] at hb2
        have he : l[i]'hil = s := (by first | exact hb2.symm | omega)
        refine AC_seq ?_
        refine AC_region ?_
        refine AL_p rfl rfl (S_move rfl (AEv.tmp rfl)) ?_
        refine AL_p rfl rfl (S_assign rfl (AEv.tmp rfl)) ?_
        refine AL_nil ?_
        refine AC_ret ?_
        refine ret_tmp st rfl rfl (Sub.l (List.Sublist.refl _)) (Conv.refl (Sub.l (List.Sublist.refl _)) _) ⟨by rw [idxG_hit hil he fun j hj => hno j hj (by omega)], rfl⟩ (.inl rfl)
      · try simp only [Bool.and_eq_true, Bool.or_eq_true, Bool.not_eq_true', Bool.not_eq_false', Bool.and_eq_false_iff, Bool.or_eq_false_iff, decide_eq_true_eq, decide_eq_false_iff_not, gd] at hb2
        have hne : ¬ s = l[i]'hil := (by first | exact hb2 | omega)
        refine AC_skip ?_
        refine AC_region ?_
        refine AL_p rfl rfl (S_addI rfl (AEv.tmp rfl) (AEv.const _) (by omega) (by omega)) ?_
        refine AL_p rfl rfl (S_move rfl (AEv.tmp rfl)) ?_
        refine AL_nil ?_
        refine ⟨i + 1, ⟨by omega, fun j hj hj2 => ?_⟩, by omega, rfl, .cons rfl (Le.refl _) (.cons rfl (Le.refl _) (.cons rfl (Le.refl _) (.cons rfl (Le.of_eq (by rw [Int.natCast_add]; rfl)) .nil)))⟩
        rcases Nat.lt_or_ge j i with h | h
        · exact hno j h hj2
        · have : j = i := by omega
          subst this
          exact fun e => hne e.symm
    · try simp only [Bool.and_eq_true, Bool.or_eq_true, Bool.not_eq_true', Bool.not_eq_false', Bool.and_eq_false_iff, Bool.or_eq_false_iff, decide_eq_true_eq, decide_eq_false_iff_not, gd] at hb1
      refine AC_exit ?_
      refine AC_seq ?_
      refine AC_region ?_
      refine AL_p rfl rfl (S_assign rfl (AEv.const _)) ?_
      refine AL_nil ?_
      refine AC_ret ?_
      refine ret_tmp st rfl rfl (Sub.l (List.Sublist.refl _)) (Conv.refl (Sub.l (List.Sublist.refl _)) _) ⟨by rw [idxG_none fun j hj => hno j (by omega) hj], rfl⟩ (.inl rfl)

set_option maxRecDepth 100000 in
/-- slices.Contains[[]string,string] -/
theorem slices_ContainsS_ok (l : List (List UInt8)) (s : List UInt8) (hl : l.length ≤ 1000000) : PCalls Tryd.prog 45 [.sl (strsV l), .S s] (.bool (decide (s ∈ l))) := by
  intro st
  refine ACalls_of (N := 9) Tryd.func45 (by kernel_rfl) rfl rfl rfl ?_
  refine AC_seq ?_
  refine AC_region ?_
  refine AL_p rfl rfl (S_assign rfl (AEv.const _)) ?_
  refine AL_nil ?_
  refine AC_seq ?_
  refine AC_region ?_
  refine AL_p rfl rfl (S_move rfl (AEv.tmp rfl)) ?_
  refine AL_p rfl rfl (S_move rfl (AEv.tmp rfl)) ?_
  refine AL_p rfl rfl (S_pcall rfl (AEvs.cons (AEv.tmp rfl) (AEvs.cons (AEv.tmp rfl) AEvs.nil)) (slices_IndexS_ok l s hl)) ?_
  refine AL_p rfl rfl (S_geq rfl (AEv.tmp rfl) (AEv.const _)) ?_
  refine AL_p rfl rfl (S_assign rfl (AEv.tmp rfl)) ?_
  refine AL_nil ?_
  refine AC_ret ?_
  refine ret_tmp st rfl rfl (Sub.l (List.Sublist.refl _)) (Conv.refl (Sub.l (List.Sublist.refl _)) _) ⟨by rw [show decide (s ∈ l) = decide (0 ≤ idxG l s) from decide_eq_decide.2 (idxG_mem s l).symm], rfl⟩ (.inl rfl)

set_option maxRecDepth 100000 in
/-- slices.Index[[]int,int] -/
theorem slices_IndexI_ok (l : List Int) (s : Int) (hl : l.length ≤ 1000000) : PCalls Tryd.prog 53 [.sl (intsV l), .int .i64 s] (.int .i64 (idxG l s)) := by
  intro st
  refine ACalls_of (N := 19) Tryd.func53 (by kernel_rfl) rfl rfl rfl ?_
  have hll : (intsV l).length = l.length := by simp [intsV]
  refine AC_seq ?_
  refine AC_region ?_
  refine AL_p rfl rfl (S_assign rfl (AEv.const _)) ?_
  refine AL_nil ?_
  refine AC_seq ?_
  refine AC_seq ?_
  refine AC_region ?_
  refine AL_p rfl rfl (S_move rfl (AEv.tmp rfl)) ?_
  refine AL_p rfl rfl (S_len (e := 3) rfl (AEv.tmp rfl) (by kernel_rfl)) ?_
  refine AL_p rfl rfl (S_move rfl (AEv.const _)) ?_
  refine AL_nil ?_
  refine AC_block ?_
  refine AC_loop (G := Nat) (fun i => i ≤ l.length ∧ ∀ j (hj : j < i) (hj2 : j < l.length), l[j] ≠ s) (fun i => [(0, .sl (intsV l)), (1, .int .i64 s), (7, .int .i64 ((intsV l).length : Int)), (8, .int .i64 (i : Int))]) (fun i => st) (fun i => l.length - i) (0) (⟨Nat.zero_le _, fun j hj => absurd hj (Nat.not_lt_zero _)⟩) rfl ?_ ?_
  · exact .cons rfl (Le.refl _) (.cons rfl (Le.refl _) (.cons rfl (Le.refl _) (.cons rfl (Le.refl _) .nil)))
  · rintro i ⟨hi, hno⟩
    try dsimp only
    refine AC_seq ?_
    refine AC_region ?_
    refine AL_p rfl rfl (S_lss rfl (AEv.tmp rfl) (AEv.tmp rfl)) ?_
    refine AL_nil ?_
    refine AC_seq ?_
    refine AC_cond (AEv.tmp rfl) (fun hb1 => ?_) (fun hb1 => ?_)
    · try simp only [Bool.and_eq_true, Bool.or_eq_true, Bool.not_eq_true', Bool.not_eq_false', Bool.and_eq_false_iff, Bool.or_eq_false_iff, decide_eq_true_eq, decide_eq_false_iff_not, gd] at hb1
      have hil : i < l.length := by omega
      refine AC_skip ?_
      refine AC_seq ?_
      refine AC_block ?_
      refine AC_seq ?_
      refine AC_region ?_
      refine AL_p rfl rfl (S_move rfl (AEv.tmp rfl)) ?_
      refine AL_p rfl rfl (S_assign rfl (AEv.tmp rfl)) ?_
      refine AL_nil ?_
      refine AC_seq ?_
      refine AC_region ?_
      refine AL_p rfl rfl (S_move rfl (AEv.tmp rfl)) ?_
      refine AL_p rfl rfl (S_move rfl (AEv.tmp rfl)) ?_
      refine AL_p rfl rfl (S_move rfl (AEv.tmp rfl)) ?_
      refine AL_p rfl rfl (S_elem (e := 3) (c := .int .i64 (l[i]'hil)) (i := (i : Int)) 1 rfl (AEv.tmp rfl) (AEv.tmp rfl) (by kernel_rfl) (by kernel_rfl) (by omega) (by simp [intsV, hil]) rfl) ?_
      refine AL_p rfl rfl (S_loadP rfl (AEv.tmp rfl) rfl (by kernel_rfl)) ?_
      refine AL_p rfl rfl (S_eql rfl (AEv.tmp rfl) (AEv.tmp rfl)) ?_
      refine AL_nil ?_
      refine AC_cond (AEv.tmp rfl) (fun hb2 => ?_) (fun hb2 => ?_)
      · try simp only [Bool.and_eq_true, Bool.or_eq_true, Bool.not_eq_true', Bool.not_eq_false', Bool.and_eq_false_iff, Bool.or_eq_false_iff, decide_eq_true_eq, decide_eq_false_iff_not, gd] at hb2
        have he : l[i]'hil = s := (by first | exact hb2.symm | omega)
        refine AC_seq ?_
        refine AC_region ?_
        refine AL_p rfl rfl (S_move rfl (AEv.tmp rfl)) ?_
        refine AL_p rfl rfl (S_assign rfl (AEv.tmp rfl)) ?_
        refine AL_nil ?_
        refine AC_ret ?_
        refine ret_tmp st rfl rfl (Sub.l (List.Sublist.refl _)) (Conv.refl (Sub.l (List.Sublist.refl _)) _) ⟨by rw [idxG_hit hil he fun j hj => hno j hj (by omega)], rfl⟩ (.inl rfl)
      · try simp only [Bool.and_eq_true, Bool.or_eq_true, Bool.not_eq_true', Bool.not_eq_false', Bool.and_eq_false_iff, Bool.or_eq_false_iff, decide_eq_true_eq, decide_eq_false_iff_not, gd] at hb2
        have hne : ¬ s = l[i]'hil := (by first | exact hb2 | omega)
        refine AC_skip ?_
        refine AC_region ?_
        refine AL_p rfl rfl (S_addI rfl (AEv.tmp rfl) (AEv.const _) (by omega) (by omega)) ?_
        refine AL_p rfl rfl (S_move rfl (AEv.tmp rfl)) ?_
        refine AL_nil ?_
        refine ⟨i + 1, ⟨by omega, fun j hj hj2 => ?_⟩, by omega, rfl, .cons rfl (Le.refl _) (.cons rfl (Le.refl _) (.cons rfl (Le.refl _) (.cons rfl (Le.of_eq (by rw [Int.natCast_add]; rfl)) .nil)))⟩
        rcases Nat.lt_or_ge j i with h | h
        · exact hno j h hj2
        · have : j = i := by omega
          subst this
          exact fun e => hne e.symm
    · try simp only [Bool.and_eq_true, Bool.or_eq_true, Bool.not_eq_true', Bool.not_eq_false', Bool.and_eq_false_iff, Bool.or_eq_false_iff, decide_eq_true_eq, decide_eq_false_iff_not, gd] at hb1
      refine AC_exit ?_
      refine AC_seq ?_
      refine AC_region ?_
      refine AL_p rfl rfl (S_assign rfl (AEv.const _)) ?_
      refine AL_nil ?_
      refine AC_ret ?_
      refine ret_tmp st rfl rfl (Sub.l (List.Sublist.refl _)) (Conv.refl (Sub.l (List.Sublist.refl _)) _) ⟨by rw [idxG_none fun j hj => hno j (by omega) hj], rfl⟩ (.inl rfl)

set_option maxRecDepth 100000 in
/-- slices.Contains[[]int,int] -/
theorem slices_ContainsI_ok (l : List Int) (s : Int) (hl : l.length ≤ 1000000) : PCalls Tryd.prog 48 [.sl (intsV l), .int .i64 s] (.bool (decide (s ∈ l))) := by
  intro st
  refine ACalls_of (N := 9) Tryd.func48 (by kernel_rfl) rfl rfl rfl ?_
  refine AC_seq ?_
  refine AC_region ?_
  refine AL_p rfl rfl (S_assign rfl (AEv.const _)) ?_
  refine AL_nil ?_
  refine AC_seq ?_
  refine AC_region ?_
  refine AL_p rfl rfl (S_move rfl (AEv.tmp rfl)) ?_
  refine AL_p rfl rfl (S_move rfl (AEv.tmp rfl)) ?_
  refine AL_p rfl rfl (S_pcall rfl (AEvs.cons (AEv.tmp rfl) (AEvs.cons (AEv.tmp rfl) AEvs.nil)) (slices_IndexI_ok l s hl)) ?_
  refine AL_p rfl rfl (S_geq rfl (AEv.tmp rfl) (AEv.const _)) ?_
  refine AL_p rfl rfl (S_assign rfl (AEv.tmp rfl)) ?_
  refine AL_nil ?_
  refine AC_ret ?_
  refine ret_tmp st rfl rfl (Sub.l (List.Sublist.refl _)) (Conv.refl (Sub.l (List.Sublist.refl _)) _) ⟨by rw [show decide (s ∈ l) = decide (0 ≤ idxG l s) from decide_eq_decide.2 (idxG_mem s l).symm], rfl⟩ (.inl rfl)

end Go.Proofs.YtnjlecejhnoicaaDoor
