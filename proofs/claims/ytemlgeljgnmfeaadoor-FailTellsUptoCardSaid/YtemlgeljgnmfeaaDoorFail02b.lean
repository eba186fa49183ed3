/-
The walks of Go functions in the logic AL: what each of them answers.
Conditions: those of each theorem.
-/
import Derived.Test.YtemlgeljgnmfeaaDoorFail02a
import Derived.Test.YtemlgeljgnmfeaaDoorFailLem
set_option linter.unusedVariables false
set_option linter.unusedSimpArgs false
namespace Go.Proofs.YtemlgeljgnmfeaaDoor
open Go.AL Go.NumSpec

set_option maxRecDepth 100000 in
/-- (*provost/fail.step).Unwrap -/
theorem step_Unwrap_ok (p : List UInt8) (x : AV) : PCalls Tryd.prog 57 [.ip [.S p, x]] (x) := by
  intro st
  refine ACalls_of (N := 7) Tryd.func57 (by kernel_rfl) rfl rfl rfl ?_
  refine AC_seq ?_
  refine AC_region ?_
  refine AL_p rfl rfl (S_assign rfl (AEv.const _)) ?_
  refine AL_nil ?_
  refine AC_seq ?_
  refine AC_region ?_
  refine AL_p rfl rfl (S_move rfl (AEv.tmp rfl)) ?_
  refine AL_p rfl rfl (S_nilCheckP rfl (AEv.tmp rfl)) ?_
  refine AL_p rfl rfl (S_fieldP 1 rfl (AEv.tmp rfl) (by kernel_rfl)) ?_
  refine AL_p rfl rfl (S_loadP rfl (AEv.tmp rfl) rfl (by kernel_rfl)) ?_
  refine AL_p rfl rfl (S_assign rfl (AEv.tmp rfl)) ?_
  refine AL_nil ?_
  refine AC_ret ?_
  refine ret_tmp st rfl rfl (Sub.l (List.Sublist.refl _)) (Conv.refl (Sub.l (List.Sublist.refl _)) _) ⟨by first | rfl | (simp; done), rfl⟩ (.inl rfl)

set_option maxRecDepth 100000 in
/-- provost/fail.In -/
theorem fail_In_ok (e : Er) (p : List UInt8) : PCalls Tryd.prog 11 [erV 27 49 e, .S p] (erV 27 49 (erIn e p)) := by
  intro st
  refine ACalls_of (N := 12) Tryd.func11 (by kernel_rfl) rfl rfl rfl ?_
  refine AC_seq ?_
  refine AC_region ?_
  refine AL_p rfl rfl (S_assign rfl (AEv.const _)) ?_
  refine AL_nil ?_
  refine AC_seq ?_
  refine AC_seq ?_
  refine AC_region ?_
  refine AL_p rfl rfl (S_move rfl (AEv.tmp rfl)) ?_
  refine AL_p rfl rfl (S_eqlE (er_is 27 49 e) rfl (AEv.tmp rfl) (by kernel_rfl)) ?_
  refine AL_nil ?_
  refine AC_cond (AEv.tmp rfl) (fun hb1 => ?_) (fun hb1 => ?_)
  · try simp only [Bool.and_eq_true, Bool.or_eq_true, Bool.not_eq_true', Bool.not_eq_false', Bool.and_eq_false_iff, Bool.or_eq_false_iff, decide_eq_true_eq, decide_eq_false_iff_not, gd] at hb1
    obtain rfl : e = none := by cases e with | none => rfl | some x => simp at hb1
    refine AC_seq ?_
    refine AC_region ?_
    refine AL_p rfl rfl (S_assign rfl (AEv.const _)) ?_
    refine AL_nil ?_
    refine AC_ret ?_
    refine ret_tmp st rfl rfl (Sub.l (List.Sublist.refl _)) (Conv.refl (Sub.l (List.Sublist.refl _)) _) ⟨rfl, rfl⟩ (.inl rfl)
  · try simp only [Bool.and_eq_true, Bool.or_eq_true, Bool.not_eq_true', Bool.not_eq_false', Bool.and_eq_false_iff, Bool.or_eq_false_iff, decide_eq_true_eq, decide_eq_false_iff_not, gd] at hb1
    obtain ⟨⟨c, ps⟩, rfl⟩ : ∃ x, e = some x := by cases e with | none => simp at hb1 | some x => exact ⟨x, rfl⟩
    obtain ⟨T9, z, hz⟩ := chain_ifc 27 49 c ps
    have hR : erV 27 49 (erIn (some (c, ps)) p) = .ifc 49 (.ip [.S p, .ifc T9 z]) := by
      show AV.ifc 49 _ = _
      rw [hz]
    have he : erV 27 49 (some (c, ps)) = .ifc T9 z := hz
    rw [hR]
    simp only [he]
    refine AC_skip ?_
    refine AC_seq ?_
    refine AC_region ?_
    refine AL_p rfl rfl (S_move rfl (AEv.tmp rfl)) ?_
    refine AL_p rfl rfl (S_move rfl (AEv.tmp rfl)) ?_
    refine AL_p rfl rfl (S_build (pl := [(0, 1), (1, 1)]) (zs := [.string ⟨#[]⟩, .nilIface]) rfl (AEvs.cons (AEv.tmp rfl) (AEvs.cons (AEv.tmp rfl) AEvs.nil)) (by kernel_rfl) rfl) ?_
    refine AL_step rfl rfl (S_box rfl (AEv.tmp rfl)) ?_
    rintro _ _ ⟨b2, rfl, rfl⟩
    refine AL_p rfl rfl (S_ifc (T2 := 0) rfl (AEv.tmp rfl) (by kernel_rfl)) ?_
    refine AL_p rfl rfl (S_assign rfl (AEv.tmp rfl)) ?_
    refine AL_nil ?_
    refine AC_ret ?_
    refine ret_tmp st rfl rfl (Sub.l (List.Sublist.cons _ (List.Sublist.refl _))) (Conv.ifc (Conv.ipT (Sub.l (List.Sublist.cons _ (List.Sublist.refl _))) List.mem_cons_self (fun hn o ho => absurd (List.mem_map_of_mem (f := Prod.fst) ho) (by simp only [List.map_cons, List.nodup_cons] at hn; exact hn.1)))) ⟨rfl, rfl⟩ (.inl rfl)

set_option maxRecDepth 100000 in
/-- errors.is -/
theorem errors_is_ok (c d : Int) (ps : List (List UInt8)) : PCalls Tryd.prog 31 [chainV 27 49 c ps, .ifc 27 (.int .i64 d), .bool true] (.bool (decide (c = d))) := by
  intro st
  refine ACalls_of (N := 54) Tryd.func31 (by kernel_rfl) rfl rfl rfl ?_
  refine AC_seq ?_
  refine AC_region ?_
  refine AL_p rfl rfl (S_assign rfl (AEv.const _)) ?_
  refine AL_nil ?_
  refine AC_block ?_
  refine AC_loop (G := List (List UInt8)) (fun g => True) (fun g => [(0, chainV 27 49 c g), (1, .ifc 27 (.int .i64 d)), (2, .bool true)]) (fun g => st) (fun g => g.length) (ps) (trivial) rfl ?_ ?_
  · exact (.cons rfl (Le.refl _) (.cons rfl (Le.refl _) (.cons rfl (Le.refl _) .nil)))
  · rintro g _
    try dsimp only
    refine AC_block ?_
    refine AC_seq ?_
    refine AC_seq ?_
    refine AC_region ?_
    refine AL_p rfl rfl (S_move rfl (AEv.tmp rfl)) ?_
    refine AL_p rfl rfl (S_move rfl (AEv.tmp rfl)) ?_
    refine AL_gTp rfl rfl (AEv.tmp rfl) rfl rfl (S_move rfl (AEv.tmp rfl)) ?_
    refine AL_gTp rfl rfl (AEv.tmp rfl) rfl rfl (S_move rfl (AEv.tmp rfl)) ?_
    refine AL_gTp rfl rfl (AEv.tmp rfl) rfl rfl ((show PStep _ _ _ _ _ (.bool (hdV c d g)) from by cases g with | nil => exact S_eqlInt (q := .i64) rfl (AEv.tmp rfl) (AEv.tmp rfl) Tryd.underlying24 (by kernel_rfl) (by kernel_rfl) | cons p0 ps0 => exact S_eqlDiff rfl (AEv.tmp rfl) (AEv.tmp rfl) Tryd.underlying24 (by decide))) ?_
    refine AL_p rfl rfl (S_and rfl (AEv.tmp rfl) (fun hp1 => (AEv.tmp rfl))) ?_
    refine AL_nil ?_
    refine AC_cond (AEv.tmp rfl) (fun hb2 => ?_) (fun hb2 => ?_)
    · try simp only [Bool.and_eq_true, Bool.or_eq_true, Bool.not_eq_true', Bool.not_eq_false', Bool.and_eq_false_iff, Bool.or_eq_false_iff, decide_eq_true_eq, decide_eq_false_iff_not, gd] at hb2
      have hd : c = d := hdV_true (ps := g) (by simpa using hb2)
      refine AC_seq ?_
      refine AC_region ?_
      refine AL_p rfl rfl (S_assign rfl (AEv.const _)) ?_
      refine AL_nil ?_
      refine AC_ret ?_
      refine ret_tmp st rfl rfl (Sub.l (List.Sublist.refl _)) (Conv.refl (Sub.l (List.Sublist.refl _)) _) ⟨by rw [decide_eq_true hd], rfl⟩ (.inl rfl)
    · try simp only [Bool.and_eq_true, Bool.or_eq_true, Bool.not_eq_true', Bool.not_eq_false', Bool.and_eq_false_iff, Bool.or_eq_false_iff, decide_eq_true_eq, decide_eq_false_iff_not, gd] at hb2
      have hd : hdV c d g = false := by simpa using hb2
      refine AC_skip ?_
      refine AC_seq ?_
      refine AC_seq ?_
      refine AC_region ?_
      refine AL_p rfl rfl (S_move rfl (AEv.tmp rfl)) ?_
      refine AL_p rfl rfl ((show PStep _ _ _ _ _ (.tup [.nili, .bool false]) from by cases g with | nil => exact S_assertNo (X := 0) rfl (AEv.tmp rfl) Tryd.underlying90 (by kernel_rfl) (by kernel_rfl) | cons p0 ps0 => exact S_assertNo (X := 0) rfl (AEv.tmp rfl) Tryd.underlying90 (by kernel_rfl) (by kernel_rfl))) ?_
      refine AL_p rfl rfl (S_move rfl (AEv.tmp rfl)) ?_
      refine AL_p rfl rfl (S_extract 0 rfl (AEv.tmp rfl) rfl) ?_
      refine AL_p rfl rfl (S_extract 1 rfl (AEv.tmp rfl) rfl) ?_
      refine AL_p rfl rfl (S_assign rfl (AEv.tmp rfl)) ?_
      refine AL_p rfl rfl (S_assign rfl (AEv.tmp rfl)) ?_
      refine AL_nil ?_
      refine AC_seq ?_
      refine AC_region ?_
      refine AL_p rfl rfl (S_move rfl (AEv.tmp rfl)) ?_
      refine AL_p rfl rfl (S_move rfl (AEv.tmp rfl)) ?_
      refine AL_g rfl rfl (AEv.tmp rfl) rfl (fun hg3 => S_move rfl (AEv.tmp rfl)) ?_
      refine AL_g rfl rfl (AEv.tmp rfl) rfl (fun hg6 => S_move rfl (AEv.tmp rfl)) ?_
      refine AL_g rfl rfl (AEv.tmp rfl) rfl (fun hg9 => (show PStep _ _ _ _ _ (.bool false) from absurd (show gd false true = true by assumption) (by decide))) ?_
      refine AL_p rfl rfl (S_and rfl (AEv.tmp rfl) (fun hp12 => (AEv.cond (AEv.tmp rfl) (by first | assumption | exact gdT hp12 | exact gdF hp12 | exact gdAnd (by assumption) (gdT hp12) | exact gdAnd (by assumption) (gdF hp12))))) ?_
      refine AL_nil ?_
      refine AC_cond (AEv.tmp rfl) (fun hb13 => ?_) (fun hb13 => ?_)
      · simp at hb13; done
      · try simp only [Bool.and_eq_true, Bool.or_eq_true, Bool.not_eq_true', Bool.not_eq_false', Bool.and_eq_false_iff, Bool.or_eq_false_iff, decide_eq_true_eq, decide_eq_false_iff_not, gd] at hb13
        refine AC_skip ?_
        refine AC_seq ?_
        refine AC_region ?_
        refine AL_p rfl rfl (S_move rfl (AEv.tmp rfl)) ?_
        refine AL_nil ?_
        refine AC_block ?_
        refine AC_seq ?_
        refine AC_region ?_
        refine AL_p rfl rfl ((show PStep _ _ _ _ _ (.tup [(upV 27 49 c g), .bool (!g.isEmpty)]) from by cases g with | nil => exact S_assertNo (X := 0) rfl (AEv.tmp rfl) Tryd.underlying85 (by kernel_rfl) (by kernel_rfl) | cons p0 ps0 => exact S_assertYes rfl (AEv.tmp rfl) Tryd.underlying85 (by kernel_rfl))) ?_
        refine AL_p rfl rfl (S_extract 1 rfl (AEv.tmp rfl) rfl) ?_
        refine AL_p rfl rfl (S_extract 0 rfl (AEv.tmp rfl) rfl) ?_
        refine AL_nil ?_
        refine AC_cond (AEv.tmp rfl) (fun hb14 => ?_) (fun hb14 => ?_)
        · try simp only [Bool.and_eq_true, Bool.or_eq_true, Bool.not_eq_true', Bool.not_eq_false', Bool.and_eq_false_iff, Bool.or_eq_false_iff, decide_eq_true_eq, decide_eq_false_iff_not, gd] at hb14
          obtain ⟨p1, ps1, rfl⟩ : ∃ p1 ps1, g = p1 :: ps1 := by cases g with | nil => simp at hb14 | cons p1 ps1 => exact ⟨p1, ps1, rfl⟩
          refine AC_seq ?_
          refine AC_region ?_
          refine AL_p rfl rfl (S_assign rfl (AEv.tmp rfl)) ?_
          refine AL_nil ?_
          refine AC_seq ?_
          refine AC_region ?_
          refine AL_p rfl rfl (S_move rfl (AEv.tmp rfl)) ?_
          refine AL_step rfl rfl (S_invC rfl (AEv.tmp rfl) mUnwrap (step_Unwrap_ok _ _ _)) ?_
          rintro _ _ ⟨rfl, rfl⟩
          refine AL_p rfl rfl (S_assign rfl (AEv.tmp rfl)) ?_
          refine AL_nil ?_
          refine AC_seq ?_
          refine AC_region ?_
          refine AL_p rfl rfl (S_move rfl (AEv.tmp rfl)) ?_
          refine AL_p rfl rfl (S_eqlE (chain_is 27 49 c ps1) rfl (AEv.tmp rfl) (by kernel_rfl)) ?_
          refine AL_nil ?_
          refine AC_cond (AEv.tmp rfl) (fun hb15 => ?_) (fun hb15 => ?_)
          · simp at hb15; done
          · try simp only [Bool.and_eq_true, Bool.or_eq_true, Bool.not_eq_true', Bool.not_eq_false', Bool.and_eq_false_iff, Bool.or_eq_false_iff, decide_eq_true_eq, decide_eq_false_iff_not, gd] at hb15
            refine AC_skip ?_
            refine ⟨ps1, trivial, by simp, rfl, (.cons rfl (Le.refl _) (.cons rfl (Le.refl _) (.cons rfl (Le.refl _) .nil)))⟩
        · try simp only [Bool.and_eq_true, Bool.or_eq_true, Bool.not_eq_true', Bool.not_eq_false', Bool.and_eq_false_iff, Bool.or_eq_false_iff, decide_eq_true_eq, decide_eq_false_iff_not, gd] at hb14
          obtain rfl : g = [] := by cases g with | nil => rfl | cons p1 ps1 => simp at hb14
          refine AC_seq ?_
          refine AC_region ?_
          refine AL_p rfl rfl (S_assertNo (X := 0) rfl (AEv.tmp rfl) Tryd.underlying87 (by kernel_rfl) (by kernel_rfl)) ?_
          refine AL_p rfl rfl (S_extract 1 rfl (AEv.tmp rfl) rfl) ?_
          refine AL_p rfl rfl (S_extract 0 rfl (AEv.tmp rfl) rfl) ?_
          refine AL_nil ?_
          refine AC_cond (AEv.tmp rfl) (fun hb16 => ?_) (fun hb16 => ?_)
          · simp at hb16; done
          · try simp only [Bool.and_eq_true, Bool.or_eq_true, Bool.not_eq_true', Bool.not_eq_false', Bool.and_eq_false_iff, Bool.or_eq_false_iff, decide_eq_true_eq, decide_eq_false_iff_not, gd] at hb16
            refine AC_seq ?_
            refine AC_region ?_
            refine AL_p rfl rfl (S_assign rfl (AEv.tmp rfl)) ?_
            refine AL_nil ?_
            refine AC_seq ?_
            refine AC_region ?_
            refine AL_p rfl rfl (S_assign rfl (AEv.const _)) ?_
            refine AL_nil ?_
            refine AC_ret ?_
            refine ret_tmp st rfl rfl (Sub.l (List.Sublist.refl _)) (Conv.refl (Sub.l (List.Sublist.refl _)) _) ⟨by rw [show decide (c = d) = false from hd], rfl⟩ (.inl rfl)

set_option maxRecDepth 100000 in
/-- errors.Is -/
theorem errors_Is_ok (c d : Int) (ps : List (List UInt8)) : PCalls Tryd.prog 22 [chainV 27 49 c ps, .ifc 27 (.int .i64 d)] (.bool (decide (c = d))) := by
  intro st
  refine ACalls_of (N := 22) Tryd.func22 (by kernel_rfl) rfl rfl rfl ?_
  refine AC_seq ?_
  refine AC_region ?_
  refine AL_p rfl rfl (S_assign rfl (AEv.const _)) ?_
  refine AL_nil ?_
  refine AC_seq ?_
  refine AC_seq ?_
  refine AC_region ?_
  refine AL_p rfl rfl (S_move rfl (AEv.tmp rfl)) ?_
  refine AL_p rfl rfl (S_eqlE (chain_is 27 49 c ps) rfl (AEv.tmp rfl) (by kernel_rfl)) ?_
  refine AL_p rfl rfl (S_move rfl (AEv.tmp rfl)) ?_
  refine AL_g rfl rfl (AEv.tmp rfl) rfl (fun hg1 => S_move rfl (AEv.tmp rfl)) ?_
  refine AL_g rfl rfl (AEv.tmp rfl) rfl (fun hg4 => S_eqlE (ifc_is 27 (.int .i64 d)) rfl (AEv.cond (AEv.tmp rfl) (by first | assumption | exact gdAnd (by assumption) (by assumption))) (by kernel_rfl)) ?_
  refine AL_p rfl rfl (S_or rfl (AEv.tmp rfl) (fun hp7 => (AEv.cond (AEv.tmp rfl) (by first | assumption | exact gdT hp7 | exact gdF hp7 | exact gdAnd (by assumption) (gdT hp7) | exact gdAnd (by assumption) (gdF hp7))))) ?_
  refine AL_nil ?_
  refine AC_cond (AEv.tmp rfl) (fun hb8 => ?_) (fun hb8 => ?_)
  · simp at hb8; done
  · try simp only [Bool.and_eq_true, Bool.or_eq_true, Bool.not_eq_true', Bool.not_eq_false', Bool.and_eq_false_iff, Bool.or_eq_false_iff, decide_eq_true_eq, decide_eq_false_iff_not, gd] at hb8
    refine AC_skip ?_
    refine AC_seq ?_
    refine AC_region ?_
    refine AL_p rfl rfl (S_move rfl (AEv.tmp rfl)) ?_
    refine AL_p rfl rfl (S_typeOf rfl (AEv.tmp rfl) x30 t27) ?_
    refine AL_p rfl rfl (S_invL (ys := []) (vals := []) rfl (AEv.tmp rfl) AEvs.nil (mComp 27) x64 c27) ?_
    refine AL_p rfl rfl (S_assign rfl (AEv.tmp rfl)) ?_
    refine AL_nil ?_
    refine AC_seq ?_
    refine AC_region ?_
    refine AL_p rfl rfl (S_move rfl (AEv.tmp rfl)) ?_
    refine AL_p rfl rfl (S_move rfl (AEv.tmp rfl)) ?_
    refine AL_p rfl rfl (S_move rfl (AEv.tmp rfl)) ?_
    refine AL_p rfl rfl (S_pcall rfl (AEvs.cons (AEv.tmp rfl) (AEvs.cons (AEv.tmp rfl) (AEvs.cons (AEv.tmp rfl) AEvs.nil))) (errors_is_ok c d ps)) ?_
    refine AL_p rfl rfl (S_assign rfl (AEv.tmp rfl)) ?_
    refine AL_nil ?_
    refine AC_ret ?_
    refine ret_tmp st rfl rfl (Sub.l (List.Sublist.refl _)) (Conv.refl (Sub.l (List.Sublist.refl _)) _) ⟨by first | rfl | (simp; done), rfl⟩ (.inl rfl)

set_option maxRecDepth 100000 in
/-- provost/fail.Has -/
theorem fail_Has_ok (e : Er) (d : Int) : PCalls Tryd.prog 19 [erV 27 49 e, .int .i64 d] (.bool (erHas e d)) := by
  intro st
  refine ACalls_of (N := 13) Tryd.func19 (by kernel_rfl) rfl rfl rfl ?_
  refine AC_seq ?_
  refine AC_region ?_
  refine AL_p rfl rfl (S_assign rfl (AEv.const _)) ?_
  refine AL_nil ?_
  refine AC_seq ?_
  refine AC_seq ?_
  refine AC_region ?_
  refine AL_p rfl rfl (S_move rfl (AEv.tmp rfl)) ?_
  refine AL_p rfl rfl (S_eqlE (er_is 27 49 e) rfl (AEv.tmp rfl) (by kernel_rfl)) ?_
  refine AL_nil ?_
  refine AC_cond (AEv.tmp rfl) (fun hb1 => ?_) (fun hb1 => ?_)
  · try simp only [Bool.and_eq_true, Bool.or_eq_true, Bool.not_eq_true', Bool.not_eq_false', Bool.and_eq_false_iff, Bool.or_eq_false_iff, decide_eq_true_eq, decide_eq_false_iff_not, gd] at hb1
    obtain rfl : e = none := by cases e with | none => rfl | some x => simp at hb1
    refine AC_seq ?_
    refine AC_region ?_
    refine AL_p rfl rfl (S_move rfl (AEv.tmp rfl)) ?_
    refine AL_p rfl rfl (S_eql rfl (AEv.tmp rfl) (AEv.const _)) ?_
    refine AL_p rfl rfl (S_assign rfl (AEv.tmp rfl)) ?_
    refine AL_nil ?_
    refine AC_ret ?_
    refine ret_tmp st rfl rfl (Sub.l (List.Sublist.refl _)) (Conv.refl (Sub.l (List.Sublist.refl _)) _) ⟨rfl, rfl⟩ (.inl rfl)
  · try simp only [Bool.and_eq_true, Bool.or_eq_true, Bool.not_eq_true', Bool.not_eq_false', Bool.and_eq_false_iff, Bool.or_eq_false_iff, decide_eq_true_eq, decide_eq_false_iff_not, gd] at hb1
    obtain ⟨⟨c, ps⟩, rfl⟩ : ∃ x, e = some x := by cases e with | none => simp at hb1 | some x => exact ⟨x, rfl⟩
    refine AC_skip ?_
    refine AC_seq ?_
    refine AC_region ?_
    refine AL_p rfl rfl (S_move rfl (AEv.tmp rfl)) ?_
    refine AL_p rfl rfl (S_move rfl (AEv.tmp rfl)) ?_
    refine AL_p rfl rfl (S_ifc (T2 := 0) rfl (AEv.tmp rfl) (by kernel_rfl)) ?_
    refine AL_p rfl rfl (S_pcall rfl (AEvs.cons (AEv.tmp rfl) (AEvs.cons (AEv.tmp rfl) AEvs.nil)) (errors_Is_ok c d ps)) ?_
    refine AL_p rfl rfl (S_assign rfl (AEv.tmp rfl)) ?_
    refine AL_nil ?_
    refine AC_ret ?_
    refine ret_tmp st rfl rfl (Sub.l (List.Sublist.refl _)) (Conv.refl (Sub.l (List.Sublist.refl _)) _) ⟨rfl, rfl⟩ (.inl rfl)

set_option maxRecDepth 100000 in
/-- provost/fail.First -/
theorem fail_First_ok (es : List Er) (hes : es.length ≤ 9223372036854775807) : PCalls Tryd.prog 7 [.sl (ersV 27 49 es)] (erV 27 49 (firstE es)) := by
  intro st
  refine ACalls_of (N := 15) Tryd.func7 (by kernel_rfl) rfl rfl rfl ?_
  have hel : (ersV 27 49 es).length = es.length := by simp [ersV]
  refine AC_seq ?_
  refine AC_region ?_
  refine AL_p rfl rfl (S_assign rfl (AEv.const _)) ?_
  refine AL_nil ?_
  refine AC_seq ?_
  refine AC_seq ?_
  refine AC_region ?_
  refine AL_p rfl rfl (S_move rfl (AEv.tmp rfl)) ?_
  refine AL_p rfl rfl (S_len (e := 24) rfl (AEv.tmp rfl) (by kernel_rfl)) ?_
  refine AL_p rfl rfl (S_move rfl (AEv.const _)) ?_
  refine AL_nil ?_
  refine AC_block ?_
  refine AC_loop (G := Nat) (fun i => i ≤ es.length ∧ firstE es = firstE (es.drop i)) (fun i => [(5, .sl (ersV 27 49 es)), (6, .int .i64 ((ersV 27 49 es).length : Int)), (7, .int .i64 (i : Int))]) (fun i => st) (fun i => es.length - i) (0) (⟨by simp, rfl⟩) rfl ?_ ?_
  · exact .cons rfl (Le.refl _) (.cons rfl (Le.refl _) (.cons rfl (Le.refl _) .nil))
  · rintro i ⟨hi, hf⟩
    try dsimp only
    refine AC_seq ?_
    refine AC_region ?_
    refine AL_p rfl rfl (S_lss rfl (AEv.tmp rfl) (AEv.tmp rfl)) ?_
    refine AL_nil ?_
    refine AC_seq ?_
    refine AC_cond (AEv.tmp rfl) (fun hb1 => ?_) (fun hb1 => ?_)
    · try simp only [Bool.and_eq_true, Bool.or_eq_true, Bool.not_eq_true', Bool.not_eq_false', Bool.and_eq_false_iff, Bool.or_eq_false_iff, decide_eq_true_eq, decide_eq_false_iff_not, gd] at hb1
      have hil : i < es.length := by omega
      refine AC_skip ?_
      refine AC_seq ?_
      refine AC_block ?_
      refine AC_seq ?_
      refine AC_region ?_
      refine AL_p rfl rfl ((S_elem (e := 24) (c := erV 27 49 (es[i]'hil)) (i := (i : Int)) 1 rfl (AEv.tmp rfl) (AEv.tmp rfl) (by kernel_rfl) (by kernel_rfl) (by omega) (by simp [ersV, hil]) (by rw [er_cells]; rfl)).ofV (congrArg AV.ip (er_cells _ _ _))) ?_
      refine AL_p rfl rfl (S_loadP rfl (AEv.tmp rfl) rfl (by kernel_rfl)) ?_
      refine AL_p rfl rfl (S_assign rfl (AEv.tmp rfl)) ?_
      refine AL_nil ?_
      refine AC_seq ?_
      refine AC_region ?_
      refine AL_p rfl rfl (S_move rfl (AEv.tmp rfl)) ?_
      refine AL_p rfl rfl (S_neqE (er_is 27 49 (es[i]'hil)) rfl (AEv.tmp rfl) (by kernel_rfl)) ?_
      refine AL_nil ?_
      refine AC_cond (AEv.tmp rfl) (fun hb2 => ?_) (fun hb2 => ?_)
      · try simp only [Bool.and_eq_true, Bool.or_eq_true, Bool.not_eq_true', Bool.not_eq_false', Bool.and_eq_false_iff, Bool.or_eq_false_iff, decide_eq_true_eq, decide_eq_false_iff_not, gd] at hb2
        obtain ⟨x, hin⟩ : ∃ x, es[i]'hil = some x := by cases h : es[i]'hil with | none => rw [h] at hb2; simp at hb2 | some x => exact ⟨x, rfl⟩
        refine AC_seq ?_
        refine AC_region ?_
        refine AL_p rfl rfl (S_move rfl (AEv.tmp rfl)) ?_
        refine AL_p rfl rfl (S_assign rfl (AEv.tmp rfl)) ?_
        refine AL_nil ?_
        refine AC_ret ?_
        refine ret_tmp st rfl rfl (Sub.l (List.Sublist.refl _)) (Conv.refl (Sub.l (List.Sublist.refl _)) _) ⟨by rw [hf, first_some hil hin, hin], rfl⟩ (.inl rfl)
      · try simp only [Bool.and_eq_true, Bool.or_eq_true, Bool.not_eq_true', Bool.not_eq_false', Bool.and_eq_false_iff, Bool.or_eq_false_iff, decide_eq_true_eq, decide_eq_false_iff_not, gd] at hb2
        have hin : es[i]'hil = none := by cases h : es[i]'hil with | none => rfl | some x => rw [h] at hb2; simp at hb2
        refine AC_skip ?_
        refine AC_region ?_
        refine AL_p rfl rfl (S_addI rfl (AEv.tmp rfl) (AEv.const _) (by omega) (by omega)) ?_
        refine AL_p rfl rfl (S_move rfl (AEv.tmp rfl)) ?_
        refine AL_nil ?_
        refine ⟨i + 1, ⟨by omega, by rw [hf, first_none hil hin]⟩, by omega, rfl, .cons rfl (Le.refl _) (.cons rfl (Le.refl _) (.cons rfl (Le.of_eq (by rw [Int.natCast_add]; rfl)) .nil))⟩
    · try simp only [Bool.and_eq_true, Bool.or_eq_true, Bool.not_eq_true', Bool.not_eq_false', Bool.and_eq_false_iff, Bool.or_eq_false_iff, decide_eq_true_eq, decide_eq_false_iff_not, gd] at hb1
      have hi2 : es.drop i = [] := List.drop_of_length_le (by omega)
      refine AC_exit ?_
      refine AC_seq ?_
      refine AC_region ?_
      refine AL_p rfl rfl (S_assign rfl (AEv.const _)) ?_
      refine AL_nil ?_
      refine AC_ret ?_
      refine ret_tmp st rfl rfl (Sub.l (List.Sublist.refl _)) (Conv.refl (Sub.l (List.Sublist.refl _)) _) ⟨by rw [hf, hi2]; rfl, rfl⟩ (.inl rfl)

set_option maxRecDepth 100000 in
/-- provost/fail.New -/
theorem fail_New_ok (c : Int) (ps : List (List UInt8)) (hl : ps.length ≤ 9223372036854775807) : PCalls Tryd.prog 8 [.int .i64 c, .sl (strsV ps)] (erV 27 49 (erNew c ps)) := by
  intro st
  refine ACalls_of (N := 25) Tryd.func8 (by kernel_rfl) rfl rfl rfl ?_
  have hpl := strsV_len ps
  refine AC_seq ?_
  refine AC_region ?_
  refine AL_p rfl rfl (S_assign rfl (AEv.const _)) ?_
  refine AL_nil ?_
  refine AC_seq ?_
  refine AC_seq ?_
  refine AC_region ?_
  refine AL_p rfl rfl (S_move rfl (AEv.tmp rfl)) ?_
  refine AL_p rfl rfl (S_eql rfl (AEv.tmp rfl) (AEv.const _)) ?_
  refine AL_nil ?_
  refine AC_cond (AEv.tmp rfl) (fun hb1 => ?_) (fun hb1 => ?_)
  · try simp only [Bool.and_eq_true, Bool.or_eq_true, Bool.not_eq_true', Bool.not_eq_false', Bool.and_eq_false_iff, Bool.or_eq_false_iff, decide_eq_true_eq, decide_eq_false_iff_not, gd] at hb1
    have hc0 : c = 0 := by omega
    refine AC_seq ?_
    refine AC_region ?_
    refine AL_p rfl rfl (S_assign rfl (AEv.const _)) ?_
    refine AL_nil ?_
    refine AC_ret ?_
    refine ret_tmp st rfl rfl (Sub.l (List.Sublist.refl _)) (Conv.refl (Sub.l (List.Sublist.refl _)) _) ⟨by rw [erNew_none hc0]; rfl, rfl⟩ (.inl rfl)
  · try simp only [Bool.and_eq_true, Bool.or_eq_true, Bool.not_eq_true', Bool.not_eq_false', Bool.and_eq_false_iff, Bool.or_eq_false_iff, decide_eq_true_eq, decide_eq_false_iff_not, gd] at hb1
    have hc0 : c ≠ 0 := by omega
    refine AC_skip ?_
    refine AC_seq ?_
    refine AC_region ?_
    refine AL_p rfl rfl (S_move rfl (AEv.tmp rfl)) ?_
    refine AL_p rfl rfl (S_ifc (T2 := 0) rfl (AEv.tmp rfl) (by kernel_rfl)) ?_
    refine AL_p rfl rfl (S_assign rfl (AEv.tmp rfl)) ?_
    refine AL_nil ?_
    refine AC_seq ?_
    refine AC_seq ?_
    refine AC_region ?_
    refine AL_p rfl rfl (S_move rfl (AEv.tmp rfl)) ?_
    refine AL_p rfl rfl (S_len (e := 9) rfl (AEv.tmp rfl) (by kernel_rfl)) ?_
    refine AL_p rfl rfl (S_subI rfl (AEv.tmp rfl) (AEv.const _) (by omega) (by omega)) ?_
    refine AL_p rfl rfl (S_assign rfl (AEv.tmp rfl)) ?_
    refine AL_nil ?_
    refine AC_block ?_
    refine AC_loop (G := Nat) (fun n => n ≤ ps.length) (fun n => [(1, .sl (strsV ps)), (5, erV 27 49 (some (c, ps.drop n))), (6, .int .i64 ((n : Int) - 1))]) (fun n => st) (fun n => n) (ps.length) (Nat.le_refl _) rfl ?_ ?_
    · exact .cons rfl (Le.refl _) (.cons rfl (Le.of_eq (by rw [List.drop_length]; rfl)) (.cons rfl (Le.of_eq (by rw [hpl])) .nil))
    · rintro n hn
      try dsimp only
      refine AC_seq ?_
      refine AC_seq ?_
      refine AC_region ?_
      refine AL_p rfl rfl (S_move rfl (AEv.tmp rfl)) ?_
      refine AL_p rfl rfl (S_geq rfl (AEv.tmp rfl) (AEv.const _)) ?_
      refine AL_nil ?_
      refine AC_cond (AEv.tmp rfl) (fun hb2 => ?_) (fun hb2 => ?_)
      · try simp only [Bool.and_eq_true, Bool.or_eq_true, Bool.not_eq_true', Bool.not_eq_false', Bool.and_eq_false_iff, Bool.or_eq_false_iff, decide_eq_true_eq, decide_eq_false_iff_not, gd] at hb2
        obtain ⟨k, rfl⟩ : ∃ k, n = k + 1 := ⟨n - 1, by omega⟩
        have hil : k < ps.length := by omega
        refine AC_skip ?_
        refine AC_seq ?_
        refine AC_block ?_
        refine AC_region ?_
        refine AL_p rfl rfl (S_move rfl (AEv.tmp rfl)) ?_
        refine AL_p rfl rfl (S_move rfl (AEv.tmp rfl)) ?_
        refine AL_p rfl rfl (S_move rfl (AEv.tmp rfl)) ?_
        refine AL_p rfl rfl (S_elem (e := 9) (c := .S (ps[k]'hil)) (i := ((k + 1 : Nat) : Int) - 1) 1 rfl (AEv.tmp rfl) (AEv.tmp rfl) (by kernel_rfl) (by kernel_rfl) (by omega) (by simp [strsV, hil]) rfl) ?_
        refine AL_p rfl rfl (S_loadP rfl (AEv.tmp rfl) rfl (by kernel_rfl)) ?_
        refine AL_p rfl rfl (S_pcall rfl (AEvs.cons (AEv.tmp rfl) (AEvs.cons (AEv.tmp rfl) AEvs.nil)) (fail_In_ok (some (c, ps.drop (k + 1))) (ps[k]'hil))) ?_
        refine AL_p rfl rfl (S_assign rfl (AEv.tmp rfl)) ?_
        refine AL_nil ?_
        refine AC_region ?_
        refine AL_p rfl rfl (S_move rfl (AEv.tmp rfl)) ?_
        refine AL_p rfl rfl (S_subI rfl (AEv.tmp rfl) (AEv.const _) (by omega) (by omega)) ?_
        refine AL_p rfl rfl (S_assign rfl (AEv.tmp rfl)) ?_
        refine AL_nil ?_
        refine ⟨k, by omega, by omega, rfl, .cons rfl (Le.refl _) (.cons rfl (Le.of_eq (by rw [List.drop_eq_getElem_cons hil]; rfl)) (.cons rfl (Le.of_eq (by rw [show ((k + 1 : Nat) : Int) - 1 - 1 = (k : Int) - 1 by omega])) .nil))⟩
      · try simp only [Bool.and_eq_true, Bool.or_eq_true, Bool.not_eq_true', Bool.not_eq_false', Bool.and_eq_false_iff, Bool.or_eq_false_iff, decide_eq_true_eq, decide_eq_false_iff_not, gd] at hb2
        obtain rfl : n = 0 := by omega
        refine AC_exit ?_
        refine AC_seq ?_
        refine AC_region ?_
        refine AL_p rfl rfl (S_move rfl (AEv.tmp rfl)) ?_
        refine AL_p rfl rfl (S_assign rfl (AEv.tmp rfl)) ?_
        refine AL_nil ?_
        refine AC_ret ?_
        refine ret_tmp st rfl rfl (Sub.l (List.Sublist.refl _)) (Conv.refl (Sub.l (List.Sublist.refl _)) _) ⟨by rw [erNew_some hc0]; rfl, rfl⟩ (.inl rfl)

end Go.Proofs.YtemlgeljgnmfeaaDoor
