/-
The walks of Go functions in the logic AL: what each of them answers.
Conditions: those of each theorem.
-/
import Derived.Test.YtemlgeljgnmfeaaDoorFail02f
import Derived.Test.YtemlgeljgnmfeaaDoorAlVec1
set_option linter.unusedVariables false
set_option linter.unusedSimpArgs false
namespace Go.Proofs.YtemlgeljgnmfeaaDoor
open Go.AL Go.NumSpec

set_option maxRecDepth 100000 in
/-- provost/fail.Path -/
theorem fail_Path2_ok (e : Er) (he : (erPath e).length ≤ 1000000) (st : St) (hF : (0, Ob.konst [ty 24]) ∈ st) : ACalls Tryd.prog 13 [erV 27 49 e] st (fun x st' => ∃ q : Vec, q.ok (strsV (erPath e)) ∧ x = .lit (vecV q (strsV (erPath e)).length) ∧ st' = vst q (strsV (erPath e)) ++ st) := by
  refine ACalls_of (N := 20) Tryd.func13 (by kernel_rfl) rfl rfl rfl ?_
  refine AC_seq ?_
  refine AC_region ?_
  refine AL_p rfl rfl (S_assign rfl (AEv.const _)) ?_
  refine AL_nil ?_
  refine AC_seq ?_
  refine AC_region ?_
  refine AL_p rfl rfl (S_assign rfl (AEv.const _)) ?_
  refine AL_nil ?_
  refine AC_seq ?_
  refine AC_region ?_
  refine AL_step rfl rfl (S_alloc [.pointer none] rfl (by kernel_rfl)) ?_
  rintro _ _ ⟨b1, rfl, rfl⟩
  refine AL_nil ?_
  refine AC_seq ?_
  refine AC_block ?_
  refine AC_loopS (G := Er × List (List UInt8) × Vec × AV) (fun g => erPath e = g.2.1 ++ erPath g.1 ∧ g.2.2.1.ok (strsV g.2.1) ∧ ∀ A, g.2.2.1 ≠ .emp A) (fun g => [(0, erV 27 49 g.1), (3, .lit (vecV g.2.2.1 (strsV g.2.1).length)), (4, .ptr b1 0)]) (fun g => (b1, .cells [g.2.2.2]) :: (vst g.2.2.1 (strsV g.2.1) ++ st)) (fun g => (erPath g.1).length) ((e, [], .nil, .lit (.pointer none))) (⟨rfl, rfl, fun A h => by cases h⟩) (Sub.l (List.Sublist.refl _)) ?_ ?_
  · exact .cons rfl (Le.refl _) (.cons rfl (Le.refl _) (.cons rfl (Le.refl _) .nil))
  · rintro ⟨e1, done, p, Y⟩ ⟨hpath, hp, hp2⟩
    try dsimp only
    dsimp only at hpath hp hp2
    refine AC_seq ?_
    refine AC_seq ?_
    refine AC_region ?_
    refine AL_p rfl rfl (S_move rfl (AEv.tmp rfl)) ?_
    refine AL_p rfl rfl (S_ifc (T2 := 0) rfl (AEv.tmp rfl) (by kernel_rfl)) ?_
    refine AL_step rfl rfl (S_call rfl (AEvs.cons (AEv.tmp rfl) (AEvs.cons (AEv.tmp rfl) AEvs.nil)) (errors_As_step e1 b1 Y (vst p (strsV done) ++ st) (List.mem_append_right _ hF))) ?_
    rintro _ _ ⟨_, ⟨rfl, rfl⟩, rfl⟩
    refine AL_nil ?_
    refine AC_cond (AEv.tmp rfl) (fun hb2 => ?_) (fun hb2 => ?_)
    · try simp only [Bool.and_eq_true, Bool.or_eq_true, Bool.not_eq_true', Bool.not_eq_false', Bool.and_eq_false_iff, Bool.or_eq_false_iff, decide_eq_true_eq, decide_eq_false_iff_not, gd] at hb2
      obtain ⟨c1, p1, ps1, rfl⟩ : ∃ c1 p1 ps1, e1 = some (c1, p1 :: ps1) := by
        rcases e1 with _ | ⟨c1, _ | ⟨p1, ps1⟩⟩
        · simp [stepB] at hb2
        · simp [stepB] at hb2
        · exact ⟨c1, p1, ps1, rfl⟩
      have hlen : (strsV done).length = done.length := strsV_len done
      have hle := congrArg List.length hpath
      rw [List.length_append] at hle
      have hsd : strsV (done ++ [p1]) = strsV done ++ [.S p1] := by simp [strsV]
      refine AC_skip ?_
      refine AC_block ?_
      refine AC_seq ?_
      refine AC_region ?_
      refine AL_p rfl rfl (S_move rfl (AEv.tmp rfl)) ?_
      refine AL_p rfl rfl (S_load 0 rfl (AEv.tmp rfl) rfl rfl (by kernel_rfl)) ?_
      refine AL_p rfl rfl (S_nilCheckP rfl (AEv.tmp rfl)) ?_
      refine AL_p rfl rfl (S_fieldP 0 rfl (AEv.tmp rfl) (by kernel_rfl)) ?_
      refine AL_p rfl rfl (S_loadP rfl (AEv.tmp rfl) rfl (by kernel_rfl)) ?_
      refine AL_p rfl rfl (S_buildSlice (e := 9) 1 rfl (AEvs.cons (AEv.tmp rfl) AEvs.nil) rfl (by kernel_rfl) (by kernel_rfl) (by simp [AV.flat, AV.one, AV.cells, Value.oneCell']) (by decide) (by decide) (by decide)) ?_
      refine AL_step rfl rfl (S_appendV1 (e := 9) (bytes := 16) (q := p) (xs := strsV done) [_] st rfl (AEv.tmp rfl) (AEv.tmp rfl) rfl hp hp2 (by kernel_rfl) rfl rfl (by omega) (by omega)) ?_
      rintro _ _ ⟨b9, cap9, hc9, rfl, rfl⟩
      refine AL_p rfl rfl (S_assign rfl (AEv.tmp rfl)) ?_
      refine AL_nil ?_
      refine AC_region ?_
      refine AL_p rfl rfl (S_load 0 rfl (AEv.tmp rfl) rfl rfl (by kernel_rfl)) ?_
      refine AL_p rfl rfl (S_nilCheckP rfl (AEv.tmp rfl)) ?_
      refine AL_p rfl rfl (S_fieldP 1 rfl (AEv.tmp rfl) (by kernel_rfl)) ?_
      refine AL_p rfl rfl (S_loadP rfl (AEv.tmp rfl) rfl (by kernel_rfl)) ?_
      refine AL_p rfl rfl (S_assign rfl (AEv.tmp rfl)) ?_
      refine AL_nil ?_
      refine ⟨(some (c1, ps1), done ++ [p1], .at b9 cap9, _), ⟨by dsimp only; rw [hpath]; simp [erPath], by dsimp only; rw [hsd]; exact hc9, fun A h => by cases h⟩, by simp [erPath], by dsimp only; rw [hsd]; exact Sub.l (List.Sublist.refl _), .cons rfl (Le.refl _) (.cons rfl (Le.of_eq (by dsimp only; rw [hsd]; rfl)) (.cons rfl (Le.refl _) .nil))⟩
    · try simp only [Bool.and_eq_true, Bool.or_eq_true, Bool.not_eq_true', Bool.not_eq_false', Bool.and_eq_false_iff, Bool.or_eq_false_iff, decide_eq_true_eq, decide_eq_false_iff_not, gd] at hb2
      have hend : erPath e1 = [] := by
        rcases e1 with _ | ⟨c1, _ | ⟨p1, ps1⟩⟩
        · rfl
        · rfl
        · simp [stepB] at hb2
      rw [hend, List.append_nil] at hpath
      refine AC_exit ?_
      refine AC_seq ?_
      refine AC_region ?_
      refine AL_p rfl rfl (S_move rfl (AEv.tmp rfl)) ?_
      refine AL_p rfl rfl (S_assign rfl (AEv.tmp rfl)) ?_
      refine AL_nil ?_
      refine AC_ret ?_
      refine ret_tmp (vst p (strsV (erPath e)) ++ st) rfl rfl (by rw [hpath]; exact Sub.l (List.Sublist.cons _ (List.Sublist.refl _))) (Conv.lits _) ⟨p, by rw [hpath]; exact hp, by rw [hpath], rfl⟩ (.inl rfl)

set_option maxRecDepth 100000 in
/-- provost/provostbook.SpoilTexts -/
theorem book_Spoil_at (b cap : Nat) (xs : List (List UInt8)) (hq : (strsV xs).length ≤ cap) (hx : xs.length ≤ 1000000) (F : St) : ACalls Tryd.prog 18 [vec1V b cap (strsV xs)] ((b, .cells (vec1C cap (strsV xs))) :: F) (fun x st' => x = .tup [] ∧ ∃ Z, st' = Z ++ F) := by
  refine ACalls_of (N := 12) Tryd.func18 (by kernel_rfl) rfl rfl rfl ?_
  have hxl := strsV_len xs
  refine AC_seq ?_
  refine AC_region ?_
  refine AL_p rfl rfl (S_move rfl (AEv.tmp rfl)) ?_
  refine AL_p rfl rfl (S_lenO (e := 9) rfl (AEv.tmp rfl) (by kernel_rfl)) ?_
  refine AL_p rfl rfl (S_move rfl (AEv.const _)) ?_
  refine AL_nil ?_
  refine AC_block ?_
  refine AC_loop (G := Nat × List AV) (fun g => g.1 ≤ (strsV xs).length ∧ g.2.length = cap) (fun g => [(0, vec1V b cap (strsV xs)), (3, vec1V b cap (strsV xs)), (4, .int .i64 ((strsV xs).length : Int)), (5, .int .i64 (g.1 : Int))]) (fun g => ((b, .cells g.2) :: F)) (fun g => (strsV xs).length - g.1) ((0, vec1C cap (strsV xs))) (⟨Nat.zero_le _, vec1C_len hq⟩) rfl ?_ ?_
  · exact .cons rfl (Le.refl _) (.cons rfl (Le.refl _) (.cons rfl (Le.refl _) (.cons rfl (Le.refl _) .nil)))
  · rintro ⟨i, cs⟩ ⟨hi, hcs⟩
    try dsimp only
    dsimp only at hi hcs
    refine AC_seq ?_
    refine AC_region ?_
    refine AL_p rfl rfl (S_lss rfl (AEv.tmp rfl) (AEv.tmp rfl)) ?_
    refine AL_nil ?_
    refine AC_seq ?_
    refine AC_cond (AEv.tmp rfl) (fun hb1 => ?_) (fun hb1 => ?_)
    · try simp only [Bool.and_eq_true, Bool.or_eq_true, Bool.not_eq_true', Bool.not_eq_false', Bool.and_eq_false_iff, Bool.or_eq_false_iff, decide_eq_true_eq, decide_eq_false_iff_not, gd] at hb1
      refine AC_skip ?_
      refine AC_seq ?_
      refine AC_block ?_
      refine AC_seq ?_
      refine AC_region ?_
      refine AL_p rfl rfl (S_move rfl (AEv.tmp rfl)) ?_
      refine AL_p rfl rfl (S_assign rfl (AEv.tmp rfl)) ?_
      refine AL_nil ?_
      refine AC_region ?_
      refine AL_p rfl rfl (S_move rfl (AEv.tmp rfl)) ?_
      refine AL_p rfl rfl (S_move rfl (AEv.tmp rfl)) ?_
      refine AL_p rfl rfl (S_elemO (e := 9) 1 rfl (AEv.tmp rfl) (AEv.tmp rfl) (by kernel_rfl) (by kernel_rfl) (by omega) (by omega)) ?_
      refine AL_step rfl rfl (S_store 0 rfl (AEv.tmp rfl) (AEv.S _) rfl (by rw [hcs]; omega) rfl (by kernel_rfl)) ?_
      rintro _ _ ⟨rfl, rfl⟩
      refine AL_nil ?_
      refine AC_region ?_
      refine AL_p rfl rfl (S_addI rfl (AEv.tmp rfl) (AEv.const _) (by omega) (by omega)) ?_
      refine AL_p rfl rfl (S_move rfl (AEv.tmp rfl)) ?_
      refine AL_nil ?_
      refine ⟨(i + 1, _), ⟨by dsimp only; omega, by dsimp only; rw [List.length_set]; exact hcs⟩, by dsimp only; omega, rfl, .cons rfl (Le.refl _) (.cons rfl (Le.refl _) (.cons rfl (Le.refl _) (.cons rfl (Le.of_eq (by dsimp only; rw [Int.natCast_add]; rfl)) .nil)))⟩
    · try simp only [Bool.and_eq_true, Bool.or_eq_true, Bool.not_eq_true', Bool.not_eq_false', Bool.and_eq_false_iff, Bool.or_eq_false_iff, decide_eq_true_eq, decide_eq_false_iff_not, gd] at hb1
      refine AC_exit ?_
      refine ret_none ([(b, Ob.cells cs)] ++ F) rfl (Sub.l (List.Sublist.refl _)) ⟨rfl, _, rfl⟩ (.inr rfl)

end Go.Proofs.YtemlgeljgnmfeaaDoor
