/-
The walks of Go functions in the logic AL: what each of them answers.
Conditions: those of each theorem.
-/
import Derived.Test.YtemlgeljgnmfeaaDoorFail02g
import Derived.Test.YtemlgeljgnmfeaaDoorFailLem3
import Derived.Test.YtemlgeljgnmfeaaDoorFailBulk
set_option linter.unusedVariables false
set_option linter.unusedSimpArgs false
namespace Go.Proofs.YtemlgeljgnmfeaaDoor
open Go.AL Go.NumSpec

set_option maxRecDepth 100000 in
/-- provost/provostbook.SpoilTexts -/
theorem book_Spoil_nil (A : Option Addr) : PCalls Tryd.prog 18 [.lit (.slice A 0 0)] (.tup []) := by
  intro st
  refine ACalls_of (N := 12) Tryd.func18 (by kernel_rfl) rfl rfl rfl ?_
  refine AC_seq ?_
  refine AC_region ?_
  refine AL_p rfl rfl (S_move rfl (AEv.tmp rfl)) ?_
  refine AL_p rfl rfl (S_lenO (e := 9) rfl (AEv.tmp rfl) (by kernel_rfl)) ?_
  refine AL_p rfl rfl (S_move rfl (AEv.const _)) ?_
  refine AL_nil ?_
  refine AC_block ?_
  refine AC_loop (G := Unit) (fun _ => True) (fun g => [(4, .int .i64 0), (5, .int .i64 0)]) (fun g => st) (fun g => 0) (()) (trivial) rfl ?_ ?_
  · exact .cons rfl (Le.refl _) (.cons rfl (Le.refl _) .nil)
  · rintro _ _
    try dsimp only
    refine AC_seq ?_
    refine AC_region ?_
    refine AL_p rfl rfl (S_lss rfl (AEv.tmp rfl) (AEv.tmp rfl)) ?_
    refine AL_nil ?_
    refine AC_seq ?_
    refine AC_cond (AEv.tmp rfl) (fun hb1 => ?_) (fun hb1 => ?_)
    · simp at hb1; done
    · try simp only [Bool.and_eq_true, Bool.or_eq_true, Bool.not_eq_true', Bool.not_eq_false', Bool.and_eq_false_iff, Bool.or_eq_false_iff, decide_eq_true_eq, decide_eq_false_iff_not, gd] at hb1
      refine AC_exit ?_
      refine ret_none st rfl (Sub.l (List.Sublist.refl _)) ⟨rfl, rfl⟩ (.inr rfl)

theorem book_Spoil_ok (q : Vec) (xs : List (List UInt8)) (hq : q.ok (strsV xs)) (hx : xs.length ≤ 1000000) (F : St) : ACalls Tryd.prog 18 [.lit (vecV q (strsV xs).length)] (vst q (strsV xs) ++ F) (fun x st' => x = .tup [] ∧ ∃ Z, st' = Z ++ F) := by
  cases q with
  | «at» b cap => exact book_Spoil_at b cap xs hq hx F
  | nil => exact (book_Spoil_nil none F).mono fun x st' ⟨h1, h2⟩ => ⟨h1, [], h2⟩
  | emp A => exact (book_Spoil_nil (some A) F).mono fun x st' ⟨h1, h2⟩ => ⟨h1, [], h2⟩

set_option maxRecDepth 100000 in
set_option maxHeartbeats 4000000 in
/-- provost/provostlaw02.FailTells -/
theorem law_FailTells (c0 c1 : Int) (at_ ar : List (List UInt8)) (hj : (Lib.join (erPath (ar.foldl erIn (erNew c0 at_))) [46]).length ≤ 140737488355328) : GCalls Tryd.prog tabs 5 [.agg (intsV [c0, c1]), .sl (strsV at_), .sl (strsV ar)] (.bool true) := by
  intro st hG
  refine ACalls_of (N := 105) Tryd.func5 (by kernel_rfl) rfl rfl rfl ?_
  have hal := strsV_len at_
  have hrl := strsV_len ar
  refine AC_seq ?_
  refine AC_region ?_
  refine AL_step rfl rfl (S_box rfl (AEv.tmp rfl)) ?_
  rintro _ _ ⟨b1, rfl, rfl⟩
  refine AL_p rfl rfl (S_assign rfl (AEv.const _)) ?_
  refine AL_nil ?_
  refine AC_seq ?_
  refine AC_seq ?_
  refine AC_region ?_
  refine AL_p rfl rfl (S_move rfl (AEv.tmp rfl)) ?_
  refine AL_p rfl rfl (S_len (e := 9) rfl (AEv.tmp rfl) (by kernel_rfl)) ?_
  refine AL_p rfl rfl (S_gtr rfl (AEv.tmp rfl) (AEv.const _)) ?_
  refine AL_p rfl rfl (S_move rfl (AEv.tmp rfl)) ?_
  refine AL_g rfl rfl (AEv.tmp rfl) rfl (fun hg2 => S_move rfl (AEv.tmp rfl)) ?_
  refine AL_g rfl rfl (AEv.tmp rfl) rfl (fun hg5 => S_len (e := 9) rfl (AEv.cond (AEv.tmp rfl) (by first | assumption | exact gdAnd (by assumption) (by assumption))) (by kernel_rfl)) ?_
  refine AL_g rfl rfl (AEv.tmp rfl) rfl (fun hg8 => S_gtr rfl (AEv.cond (AEv.tmp rfl) (by first | assumption | exact gdAnd (by assumption) (by assumption))) (AEv.const _)) ?_
  refine AL_p rfl rfl (S_or rfl (AEv.tmp rfl) (fun hp11 => (AEv.cond (AEv.tmp rfl) (by first | assumption | exact gdT hp11 | exact gdF hp11 | exact gdAnd (by assumption) (gdT hp11) | exact gdAnd (by assumption) (gdF hp11))))) ?_
  refine AL_nil ?_
  refine AC_cond (AEv.tmp rfl) (fun hb12 => ?_) (fun hb12 => ?_)
  · try simp only [Bool.and_eq_true, Bool.or_eq_true, Bool.not_eq_true', Bool.not_eq_false', Bool.and_eq_false_iff, Bool.or_eq_false_iff, decide_eq_true_eq, decide_eq_false_iff_not, gd] at hb12
    refine AC_seq ?_
    refine AC_region ?_
    refine AL_p rfl rfl (S_gcall rfl AEvs.nil ((law_works) _ (fun p hp => by first | exact hG p hp | exact List.mem_append_right _ (List.mem_cons_of_mem _ (List.mem_cons_of_mem _ (hG p hp))) | exact List.mem_cons_of_mem _ (List.mem_cons_of_mem _ (hG p hp)) | exact List.mem_cons_of_mem _ (hG p hp)))) ?_
    refine AL_p rfl rfl (S_assign rfl (AEv.tmp rfl)) ?_
    refine AL_nil ?_
    refine AC_ret ?_
    refine ret_tmp st rfl rfl (Sub.l (List.Sublist.cons _ (List.Sublist.refl _))) (Conv.refl (Sub.l (List.Sublist.cons _ (List.Sublist.refl _))) _) ⟨rfl, rfl⟩ (.inl rfl)
  · try simp only [Bool.and_eq_true, Bool.or_eq_true, Bool.not_eq_true', Bool.not_eq_false', Bool.and_eq_false_iff, Bool.or_eq_false_iff, decide_eq_true_eq, decide_eq_false_iff_not, gd] at hb12
    have hbl : at_.length ≤ 50 ∧ ar.length ≤ 50 := by omega
    refine AC_skip ?_
    refine AC_seq ?_
    refine AC_draw (by kernel_rfl) (by kernel_rfl) (.cons rfl (Q_p rfl (S_elemA (e := 3) (len := 2) 1 rfl (AEv.tmp rfl) (AEv.const _) (by kernel_rfl) (by kernel_rfl) (by omega) (by omega))) <|
        .cons rfl (Q_p rfl (S_load 0 rfl (AEv.tmp rfl) rfl rfl (by kernel_rfl))) <|
        .cons rfl (Q_p rfl (S_elemA (e := 3) (len := 2) 1 rfl (AEv.tmp rfl) (AEv.const _) (by kernel_rfl) (by kernel_rfl) (by omega) (by omega))) <|
        .cons rfl (Q_p rfl (S_load 0 rfl (AEv.tmp rfl) rfl rfl (by kernel_rfl))) <|
        .cons rfl (Q_p rfl (S_assign rfl (AEv.tmp rfl))) <|
        .cons rfl (Q_p rfl (S_assign rfl (AEv.tmp rfl))) <|
        .nil) ?_
    refine AC_seq ?_
    refine AC_region ?_
    refine AL_p rfl rfl (S_move rfl (AEv.tmp rfl)) ?_
    refine AL_p rfl rfl (S_move rfl (AEv.tmp rfl)) ?_
    refine AL_p rfl rfl (S_pcall rfl (AEvs.cons (AEv.tmp rfl) (AEvs.cons (AEv.tmp rfl) AEvs.nil)) (fail_New_ok c0 at_ (by omega))) ?_
    refine AL_p rfl rfl (S_assign rfl (AEv.tmp rfl)) ?_
    refine AL_nil ?_
    refine AC_seq ?_
    refine AC_region ?_
    refine AL_p rfl rfl (S_move rfl (AEv.tmp rfl)) ?_
    refine AL_p rfl rfl (S_move rfl (AEv.tmp rfl)) ?_
    refine AL_p rfl rfl (S_pcall rfl (AEvs.cons (AEv.tmp rfl) (AEvs.cons (AEv.tmp rfl) AEvs.nil)) (ref02_New_ok c0 at_)) ?_
    refine AL_step rfl rfl (S_alloc [.int .i64 0, .slice none 0 0] rfl (by kernel_rfl)) ?_
    rintro _ _ ⟨b13, rfl, rfl⟩
    refine AL_step rfl rfl (S_storeN 0 rfl (AEv.tmp rfl) (AEv.tmp rfl) rfl (by first | exact Nat.le_of_ble_eq_true rfl | (simp; omega) | simp) (by first | rfl | simp [AV.one, Value.oneCell']) (by kernel_rfl)) ?_
    rintro _ _ ⟨rfl, rfl⟩
    refine AL_nil ?_
    refine AC_seq ?_
    refine AC_seq ?_
    refine AC_region ?_
    refine AL_p rfl rfl (S_assign rfl (AEv.const _)) ?_
    refine AL_nil ?_
    refine AC_block ?_
    refine AC_loop (G := Nat) (fun i => i ≤ ar.length) (fun i => [(2, .sl (strsV ar)), (7, .int .i64 c0), (8, .int .i64 c1), (9, erV 27 49 ((ar.take i).foldl erIn (erNew c0 at_))), (10, .ptr b13 0), (11, .int .i64 (i : Int))]) (fun i => (b13, .cells [.int .i64 (erCode ((ar.take i).foldl erIn (erNew c0 at_))), .sl (strsV (erPath ((ar.take i).foldl erIn (erNew c0 at_))))]) :: ((b1, .cells (intsV [c0, c1])) :: st)) (fun i => ar.length - i) (0) (Nat.zero_le _) rfl ?_ ?_
    · exact (.cons rfl (Le.refl _) (.cons rfl (Le.refl _) (.cons rfl (Le.refl _) (.cons rfl (Le.refl _) (.cons rfl (Le.refl _) (.cons rfl (Le.refl _) .nil))))))
    · rintro i hi
      try dsimp only
      refine AC_seq ?_
      refine AC_seq ?_
      refine AC_region ?_
      refine AL_p rfl rfl (S_move rfl (AEv.tmp rfl)) ?_
      refine AL_p rfl rfl (S_move rfl (AEv.tmp rfl)) ?_
      refine AL_p rfl rfl (S_len (e := 9) rfl (AEv.tmp rfl) (by kernel_rfl)) ?_
      refine AL_p rfl rfl (S_lss rfl (AEv.tmp rfl) (AEv.tmp rfl)) ?_
      refine AL_nil ?_
      refine AC_cond (AEv.tmp rfl) (fun hb14 => ?_) (fun hb14 => ?_)
      · try simp only [Bool.and_eq_true, Bool.or_eq_true, Bool.not_eq_true', Bool.not_eq_false', Bool.and_eq_false_iff, Bool.or_eq_false_iff, decide_eq_true_eq, decide_eq_false_iff_not, gd] at hb14
        have hil : i < ar.length := by omega
        have hp1 := fold_path (ar.take i) (erNew c0 at_)
        have hp2 := new_path c0 at_
        have hp3 : (ar.take i).length ≤ ar.length := by rw [List.length_take]; omega
        refine AC_skip ?_
        refine AC_seq ?_
        refine AC_block ?_
        refine AC_seq ?_
        refine AC_region ?_
        refine AL_p rfl rfl (S_move rfl (AEv.tmp rfl)) ?_
        refine AL_p rfl rfl (S_move rfl (AEv.tmp rfl)) ?_
        refine AL_p rfl rfl (S_move rfl (AEv.tmp rfl)) ?_
        refine AL_p rfl rfl (S_elem (e := 9) (c := .S (ar[i]'hil)) (i := (i : Int)) 1 rfl (AEv.tmp rfl) (AEv.tmp rfl) (by kernel_rfl) (by kernel_rfl) (by omega) (by simp [strsV, hil]) rfl) ?_
        refine AL_p rfl rfl (S_loadP rfl (AEv.tmp rfl) rfl (by kernel_rfl)) ?_
        refine AL_p rfl rfl (S_pcall rfl (AEvs.cons (AEv.tmp rfl) (AEvs.cons (AEv.tmp rfl) AEvs.nil)) (fail_In_ok ((ar.take i).foldl erIn (erNew c0 at_)) (ar[i]'hil))) ?_
        refine AL_p rfl rfl (S_assign rfl (AEv.tmp rfl)) ?_
        refine AL_nil ?_
        refine AC_plan (σ := [(0, 0), (1, 0), (2, 0), (3, 0), (4, 0), (5, 0), (6, 2)]) (by kernel_rfl) _ (by kernel_rfl) (fun _ h => h) ?_
        refine AG.f rfl rfl (fun st' hst => Q_p rfl (S_loadNM (m := 2) rfl (AEv.tmp rfl) (hst _ (List.mem_of_getElem? (i := 0) rfl)) (by kernel_rfl) (by first | exact Nat.le_of_ble_eq_true rfl | (simp; omega) | simp))) ?_
        refine AG.f rfl rfl (fun st' hst => Q_p rfl (S_move rfl (AEv.tmp rfl))) ?_
        refine AG.f rfl rfl (fun st' hst => Q_p rfl (S_move rfl (AEv.tmp rfl))) ?_
        refine AG.f rfl rfl (fun st' hst => Q_p rfl (S_elem (e := 9) (c := .S (ar[i]'hil)) (i := (i : Int)) 1 rfl (AEv.tmp rfl) (AEv.tmp rfl) (by kernel_rfl) (by kernel_rfl) (by omega) (by simp [strsV, hil]) rfl)) ?_
        refine AG.f rfl rfl (fun st' hst => Q_p rfl (S_loadP rfl (AEv.tmp rfl) rfl (by kernel_rfl))) ?_
        refine AG.f rfl rfl (fun st' hst => Q_p rfl (S_pcall rfl (AEvs.cons (y := refV ((ar.take i).foldl erIn (erNew c0 at_))) (AEv.tmp rfl) (AEvs.cons (AEv.tmp rfl) AEvs.nil)) (ref02_In_ok ((ar.take i).foldl erIn (erNew c0 at_)) (ar[i]'hil) (fold_well _ _ _) (by omega)))) ?_
        refine AG.h rfl rfl rfl (S_storeN 0 rfl (AEv.tmp rfl) (AEv.tmp rfl) rfl (by first | exact Nat.le_of_ble_eq_true rfl | (simp; omega) | simp) (by first | rfl | simp [AV.one, Value.oneCell']) (by kernel_rfl)) ?_
        rintro _ _ ⟨rfl, rfl⟩
        refine AG.nil ?_
        refine AC_region ?_
        refine AL_p rfl rfl (S_move rfl (AEv.tmp rfl)) ?_
        refine AL_p rfl rfl (S_addI rfl (AEv.tmp rfl) (AEv.const _) (by omega) (by omega)) ?_
        refine AL_p rfl rfl (S_assign rfl (AEv.tmp rfl)) ?_
        refine AL_nil ?_
        refine ⟨i + 1, by omega, by omega, by rw [fold_next hil]; rfl, .cons rfl (Le.refl _) (.cons rfl (Le.refl _) (.cons rfl (Le.refl _) (.cons rfl (Le.of_eq (by rw [fold_next hil])) (.cons rfl (Le.refl _) (.cons rfl (Le.of_eq (by rw [Int.natCast_add]; rfl)) .nil)))))⟩
      · try simp only [Bool.and_eq_true, Bool.or_eq_true, Bool.not_eq_true', Bool.not_eq_false', Bool.and_eq_false_iff, Bool.or_eq_false_iff, decide_eq_true_eq, decide_eq_false_iff_not, gd] at hb14
        have hall : ar.take i = ar := List.take_of_length_le (by omega)
        rw [hall]
        have hp1 := fold_path ar (erNew c0 at_)
        have hp2 := new_path c0 at_
        have hEp : (erPath (ar.foldl erIn (erNew c0 at_))).length ≤ 1000000 := by omega
        refine AC_exit ?_
        refine AC_seq ?_
        refine AC_region ?_
        refine AL_p rfl rfl (S_move rfl (AEv.tmp rfl)) ?_
        refine AL_step rfl rfl (S_call rfl (AEvs.cons (AEv.tmp rfl) AEvs.nil) (fail_Path2_ok (ar.foldl erIn (erNew c0 at_)) hEp _ (List.mem_cons_of_mem _ (List.mem_cons_of_mem _ (hG (0, .konst [ty 24]) List.mem_cons_self))))) ?_
        rintro _ _ ⟨q, hq, rfl, rfl⟩
        refine AL_p rfl rfl (S_assign rfl (AEv.tmp rfl)) ?_
        refine AL_nil ?_
        refine AC_seq ?_
        refine AC_draw (by kernel_rfl) (by kernel_rfl) (.cons rfl (Q_p rfl (S_move rfl (AEv.tmp rfl))) <|
            .cons rfl (Q_p rfl (S_eqlE (er_is 27 49 (ar.foldl erIn (erNew c0 at_))) rfl (AEv.tmp rfl) (by kernel_rfl))) <|
            .cons rfl (Q_p rfl (S_move rfl (AEv.tmp rfl))) <|
            .cons rfl (Q_p rfl (S_eql rfl (AEv.tmp rfl) (AEv.const _))) <|
            .cons rfl (Q_p rfl (S_eqB rfl (AEv.tmp rfl) (AEv.tmp rfl) (by kernel_rfl))) <|
            .cons rfl (Q_p rfl (S_move rfl (AEv.tmp rfl))) <|
            .cons rfl (Q_g rfl rfl (AEv.tmp rfl) (fun hg15 => S_move rfl (AEv.tmp rfl))) <|
            .cons rfl (Q_g rfl rfl (AEv.tmp rfl) (fun hg18 => S_gcall rfl (AEvs.cons (AEv.cond (AEv.tmp rfl) (by first | assumption | exact gdAnd (by assumption) (by assumption))) AEvs.nil) ((fail_Code_ok (ar.foldl erIn (erNew c0 at_))) _ (fun p hp => by first | exact hG p hp | exact List.mem_append_right _ (List.mem_cons_of_mem _ (List.mem_cons_of_mem _ (hG p hp))) | exact List.mem_cons_of_mem _ (List.mem_cons_of_mem _ (hG p hp)) | exact List.mem_cons_of_mem _ (hG p hp))))) <|
            .cons rfl (Q_g rfl rfl (AEv.tmp rfl) (fun hg21 => S_field 0 rfl (AEv.tmp rfl) (by kernel_rfl))) <|
            .cons rfl (Q_g rfl rfl (AEv.tmp rfl) (fun hg24 => S_loadM rfl (AEv.cond (AEv.tmp rfl) (by first | assumption | exact gdAnd (by assumption) (by assumption))) (List.mem_append_right _ List.mem_cons_self) rfl (by kernel_rfl))) <|
            .cons rfl (Q_g rfl rfl (AEv.tmp rfl) (fun hg27 => S_eql rfl (AEv.cond (AEv.tmp rfl) (by first | assumption | exact gdAnd (by assumption) (by assumption))) (AEv.cond (AEv.tmp rfl) (by first | assumption | exact gdAnd (by assumption) (by assumption))))) <|
            .cons rfl (Q_p rfl (S_and rfl (AEv.tmp rfl) (fun hp30 => (AEv.cond (AEv.tmp rfl) (by first | assumption | exact gdT hp30 | exact gdF hp30 | exact gdAnd (by assumption) (gdT hp30) | exact gdAnd (by assumption) (gdF hp30)))))) <|
            .cons rfl (Q_p rfl (S_move rfl (AEv.tmp rfl))) <|
            .cons rfl (Q_g rfl rfl (AEv.tmp rfl) (fun hg31 => S_move rfl (AEv.tmp rfl))) <|
            .cons rfl (Q_g rfl rfl (AEv.tmp rfl) (fun hg34 => S_field 1 rfl (AEv.tmp rfl) (by kernel_rfl))) <|
            .cons rfl (Q_g rfl rfl (AEv.tmp rfl) (fun hg37 => S_loadM rfl (AEv.cond (AEv.tmp rfl) (by first | assumption | exact gdAnd (by assumption) (by assumption))) (List.mem_append_right _ List.mem_cons_self) rfl (by kernel_rfl))) <|
            .cons rfl (Q_g rfl rfl (AEv.tmp rfl) (fun hg40 => S_pcallB rfl (AEvs.cons (AEv.cond (AEv.tmp rfl) (by first | assumption | exact gdAnd (by assumption) (by assumption))) (AEvs.cons (AEv.cond (AEv.tmp rfl) (by first | assumption | exact gdAnd (by assumption) (by assumption))) AEvs.nil)) (Lends.cons (Conv.v1 Sub.nil hq (fun x hx => by obtain ⟨r, _, rfl⟩ := List.mem_map.1 hx; rfl) (fun p hp => List.mem_append_left _ hp) (fun b cap h o ho => by simp at ho)) (Lends.cons (Conv.refl Sub.nil _) Lends.nil)) (book_SameTexts_ok (erPath (ar.foldl erIn (erNew c0 at_))) (erPath (ar.foldl erIn (erNew c0 at_))) (by omega) (by omega)))) <|
            .cons rfl (Q_p rfl (S_and rfl (AEv.tmp rfl) (fun hp43 => (AEv.cond (AEv.tmp rfl) (by first | assumption | exact gdT hp43 | exact gdF hp43 | exact gdAnd (by assumption) (gdT hp43) | exact gdAnd (by assumption) (gdF hp43)))))) <|
            .cons rfl (Q_p rfl (S_move rfl (AEv.tmp rfl))) <|
            .cons rfl (Q_g rfl rfl (AEv.tmp rfl) (fun hg44 => S_move rfl (AEv.tmp rfl))) <|
            .cons rfl (Q_g rfl rfl (AEv.tmp rfl) (fun hg47 => S_gcall rfl (AEvs.cons (AEv.cond (AEv.tmp rfl) (by first | assumption | exact gdAnd (by assumption) (by assumption))) AEvs.nil) ((fail_Text_ok (ar.foldl erIn (erNew c0 at_)) hEp hj) _ (fun p hp => by first | exact hG p hp | exact List.mem_append_right _ (List.mem_cons_of_mem _ (List.mem_cons_of_mem _ (hG p hp))) | exact List.mem_cons_of_mem _ (List.mem_cons_of_mem _ (hG p hp)) | exact List.mem_cons_of_mem _ (hG p hp))))) <|
            .cons rfl (Q_g rfl rfl (AEv.tmp rfl) (fun hg50 => S_loadNM (m := 2) rfl (AEv.tmp rfl) (List.mem_append_right _ List.mem_cons_self) (by kernel_rfl) (by first | exact Nat.le_of_ble_eq_true rfl | (simp; omega) | simp))) <|
            .cons rfl (Q_g rfl rfl (AEv.tmp rfl) (fun hg53 => S_pcall rfl (AEvs.cons (y := refV (ar.foldl erIn (erNew c0 at_))) (AEv.cond (AEv.tmp rfl) (by first | assumption | exact gdAnd (by assumption) (by assumption))) AEvs.nil) (ref02_Text_ok (ar.foldl erIn (erNew c0 at_)) hEp hj))) <|
            .cons rfl (Q_g rfl rfl (AEv.tmp rfl) (fun hg56 => S_eqS rfl (AEv.cond (AEv.tmp rfl) (by first | assumption | exact gdAnd (by assumption) (by assumption))) (AEv.cond (AEv.tmp rfl) (by first | assumption | exact gdAnd (by assumption) (by assumption))))) <|
            .cons rfl (Q_p rfl (S_and rfl (AEv.tmp rfl) (fun hp59 => (AEv.cond (AEv.tmp rfl) (by first | assumption | exact gdT hp59 | exact gdF hp59 | exact gdAnd (by assumption) (gdT hp59) | exact gdAnd (by assumption) (gdF hp59)))))) <|
            .cons rfl (Q_p rfl (S_assign rfl (AEv.tmp rfl))) <|
            .nil) ?_
        refine AC_seq ?_
        refine AC_region ?_
        refine AL_p rfl rfl (S_move rfl (AEv.tmp rfl)) ?_
        refine AL_step rfl rfl (S_call rfl (AEvs.cons (AEv.tmp rfl) AEvs.nil) (book_Spoil_ok q (erPath (ar.foldl erIn (erNew c0 at_))) hq hEp _)) ?_
        rintro _ _ ⟨rfl, Z, rfl⟩
        refine AL_nil ?_
        refine AC_seq ?_
        refine AC_sub (Sub.l (List.sublist_append_right _ _)) ?_
        refine AC_draw (by kernel_rfl) (by kernel_rfl) (.cons rfl (Q_p rfl (S_move rfl (AEv.tmp rfl))) <|
            .cons rfl (Q_p rfl (S_move rfl (AEv.tmp rfl))) <|
            .cons rfl (Q_g rfl rfl (AEv.tmp rfl) (fun hg60 => S_move rfl (AEv.tmp rfl))) <|
            .cons rfl (Q_g rfl rfl (AEv.tmp rfl) (fun hg63 => S_move rfl (AEv.tmp rfl))) <|
            .cons rfl (Q_g rfl rfl (AEv.tmp rfl) (fun hg66 => S_pcall rfl (AEvs.cons (AEv.cond (AEv.tmp rfl) (by first | assumption | exact gdAnd (by assumption) (by assumption))) (AEvs.cons (AEv.cond (AEv.tmp rfl) (by first | assumption | exact gdAnd (by assumption) (by assumption))) AEvs.nil)) (fail_Has_ok (ar.foldl erIn (erNew c0 at_)) c1))) <|
            .cons rfl (Q_g rfl rfl (AEv.tmp rfl) (fun hg69 => S_move rfl (AEv.tmp rfl))) <|
            .cons rfl (Q_g rfl rfl (AEv.tmp rfl) (fun hg72 => S_move rfl (AEv.tmp rfl))) <|
            .cons rfl (Q_g rfl rfl (AEv.tmp rfl) (fun hg75 => S_eql rfl (AEv.cond (AEv.tmp rfl) (by first | assumption | exact gdAnd (by assumption) (by assumption))) (AEv.cond (AEv.tmp rfl) (by first | assumption | exact gdAnd (by assumption) (by assumption))))) <|
            .cons rfl (Q_g rfl rfl (AEv.tmp rfl) (fun hg78 => S_eqB rfl (AEv.cond (AEv.tmp rfl) (by first | assumption | exact gdAnd (by assumption) (by assumption))) (AEv.cond (AEv.tmp rfl) (by first | assumption | exact gdAnd (by assumption) (by assumption))) (by kernel_rfl))) <|
            .cons rfl (Q_p rfl (S_and rfl (AEv.tmp rfl) (fun hp81 => (AEv.cond (AEv.tmp rfl) (by first | assumption | exact gdT hp81 | exact gdF hp81 | exact gdAnd (by assumption) (gdT hp81) | exact gdAnd (by assumption) (gdF hp81)))))) <|
            .cons rfl (Q_p rfl (S_move rfl (AEv.tmp rfl))) <|
            .cons rfl (Q_g rfl rfl (AEv.tmp rfl) (fun hg82 => S_move rfl (AEv.tmp rfl))) <|
            .cons rfl (Q_g rfl rfl (AEv.tmp rfl) (fun hg85 => S_move rfl (AEv.tmp rfl))) <|
            .cons rfl (Q_g rfl rfl (AEv.tmp rfl) (fun hg88 => S_pcall rfl (AEvs.cons (AEv.cond (AEv.tmp rfl) (by first | assumption | exact gdAnd (by assumption) (by assumption))) (AEvs.cons (AEv.cond (AEv.tmp rfl) (by first | assumption | exact gdAnd (by assumption) (by assumption))) AEvs.nil)) (fail_Has_ok (ar.foldl erIn (erNew c0 at_)) c0))) <|
            .cons rfl (Q_p rfl (S_and rfl (AEv.tmp rfl) (fun hp91 => (AEv.cond (AEv.tmp rfl) (by first | assumption | exact gdT hp91 | exact gdF hp91 | exact gdAnd (by assumption) (gdT hp91) | exact gdAnd (by assumption) (gdF hp91)))))) <|
            .cons rfl (Q_p rfl (S_move rfl (AEv.tmp rfl))) <|
            .cons rfl (Q_g rfl rfl (AEv.tmp rfl) (fun hg92 => S_move rfl (AEv.tmp rfl))) <|
            .cons rfl (Q_g rfl rfl (AEv.tmp rfl) (fun hg95 => S_gcall rfl (AEvs.cons (AEv.cond (AEv.tmp rfl) (by first | assumption | exact gdAnd (by assumption) (by assumption))) AEvs.nil) (fail_Path_ok (ar.foldl erIn (erNew c0 at_)) hEp _ (fun p hp => by first | exact hG p hp | exact List.mem_append_right _ (List.mem_cons_of_mem _ (List.mem_cons_of_mem _ (hG p hp))) | exact List.mem_cons_of_mem _ (List.mem_cons_of_mem _ (hG p hp)) | exact List.mem_cons_of_mem _ (hG p hp))))) <|
            .cons rfl (Q_g rfl rfl (AEv.tmp rfl) (fun hg98 => S_field 1 rfl (AEv.tmp rfl) (by kernel_rfl))) <|
            .cons rfl (Q_g rfl rfl (AEv.tmp rfl) (fun hg101 => S_load 0 rfl (AEv.cond (AEv.tmp rfl) (by first | assumption | exact gdAnd (by assumption) (by assumption))) rfl rfl (by kernel_rfl))) <|
            .cons rfl (Q_g rfl rfl (AEv.tmp rfl) (fun hg104 => S_pcall rfl (AEvs.cons (AEv.cond (AEv.tmp rfl) (by first | assumption | exact gdAnd (by assumption) (by assumption))) (AEvs.cons (AEv.cond (AEv.tmp rfl) (by first | assumption | exact gdAnd (by assumption) (by assumption))) AEvs.nil)) (book_SameTexts_ok (erPath (ar.foldl erIn (erNew c0 at_))) (erPath (ar.foldl erIn (erNew c0 at_))) (by omega) (by omega)))) <|
            .cons rfl (Q_p rfl (S_and rfl (AEv.tmp rfl) (fun hp107 => (AEv.cond (AEv.tmp rfl) (by first | assumption | exact gdT hp107 | exact gdF hp107 | exact gdAnd (by assumption) (gdT hp107) | exact gdAnd (by assumption) (gdF hp107)))))) <|
            .cons rfl (Q_p rfl (S_move rfl (AEv.tmp rfl))) <|
            .cons rfl (Q_g rfl rfl (AEv.tmp rfl) (fun hg108 => S_gcall rfl AEvs.nil ((law_works) _ (fun p hp => by first | exact hG p hp | exact List.mem_append_right _ (List.mem_cons_of_mem _ (List.mem_cons_of_mem _ (hG p hp))) | exact List.mem_cons_of_mem _ (List.mem_cons_of_mem _ (hG p hp)) | exact List.mem_cons_of_mem _ (hG p hp))))) <|
            .cons rfl (Q_p rfl (S_and rfl (AEv.tmp rfl) (fun hp111 => (AEv.cond (AEv.tmp rfl) (by first | assumption | exact gdT hp111 | exact gdF hp111 | exact gdAnd (by assumption) (gdT hp111) | exact gdAnd (by assumption) (gdF hp111)))))) <|
            .cons rfl (Q_p rfl (S_assign rfl (AEv.tmp rfl))) <|
            .nil) ?_
        refine AC_ret ?_
        refine ret_tmp st rfl rfl (Sub.l (List.Sublist.cons _ (List.Sublist.cons _ (List.Sublist.refl _)))) (Conv.refl (Sub.l (List.Sublist.cons _ (List.Sublist.cons _ (List.Sublist.refl _)))) _) ⟨by rw [erHas_code, erHas_code, fold_isNone, fold_code, erNew_isNone, erNew_code]; simp [eq_comm], rfl⟩ (.inl rfl)

theorem row_FailTells (l : List Int) (h : l.length = 2) (a b : List (List UInt8)) (hs : sumT a + sumT b ≤ 1048576) : GCalls Tryd.prog tabs 5 [.agg (intsV l), .sl (strsV a), .sl (strsV b)] (.bool true) := by
  match l, h with
  | [c, d], _ => exact law_FailTells c d a b (tells_len c a b hs)

end Go.Proofs.YtemlgeljgnmfeaaDoor
