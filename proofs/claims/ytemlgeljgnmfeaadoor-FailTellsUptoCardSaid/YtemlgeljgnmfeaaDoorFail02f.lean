/-
The walks of Go functions in the logic AL: what each of them answers.
Conditions: those of each theorem.
-/
import Derived.Test.YtemlgeljgnmfeaaDoorFail02e
import Derived.Test.YtemlgeljgnmfeaaDoorFailLem2
set_option linter.unusedVariables false
set_option linter.unusedSimpArgs false
namespace Go.Proofs.YtemlgeljgnmfeaaDoor
open Go.AL Go.NumSpec

set_option maxRecDepth 100000 in
/-- provost/provostref02.New -/
theorem ref02_New_ok (c : Int) (ps : List (List UInt8)) : PCalls Tryd.prog 14 [.int .i64 c, .sl (strsV ps)] (refV (erNew c ps)) := by
  intro st
  refine ACalls_of (N := 11) Tryd.func14 (by kernel_rfl) rfl rfl rfl ?_
  refine AC_seq ?_
  refine AC_region ?_
  refine AL_step rfl rfl (S_alloc [.int .i64 0, .slice none 0 0] rfl (by kernel_rfl)) ?_
  rintro _ _ ⟨b1, rfl, rfl⟩
  refine AL_nil ?_
  refine AC_seq ?_
  refine AC_seq ?_
  refine AC_region ?_
  refine AL_p rfl rfl (S_move rfl (AEv.tmp rfl)) ?_
  refine AL_p rfl rfl (S_eql rfl (AEv.tmp rfl) (AEv.const _)) ?_
  refine AL_nil ?_
  refine AC_cond (AEv.tmp rfl) (fun hb2 => ?_) (fun hb2 => ?_)
  · try simp only [Bool.and_eq_true, Bool.or_eq_true, Bool.not_eq_true', Bool.not_eq_false', Bool.and_eq_false_iff, Bool.or_eq_false_iff, decide_eq_true_eq, decide_eq_false_iff_not, gd] at hb2
    have hc0 : c = 0 := by omega
    refine AC_seq ?_
    refine AC_region ?_
    refine AL_p rfl rfl (S_build (pl := [(0, 1), (1, 1)]) (zs := [.int .i64 0, .slice none 0 0]) rfl AEvs.nil (by kernel_rfl) rfl) ?_
    refine AL_step rfl rfl (S_storeN 0 rfl (AEv.tmp rfl) (AEv.tmp rfl) rfl (by first | exact Nat.le_of_ble_eq_true rfl | (simp; omega) | simp) (by first | rfl | simp [AV.one, Value.oneCell']) (by kernel_rfl)) ?_
    rintro _ _ ⟨rfl, rfl⟩
    refine AL_nil ?_
    refine AC_ret ?_
    refine ret_cell 0 st rfl rfl rfl (by kernel_rfl) (Sub.l (List.Sublist.cons _ (List.Sublist.refl _))) (Conv.le (Sub.l (List.Sublist.cons _ (List.Sublist.refl _))) Le.fail0) ⟨by rw [erNew_none hc0], rfl⟩ (.inl rfl)
  · try simp only [Bool.and_eq_true, Bool.or_eq_true, Bool.not_eq_true', Bool.not_eq_false', Bool.and_eq_false_iff, Bool.or_eq_false_iff, decide_eq_true_eq, decide_eq_false_iff_not, gd] at hb2
    have hc0 : c ≠ 0 := by omega
    refine AC_skip ?_
    refine AC_seq ?_
    refine AC_region ?_
    refine AL_p rfl rfl (S_move rfl (AEv.tmp rfl)) ?_
    refine AL_p rfl rfl (S_move rfl (AEv.tmp rfl)) ?_
    refine AL_p rfl rfl (S_build (pl := [(0, 1), (1, 1)]) (zs := [.int .i64 0, .slice none 0 0]) rfl (AEvs.cons (AEv.tmp rfl) (AEvs.cons (AEv.tmp rfl) AEvs.nil)) (by kernel_rfl) rfl) ?_
    refine AL_step rfl rfl (S_storeN 0 rfl (AEv.tmp rfl) (AEv.tmp rfl) rfl (by first | exact Nat.le_of_ble_eq_true rfl | (simp; omega) | simp) (by first | rfl | simp [AV.one, Value.oneCell']) (by kernel_rfl)) ?_
    rintro _ _ ⟨rfl, rfl⟩
    refine AL_nil ?_
    refine AC_ret ?_
    refine ret_cell 0 st rfl rfl rfl (by kernel_rfl) (Sub.l (List.Sublist.cons _ (List.Sublist.refl _))) (Conv.refl (Sub.l (List.Sublist.cons _ (List.Sublist.refl _))) _) ⟨by rw [erNew_some hc0]; rfl, rfl⟩ (.inl rfl)

set_option maxRecDepth 100000 in
/-- provost/provostref02.In -/
theorem ref02_In_ok (e : Er) (p : List UInt8) (hz : erCode e = 0 → e = none) (he : (erPath e).length ≤ 1000000) : PCalls Tryd.prog 15 [refV e, .S p] (refV (erIn e p)) := by
  intro st
  refine ACalls_of (N := 17) Tryd.func15 (by kernel_rfl) rfl rfl rfl ?_
  have hpl := strsV_len (erPath e)
  refine AC_seq ?_
  refine AC_region ?_
  refine AL_step rfl rfl (S_box rfl (AEv.tmp rfl)) ?_
  rintro _ _ ⟨b1, rfl, rfl⟩
  refine AL_step rfl rfl (S_alloc [.int .i64 0, .slice none 0 0] rfl (by kernel_rfl)) ?_
  rintro _ _ ⟨b2, rfl, rfl⟩
  refine AL_nil ?_
  refine AC_seq ?_
  refine AC_seq ?_
  refine AC_region ?_
  refine AL_p rfl rfl (S_field 0 rfl (AEv.tmp rfl) (by kernel_rfl)) ?_
  refine AL_p rfl rfl (S_load 1 rfl (AEv.tmp rfl) rfl rfl (by kernel_rfl)) ?_
  refine AL_p rfl rfl (S_eql rfl (AEv.tmp rfl) (AEv.const _)) ?_
  refine AL_nil ?_
  refine AC_cond (AEv.tmp rfl) (fun hb3 => ?_) (fun hb3 => ?_)
  · try simp only [Bool.and_eq_true, Bool.or_eq_true, Bool.not_eq_true', Bool.not_eq_false', Bool.and_eq_false_iff, Bool.or_eq_false_iff, decide_eq_true_eq, decide_eq_false_iff_not, gd] at hb3
    obtain rfl := hz (by omega)
    refine AC_seq ?_
    refine AC_region ?_
    refine AL_p rfl rfl (S_loadN (m := 2) 1 rfl (AEv.tmp rfl) rfl (by kernel_rfl) (by first | exact Nat.le_of_ble_eq_true rfl | (simp; omega) | simp)) ?_
    refine AL_step rfl rfl (S_storeN 0 rfl (AEv.tmp rfl) (AEv.tmp rfl) rfl (by first | exact Nat.le_of_ble_eq_true rfl | (simp; omega) | simp) (by first | rfl | simp [AV.one, Value.oneCell', ownAV]) (by kernel_rfl)) ?_
    rintro _ _ ⟨rfl, rfl⟩
    refine AL_nil ?_
    refine AC_ret ?_
    refine ret_cell 0 st rfl rfl rfl (by kernel_rfl) (Sub.l (List.Sublist.cons _ (List.Sublist.cons _ (List.Sublist.refl _)))) (Conv.refl (Sub.l (List.Sublist.cons _ (List.Sublist.cons _ (List.Sublist.refl _)))) _) ⟨rfl, rfl⟩ (.inl rfl)
  · try simp only [Bool.and_eq_true, Bool.or_eq_true, Bool.not_eq_true', Bool.not_eq_false', Bool.and_eq_false_iff, Bool.or_eq_false_iff, decide_eq_true_eq, decide_eq_false_iff_not, gd] at hb3
    obtain ⟨⟨c, ps⟩, rfl⟩ : ∃ x, e = some x := by cases e with | none => exact absurd rfl hb3 | some x => exact ⟨x, rfl⟩
    refine AC_skip ?_
    refine AC_seq ?_
    refine AC_plan (σ := [(0, 0), (1, 0), (2, 0), (4, 0), (5, 0), (3, 1), (6, 1), (7, 0), (8, 2)]) (by kernel_rfl) _ (by kernel_rfl) (fun _ h => h) ?_
    refine AG.f rfl rfl (fun st' hst => Q_p rfl (S_field 0 rfl (AEv.tmp rfl) (by kernel_rfl))) ?_
    refine AG.f rfl rfl (fun st' hst => Q_p rfl (S_loadM rfl (AEv.tmp rfl) (hst _ (List.mem_of_getElem? (i := 1) rfl)) rfl (by kernel_rfl))) ?_
    refine AG.f rfl rfl (fun st' hst => Q_p rfl (S_move rfl (AEv.tmp rfl))) ?_
    refine AG.f rfl rfl (fun st' hst => Q_p rfl (S_field 1 rfl (AEv.tmp rfl) (by kernel_rfl))) ?_
    refine AG.f rfl rfl (fun st' hst => Q_p rfl (S_loadM rfl (AEv.tmp rfl) (hst _ (List.mem_of_getElem? (i := 1) rfl)) rfl (by kernel_rfl))) ?_
    refine AG.s rfl rfl rfl (S_buildOwn (e := 9) 1 rfl (AEvs.cons (AEv.tmp rfl) AEvs.nil) rfl (by kernel_rfl) (by kernel_rfl) (by simp [AV.flat, AV.one, AV.cells, Value.oneCell']) (by decide) (by decide) (by decide)) ?_ ?_
    · rintro _ _ ⟨_, rfl, rfl⟩ _ h; exact List.mem_cons_of_mem _ h
    rintro _ _ ⟨b3, rfl, rfl⟩
    refine AG.s rfl rfl rfl (S_appendRowAny (e := 9) (size := 1) (bytes := 16) (k := 0) (b := b3) (cap := 1) (xs := [.S p]) (ys := strsV (erPath (some (c, ps)))) [] _ rfl (AEv.tmp rfl) (AEv.tmp rfl) rfl (Nat.le_refl _) (by kernel_rfl) (by kernel_rfl) (by kernel_rfl) (fun x hx => by simp only [List.mem_singleton] at hx; subst hx; rfl) (fun x hx => by obtain ⟨q, _, rfl⟩ := List.mem_map.1 hx; exact ⟨rfl, rfl⟩) (by rw [hpl]; simp only [List.length_singleton]; omega) (by rw [hpl]; simp only [List.length_singleton]; omega)) ?_ ?_
    · rintro _ _ ⟨_, _, _, _, rfl, rfl⟩ _ h; exact List.mem_cons_of_mem _ h
    rintro _ _ ⟨b9, k9, cap9, hc9, rfl, rfl⟩
    have hq9 : Own.ok (.row b9 k9 cap9) ([AV.S p] ++ strsV (erPath (some (c, ps)))) := hc9
    refine AG.f rfl rfl (fun st' hst => Q_p rfl (S_build (pl := [(0, 1), (1, 1)]) (zs := [.int .i64 0, .slice none 0 0]) rfl (AEvs.cons (AEv.tmp rfl) (AEvs.cons ((AEv.tmp rfl).le (Le_own hq9)) AEvs.nil)) (by kernel_rfl) rfl)) ?_
    refine AG.h rfl rfl rfl (S_storeN 1 rfl (AEv.tmp rfl) (AEv.tmp rfl) rfl (by first | exact Nat.le_of_ble_eq_true rfl | (simp; omega) | simp) (by first | rfl | simp [AV.one, Value.oneCell', ownAV]) (by kernel_rfl)) ?_
    rintro _ _ ⟨rfl, rfl⟩
    refine AG.nil ?_
    refine AC_ret ?_
    refine ret_cell 1 st rfl rfl rfl (by kernel_rfl) (Sub.l (List.Sublist.cons _ (List.Sublist.cons _ (List.Sublist.cons _ (List.Sublist.refl _))))) (Conv.refl (Sub.l (List.Sublist.cons _ (List.Sublist.cons _ (List.Sublist.cons _ (List.Sublist.refl _))))) _) ⟨rfl, rfl⟩ (.inl rfl)

set_option maxRecDepth 100000 in
/-- provost/provostref02.Text -/
theorem ref02_Text_ok (e : Er) (he : (erPath e).length ≤ 1000000) (hj : (Lib.join (erPath e) [46]).length ≤ 140737488355328) : PCalls Tryd.prog 17 [refV e] (.S (Lib.join (erPath e) [46])) := by
  intro st
  refine ACalls_of (N := 24) Tryd.func17 (by kernel_rfl) rfl rfl rfl ?_
  have hpl := strsV_len (erPath e)
  refine AC_seq ?_
  refine AC_region ?_
  refine AL_step rfl rfl (S_box rfl (AEv.tmp rfl)) ?_
  rintro _ _ ⟨b1, rfl, rfl⟩
  refine AL_p rfl rfl (S_assign rfl (AEv.S _)) ?_
  refine AL_nil ?_
  refine AC_seq ?_
  refine AC_region ?_
  refine AL_p rfl rfl (S_assign rfl (AEv.S _)) ?_
  refine AL_nil ?_
  refine AC_seq ?_
  refine AC_seq ?_
  refine AC_region ?_
  refine AL_p rfl rfl (S_assign rfl (AEv.const _)) ?_
  refine AL_nil ?_
  refine AC_block ?_
  refine AC_loop (G := Nat) (fun i => i ≤ (erPath e).length) (fun i => [(1, .ptr b1 0), (3, .S (joinT (erPath e) i)), (4, .int .i64 (i : Int))]) (fun i => (b1, .cells [.int .i64 (erCode e), .sl (strsV (erPath e))]) :: st) (fun i => (erPath e).length - i) (0) (Nat.zero_le _) rfl ?_ ?_
  · exact .cons rfl (Le.refl _) (.cons rfl (Le.refl _) (.cons rfl (Le.refl _) .nil))
  · rintro i hi
    try dsimp only
    refine AC_seq ?_
    refine AC_seq ?_
    refine AC_region ?_
    refine AL_p rfl rfl (S_move rfl (AEv.tmp rfl)) ?_
    refine AL_p rfl rfl (S_field 1 rfl (AEv.tmp rfl) (by kernel_rfl)) ?_
    refine AL_p rfl rfl (S_load 0 rfl (AEv.tmp rfl) rfl rfl (by kernel_rfl)) ?_
    refine AL_p rfl rfl (S_len (e := 9) rfl (AEv.tmp rfl) (by kernel_rfl)) ?_
    refine AL_p rfl rfl (S_lss rfl (AEv.tmp rfl) (AEv.tmp rfl)) ?_
    refine AL_nil ?_
    refine AC_cond (AEv.tmp rfl) (fun hb2 => ?_) (fun hb2 => ?_)
    · try simp only [Bool.and_eq_true, Bool.or_eq_true, Bool.not_eq_true', Bool.not_eq_false', Bool.and_eq_false_iff, Bool.or_eq_false_iff, decide_eq_true_eq, decide_eq_false_iff_not, gd] at hb2
      have hil : i < (erPath e).length := by omega
      have hj1 := joinT_le (erPath e) (i + 1)
      refine AC_skip ?_
      refine AC_seq ?_
      refine AC_block ?_
      refine AC_seq ?_
      refine AC_seq ?_
      refine AC_region ?_
      refine AL_p rfl rfl (S_move rfl (AEv.tmp rfl)) ?_
      refine AL_p rfl rfl (S_gtr rfl (AEv.tmp rfl) (AEv.const _)) ?_
      refine AL_nil ?_
      refine AC_cond (AEv.tmp rfl) (fun hb3 => ?_) (fun hb3 => ?_)
      · try simp only [Bool.and_eq_true, Bool.or_eq_true, Bool.not_eq_true', Bool.not_eq_false', Bool.and_eq_false_iff, Bool.or_eq_false_iff, decide_eq_true_eq, decide_eq_false_iff_not, gd] at hb3
        have h0 : 0 < i := by omega
        rw [joinT_next h0 hil] at hj1
        simp only [List.length_append, List.length_singleton] at hj1
        refine AC_region ?_
        refine AL_p rfl rfl (S_move rfl (AEv.tmp rfl)) ?_
        refine AL_p rfl rfl (S_cat rfl (AEv.tmp rfl) (AEv.S _) (by first | omega | (simp only [List.length_append, List.length_singleton]; omega))) ?_
        refine AL_p rfl rfl (S_assign rfl (AEv.tmp rfl)) ?_
        refine AL_nil ?_
        refine AC_region ?_
        refine AL_p rfl rfl (S_move rfl (AEv.tmp rfl)) ?_
        refine AL_p rfl rfl (S_field 1 rfl (AEv.tmp rfl) (by kernel_rfl)) ?_
        refine AL_p rfl rfl (S_load 0 rfl (AEv.tmp rfl) rfl rfl (by kernel_rfl)) ?_
        refine AL_p rfl rfl (S_move rfl (AEv.tmp rfl)) ?_
        refine AL_p rfl rfl (S_elem (e := 9) (c := .S ((erPath e)[i]'hil)) (i := (i : Int)) 1 rfl (AEv.tmp rfl) (AEv.tmp rfl) (by kernel_rfl) (by kernel_rfl) (by omega) (by simp [strsV, hil]) rfl) ?_
        refine AL_p rfl rfl (S_loadP rfl (AEv.tmp rfl) rfl (by kernel_rfl)) ?_
        refine AL_p rfl rfl (S_cat rfl (AEv.tmp rfl) (AEv.tmp rfl) (by first | omega | (simp only [List.length_append, List.length_singleton]; omega))) ?_
        refine AL_p rfl rfl (S_assign rfl (AEv.tmp rfl)) ?_
        refine AL_nil ?_
        refine AC_region ?_
        refine AL_p rfl rfl (S_move rfl (AEv.tmp rfl)) ?_
        refine AL_p rfl rfl (S_addI rfl (AEv.tmp rfl) (AEv.const _) (by omega) (by omega)) ?_
        refine AL_p rfl rfl (S_assign rfl (AEv.tmp rfl)) ?_
        refine AL_nil ?_
        refine ⟨i + 1, by omega, by omega, rfl, .cons rfl (Le.refl _) (.cons rfl (Le.of_eq (by rw [joinT_next h0 hil])) (.cons rfl (Le.of_eq (by rw [Int.natCast_add]; rfl)) .nil))⟩
      · try simp only [Bool.and_eq_true, Bool.or_eq_true, Bool.not_eq_true', Bool.not_eq_false', Bool.and_eq_false_iff, Bool.or_eq_false_iff, decide_eq_true_eq, decide_eq_false_iff_not, gd] at hb3
        have hi0 : i = 0 := by omega
        rw [show joinT (erPath e) (i + 1) = (erPath e)[i] from by subst hi0; exact joinT_one hil] at hj1
        have hz0 : (joinT (erPath e) i).length = 0 := by subst hi0; simp [joinT, Lib.join_nil]
        refine AC_skip ?_
        refine AC_region ?_
        refine AL_p rfl rfl (S_move rfl (AEv.tmp rfl)) ?_
        refine AL_p rfl rfl (S_field 1 rfl (AEv.tmp rfl) (by kernel_rfl)) ?_
        refine AL_p rfl rfl (S_load 0 rfl (AEv.tmp rfl) rfl rfl (by kernel_rfl)) ?_
        refine AL_p rfl rfl (S_move rfl (AEv.tmp rfl)) ?_
        refine AL_p rfl rfl (S_elem (e := 9) (c := .S ((erPath e)[i]'hil)) (i := (i : Int)) 1 rfl (AEv.tmp rfl) (AEv.tmp rfl) (by kernel_rfl) (by kernel_rfl) (by omega) (by simp [strsV, hil]) rfl) ?_
        refine AL_p rfl rfl (S_loadP rfl (AEv.tmp rfl) rfl (by kernel_rfl)) ?_
        refine AL_p rfl rfl (S_cat rfl (AEv.tmp rfl) (AEv.tmp rfl) (by first | omega | (simp only [List.length_append, List.length_singleton]; omega))) ?_
        refine AL_p rfl rfl (S_assign rfl (AEv.tmp rfl)) ?_
        refine AL_nil ?_
        refine AC_region ?_
        refine AL_p rfl rfl (S_move rfl (AEv.tmp rfl)) ?_
        refine AL_p rfl rfl (S_addI rfl (AEv.tmp rfl) (AEv.const _) (by omega) (by omega)) ?_
        refine AL_p rfl rfl (S_assign rfl (AEv.tmp rfl)) ?_
        refine AL_nil ?_
        refine ⟨i + 1, by omega, by omega, rfl, .cons rfl (Le.refl _) (.cons rfl (Le.of_eq (by subst hi0; rw [show joinT (erPath e) (0 + 1) = (erPath e)[0] from joinT_one hil]; simp [joinT, Lib.join_nil])) (.cons rfl (Le.of_eq (by rw [Int.natCast_add]; rfl)) .nil))⟩
    · try simp only [Bool.and_eq_true, Bool.or_eq_true, Bool.not_eq_true', Bool.not_eq_false', Bool.and_eq_false_iff, Bool.or_eq_false_iff, decide_eq_true_eq, decide_eq_false_iff_not, gd] at hb2
      have hall := joinT_all (ps := erPath e) (i := i) (by omega)
      refine AC_exit ?_
      refine AC_seq ?_
      refine AC_region ?_
      refine AL_p rfl rfl (S_move rfl (AEv.tmp rfl)) ?_
      refine AL_p rfl rfl (S_assign rfl (AEv.tmp rfl)) ?_
      refine AL_nil ?_
      refine AC_ret ?_
      refine ret_tmp st rfl rfl (Sub.l (List.Sublist.cons _ (List.Sublist.refl _))) (Conv.refl (Sub.l (List.Sublist.cons _ (List.Sublist.refl _))) _) ⟨by rw [hall], rfl⟩ (.inl rfl)

end Go.Proofs.YtemlgeljgnmfeaaDoor
