/-
The walks of Go functions in the logic AL: what each of them answers.
Conditions: those of each theorem.
-/
import Derived.Test.YtnjlecejhnoicaaDoorCov14e
set_option linter.unusedVariables false
set_option linter.unusedSimpArgs false
namespace Go.Proofs.YtnjlecejhnoicaaDoor
open Go.AL Go.NumSpec

set_option maxRecDepth 100000 in
/-- (*provost/spec.seen).name -/
theorem seen_name_ok (b : Nat) (p q : Own) (ns : List (List UInt8)) (ps : List Int) (hp : p.ok (strsV ns)) (hq : q.ok (intsV ps)) (hns : ns.length ≤ 1000) (c : Ctr) (F : St) (hG : ∀ r, r ∈ Gs tabs → r ∈ F) : ACalls Tryd.prog 37 [.ptr b 0, ctrAV c] ((b, Ob.cells [ownAV p 1 (strsV ns), ownAV q 1 (intsV ps)]) :: (ownSt p 9 1 (strsV ns) ++ (ownSt q 3 1 (intsV ps) ++ F))) (fun x st' => ∃ p' : Own, p'.ok (strsV (ns ++ [c.name])) ∧ x = erV 48 76 (nameE ns c.name) ∧ st' = (b, Ob.cells [ownAV p' 1 (strsV (ns ++ [c.name])), ownAV q 1 (intsV ps)]) :: (ownSt p' 9 1 (strsV (ns ++ [c.name])) ++ (ownSt q 3 1 (intsV ps) ++ F))) := by
  refine ACalls_of (N := 36) Tryd.func37 (by kernel_rfl) rfl rfl rfl ?_
  have hnl := strsV_len ns
  refine AC_seq ?_
  refine AC_region ?_
  refine AL_step rfl rfl (S_box rfl (AEv.tmp rfl)) ?_
  rintro _ _ ⟨b1, rfl, rfl⟩
  refine AL_p rfl rfl (S_assign rfl (AEv.const _)) ?_
  refine AL_nil ?_
  refine AC_seq ?_
  refine AC_region ?_
  refine AL_p rfl rfl (S_field 0 rfl (AEv.tmp rfl) (by kernel_rfl)) ?_
  refine AL_p rfl rfl (S_load 0 rfl (AEv.tmp rfl) rfl rfl (by kernel_rfl)) ?_
  refine AL_p rfl rfl (S_gcall rfl (AEvs.cons (AEv.tmp rfl) AEvs.nil) ((text_Name_ok c.name) _ (fun r hr => List.mem_cons_of_mem _ (List.mem_cons_of_mem _ (List.mem_append_right _ (List.mem_append_right _ (hG r hr))))))) ?_
  refine AL_p rfl rfl (S_buildSlice (e := 9) 1 rfl (AEvs.cons (AEv.S _) AEvs.nil) rfl (by kernel_rfl) (by kernel_rfl) (by simp [AV.flat, AV.one, AV.cells, Value.oneCell']) (by decide) (by decide) (by decide)) ?_
  refine AL_p rfl rfl (S_pcall rfl (AEvs.cons (AEv.tmp rfl) (AEvs.cons (AEv.tmp rfl) AEvs.nil)) (fail_New_ok (saysV (nameV c.name) 30) [[110, 97, 109, 101]] (by simp))) ?_
  refine AL_p rfl rfl (S_assign rfl (AEv.tmp rfl)) ?_
  refine AL_nil ?_
  refine AC_join (G := Unit) (fun _ => True) (fun _ => [(0, .ptr b 0), (3, .ptr b1 0), (5, erV 48 76 (nameE ns c.name))]) (fun _ => (b1, Ob.cells (ctrL c)) :: ((b, Ob.cells [ownAV p 1 (strsV ns), ownAV q 1 (intsV ps)]) :: (ownSt p 9 1 (strsV ns) ++ (ownSt q 3 1 (intsV ps) ++ F)))) ?_ ?_
  · refine AC_seq ?_
    refine AC_draw (by kernel_rfl) (by kernel_rfl) (.cons rfl (Q_p rfl (S_move rfl (AEv.tmp rfl))) <|
        .cons rfl (Q_p rfl (S_eqlE (er_is 48 76 (erNew (saysV (nameV c.name) 30) [[110, 97, 109, 101]])) rfl (AEv.tmp rfl) (by kernel_rfl))) <|
        .cons rfl (Q_p rfl (S_move rfl (AEv.tmp rfl))) <|
        .cons rfl (Q_g rfl rfl (AEv.tmp rfl) (fun hg2 => S_move rfl (AEv.tmp rfl))) <|
        .cons rfl (Q_g rfl rfl (AEv.tmp rfl) (fun hg5 => S_nilCheck rfl (AEv.cond (AEv.tmp rfl) (by first | assumption | exact gdAnd (by assumption) (by assumption))))) <|
        .cons rfl (Q_g rfl rfl (AEv.tmp rfl) (fun hg8 => S_field 0 rfl (AEv.cond (AEv.tmp rfl) (by first | assumption | exact gdAnd (by assumption) (by assumption))) (by kernel_rfl))) <|
        .cons rfl (Q_g rfl rfl (AEv.tmp rfl) (fun hg11 => S_load 1 rfl (AEv.cond (AEv.tmp rfl) (by first | assumption | exact gdAnd (by assumption) (by assumption))) rfl rfl (by kernel_rfl))) <|
        .cons rfl (Q_g rfl rfl (AEv.tmp rfl) (fun hg14 => S_field 0 rfl (AEv.tmp rfl) (by kernel_rfl))) <|
        .cons rfl (Q_g rfl rfl (AEv.tmp rfl) (fun hg17 => S_load 0 rfl (AEv.cond (AEv.tmp rfl) (by first | assumption | exact gdAnd (by assumption) (by assumption))) rfl rfl (by kernel_rfl))) <|
        .cons rfl (Q_g rfl rfl (AEv.tmp rfl) (fun hg20 => S_pcall rfl (AEvs.cons ((AEv.cond (AEv.tmp rfl) (by first | assumption | exact gdAnd (by assumption) (by assumption))).le (Le_own hp)) (AEvs.cons (AEv.cond (AEv.tmp rfl) (by first | assumption | exact gdAnd (by assumption) (by assumption))) AEvs.nil)) (slices_ContainsS_ok ns c.name (by omega)))) <|
        .cons rfl (Q_p rfl (S_and rfl (AEv.tmp rfl) (fun hp23 => (AEv.cond (AEv.tmp rfl) (by first | assumption | exact gdT hp23 | exact gdF hp23 | exact gdAnd (by assumption) (gdT hp23) | exact gdAnd (by assumption) (gdF hp23)))))) <|
        .nil) ?_
    refine AC_cond (AEv.tmp rfl) (fun hb24 => ?_) (fun hb24 => ?_)
    · try simp only [Bool.and_eq_true, Bool.or_eq_true, Bool.not_eq_true', Bool.not_eq_false', Bool.and_eq_false_iff, Bool.or_eq_false_iff, decide_eq_true_eq, decide_eq_false_iff_not, gd] at hb24
      have hk : (erNew (saysV (nameV c.name) 30) [[110, 97, 109, 101]]).isNone = true ∧ c.name ∈ ns := ⟨hb24.1, by simpa using hb24.2⟩
      refine AC_region ?_
      refine AL_p rfl rfl (S_buildSlice (e := 9) 1 rfl (AEvs.cons (AEv.S _) AEvs.nil) rfl (by kernel_rfl) (by kernel_rfl) (by simp [AV.flat, AV.one, AV.cells, Value.oneCell']) (by decide) (by decide) (by decide)) ?_
      refine AL_p rfl rfl (S_pcall rfl (AEvs.cons (AEv.const _) (AEvs.cons (AEv.tmp rfl) AEvs.nil)) (fail_New_ok 7 [[110, 97, 109, 101]] (by simp))) ?_
      refine AL_p rfl rfl (S_assign rfl (AEv.tmp rfl)) ?_
      refine AL_nil ?_
      exact ⟨(), trivial, rfl, .cons rfl (Le.refl _) (.cons rfl (Le.refl _) (.cons rfl (Le.of_eq (by rw [nameE, if_pos hk]; rfl)) .nil))⟩
    · try simp only [Bool.and_eq_true, Bool.or_eq_true, Bool.not_eq_true', Bool.not_eq_false', Bool.and_eq_false_iff, Bool.or_eq_false_iff, decide_eq_true_eq, decide_eq_false_iff_not, gd] at hb24
      have hk : ¬ ((erNew (saysV (nameV c.name) 30) [[110, 97, 109, 101]]).isNone = true ∧ c.name ∈ ns) := fun ⟨h1, h2⟩ => by
        rcases hb24 with h | h
        · rw [h1] at h; cases h
        · first | exact h h2 | (simp at h; exact h h2)
      refine AC_skip ?_
      exact ⟨(), trivial, rfl, .cons rfl (Le.refl _) (.cons rfl (Le.refl _) (.cons rfl (Le.of_eq (by rw [nameE, if_neg hk])) .nil))⟩
  · rintro _ _
    try dsimp only
    refine AC_seq ?_
    refine AC_plan (σ := [(0, 0), (1, 0), (2, 0), (3, 0), (4, 0), (5, 0), (6, 0), (7, 0), (8, 1), (9, 0), (10, 0), (11, 2)]) (by kernel_rfl) [(b1, .cells (ctrL c)), (b, Ob.cells [ownAV p 1 (strsV ns), ownAV q 1 (intsV ps)])] (by kernel_rfl) (fun r hr => List.mem_append_left (ownSt p 9 1 (strsV ns) ++ (ownSt q 3 1 (intsV ps) ++ F)) hr) ?_
    refine AG.f rfl rfl (fun st' hst => Q_p rfl (S_move rfl (AEv.tmp rfl))) ?_
    refine AG.f rfl rfl (fun st' hst => Q_p rfl (S_move rfl (AEv.tmp rfl))) ?_
    refine AG.f rfl rfl (fun st' hst => Q_p rfl (S_nilCheck rfl (AEv.tmp rfl))) ?_
    refine AG.f rfl rfl (fun st' hst => Q_p rfl (S_field 0 rfl (AEv.tmp rfl) (by kernel_rfl))) ?_
    refine AG.f rfl rfl (fun st' hst => Q_p rfl (S_loadM rfl (AEv.tmp rfl) (hst _ (List.mem_of_getElem? (i := 1) rfl)) rfl (by kernel_rfl))) ?_
    refine AG.f rfl rfl (fun st' hst => Q_p rfl (S_field 0 rfl (AEv.tmp rfl) (by kernel_rfl))) ?_
    refine AG.f rfl rfl (fun st' hst => Q_p rfl (S_loadM rfl (AEv.tmp rfl) (hst _ (List.mem_of_getElem? (i := 0) rfl)) rfl (by kernel_rfl))) ?_
    refine AG.f rfl rfl (fun st' hst => Q_p rfl (S_buildSlice (e := 9) 1 rfl (AEvs.cons (AEv.tmp rfl) AEvs.nil) rfl (by kernel_rfl) (by kernel_rfl) (by simp [AV.flat, AV.one, AV.cells, Value.oneCell']) (by decide) (by decide) (by decide))) ?_
    refine AG.s rfl rfl rfl (S_appendOwn (e := 9) (size := 1) (bytes := 16) (p := p) (xs := strsV ns) [_, _] _ rfl (AEv.tmp rfl) (AEv.tmp rfl) rfl hp (by kernel_rfl) (by simp) (fun x hx => by obtain ⟨r, _, rfl⟩ := List.mem_map.1 hx; rfl) (by simp [AV.cells, AV.one, Value.oneCell']) (by simp only [List.length_singleton]; omega) (by simp only [List.length_singleton]; omega)) ?_ ?_
    · rintro _ _ ⟨b8, k8, cap8, hx, rfl, rfl⟩ r hr; exact List.mem_append_left _ hr
    rintro _ _ ⟨b8, k8, cap8, hx, rfl, rfl⟩
    refine AG.f rfl rfl (fun st' hst => Q_p rfl (S_nilCheck rfl (AEv.tmp rfl))) ?_
    refine AG.f rfl rfl (fun st' hst => Q_p rfl (S_field 0 rfl (AEv.tmp rfl) (by kernel_rfl))) ?_
    refine AG.h rfl rfl rfl (S_store 1 rfl (AEv.tmp rfl) (AEv.tmp rfl) rfl (by first | exact Nat.le_of_ble_eq_true rfl | simp) (by first | rfl | exact ownAV_one _ _ _) (by kernel_rfl)) ?_
    rintro _ _ ⟨rfl, rfl⟩
    refine AG.nil ?_
    refine AC_seq ?_
    refine AC_region ?_
    refine AL_p rfl rfl (S_move rfl (AEv.tmp rfl)) ?_
    refine AL_p rfl rfl (S_assign rfl (AEv.tmp rfl)) ?_
    refine AL_nil ?_
    refine AC_ret ?_
    refine ret_tmp ((b, Ob.cells [ownAV (.row b8 k8 cap8) 1 (strsV ns ++ [AV.S c.name]), ownAV q 1 (intsV ps)]) :: (ownSt (.row b8 k8 cap8) 9 1 (strsV ns ++ [AV.S c.name]) ++ (ownSt q 3 1 (intsV ps) ++ F))) rfl rfl (Sub.l (List.Sublist.cons _ (List.Sublist.refl _))) (Conv.refl (Sub.l (List.Sublist.cons _ (List.Sublist.refl _))) _) ⟨.row b8 k8 cap8, by rw [show strsV (ns ++ [c.name]) = strsV ns ++ [AV.S c.name] by simp [strsV]]; exact hx, rfl, by rw [show strsV (ns ++ [c.name]) = strsV ns ++ [AV.S c.name] by simp [strsV]]⟩ (.inl rfl)

end Go.Proofs.YtnjlecejhnoicaaDoor
