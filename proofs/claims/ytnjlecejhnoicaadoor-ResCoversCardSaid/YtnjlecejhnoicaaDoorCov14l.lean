/-
The walks of Go functions in the logic AL: what each of them answers.
Conditions: those of each theorem.
-/
import Derived.Test.YtnjlecejhnoicaaDoorCov14k
import Derived.Test.YtnjlecejhnoicaaDoorSpecLem5
import Derived.Test.YtnjlecejhnoicaaDoorAlKeep
set_option linter.unusedVariables false
set_option linter.unusedSimpArgs false
namespace Go.Proofs.YtnjlecejhnoicaaDoor
open Go.AL Go.NumSpec

set_option maxRecDepth 100000 in
/-- provost/spec.Check -/
theorem spec_Check_ok (s : Spc) (hs : lightS s = true) : GCalls Tryd.prog tabs 6 [spcAV s] (erV 48 76 (checkE s)) := by
  intro st hG
  refine ACalls_of (N := 52) Tryd.func6 (by kernel_rfl) rfl rfl rfl ?_
  obtain ⟨h1, h2, h3, h4, h5, h6, h7⟩ := lightS_out hs
  refine AC_seq ?_
  refine AC_region ?_
  refine AL_step rfl rfl (S_box rfl (AEv.tmp rfl)) ?_
  rintro _ _ ⟨b1, rfl, rfl⟩
  refine AL_p rfl rfl (S_assign rfl (AEv.const _)) ?_
  refine AL_nil ?_
  refine AC_seq ?_
  refine AC_draw (by kernel_rfl) (by kernel_rfl) (.cons rfl (Q_p rfl (S_field 0 rfl (AEv.tmp rfl) (by kernel_rfl))) <|
      .cons rfl (Q_p rfl (S_load 0 rfl (AEv.tmp rfl) rfl rfl (by kernel_rfl))) <|
      .cons rfl (Q_p rfl (S_gcall rfl (AEvs.cons (AEv.tmp rfl) AEvs.nil) ((text_Name_ok s.name) _ (fun p hp => by first | exact hG p hp | (simp [hG p hp]; done))))) <|
      .cons rfl (Q_p rfl (S_buildSlice (e := 9) 1 rfl (AEvs.cons (AEv.S _) AEvs.nil) rfl (by kernel_rfl) (by kernel_rfl) (by simp [AV.flat, AV.one, AV.cells, Value.oneCell']) (by decide) (by decide) (by decide))) <|
      .cons rfl (Q_p rfl (S_pcall rfl (AEvs.cons (AEv.tmp rfl) (AEvs.cons (AEv.tmp rfl) AEvs.nil)) (fail_New_ok (saysV (nameV s.name) 30) [nameN] (by simp)))) <|
      .cons rfl (Q_p rfl (S_field 1 rfl (AEv.tmp rfl) (by kernel_rfl))) <|
      .cons rfl (Q_p rfl (S_load 0 rfl (AEv.tmp rfl) rfl rfl (by kernel_rfl))) <|
      .cons rfl (Q_p rfl (S_gcall rfl (AEvs.cons (AEv.S _) (AEvs.cons (AEv.tmp rfl) AEvs.nil)) ((spec_Labels_ok labelsN (by decide) s.labels (by omega) h5) _ (fun p hp => by first | exact hG p hp | (simp [hG p hp]; done))))) <|
      .cons rfl (Q_p rfl (S_field 2 rfl (AEv.tmp rfl) (by kernel_rfl))) <|
      .cons rfl (Q_p rfl (S_load 0 rfl (AEv.tmp rfl) rfl rfl (by kernel_rfl))) <|
      .cons rfl (Q_p rfl (by first | exact S_lenM (e := 40) rfl (AEv.tmp rfl) (by kernel_rfl) | exact S_len (e := 40) rfl (AEv.tmp rfl) (by kernel_rfl))) <|
      .cons rfl (Q_p rfl (S_pcall rfl (AEvs.cons (AEv.S _) (AEvs.cons (AEv.tmp rfl) (AEvs.cons (AEv.const _) (AEvs.cons (AEv.const _) AEvs.nil)))) (spec_atMost_ok initN (s.init.length : Int) 0 3))) <|
      .cons rfl (Q_p rfl (S_buildSlice (e := 29) 1 rfl (AEvs.cons (AEv.tmp rfl) (AEvs.cons (AEv.tmp rfl) (AEvs.cons (AEv.tmp rfl) AEvs.nil))) rfl (by kernel_rfl) (by kernel_rfl) (by intro y hy; simp only [List.mem_cons, List.not_mem_nil, or_false] at hy; rcases hy with rfl | rfl | rfl <;> exact ⟨er_flat _ _ _, by rw [er_cells]; rfl⟩) (by decide) (by decide) (by decide))) <|
      .cons rfl (Q_p rfl (S_pcall rfl (AEvs.cons (AEv.tmp rfl) AEvs.nil) (fail_First_ok (check1 s) (by simp)))) <|
      .cons rfl (Q_p rfl (S_assign rfl (AEv.tmp rfl))) <|
      .nil) ?_
  refine AC_seq ?_
  refine AC_seq ?_
  refine AC_region ?_
  refine AL_p rfl rfl (S_move rfl (AEv.tmp rfl)) ?_
  refine AL_p rfl rfl (S_neqE (er_is 48 76 (firstE (check1 s))) rfl (AEv.tmp rfl) (by kernel_rfl)) ?_
  refine AL_nil ?_
  refine AC_cond (AEv.tmp rfl) (fun hb2 => ?_) (fun hb2 => ?_)
  · try simp only [Bool.and_eq_true, Bool.or_eq_true, Bool.not_eq_true', Bool.not_eq_false', Bool.and_eq_false_iff, Bool.or_eq_false_iff, decide_eq_true_eq, decide_eq_false_iff_not, gd] at hb2
    obtain ⟨x, hx⟩ : ∃ x, firstE (check1 s) = some x := by cases h : firstE (check1 s) with | none => rw [h] at hb2; simp at hb2 | some y => exact ⟨y, rfl⟩
    refine AC_seq ?_
    refine AC_region ?_
    refine AL_p rfl rfl (S_move rfl (AEv.tmp rfl)) ?_
    refine AL_p rfl rfl (S_assign rfl (AEv.tmp rfl)) ?_
    refine AL_nil ?_
    refine AC_ret ?_
    refine ret_tmp st rfl rfl (Sub.l (List.Sublist.cons _ (List.Sublist.refl _))) (Conv.refl (Sub.l (List.Sublist.cons _ (List.Sublist.refl _))) _) ⟨by rw [check_bad1 hx, hx], rfl⟩ (.inl rfl)
  · try simp only [Bool.and_eq_true, Bool.or_eq_true, Bool.not_eq_true', Bool.not_eq_false', Bool.and_eq_false_iff, Bool.or_eq_false_iff, decide_eq_true_eq, decide_eq_false_iff_not, gd] at hb2
    have hn1 : firstE (check1 s) = none := by cases h : firstE (check1 s) with | none => rfl | some y => rw [h] at hb2; simp at hb2
    refine AC_skip ?_
    refine AC_seq ?_
    refine AC_region ?_
    refine AL_p rfl rfl (S_build (pl := [(0, 1), (1, 1)]) (zs := [.slice none 0 0, .slice none 0 0]) rfl AEvs.nil (by kernel_rfl) rfl) ?_
    refine AL_step rfl rfl (S_box rfl (AEv.tmp rfl)) ?_
    rintro _ _ ⟨b3, rfl, rfl⟩
    refine AL_p rfl rfl (S_assign rfl (AEv.tmp rfl)) ?_
    refine AL_nil ?_
    refine AC_seq ?_
    have hB : ∀ r, r ∈ ((b1, Ob.cells (spcL s)) :: Gs tabs) → r ∈ ((b1, Ob.cells (spcL s)) :: st) := fun r hr => by
      rcases List.mem_cons.1 hr with rfl | h
      · exact List.mem_cons_self
      · exact List.mem_cons_of_mem _ (hG r h)
    have hG1 : ∀ r, r ∈ Gs tabs → r ∈ ((b1, Ob.cells (spcL s)) :: st) := fun r hr => List.mem_cons_of_mem _ (hG r hr)
    refine AC_plan (σ := [(0, 0), (1, 0), (2, 0), (4, 0), (5, 0), (6, 0), (3, 1), (7, 0), (8, 0), (9, 0), (10, 0)]) (by kernel_rfl) ((b1, Ob.cells (spcL s)) :: Gs tabs) (by kernel_rfl) (fun r hr => List.mem_cons_of_mem _ (hB r hr)) ?_
    refine AG.f rfl rfl (fun st' hst => Q_p rfl (S_move rfl (AEv.tmp rfl))) ?_
    refine AG.f rfl rfl (fun st' hst => Q_p rfl (S_field 2 rfl (AEv.tmp rfl) (by kernel_rfl))) ?_
    refine AG.f rfl rfl (fun st' hst => Q_p rfl (S_loadM rfl (AEv.tmp rfl) (hst _ (List.mem_of_getElem? (i := 0) rfl)) rfl (by kernel_rfl))) ?_
    refine AG.f rfl rfl (fun st' hst => Q_p rfl (S_field 3 rfl (AEv.tmp rfl) (by kernel_rfl))) ?_
    refine AG.f rfl rfl (fun st' hst => Q_p rfl (S_loadM rfl (AEv.tmp rfl) (hst _ (List.mem_of_getElem? (i := 0) rfl)) rfl (by kernel_rfl))) ?_
    refine AG.f rfl rfl (fun st' hst => Q_p rfl (by first | exact S_lenM (e := 40) rfl (AEv.tmp rfl) (by kernel_rfl) | exact S_len (e := 40) rfl (AEv.tmp rfl) (by kernel_rfl))) ?_
    refine AG.s rfl rfl rfl (S_call (K := fun x st' => ∃ foot', (∃ (p' q' : Own) (ns' : List (List UInt8)) (ps' : List Int), p'.ok (strsV ns') ∧ q'.ok (intsV ps') ∧ (ctrsE initN [] [] s.init 0 0 = none → ns' = namesTo [] s.init (s.init).length ∧ ps' = portsTo [] s.init (s.init).length) ∧ x = erV 48 76 (ctrsE initN [] [] s.init 0 0) ∧ foot' = seenSt 9 3 b3 p' q' ns' ps') ∧ st' = foot' ++ ((b1, Ob.cells (spcL s)) :: st)) rfl (AEvs.cons (AEv.tmp rfl) (AEvs.cons (AEv.S _) (AEvs.cons (AEv.tmp rfl) (AEvs.cons (AEv.const _) (AEvs.cons (AEv.const _) AEvs.nil))))) (seen_containers_ok b3 .nil .nil initN (by decide) [] [] rfl rfl (by first | decide | omega) (by first | decide | omega) s.init (by omega) h6 0 0 ((b1, Ob.cells (spcL s)) :: st) hG1)) ?_ ?_
    · rintro _ _ ⟨_, ⟨p2, q2, n2, m2, hp2, hq2, hn2, rfl, rfl⟩, rfl⟩ r hr; exact List.mem_append_right _ (hB r hr)
    rintro _ _ ⟨_, ⟨p2, q2, n2, m2, hp2, hq2, hn2, rfl, rfl⟩, rfl⟩
    refine AG.f rfl rfl (fun st' hst => Q_p rfl (S_pcall rfl (AEvs.cons (AEv.S _) (AEvs.cons (AEv.tmp rfl) (AEvs.cons (AEv.const _) (AEvs.cons (AEv.const _) AEvs.nil)))) (spec_atMost_ok mainN (s.main.length : Int) 1 4))) ?_
    refine AG.f rfl rfl (fun st' hst => Q_p rfl (S_buildSlice (e := 29) 1 rfl (AEvs.cons (AEv.tmp rfl) (AEvs.cons (AEv.tmp rfl) AEvs.nil)) rfl (by kernel_rfl) (by kernel_rfl) (by intro y hy; simp only [List.mem_cons, List.not_mem_nil, or_false] at hy; rcases hy with rfl | rfl <;> exact ⟨er_flat _ _ _, by rw [er_cells]; rfl⟩) (by decide) (by decide) (by decide))) ?_
    refine AG.f rfl rfl (fun st' hst => Q_p rfl (S_pcall rfl (AEvs.cons (AEv.tmp rfl) AEvs.nil) (fail_First_ok (check2 s) (by simp)))) ?_
    refine AG.f rfl rfl (fun st' hst => Q_p rfl (S_assign rfl (AEv.tmp rfl))) ?_
    refine AG.nil ?_
    refine AC_seq ?_
    refine AC_seq ?_
    refine AC_region ?_
    refine AL_p rfl rfl (S_move rfl (AEv.tmp rfl)) ?_
    refine AL_p rfl rfl (S_neqE (er_is 48 76 (firstE (check2 s))) rfl (AEv.tmp rfl) (by kernel_rfl)) ?_
    refine AL_nil ?_
    refine AC_cond (AEv.tmp rfl) (fun hb4 => ?_) (fun hb4 => ?_)
    · try simp only [Bool.and_eq_true, Bool.or_eq_true, Bool.not_eq_true', Bool.not_eq_false', Bool.and_eq_false_iff, Bool.or_eq_false_iff, decide_eq_true_eq, decide_eq_false_iff_not, gd] at hb4
      obtain ⟨x, hx⟩ : ∃ x, firstE (check2 s) = some x := by cases h : firstE (check2 s) with | none => rw [h] at hb4; simp at hb4 | some y => exact ⟨y, rfl⟩
      refine AC_seq ?_
      refine AC_region ?_
      refine AL_p rfl rfl (S_move rfl (AEv.tmp rfl)) ?_
      refine AL_p rfl rfl (S_assign rfl (AEv.tmp rfl)) ?_
      refine AL_nil ?_
      refine AC_ret ?_
      refine ret_tmp st rfl rfl (Sub.l (List.sublist_append_of_sublist_right (List.Sublist.cons _ (List.Sublist.refl _)))) (Conv.refl (Sub.l (List.sublist_append_of_sublist_right (List.Sublist.cons _ (List.Sublist.refl _)))) _) ⟨by rw [check_bad2 hn1 hx, hx], rfl⟩ (.inl rfl)
    · try simp only [Bool.and_eq_true, Bool.or_eq_true, Bool.not_eq_true', Bool.not_eq_false', Bool.and_eq_false_iff, Bool.or_eq_false_iff, decide_eq_true_eq, decide_eq_false_iff_not, gd] at hb4
      have hn2_ : firstE (check2 s) = none := by cases h : firstE (check2 s) with | none => rfl | some y => rw [h] at hb4; simp at hb4
      obtain ⟨rfl, rfl⟩ := hn2 (firstE_none hn2_ _ List.mem_cons_self)
      obtain ⟨hb1, hb2⟩ := check_seen hn1 h6
      refine AC_skip ?_
      refine AC_seq ?_
      refine AC_plan (σ := [(0, 0), (1, 0), (2, 0), (4, 0), (5, 0), (7, 0), (8, 0), (10, 0), (11, 0), (3, 1), (6, 0), (9, 0), (12, 0), (13, 0), (14, 0), (15, 0)]) (by kernel_rfl) ((b1, Ob.cells (spcL s)) :: Gs tabs) (by kernel_rfl) (fun r hr => List.mem_append_right _ (hB r hr)) ?_
      refine AG.f rfl rfl (fun st' hst => Q_p rfl (S_move rfl (AEv.tmp rfl))) ?_
      refine AG.f rfl rfl (fun st' hst => Q_p rfl (S_field 3 rfl (AEv.tmp rfl) (by kernel_rfl))) ?_
      refine AG.f rfl rfl (fun st' hst => Q_p rfl (S_loadM rfl (AEv.tmp rfl) (hst _ (List.mem_of_getElem? (i := 0) rfl)) rfl (by kernel_rfl))) ?_
      refine AG.f rfl rfl (fun st' hst => Q_p rfl (S_field 4 rfl (AEv.tmp rfl) (by kernel_rfl))) ?_
      refine AG.f rfl rfl (fun st' hst => Q_p rfl (S_loadM rfl (AEv.tmp rfl) (hst _ (List.mem_of_getElem? (i := 0) rfl)) rfl (by kernel_rfl))) ?_
      refine AG.f rfl rfl (fun st' hst => Q_p rfl (S_field 5 rfl (AEv.tmp rfl) (by kernel_rfl))) ?_
      refine AG.f rfl rfl (fun st' hst => Q_p rfl (S_loadM rfl (AEv.tmp rfl) (hst _ (List.mem_of_getElem? (i := 0) rfl)) rfl (by kernel_rfl))) ?_
      refine AG.f rfl rfl (fun st' hst => Q_p rfl (S_field 6 rfl (AEv.tmp rfl) (by kernel_rfl))) ?_
      refine AG.f rfl rfl (fun st' hst => Q_p rfl (S_loadM rfl (AEv.tmp rfl) (hst _ (List.mem_of_getElem? (i := 0) rfl)) rfl (by kernel_rfl))) ?_
      refine AG.s rfl rfl rfl (S_call (K := fun x st' => ∃ foot', (∃ (p' q' : Own) (ns' : List (List UInt8)) (ps' : List Int), p'.ok (strsV ns') ∧ q'.ok (intsV ps') ∧ (ctrsE mainN (namesTo [] s.init s.init.length) (portsTo [] s.init s.init.length) s.main 3 1000 = none → ns' = namesTo (namesTo [] s.init s.init.length) s.main (s.main).length ∧ ps' = portsTo (portsTo [] s.init s.init.length) s.main (s.main).length) ∧ x = erV 48 76 (ctrsE mainN (namesTo [] s.init s.init.length) (portsTo [] s.init s.init.length) s.main 3 1000) ∧ foot' = seenSt 9 3 b3 p' q' ns' ps') ∧ st' = foot' ++ ((b1, Ob.cells (spcL s)) :: st)) rfl (AEvs.cons (AEv.tmp rfl) (AEvs.cons (AEv.S _) (AEvs.cons (AEv.tmp rfl) (AEvs.cons (AEv.const _) (AEvs.cons (AEv.const _) AEvs.nil))))) (seen_containers_ok b3 p2 q2 mainN (by decide) (namesTo [] s.init s.init.length) (portsTo [] s.init s.init.length) hp2 hq2 (by first | decide | omega) (by first | decide | omega) s.main (by omega) h7 3 1000 ((b1, Ob.cells (spcL s)) :: st) hG1)) ?_ ?_
      · rintro _ _ ⟨_, ⟨p2, q2, n2, m2, hp2, hq2, hn2, rfl, rfl⟩, rfl⟩ r hr; exact List.mem_append_right _ (hB r hr)
      rintro _ _ ⟨_, ⟨p2, q2, n2, m2, hp2, hq2, hn2, rfl, rfl⟩, rfl⟩
      refine AG.f rfl rfl (fun st' hst => Q_p rfl (S_pcall rfl (AEvs.cons (AEv.S _) (AEvs.cons (AEv.tmp rfl) (AEvs.cons (AEv.const _) (AEvs.cons (AEv.const _) AEvs.nil)))) (spec_within_ok [114, 101, 115, 116, 97, 114, 116] s.restart 1 3))) ?_
      refine AG.f rfl rfl (fun st' hst => Q_p rfl (S_pcall rfl (AEvs.cons (AEv.S _) (AEvs.cons (AEv.tmp rfl) (AEvs.cons (AEv.const _) (AEvs.cons (AEv.const _) AEvs.nil)))) (spec_within_ok [103, 114, 97, 99, 101] s.grace 0 1000))) ?_
      refine AG.f rfl rfl (fun st' hst => Q_p rfl (S_pcall rfl (AEvs.cons (AEv.S _) (AEvs.cons (AEv.tmp rfl) (AEvs.cons (AEv.const _) (AEvs.cons (AEv.const _) AEvs.nil)))) (spec_within_ok [112, 114, 105, 111] s.prio 0 10))) ?_
      refine AG.f rfl rfl (fun st' hst => Q_p rfl (S_buildSlice (e := 29) 1 rfl (AEvs.cons (AEv.tmp rfl) (AEvs.cons (AEv.tmp rfl) (AEvs.cons (AEv.tmp rfl) (AEvs.cons (AEv.tmp rfl) AEvs.nil)))) rfl (by kernel_rfl) (by kernel_rfl) (by intro y hy; simp only [List.mem_cons, List.not_mem_nil, or_false] at hy; rcases hy with rfl | rfl | rfl | rfl <;> exact ⟨er_flat _ _ _, by rw [er_cells]; rfl⟩) (by decide) (by decide) (by decide))) ?_
      refine AG.f rfl rfl (fun st' hst => Q_p rfl (S_pcall rfl (AEvs.cons (AEv.tmp rfl) AEvs.nil) (fail_First_ok (check3 s) (by simp)))) ?_
      refine AG.f rfl rfl (fun st' hst => Q_p rfl (S_assign rfl (AEv.tmp rfl))) ?_
      refine AG.nil ?_
      refine AC_ret ?_
      refine ret_tmp st rfl rfl (Sub.l (List.sublist_append_of_sublist_right (List.Sublist.cons _ (List.Sublist.refl _)))) (Conv.refl (Sub.l (List.sublist_append_of_sublist_right (List.Sublist.cons _ (List.Sublist.refl _)))) _) ⟨by rw [check_good hn1 hn2_], rfl⟩ (.inl rfl)

end Go.Proofs.YtnjlecejhnoicaaDoor
