/-
The walks of Go functions in the logic AL: what each of them answers.
Conditions: those of each theorem.
-/
import Derived.Test.YtnjlecejhnoicaaDoorCov14l
import Derived.Test.YtnjlecejhnoicaaDoorCov14i
set_option linter.unusedVariables false
set_option linter.unusedSimpArgs false
namespace Go.Proofs.YtnjlecejhnoicaaDoor
open Go.AL Go.NumSpec

set_option maxRecDepth 100000 in
/-- provost/res.Of -/
theorem res_Of_ok (s : Spc) (hi : s.init.length ≤ 8) (hm : s.main.length ≤ 8) (hi3 : ∀ c ∈ s.init, fits3 c.req) (hm3 : ∀ c ∈ s.main, fits3 c.req) : PCalls Tryd.prog 7 [spcAV s] (okR (ofR s)) := by
  intro st
  refine ACalls_of (N := 45) Tryd.func7 (by kernel_rfl) rfl rfl rfl ?_
  refine AC_seq ?_
  refine AC_region ?_
  refine AL_step rfl rfl (S_box rfl (AEv.tmp rfl)) ?_
  rintro _ _ ⟨b1, rfl, rfl⟩
  refine AL_step rfl rfl (S_alloc [.int .i64 0, .int .i64 0, .int .i64 0] rfl (by kernel_rfl)) ?_
  rintro _ _ ⟨b2, rfl, rfl⟩
  refine AL_p rfl rfl (S_assign rfl (AEv.const _)) ?_
  refine AL_nil ?_
  refine AC_seq ?_
  refine AC_region ?_
  refine AL_p rfl rfl (S_assign rfl (AEv.const _)) ?_
  refine AL_nil ?_
  refine AC_seq ?_
  refine AC_seq ?_
  refine AC_region ?_
  refine AL_p rfl rfl (S_field 3 rfl (AEv.tmp rfl) (by kernel_rfl)) ?_
  refine AL_p rfl rfl (S_load 1 rfl (AEv.tmp rfl) rfl rfl (by kernel_rfl)) ?_
  refine AL_p rfl rfl (by first | exact S_lenM (e := 40) rfl (AEv.tmp rfl) (by kernel_rfl) | exact S_len (e := 40) rfl (AEv.tmp rfl) (by kernel_rfl)) ?_
  refine AL_p rfl rfl (S_move rfl (AEv.const _)) ?_
  refine AL_nil ?_
  refine AC_block ?_
  refine AC_loopK (G := Nat × Own) [(1, _), (2, _), (3, _), (12, _), (13, _)] (fun g => g.1 ≤ s.main.length ∧ g.2.ok ((s.main.take g.1).map (fun c : Ctr => resAV c.req))) (fun g => [(4, ownAV g.2 3 ((s.main.take g.1).map (fun c : Ctr => resAV c.req))), (14, .int .i64 (g.1 : Int))]) (fun g => (b2, .cells (resL (0, 0, 0))) :: (b1, .cells (spcL s)) :: (ownSt g.2 32 3 ((s.main.take g.1).map (fun c : Ctr => resAV c.req)) ++ st)) (fun g => s.main.length - g.1) ((0, .nil)) (⟨Nat.zero_le _, by simp [Own.ok]⟩) (Sub.l (List.Sublist.refl _)) (.cons rfl (Le.refl _) (.cons rfl (Le.refl _) (.cons rfl (Le.refl _) (.cons rfl (Le.refl _) (.cons rfl (Le.refl _) .nil))))) (.cons rfl (by first | exact Le.refl _ | exact Le.nils | exact Le.row _ _ _ _ | exact Le.of_eq (by first | rfl | (simp; done) | (push_cast; rfl) | (simp; omega))) (.cons rfl (by first | exact Le.refl _ | exact Le.nils | exact Le.row _ _ _ _ | exact Le.of_eq (by first | rfl | (simp; done) | (push_cast; rfl) | (simp; omega))) .nil)) ?_
  · rintro ⟨i, p⟩ ⟨hi, hp⟩
    try dsimp only
    simp only [List.cons_append, List.nil_append]
    dsimp only at hi hp
    refine AC_seq ?_
    refine AC_region ?_
    refine AL_p rfl rfl (S_lss rfl (AEv.tmp rfl) (AEv.tmp rfl)) ?_
    refine AL_nil ?_
    refine AC_seq ?_
    refine AC_cond (AEv.tmp rfl) (fun hb3 => ?_) (fun hb3 => ?_)
    · try simp only [Bool.and_eq_true, Bool.or_eq_true, Bool.not_eq_true', Bool.not_eq_false', Bool.and_eq_false_iff, Bool.or_eq_false_iff, decide_eq_true_eq, decide_eq_false_iff_not, gd] at hb3
      have hil : i < s.main.length := by omega
      refine AC_skip ?_
      refine AC_seq ?_
      refine AC_block ?_
      refine AC_seq ?_
      refine AC_region ?_
      refine AL_p rfl rfl (S_elemN (e := 40) 11 rfl (AEv.tmp rfl) (AEv.tmp rfl) (by kernel_rfl) (by kernel_rfl) (by omega) (fun _ => rfl)) ?_
      refine AL_p rfl rfl (S_loadPN (m := 11) rfl (AEv.tmp rfl) (by kernel_rfl) (by first | exact Nat.le_of_ble_eq_true rfl | (simp; omega) | simp)) ?_
      refine AL_step rfl rfl (S_alloc [.string ⟨#[]⟩, .string ⟨#[]⟩, .int .i64 0, .int .i64 0, .int .i64 0, .int .i64 0, .int .i64 0, .int .i64 0, .slice none 0 0, .int .i64 0, .int .i64 0] rfl (by kernel_rfl)) ?_
      rintro _ _ ⟨b6, rfl, rfl⟩
      refine AL_step rfl rfl (S_storeW 0 rfl (AEv.tmp rfl) (AEv.tmp rfl) rfl rfl rfl (by kernel_rfl)) ?_
      rintro _ _ ⟨rfl, rfl⟩
      refine AL_nil ?_
      refine AC_region ?_
      refine AL_p rfl rfl (S_move rfl (AEv.tmp rfl)) ?_
      refine AL_p rfl rfl (S_field 2 rfl (AEv.tmp rfl) (by kernel_rfl)) ?_
      refine AL_p rfl rfl (S_loadN (m := 3) 0 rfl (AEv.tmp rfl) rfl (by kernel_rfl) (by first | exact Nat.le_of_ble_eq_true rfl | (simp; omega) | simp)) ?_
      refine AL_p rfl rfl (S_buildSlice (e := 32) 3 rfl (AEvs.cons (AEv.tmp rfl) AEvs.nil) rfl (by kernel_rfl) (by kernel_rfl) (by intro y hy; simp only [List.mem_cons, List.not_mem_nil, or_false] at hy; rcases hy with rfl <;> exact ⟨rfl, rfl⟩) (by decide) (by decide) (by decide)) ?_
      refine AL_step rfl rfl (S_appendT (f := (fun c : Ctr => resAV c.req)) (l := s.main) (i := i) (e := 32) (size := 3) (bytes := 24) (p := p) (by omega) ([_, _, _]) (st) rfl (AEv.tmp rfl) (AEv.tmp rfl) rfl hp (by kernel_rfl) (fun _ => ⟨rfl, rfl⟩) (by omega) (by omega)) ?_
      rintro _ _ ⟨b8, k8, cap8, hx, rfl, rfl⟩
      refine AL_p rfl rfl (S_assign rfl (AEv.tmp rfl)) ?_
      refine AL_nil ?_
      refine AC_region ?_
      refine AL_p rfl rfl (S_addI rfl (AEv.tmp rfl) (AEv.const _) (by omega) (by omega)) ?_
      refine AL_p rfl rfl (S_move rfl (AEv.tmp rfl)) ?_
      refine AL_nil ?_
      exact ⟨(i + 1, .row b8 k8 cap8), ⟨by dsimp only; omega, hx⟩, by dsimp only; omega, Sub.l (List.Sublist.cons _ (List.Sublist.refl _)), (.cons rfl (by first | exact Le.refl _ | exact Le.nils | exact Le.row _ _ _ _ | exact Le.of_eq (by first | rfl | (simp; done) | (push_cast; rfl) | (simp; omega))) (.cons rfl (by first | exact Le.refl _ | exact Le.nils | exact Le.row _ _ _ _ | exact Le.of_eq (by first | rfl | (simp; done) | (push_cast; rfl) | (simp; omega))) .nil)), (.cons rfl (Le.refl _) (.cons rfl (Le.refl _) (.cons rfl (Le.refl _) (.cons rfl (Le.refl _) (.cons rfl (Le.refl _) .nil)))))⟩
    · try simp only [Bool.and_eq_true, Bool.or_eq_true, Bool.not_eq_true', Bool.not_eq_false', Bool.and_eq_false_iff, Bool.or_eq_false_iff, decide_eq_true_eq, decide_eq_false_iff_not, gd] at hb3
      obtain rfl : i = s.main.length := by omega
      rw [List.take_length] at hp
      have hmm : s.main.map (fun c : Ctr => resAV c.req) = ress (reqs s.main) := ress_reqs s.main
      have hml : (reqs s.main).length = s.main.length := by simp [reqs]
      refine AC_exit ?_
      refine AC_seq ?_
      rw [List.take_length, hmm]
      rw [hmm] at hp
      refine AC_region ?_
      refine AL_p rfl rfl (S_move rfl (AEv.tmp rfl)) ?_
      refine AL_p rfl rfl (S_pcall rfl (AEvs.cons ((AEv.tmp rfl).le (Le_own hp)) AEvs.nil) (res_Sum_ok (reqs s.main) (by omega) (fun r hr => by obtain ⟨c, hc, rfl⟩ := List.mem_map.1 hr; exact hm3 c hc))) ?_
      refine AL_p rfl rfl (S_move rfl (AEv.tmp rfl)) ?_
      refine AL_p rfl rfl (S_extract 0 rfl (AEv.tmp rfl) rfl) ?_
      refine AL_p rfl rfl (S_extract 1 rfl (AEv.tmp rfl) rfl) ?_
      refine AL_step rfl rfl (S_alloc [.int .i64 0, .int .i64 0, .int .i64 0] rfl (by kernel_rfl)) ?_
      rintro _ _ ⟨b4, rfl, rfl⟩
      refine AL_step rfl rfl (S_storeW 0 rfl (AEv.tmp rfl) (AEv.tmp rfl) rfl rfl rfl (by kernel_rfl)) ?_
      rintro _ _ ⟨rfl, rfl⟩
      refine AL_p rfl rfl (S_assign rfl (AEv.tmp rfl)) ?_
      refine AL_nil ?_
      refine AC_seq ?_
      refine AC_seq ?_
      refine AC_region ?_
      refine AL_p rfl rfl (S_move rfl (AEv.tmp rfl)) ?_
      refine AL_p rfl rfl (S_not rfl (AEv.tmp rfl)) ?_
      refine AL_nil ?_
      refine AC_cond (AEv.tmp rfl) (fun hb8 => ?_) (fun hb8 => ?_)
      · try simp only [Bool.and_eq_true, Bool.or_eq_true, Bool.not_eq_true', Bool.not_eq_false', Bool.and_eq_false_iff, Bool.or_eq_false_iff, decide_eq_true_eq, decide_eq_false_iff_not, gd] at hb8
        have hbad := ofR_bad hb8
        refine AC_seq ?_
        refine AC_region ?_
        refine AL_p rfl rfl (S_build (t := 32) (pl := [(0, 1), (1, 1), (2, 1)]) (zs := [.int .i64 0, .int .i64 0, .int .i64 0]) rfl AEvs.nil (by kernel_rfl) rfl) ?_
        refine AL_step rfl rfl (S_storeW 1 rfl (AEv.tmp rfl) (AEv.tmp rfl) rfl rfl rfl (by kernel_rfl)) ?_
        rintro _ _ ⟨rfl, rfl⟩
        refine AL_p rfl rfl (S_assign rfl (AEv.const _)) ?_
        refine AL_nil ?_
        refine AC_ret ?_
        refine ret_outs st rfl (by decide) (OutsR.row 1 rfl rfl (by kernel_rfl) (OutsR.tmp rfl OutsR.nil)) (Sub.l (List.Sublist.cons _ (List.Sublist.cons _ (List.Sublist.cons _ (List.sublist_append_right _ _))))) (Conv.refl (Sub.l (List.Sublist.cons _ (List.Sublist.cons _ (List.Sublist.cons _ (List.sublist_append_right _ _))))) _) ⟨by rw [hbad]; rfl, rfl⟩ (.inl rfl)
      · try simp only [Bool.and_eq_true, Bool.or_eq_true, Bool.not_eq_true', Bool.not_eq_false', Bool.and_eq_false_iff, Bool.or_eq_false_iff, decide_eq_true_eq, decide_eq_false_iff_not, gd] at hb8
        have hok : ofR s = _ := ofR_ok (by simpa using hb8)
        refine AC_skip ?_
        refine AC_seq ?_
        refine AC_seq ?_
        refine AC_region ?_
        refine AL_p rfl rfl (S_field 2 rfl (AEv.tmp rfl) (by kernel_rfl)) ?_
        refine AL_p rfl rfl (S_load 2 rfl (AEv.tmp rfl) rfl rfl (by kernel_rfl)) ?_
        refine AL_p rfl rfl (by first | exact S_lenM (e := 40) rfl (AEv.tmp rfl) (by kernel_rfl) | exact S_len (e := 40) rfl (AEv.tmp rfl) (by kernel_rfl)) ?_
        refine AL_p rfl rfl (S_move rfl (AEv.const _)) ?_
        refine AL_nil ?_
        refine AC_block ?_
        refine AC_loopK (G := Nat) [(2, _), (3, _), (7, _), (33, _), (34, _)] (fun g => g ≤ s.init.length) (fun g => [(35, .int .i64 (g : Int))]) (fun g => (b4, .cells (resL (maxTo (sumR (0, 0, 0) (reqs s.main)).1 (s.init.take g)))) :: (b2, .cells (resL (0, 0, 0))) :: (b1, .cells (spcL s)) :: st) (fun g => s.init.length - g) (0) (Nat.zero_le _) (Sub.l (List.Sublist.cons_cons _ (List.Sublist.cons_cons _ (List.Sublist.cons_cons _ (List.sublist_append_right _ _))))) (.cons rfl (Le.refl _) (.cons rfl (Le.refl _) (.cons rfl (Le.refl _) (.cons rfl (Le.refl _) (.cons rfl (Le.refl _) .nil))))) (.cons rfl (by first | exact Le.refl _ | exact Le.nils | exact Le.row _ _ _ _ | exact Le.of_eq (by first | rfl | (simp; done) | (push_cast; rfl) | (simp; omega))) .nil) ?_
        · rintro i hi
          try dsimp only
          simp only [List.cons_append, List.nil_append]
          refine AC_seq ?_
          refine AC_region ?_
          refine AL_p rfl rfl (S_lss rfl (AEv.tmp rfl) (AEv.tmp rfl)) ?_
          refine AL_nil ?_
          refine AC_seq ?_
          refine AC_cond (AEv.tmp rfl) (fun hb9 => ?_) (fun hb9 => ?_)
          · try simp only [Bool.and_eq_true, Bool.or_eq_true, Bool.not_eq_true', Bool.not_eq_false', Bool.and_eq_false_iff, Bool.or_eq_false_iff, decide_eq_true_eq, decide_eq_false_iff_not, gd] at hb9
            have hil : i < s.init.length := by omega
            refine AC_skip ?_
            refine AC_seq ?_
            refine AC_block ?_
            refine AC_seq ?_
            refine AC_region ?_
            refine AL_p rfl rfl (S_elemN (e := 40) 11 rfl (AEv.tmp rfl) (AEv.tmp rfl) (by kernel_rfl) (by kernel_rfl) (by omega) (fun _ => rfl)) ?_
            refine AL_p rfl rfl (S_loadPN (m := 11) rfl (AEv.tmp rfl) (by kernel_rfl) (by first | exact Nat.le_of_ble_eq_true rfl | (simp; omega) | simp)) ?_
            refine AL_step rfl rfl (S_alloc [.string ⟨#[]⟩, .string ⟨#[]⟩, .int .i64 0, .int .i64 0, .int .i64 0, .int .i64 0, .int .i64 0, .int .i64 0, .slice none 0 0, .int .i64 0, .int .i64 0] rfl (by kernel_rfl)) ?_
            rintro _ _ ⟨b10, rfl, rfl⟩
            refine AL_step rfl rfl (S_storeW 0 rfl (AEv.tmp rfl) (AEv.tmp rfl) rfl rfl rfl (by kernel_rfl)) ?_
            rintro _ _ ⟨rfl, rfl⟩
            refine AL_nil ?_
            refine AC_region ?_
            refine AL_p rfl rfl (S_loadN (m := 3) 1 rfl (AEv.tmp rfl) rfl (by kernel_rfl) (by first | exact Nat.le_of_ble_eq_true rfl | (simp; omega) | simp)) ?_
            refine AL_p rfl rfl (S_field 2 rfl (AEv.tmp rfl) (by kernel_rfl)) ?_
            refine AL_p rfl rfl (S_loadN (m := 3) 0 rfl (AEv.tmp rfl) rfl (by kernel_rfl) (by first | exact Nat.le_of_ble_eq_true rfl | (simp; omega) | simp)) ?_
            refine AL_p rfl rfl (S_pcall rfl (AEvs.cons (AEv.tmp rfl) (AEvs.cons (AEv.tmp rfl) AEvs.nil)) (res_Max_ok _ _ (maxTo_fits (sumR_fits _ _ (by decide)) fun c hc => hi3 c (List.mem_of_mem_take hc)) (hi3 _ (List.getElem_mem hil)))) ?_
            refine AL_step rfl rfl (S_storeW 1 rfl (AEv.tmp rfl) (AEv.tmp rfl) rfl rfl rfl (by kernel_rfl)) ?_
            rintro _ _ ⟨rfl, rfl⟩
            refine AL_nil ?_
            refine AC_region ?_
            refine AL_p rfl rfl (S_addI rfl (AEv.tmp rfl) (AEv.const _) (by omega) (by omega)) ?_
            refine AL_p rfl rfl (S_move rfl (AEv.tmp rfl)) ?_
            refine AL_nil ?_
            exact ⟨i + 1, by omega, by omega, by rw [maxTo_next hil]; exact Sub.l (List.Sublist.cons _ (List.Sublist.refl _)), (.cons rfl (by first | exact Le.refl _ | exact Le.nils | exact Le.row _ _ _ _ | exact Le.of_eq (by first | rfl | (simp; done) | (push_cast; rfl) | (simp; omega))) .nil), (.cons rfl (Le.refl _) (.cons rfl (Le.refl _) (.cons rfl (Le.refl _) (.cons rfl (Le.refl _) (.cons rfl (Le.refl _) .nil)))))⟩
          · try simp only [Bool.and_eq_true, Bool.or_eq_true, Bool.not_eq_true', Bool.not_eq_false', Bool.and_eq_false_iff, Bool.or_eq_false_iff, decide_eq_true_eq, decide_eq_false_iff_not, gd] at hb9
            obtain rfl : i = s.init.length := by omega
            refine AC_exit ?_
            refine AC_seq ?_
            refine AC_region ?_
            refine AL_p rfl rfl (S_loadN (m := 3) 0 rfl (AEv.tmp rfl) rfl (by kernel_rfl) (by first | exact Nat.le_of_ble_eq_true rfl | (simp; omega) | simp)) ?_
            refine AL_step rfl rfl (S_storeW 1 rfl (AEv.tmp rfl) (AEv.tmp rfl) rfl rfl rfl (by kernel_rfl)) ?_
            rintro _ _ ⟨rfl, rfl⟩
            refine AL_p rfl rfl (S_assign rfl (AEv.const _)) ?_
            refine AL_nil ?_
            refine AC_ret ?_
            refine ret_outs st rfl (by decide) (OutsR.row 1 rfl rfl (by kernel_rfl) (OutsR.tmp rfl OutsR.nil)) (Sub.l (List.Sublist.cons _ (List.Sublist.cons _ (List.Sublist.cons _ (List.Sublist.refl _))))) (Conv.refl (Sub.l (List.Sublist.cons _ (List.Sublist.cons _ (List.Sublist.cons _ (List.Sublist.refl _))))) _) ⟨by rw [hok, List.take_length]; rfl, rfl⟩ (.inl rfl)

set_option maxRecDepth 100000 in
/-- provost/provostlaw14.ResCovers -/
theorem law_ResCovers (s : Spc) (hi3 : ∀ c ∈ s.init, fits3 c.req) (hm3 : ∀ c ∈ s.main, fits3 c.req) : GCalls Tryd.prog tabs 3 [spcAV s] (.bool true) := by
  intro st hG
  refine ACalls_of (N := 122) Tryd.func3 (by kernel_rfl) rfl rfl rfl ?_
  refine AC_seq ?_
  refine AC_region ?_
  refine AL_step rfl rfl (S_box rfl (AEv.tmp rfl)) ?_
  rintro _ _ ⟨b1, rfl, rfl⟩
  refine AL_p rfl rfl (S_assign rfl (AEv.const _)) ?_
  refine AL_nil ?_
  refine AC_seq ?_
  refine AC_seq ?_
  refine AC_region ?_
  refine AL_p rfl rfl (S_pcall rfl AEvs.nil (law_works)) ?_
  refine AL_p rfl rfl (S_not rfl (AEv.tmp rfl)) ?_
  refine AL_nil ?_
  refine AC_cond (AEv.tmp rfl) (fun hb2 => ?_) (fun hb2 => ?_)
  · simp at hb2; done
  · try simp only [Bool.and_eq_true, Bool.or_eq_true, Bool.not_eq_true', Bool.not_eq_false', Bool.and_eq_false_iff, Bool.or_eq_false_iff, decide_eq_true_eq, decide_eq_false_iff_not, gd] at hb2
    refine AC_skip ?_
    refine AC_seq ?_
    refine AC_seq ?_
    refine AC_region ?_
    refine AL_p rfl rfl (S_loadN (m := 7) 0 rfl (AEv.tmp rfl) rfl (by kernel_rfl) (by first | exact Nat.le_of_ble_eq_true rfl | (simp; omega) | simp)) ?_
    refine AL_p rfl rfl (S_pcall rfl (AEvs.cons (AEv.tmp rfl) AEvs.nil) (book_LightSpec_ok _)) ?_
    refine AL_p rfl rfl (S_not rfl (AEv.tmp rfl)) ?_
    refine AL_p rfl rfl (S_move rfl (AEv.tmp rfl)) ?_
    refine AL_g rfl rfl (AEv.tmp rfl) rfl (fun hg3 => S_loadN (m := 7) 0 rfl (AEv.tmp rfl) rfl (by kernel_rfl) (by first | exact Nat.le_of_ble_eq_true rfl | (simp; omega) | simp)) ?_
    refine AL_g rfl rfl (AEv.tmp rfl) rfl (fun hg6 => S_gcall rfl (AEvs.cons (AEv.cond (AEv.tmp rfl) (by first | assumption | exact gdAnd (by assumption) (by assumption))) AEvs.nil) ((spec_Check_ok s (gd_nf (by assumption))) _ (fun p hp => by first | exact hG p hp | (simp [hG p hp]; done)))) ?_
    refine AL_g rfl rfl (AEv.tmp rfl) rfl (fun hg9 => S_neqE (er_is 48 76 (checkE s)) rfl (AEv.cond (AEv.tmp rfl) (by first | assumption | exact gdAnd (by assumption) (by assumption))) (by kernel_rfl)) ?_
    refine AL_p rfl rfl (S_or rfl (AEv.tmp rfl) (fun hp12 => (AEv.cond (AEv.tmp rfl) (by first | assumption | exact gdT hp12 | exact gdF hp12 | exact gdAnd (by assumption) (gdT hp12) | exact gdAnd (by assumption) (gdF hp12))))) ?_
    refine AL_nil ?_
    refine AC_cond (AEv.tmp rfl) (fun hb13 => ?_) (fun hb13 => ?_)
    · try simp only [Bool.and_eq_true, Bool.or_eq_true, Bool.not_eq_true', Bool.not_eq_false', Bool.and_eq_false_iff, Bool.or_eq_false_iff, decide_eq_true_eq, decide_eq_false_iff_not, gd] at hb13
      refine AC_seq ?_
      refine AC_region ?_
      refine AL_p rfl rfl (S_assign rfl (AEv.const _)) ?_
      refine AL_nil ?_
      refine AC_ret ?_
      refine ret_tmp st rfl rfl (Sub.l (List.Sublist.cons _ (List.Sublist.refl _))) (Conv.refl (Sub.l (List.Sublist.cons _ (List.Sublist.refl _))) _) ⟨rfl, rfl⟩ (.inl rfl)
    · try simp only [Bool.and_eq_true, Bool.or_eq_true, Bool.not_eq_true', Bool.not_eq_false', Bool.and_eq_false_iff, Bool.or_eq_false_iff, decide_eq_true_eq, decide_eq_false_iff_not, gd] at hb13
      obtain ⟨hl, hc⟩ : lightS s = true ∧ checkE s = none := by
        cases h1 : lightS s <;> cases h2 : checkE s <;> simp [h1, h2] at hb13 ⊢
      obtain ⟨h1, h2, h3, h4, h5, h6, h7⟩ := lightS_out hl
      have hof := ofR_fits hi3 hm3
      have hok : (ofR s).2 = true := by rw [ofR_good (check_reqs hc).2.1 h4]
      refine AC_skip ?_
      refine AC_seq ?_
      refine AC_region ?_
      refine AL_p rfl rfl (S_loadN (m := 7) 0 rfl (AEv.tmp rfl) rfl (by kernel_rfl) (by first | exact Nat.le_of_ble_eq_true rfl | (simp; omega) | simp)) ?_
      refine AL_p rfl rfl (S_pcall rfl (AEvs.cons (AEv.tmp rfl) AEvs.nil) (res_Of_ok s h3 h4 hi3 hm3)) ?_
      refine AL_p rfl rfl (S_move rfl (AEv.tmp rfl)) ?_
      refine AL_p rfl rfl (S_extract 0 rfl (AEv.tmp rfl) rfl) ?_
      refine AL_p rfl rfl (S_extract 1 rfl (AEv.tmp rfl) rfl) ?_
      refine AL_step rfl rfl (S_alloc [.int .i64 0, .int .i64 0, .int .i64 0] rfl (by kernel_rfl)) ?_
      rintro _ _ ⟨b3, rfl, rfl⟩
      refine AL_step rfl rfl (S_storeW 0 rfl (AEv.tmp rfl) (AEv.tmp rfl) rfl rfl rfl (by kernel_rfl)) ?_
      rintro _ _ ⟨rfl, rfl⟩
      refine AL_p rfl rfl (S_assign rfl (AEv.tmp rfl)) ?_
      refine AL_nil ?_
      refine AC_seq ?_
      refine AC_seq ?_
      refine AC_region ?_
      refine AL_p rfl rfl (S_move rfl (AEv.tmp rfl)) ?_
      refine AL_p rfl rfl (S_not rfl (AEv.tmp rfl)) ?_
      refine AL_nil ?_
      refine AC_cond (AEv.tmp rfl) (fun hb15 => ?_) (fun hb15 => ?_)
      · rw [hok] at hb15; simp at hb15
      · try simp only [Bool.and_eq_true, Bool.or_eq_true, Bool.not_eq_true', Bool.not_eq_false', Bool.and_eq_false_iff, Bool.or_eq_false_iff, decide_eq_true_eq, decide_eq_false_iff_not, gd] at hb15
        refine AC_skip ?_
        refine AC_seq ?_
        refine AC_seq ?_
        refine AC_region ?_
        refine AL_p rfl rfl (S_field 2 rfl (AEv.tmp rfl) (by kernel_rfl)) ?_
        refine AL_p rfl rfl (S_load 1 rfl (AEv.tmp rfl) rfl rfl (by kernel_rfl)) ?_
        refine AL_p rfl rfl (by first | exact S_lenM (e := 40) rfl (AEv.tmp rfl) (by kernel_rfl) | exact S_len (e := 40) rfl (AEv.tmp rfl) (by kernel_rfl)) ?_
        refine AL_p rfl rfl (S_move rfl (AEv.const _)) ?_
        refine AL_nil ?_
        refine AC_block ?_
        refine AC_loopK (G := Nat) [(1, _), (3, _), (33, _)] (fun g => g ≤ s.init.length) (fun g => [(34, .int .i64 (g : Int))]) (fun g => (b3, .cells (resL (ofR s).1)) :: (b1, .cells (spcL s)) :: st) (fun g => s.init.length - g) (0) (Nat.zero_le _) (Sub.l (List.Sublist.refl _)) (.cons rfl (Le.refl _) (.cons rfl (Le.refl _) (.cons rfl (Le.refl _) .nil))) (.cons rfl (by first | exact Le.refl _ | exact Le.nils | exact Le.row _ _ _ _ | exact Le.of_eq (by first | rfl | (simp; done) | (push_cast; rfl) | (simp; omega))) .nil) ?_
        · rintro i hi
          try dsimp only
          simp only [List.cons_append, List.nil_append]
          refine AC_seq ?_
          refine AC_region ?_
          refine AL_p rfl rfl (S_lss rfl (AEv.tmp rfl) (AEv.tmp rfl)) ?_
          refine AL_nil ?_
          refine AC_seq ?_
          refine AC_cond (AEv.tmp rfl) (fun hb16 => ?_) (fun hb16 => ?_)
          · try simp only [Bool.and_eq_true, Bool.or_eq_true, Bool.not_eq_true', Bool.not_eq_false', Bool.and_eq_false_iff, Bool.or_eq_false_iff, decide_eq_true_eq, decide_eq_false_iff_not, gd] at hb16
            have hil : i < s.init.length := by omega
            refine AC_skip ?_
            refine AC_seq ?_
            refine AC_block ?_
            refine AC_seq ?_
            refine AC_region ?_
            refine AL_p rfl rfl (S_move rfl (AEv.tmp rfl)) ?_
            refine AL_p rfl rfl (S_assign rfl (AEv.tmp rfl)) ?_
            refine AL_nil ?_
            refine AC_seq ?_
            refine AC_draw (by kernel_rfl) (by kernel_rfl) (.cons rfl (Q_p rfl (S_field 2 rfl (AEv.tmp rfl) (by kernel_rfl))) <|
                .cons rfl (Q_p rfl (S_load 1 rfl (AEv.tmp rfl) rfl rfl (by kernel_rfl))) <|
                .cons rfl (Q_p rfl (S_move rfl (AEv.tmp rfl))) <|
                .cons rfl (Q_p rfl (S_elemN (e := 40) 11 rfl (AEv.tmp rfl) (AEv.tmp rfl) (by kernel_rfl) (by kernel_rfl) (by omega) (fun _ => rfl))) <|
                .cons rfl (Q_p rfl (S_fieldP 2 rfl (AEv.tmp rfl) (by kernel_rfl))) <|
                .cons rfl (Q_p rfl (S_loadPN (m := 3) rfl (AEv.tmp rfl) (by kernel_rfl) (by first | exact Nat.le_of_ble_eq_true rfl | (simp; omega) | simp))) <|
                .cons rfl (Q_p rfl (S_loadN (m := 3) 0 rfl (AEv.tmp rfl) rfl (by kernel_rfl) (by first | exact Nat.le_of_ble_eq_true rfl | (simp; omega) | simp))) <|
                .cons rfl (Q_p rfl (S_pcall rfl (AEvs.cons (y := resAV (s.init[i]'hil).req) (AEv.tmp rfl) (AEvs.cons (y := resAV (ofR s).1) (AEv.tmp rfl) AEvs.nil)) (res_Fits_ok _ _ (hi3 _ (List.getElem_mem hil)) hof))) <|
                .cons rfl (Q_p rfl (S_not rfl (AEv.tmp rfl))) <|
                .nil) ?_
            refine AC_cond (AEv.tmp rfl) (fun hb17 => ?_) (fun hb17 => ?_)
            · rw [covers_init hc hil h4] at hb17; simp at hb17
            · try simp only [Bool.and_eq_true, Bool.or_eq_true, Bool.not_eq_true', Bool.not_eq_false', Bool.and_eq_false_iff, Bool.or_eq_false_iff, decide_eq_true_eq, decide_eq_false_iff_not, gd] at hb17
              refine AC_skip ?_
              refine AC_region ?_
              refine AL_p rfl rfl (S_addI rfl (AEv.tmp rfl) (AEv.const _) (by omega) (by omega)) ?_
              refine AL_p rfl rfl (S_move rfl (AEv.tmp rfl)) ?_
              refine AL_nil ?_
              exact ⟨i + 1, by omega, by omega, Sub.l (List.Sublist.refl _), (.cons rfl (by first | exact Le.refl _ | exact Le.nils | exact Le.row _ _ _ _ | exact Le.of_eq (by first | rfl | (simp; done) | (push_cast; rfl) | (simp; omega))) .nil), (.cons rfl (Le.refl _) (.cons rfl (Le.refl _) (.cons rfl (Le.refl _) .nil)))⟩
          · try simp only [Bool.and_eq_true, Bool.or_eq_true, Bool.not_eq_true', Bool.not_eq_false', Bool.and_eq_false_iff, Bool.or_eq_false_iff, decide_eq_true_eq, decide_eq_false_iff_not, gd] at hb16
            refine AC_exit ?_
            refine AC_seq ?_
            refine AC_seq ?_
            refine AC_region ?_
            refine AL_p rfl rfl (S_field 3 rfl (AEv.tmp rfl) (by kernel_rfl)) ?_
            refine AL_p rfl rfl (S_load 1 rfl (AEv.tmp rfl) rfl rfl (by kernel_rfl)) ?_
            refine AL_p rfl rfl (by first | exact S_lenM (e := 40) rfl (AEv.tmp rfl) (by kernel_rfl) | exact S_len (e := 40) rfl (AEv.tmp rfl) (by kernel_rfl)) ?_
            refine AL_p rfl rfl (S_move rfl (AEv.const _)) ?_
            refine AL_nil ?_
            refine AC_block ?_
            refine AC_loopK (G := Nat) [(1, _), (3, _), (49, _)] (fun g => g ≤ s.main.length) (fun g => [(50, .int .i64 (g : Int))]) (fun g => (b3, .cells (resL (ofR s).1)) :: (b1, .cells (spcL s)) :: st) (fun g => s.main.length - g) (0) (Nat.zero_le _) (Sub.l (List.Sublist.refl _)) (.cons rfl (Le.refl _) (.cons rfl (Le.refl _) (.cons rfl (Le.refl _) .nil))) (.cons rfl (by first | exact Le.refl _ | exact Le.nils | exact Le.row _ _ _ _ | exact Le.of_eq (by first | rfl | (simp; done) | (push_cast; rfl) | (simp; omega))) .nil) ?_
            · rintro i hi
              try dsimp only
              simp only [List.cons_append, List.nil_append]
              refine AC_seq ?_
              refine AC_region ?_
              refine AL_p rfl rfl (S_lss rfl (AEv.tmp rfl) (AEv.tmp rfl)) ?_
              refine AL_nil ?_
              refine AC_seq ?_
              refine AC_cond (AEv.tmp rfl) (fun hb18 => ?_) (fun hb18 => ?_)
              · try simp only [Bool.and_eq_true, Bool.or_eq_true, Bool.not_eq_true', Bool.not_eq_false', Bool.and_eq_false_iff, Bool.or_eq_false_iff, decide_eq_true_eq, decide_eq_false_iff_not, gd] at hb18
                have hil : i < s.main.length := by omega
                obtain ⟨k1, k2, k3, k4, k5, k6⟩ := covers_main hc hil h4
                have hof2 := ofR_fits (s := { s with main := dropC s.main i }) hi3 (fun c hc => hm3 c (dropC_mem hc))
                have hof3 := ofR_fits (s := ⟨[], [], [], dropC s.main i, 0, 0, 0⟩) (fun c hc => nomatch hc) (fun c hc => hm3 c (dropC_mem hc))
                refine AC_skip ?_
                refine AC_seq ?_
                refine AC_block ?_
                refine AC_seq ?_
                refine AC_region ?_
                refine AL_p rfl rfl (S_move rfl (AEv.tmp rfl)) ?_
                refine AL_p rfl rfl (S_assign rfl (AEv.tmp rfl)) ?_
                refine AL_nil ?_
                refine AC_seq ?_
                refine AC_region ?_
                refine AL_p rfl rfl (S_loadN (m := 7) 1 rfl (AEv.tmp rfl) rfl (by kernel_rfl) (by first | exact Nat.le_of_ble_eq_true rfl | (simp; omega) | simp)) ?_
                refine AL_step rfl rfl (S_alloc [.string ⟨#[]⟩, .slice none 0 0, .slice none 0 0, .slice none 0 0, .int .i64 0, .int .i64 0, .int .i64 0] rfl (by kernel_rfl)) ?_
                rintro _ _ ⟨b7, rfl, rfl⟩
                refine AL_step rfl rfl (S_storeW 0 rfl (AEv.tmp rfl) (AEv.tmp rfl) rfl rfl rfl (by kernel_rfl)) ?_
                rintro _ _ ⟨rfl, rfl⟩
                refine AL_nil ?_
                refine AC_seq ?_
                refine AC_plan (σ := [(1, 0), (2, 0), (3, 0), (4, 0), (6, 0), (7, 0), (8, 0), (9, 0), (10, 0), (0, 1), (5, 1), (11, 2), (12, 0), (13, 2)]) (by kernel_rfl) [_, _, _] (by kernel_rfl) (fun r hr => List.mem_append_left _ hr) ?_
                refine AG.f rfl rfl (fun st' hst => Q_p rfl (S_field 3 rfl (AEv.tmp rfl) (by kernel_rfl))) ?_
                refine AG.f rfl rfl (fun st' hst => Q_p rfl (S_loadM rfl (AEv.tmp rfl) (hst _ (List.mem_of_getElem? (i := 2) rfl)) rfl (by kernel_rfl))) ?_
                refine AG.f rfl rfl (fun st' hst => Q_p rfl (S_move rfl (AEv.tmp rfl))) ?_
                refine AG.f rfl rfl (fun st' hst => Q_p rfl (S_cutHM (e := 40) (j := i) 11 rfl (AEv.tmp rfl) ((AEv.tmp rfl).le (Le.of_eq (congrArg (AV.int _) (by omega)))) (by kernel_rfl) (by kernel_rfl) (fun _ => rfl) (by omega))) ?_
                refine AG.f rfl rfl (fun st' hst => Q_p rfl (S_field 3 rfl (AEv.tmp rfl) (by kernel_rfl))) ?_
                refine AG.f rfl rfl (fun st' hst => Q_p rfl (S_loadM rfl (AEv.tmp rfl) (hst _ (List.mem_of_getElem? (i := 2) rfl)) rfl (by kernel_rfl))) ?_
                refine AG.f rfl rfl (fun st' hst => Q_p rfl (S_move rfl (AEv.tmp rfl))) ?_
                refine AG.f rfl rfl (fun st' hst => Q_p rfl (S_addI rfl (AEv.tmp rfl) (AEv.const _) (by omega) (by omega))) ?_
                refine AG.f rfl rfl (fun st' hst => Q_p rfl (S_cutLM (e := 40) (i := i + 1) 11 rfl (AEv.tmp rfl) ((AEv.tmp rfl).le (Le.of_eq (congrArg (AV.int _) (by omega)))) (by kernel_rfl) (by kernel_rfl) (fun _ => rfl) (by omega))) ?_
                refine AG.s rfl rfl rfl (S_build0 (e := 40) rfl rfl (by kernel_rfl) (by kernel_rfl)) ?_ ?_
                · rintro _ st9 ⟨A, rfl, rfl⟩ r hr; exact List.mem_append_left _ hr
                rintro _ st9 ⟨A, rfl, h9⟩
                rw [h9]
                clear h9 st9
                refine AG.s rfl rfl rfl (S_appendAny (f := ctrAV) (l := []) (l2 := s.main.take i) (e := 40) (size := 11) (bytes := 120) (p := .emp A) ([_, _, _]) (st) rfl (AEv.tmp rfl) (AEv.tmp rfl) rfl rfl (by kernel_rfl) (fun _ => ⟨rfl, rfl⟩) (by simp only [List.length_nil, List.length_take]; omega) (by simp only [List.length_nil, List.length_take]; omega)) ?_ ?_
                · rintro _ _ ⟨p8, hp8, rfl, rfl⟩ r hr; exact List.mem_append_left _ hr
                rintro _ _ ⟨p8, hp8, rfl, rfl⟩
                refine AG.h rfl rfl rfl (S_appendAny (f := ctrAV) (l := [] ++ s.main.take i) (l2 := s.main.drop (i + 1)) (e := 40) (size := 11) (bytes := 120) (p := p8) ([_, _, _]) (st) rfl (AEv.tmp rfl) (AEv.tmp rfl) rfl hp8 (by kernel_rfl) (fun _ => ⟨rfl, rfl⟩) (by simp only [List.nil_append, List.length_drop, List.length_take]; omega) (by simp only [List.nil_append, List.length_drop, List.length_take]; omega)) ?_
                rintro _ _ ⟨p9, hp9, rfl, rfl⟩
                refine AG.f rfl rfl (fun st' hst => Q_p rfl (S_field 3 rfl (AEv.tmp rfl) (by kernel_rfl))) ?_
                refine AG.h rfl rfl rfl (S_store 0 rfl (AEv.tmp rfl) (AEv.tmp rfl) rfl (by first | exact Nat.le_of_ble_eq_true rfl | simp) (by first | rfl | exact ownAV_one _ _ _) (by kernel_rfl)) ?_
                rintro _ _ ⟨rfl, rfl⟩
                refine AG.nil ?_
                refine AC_seq ?_
                refine AC_region ?_
                refine AL_p rfl rfl (S_loadN (m := 7) 0 rfl (AEv.tmp rfl) rfl (by kernel_rfl) (by first | exact Nat.le_of_ble_eq_true rfl | (simp; omega) | simp)) ?_
                refine AL_p rfl rfl (S_pcall rfl (AEvs.cons (y := spcAV { s with main := dropC s.main i }) ((AEv.tmp rfl).le (Les.agg (.cons (Le.refl _) (.cons (Le.refl _) (.cons (Le.refl _) (.cons (Le_own hp9) (.cons (Le.refl _) (.cons (Le.refl _) (.cons (Le.refl _) .nil))))))))) AEvs.nil) (res_Of_ok { s with main := dropC s.main i } h3 (Nat.le_trans dropC_len h4) hi3 (fun c hc => hm3 c (dropC_mem hc)))) ?_
                refine AL_p rfl rfl (S_move rfl (AEv.tmp rfl)) ?_
                refine AL_p rfl rfl (S_extract 0 rfl (AEv.tmp rfl) rfl) ?_
                refine AL_p rfl rfl (S_extract 1 rfl (AEv.tmp rfl) rfl) ?_
                refine AL_step rfl rfl (S_alloc [.int .i64 0, .int .i64 0, .int .i64 0] rfl (by kernel_rfl)) ?_
                rintro _ _ ⟨b8, rfl, rfl⟩
                refine AL_step rfl rfl (S_storeW 0 rfl (AEv.tmp rfl) (AEv.tmp rfl) rfl rfl rfl (by kernel_rfl)) ?_
                rintro _ _ ⟨rfl, rfl⟩
                refine AL_p rfl rfl (S_assign rfl (AEv.tmp rfl)) ?_
                refine AL_nil ?_
                refine AC_seq ?_
                refine AC_seq ?_
                refine AC_draw (by kernel_rfl) (by kernel_rfl) (.cons rfl (Q_p rfl (S_move rfl (AEv.tmp rfl))) <|
                    .cons rfl (Q_p rfl (S_not rfl (AEv.tmp rfl))) <|
                    .cons rfl (Q_p rfl (S_move rfl (AEv.tmp rfl))) <|
                    .cons rfl (Q_g rfl rfl (AEv.tmp rfl) (fun hg21 => S_loadN (m := 3) 0 rfl (AEv.tmp rfl) rfl (by kernel_rfl) (by first | exact Nat.le_of_ble_eq_true rfl | (simp; omega) | simp))) <|
                    .cons rfl (Q_g rfl rfl (AEv.tmp rfl) (fun hg24 => S_loadN (m := 3) 2 rfl (AEv.tmp rfl) rfl (by kernel_rfl) (by first | exact Nat.le_of_ble_eq_true rfl | (simp; omega) | simp))) <|
                    .cons rfl (Q_g rfl rfl (AEv.tmp rfl) (fun hg27 => S_pcall rfl (AEvs.cons (y := resAV (ofR { s with main := dropC s.main i }).1) (AEv.cond (AEv.tmp rfl) (by first | assumption | exact gdAnd (by assumption) (by assumption))) (AEvs.cons (y := resAV (ofR s).1) (AEv.cond (AEv.tmp rfl) (by first | assumption | exact gdAnd (by assumption) (by assumption))) AEvs.nil)) (res_Fits_ok _ _ hof2 hof))) <|
                    .cons rfl (Q_g rfl rfl (AEv.tmp rfl) (fun hg30 => S_not rfl (AEv.cond (AEv.tmp rfl) (by first | assumption | exact gdAnd (by assumption) (by assumption))))) <|
                    .cons rfl (Q_p rfl (S_or rfl (AEv.tmp rfl) (fun hp33 => (AEv.cond (AEv.tmp rfl) (by first | assumption | exact gdT hp33 | exact gdF hp33 | exact gdAnd (by assumption) (gdT hp33) | exact gdAnd (by assumption) (gdF hp33)))))) <|
                    .cons rfl (Q_p rfl (S_move rfl (AEv.tmp rfl))) <|
                    .cons rfl (Q_g rfl rfl (AEv.tmp rfl) (fun hg34 => S_field 3 rfl (AEv.tmp rfl) (by kernel_rfl))) <|
                    .cons rfl (Q_g rfl rfl (AEv.tmp rfl) (fun hg37 => S_load 3 rfl (AEv.cond (AEv.tmp rfl) (by first | assumption | exact gdAnd (by assumption) (by assumption))) rfl rfl (by kernel_rfl))) <|
                    .cons rfl (Q_g rfl rfl (AEv.tmp rfl) (fun hg40 => S_move rfl (AEv.tmp rfl))) <|
                    .cons rfl (Q_g rfl rfl (AEv.tmp rfl) (fun hg43 => S_elemN (e := 40) (f := ctrAV) 11 rfl (AEv.cond (AEv.tmp rfl) (by first | assumption | exact gdAnd (by assumption) (by assumption))) (AEv.cond (AEv.tmp rfl) (by first | assumption | exact gdAnd (by assumption) (by assumption))) (by kernel_rfl) (by kernel_rfl) (by (try simp only [gd, Bool.and_eq_true, Bool.or_eq_true, Bool.not_eq_true', Bool.not_eq_false', decide_eq_true_eq, decide_eq_false_iff_not, Bool.or_eq_false_iff, Bool.and_eq_false_iff] at *); omega) (fun _ => rfl))) <|
                    .cons rfl (Q_g rfl rfl (AEv.tmp rfl) (fun hg46 => S_fieldP 2 rfl (AEv.cond (AEv.tmp rfl) (by first | assumption | exact gdAnd (by assumption) (by assumption))) (by kernel_rfl))) <|
                    .cons rfl (Q_g rfl rfl (AEv.tmp rfl) (fun hg49 => S_loadPN (m := 3) rfl (AEv.cond (AEv.tmp rfl) (by first | assumption | exact gdAnd (by assumption) (by assumption))) (by kernel_rfl) (by first | exact Nat.le_of_ble_eq_true rfl | (simp; omega) | simp))) <|
                    .cons rfl (Q_g rfl rfl (AEv.tmp rfl) (fun hg52 => S_loadN (m := 3) 2 rfl (AEv.tmp rfl) rfl (by kernel_rfl) (by first | exact Nat.le_of_ble_eq_true rfl | (simp; omega) | simp))) <|
                    .cons rfl (Q_g rfl rfl (AEv.tmp rfl) (fun hg55 => S_pcall rfl (AEvs.cons (y := resAV (s.main[i]'hil).req) (AEv.cond (AEv.tmp rfl) (by first | assumption | exact gdAnd (by assumption) (by assumption))) (AEvs.cons (y := resAV (ofR s).1) (AEv.cond (AEv.tmp rfl) (by first | assumption | exact gdAnd (by assumption) (by assumption))) AEvs.nil)) (res_Fits_ok _ _ (hm3 _ (List.getElem_mem hil)) hof))) <|
                    .cons rfl (Q_g rfl rfl (AEv.tmp rfl) (fun hg58 => S_not rfl (AEv.cond (AEv.tmp rfl) (by first | assumption | exact gdAnd (by assumption) (by assumption))))) <|
                    .cons rfl (Q_p rfl (S_or rfl (AEv.tmp rfl) (fun hp61 => (AEv.cond (AEv.tmp rfl) (by first | assumption | exact gdT hp61 | exact gdF hp61 | exact gdAnd (by assumption) (gdT hp61) | exact gdAnd (by assumption) (gdF hp61)))))) <|
                    .nil) ?_
                refine AC_cond (AEv.tmp rfl) (fun hb62 => ?_) (fun hb62 => ?_)
                · rw [k1, k2, k3] at hb62; simp at hb62
                · try simp only [Bool.and_eq_true, Bool.or_eq_true, Bool.not_eq_true', Bool.not_eq_false', Bool.and_eq_false_iff, Bool.or_eq_false_iff, decide_eq_true_eq, decide_eq_false_iff_not, gd] at hb62
                  refine AC_skip ?_
                  refine AC_seq ?_
                  refine AC_region ?_
                  refine AL_p rfl rfl (S_field 3 rfl (AEv.tmp rfl) (by kernel_rfl)) ?_
                  refine AL_p rfl rfl (S_load 1 rfl (AEv.tmp rfl) rfl rfl (by kernel_rfl)) ?_
                  refine AL_p rfl rfl (S_build (t := 25) (pl := [(0, 1), (1, 1), (2, 1), (3, 1), (4, 1), (5, 1), (6, 1)]) (zs := [.string ⟨#[]⟩, .slice none 0 0, .slice none 0 0, .slice none 0 0, .int .i64 0, .int .i64 0, .int .i64 0]) rfl (AEvs.cons ((AEv.tmp rfl).le (Le_own hp9)) AEvs.nil) (by kernel_rfl) rfl) ?_
                  refine AL_p rfl rfl (S_pcall rfl (AEvs.cons (y := spcAV ⟨[], [], [], dropC s.main i, 0, 0, 0⟩) ((AEv.tmp rfl).le (Les.agg (.cons (Le.refl _) (.cons Le.nils (.cons Le.nils (.cons (Le.refl _) (.cons (Le.refl _) (.cons (Le.refl _) (.cons (Le.refl _) .nil))))))))) AEvs.nil) (res_Of_ok ⟨[], [], [], dropC s.main i, 0, 0, 0⟩ (Nat.zero_le _) (Nat.le_trans dropC_len h4) (fun c hc => nomatch hc) (fun c hc => hm3 c (dropC_mem hc)))) ?_
                  refine AL_p rfl rfl (S_move rfl (AEv.tmp rfl)) ?_
                  refine AL_p rfl rfl (S_extract 0 rfl (AEv.tmp rfl) rfl) ?_
                  refine AL_p rfl rfl (S_extract 1 rfl (AEv.tmp rfl) rfl) ?_
                  refine AL_step rfl rfl (S_alloc [.int .i64 0, .int .i64 0, .int .i64 0] rfl (by kernel_rfl)) ?_
                  rintro _ _ ⟨b10, rfl, rfl⟩
                  refine AL_step rfl rfl (S_storeW 0 rfl (AEv.tmp rfl) (AEv.tmp rfl) rfl rfl rfl (by kernel_rfl)) ?_
                  rintro _ _ ⟨rfl, rfl⟩
                  refine AL_p rfl rfl (S_assign rfl (AEv.tmp rfl)) ?_
                  refine AL_nil ?_
                  refine AC_seq ?_
                  refine AC_plan (σ := [(0, 0), (1, 0), (2, 0), (3, 0), (4, 0), (5, 0), (6, 0), (7, 0), (8, 0), (9, 0), (10, 0), (11, 3), (12, 1), (13, 0)]) (by kernel_rfl) [_, _, _, _, _] (by kernel_rfl) (fun r hr => List.mem_append_left _ hr) ?_
                  refine AG.f rfl rfl (fun st' hst => Q_p rfl (S_loadNM (m := 3) rfl (AEv.tmp rfl) (hst _ (List.mem_of_getElem? (i := 0) rfl)) (by kernel_rfl) (by first | exact Nat.le_of_ble_eq_true rfl | (simp; omega) | simp))) ?_
                  refine AG.f rfl rfl (fun st' hst => Q_p rfl (S_field 3 rfl (AEv.tmp rfl) (by kernel_rfl))) ?_
                  refine AG.f rfl rfl (fun st' hst => Q_p rfl (S_loadM rfl (AEv.tmp rfl) (hst _ (List.mem_of_getElem? (i := 4) rfl)) rfl (by kernel_rfl))) ?_
                  refine AG.f rfl rfl (fun st' hst => Q_p rfl (S_move rfl (AEv.tmp rfl))) ?_
                  refine AG.f rfl rfl (fun st' hst => Q_p rfl (S_elemN (e := 40) 11 rfl (AEv.tmp rfl) (AEv.tmp rfl) (by kernel_rfl) (by kernel_rfl) (by omega) (fun _ => rfl))) ?_
                  refine AG.f rfl rfl (fun st' hst => Q_p rfl (S_fieldP 2 rfl (AEv.tmp rfl) (by kernel_rfl))) ?_
                  refine AG.f rfl rfl (fun st' hst => Q_p rfl (S_loadPN (m := 3) rfl (AEv.tmp rfl) (by kernel_rfl) (by first | exact Nat.le_of_ble_eq_true rfl | (simp; omega) | simp))) ?_
                  refine AG.f rfl rfl (fun st' hst => Q_p rfl (S_pcall rfl (AEvs.cons (y := resAV (ofR ⟨[], [], [], dropC s.main i, 0, 0, 0⟩).1) (AEv.tmp rfl) (AEvs.cons (y := resAV (s.main[i]'hil).req) (AEv.tmp rfl) AEvs.nil)) (res_Add_ok _ _ hof3 (hm3 _ (List.getElem_mem hil))))) ?_
                  refine AG.f rfl rfl (fun st' hst => Q_p rfl (S_move rfl (AEv.tmp rfl))) ?_
                  refine AG.f rfl rfl (fun st' hst => Q_p rfl (S_extract 0 rfl (AEv.tmp rfl) rfl)) ?_
                  refine AG.f rfl rfl (fun st' hst => Q_p rfl (S_extract 1 rfl (AEv.tmp rfl) rfl)) ?_
                  refine AG.al [(11, 12, [.int .i64 0, .int .i64 0, .int .i64 0])] (by simp) (by simp) (AllocsAt.all (AllocsAt.cons rfl rfl rfl (by decide) rfl (by kernel_rfl) AllocsAt.nil)) (by simp) (fun β => ?_)
                  simp only [allocEnv, allocSt, List.foldl_cons, List.foldl_nil, List.map_cons, List.map_nil, List.cons_append, List.nil_append]
                  generalize β 12 = b12
                  refine AG.s rfl rfl rfl (S_storeW 0 rfl (AEv.tmp rfl) (AEv.tmp rfl) rfl rfl rfl (by kernel_rfl)) ?_ ?_
                  · rintro _ _ ⟨rfl, rfl⟩ _ h; first | exact h | exact List.mem_cons_of_mem _ h | exact List.mem_cons_of_mem _ (List.mem_cons_of_mem _ h) | exact List.mem_cons_of_mem _ (List.mem_cons_of_mem _ (List.mem_cons_of_mem _ h)) | exact List.mem_append_left _ h | exact List.mem_cons_of_mem _ (List.mem_append_left _ h) | exact List.mem_cons_of_mem _ (List.mem_cons_of_mem _ (List.mem_append_left _ h))
                  rintro _ _ ⟨rfl, rfl⟩
                  refine AG.f rfl rfl (fun st' hst => Q_p rfl (S_assign rfl (AEv.tmp rfl))) ?_
                  refine AG.nil ?_
                  refine AC_seq ?_
                  refine AC_region ?_
                  refine AL_p rfl rfl (S_move rfl (AEv.tmp rfl)) ?_
                  refine AL_p rfl rfl (S_not rfl (AEv.tmp rfl)) ?_
                  refine AL_p rfl rfl (S_move rfl (AEv.tmp rfl)) ?_
                  refine AL_g rfl rfl (AEv.tmp rfl) rfl (fun hg65 => S_move rfl (AEv.tmp rfl)) ?_
                  refine AL_g rfl rfl (AEv.tmp rfl) rfl (fun hg68 => S_not rfl (AEv.cond (AEv.tmp rfl) (by first | assumption | exact gdAnd (by assumption) (by assumption)))) ?_
                  refine AL_p rfl rfl (S_or rfl (AEv.tmp rfl) (fun hp71 => (AEv.cond (AEv.tmp rfl) (by first | assumption | exact gdT hp71 | exact gdF hp71 | exact gdAnd (by assumption) (gdT hp71) | exact gdAnd (by assumption) (gdF hp71))))) ?_
                  refine AL_p rfl rfl (S_move rfl (AEv.tmp rfl)) ?_
                  refine AL_g rfl rfl (AEv.tmp rfl) rfl (fun hg72 => S_loadN (m := 3) 0 rfl (AEv.tmp rfl) rfl (by kernel_rfl) (by first | exact Nat.le_of_ble_eq_true rfl | (simp; omega) | simp)) ?_
                  refine AL_g rfl rfl (AEv.tmp rfl) rfl (fun hg75 => S_loadN (m := 3) 4 rfl (AEv.tmp rfl) rfl (by kernel_rfl) (by first | exact Nat.le_of_ble_eq_true rfl | (simp; omega) | simp)) ?_
                  refine AL_g rfl rfl (AEv.tmp rfl) rfl (fun hg78 => S_pcall rfl (AEvs.cons (y := resAV (addR (ofR ⟨[], [], [], dropC s.main i, 0, 0, 0⟩).1 (s.main[i]'hil).req).1) (AEv.cond (AEv.tmp rfl) (by first | assumption | exact gdAnd (by assumption) (by assumption))) (AEvs.cons (y := resAV (ofR s).1) (AEv.cond (AEv.tmp rfl) (by first | assumption | exact gdAnd (by assumption) (by assumption))) AEvs.nil)) (res_Fits_ok _ _ (addR_fits _ _) hof)) ?_
                  refine AL_g rfl rfl (AEv.tmp rfl) rfl (fun hg81 => S_not rfl (AEv.cond (AEv.tmp rfl) (by first | assumption | exact gdAnd (by assumption) (by assumption)))) ?_
                  refine AL_p rfl rfl (S_or rfl (AEv.tmp rfl) (fun hp84 => (AEv.cond (AEv.tmp rfl) (by first | assumption | exact gdT hp84 | exact gdF hp84 | exact gdAnd (by assumption) (gdT hp84) | exact gdAnd (by assumption) (gdF hp84))))) ?_
                  refine AL_nil ?_
                  refine AC_cond (AEv.tmp rfl) (fun hb85 => ?_) (fun hb85 => ?_)
                  · rw [k4, k5, k6] at hb85; simp at hb85
                  · try simp only [Bool.and_eq_true, Bool.or_eq_true, Bool.not_eq_true', Bool.not_eq_false', Bool.and_eq_false_iff, Bool.or_eq_false_iff, decide_eq_true_eq, decide_eq_false_iff_not, gd] at hb85
                    refine AC_skip ?_
                    refine AC_region ?_
                    refine AL_p rfl rfl (S_addI rfl (AEv.tmp rfl) (AEv.const _) (by omega) (by omega)) ?_
                    refine AL_p rfl rfl (S_move rfl (AEv.tmp rfl)) ?_
                    refine AL_nil ?_
                    exact ⟨i + 1, by omega, by omega, Sub.l (List.Sublist.cons _ (List.Sublist.cons _ (List.Sublist.cons _ (List.Sublist.cons _ (List.Sublist.cons_cons _ (List.Sublist.cons_cons _ (List.sublist_append_right _ _))))))), (.cons rfl (by first | exact Le.refl _ | exact Le.nils | exact Le.row _ _ _ _ | exact Le.of_eq (by first | rfl | (simp; done) | (push_cast; rfl) | (simp; omega))) .nil), (.cons rfl (Le.refl _) (.cons rfl (Le.refl _) (.cons rfl (Le.refl _) .nil)))⟩
              · try simp only [Bool.and_eq_true, Bool.or_eq_true, Bool.not_eq_true', Bool.not_eq_false', Bool.and_eq_false_iff, Bool.or_eq_false_iff, decide_eq_true_eq, decide_eq_false_iff_not, gd] at hb18
                refine AC_exit ?_
                refine AC_seq ?_
                refine AC_region ?_
                refine AL_p rfl rfl (S_assign rfl (AEv.const _)) ?_
                refine AL_nil ?_
                refine AC_ret ?_
                refine ret_tmp st rfl rfl (Sub.l (List.Sublist.cons _ (List.Sublist.cons _ (List.Sublist.refl _)))) (Conv.refl (Sub.l (List.Sublist.cons _ (List.Sublist.cons _ (List.Sublist.refl _)))) _) ⟨rfl, rfl⟩ (.inl rfl)

end Go.Proofs.YtnjlecejhnoicaaDoor
