/- A part of the proof: what the program's functions answer.
Conditions: none beyond each theorem's own. -/
import Derived.Test.YtdljfalidkpfoaaDoorW2
/-
The walks of Go functions in the logic AL: what each of them answers.
Conditions: those of each theorem.
-/
set_option linter.unusedVariables false
set_option linter.unusedSimpArgs false
namespace Go.Proofs.YtdljfalidkpfoaaDoor
open Go.AL Go.NumSpec

set_option maxRecDepth 100000 in
/-- provost/provostref11.Merge -/
theorem ref11_Merge_ok (a b : List Lab) (ha : a.length ≤ 1000000) (hb : b.length ≤ 1000000) : PCalls Tryd.prog 26 [.sl (labsV a), .sl (labsV b)] (mergeAV (refM a a b)) := by
  intro st
  refine ACalls_of (N := 78) Tryd.func26 (by kernel_rfl) rfl rfl rfl ?_
  refine AC_seq ?_
  refine AC_region ?_
  refine AL_p rfl rfl (S_assign rfl (AEv.const _)) ?_
  refine AL_p rfl rfl (S_assign rfl (AEv.const _)) ?_
  refine AL_nil ?_
  refine AC_seq ?_
  refine AC_region ?_
  refine AL_step rfl rfl (S_build0 (e := 52) rfl rfl (by kernel_rfl) (by kernel_rfl)) ?_
  rintro _ st9 ⟨A, rfl, h9⟩
  rw [h9]
  clear h9 st9
  refine AL_p rfl rfl (S_move rfl (.tmp rfl)) ?_
  refine AL_step rfl rfl (S_appendAny (f := labAV) (l := []) (l2 := a) (e := 52) (size := 2) (bytes := 32) (p := .emp A) ([]) (st) rfl (.tmp rfl) (.tmp rfl) rfl rfl (by kernel_rfl) (fun _ => ⟨rfl, rfl⟩) (by simp only [List.length_nil]; omega) (by simp only [List.length_nil]; omega)) ?_
  rintro _ _ ⟨q0, hq0, rfl, rfl⟩
  refine AL_p rfl rfl (S_assign rfl (.tmp rfl)) ?_
  refine AL_nil ?_
  refine AC_seq ?_
  refine AC_seq ?_
  refine AC_region ?_
  refine AL_p rfl rfl (S_assign rfl (AEv.const _)) ?_
  refine AL_nil ?_
  refine AC_block ?_
  refine AC_loopK (G := Nat × List Lab × Own) [(0, _), (1, _)] (fun g => g.1 ≤ b.length ∧ refM a a b = refM a g.2.1 (b.drop g.1) ∧ g.2.2.ok (g.2.1.map labAV) ∧ g.2.1.length ≤ a.length + g.1) (fun g => [(6, ownAV g.2.2 2 (g.2.1.map labAV)), (7, .int .i64 (g.1 : Int))]) (fun g => ownSt g.2.2 52 2 ((g.2.1).map labAV) ++ st) (fun g => b.length - g.1) ((0, a, q0)) (⟨Nat.zero_le _, rfl, hq0, by dsimp only; omega⟩) (Sub.l (List.Sublist.refl _)) (.cons rfl (Le.refl _) (.cons rfl (Le.refl _) .nil)) (.cons rfl (by first | exact Le.refl _ | exact Le.nils | exact Le.row _ _ _ _ | exact Le.of_eq (by first | rfl | (simp; done) | (push_cast; rfl) | (simp; omega))) (.cons rfl (by first | exact Le.refl _ | exact Le.nils | exact Le.row _ _ _ _ | exact Le.of_eq (by first | rfl | (simp; done) | (push_cast; rfl) | (simp; omega))) .nil)) ?_
  rintro ⟨i, out, q⟩ ⟨hi, hr, hq, hol⟩
  try dsimp only
  simp only [List.cons_append, List.nil_append]
  dsimp only at hi hr hq hol
  refine AC_seq ?_
  refine AC_seq ?_
  refine AC_region ?_
  refine AL_p rfl rfl (S_move rfl (.tmp rfl)) ?_
  refine AL_p rfl rfl (S_move rfl (.tmp rfl)) ?_
  refine AL_p rfl rfl (by first | exact S_lenM (e := 52) rfl (.tmp rfl) (by kernel_rfl) | exact S_len (e := 52) rfl (.tmp rfl) (by kernel_rfl)) ?_
  refine AL_p rfl rfl (S_lss rfl (.tmp rfl) (.tmp rfl)) ?_
  refine AL_nil ?_
  refine AC_cond (.tmp rfl) (fun hb1 => ?_) (fun hb1 => ?_)
  · try simp only [zA, zO, zN, zM, zP, zQ, zD, zF, gd] at hb1
    have hib : i < b.length := by omega
    have hgd : b.getD i d0 = (b[i]'hib) := by rw [List.getD_eq_getElem?_getD, List.getElem?_eq_getElem hib]; rfl
    refine AC_skip ?_
    refine AC_seq ?_
    refine AC_block ?_
    refine AC_seq ?_
    refine AC_region ?_
    refine AL_p rfl rfl (S_move rfl (.tmp rfl)) ?_
    refine AL_p rfl rfl (S_move rfl (.tmp rfl)) ?_
    refine AL_p rfl rfl (S_move rfl (.tmp rfl)) ?_
    refine AL_p rfl rfl (S_elemN (e := 52) 2 rfl (.tmp rfl) (.tmp rfl) (by kernel_rfl) (by kernel_rfl) (by omega) (fun _ => rfl)) ?_
    refine AL_p rfl rfl (S_fieldP 0 rfl (.tmp rfl) (by kernel_rfl)) ?_
    refine AL_p rfl rfl (S_loadP rfl (.tmp rfl) rfl (by kernel_rfl)) ?_
    refine AL_p rfl rfl (S_pcall rfl (AEvs.cons (.tmp rfl) (AEvs.cons (.tmp rfl) AEvs.nil)) (ref11_Get_ok a (b[i]'hib).1 (by omega))) ?_
    refine AL_p rfl rfl (S_move rfl (.tmp rfl)) ?_
    refine AL_p rfl rfl (S_extract 0 rfl (.tmp rfl) rfl) ?_
    refine AL_p rfl rfl (S_extract 1 rfl (.tmp rfl) rfl) ?_
    refine AL_p rfl rfl (S_assign rfl (.tmp rfl)) ?_
    refine AL_p rfl rfl (S_assign rfl (.tmp rfl)) ?_
    refine AL_nil ?_
    refine AC_seq ?_
    refine AC_seq ?_
    refine AC_region ?_
    refine AL_p rfl rfl (S_move rfl (.tmp rfl)) ?_
    refine AL_p rfl rfl (S_move rfl (.tmp rfl)) ?_
    refine AL_g rfl rfl (.tmp rfl) rfl (fun hg2 => S_move rfl (.tmp rfl)) ?_
    refine AL_g rfl rfl (.tmp rfl) rfl (fun hg5 => S_move rfl (.tmp rfl)) ?_
    refine AL_g rfl rfl (.tmp rfl) rfl (fun hg8 => S_move rfl (.tmp rfl)) ?_
    refine AL_g rfl rfl (.tmp rfl) rfl (fun hg11 => S_elemD (e := 52) d0 2 rfl (AEv.cond (.tmp rfl) (by first | assumption | exact gdAnd (by assumption) (by assumption))) (AEv.cond (.tmp rfl) (by first | assumption | exact gdAnd (by assumption) (by assumption))) (by kernel_rfl) (by kernel_rfl) (by (try simp only [gd, Bool.and_eq_true, Bool.or_eq_true, Bool.not_eq_true', Bool.not_eq_false', decide_eq_true_eq, decide_eq_false_iff_not, Bool.or_eq_false_iff, Bool.and_eq_false_iff] at *); omega) (fun _ => rfl)) ?_
    refine AL_g rfl rfl (.tmp rfl) rfl (fun hg14 => S_fieldP 1 rfl (AEv.cond (.tmp rfl) (by first | assumption | exact gdAnd (by assumption) (by assumption))) (by kernel_rfl)) ?_
    refine AL_g rfl rfl (.tmp rfl) rfl (fun hg17 => S_loadP rfl (AEv.cond (.tmp rfl) (by first | assumption | exact gdAnd (by assumption) (by assumption))) rfl (by kernel_rfl)) ?_
    refine AL_g rfl rfl (.tmp rfl) rfl (fun hg20 => S_neS rfl (AEv.cond (.tmp rfl) (by first | assumption | exact gdAnd (by assumption) (by assumption))) (AEv.cond (.tmp rfl) (by first | assumption | exact gdAnd (by assumption) (by assumption)))) ?_
    refine AL_p rfl rfl (S_and rfl (.tmp rfl) (fun hp23 => (AEv.cond (.tmp rfl) (by first | assumption | exact gdT hp23 | exact gdF hp23 | exact gdAnd (by assumption) (gdT hp23) | exact gdAnd (by assumption) (gdF hp23))))) ?_
    refine AL_nil ?_
    refine AC_cond (.tmp rfl) (fun hb24 => ?_) (fun hb24 => ?_)
    · try simp only [zA, zO, zN, zM, zP, zQ, zD, zF, gd] at hb24
      have hcl := hb24
      rw [hgd] at hcl
      have hx : refM a a b = none := by rw [hr]; exact refM_clash hib hcl
      refine AC_seq ?_
      refine AC_region ?_
      refine AL_p rfl rfl (S_assign rfl (AEv.const _)) ?_
      refine AL_p rfl rfl (S_assign rfl (AEv.const _)) ?_
      refine AL_nil ?_
      refine AC_ret ?_
      refine ret_tmps (ts := [4, 5]) st rfl (by decide) rfl (Sub.l (List.sublist_append_right _ _)) (Conv.le (Sub.l (List.sublist_append_right _ _)) (Les.tup (.cons Le.nils (.cons (Le.refl _) .nil)))) ⟨by rw [hx]; rfl, rfl⟩ (.inl rfl)
    try simp only [zA, zO, zN, zM, zP, zQ, zD, zF, gd] at hb24
    have hnc := hb24
    rw [hgd] at hnc
    have hnc : ¬ ((getL a (b[i]'hib).1).2 = true ∧ (getL a (b[i]'hib).1).1 ≠ (b[i]'hib).2) := fun h => by
      rcases hnc with h2 | h2
      · rw [h.1] at h2; cases h2
      · exact h.2 h2
    refine AC_skip ?_
    refine AC_seq ?_
    refine AC_seq ?_
    refine AC_region ?_
    refine AL_p rfl rfl (S_move rfl (.tmp rfl)) ?_
    refine AL_nil ?_
    refine AC_cond (.tmp rfl) (fun hb25 => ?_) (fun hb25 => ?_)
    · try simp only [zA, zO, zN, zM, zP, zQ, zD, zF, gd] at hb25
      have hgk : (getL a (b[i]'hib).1).2 = true := hb25
      refine AC_exit ?_
      refine AC_region ?_
      refine AL_p rfl rfl (S_move rfl (.tmp rfl)) ?_
      refine AL_p rfl rfl (S_addI rfl (.tmp rfl) (AEv.const _) (by omega) (by omega)) ?_
      refine AL_p rfl rfl (S_assign rfl (.tmp rfl)) ?_
      refine AL_nil ?_
      exact ⟨(i + 1, out, q), ⟨by dsimp only; omega, hr.trans (refM_same hib hnc hgk), hq, by dsimp only; omega⟩, by dsimp only; omega, (Sub.l (List.Sublist.refl _)), (.cons rfl (by first | exact Le.refl _ | exact Le.nils | exact Le.row _ _ _ _ | exact Le.of_eq (by first | rfl | (simp; done) | (push_cast; rfl) | (simp; omega))) (.cons rfl (by first | exact Le.refl _ | exact Le.nils | exact Le.row _ _ _ _ | exact Le.of_eq (by first | rfl | (simp; done) | (push_cast; rfl) | (simp; omega))) .nil)), (.cons rfl (Le.refl _) (.cons rfl (Le.refl _) .nil))⟩
    try simp only [zA, zO, zN, zM, zP, zQ, zD, zF, gd] at hb25
    have hgk : ¬ (getL a (b[i]'hib).1).2 = true := by simpa using hb25
    refine AC_skip ?_
    refine AC_seq ?_
    refine AC_region ?_
    refine AL_p rfl rfl (S_assign rfl (AEv.const _)) ?_
    refine AL_nil ?_
    refine AC_seq ?_
    refine AC_block ?_
    refine AC_loopK (G := Nat) [(0, _), (1, _), (6, _), (7, _)] (fun k => k ≤ out.length ∧ ∀ j (hj : j < out.length), j < k → lessK out[j] (b[i]'hib) = true) (fun g => [(10, .int .i64 (g : Int))]) (fun g => ownSt q 52 2 ((out).map labAV) ++ st) (fun g => out.length - g) (0) (⟨Nat.zero_le _, fun j _ h => absurd h (Nat.not_lt_zero _)⟩) (Sub.l (List.Sublist.refl _)) (.cons rfl (Le.refl _) (.cons rfl (Le.refl _) (.cons rfl (Le.refl _) (.cons rfl (Le.refl _) .nil)))) (.cons rfl (by first | exact Le.refl _ | exact Le.nils | exact Le.row _ _ _ _ | exact Le.of_eq (by first | rfl | (simp; done) | (push_cast; rfl) | (simp; omega))) .nil) ?_
    rintro k ⟨hk, hlt⟩
    try dsimp only
    simp only [List.cons_append, List.nil_append]
    refine AC_seq ?_
    refine AC_seq ?_
    refine AC_draw (by kernel_rfl) (by kernel_rfl) (.cons rfl (Q_p rfl (S_move rfl (.tmp rfl))) <|
        .cons rfl (Q_p rfl (S_move rfl (.tmp rfl))) <|
        .cons rfl (Q_p rfl (by first | exact S_lenM (e := 52) rfl ((AEv.tmp rfl).le (Le_own hq)) (by kernel_rfl) | exact S_len (e := 52) rfl ((AEv.tmp rfl).le (Le_own hq)) (by kernel_rfl))) <|
        .cons rfl (Q_p rfl (S_lss rfl (.tmp rfl) (.tmp rfl))) <|
        .cons rfl (Q_p rfl (S_move rfl (.tmp rfl))) <|
        .cons rfl (Q_g rfl rfl (.tmp rfl) (fun hg26 => S_move rfl (.tmp rfl))) <|
        .cons rfl (Q_g rfl rfl (.tmp rfl) (fun hg29 => S_move rfl (.tmp rfl))) <|
        .cons rfl (Q_g rfl rfl (.tmp rfl) (fun hg32 => S_elemD (e := 52) d0 2 rfl ((AEv.cond (.tmp rfl) (by first | assumption | exact gdAnd (by assumption) (by assumption))).le (Le_own hq)) (AEv.cond (.tmp rfl) (by first | assumption | exact gdAnd (by assumption) (by assumption))) (by kernel_rfl) (by kernel_rfl) (by (try simp only [gd, Bool.and_eq_true, Bool.or_eq_true, Bool.not_eq_true', Bool.not_eq_false', decide_eq_true_eq, decide_eq_false_iff_not, Bool.or_eq_false_iff, Bool.and_eq_false_iff] at *); omega) (fun _ => rfl))) <|
        .cons rfl (Q_g rfl rfl (.tmp rfl) (fun hg35 => S_fieldP 0 rfl (AEv.cond (.tmp rfl) (by first | assumption | exact gdAnd (by assumption) (by assumption))) (by kernel_rfl))) <|
        .cons rfl (Q_g rfl rfl (.tmp rfl) (fun hg38 => S_loadP rfl (AEv.cond (.tmp rfl) (by first | assumption | exact gdAnd (by assumption) (by assumption))) rfl (by kernel_rfl))) <|
        .cons rfl (Q_g rfl rfl (.tmp rfl) (fun hg41 => S_move rfl (.tmp rfl))) <|
        .cons rfl (Q_g rfl rfl (.tmp rfl) (fun hg44 => S_move rfl (.tmp rfl))) <|
        .cons rfl (Q_g rfl rfl (.tmp rfl) (fun hg47 => S_elemD (e := 52) d0 2 rfl (AEv.cond (.tmp rfl) (by first | assumption | exact gdAnd (by assumption) (by assumption))) (AEv.cond (.tmp rfl) (by first | assumption | exact gdAnd (by assumption) (by assumption))) (by kernel_rfl) (by kernel_rfl) (by (try simp only [gd, Bool.and_eq_true, Bool.or_eq_true, Bool.not_eq_true', Bool.not_eq_false', decide_eq_true_eq, decide_eq_false_iff_not, Bool.or_eq_false_iff, Bool.and_eq_false_iff] at *); omega) (fun _ => rfl))) <|
        .cons rfl (Q_g rfl rfl (.tmp rfl) (fun hg50 => S_fieldP 0 rfl (AEv.cond (.tmp rfl) (by first | assumption | exact gdAnd (by assumption) (by assumption))) (by kernel_rfl))) <|
        .cons rfl (Q_g rfl rfl (.tmp rfl) (fun hg53 => S_loadP rfl (AEv.cond (.tmp rfl) (by first | assumption | exact gdAnd (by assumption) (by assumption))) rfl (by kernel_rfl))) <|
        .cons rfl (Q_g rfl rfl (.tmp rfl) (fun hg56 => S_ltS rfl (AEv.cond (.tmp rfl) (by first | assumption | exact gdAnd (by assumption) (by assumption))) (AEv.cond (.tmp rfl) (by first | assumption | exact gdAnd (by assumption) (by assumption))))) <|
        .cons rfl (Q_p rfl (S_and rfl (.tmp rfl) (fun hp59 => (AEv.cond (.tmp rfl) (by first | assumption | exact gdT hp59 | exact gdF hp59 | exact gdAnd (by assumption) (gdT hp59) | exact gdAnd (by assumption) (gdF hp59)))))) <|
        .nil) ?_
    refine AC_cond (.tmp rfl) (fun hb60 => ?_) (fun hb60 => ?_)
    · try simp only [zA, zO, zN, zM, zP, zQ, zD, zF, gd] at hb60
      have hko : k < out.length := by omega
      have hod : out.getD k d0 = out[k] := by rw [List.getD_eq_getElem?_getD, List.getElem?_eq_getElem hko]; rfl
      have hlk : lessK out[k] (b[i]'hib) = true := by have h := hb60.2; rw [hgd, hod] at h; exact h
      have hlt2 : ∀ j (hj : j < out.length), j < k + 1 → lessK out[j] (b[i]'hib) = true := fun j hj h => by
        rcases Nat.lt_or_ge j k with h9 | h9
        · exact hlt j hj h9
        · have e9 : j = k := by omega
          subst e9; exact hlk
      refine AC_skip ?_
      refine AC_block ?_
      refine AC_region ?_
      refine AL_p rfl rfl (S_move rfl (.tmp rfl)) ?_
      refine AL_p rfl rfl (S_addI rfl (.tmp rfl) (AEv.const _) (by omega) (by omega)) ?_
      refine AL_p rfl rfl (S_assign rfl (.tmp rfl)) ?_
      refine AL_nil ?_
      exact ⟨k + 1, ⟨by omega, fun j hj h => hlt2 j hj h⟩, by omega, (Sub.l (List.Sublist.refl _)), (.cons rfl (by first | exact Le.refl _ | exact Le.nils | exact Le.row _ _ _ _ | exact Le.of_eq (by first | rfl | (simp; done) | (push_cast; rfl) | (simp; omega))) .nil), (.cons rfl (Le.refl _) (.cons rfl (Le.refl _) (.cons rfl (Le.refl _) (.cons rfl (Le.refl _) .nil))))⟩
    try simp only [zA, zO, zN, zM, zP, zQ, zD, zF, gd] at hb60
    have hst : ∀ h : k < out.length, ¬ lessK out[k] (b[i]'hib) = true := fun hko => by
      have hod : out.getD k d0 = out[k] := by rw [List.getD_eq_getElem?_getD, List.getElem?_eq_getElem hko]; rfl
      rcases hb60 with h | h
      · omega
      · rw [hgd, hod] at h
        show ¬ Op.bytesLess _ _ = true
        rw [h]; simp
    have hins : ([] ++ (out.take k)) ++ ([(b[i]'hib)] ++ (out.drop k)) = insL (b[i]'hib) out := by rw [ins_at hk hlt hst]; rfl
    refine AC_exit ?_
    refine AC_seq ?_
    refine AC_plan (σ := [(0, 0), (1, 0), (2, 0), (3, 0), (5, 0), (6, 0), (7, 0), (4, 1), (8, 2), (9, 0)]) (by kernel_rfl) [] (by kernel_rfl) (fun r hr => absurd hr List.not_mem_nil) ?_
    refine AG.f rfl rfl (fun st' hst => Q_p rfl (S_move rfl (.tmp rfl))) ?_
    refine AG.f rfl rfl (fun st' hst => Q_p rfl (S_move rfl (.tmp rfl))) ?_
    refine AG.f rfl rfl (fun st' hst => Q_p rfl (S_elemN (e := 52) 2 rfl (.tmp rfl) (.tmp rfl) (by kernel_rfl) (by kernel_rfl) (by omega) (fun _ => rfl))) ?_
    refine AG.f rfl rfl (fun st' hst => Q_p rfl (S_loadPN (m := 2) rfl (.tmp rfl) (by kernel_rfl) (by first | exact Nat.le_of_ble_eq_true rfl | (simp; omega) | simp))) ?_
    refine AG.f rfl rfl (fun st' hst => Q_p rfl (S_move rfl (.tmp rfl))) ?_
    refine AG.f rfl rfl (fun st' hst => Q_p rfl (S_move rfl (.tmp rfl))) ?_
    refine AG.f rfl rfl (fun st' hst => Q_p rfl (S_cutLM (e := 52) (i := k) 2 rfl ((AEv.tmp rfl).le (Le_own hq)) ((AEv.tmp rfl).le (Le.of_eq (congrArg (AV.int _) (by omega)))) (by kernel_rfl) (by kernel_rfl) (fun _ => rfl) (by omega))) ?_
    refine AG.s rfl rfl rfl (S_buildOwn (e := 52) 2 rfl (AEvs.cons (y := labAV (b[i]'hib)) (.tmp rfl) AEvs.nil) rfl (by kernel_rfl) (by kernel_rfl) (by simp [labAV, AV.flat, AV.one, AV.cells, Value.oneCell']) (by decide) (by decide) (by decide)) ?_ ?_
    · rintro _ _ ⟨b3, rfl, rfl⟩ r hr; first | exact List.mem_append_left _ hr | exact absurd hr List.not_mem_nil
    rintro _ _ ⟨b3, rfl, rfl⟩
    refine AG.h rfl rfl rfl (S_appendAny (f := labAV) (l := [(b[i]'hib)]) (l2 := (out.drop k)) (e := 52) (size := 2) (bytes := 32) (p := .row b3 0 1) ([]) (ownSt q 52 2 ((out).map labAV) ++ st) rfl (.tmp rfl) (.tmp rfl) rfl (by simp [Own.ok]) (by kernel_rfl) (fun _ => ⟨rfl, rfl⟩) (by simp only [List.length_singleton, List.length_drop, List.length_take]; omega) (by simp only [List.length_singleton, List.length_drop, List.length_take]; omega)) ?_
    rintro _ _ ⟨q3, hq3, rfl, rfl⟩
    refine AG.f rfl rfl (fun st' hst => Q_p rfl (S_assign rfl (.tmp rfl))) ?_
    refine AG.nil ?_
    refine AC_region ?_
    refine AL_step rfl rfl (S_build0 (e := 52) rfl rfl (by kernel_rfl) (by kernel_rfl)) ?_
    rintro _ st9 ⟨A, rfl, h9⟩
    rw [h9]
    clear h9 st9
    refine AL_p rfl rfl (S_move rfl (.tmp rfl)) ?_
    refine AL_p rfl rfl (S_move rfl (.tmp rfl)) ?_
    refine AL_p rfl rfl (S_cutHM (e := 52) (j := k) 2 rfl ((AEv.tmp rfl).le (Le_own hq)) ((AEv.tmp rfl).le (Le.of_eq (congrArg (AV.int _) (by omega)))) (by kernel_rfl) (by kernel_rfl) (fun _ => rfl) (by omega)) ?_
    refine AL_step rfl rfl (S_appendAny (f := labAV) (l := []) (l2 := (out.take k)) (e := 52) (size := 2) (bytes := 32) (p := .emp A) ([]) (ownSt q3 52 2 (([(b[i]'hib)] ++ (out.drop k)).map labAV) ++ (ownSt q 52 2 ((out).map labAV) ++ st)) rfl (.tmp rfl) (.tmp rfl) rfl rfl (by kernel_rfl) (fun _ => ⟨rfl, rfl⟩) (by simp only [List.length_nil, List.length_drop, List.length_take]; omega) (by simp only [List.length_nil, List.length_drop, List.length_take]; omega)) ?_
    rintro _ _ ⟨q4, hq4, rfl, rfl⟩
    refine AL_p rfl rfl (S_move rfl (.tmp rfl)) ?_
    refine AL_step rfl rfl (S_appendAny (f := labAV) (l := [] ++ (out.take k)) (l2 := [(b[i]'hib)] ++ (out.drop k)) (e := 52) (size := 2) (bytes := 32) (p := q4) ([]) (ownSt q3 52 2 (([(b[i]'hib)] ++ (out.drop k)).map labAV) ++ (ownSt q 52 2 ((out).map labAV) ++ st)) rfl (.tmp rfl) ((AEv.tmp rfl).le (Le_own hq3)) rfl hq4 (by kernel_rfl) (fun _ => ⟨rfl, rfl⟩) (by simp only [List.length_append, List.length_nil, List.length_singleton, List.length_drop, List.length_take]; omega) (by simp only [List.length_append, List.length_nil, List.length_singleton, List.length_drop, List.length_take]; omega)) ?_
    rintro _ _ ⟨q5, hq5, rfl, rfl⟩
    refine AL_p rfl rfl (S_assign rfl (.tmp rfl)) ?_
    refine AL_nil ?_
    refine AC_region ?_
    refine AL_p rfl rfl (S_move rfl (.tmp rfl)) ?_
    refine AL_p rfl rfl (S_addI rfl (.tmp rfl) (AEv.const _) (by omega) (by omega)) ?_
    refine AL_p rfl rfl (S_assign rfl (.tmp rfl)) ?_
    refine AL_nil ?_
    rw [hins] at hq5 ⊢
    exact ⟨(i + 1, insL (b[i]'hib) out, q5), ⟨by dsimp only; omega, hr.trans (refM_new hib hnc hgk), hq5, by dsimp only; rw [ins_len]; omega⟩, by dsimp only; omega, (Sub.l ((List.Sublist.refl _).append ((List.sublist_append_right _ _).trans (List.sublist_append_right _ _)))), (.cons rfl (by first | exact Le.refl _ | exact Le.nils | exact Le.row _ _ _ _ | exact Le.of_eq (by first | rfl | (simp; done) | (push_cast; rfl) | (simp; omega))) (.cons rfl (by first | exact Le.refl _ | exact Le.nils | exact Le.row _ _ _ _ | exact Le.of_eq (by first | rfl | (simp; done) | (push_cast; rfl) | (simp; omega))) .nil)), (.cons rfl (Le.refl _) (.cons rfl (Le.refl _) .nil))⟩
  try simp only [zA, zO, zN, zM, zP, zQ, zD, zF, gd] at hb1
  have hx : refM a a b = some out := by rw [hr]; exact refM_end (by omega)
  refine AC_exit ?_
  refine AC_seq ?_
  refine AC_region ?_
  refine AL_p rfl rfl (S_move rfl (.tmp rfl)) ?_
  refine AL_p rfl rfl (S_assign rfl (.tmp rfl)) ?_
  refine AL_p rfl rfl (S_assign rfl (AEv.const _)) ?_
  refine AL_nil ?_
  refine AC_ret ?_
  refine ret_tmps (ts := [4, 5]) st rfl (by decide) rfl (Sub.l (List.sublist_append_right _ _)) (Conv.le (Sub.l (List.sublist_append_right _ _)) (Les.tup (.cons (Le_own hq) (.cons (Le.refl _) .nil)))) ⟨by rw [hx]; rfl, rfl⟩ (.inl rfl)

set_option maxRecDepth 100000 in
/-- provost/provostlaw11.SelMerges -/
theorem law_SelMerges (a b : List Lab) (ha : ∀ x ∈ a, x.1.length ≤ 9223372036854775807 ∧ x.2.length ≤ 9223372036854775807) (hb : ∀ x ∈ b, x.1.length ≤ 9223372036854775807 ∧ x.2.length ≤ 9223372036854775807) : GCalls Tryd.prog tabs 7 [.sl (labsV a), .sl (labsV b)] (.bool true) := by
  intro st hG
  refine ACalls_of (N := 41) Tryd.func7 (by kernel_rfl) rfl rfl rfl ?_
  refine AC_seq ?_
  refine AC_region ?_
  refine AL_p rfl rfl (S_assign rfl (AEv.const _)) ?_
  refine AL_nil ?_
  refine AC_seq ?_
  refine AC_seq ?_
  refine AC_region ?_
  refine AL_p rfl rfl (S_move rfl (.tmp rfl)) ?_
  refine AL_p rfl rfl (S_pcall rfl (AEvs.cons (.tmp rfl) AEvs.nil) (law_right_ok a ha)) ?_
  refine AL_p rfl rfl (S_not rfl (.tmp rfl)) ?_
  refine AL_p rfl rfl (S_move rfl (.tmp rfl)) ?_
  refine AL_g rfl rfl (.tmp rfl) rfl (fun hg1 => S_move rfl (.tmp rfl)) ?_
  refine AL_g rfl rfl (.tmp rfl) rfl (fun hg4 => S_pcall rfl (AEvs.cons (AEv.cond (.tmp rfl) (by first | assumption | exact gdAnd (by assumption) (by assumption))) AEvs.nil) (law_right_ok b hb)) ?_
  refine AL_g rfl rfl (.tmp rfl) rfl (fun hg7 => S_not rfl (AEv.cond (.tmp rfl) (by first | assumption | exact gdAnd (by assumption) (by assumption)))) ?_
  refine AL_p rfl rfl (S_or rfl (.tmp rfl) (fun hp10 => (AEv.cond (.tmp rfl) (by first | assumption | exact gdT hp10 | exact gdF hp10 | exact gdAnd (by assumption) (gdT hp10) | exact gdAnd (by assumption) (gdF hp10))))) ?_
  refine AL_nil ?_
  refine AC_cond (.tmp rfl) (fun hb11 => ?_) (fun hb11 => ?_)
  · try simp only [zA, zO, zN, zM, zP, zQ, zD, zF, gd] at hb11
    refine AC_seq ?_
    refine AC_region ?_
    refine AL_p rfl rfl (S_gcall rfl AEvs.nil ((law_works) _ (fun p hp => by first | exact hG p hp | (simp [hG p hp]; done)))) ?_
    refine AL_p rfl rfl (S_assign rfl (.tmp rfl)) ?_
    refine AL_nil ?_
    refine AC_ret ?_
    refine ret_tmp st rfl rfl (Sub.l (List.Sublist.refl _)) (Conv.refl (Sub.l (List.Sublist.refl _)) _) ⟨rfl, rfl⟩ (.inl rfl)
  try simp only [zA, zO, zN, zM, zP, zQ, zD, zF, gd] at hb11
  have hra : labelsE selN a = none := (well_labels _ _).code.1 (by simpa using hb11.1)
  have hrb : labelsE selN b = none := (well_labels _ _).code.1 (by simpa using hb11.2)
  have la := right_len hra
  have lb := right_len hrb
  have lm := mergeV_len a b
  refine AC_skip ?_
  refine AC_seq ?_
  refine AC_region ?_
  refine AL_p rfl rfl (S_move rfl (.tmp rfl)) ?_
  refine AL_p rfl rfl (S_move rfl (.tmp rfl)) ?_
  refine AL_p rfl rfl (S_pcall rfl (AEvs.cons (.tmp rfl) (AEvs.cons (.tmp rfl) AEvs.nil)) ((sel_Merge_ok a b (by omega) (by omega)).of_eq (mergeAV_eq a b))) ?_
  refine AL_p rfl rfl (S_move rfl (.tmp rfl)) ?_
  refine AL_p rfl rfl (S_extract 0 rfl (.tmp rfl) rfl) ?_
  refine AL_p rfl rfl (S_extract 1 rfl (.tmp rfl) rfl) ?_
  refine AL_p rfl rfl (S_assign rfl (.tmp rfl)) ?_
  refine AL_p rfl rfl (S_assign rfl (.tmp rfl)) ?_
  refine AL_nil ?_
  refine AC_seq ?_
  refine AC_region ?_
  refine AL_p rfl rfl (S_move rfl (.tmp rfl)) ?_
  refine AL_p rfl rfl (S_move rfl (.tmp rfl)) ?_
  refine AL_p rfl rfl (S_pcall rfl (AEvs.cons (.tmp rfl) (AEvs.cons (.tmp rfl) AEvs.nil)) ((ref11_Merge_ok a b (by omega) (by omega)).of_eq ((congrArg mergeAV (refM_eq (labels_out hra).2.1 (labels_out hrb).2.1)).trans (mergeAV_eq a b)))) ?_
  refine AL_p rfl rfl (S_move rfl (.tmp rfl)) ?_
  refine AL_p rfl rfl (S_extract 0 rfl (.tmp rfl) rfl) ?_
  refine AL_p rfl rfl (S_extract 1 rfl (.tmp rfl) rfl) ?_
  refine AL_p rfl rfl (S_assign rfl (.tmp rfl)) ?_
  refine AL_p rfl rfl (S_assign rfl (.tmp rfl)) ?_
  refine AL_nil ?_
  refine AC_seq ?_
  refine AC_region ?_
  refine AL_p rfl rfl (S_move rfl (.tmp rfl)) ?_
  refine AL_p rfl rfl (S_move rfl (.tmp rfl)) ?_
  refine AL_p rfl rfl (S_pcall rfl (AEvs.cons (.tmp rfl) (AEvs.cons (.tmp rfl) AEvs.nil)) (book_SameLabels_ok (mergeV a b).1 (mergeV a b).1 (by omega) (by omega))) ?_
  refine AL_p rfl rfl (S_move rfl (.tmp rfl)) ?_
  refine AL_g rfl rfl (.tmp rfl) rfl (fun hg12 => S_move rfl (.tmp rfl)) ?_
  refine AL_g rfl rfl (.tmp rfl) rfl (fun hg15 => S_move rfl (.tmp rfl)) ?_
  refine AL_g rfl rfl (.tmp rfl) rfl (fun hg18 => S_eqB rfl (AEv.cond (.tmp rfl) (by first | assumption | exact gdAnd (by assumption) (by assumption))) (AEv.cond (.tmp rfl) (by first | assumption | exact gdAnd (by assumption) (by assumption))) (by kernel_rfl)) ?_
  refine AL_p rfl rfl (S_and rfl (.tmp rfl) (fun hp21 => (AEv.cond (.tmp rfl) (by first | assumption | exact gdT hp21 | exact gdF hp21 | exact gdAnd (by assumption) (gdT hp21) | exact gdAnd (by assumption) (gdF hp21))))) ?_
  refine AL_p rfl rfl (S_move rfl (.tmp rfl)) ?_
  refine AL_g rfl rfl (.tmp rfl) rfl (fun hg22 => S_gcall rfl AEvs.nil ((law_works) _ (fun p hp => by first | exact hG p hp | (simp [hG p hp]; done)))) ?_
  refine AL_p rfl rfl (S_and rfl (.tmp rfl) (fun hp25 => (AEv.cond (.tmp rfl) (by first | assumption | exact gdT hp25 | exact gdF hp25 | exact gdAnd (by assumption) (gdT hp25) | exact gdAnd (by assumption) (gdF hp25))))) ?_
  refine AL_p rfl rfl (S_assign rfl (.tmp rfl)) ?_
  refine AL_nil ?_
  refine AC_ret ?_
  refine ret_tmp st rfl rfl (Sub.l (List.Sublist.refl _)) (Conv.refl (Sub.l (List.Sublist.refl _)) _) ⟨congrArg AV.bool (by simp), rfl⟩ (.inl rfl)

end Go.Proofs.YtdljfalidkpfoaaDoor

/-
The walks of Go functions in the logic AL: what each of them answers.
Conditions: those of each theorem.
-/
set_option linter.unusedVariables false
set_option linter.unusedSimpArgs false
namespace Go.Proofs.YtdljfalidkpfoaaDoor
open Go.AL Go.NumSpec

set_option maxRecDepth 100000 in
/-- provost/provostbook.SamePod -/
theorem book_SamePod_ok (p : Pod) (hp : shortS p.spec) (hq : p.ports.length ≤ 1000000) : PCalls Tryd.prog 35 [podAV p, podAV p] (.bool true) := by
  intro st
  refine ACalls_of (N := 52) Tryd.func35 (by kernel_rfl) rfl rfl rfl ?_
  refine AC_seq ?_
  refine AC_region ?_
  refine AL_step rfl rfl (S_box rfl (.tmp rfl)) ?_
  rintro _ _ ⟨b1, rfl, rfl⟩
  refine AL_step rfl rfl (S_box rfl (.tmp rfl)) ?_
  rintro _ _ ⟨b2, rfl, rfl⟩
  refine AL_p rfl rfl (S_assign rfl (AEv.const _)) ?_
  refine AL_nil ?_
  refine AC_seq ?_
  refine AC_region ?_
  refine AL_p rfl rfl (S_field 0 rfl (.tmp rfl) (by kernel_rfl)) ?_
  refine AL_p rfl rfl (S_load 1 rfl (.tmp rfl) rfl rfl (by kernel_rfl)) ?_
  refine AL_p rfl rfl (S_field 0 rfl (.tmp rfl) (by kernel_rfl)) ?_
  refine AL_p rfl rfl (S_load 0 rfl (.tmp rfl) rfl rfl (by kernel_rfl)) ?_
  refine AL_p rfl rfl (S_eql rfl (.tmp rfl) (.tmp rfl)) ?_
  refine AL_p rfl rfl (S_move rfl (.tmp rfl)) ?_
  refine AL_g rfl rfl (.tmp rfl) rfl (fun hg3 => S_field 1 rfl (.tmp rfl) (by kernel_rfl)) ?_
  refine AL_g rfl rfl (.tmp rfl) rfl (fun hg6 => S_load 1 rfl (AEv.cond (.tmp rfl) (by first | assumption | exact gdAnd (by assumption) (by assumption))) rfl rfl (by kernel_rfl)) ?_
  refine AL_g rfl rfl (.tmp rfl) rfl (fun hg9 => S_field 1 rfl (.tmp rfl) (by kernel_rfl)) ?_
  refine AL_g rfl rfl (.tmp rfl) rfl (fun hg12 => S_load 0 rfl (AEv.cond (.tmp rfl) (by first | assumption | exact gdAnd (by assumption) (by assumption))) rfl rfl (by kernel_rfl)) ?_
  refine AL_g rfl rfl (.tmp rfl) rfl (fun hg15 => S_eql rfl (AEv.cond (.tmp rfl) (by first | assumption | exact gdAnd (by assumption) (by assumption))) (AEv.cond (.tmp rfl) (by first | assumption | exact gdAnd (by assumption) (by assumption)))) ?_
  refine AL_p rfl rfl (S_and rfl (.tmp rfl) (fun hp18 => (AEv.cond (.tmp rfl) (by first | assumption | exact gdT hp18 | exact gdF hp18 | exact gdAnd (by assumption) (gdT hp18) | exact gdAnd (by assumption) (gdF hp18))))) ?_
  refine AL_p rfl rfl (S_move rfl (.tmp rfl)) ?_
  refine AL_g rfl rfl (.tmp rfl) rfl (fun hg19 => S_field 2 rfl (.tmp rfl) (by kernel_rfl)) ?_
  refine AL_g rfl rfl (.tmp rfl) rfl (fun hg22 => S_loadN (m := 7) 1 rfl (AEv.cond (.tmp rfl) (by first | assumption | exact gdAnd (by assumption) (by assumption))) rfl (by kernel_rfl) (by first | exact Nat.le_of_ble_eq_true rfl | (simp; omega) | simp)) ?_
  refine AL_g rfl rfl (.tmp rfl) rfl (fun hg25 => S_field 2 rfl (.tmp rfl) (by kernel_rfl)) ?_
  refine AL_g rfl rfl (.tmp rfl) rfl (fun hg28 => S_loadN (m := 7) 0 rfl (AEv.cond (.tmp rfl) (by first | assumption | exact gdAnd (by assumption) (by assumption))) rfl (by kernel_rfl) (by first | exact Nat.le_of_ble_eq_true rfl | (simp; omega) | simp)) ?_
  refine AL_g rfl rfl (.tmp rfl) rfl (fun hg31 => S_pcall rfl (AEvs.cons (y := spcAV p.spec) (AEv.cond (.tmp rfl) (by first | assumption | exact gdAnd (by assumption) (by assumption))) (AEvs.cons (y := spcAV p.spec) (AEv.cond (.tmp rfl) (by first | assumption | exact gdAnd (by assumption) (by assumption))) AEvs.nil)) (book_SameSpec_ok p.spec p.spec hp hp)) ?_
  refine AL_p rfl rfl (S_and rfl (.tmp rfl) (fun hp34 => (AEv.cond (.tmp rfl) (by first | assumption | exact gdT hp34 | exact gdF hp34 | exact gdAnd (by assumption) (gdT hp34) | exact gdAnd (by assumption) (gdF hp34))))) ?_
  refine AL_p rfl rfl (S_move rfl (.tmp rfl)) ?_
  refine AL_g rfl rfl (.tmp rfl) rfl (fun hg35 => S_field 9 rfl (.tmp rfl) (by kernel_rfl)) ?_
  refine AL_g rfl rfl (.tmp rfl) rfl (fun hg38 => S_load 1 rfl (AEv.cond (.tmp rfl) (by first | assumption | exact gdAnd (by assumption) (by assumption))) rfl rfl (by kernel_rfl)) ?_
  refine AL_g rfl rfl (.tmp rfl) rfl (fun hg41 => S_field 9 rfl (.tmp rfl) (by kernel_rfl)) ?_
  refine AL_g rfl rfl (.tmp rfl) rfl (fun hg44 => S_load 0 rfl (AEv.cond (.tmp rfl) (by first | assumption | exact gdAnd (by assumption) (by assumption))) rfl rfl (by kernel_rfl)) ?_
  refine AL_g rfl rfl (.tmp rfl) rfl (fun hg47 => S_eql rfl (AEv.cond (.tmp rfl) (by first | assumption | exact gdAnd (by assumption) (by assumption))) (AEv.cond (.tmp rfl) (by first | assumption | exact gdAnd (by assumption) (by assumption)))) ?_
  refine AL_p rfl rfl (S_and rfl (.tmp rfl) (fun hp50 => (AEv.cond (.tmp rfl) (by first | assumption | exact gdT hp50 | exact gdF hp50 | exact gdAnd (by assumption) (gdT hp50) | exact gdAnd (by assumption) (gdF hp50))))) ?_
  refine AL_p rfl rfl (S_move rfl (.tmp rfl)) ?_
  refine AL_g rfl rfl (.tmp rfl) rfl (fun hg51 => S_field 10 rfl (.tmp rfl) (by kernel_rfl)) ?_
  refine AL_g rfl rfl (.tmp rfl) rfl (fun hg54 => S_load 1 rfl (AEv.cond (.tmp rfl) (by first | assumption | exact gdAnd (by assumption) (by assumption))) rfl rfl (by kernel_rfl)) ?_
  refine AL_g rfl rfl (.tmp rfl) rfl (fun hg57 => S_field 10 rfl (.tmp rfl) (by kernel_rfl)) ?_
  refine AL_g rfl rfl (.tmp rfl) rfl (fun hg60 => S_load 0 rfl (AEv.cond (.tmp rfl) (by first | assumption | exact gdAnd (by assumption) (by assumption))) rfl rfl (by kernel_rfl)) ?_
  refine AL_g rfl rfl (.tmp rfl) rfl (fun hg63 => S_pcall rfl (AEvs.cons (AEv.cond (.tmp rfl) (by first | assumption | exact gdAnd (by assumption) (by assumption))) (AEvs.cons (AEv.cond (.tmp rfl) (by first | assumption | exact gdAnd (by assumption) (by assumption))) AEvs.nil)) (book_SameInts_ok p.ports p.ports hq hq)) ?_
  refine AL_p rfl rfl (S_and rfl (.tmp rfl) (fun hp66 => (AEv.cond (.tmp rfl) (by first | assumption | exact gdT hp66 | exact gdF hp66 | exact gdAnd (by assumption) (gdT hp66) | exact gdAnd (by assumption) (gdF hp66))))) ?_
  refine AL_p rfl rfl (S_move rfl (.tmp rfl)) ?_
  refine AL_g rfl rfl (.tmp rfl) rfl (fun hg67 => S_field 11 rfl (.tmp rfl) (by kernel_rfl)) ?_
  refine AL_g rfl rfl (.tmp rfl) rfl (fun hg70 => S_load 1 rfl (AEv.cond (.tmp rfl) (by first | assumption | exact gdAnd (by assumption) (by assumption))) rfl rfl (by kernel_rfl)) ?_
  refine AL_g rfl rfl (.tmp rfl) rfl (fun hg73 => S_field 11 rfl (.tmp rfl) (by kernel_rfl)) ?_
  refine AL_g rfl rfl (.tmp rfl) rfl (fun hg76 => S_load 0 rfl (AEv.cond (.tmp rfl) (by first | assumption | exact gdAnd (by assumption) (by assumption))) rfl rfl (by kernel_rfl)) ?_
  refine AL_g rfl rfl (.tmp rfl) rfl (fun hg79 => S_eql rfl (AEv.cond (.tmp rfl) (by first | assumption | exact gdAnd (by assumption) (by assumption))) (AEv.cond (.tmp rfl) (by first | assumption | exact gdAnd (by assumption) (by assumption)))) ?_
  refine AL_p rfl rfl (S_and rfl (.tmp rfl) (fun hp82 => (AEv.cond (.tmp rfl) (by first | assumption | exact gdT hp82 | exact gdF hp82 | exact gdAnd (by assumption) (gdT hp82) | exact gdAnd (by assumption) (gdF hp82))))) ?_
  refine AL_p rfl rfl (S_move rfl (.tmp rfl)) ?_
  refine AL_g rfl rfl (.tmp rfl) rfl (fun hg83 => S_field 12 rfl (.tmp rfl) (by kernel_rfl)) ?_
  refine AL_g rfl rfl (.tmp rfl) rfl (fun hg86 => S_load 1 rfl (AEv.cond (.tmp rfl) (by first | assumption | exact gdAnd (by assumption) (by assumption))) rfl rfl (by kernel_rfl)) ?_
  refine AL_g rfl rfl (.tmp rfl) rfl (fun hg89 => S_field 12 rfl (.tmp rfl) (by kernel_rfl)) ?_
  refine AL_g rfl rfl (.tmp rfl) rfl (fun hg92 => S_load 0 rfl (AEv.cond (.tmp rfl) (by first | assumption | exact gdAnd (by assumption) (by assumption))) rfl rfl (by kernel_rfl)) ?_
  refine AL_g rfl rfl (.tmp rfl) rfl (fun hg95 => S_eql rfl (AEv.cond (.tmp rfl) (by first | assumption | exact gdAnd (by assumption) (by assumption))) (AEv.cond (.tmp rfl) (by first | assumption | exact gdAnd (by assumption) (by assumption)))) ?_
  refine AL_p rfl rfl (S_and rfl (.tmp rfl) (fun hp98 => (AEv.cond (.tmp rfl) (by first | assumption | exact gdT hp98 | exact gdF hp98 | exact gdAnd (by assumption) (gdT hp98) | exact gdAnd (by assumption) (gdF hp98))))) ?_
  refine AL_p rfl rfl (S_assign rfl (.tmp rfl)) ?_
  refine AL_nil ?_
  refine AC_ret ?_
  refine ret_tmp st rfl rfl (Sub.l (List.Sublist.cons _ (List.Sublist.cons _ (List.Sublist.refl _)))) (Conv.refl (Sub.l (List.Sublist.cons _ (List.Sublist.cons _ (List.Sublist.refl _)))) _) ⟨congrArg AV.bool (by simp [sameS_refl]), rfl⟩ (.inl rfl)

set_option maxRecDepth 100000 in
/-- provost/provostbook.SamePods -/
theorem book_SamePods_ok (l : List Pod) (hl : l.length ≤ 1000000) (hp : ∀ p ∈ l, lightP p) : PCalls Tryd.prog 19 [.sl (podsV l), .sl (podsV l)] (.bool true) := by
  intro st
  refine ACalls_of (N := 37) Tryd.func19 (by kernel_rfl) rfl rfl rfl ?_
  refine AC_seq ?_
  refine AC_region ?_
  refine AL_p rfl rfl (S_assign rfl (AEv.const _)) ?_
  refine AL_nil ?_
  refine AC_seq ?_
  refine AC_region ?_
  refine AL_p rfl rfl (S_move rfl (.tmp rfl)) ?_
  refine AL_p rfl rfl (by first | exact S_lenM (e := 41) rfl (.tmp rfl) (by kernel_rfl) | exact S_len (e := 41) rfl (.tmp rfl) (by kernel_rfl)) ?_
  refine AL_p rfl rfl (S_move rfl (.tmp rfl)) ?_
  refine AL_p rfl rfl (by first | exact S_lenM (e := 41) rfl (.tmp rfl) (by kernel_rfl) | exact S_len (e := 41) rfl (.tmp rfl) (by kernel_rfl)) ?_
  refine AL_p rfl rfl (S_eql rfl (.tmp rfl) (.tmp rfl)) ?_
  refine AL_p rfl rfl (S_assign rfl (.tmp rfl)) ?_
  refine AL_nil ?_
  refine AC_seq ?_
  refine AC_seq ?_
  refine AC_region ?_
  refine AL_p rfl rfl (S_assign rfl (AEv.const _)) ?_
  refine AL_nil ?_
  refine AC_block ?_
  refine AC_loopK (G := Nat) [(0, _), (1, _), (4, _)] (fun g => g ≤ l.length) (fun g => [(5, .bool true), (6, .int .i64 (g : Int))]) (fun g => st) (fun g => l.length - g) (0) (Nat.zero_le _) (Sub.l (List.Sublist.refl _)) (.cons rfl (Le.refl _) (.cons rfl (Le.refl _) (.cons rfl (Le.refl _) .nil))) (.cons rfl (Le.of_eq (congrArg AV.bool (by simp))) (.cons rfl (by first | exact Le.refl _ | exact Le.nils | exact Le.row _ _ _ _ | exact Le.of_eq (by first | rfl | (simp; done) | (push_cast; rfl) | (simp; omega))) .nil)) ?_
  rintro i hi
  try dsimp only
  simp only [List.cons_append, List.nil_append]
  refine AC_seq ?_
  refine AC_seq ?_
  refine AC_region ?_
  refine AL_p rfl rfl (S_move rfl (.tmp rfl)) ?_
  refine AL_p rfl rfl (S_move rfl (.tmp rfl)) ?_
  refine AL_g rfl rfl (.tmp rfl) rfl (fun hg1 => S_move rfl (.tmp rfl)) ?_
  refine AL_g rfl rfl (.tmp rfl) rfl (fun hg4 => S_move rfl (.tmp rfl)) ?_
  refine AL_g rfl rfl (.tmp rfl) rfl (fun hg7 => by first | exact S_lenM (e := 41) rfl (AEv.cond (.tmp rfl) (by first | assumption | exact gdAnd (by assumption) (by assumption))) (by kernel_rfl) | exact S_len (e := 41) rfl (AEv.cond (.tmp rfl) (by first | assumption | exact gdAnd (by assumption) (by assumption))) (by kernel_rfl)) ?_
  refine AL_g rfl rfl (.tmp rfl) rfl (fun hg10 => S_lss rfl (AEv.cond (.tmp rfl) (by first | assumption | exact gdAnd (by assumption) (by assumption))) (AEv.cond (.tmp rfl) (by first | assumption | exact gdAnd (by assumption) (by assumption)))) ?_
  refine AL_p rfl rfl (S_and rfl (.tmp rfl) (fun hp13 => (AEv.cond (.tmp rfl) (by first | assumption | exact gdT hp13 | exact gdF hp13 | exact gdAnd (by assumption) (gdT hp13) | exact gdAnd (by assumption) (gdF hp13))))) ?_
  refine AL_p rfl rfl (S_move rfl (.tmp rfl)) ?_
  refine AL_g rfl rfl (.tmp rfl) rfl (fun hg14 => S_move rfl (.tmp rfl)) ?_
  refine AL_g rfl rfl (.tmp rfl) rfl (fun hg17 => S_move rfl (.tmp rfl)) ?_
  refine AL_g rfl rfl (.tmp rfl) rfl (fun hg20 => by first | exact S_lenM (e := 41) rfl (AEv.cond (.tmp rfl) (by first | assumption | exact gdAnd (by assumption) (by assumption))) (by kernel_rfl) | exact S_len (e := 41) rfl (AEv.cond (.tmp rfl) (by first | assumption | exact gdAnd (by assumption) (by assumption))) (by kernel_rfl)) ?_
  refine AL_g rfl rfl (.tmp rfl) rfl (fun hg23 => S_lss rfl (AEv.cond (.tmp rfl) (by first | assumption | exact gdAnd (by assumption) (by assumption))) (AEv.cond (.tmp rfl) (by first | assumption | exact gdAnd (by assumption) (by assumption)))) ?_
  refine AL_p rfl rfl (S_and rfl (.tmp rfl) (fun hp26 => (AEv.cond (.tmp rfl) (by first | assumption | exact gdT hp26 | exact gdF hp26 | exact gdAnd (by assumption) (gdT hp26) | exact gdAnd (by assumption) (gdF hp26))))) ?_
  refine AL_nil ?_
  refine AC_cond (.tmp rfl) (fun hb27 => ?_) (fun hb27 => ?_)
  · try simp only [zA, zO, zN, zM, zP, zQ, zD, zF, gd] at hb27
    have hil : i < l.length := by have := hb27.2; omega
    refine AC_skip ?_
    refine AC_seq ?_
    refine AC_block ?_
    refine AC_draw (by kernel_rfl) (by kernel_rfl) (.cons rfl (Q_p rfl (S_move rfl (.tmp rfl))) <|
        .cons rfl (Q_p rfl (S_move rfl (.tmp rfl))) <|
        .cons rfl (Q_p rfl (S_elemN (e := 41) 13 rfl (.tmp rfl) (.tmp rfl) (by kernel_rfl) (by kernel_rfl) (by omega) (fun _ => rfl))) <|
        .cons rfl (Q_p rfl (S_loadPN (m := 13) rfl (.tmp rfl) (by kernel_rfl) (by first | exact Nat.le_of_ble_eq_true rfl | (simp; omega) | simp))) <|
        .cons rfl (Q_p rfl (S_move rfl (.tmp rfl))) <|
        .cons rfl (Q_p rfl (S_move rfl (.tmp rfl))) <|
        .cons rfl (Q_p rfl (S_elemN (e := 41) 13 rfl (.tmp rfl) (.tmp rfl) (by kernel_rfl) (by kernel_rfl) (by omega) (fun _ => rfl))) <|
        .cons rfl (Q_p rfl (S_loadPN (m := 13) rfl (.tmp rfl) (by kernel_rfl) (by first | exact Nat.le_of_ble_eq_true rfl | (simp; omega) | simp))) <|
        .cons rfl (Q_p rfl (S_pcall rfl (AEvs.cons (y := podAV (l[i]'hil)) (.tmp rfl) (AEvs.cons (y := podAV (l[i]'hil)) (.tmp rfl) AEvs.nil)) (book_SamePod_ok (l[i]'hil) (lightP_short (hp _ (List.getElem_mem hil))).1 (lightP_short (hp _ (List.getElem_mem hil))).2))) <|
        .cons rfl (Q_p rfl (S_assign rfl (.tmp rfl))) <|
        .nil) ?_
    refine AC_region ?_
    refine AL_p rfl rfl (S_move rfl (.tmp rfl)) ?_
    refine AL_p rfl rfl (S_addI rfl (.tmp rfl) (AEv.const _) (by omega) (by omega)) ?_
    refine AL_p rfl rfl (S_assign rfl (.tmp rfl)) ?_
    refine AL_nil ?_
    exact ⟨i + 1, by omega, by omega, (Sub.l (List.Sublist.refl _)), (.cons rfl (by first | exact Le.refl _ | exact Le.nils | exact Le.row _ _ _ _ | exact Le.of_eq (by first | rfl | (simp; done) | (push_cast; rfl) | (simp; omega))) (.cons rfl (by first | exact Le.refl _ | exact Le.nils | exact Le.row _ _ _ _ | exact Le.of_eq (by first | rfl | (simp; done) | (push_cast; rfl) | (simp; omega))) .nil)), (.cons rfl (Le.refl _) (.cons rfl (Le.refl _) (.cons rfl (Le.refl _) .nil)))⟩
  try simp only [zA, zO, zN, zM, zP, zQ, zD, zF, gd] at hb27
  refine AC_exit ?_
  refine AC_seq ?_
  refine AC_region ?_
  refine AL_p rfl rfl (S_move rfl (.tmp rfl)) ?_
  refine AL_p rfl rfl (S_assign rfl (.tmp rfl)) ?_
  refine AL_nil ?_
  refine AC_ret ?_
  refine ret_tmp st rfl rfl (Sub.l (List.Sublist.refl _)) (Conv.refl (Sub.l (List.Sublist.refl _)) _) ⟨rfl, rfl⟩ (.inl rfl)

set_option maxRecDepth 100000 in
/-- provost/sel.Filter -/
theorem sel_Filter_ok (a : List Lab) (l : List Pod) (ha : a.length ≤ 1000000) (hl : l.length ≤ 1000000) (hp : ∀ p ∈ l, lightP p) : PCalls Tryd.prog 20 [.sl (labsV a), .sl (podsV l)] (.sl (podsV (l.filter (pick a)))) := by
  intro st
  refine ACalls_of (N := 25) Tryd.func20 (by kernel_rfl) rfl rfl rfl ?_
  refine AC_seq ?_
  refine AC_region ?_
  refine AL_p rfl rfl (S_assign rfl (AEv.const _)) ?_
  refine AL_nil ?_
  refine AC_seq ?_
  refine AC_region ?_
  refine AL_p rfl rfl (S_assign rfl (AEv.const _)) ?_
  refine AL_nil ?_
  refine AC_seq ?_
  refine AC_seq ?_
  refine AC_region ?_
  refine AL_p rfl rfl (S_move rfl (.tmp rfl)) ?_
  refine AL_p rfl rfl (by first | exact S_lenM (e := 41) rfl (.tmp rfl) (by kernel_rfl) | exact S_len (e := 41) rfl (.tmp rfl) (by kernel_rfl)) ?_
  refine AL_p rfl rfl (S_move rfl (AEv.const _)) ?_
  refine AL_nil ?_
  refine AC_block ?_
  refine AC_loopK (G := Nat × Own) [(0, _), (4, _), (8, _), (9, _)] (fun g => g.1 ≤ l.length ∧ g.2.ok (((l.take g.1).filter (pick a)).map podAV)) (fun g => [(5, ownAV g.2 13 (((l.take g.1).filter (pick a)).map podAV)), (10, .int .i64 (g.1 : Int))]) (fun g => ownSt g.2 41 13 (((l.take g.1).filter (pick a)).map podAV) ++ st) (fun g => l.length - g.1) ((0, .nil)) (⟨Nat.zero_le _, by simp [Own.ok]⟩) (Sub.l (List.Sublist.refl _)) (.cons rfl (Le.refl _) (.cons rfl (Le.refl _) (.cons rfl (Le.refl _) (.cons rfl (Le.refl _) .nil)))) (.cons rfl (by first | exact Le.refl _ | exact Le.nils | exact Le.row _ _ _ _ | exact Le.of_eq (by first | rfl | (simp; done) | (push_cast; rfl) | (simp; omega))) (.cons rfl (by first | exact Le.refl _ | exact Le.nils | exact Le.row _ _ _ _ | exact Le.of_eq (by first | rfl | (simp; done) | (push_cast; rfl) | (simp; omega))) .nil)) ?_
  rintro ⟨i, q⟩ ⟨hi, hq⟩
  try dsimp only
  simp only [List.cons_append, List.nil_append]
  dsimp only at hi hq
  refine AC_seq ?_
  refine AC_region ?_
  refine AL_p rfl rfl (S_lss rfl (.tmp rfl) (.tmp rfl)) ?_
  refine AL_nil ?_
  refine AC_seq ?_
  refine AC_cond (.tmp rfl) (fun hb1 => ?_) (fun hb1 => ?_)
  · try simp only [zA, zO, zN, zM, zP, zQ, zD, zF, gd] at hb1
    have hil : i < l.length := by omega
    refine AC_skip ?_
    refine AC_seq ?_
    refine AC_block ?_
    refine AC_seq ?_
    refine AC_region ?_
    refine AL_p rfl rfl (S_elemN (e := 41) 13 rfl (.tmp rfl) (.tmp rfl) (by kernel_rfl) (by kernel_rfl) (by omega) (fun _ => rfl)) ?_
    refine AL_p rfl rfl (S_loadPN (m := 13) rfl (.tmp rfl) (by kernel_rfl) (by first | exact Nat.le_of_ble_eq_true rfl | (simp; omega) | simp)) ?_
    refine AL_step rfl rfl (S_alloc [.int .i64 0, .int .u64 0, .string ⟨#[]⟩, .slice none 0 0, .slice none 0 0, .slice none 0 0, .int .i64 0, .int .i64 0, .int .i64 0, .int .i64 0, .slice none 0 0, .int .i64 0, .int .i64 0] rfl (by kernel_rfl)) ?_
    rintro _ _ ⟨b7, rfl, rfl⟩
    refine AL_step rfl rfl (S_storeW 0 rfl (.tmp rfl) (.tmp rfl) rfl rfl rfl (by kernel_rfl)) ?_
    rintro _ _ ⟨rfl, rfl⟩
    refine AL_nil ?_
    refine AC_seq ?_
    refine AC_region ?_
    refine AL_p rfl rfl (S_move rfl (.tmp rfl)) ?_
    refine AL_p rfl rfl (S_field 2 rfl (.tmp rfl) (by kernel_rfl)) ?_
    refine AL_p rfl rfl (S_field 1 rfl (.tmp rfl) (by kernel_rfl)) ?_
    refine AL_p rfl rfl (S_load 0 rfl (.tmp rfl) rfl rfl (by kernel_rfl)) ?_
    refine AL_p rfl rfl (S_pcall rfl (AEvs.cons (.tmp rfl) (AEvs.cons (y := .sl (labsV (l[i]'hil).spec.labels)) (.tmp rfl) AEvs.nil)) (sel_Fits_ok a (l[i]'hil).spec.labels (by omega) (lightP_labels (hp _ (List.getElem_mem hil))))) ?_
    refine AL_nil ?_
    refine AC_cond (.tmp rfl) (fun hb3 => ?_) (fun hb3 => ?_)
    · try simp only [zA, zO, zN, zM, zP, zQ, zD, zF, gd] at hb3
      have hkp : coversL a (l[i]'hil).spec.labels = true := hb3
      refine AC_region ?_
      refine AL_p rfl rfl (S_move rfl (.tmp rfl)) ?_
      refine AL_p rfl rfl (S_loadN (m := 13) 0 rfl (.tmp rfl) rfl (by kernel_rfl) (by first | exact Nat.le_of_ble_eq_true rfl | (simp; omega) | simp)) ?_
      refine AL_p rfl rfl (S_buildSlice (e := 41) 13 rfl (AEvs.cons (.tmp rfl) AEvs.nil) rfl (by kernel_rfl) (by kernel_rfl) (by intro y hy; simp only [List.mem_cons, List.not_mem_nil, or_false] at hy; rcases hy with rfl <;> exact ⟨rfl, rfl⟩) (by decide) (by decide) (by decide)) ?_
      refine AL_step rfl rfl (S_appendM (f := podAV) (l := ((l.take i).filter (pick a))) (l2 := [(l[i]'hil)]) (e := 41) (size := 13) (bytes := 176) (p := q) ([_]) (st) rfl (.tmp rfl) (.tmp rfl) rfl hq (by kernel_rfl) (by simp) (fun _ => ⟨rfl, rfl⟩) (by have := pick_len a l i; simp only [List.length_singleton]; omega) (by have := pick_len a l i; simp only [List.length_singleton]; omega)) ?_
      rintro _ _ ⟨b8, k8, cap8, hx8, rfl, rfl⟩
      refine AL_p rfl rfl (S_assign rfl (.tmp rfl)) ?_
      refine AL_nil ?_
      refine AC_region ?_
      refine AL_p rfl rfl (S_addI rfl (.tmp rfl) (AEv.const _) (by omega) (by omega)) ?_
      refine AL_p rfl rfl (S_move rfl (.tmp rfl)) ?_
      refine AL_nil ?_
      rw [← pick_yes hil hkp] at hx8 ⊢
      exact ⟨(i + 1, .row b8 k8 cap8), ⟨by dsimp only; omega, hx8⟩, by dsimp only; omega, (Sub.l (List.Sublist.cons _ (List.Sublist.refl _))), (.cons rfl (by first | exact Le.refl _ | exact Le.nils | exact Le.row _ _ _ _ | exact Le.of_eq (by first | rfl | (simp; done) | (push_cast; rfl) | (simp; omega))) (.cons rfl (by first | exact Le.refl _ | exact Le.nils | exact Le.row _ _ _ _ | exact Le.of_eq (by first | rfl | (simp; done) | (push_cast; rfl) | (simp; omega))) .nil)), (.cons rfl (Le.refl _) (.cons rfl (Le.refl _) (.cons rfl (Le.refl _) (.cons rfl (Le.refl _) .nil))))⟩
    try simp only [zA, zO, zN, zM, zP, zQ, zD, zF, gd] at hb3
    have hkp : ¬ coversL a (l[i]'hil).spec.labels = true := by simpa using hb3
    refine AC_skip ?_
    refine AC_region ?_
    refine AL_p rfl rfl (S_addI rfl (.tmp rfl) (AEv.const _) (by omega) (by omega)) ?_
    refine AL_p rfl rfl (S_move rfl (.tmp rfl)) ?_
    refine AL_nil ?_
    rw [← pick_no hil hkp] at hq ⊢
    exact ⟨(i + 1, q), ⟨by dsimp only; omega, hq⟩, by dsimp only; omega, (Sub.l (List.Sublist.cons _ (List.Sublist.refl _))), (.cons rfl (by first | exact Le.refl _ | exact Le.nils | exact Le.row _ _ _ _ | exact Le.of_eq (by first | rfl | (simp; done) | (push_cast; rfl) | (simp; omega))) (.cons rfl (by first | exact Le.refl _ | exact Le.nils | exact Le.row _ _ _ _ | exact Le.of_eq (by first | rfl | (simp; done) | (push_cast; rfl) | (simp; omega))) .nil)), (.cons rfl (Le.refl _) (.cons rfl (Le.refl _) (.cons rfl (Le.refl _) (.cons rfl (Le.refl _) .nil))))⟩
  try simp only [zA, zO, zN, zM, zP, zQ, zD, zF, gd] at hb1
  rw [pick_all (by omega)] at hq ⊢
  refine AC_exit ?_
  refine AC_seq ?_
  refine AC_region ?_
  refine AL_p rfl rfl (S_move rfl (.tmp rfl)) ?_
  refine AL_p rfl rfl (S_assign rfl (.tmp rfl)) ?_
  refine AL_nil ?_
  refine AC_ret ?_
  refine ret_tmp st rfl rfl (Sub.l (List.sublist_append_right _ _)) (Conv.le (Sub.l (List.sublist_append_right _ _)) (Le_own hq)) ⟨rfl, rfl⟩ (.inl rfl)

end Go.Proofs.YtdljfalidkpfoaaDoor

/-
The walks of Go functions in the logic AL: what each of them answers.
Conditions: those of each theorem.
-/
set_option linter.unusedVariables false
set_option linter.unusedSimpArgs false
namespace Go.Proofs.YtdljfalidkpfoaaDoor
open Go.AL Go.NumSpec

set_option maxRecDepth 100000 in
/-- provost/provostlaw11.SelFilters -/
theorem law_SelFilters (a : List Lab) (l : List Pod) : GCalls Tryd.prog tabs 5 [.sl (labsV a), .sl (podsV l)] (.bool true) := by
  intro st hG
  refine ACalls_of (N := 62) Tryd.func5 (by kernel_rfl) rfl rfl rfl ?_
  refine AC_seq ?_
  refine AC_region ?_
  refine AL_p rfl rfl (S_assign rfl (AEv.const _)) ?_
  refine AL_nil ?_
  refine AC_seq ?_
  refine AC_seq ?_
  refine AC_region ?_
  refine AL_p rfl rfl (S_move rfl (.tmp rfl)) ?_
  refine AL_p rfl rfl (S_pcall rfl (AEvs.cons (.tmp rfl) AEvs.nil) (law_light_ok _)) ?_
  refine AL_p rfl rfl (S_not rfl (.tmp rfl)) ?_
  refine AL_p rfl rfl (S_move rfl (.tmp rfl)) ?_
  refine AL_g rfl rfl (.tmp rfl) rfl (fun hg1 => S_move rfl (.tmp rfl)) ?_
  refine AL_g rfl rfl (.tmp rfl) rfl (fun hg4 => by first | exact S_lenM (e := 41) rfl (AEv.cond (.tmp rfl) (by first | assumption | exact gdAnd (by assumption) (by assumption))) (by kernel_rfl) | exact S_len (e := 41) rfl (AEv.cond (.tmp rfl) (by first | assumption | exact gdAnd (by assumption) (by assumption))) (by kernel_rfl)) ?_
  refine AL_g rfl rfl (.tmp rfl) rfl (fun hg7 => S_gtr rfl (AEv.cond (.tmp rfl) (by first | assumption | exact gdAnd (by assumption) (by assumption))) (AEv.const _)) ?_
  refine AL_p rfl rfl (S_or rfl (.tmp rfl) (fun hp10 => (AEv.cond (.tmp rfl) (by first | assumption | exact gdT hp10 | exact gdF hp10 | exact gdAnd (by assumption) (gdT hp10) | exact gdAnd (by assumption) (gdF hp10))))) ?_
  refine AL_nil ?_
  refine AC_cond (.tmp rfl) (fun hb11 => ?_) (fun hb11 => ?_)
  · try simp only [zA, zO, zN, zM, zP, zQ, zD, zF, gd] at hb11
    refine AC_seq ?_
    refine AC_region ?_
    refine AL_p rfl rfl (S_gcall rfl AEvs.nil ((law_works) _ (fun p hp => by first | exact hG p hp | exact List.mem_append_right _ (hG p hp)))) ?_
    refine AL_p rfl rfl (S_assign rfl (.tmp rfl)) ?_
    refine AL_nil ?_
    refine AC_ret ?_
    refine ret_tmp st rfl rfl (Sub.l (List.Sublist.refl _)) (Conv.refl (Sub.l (List.Sublist.refl _)) _) ⟨rfl, rfl⟩ (.inl rfl)
  try simp only [zA, zO, zN, zM, zP, zQ, zD, zF, gd] at hb11
  have hla : lightS (onlyL a) = true := by simpa using hb11.1
  have hll : l.length ≤ 20 := by have := hb11.2; omega
  have hal := (onlyL_light hla).1
  refine AC_skip ?_
  refine AC_seq ?_
  refine AC_region ?_
  refine AL_p rfl rfl (S_assign rfl (AEv.const _)) ?_
  refine AL_nil ?_
  refine AC_seq ?_
  refine AC_seq ?_
  refine AC_region ?_
  refine AL_p rfl rfl (S_assign rfl (AEv.const _)) ?_
  refine AL_nil ?_
  refine AC_block ?_
  refine AC_loopK (G := Nat × Own) [(0, _), (1, _)] (fun g => g.1 ≤ l.length ∧ g.2.ok (((l.take g.1).filter (pick a)).map podAV) ∧ ∀ j (hj : j < l.length), j < g.1 → lightP l[j]) (fun g => [(5, ownAV g.2 13 (((l.take g.1).filter (pick a)).map podAV)), (6, .int .i64 (g.1 : Int))]) (fun g => ownSt g.2 41 13 (((l.take g.1).filter (pick a)).map podAV) ++ st) (fun g => l.length - g.1) ((0, .nil)) (⟨Nat.zero_le _, by simp [Own.ok], fun j _ h => absurd h (Nat.not_lt_zero _)⟩) (Sub.l (List.Sublist.refl _)) (.cons rfl (Le.refl _) (.cons rfl (Le.refl _) .nil)) (.cons rfl (by first | exact Le.refl _ | exact Le.nils | exact Le.row _ _ _ _ | exact Le.of_eq (by first | rfl | (simp; done) | (push_cast; rfl) | (simp; omega))) (.cons rfl (by first | exact Le.refl _ | exact Le.nils | exact Le.row _ _ _ _ | exact Le.of_eq (by first | rfl | (simp; done) | (push_cast; rfl) | (simp; omega))) .nil)) ?_
  rintro ⟨i, q⟩ ⟨hi, hq, hall⟩
  try dsimp only
  simp only [List.cons_append, List.nil_append]
  dsimp only at hi hq hall
  refine AC_seq ?_
  refine AC_seq ?_
  refine AC_region ?_
  refine AL_p rfl rfl (S_move rfl (.tmp rfl)) ?_
  refine AL_p rfl rfl (S_move rfl (.tmp rfl)) ?_
  refine AL_p rfl rfl (by first | exact S_lenM (e := 41) rfl (.tmp rfl) (by kernel_rfl) | exact S_len (e := 41) rfl (.tmp rfl) (by kernel_rfl)) ?_
  refine AL_p rfl rfl (S_lss rfl (.tmp rfl) (.tmp rfl)) ?_
  refine AL_nil ?_
  refine AC_cond (.tmp rfl) (fun hb12 => ?_) (fun hb12 => ?_)
  · try simp only [zA, zO, zN, zM, zP, zQ, zD, zF, gd] at hb12
    have hil : i < l.length := by omega
    have hgd : l.getD i dP = (l[i]'hil) := by rw [List.getD_eq_getElem?_getD, List.getElem?_eq_getElem hil]; rfl
    refine AC_skip ?_
    refine AC_seq ?_
    refine AC_block ?_
    refine AC_seq ?_
    refine AC_seq ?_
    refine AC_region ?_
    refine AL_p rfl rfl (S_move rfl (.tmp rfl)) ?_
    refine AL_p rfl rfl (S_move rfl (.tmp rfl)) ?_
    refine AL_p rfl rfl (S_elemN (e := 41) 13 rfl (.tmp rfl) (.tmp rfl) (by kernel_rfl) (by kernel_rfl) (by omega) (fun _ => rfl)) ?_
    refine AL_p rfl rfl (S_fieldP 2 rfl (.tmp rfl) (by kernel_rfl)) ?_
    refine AL_p rfl rfl (S_loadPN (m := 7) rfl (.tmp rfl) (by kernel_rfl) (by first | exact Nat.le_of_ble_eq_true rfl | (simp; omega) | simp)) ?_
    refine AL_p rfl rfl (S_pcall rfl (AEvs.cons (y := spcAV (l[i]'hil).spec) (.tmp rfl) AEvs.nil) (book_LightSpec_ok (l[i]'hil).spec)) ?_
    refine AL_p rfl rfl (S_not rfl (.tmp rfl)) ?_
    refine AL_p rfl rfl (S_move rfl (.tmp rfl)) ?_
    refine AL_g rfl rfl (.tmp rfl) rfl (fun hg13 => S_move rfl (.tmp rfl)) ?_
    refine AL_g rfl rfl (.tmp rfl) rfl (fun hg16 => S_move rfl (.tmp rfl)) ?_
    refine AL_g rfl rfl (.tmp rfl) rfl (fun hg19 => S_elemD (e := 41) dP 13 rfl (AEv.cond (.tmp rfl) (by first | assumption | exact gdAnd (by assumption) (by assumption))) (AEv.cond (.tmp rfl) (by first | assumption | exact gdAnd (by assumption) (by assumption))) (by kernel_rfl) (by kernel_rfl) (by (try simp only [gd, Bool.and_eq_true, Bool.or_eq_true, Bool.not_eq_true', Bool.not_eq_false', decide_eq_true_eq, decide_eq_false_iff_not, Bool.or_eq_false_iff, Bool.and_eq_false_iff] at *); omega) (fun _ => rfl)) ?_
    refine AL_g rfl rfl (.tmp rfl) rfl (fun hg22 => S_fieldP 10 rfl (AEv.cond (.tmp rfl) (by first | assumption | exact gdAnd (by assumption) (by assumption))) (by kernel_rfl)) ?_
    refine AL_g rfl rfl (.tmp rfl) rfl (fun hg25 => S_loadP rfl (AEv.cond (.tmp rfl) (by first | assumption | exact gdAnd (by assumption) (by assumption))) rfl (by kernel_rfl)) ?_
    refine AL_g rfl rfl (.tmp rfl) rfl (fun hg28 => by first | exact S_lenM (e := 3) rfl (AEv.cond (.tmp rfl) (by first | assumption | exact gdAnd (by assumption) (by assumption))) (by kernel_rfl) | exact S_len (e := 3) rfl (AEv.cond (.tmp rfl) (by first | assumption | exact gdAnd (by assumption) (by assumption))) (by kernel_rfl)) ?_
    refine AL_g rfl rfl (.tmp rfl) rfl (fun hg31 => S_gtr rfl (AEv.cond (.tmp rfl) (by first | assumption | exact gdAnd (by assumption) (by assumption))) (AEv.const _)) ?_
    refine AL_p rfl rfl (S_or rfl (.tmp rfl) (fun hp34 => (AEv.cond (.tmp rfl) (by first | assumption | exact gdT hp34 | exact gdF hp34 | exact gdAnd (by assumption) (gdT hp34) | exact gdAnd (by assumption) (gdF hp34))))) ?_
    refine AL_nil ?_
    refine AC_cond (.tmp rfl) (fun hb35 => ?_) (fun hb35 => ?_)
    · try simp only [zA, zO, zN, zM, zP, zQ, zD, zF, gd] at hb35
      refine AC_seq ?_
      refine AC_region ?_
      refine AL_p rfl rfl (S_gcall rfl AEvs.nil ((law_works) _ (fun p hp => by first | exact hG p hp | exact List.mem_append_right _ (hG p hp)))) ?_
      refine AL_p rfl rfl (S_assign rfl (.tmp rfl)) ?_
      refine AL_nil ?_
      refine AC_ret ?_
      refine ret_tmp st rfl rfl (Sub.l (List.sublist_append_right _ _)) (Conv.refl (Sub.l (List.sublist_append_right _ _)) _) ⟨rfl, rfl⟩ (.inl rfl)
    try simp only [zA, zO, zN, zM, zP, zQ, zD, zF, gd] at hb35
    have hlp : lightP (l[i]'hil) := ⟨by simpa using hb35.1, by have h := hb35.2; rw [hgd] at h; omega⟩
    refine AC_skip ?_
    refine AC_seq ?_
    refine AC_region ?_
    refine AL_p rfl rfl (S_move rfl (.tmp rfl)) ?_
    refine AL_p rfl rfl (S_move rfl (.tmp rfl)) ?_
    refine AL_p rfl rfl (S_move rfl (.tmp rfl)) ?_
    refine AL_p rfl rfl (S_elemN (e := 41) 13 rfl (.tmp rfl) (.tmp rfl) (by kernel_rfl) (by kernel_rfl) (by omega) (fun _ => rfl)) ?_
    refine AL_p rfl rfl (S_fieldP 2 rfl (.tmp rfl) (by kernel_rfl)) ?_
    refine AL_p rfl rfl (S_fieldP 1 rfl (.tmp rfl) (by kernel_rfl)) ?_
    refine AL_p rfl rfl (S_loadP rfl (.tmp rfl) rfl (by kernel_rfl)) ?_
    refine AL_p rfl rfl (S_pcall rfl (AEvs.cons (.tmp rfl) (AEvs.cons (y := .sl (labsV (l[i]'hil).spec.labels)) (.tmp rfl) AEvs.nil)) (ref11_Fits_ok a (l[i]'hil).spec.labels (by omega) (lightP_labels hlp))) ?_
    refine AL_nil ?_
    refine AC_cond (.tmp rfl) (fun hb36 => ?_) (fun hb36 => ?_)
    · try simp only [zA, zO, zN, zM, zP, zQ, zD, zF, gd] at hb36
      have hkp : coversL a (l[i]'hil).spec.labels = true := hb36
      refine AC_region ?_
      refine AL_p rfl rfl (S_move rfl (.tmp rfl)) ?_
      refine AL_p rfl rfl (S_move rfl (.tmp rfl)) ?_
      refine AL_p rfl rfl (S_move rfl (.tmp rfl)) ?_
      refine AL_p rfl rfl (S_elemN (e := 41) 13 rfl (.tmp rfl) (.tmp rfl) (by kernel_rfl) (by kernel_rfl) (by omega) (fun _ => rfl)) ?_
      refine AL_p rfl rfl (S_loadPN (m := 13) rfl (.tmp rfl) (by kernel_rfl) (by first | exact Nat.le_of_ble_eq_true rfl | (simp; omega) | simp)) ?_
      refine AL_p rfl rfl (S_buildSlice (e := 41) 13 rfl (AEvs.cons (.tmp rfl) AEvs.nil) rfl (by kernel_rfl) (by kernel_rfl) (by intro y hy; simp only [List.mem_cons, List.not_mem_nil, or_false] at hy; rcases hy with rfl <;> exact ⟨rfl, rfl⟩) (by decide) (by decide) (by decide)) ?_
      refine AL_step rfl rfl (S_appendM (f := podAV) (l := ((l.take i).filter (pick a))) (l2 := [(l[i]'hil)]) (e := 41) (size := 13) (bytes := 176) (p := q) ([]) (st) rfl (.tmp rfl) (.tmp rfl) rfl hq (by kernel_rfl) (by simp) (fun _ => ⟨rfl, rfl⟩) (by have := pick_len a l i; simp only [List.length_singleton]; omega) (by have := pick_len a l i; simp only [List.length_singleton]; omega)) ?_
      rintro _ _ ⟨b8, k8, cap8, hx8, rfl, rfl⟩
      refine AL_p rfl rfl (S_assign rfl (.tmp rfl)) ?_
      refine AL_nil ?_
      refine AC_region ?_
      refine AL_p rfl rfl (S_move rfl (.tmp rfl)) ?_
      refine AL_p rfl rfl (S_addI rfl (.tmp rfl) (AEv.const _) (by omega) (by omega)) ?_
      refine AL_p rfl rfl (S_assign rfl (.tmp rfl)) ?_
      refine AL_nil ?_
      rw [← pick_yes hil hkp] at hx8 ⊢
      exact ⟨(i + 1, .row b8 k8 cap8), ⟨by dsimp only; omega, hx8, fun j hj h => by
        rcases Nat.lt_or_ge j i with h9 | h9
        · exact hall j hj h9
        · have e9 : j = i := by dsimp only at h; omega
          subst e9; exact hlp⟩, by dsimp only; omega, (Sub.l (List.Sublist.refl _)), (.cons rfl (by first | exact Le.refl _ | exact Le.nils | exact Le.row _ _ _ _ | exact Le.of_eq (by first | rfl | (simp; done) | (push_cast; rfl) | (simp; omega))) (.cons rfl (by first | exact Le.refl _ | exact Le.nils | exact Le.row _ _ _ _ | exact Le.of_eq (by first | rfl | (simp; done) | (push_cast; rfl) | (simp; omega))) .nil)), (.cons rfl (Le.refl _) (.cons rfl (Le.refl _) .nil))⟩
    try simp only [zA, zO, zN, zM, zP, zQ, zD, zF, gd] at hb36
    have hkp : ¬ coversL a (l[i]'hil).spec.labels = true := by simpa using hb36
    refine AC_skip ?_
    refine AC_region ?_
    refine AL_p rfl rfl (S_move rfl (.tmp rfl)) ?_
    refine AL_p rfl rfl (S_addI rfl (.tmp rfl) (AEv.const _) (by omega) (by omega)) ?_
    refine AL_p rfl rfl (S_assign rfl (.tmp rfl)) ?_
    refine AL_nil ?_
    rw [← pick_no hil hkp] at hq ⊢
    exact ⟨(i + 1, q), ⟨by dsimp only; omega, hq, fun j hj h => by
      rcases Nat.lt_or_ge j i with h9 | h9
      · exact hall j hj h9
      · have e9 : j = i := by dsimp only at h; omega
        subst e9; exact hlp⟩, by dsimp only; omega, (Sub.l (List.Sublist.refl _)), (.cons rfl (by first | exact Le.refl _ | exact Le.nils | exact Le.row _ _ _ _ | exact Le.of_eq (by first | rfl | (simp; done) | (push_cast; rfl) | (simp; omega))) (.cons rfl (by first | exact Le.refl _ | exact Le.nils | exact Le.row _ _ _ _ | exact Le.of_eq (by first | rfl | (simp; done) | (push_cast; rfl) | (simp; omega))) .nil)), (.cons rfl (Le.refl _) (.cons rfl (Le.refl _) .nil))⟩
  try simp only [zA, zO, zN, zM, zP, zQ, zD, zF, gd] at hb12
  have hall2 : ∀ p ∈ l, lightP p := fun p hp => by
    obtain ⟨j, hj, rfl⟩ := List.mem_iff_getElem.1 hp
    exact hall j hj (by omega)
  rw [pick_all (by omega)] at hq ⊢
  refine AC_exit ?_
  refine AC_seq ?_
  refine AC_region ?_
  refine AL_p rfl rfl (S_move rfl (.tmp rfl)) ?_
  refine AL_p rfl rfl (S_move rfl (.tmp rfl)) ?_
  refine AL_p rfl rfl (S_pcall rfl (AEvs.cons (.tmp rfl) (AEvs.cons (.tmp rfl) AEvs.nil)) (sel_Filter_ok a l (by omega) (by omega) hall2)) ?_
  refine AL_p rfl rfl (S_move rfl (.tmp rfl)) ?_
  refine AL_p rfl rfl (S_pcall rfl (AEvs.cons (.tmp rfl) (AEvs.cons ((AEv.tmp rfl).le (Le_own hq)) AEvs.nil)) (book_SamePods_ok (l.filter (pick a)) (by have := List.length_filter_le (pick a) l; omega) (pods_picked hall2))) ?_
  refine AL_p rfl rfl (S_move rfl (.tmp rfl)) ?_
  refine AL_g rfl rfl (.tmp rfl) rfl (fun hg39 => S_gcall rfl AEvs.nil ((law_works) _ (fun p hp => by first | exact hG p hp | exact List.mem_append_right _ (hG p hp)))) ?_
  refine AL_p rfl rfl (S_and rfl (.tmp rfl) (fun hp42 => (AEv.cond (.tmp rfl) (by first | assumption | exact gdT hp42 | exact gdF hp42 | exact gdAnd (by assumption) (gdT hp42) | exact gdAnd (by assumption) (gdF hp42))))) ?_
  refine AL_p rfl rfl (S_assign rfl (.tmp rfl)) ?_
  refine AL_nil ?_
  refine AC_ret ?_
  refine ret_tmp st rfl rfl (Sub.l (List.sublist_append_right _ _)) (Conv.refl (Sub.l (List.sublist_append_right _ _)) _) ⟨congrArg AV.bool (by simp), rfl⟩ (.inl rfl)

end Go.Proofs.YtdljfalidkpfoaaDoor
