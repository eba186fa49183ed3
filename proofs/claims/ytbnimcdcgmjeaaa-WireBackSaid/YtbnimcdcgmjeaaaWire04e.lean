/-
The walks of Go functions in the logic AL: what each of them answers.
Conditions: those of each theorem.
-/
import Derived.Test.YtbnimcdcgmjeaaaWire04c
set_option linter.unusedVariables false
set_option linter.unusedSimpArgs false
namespace Go.Proofs.Ytbnimcdcgmjeaaa
open Go.AL Go.NumSpec

set_option maxRecDepth 100000 in
/-- provost/provostlaw04.WireBack -/
theorem law_WireBack (l : List Act4) (hA : ∀ r, r ∈ l → okA r) : PCalls Try.prog 4 [.sl (actsL l)] (.bool true) := by
  intro st
  refine ACalls_of (N := 145) Try.func4 (by kernel_rfl) rfl rfl rfl ?_
  have hln := actsL_len l
  refine AC_seq ?_
  refine AC_region ?_
  refine AL_p rfl rfl (S_assign rfl (AEv.const _)) ?_
  refine AL_nil ?_
  refine AC_seq ?_
  refine AC_seq ?_
  refine AC_region ?_
  refine AL_p rfl rfl (S_pcall rfl AEvs.nil (law_works)) ?_
  refine AL_p rfl rfl (S_not rfl (AEv.tmp rfl)) ?_
  refine AL_nil ?_
  refine AC_cond (AEv.tmp rfl) (fun hb1 => ?_) (fun hb1 => ?_)
  · simp at hb1; done
  · try simp only [Bool.and_eq_true, Bool.or_eq_true, Bool.not_eq_true', Bool.not_eq_false', Bool.and_eq_false_iff, Bool.or_eq_false_iff, decide_eq_true_eq, decide_eq_false_iff_not, gd] at hb1
    refine AC_skip ?_
    refine AC_seq ?_
    refine AC_region ?_
    refine AL_step rfl rfl (S_call rfl AEvs.nil (wire_Write_ok st)) ?_
    rintro _ _ ⟨_, ⟨b1, rfl, rfl⟩, rfl⟩
    refine AL_p rfl rfl (S_assign rfl (AEv.tmp rfl)) ?_
    refine AL_nil ?_
    refine AC_seq ?_
    refine AC_seq ?_
    refine AC_region ?_
    refine AL_p rfl rfl (S_move rfl (AEv.tmp rfl)) ?_
    refine AL_p rfl rfl (S_eqlNil rfl (AEv.tmp rfl) (AEv.const _) (by kernel_rfl)) ?_
    refine AL_nil ?_
    refine AC_cond (AEv.tmp rfl) (fun hb2 => ?_) (fun hb2 => ?_)
    · simp at hb2; done
    · try simp only [Bool.and_eq_true, Bool.or_eq_true, Bool.not_eq_true', Bool.not_eq_false', Bool.and_eq_false_iff, Bool.or_eq_false_iff, decide_eq_true_eq, decide_eq_false_iff_not, gd] at hb2
      refine AC_skip ?_
      refine AC_seq ?_
      refine AC_seq ?_
      refine AC_region ?_
      refine AL_p rfl rfl (S_assign rfl (AEv.const _)) ?_
      refine AL_nil ?_
      refine AC_block ?_
      refine AC_loopS (G := Nat × Bool × Buf) (fun g => g.2.2.ok (encs (l.take g.1)) ∧ (encs (l.take g.1)).length ≤ 310 * g.1 ∧ g.1 ≤ l.length ∧ g.1 ≤ 60 ∧ ∀ (j : Nat) (h : j < l.length), j < g.1 → l[j].2.2.2.length ≤ 300) (fun g => [(0, .sl (actsL l)), (3, .ptr b1 0), (4, .int .i64 (g.1 : Int))]) (fun g => ((b1, .cells [addrB g.2.1 b1 44 3, bufAV g.2.2 (encs (l.take g.1)), .int .i64 (0)]) :: (bufSt g.2.2 5 (encs (l.take g.1)) ++ st))) (fun g => 60 - g.1) (⟨0, false, .nil⟩) (⟨rfl, by simp [encs], by simp, by simp, fun j h hj => absurd hj (by simp)⟩) (Sub.l (List.Sublist.refl _)) ?_ ?_
      · exact .cons rfl (Le.refl _) (.cons rfl (Le.refl _) (.cons rfl (Le.refl _) .nil))
      · rintro ⟨i, u, q⟩ ⟨hq, hl1, hi1, hi2, hshort⟩
        try dsimp only
        try dsimp only at hq hl1 hi1 hi2 hshort
        refine AC_seq ?_
        refine AC_seq ?_
        refine AC_region ?_
        refine AL_p rfl rfl (S_move rfl (AEv.tmp rfl)) ?_
        refine AL_p rfl rfl (S_move rfl (AEv.tmp rfl)) ?_
        refine AL_p rfl rfl (S_len (e := 27) rfl (AEv.tmp rfl) (by kernel_rfl)) ?_
        refine AL_p rfl rfl (S_lss rfl (AEv.tmp rfl) (AEv.tmp rfl)) ?_
        refine AL_p rfl rfl (S_move rfl (AEv.tmp rfl)) ?_
        refine AL_g rfl rfl (AEv.tmp rfl) rfl (fun hg3 => S_move rfl (AEv.tmp rfl)) ?_
        refine AL_g rfl rfl (AEv.tmp rfl) rfl (fun hg6 => S_lss rfl (AEv.cond (AEv.tmp rfl) (by first | assumption | exact gdAnd (by assumption) (by assumption))) (AEv.const _)) ?_
        refine AL_p rfl rfl (S_and rfl (AEv.tmp rfl) (fun hp9 => (AEv.cond (AEv.tmp rfl) (by first | assumption | exact gdT hp9 | exact gdF hp9 | exact gdAnd (by assumption) (gdT hp9) | exact gdAnd (by assumption) (gdF hp9))))) ?_
        refine AL_nil ?_
        refine AC_cond (AEv.tmp rfl) (fun hb10 => ?_) (fun hb10 => ?_)
        · try simp only [Bool.and_eq_true, Bool.or_eq_true, Bool.not_eq_true', Bool.not_eq_false', Bool.and_eq_false_iff, Bool.or_eq_false_iff, decide_eq_true_eq, decide_eq_false_iff_not, gd] at hb10
          have hil : i < l.length := by omega
          obtain ⟨hkind, hn, hbig, hs0⟩ := hA _ (List.getElem_mem hil)
          unfold fits at hn
          have hstep := encs_snoc hil
          refine AC_skip ?_
          refine AC_seq ?_
          refine AC_block ?_
          refine AC_seq ?_
          refine AC_seq ?_
          refine AC_region ?_
          refine AL_p rfl rfl (S_move rfl (AEv.tmp rfl)) ?_
          refine AL_p rfl rfl (S_move rfl (AEv.tmp rfl)) ?_
          refine AL_p rfl rfl (S_elem (e := 27) (c := actAV (l[i]'hil)) (i := (i : Int)) 4 rfl (AEv.tmp rfl) (AEv.tmp rfl) (by kernel_rfl) (by kernel_rfl) (by omega) (by simp [actsL, hil]) rfl) ?_
          refine AL_p rfl rfl (S_fieldP 3 rfl (AEv.tmp rfl) (by kernel_rfl)) ?_
          refine AL_p rfl rfl (S_loadP rfl (AEv.tmp rfl) rfl (by kernel_rfl)) ?_
          refine AL_p rfl rfl (S_lenS (ts := #[]) rfl (AEv.tmp rfl) (by kernel_rfl)) ?_
          refine AL_p rfl rfl (S_gtr rfl (AEv.tmp rfl) (AEv.const _)) ?_
          refine AL_nil ?_
          refine AC_cond (AEv.tmp rfl) (fun hb11 => ?_) (fun hb11 => ?_)
          · try simp only [Bool.and_eq_true, Bool.or_eq_true, Bool.not_eq_true', Bool.not_eq_false', Bool.and_eq_false_iff, Bool.or_eq_false_iff, decide_eq_true_eq, decide_eq_false_iff_not, gd] at hb11
            refine AC_seq ?_
            refine AC_region ?_
            refine AL_p rfl rfl (S_assign rfl (AEv.const _)) ?_
            refine AL_nil ?_
            refine AC_ret ?_
            refine ret_tmp st rfl rfl (Sub.l (.cons _ (List.sublist_append_right _ _))) (Conv.refl (Sub.l (.cons _ (List.sublist_append_right _ _))) _) ⟨rfl, rfl⟩ (.inl rfl)
          · try simp only [Bool.and_eq_true, Bool.or_eq_true, Bool.not_eq_true', Bool.not_eq_false', Bool.and_eq_false_iff, Bool.or_eq_false_iff, decide_eq_true_eq, decide_eq_false_iff_not, gd] at hb11
            have hel := enc_len hn hbig (by omega)
            have hsh2 : ∀ (j : Nat) (h : j < l.length), j < i + 1 → l[j].2.2.2.length ≤ 300 := fun j h hj => by
              rcases Nat.lt_or_ge j i with hji | hji
              · exact hshort j h hji
              · obtain rfl : j = i := by omega
                omega
            refine AC_skip ?_
            refine AC_seq ?_
            refine AC_region ?_
            refine AL_p rfl rfl (S_move rfl (AEv.tmp rfl)) ?_
            refine AL_p rfl rfl (S_move rfl (AEv.tmp rfl)) ?_
            refine AL_p rfl rfl (S_elem (e := 27) (c := actAV (l[i]'hil)) (i := (i : Int)) 4 rfl (AEv.tmp rfl) (AEv.tmp rfl) (by kernel_rfl) (by kernel_rfl) (by omega) (by simp [actsL, hil]) rfl) ?_
            refine AL_p rfl rfl (S_fieldP 0 rfl (AEv.tmp rfl) (by kernel_rfl)) ?_
            refine AL_p rfl rfl (S_loadP rfl (AEv.tmp rfl) rfl (by kernel_rfl)) ?_
            refine AL_nil ?_
            refine AC_block ?_
            refine AC_seq ?_
            refine AC_region ?_
            refine AL_p rfl rfl (S_eql rfl (AEv.tmp rfl) (AEv.const _)) ?_
            refine AL_p rfl rfl (S_assign rfl (AEv.tmp rfl)) ?_
            refine AL_nil ?_
            refine AC_cond (AEv.tmp rfl) (fun hb12 => ?_) (fun hb12 => ?_)
            · try simp only [Bool.and_eq_true, Bool.or_eq_true, Bool.not_eq_true', Bool.not_eq_false', Bool.and_eq_false_iff, Bool.or_eq_false_iff, decide_eq_true_eq, decide_eq_false_iff_not, gd] at hb12
              have he : enc l[i] = putL (max l[i].2.1 0).toNat := by rw [enc, if_pos (by omega)]
              refine AC_region ?_
              refine AL_p rfl rfl (S_move rfl (AEv.tmp rfl)) ?_
              refine AL_p rfl rfl (S_move rfl (AEv.tmp rfl)) ?_
              refine AL_p rfl rfl (S_move rfl (AEv.tmp rfl)) ?_
              refine AL_p rfl rfl (S_elem (e := 27) (c := actAV (l[i]'hil)) (i := (i : Int)) 4 rfl (AEv.tmp rfl) (AEv.tmp rfl) (by kernel_rfl) (by kernel_rfl) (by omega) (by simp [actsL, hil]) rfl) ?_
              refine AL_p rfl rfl (S_fieldP 1 rfl (AEv.tmp rfl) (by kernel_rfl)) ?_
              refine AL_p rfl rfl (S_loadP rfl (AEv.tmp rfl) rfl (by kernel_rfl)) ?_
              refine AL_p rfl rfl (S_max rfl (AEv.tmp rfl) (AEv.const _)) ?_
              refine AL_step rfl rfl (S_call rfl (AEvs.cons (AEv.tmp rfl) (AEvs.cons (AEv.tmp rfl) AEvs.nil)) (w_Num_ok b1 u q (encs (l.take i)) 0 hq (max l[i].2.1 0) (by unfold fits; omega) (by omega) st)) ?_
              rintro _ _ ⟨_, ⟨u2, q2, hq2, rfl, rfl⟩, rfl⟩
              rw [if_neg (by omega)] at hq2
              simp only [if_neg (show ¬ max l[i].2.1 0 < 0 by omega)]
              refine AL_nil ?_
              refine AC_region ?_
              refine AL_p rfl rfl (S_move rfl (AEv.tmp rfl)) ?_
              refine AL_p rfl rfl (S_addI rfl (AEv.tmp rfl) (AEv.const _) (by omega) (by omega)) ?_
              refine AL_p rfl rfl (S_assign rfl (AEv.tmp rfl)) ?_
              refine AL_nil ?_
              refine ⟨⟨i + 1, u2, q2⟩, ⟨by show q2.ok (encs (l.take (i + 1))); rw [hstep, he]; exact hq2, by show (encs (l.take (i + 1))).length ≤ 310 * (i + 1); rw [hstep, List.length_append]; omega, by dsimp only; omega, by dsimp only; omega, hsh2⟩, by dsimp only; omega, by dsimp only; rw [hstep, he]; exact Sub.l (List.Sublist.refl _), .cons rfl (Le.refl _) (.cons rfl (Le.refl _) (.cons rfl (Le.of_eq (by dsimp only; rw [Int.natCast_add]; rfl)) .nil))⟩
            · try simp only [Bool.and_eq_true, Bool.or_eq_true, Bool.not_eq_true', Bool.not_eq_false', Bool.and_eq_false_iff, Bool.or_eq_false_iff, decide_eq_true_eq, decide_eq_false_iff_not, gd] at hb12
              refine AC_seq ?_
              refine AC_region ?_
              refine AL_p rfl rfl (S_eql rfl (AEv.tmp rfl) (AEv.const _)) ?_
              refine AL_p rfl rfl (S_assign rfl (AEv.tmp rfl)) ?_
              refine AL_nil ?_
              refine AC_cond (AEv.tmp rfl) (fun hb13 => ?_) (fun hb13 => ?_)
              · try simp only [Bool.and_eq_true, Bool.or_eq_true, Bool.not_eq_true', Bool.not_eq_false', Bool.and_eq_false_iff, Bool.or_eq_false_iff, decide_eq_true_eq, decide_eq_false_iff_not, gd] at hb13
                have he : enc l[i] = putL l[i].2.2.1 := by rw [enc, if_neg (by omega), if_pos (by omega)]
                refine AC_region ?_
                refine AL_p rfl rfl (S_move rfl (AEv.tmp rfl)) ?_
                refine AL_p rfl rfl (S_move rfl (AEv.tmp rfl)) ?_
                refine AL_p rfl rfl (S_move rfl (AEv.tmp rfl)) ?_
                refine AL_p rfl rfl (S_elem (e := 27) (c := actAV (l[i]'hil)) (i := (i : Int)) 4 rfl (AEv.tmp rfl) (AEv.tmp rfl) (by kernel_rfl) (by kernel_rfl) (by omega) (by simp [actsL, hil]) rfl) ?_
                refine AL_p rfl rfl (S_fieldP 2 rfl (AEv.tmp rfl) (by kernel_rfl)) ?_
                refine AL_p rfl rfl (S_loadP rfl (AEv.tmp rfl) rfl (by kernel_rfl)) ?_
                refine AL_step rfl rfl (S_call rfl (AEvs.cons (AEv.tmp rfl) (AEvs.cons (AEv.tmp rfl) AEvs.nil)) (w_Big_ok b1 u q (encs (l.take i)) 0 hq l[i].2.2.1 hbig (by omega) st)) ?_
                rintro _ _ ⟨_, ⟨u2, q2, hq2, rfl, rfl⟩, rfl⟩
                refine AL_nil ?_
                refine AC_region ?_
                refine AL_p rfl rfl (S_move rfl (AEv.tmp rfl)) ?_
                refine AL_p rfl rfl (S_addI rfl (AEv.tmp rfl) (AEv.const _) (by omega) (by omega)) ?_
                refine AL_p rfl rfl (S_assign rfl (AEv.tmp rfl)) ?_
                refine AL_nil ?_
                refine ⟨⟨i + 1, u2, q2⟩, ⟨by show q2.ok (encs (l.take (i + 1))); rw [hstep, he]; exact hq2, by show (encs (l.take (i + 1))).length ≤ 310 * (i + 1); rw [hstep, List.length_append]; omega, by dsimp only; omega, by dsimp only; omega, hsh2⟩, by dsimp only; omega, by dsimp only; rw [hstep, he]; exact Sub.l (List.Sublist.refl _), .cons rfl (Le.refl _) (.cons rfl (Le.refl _) (.cons rfl (Le.of_eq (by dsimp only; rw [Int.natCast_add]; rfl)) .nil))⟩
              · try simp only [Bool.and_eq_true, Bool.or_eq_true, Bool.not_eq_true', Bool.not_eq_false', Bool.and_eq_false_iff, Bool.or_eq_false_iff, decide_eq_true_eq, decide_eq_false_iff_not, gd] at hb13
                refine AC_seq ?_
                refine AC_region ?_
                refine AL_p rfl rfl (S_eql rfl (AEv.tmp rfl) (AEv.const _)) ?_
                refine AL_p rfl rfl (S_assign rfl (AEv.tmp rfl)) ?_
                refine AL_nil ?_
                refine AC_cond (AEv.tmp rfl) (fun hb14 => ?_) (fun hb14 => ?_)
                · try simp only [Bool.and_eq_true, Bool.or_eq_true, Bool.not_eq_true', Bool.not_eq_false', Bool.and_eq_false_iff, Bool.or_eq_false_iff, decide_eq_true_eq, decide_eq_false_iff_not, gd] at hb14
                  have he : enc l[i] = putL l[i].2.2.2.length ++ l[i].2.2.2 := by rw [enc, if_neg (by omega), if_neg (by omega), if_pos (by omega)]
                  refine AC_region ?_
                  refine AL_p rfl rfl (S_move rfl (AEv.tmp rfl)) ?_
                  refine AL_p rfl rfl (S_move rfl (AEv.tmp rfl)) ?_
                  refine AL_p rfl rfl (S_move rfl (AEv.tmp rfl)) ?_
                  refine AL_p rfl rfl (S_elem (e := 27) (c := actAV (l[i]'hil)) (i := (i : Int)) 4 rfl (AEv.tmp rfl) (AEv.tmp rfl) (by kernel_rfl) (by kernel_rfl) (by omega) (by simp [actsL, hil]) rfl) ?_
                  refine AL_p rfl rfl (S_fieldP 3 rfl (AEv.tmp rfl) (by kernel_rfl)) ?_
                  refine AL_p rfl rfl (S_loadP rfl (AEv.tmp rfl) rfl (by kernel_rfl)) ?_
                  refine AL_step rfl rfl (S_call rfl (AEvs.cons (AEv.tmp rfl) (AEvs.cons (AEv.tmp rfl) AEvs.nil)) (w_Text_ok b1 u q (encs (l.take i)) 0 hq l[i].2.2.2 (by omega) st)) ?_
                  rintro _ _ ⟨_, ⟨u2, q2, hq2, rfl, rfl⟩, rfl⟩
                  refine AL_nil ?_
                  refine AC_region ?_
                  refine AL_p rfl rfl (S_move rfl (AEv.tmp rfl)) ?_
                  refine AL_p rfl rfl (S_addI rfl (AEv.tmp rfl) (AEv.const _) (by omega) (by omega)) ?_
                  refine AL_p rfl rfl (S_assign rfl (AEv.tmp rfl)) ?_
                  refine AL_nil ?_
                  refine ⟨⟨i + 1, u2, q2⟩, ⟨by show q2.ok (encs (l.take (i + 1))); rw [hstep, he]; exact hq2, by show (encs (l.take (i + 1))).length ≤ 310 * (i + 1); rw [hstep, List.length_append]; omega, by dsimp only; omega, by dsimp only; omega, hsh2⟩, by dsimp only; omega, by dsimp only; rw [hstep, he]; exact Sub.l (List.Sublist.refl _), .cons rfl (Le.refl _) (.cons rfl (Le.refl _) (.cons rfl (Le.of_eq (by dsimp only; rw [Int.natCast_add]; rfl)) .nil))⟩
                · try simp only [Bool.and_eq_true, Bool.or_eq_true, Bool.not_eq_true', Bool.not_eq_false', Bool.and_eq_false_iff, Bool.or_eq_false_iff, decide_eq_true_eq, decide_eq_false_iff_not, gd] at hb14
                  have he : enc l[i] = [if decide (0 < l[i].2.1) then 1 else 0] := by rw [enc, if_neg (by omega), if_neg (by omega), if_neg (by omega)]
                  refine AC_region ?_
                  refine AL_p rfl rfl (S_move rfl (AEv.tmp rfl)) ?_
                  refine AL_p rfl rfl (S_move rfl (AEv.tmp rfl)) ?_
                  refine AL_p rfl rfl (S_move rfl (AEv.tmp rfl)) ?_
                  refine AL_p rfl rfl (S_elem (e := 27) (c := actAV (l[i]'hil)) (i := (i : Int)) 4 rfl (AEv.tmp rfl) (AEv.tmp rfl) (by kernel_rfl) (by kernel_rfl) (by omega) (by simp [actsL, hil]) rfl) ?_
                  refine AL_p rfl rfl (S_fieldP 1 rfl (AEv.tmp rfl) (by kernel_rfl)) ?_
                  refine AL_p rfl rfl (S_loadP rfl (AEv.tmp rfl) rfl (by kernel_rfl)) ?_
                  refine AL_p rfl rfl (S_gtr rfl (AEv.tmp rfl) (AEv.const _)) ?_
                  refine AL_step rfl rfl (S_call rfl (AEvs.cons (AEv.tmp rfl) (AEvs.cons (AEv.tmp rfl) AEvs.nil)) (w_Bool_ok b1 u q (encs (l.take i)) 0 hq (decide (0 < l[i].2.1)) (by omega) st)) ?_
                  rintro _ _ ⟨_, ⟨u2, q2, hq2, rfl, rfl⟩, rfl⟩
                  refine AL_nil ?_
                  refine AC_region ?_
                  refine AL_p rfl rfl (S_move rfl (AEv.tmp rfl)) ?_
                  refine AL_p rfl rfl (S_addI rfl (AEv.tmp rfl) (AEv.const _) (by omega) (by omega)) ?_
                  refine AL_p rfl rfl (S_assign rfl (AEv.tmp rfl)) ?_
                  refine AL_nil ?_
                  refine ⟨⟨i + 1, u2, q2⟩, ⟨by show q2.ok (encs (l.take (i + 1))); rw [hstep, he]; exact hq2, by show (encs (l.take (i + 1))).length ≤ 310 * (i + 1); rw [hstep, List.length_append]; omega, by dsimp only; omega, by dsimp only; omega, hsh2⟩, by dsimp only; omega, by dsimp only; rw [hstep, he]; exact Sub.l (List.Sublist.refl _), .cons rfl (Le.refl _) (.cons rfl (Le.refl _) (.cons rfl (Le.of_eq (by dsimp only; rw [Int.natCast_add]; rfl)) .nil))⟩
        · try simp only [Bool.and_eq_true, Bool.or_eq_true, Bool.not_eq_true', Bool.not_eq_false', Bool.and_eq_false_iff, Bool.or_eq_false_iff, decide_eq_true_eq, decide_eq_false_iff_not, gd] at hb10
          refine AC_exit ?_
          refine AC_seq ?_
          refine AC_region ?_
          refine AL_p rfl rfl (S_move rfl (AEv.tmp rfl)) ?_
          refine AL_step rfl rfl (S_call rfl (AEvs.cons (AEv.tmp rfl) AEvs.nil) (w_End_ok b1 u q (encs (l.take i)) 0 hq st)) ?_
          rintro _ _ ⟨_, ⟨cs1, rfl, rfl⟩, rfl⟩
          rw [if_pos rfl]
          refine AL_p rfl rfl (S_move rfl (AEv.tmp rfl)) ?_
          refine AL_p rfl rfl (S_extract 0 rfl (AEv.tmp rfl) rfl) ?_
          refine AL_p rfl rfl (S_extract 1 rfl (AEv.tmp rfl) rfl) ?_
          refine AL_p rfl rfl (S_assign rfl (AEv.tmp rfl)) ?_
          refine AL_p rfl rfl (S_assign rfl (AEv.tmp rfl)) ?_
          refine AL_nil ?_
          refine AC_seq ?_
          refine AC_seq ?_
          refine AC_region ?_
          refine AL_p rfl rfl (S_move rfl (AEv.tmp rfl)) ?_
          refine AL_p rfl rfl (S_neq rfl (AEv.tmp rfl) (AEv.const _)) ?_
          refine AL_nil ?_
          refine AC_cond (AEv.tmp rfl) (fun hb15 => ?_) (fun hb15 => ?_)
          · simp at hb15; done
          · try simp only [Bool.and_eq_true, Bool.or_eq_true, Bool.not_eq_true', Bool.not_eq_false', Bool.and_eq_false_iff, Bool.or_eq_false_iff, decide_eq_true_eq, decide_eq_false_iff_not, gd] at hb15
            refine AC_skip ?_
            refine AC_seq ?_
            refine AC_region ?_
            refine AL_p rfl rfl (S_move rfl (AEv.tmp rfl)) ?_
            refine AL_step rfl rfl (S_call rfl (AEvs.cons (AEv.tmp rfl) AEvs.nil) (wire_Read_ok (encs (l.take i)) _)) ?_
            rintro _ _ ⟨_, ⟨b2, rfl, rfl⟩, rfl⟩
            refine AL_p rfl rfl (S_assign rfl (AEv.tmp rfl)) ?_
            refine AL_nil ?_
            refine AC_seq ?_
            refine AC_seq ?_
            refine AC_region ?_
            refine AL_p rfl rfl (S_move rfl (AEv.tmp rfl)) ?_
            refine AL_p rfl rfl (S_eqlNil rfl (AEv.tmp rfl) (AEv.const _) (by kernel_rfl)) ?_
            refine AL_nil ?_
            refine AC_cond (AEv.tmp rfl) (fun hb16 => ?_) (fun hb16 => ?_)
            · simp at hb16; done
            · try simp only [Bool.and_eq_true, Bool.or_eq_true, Bool.not_eq_true', Bool.not_eq_false', Bool.and_eq_false_iff, Bool.or_eq_false_iff, decide_eq_true_eq, decide_eq_false_iff_not, gd] at hb16
              refine AC_skip ?_
              refine AC_seq ?_
              refine AC_seq ?_
              refine AC_region ?_
              refine AL_p rfl rfl (S_assign rfl (AEv.const _)) ?_
              refine AL_nil ?_
              refine AC_block ?_
              refine AC_loopS (G := Nat) (fun j => j ≤ i) (fun j => [(0, .sl (actsL l)), (7, .ptr b2 0), (8, .int .i64 (j : Int))]) (fun j => ((b2, .cells [.S (encs ((l.take i).drop j)), .int .i64 0]) :: ((b1, .cells cs1) :: st))) (fun j => 60 - j) (0) (Nat.zero_le _) (Sub.l (List.Sublist.refl _)) ?_ ?_
              · exact .cons rfl (Le.refl _) (.cons rfl (Le.refl _) (.cons rfl (Le.refl _) .nil))
              · rintro j hj
                try dsimp only
                refine AC_seq ?_
                refine AC_seq ?_
                refine AC_region ?_
                refine AL_p rfl rfl (S_move rfl (AEv.tmp rfl)) ?_
                refine AL_p rfl rfl (S_move rfl (AEv.tmp rfl)) ?_
                refine AL_p rfl rfl (S_len (e := 27) rfl (AEv.tmp rfl) (by kernel_rfl)) ?_
                refine AL_p rfl rfl (S_lss rfl (AEv.tmp rfl) (AEv.tmp rfl)) ?_
                refine AL_p rfl rfl (S_move rfl (AEv.tmp rfl)) ?_
                refine AL_g rfl rfl (AEv.tmp rfl) rfl (fun hg17 => S_move rfl (AEv.tmp rfl)) ?_
                refine AL_g rfl rfl (AEv.tmp rfl) rfl (fun hg20 => S_lss rfl (AEv.cond (AEv.tmp rfl) (by first | assumption | exact gdAnd (by assumption) (by assumption))) (AEv.const _)) ?_
                refine AL_p rfl rfl (S_and rfl (AEv.tmp rfl) (fun hp23 => (AEv.cond (AEv.tmp rfl) (by first | assumption | exact gdT hp23 | exact gdF hp23 | exact gdAnd (by assumption) (gdT hp23) | exact gdAnd (by assumption) (gdF hp23))))) ?_
                refine AL_nil ?_
                refine AC_cond (AEv.tmp rfl) (fun hb24 => ?_) (fun hb24 => ?_)
                · try simp only [Bool.and_eq_true, Bool.or_eq_true, Bool.not_eq_true', Bool.not_eq_false', Bool.and_eq_false_iff, Bool.or_eq_false_iff, decide_eq_true_eq, decide_eq_false_iff_not, gd] at hb24
                  have hji : j < i := by omega
                  have hil : j < l.length := by omega
                  obtain ⟨hkind, hn, hbig, hs0⟩ := hA _ (List.getElem_mem hil)
                  unfold fits at hn
                  have hstep := encs_head hji hi1
                  refine AC_skip ?_
                  refine AC_seq ?_
                  refine AC_block ?_
                  refine AC_seq ?_
                  refine AC_region ?_
                  refine AL_p rfl rfl (S_move rfl (AEv.tmp rfl)) ?_
                  refine AL_p rfl rfl (S_move rfl (AEv.tmp rfl)) ?_
                  refine AL_p rfl rfl (S_elem (e := 27) (c := actAV (l[j]'hil)) (i := (j : Int)) 4 rfl (AEv.tmp rfl) (AEv.tmp rfl) (by kernel_rfl) (by kernel_rfl) (by omega) (by simp [actsL, hil]) rfl) ?_
                  refine AL_p rfl rfl (S_loadPN (m := 4) rfl (AEv.tmp rfl) (by kernel_rfl) (by first | exact Nat.le_of_ble_eq_true rfl | (simp; omega) | simp)) ?_
                  refine AL_step rfl rfl (S_alloc [.int .i64 0, .int .i64 0, .int .u64 0, .string ⟨#[]⟩] rfl (by kernel_rfl)) ?_
                  rintro _ _ ⟨b25, rfl, rfl⟩
                  refine AL_step rfl rfl (S_storeN 0 rfl (AEv.tmp rfl) (AEv.tmp rfl) rfl (by first | exact Nat.le_of_ble_eq_true rfl | (simp; omega) | simp) (by first | rfl | simp [AV.one, Value.oneCell']) (by kernel_rfl)) ?_
                  rintro _ _ ⟨rfl, rfl⟩
                  refine AL_nil ?_
                  refine AC_seq ?_
                  refine AC_region ?_
                  refine AL_p rfl rfl (S_assign rfl (AEv.const _)) ?_
                  refine AL_nil ?_
                  refine AC_seq ?_
                  refine AC_seq ?_
                  refine AC_region ?_
                  refine AL_p rfl rfl (S_field 0 rfl (AEv.tmp rfl) (by kernel_rfl)) ?_
                  refine AL_p rfl rfl (S_load 0 rfl (AEv.tmp rfl) rfl rfl (by kernel_rfl)) ?_
                  refine AL_nil ?_
                  refine AC_block ?_
                  refine AC_seq ?_
                  refine AC_region ?_
                  refine AL_p rfl rfl (S_eql rfl (AEv.tmp rfl) (AEv.const _)) ?_
                  refine AL_p rfl rfl (S_assign rfl (AEv.tmp rfl)) ?_
                  refine AL_nil ?_
                  refine AC_cond (AEv.tmp rfl) (fun hb26 => ?_) (fun hb26 => ?_)
                  · try simp only [Bool.and_eq_true, Bool.or_eq_true, Bool.not_eq_true', Bool.not_eq_false', Bool.and_eq_false_iff, Bool.or_eq_false_iff, decide_eq_true_eq, decide_eq_false_iff_not, gd] at hb26
                    have hr : numR (encs ((l.take i).drop j)) 0 (max l[j].2.1 0) = (max l[j].2.1 0, encs ((l.take i).drop (j + 1)), 0) := by
                      rw [hstep, enc, if_pos (by omega)]
                      have := numR_put (max l[j].2.1 0).toNat (encs ((l.take i).drop (j + 1))) (max l[j].2.1 0) (by omega) (by omega)
                      rw [Int.toNat_of_nonneg (by omega)] at this
                      exact this
                    refine AC_plan (σ := [(0, 0), (1, 0), (2, 0), (3, 0), (5, 0), (6, 0), (7, 0), (4, 1), (8, 0), (9, 0)]) (by kernel_rfl) [(b25, .cells (actL (l[j]'hil)))] (by kernel_rfl) (fun q hq => by simp only [List.mem_singleton] at hq; subst hq; exact .head _) ?_
                    refine AG.f rfl rfl (fun st' hst => Q_p rfl (S_move rfl (AEv.tmp rfl))) ?_
                    refine AG.f rfl rfl (fun st' hst => Q_p rfl (S_field 1 rfl (AEv.tmp rfl) (by kernel_rfl))) ?_
                    refine AG.f rfl rfl (fun st' hst => Q_p rfl (S_loadM rfl (AEv.tmp rfl) (hst _ (List.mem_of_getElem? (i := 0) rfl)) rfl (by kernel_rfl))) ?_
                    refine AG.f rfl rfl (fun st' hst => Q_p rfl (S_max rfl (AEv.tmp rfl) (AEv.const _))) ?_
                    refine AG.f rfl rfl (fun st' hst => Q_p rfl (S_field 1 rfl (AEv.tmp rfl) (by kernel_rfl))) ?_
                    refine AG.f rfl rfl (fun st' hst => Q_p rfl (S_loadM rfl (AEv.tmp rfl) (hst _ (List.mem_of_getElem? (i := 0) rfl)) rfl (by kernel_rfl))) ?_
                    refine AG.f rfl rfl (fun st' hst => Q_p rfl (S_max rfl (AEv.tmp rfl) (AEv.const _))) ?_
                    refine AG.s rfl rfl rfl (S_call rfl (AEvs.cons (AEv.tmp rfl) (AEvs.cons (AEv.tmp rfl) AEvs.nil)) (ACalls.pre (foot := [(b2, Ob.cells [.S (encs ((l.take i).drop j)), .int .i64 0])]) (fun F => r_Num_ok b2 _ 0 (max l[j].2.1 0) (by unfold fits; omega) F) [_] _)) ?_ ?_
                    · rintro _ _ ⟨_, ⟨rfl, rfl⟩, rfl⟩ q hq; simp only [List.mem_singleton] at hq; subst hq; exact .head _
                    rintro _ _ ⟨_, ⟨rfl, rfl⟩, rfl⟩
                    simp only [hr]
                    refine AG.f rfl rfl (fun st' hst => Q_p rfl (S_eql rfl (AEv.tmp rfl) (AEv.tmp rfl))) ?_
                    refine AG.f rfl rfl (fun st' hst => Q_p rfl (S_assign rfl (AEv.tmp rfl))) ?_
                    refine AG.nil ?_
                    refine AC_seq ?_
                    refine AC_region ?_
                    refine AL_p rfl rfl (S_move rfl (AEv.tmp rfl)) ?_
                    refine AL_p rfl rfl (S_not rfl (AEv.tmp rfl)) ?_
                    refine AL_nil ?_
                    refine AC_cond (AEv.tmp rfl) (fun hb27 => ?_) (fun hb27 => ?_)
                    · simp at hb27; done
                    · try simp only [Bool.and_eq_true, Bool.or_eq_true, Bool.not_eq_true', Bool.not_eq_false', Bool.and_eq_false_iff, Bool.or_eq_false_iff, decide_eq_true_eq, decide_eq_false_iff_not, gd] at hb27
                      refine AC_skip ?_
                      refine AC_region ?_
                      refine AL_p rfl rfl (S_move rfl (AEv.tmp rfl)) ?_
                      refine AL_p rfl rfl (S_addI rfl (AEv.tmp rfl) (AEv.const _) (by omega) (by omega)) ?_
                      refine AL_p rfl rfl (S_assign rfl (AEv.tmp rfl)) ?_
                      refine AL_nil ?_
                      refine ⟨j + 1, by omega, by omega, Sub.l (.cons _ (List.Sublist.refl _)), .cons rfl (Le.refl _) (.cons rfl (Le.refl _) (.cons rfl (Le.of_eq (by rw [Int.natCast_add]; rfl)) .nil))⟩
                  · try simp only [Bool.and_eq_true, Bool.or_eq_true, Bool.not_eq_true', Bool.not_eq_false', Bool.and_eq_false_iff, Bool.or_eq_false_iff, decide_eq_true_eq, decide_eq_false_iff_not, gd] at hb26
                    refine AC_seq ?_
                    refine AC_region ?_
                    refine AL_p rfl rfl (S_eql rfl (AEv.tmp rfl) (AEv.const _)) ?_
                    refine AL_p rfl rfl (S_assign rfl (AEv.tmp rfl)) ?_
                    refine AL_nil ?_
                    refine AC_cond (AEv.tmp rfl) (fun hb28 => ?_) (fun hb28 => ?_)
                    · try simp only [Bool.and_eq_true, Bool.or_eq_true, Bool.not_eq_true', Bool.not_eq_false', Bool.and_eq_false_iff, Bool.or_eq_false_iff, decide_eq_true_eq, decide_eq_false_iff_not, gd] at hb28
                      have hr : bigR (encs ((l.take i).drop j)) 0 = (l[j].2.2.1, encs ((l.take i).drop (j + 1)), 0) := by
                        rw [hstep, enc, if_neg (by omega), if_pos (by omega)]
                        exact bigR_put _ _ hbig
                      refine AC_plan (σ := [(0, 0), (2, 0), (3, 0), (1, 1), (4, 0), (5, 0)]) (by kernel_rfl) [(b25, .cells (actL (l[j]'hil)))] (by kernel_rfl) (fun q hq => by simp only [List.mem_singleton] at hq; subst hq; exact .head _) ?_
                      refine AG.f rfl rfl (fun st' hst => Q_p rfl (S_move rfl (AEv.tmp rfl))) ?_
                      refine AG.f rfl rfl (fun st' hst => Q_p rfl (S_field 2 rfl (AEv.tmp rfl) (by kernel_rfl))) ?_
                      refine AG.f rfl rfl (fun st' hst => Q_p rfl (S_loadM rfl (AEv.tmp rfl) (hst _ (List.mem_of_getElem? (i := 0) rfl)) rfl (by kernel_rfl))) ?_
                      refine AG.s rfl rfl rfl (S_call rfl (AEvs.cons (AEv.tmp rfl) AEvs.nil) (ACalls.pre (foot := [(b2, Ob.cells [.S (encs ((l.take i).drop j)), .int .i64 0])]) (fun F => r_Big_ok b2 _ 0 F) [_] _)) ?_ ?_
                      · rintro _ _ ⟨_, ⟨rfl, rfl⟩, rfl⟩ q hq; simp only [List.mem_singleton] at hq; subst hq; exact .head _
                      rintro _ _ ⟨_, ⟨rfl, rfl⟩, rfl⟩
                      simp only [hr]
                      refine AG.f rfl rfl (fun st' hst => Q_p rfl (S_eql rfl (AEv.tmp rfl) (AEv.tmp rfl))) ?_
                      refine AG.f rfl rfl (fun st' hst => Q_p rfl (S_assign rfl (AEv.tmp rfl))) ?_
                      refine AG.nil ?_
                      refine AC_seq ?_
                      refine AC_region ?_
                      refine AL_p rfl rfl (S_move rfl (AEv.tmp rfl)) ?_
                      refine AL_p rfl rfl (S_not rfl (AEv.tmp rfl)) ?_
                      refine AL_nil ?_
                      refine AC_cond (AEv.tmp rfl) (fun hb29 => ?_) (fun hb29 => ?_)
                      · simp at hb29; done
                      · try simp only [Bool.and_eq_true, Bool.or_eq_true, Bool.not_eq_true', Bool.not_eq_false', Bool.and_eq_false_iff, Bool.or_eq_false_iff, decide_eq_true_eq, decide_eq_false_iff_not, gd] at hb29
                        refine AC_skip ?_
                        refine AC_region ?_
                        refine AL_p rfl rfl (S_move rfl (AEv.tmp rfl)) ?_
                        refine AL_p rfl rfl (S_addI rfl (AEv.tmp rfl) (AEv.const _) (by omega) (by omega)) ?_
                        refine AL_p rfl rfl (S_assign rfl (AEv.tmp rfl)) ?_
                        refine AL_nil ?_
                        refine ⟨j + 1, by omega, by omega, Sub.l (.cons _ (List.Sublist.refl _)), .cons rfl (Le.refl _) (.cons rfl (Le.refl _) (.cons rfl (Le.of_eq (by rw [Int.natCast_add]; rfl)) .nil))⟩
                    · try simp only [Bool.and_eq_true, Bool.or_eq_true, Bool.not_eq_true', Bool.not_eq_false', Bool.and_eq_false_iff, Bool.or_eq_false_iff, decide_eq_true_eq, decide_eq_false_iff_not, gd] at hb28
                      refine AC_seq ?_
                      refine AC_region ?_
                      refine AL_p rfl rfl (S_eql rfl (AEv.tmp rfl) (AEv.const _)) ?_
                      refine AL_p rfl rfl (S_assign rfl (AEv.tmp rfl)) ?_
                      refine AL_nil ?_
                      refine AC_cond (AEv.tmp rfl) (fun hb30 => ?_) (fun hb30 => ?_)
                      · try simp only [Bool.and_eq_true, Bool.or_eq_true, Bool.not_eq_true', Bool.not_eq_false', Bool.and_eq_false_iff, Bool.or_eq_false_iff, decide_eq_true_eq, decide_eq_false_iff_not, gd] at hb30
                        have hsl : l[j].2.2.2.length ≤ 300 := hshort j hil hji
                        have hr : textR (encs ((l.take i).drop j)) 0 (l[j].2.2.2.length : Int) = (l[j].2.2.2, encs ((l.take i).drop (j + 1)), 0) := by
                          rw [hstep, enc, if_neg (by omega), if_neg (by omega), if_pos (by omega), List.append_assoc]
                          exact textR_put _ _ _ (by omega) (by omega)
                        refine AC_plan (σ := [(0, 0), (1, 0), (2, 0), (3, 0), (5, 0), (6, 0), (4, 1), (7, 0), (8, 0)]) (by kernel_rfl) [(b25, .cells (actL (l[j]'hil)))] (by kernel_rfl) (fun q hq => by simp only [List.mem_singleton] at hq; subst hq; exact .head _) ?_
                        refine AG.f rfl rfl (fun st' hst => Q_p rfl (S_move rfl (AEv.tmp rfl))) ?_
                        refine AG.f rfl rfl (fun st' hst => Q_p rfl (S_field 3 rfl (AEv.tmp rfl) (by kernel_rfl))) ?_
                        refine AG.f rfl rfl (fun st' hst => Q_p rfl (S_loadM rfl (AEv.tmp rfl) (hst _ (List.mem_of_getElem? (i := 0) rfl)) rfl (by kernel_rfl))) ?_
                        refine AG.f rfl rfl (fun st' hst => Q_p rfl (S_lenS (ts := #[]) rfl (AEv.tmp rfl) (by kernel_rfl))) ?_
                        refine AG.f rfl rfl (fun st' hst => Q_p rfl (S_field 3 rfl (AEv.tmp rfl) (by kernel_rfl))) ?_
                        refine AG.f rfl rfl (fun st' hst => Q_p rfl (S_loadM rfl (AEv.tmp rfl) (hst _ (List.mem_of_getElem? (i := 0) rfl)) rfl (by kernel_rfl))) ?_
                        refine AG.s rfl rfl rfl (S_call rfl (AEvs.cons (AEv.tmp rfl) (AEvs.cons (AEv.tmp rfl) AEvs.nil)) (ACalls.pre (foot := [(b2, Ob.cells [.S (encs ((l.take i).drop j)), .int .i64 0])]) (fun F => r_Text_ok b2 _ 0 (l[j].2.2.2.length : Int) (by unfold fits; omega) F) [_] _)) ?_ ?_
                        · rintro _ _ ⟨_, ⟨rfl, rfl⟩, rfl⟩ q hq; simp only [List.mem_singleton] at hq; subst hq; exact .head _
                        rintro _ _ ⟨_, ⟨rfl, rfl⟩, rfl⟩
                        simp only [hr]
                        refine AG.f rfl rfl (fun st' hst => Q_p rfl (S_eqS rfl (AEv.tmp rfl) (AEv.tmp rfl))) ?_
                        refine AG.f rfl rfl (fun st' hst => Q_p rfl (S_assign rfl (AEv.tmp rfl))) ?_
                        refine AG.nil ?_
                        refine AC_seq ?_
                        refine AC_region ?_
                        refine AL_p rfl rfl (S_move rfl (AEv.tmp rfl)) ?_
                        refine AL_p rfl rfl (S_not rfl (AEv.tmp rfl)) ?_
                        refine AL_nil ?_
                        refine AC_cond (AEv.tmp rfl) (fun hb31 => ?_) (fun hb31 => ?_)
                        · simp at hb31; done
                        · try simp only [Bool.and_eq_true, Bool.or_eq_true, Bool.not_eq_true', Bool.not_eq_false', Bool.and_eq_false_iff, Bool.or_eq_false_iff, decide_eq_true_eq, decide_eq_false_iff_not, gd] at hb31
                          refine AC_skip ?_
                          refine AC_region ?_
                          refine AL_p rfl rfl (S_move rfl (AEv.tmp rfl)) ?_
                          refine AL_p rfl rfl (S_addI rfl (AEv.tmp rfl) (AEv.const _) (by omega) (by omega)) ?_
                          refine AL_p rfl rfl (S_assign rfl (AEv.tmp rfl)) ?_
                          refine AL_nil ?_
                          refine ⟨j + 1, by omega, by omega, Sub.l (.cons _ (List.Sublist.refl _)), .cons rfl (Le.refl _) (.cons rfl (Le.refl _) (.cons rfl (Le.of_eq (by rw [Int.natCast_add]; rfl)) .nil))⟩
                      · try simp only [Bool.and_eq_true, Bool.or_eq_true, Bool.not_eq_true', Bool.not_eq_false', Bool.and_eq_false_iff, Bool.or_eq_false_iff, decide_eq_true_eq, decide_eq_false_iff_not, gd] at hb30
                        have hr : boolR (encs ((l.take i).drop j)) 0 = (decide (0 < l[j].2.1), encs ((l.take i).drop (j + 1)), 0) := by
                          rw [hstep, enc, if_neg (by omega), if_neg (by omega), if_neg (by omega)]
                          exact boolR_put _ _
                        refine AC_plan (σ := [(0, 0), (2, 0), (3, 0), (4, 0), (1, 1), (5, 0), (6, 0)]) (by kernel_rfl) [(b25, .cells (actL (l[j]'hil)))] (by kernel_rfl) (fun q hq => by simp only [List.mem_singleton] at hq; subst hq; exact .head _) ?_
                        refine AG.f rfl rfl (fun st' hst => Q_p rfl (S_move rfl (AEv.tmp rfl))) ?_
                        refine AG.f rfl rfl (fun st' hst => Q_p rfl (S_field 1 rfl (AEv.tmp rfl) (by kernel_rfl))) ?_
                        refine AG.f rfl rfl (fun st' hst => Q_p rfl (S_loadM rfl (AEv.tmp rfl) (hst _ (List.mem_of_getElem? (i := 0) rfl)) rfl (by kernel_rfl))) ?_
                        refine AG.f rfl rfl (fun st' hst => Q_p rfl (S_gtr rfl (AEv.tmp rfl) (AEv.const _))) ?_
                        refine AG.s rfl rfl rfl (S_call rfl (AEvs.cons (AEv.tmp rfl) AEvs.nil) (ACalls.pre (foot := [(b2, Ob.cells [.S (encs ((l.take i).drop j)), .int .i64 0])]) (fun F => r_Bool_ok b2 _ 0 F) [_] _)) ?_ ?_
                        · rintro _ _ ⟨_, ⟨rfl, rfl⟩, rfl⟩ q hq; simp only [List.mem_singleton] at hq; subst hq; exact .head _
                        rintro _ _ ⟨_, ⟨rfl, rfl⟩, rfl⟩
                        simp only [hr]
                        refine AG.f rfl rfl (fun st' hst => Q_p rfl (S_eqB rfl (AEv.tmp rfl) (AEv.tmp rfl) (by kernel_rfl))) ?_
                        refine AG.f rfl rfl (fun st' hst => Q_p rfl (S_assign rfl (AEv.tmp rfl))) ?_
                        refine AG.nil ?_
                        refine AC_seq ?_
                        refine AC_region ?_
                        refine AL_p rfl rfl (S_move rfl (AEv.tmp rfl)) ?_
                        refine AL_p rfl rfl (S_not rfl (AEv.tmp rfl)) ?_
                        refine AL_nil ?_
                        refine AC_cond (AEv.tmp rfl) (fun hb32 => ?_) (fun hb32 => ?_)
                        · simp at hb32; done
                        · try simp only [Bool.and_eq_true, Bool.or_eq_true, Bool.not_eq_true', Bool.not_eq_false', Bool.and_eq_false_iff, Bool.or_eq_false_iff, decide_eq_true_eq, decide_eq_false_iff_not, gd] at hb32
                          refine AC_skip ?_
                          refine AC_region ?_
                          refine AL_p rfl rfl (S_move rfl (AEv.tmp rfl)) ?_
                          refine AL_p rfl rfl (S_addI rfl (AEv.tmp rfl) (AEv.const _) (by omega) (by omega)) ?_
                          refine AL_p rfl rfl (S_assign rfl (AEv.tmp rfl)) ?_
                          refine AL_nil ?_
                          refine ⟨j + 1, by omega, by omega, Sub.l (.cons _ (List.Sublist.refl _)), .cons rfl (Le.refl _) (.cons rfl (Le.refl _) (.cons rfl (Le.of_eq (by rw [Int.natCast_add]; rfl)) .nil))⟩
                · try simp only [Bool.and_eq_true, Bool.or_eq_true, Bool.not_eq_true', Bool.not_eq_false', Bool.and_eq_false_iff, Bool.or_eq_false_iff, decide_eq_true_eq, decide_eq_false_iff_not, gd] at hb24
                  have hend := encs_end (l := l) (show i ≤ j by omega)
                  rw [hend]
                  refine AC_exit ?_
                  refine AC_seq ?_
                  refine AC_region ?_
                  refine AL_p rfl rfl (S_move rfl (AEv.tmp rfl)) ?_
                  refine AL_step rfl rfl (S_call rfl (AEvs.cons (AEv.tmp rfl) AEvs.nil) (r_End_ok b2 [] 0 _)) ?_
                  rintro _ _ ⟨_, ⟨rfl, rfl⟩, rfl⟩
                  refine AL_p rfl rfl (S_eql rfl (AEv.tmp rfl) (AEv.const _)) ?_
                  refine AL_p rfl rfl (S_move rfl (AEv.tmp rfl)) ?_
                  refine AL_g rfl rfl (AEv.tmp rfl) rfl (fun hg33 => S_move rfl (AEv.tmp rfl)) ?_
                  refine AL_g rfl rfl (AEv.tmp rfl) rfl (fun hg36 => S_keep (S_call rfl (AEvs.cons (AEv.cond (AEv.tmp rfl) (by first | assumption | exact gdAnd (by assumption) (by assumption))) AEvs.nil) (r_Left_ok b2 [] _ _)) (by rintro _ _ ⟨_, ⟨rfl, rfl⟩, rfl⟩; exact ⟨rfl, rfl⟩)) ?_
                  refine AL_g rfl rfl (AEv.tmp rfl) rfl (fun hg39 => S_eql rfl (AEv.cond (AEv.tmp rfl) (by first | assumption | exact gdAnd (by assumption) (by assumption))) (AEv.const _)) ?_
                  refine AL_p rfl rfl (S_and rfl (AEv.tmp rfl) (fun hp42 => (AEv.cond (AEv.tmp rfl) (by first | assumption | exact gdT hp42 | exact gdF hp42 | exact gdAnd (by assumption) (gdT hp42) | exact gdAnd (by assumption) (gdF hp42))))) ?_
                  refine AL_p rfl rfl (S_assign rfl (AEv.tmp rfl)) ?_
                  refine AL_nil ?_
                  refine AC_ret ?_
                  refine ret_tmp st rfl rfl (Sub.l (.cons _ (.cons _ (List.Sublist.refl _)))) (Conv.refl (Sub.l (.cons _ (.cons _ (List.Sublist.refl _)))) _) ⟨rfl, rfl⟩ (.inl rfl)

end Go.Proofs.Ytbnimcdcgmjeaaa
