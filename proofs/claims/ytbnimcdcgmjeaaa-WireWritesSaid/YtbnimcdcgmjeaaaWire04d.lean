/-
The walks of Go functions in the logic AL: what each of them answers.
Conditions: those of each theorem.
-/
import Derived.Test.YtbnimcdcgmjeaaaWire04c
set_option linter.unusedVariables false
set_option linter.unusedSimpArgs false
namespace Go.Proofs.Ytbnimcdcgmjeaaa
open Go.AL Go.NumSpec

set_option maxRecDepth 100000 in
/-- provost/provostlaw04.WireWrites -/
theorem law_WireWrites (l : List Act4) (hA : ∀ r, r ∈ l → okA r) : PCalls Try.prog 3 [.sl (actsL l)] (.bool true) := by
  intro st
  refine ACalls_of (N := 123) Try.func3 (by kernel_rfl) rfl rfl rfl ?_
  have hln := actsL_len l
  refine AC_seq ?_
  refine AC_region ?_
  refine AL_p rfl rfl (S_assign rfl (AEv.const _)) ?_
  refine AL_nil ?_
  refine AC_seq ?_
  refine AC_region ?_
  refine AL_step rfl rfl (S_call rfl AEvs.nil (wire_Write_ok st)) ?_
  rintro _ _ ⟨_, ⟨b1, rfl, rfl⟩, rfl⟩
  refine AL_p rfl rfl (S_assign rfl (AEv.tmp rfl)) ?_
  refine AL_nil ?_
  refine AC_seq ?_
  refine AC_seq ?_
  refine AC_region ?_
  refine AL_p rfl rfl (S_move rfl (AEv.tmp rfl)) ?_
  refine AL_p rfl rfl (S_eqlNil rfl (AEv.tmp rfl) (AEv.const _) (by kernel_rfl)) ?_
  refine AL_nil ?_
  refine AC_cond (AEv.tmp rfl) (fun hb1 => ?_) (fun hb1 => ?_)
  · simp at hb1; done
  · try simp only [Bool.and_eq_true, Bool.or_eq_true, Bool.not_eq_true', Bool.not_eq_false', Bool.and_eq_false_iff, Bool.or_eq_false_iff, decide_eq_true_eq, decide_eq_false_iff_not, gd] at hb1
    refine AC_skip ?_
    refine AC_seq ?_
    refine AC_region ?_
    refine AL_p rfl rfl (S_assign rfl (AEv.S _)) ?_
    refine AL_nil ?_
    refine AC_seq ?_
    refine AC_region ?_
    refine AL_p rfl rfl (S_assign rfl (AEv.const _)) ?_
    refine AL_nil ?_
    refine AC_seq ?_
    refine AC_seq ?_
    refine AC_region ?_
    refine AL_p rfl rfl (S_assign rfl (AEv.const _)) ?_
    refine AL_nil ?_
    refine AC_block ?_
    refine AC_loopS (G := WG) (fun g => g.ok) (fun g => [(0, .sl (actsL l)), (3, .ptr b1 0), (4, .S g.want), (5, .int .i64 g.c), (6, .int .i64 (g.i : Int))]) (fun g => ((b1, .cells [addrB g.u b1 44 3, bufAV g.q (g.lw), .int .i64 (g.c)]) :: (bufSt g.q 5 (g.lw) ++ st))) (fun g => 60 - g.i) (⟨0, false, .nil, [], 0, []⟩) (⟨rfl, fun _ => rfl, by simp, by simp, by simp⟩) (Sub.l (List.Sublist.refl _)) ?_ ?_
    · exact (.cons rfl (Le.refl _) (.cons rfl (Le.refl _) (.cons rfl (Le.refl _) (.cons rfl (Le.refl _) (.cons rfl (Le.refl _) .nil)))))
    · rintro ⟨i, u, q, lw, c, want⟩ hI
      try dsimp only
      dsimp only [WG.ok] at hI
      obtain ⟨hq, hlw, hl1, hl2, hi⟩ := hI
      try dsimp only at hq hlw hl1 hl2 hi
      refine AC_seq ?_
      refine AC_seq ?_
      refine AC_region ?_
      refine AL_p rfl rfl (S_move rfl (AEv.tmp rfl)) ?_
      refine AL_p rfl rfl (S_move rfl (AEv.tmp rfl)) ?_
      refine AL_p rfl rfl (S_len (e := 27) rfl (AEv.tmp rfl) (by kernel_rfl)) ?_
      refine AL_p rfl rfl (S_lss rfl (AEv.tmp rfl) (AEv.tmp rfl)) ?_
      refine AL_p rfl rfl (S_move rfl (AEv.tmp rfl)) ?_
      refine AL_g rfl rfl (AEv.tmp rfl) rfl (fun hg2 => S_move rfl (AEv.tmp rfl)) ?_
      refine AL_g rfl rfl (AEv.tmp rfl) rfl (fun hg5 => S_lss rfl (AEv.cond (AEv.tmp rfl) (by first | assumption | exact gdAnd (by assumption) (by assumption))) (AEv.const _)) ?_
      refine AL_p rfl rfl (S_and rfl (AEv.tmp rfl) (fun hp8 => (AEv.cond (AEv.tmp rfl) (by first | assumption | exact gdT hp8 | exact gdF hp8 | exact gdAnd (by assumption) (gdT hp8) | exact gdAnd (by assumption) (gdF hp8))))) ?_
      refine AL_nil ?_
      refine AC_cond (AEv.tmp rfl) (fun hb9 => ?_) (fun hb9 => ?_)
      · try simp only [Bool.and_eq_true, Bool.or_eq_true, Bool.not_eq_true', Bool.not_eq_false', Bool.and_eq_false_iff, Bool.or_eq_false_iff, decide_eq_true_eq, decide_eq_false_iff_not, gd] at hb9
        have hil : i < l.length := by omega
        obtain ⟨hkind, hn, hbig, hs0⟩ := hA _ (List.getElem_mem hil)
        have hb1 := putL_few l[i].2.2.1 hbig
        unfold fits at hn
        refine AC_skip ?_
        refine AC_seq ?_
        refine AC_block ?_
        refine AC_seq ?_
        refine AC_region ?_
        refine AL_p rfl rfl (S_move rfl (AEv.tmp rfl)) ?_
        refine AL_p rfl rfl (S_move rfl (AEv.tmp rfl)) ?_
        refine AL_p rfl rfl (S_elem (e := 27) (c := actAV (l[i]'hil)) (i := (i : Int)) 4 rfl (AEv.tmp rfl) (AEv.tmp rfl) (by kernel_rfl) (by kernel_rfl) (by omega) (by simp [actsL, hil]) rfl) ?_
        refine AL_p rfl rfl (S_loadPN (m := 4) rfl (AEv.tmp rfl) (by kernel_rfl) (by first | exact Nat.le_of_ble_eq_true rfl | (simp; omega) | simp)) ?_
        refine AL_step rfl rfl (S_alloc [.int .i64 0, .int .i64 0, .int .u64 0, .string ⟨#[]⟩] rfl (by kernel_rfl)) ?_
        rintro _ _ ⟨b10, rfl, rfl⟩
        refine AL_step rfl rfl (S_storeN 0 rfl (AEv.tmp rfl) (AEv.tmp rfl) rfl (by first | exact Nat.le_of_ble_eq_true rfl | (simp; omega) | simp) (by first | rfl | simp [AV.one, Value.oneCell']) (by kernel_rfl)) ?_
        rintro _ _ ⟨rfl, rfl⟩
        refine AL_nil ?_
        refine AC_seq ?_
        refine AC_seq ?_
        refine AC_region ?_
        refine AL_p rfl rfl (S_field 3 rfl (AEv.tmp rfl) (by kernel_rfl)) ?_
        refine AL_p rfl rfl (S_load 0 rfl (AEv.tmp rfl) rfl rfl (by kernel_rfl)) ?_
        refine AL_p rfl rfl (S_lenS (ts := #[]) rfl (AEv.tmp rfl) (by kernel_rfl)) ?_
        refine AL_p rfl rfl (S_gtr rfl (AEv.tmp rfl) (AEv.const _)) ?_
        refine AL_nil ?_
        refine AC_cond (AEv.tmp rfl) (fun hb11 => ?_) (fun hb11 => ?_)
        · try simp only [Bool.and_eq_true, Bool.or_eq_true, Bool.not_eq_true', Bool.not_eq_false', Bool.and_eq_false_iff, Bool.or_eq_false_iff, decide_eq_true_eq, decide_eq_false_iff_not, gd] at hb11
          refine AC_seq ?_
          refine AC_region ?_
          refine AL_p rfl rfl (S_pcall rfl AEvs.nil (law_works)) ?_
          refine AL_p rfl rfl (S_assign rfl (AEv.tmp rfl)) ?_
          refine AL_nil ?_
          refine AC_ret ?_
          refine ret_tmp st rfl rfl (Sub.l (.cons _ (.cons _ (List.sublist_append_right _ _)))) (Conv.refl (Sub.l (.cons _ (.cons _ (List.sublist_append_right _ _)))) _) ⟨rfl, rfl⟩ (.inl rfl)
        · try simp only [Bool.and_eq_true, Bool.or_eq_true, Bool.not_eq_true', Bool.not_eq_false', Bool.and_eq_false_iff, Bool.or_eq_false_iff, decide_eq_true_eq, decide_eq_false_iff_not, gd] at hb11
          have hb2 := putL_few l[i].2.2.2.length (by omega)
          have hb3 := putL_few l[i].2.1.toNat (by omega)
          have hw1 := wput_len c lw (putL l[i].2.1.toNat)
          have hw2 := wput_len c lw (putL l[i].2.2.1)
          have hw3 := wput_len c lw (putL l[i].2.2.2.length ++ l[i].2.2.2)
          have hw4 := wput_len c lw [if decide (0 < l[i].2.1) then 1 else 0]
          simp only [List.length_append, List.length_singleton] at hw3 hw4
          refine AC_skip ?_
          refine AC_seq ?_
          refine AC_region ?_
          refine AL_p rfl rfl (S_assign rfl (AEv.S _)) ?_
          refine AL_nil ?_
          refine AC_joinS (G := WG) (fun g => g.mid i want) (fun g => [(0, .sl (actsL l)), (3, .ptr b1 0), (4, .S want), (5, .int .i64 g.c), (6, .int .i64 (g.i : Int)), (8, .S g.want)]) (fun g => ((b1, .cells [addrB g.u b1 44 3, bufAV g.q (g.lw), .int .i64 (g.c)]) :: (bufSt g.q 5 (g.lw) ++ st))) ?_ ?_
          · refine AC_seq ?_
            refine AC_region ?_
            refine AL_p rfl rfl (S_field 0 rfl (AEv.tmp rfl) (by kernel_rfl)) ?_
            refine AL_p rfl rfl (S_load 0 rfl (AEv.tmp rfl) rfl rfl (by kernel_rfl)) ?_
            refine AL_nil ?_
            refine AC_block ?_
            refine AC_seq ?_
            refine AC_region ?_
            refine AL_p rfl rfl (S_eql rfl (AEv.tmp rfl) (AEv.const _)) ?_
            refine AL_p rfl rfl (S_assign rfl (AEv.tmp rfl)) ?_
            refine AL_nil ?_
            refine AC_cond (AEv.tmp rfl) (fun hb12 => ?_) (fun hb12 => ?_)
            · try simp only [Bool.and_eq_true, Bool.or_eq_true, Bool.not_eq_true', Bool.not_eq_false', Bool.and_eq_false_iff, Bool.or_eq_false_iff, decide_eq_true_eq, decide_eq_false_iff_not, gd] at hb12
              refine AC_seq ?_
              refine AC_region ?_
              refine AL_p rfl rfl (S_move rfl (AEv.tmp rfl)) ?_
              refine AL_p rfl rfl (S_field 1 rfl (AEv.tmp rfl) (by kernel_rfl)) ?_
              refine AL_p rfl rfl (S_load 0 rfl (AEv.tmp rfl) rfl rfl (by kernel_rfl)) ?_
              refine AL_step rfl rfl (S_call rfl (AEvs.cons (AEv.tmp rfl) (AEvs.cons (AEv.tmp rfl) AEvs.nil)) (ACalls.pre (w_Num_ok b1 u q lw c hq l[i].2.1 hn (by omega)) [_] st)) ?_
              rintro _ _ ⟨_, ⟨u2, q2, hq2, rfl, rfl⟩, rfl⟩
              generalize hL : (if l[i].2.1 < 0 then lw else wput c lw (putL l[i].2.1.toNat)) = lw2 at hq2 ⊢
              generalize hC : (if l[i].2.1 < 0 then failC c 1 else c) = c2 at hq2 ⊢
              refine AL_nil ?_
              refine AC_seq ?_
              refine AC_region ?_
              refine AL_p rfl rfl (S_field 1 rfl (AEv.tmp rfl) (by kernel_rfl)) ?_
              refine AL_p rfl rfl (S_load 0 rfl (AEv.tmp rfl) rfl rfl (by kernel_rfl)) ?_
              refine AL_p rfl rfl (S_lss rfl (AEv.tmp rfl) (AEv.const _)) ?_
              refine AL_p rfl rfl (S_move rfl (AEv.tmp rfl)) ?_
              refine AL_g rfl rfl (AEv.tmp rfl) rfl (fun hg13 => S_move rfl (AEv.tmp rfl)) ?_
              refine AL_g rfl rfl (AEv.tmp rfl) rfl (fun hg16 => S_eql rfl (AEv.cond (AEv.tmp rfl) (by first | assumption | exact gdAnd (by assumption) (by assumption))) (AEv.const _)) ?_
              refine AL_p rfl rfl (S_and rfl (AEv.tmp rfl) (fun hp19 => (AEv.cond (AEv.tmp rfl) (by first | assumption | exact gdT hp19 | exact gdF hp19 | exact gdAnd (by assumption) (gdT hp19) | exact gdAnd (by assumption) (gdF hp19))))) ?_
              refine AL_nil ?_
              refine AC_cond (AEv.tmp rfl) (fun hb20 => ?_) (fun hb20 => ?_)
              · try simp only [Bool.and_eq_true, Bool.or_eq_true, Bool.not_eq_true', Bool.not_eq_false', Bool.and_eq_false_iff, Bool.or_eq_false_iff, decide_eq_true_eq, decide_eq_false_iff_not, gd] at hb20
                have hc1 : c2 = 1 := by rw [← hC, if_pos (by omega), failC, if_pos (by omega)]
                rw [if_pos (by omega)] at hL
                subst hL
                refine AC_region ?_
                refine AL_p rfl rfl (S_assign rfl (AEv.const _)) ?_
                refine AL_nil ?_
                refine ⟨⟨i, u2, q2, lw, c2, []⟩, ⟨hq2, fun h => absurd (hc1.symm.trans h) (by decide), by dsimp only; omega, by dsimp only; (first | omega | (simp; done) | (rw [List.length_append]; omega)), rfl⟩, Sub.l (.cons _ (List.Sublist.refl _)), (.cons rfl (Le.refl _) (.cons rfl (Le.refl _) (.cons rfl (Le.refl _) (.cons rfl (Le.of_eq (by rw [hc1])) (.cons rfl (Le.refl _) (.cons rfl (Le.refl _) .nil))))))⟩
              · try simp only [Bool.and_eq_true, Bool.or_eq_true, Bool.not_eq_true', Bool.not_eq_false', Bool.and_eq_false_iff, Bool.or_eq_false_iff, decide_eq_true_eq, decide_eq_false_iff_not, gd] at hb20
                refine AC_seq ?_
                refine AC_region ?_
                refine AL_p rfl rfl (S_field 1 rfl (AEv.tmp rfl) (by kernel_rfl)) ?_
                refine AL_p rfl rfl (S_load 0 rfl (AEv.tmp rfl) rfl rfl (by kernel_rfl)) ?_
                refine AL_p rfl rfl (S_geq rfl (AEv.tmp rfl) (AEv.const _)) ?_
                refine AL_nil ?_
                refine AC_cond (AEv.tmp rfl) (fun hb21 => ?_) (fun hb21 => ?_)
                · try simp only [Bool.and_eq_true, Bool.or_eq_true, Bool.not_eq_true', Bool.not_eq_false', Bool.and_eq_false_iff, Bool.or_eq_false_iff, decide_eq_true_eq, decide_eq_false_iff_not, gd] at hb21
                  rw [if_neg (by omega)] at hL
                  subst hL
                  refine AC_region ?_
                  refine AL_p rfl rfl (S_field 1 rfl (AEv.tmp rfl) (by kernel_rfl)) ?_
                  refine AL_p rfl rfl (S_load 0 rfl (AEv.tmp rfl) rfl rfl (by kernel_rfl)) ?_
                  refine AL_p rfl rfl (S_conv (k' := .u64) rfl (AEv.tmp rfl) (by kernel_rfl) (by kernel_rfl)) ?_
                  refine AL_p rfl rfl (S_pcall rfl (AEvs.cons (y := .int .u64 (l[i].2.1.toNat : Int)) ((AEv.tmp rfl).le (Le.of_eq (by rw [u64w, show l[i].2.1 % 18446744073709551616 = (l[i].2.1.toNat : Int) by omega]))) AEvs.nil) (ref_Put_ok l[i].2.1.toNat (by omega))) ?_
                  refine AL_p rfl rfl (S_assign rfl (AEv.tmp rfl)) ?_
                  refine AL_nil ?_
                  refine ⟨⟨i, u2, q2, wput c lw (putL l[i].2.1.toNat), c2, putL l[i].2.1.toNat⟩, ⟨hq2, by rw [← hC, if_neg (by omega)]; exact wput_mid hlw, by dsimp only; omega, by dsimp only; (first | omega | (simp; done) | (rw [List.length_append]; omega)), rfl⟩, Sub.l (.cons _ (List.Sublist.refl _)), (.cons rfl (Le.refl _) (.cons rfl (Le.refl _) (.cons rfl (Le.refl _) (.cons rfl (Le.of_eq (by rw [← hC, if_neg (by omega)])) (.cons rfl (Le.refl _) (.cons rfl (Le.refl _) .nil))))))⟩
                · try simp only [Bool.and_eq_true, Bool.or_eq_true, Bool.not_eq_true', Bool.not_eq_false', Bool.and_eq_false_iff, Bool.or_eq_false_iff, decide_eq_true_eq, decide_eq_false_iff_not, gd] at hb21
                  have hcn : c ≠ 0 := by omega
                  rw [if_pos (by omega)] at hL
                  subst hL
                  refine AC_skip ?_
                  refine ⟨⟨i, u2, q2, lw, c2, []⟩, ⟨hq2, fun h => absurd (by rw [← hC, if_pos (by omega), failC, if_neg (by omega)] at h; exact h) hcn, by dsimp only; omega, by dsimp only; (first | omega | (simp; done) | (rw [List.length_append]; omega)), rfl⟩, Sub.l (.cons _ (List.Sublist.refl _)), (.cons rfl (Le.refl _) (.cons rfl (Le.refl _) (.cons rfl (Le.refl _) (.cons rfl (Le.of_eq (by rw [← hC, if_pos (by omega), failC, if_neg (by omega)])) (.cons rfl (Le.refl _) (.cons rfl (Le.refl _) .nil))))))⟩
            · try simp only [Bool.and_eq_true, Bool.or_eq_true, Bool.not_eq_true', Bool.not_eq_false', Bool.and_eq_false_iff, Bool.or_eq_false_iff, decide_eq_true_eq, decide_eq_false_iff_not, gd] at hb12
              refine AC_seq ?_
              refine AC_region ?_
              refine AL_p rfl rfl (S_eql rfl (AEv.tmp rfl) (AEv.const _)) ?_
              refine AL_p rfl rfl (S_assign rfl (AEv.tmp rfl)) ?_
              refine AL_nil ?_
              refine AC_cond (AEv.tmp rfl) (fun hb22 => ?_) (fun hb22 => ?_)
              · try simp only [Bool.and_eq_true, Bool.or_eq_true, Bool.not_eq_true', Bool.not_eq_false', Bool.and_eq_false_iff, Bool.or_eq_false_iff, decide_eq_true_eq, decide_eq_false_iff_not, gd] at hb22
                refine AC_seq ?_
                refine AC_region ?_
                refine AL_p rfl rfl (S_move rfl (AEv.tmp rfl)) ?_
                refine AL_p rfl rfl (S_field 2 rfl (AEv.tmp rfl) (by kernel_rfl)) ?_
                refine AL_p rfl rfl (S_load 0 rfl (AEv.tmp rfl) rfl rfl (by kernel_rfl)) ?_
                refine AL_step rfl rfl (S_call rfl (AEvs.cons (AEv.tmp rfl) (AEvs.cons (AEv.tmp rfl) AEvs.nil)) (ACalls.pre (w_Big_ok b1 u q lw c hq l[i].2.2.1 hbig (by omega)) [_] st)) ?_
                rintro _ _ ⟨_, ⟨u2, q2, hq2, rfl, rfl⟩, rfl⟩
                refine AL_nil ?_
                refine AC_region ?_
                refine AL_p rfl rfl (S_field 2 rfl (AEv.tmp rfl) (by kernel_rfl)) ?_
                refine AL_p rfl rfl (S_load 0 rfl (AEv.tmp rfl) rfl rfl (by kernel_rfl)) ?_
                refine AL_p rfl rfl (S_pcall rfl (AEvs.cons (AEv.tmp rfl) AEvs.nil) (ref_Put_ok l[i].2.2.1 hbig)) ?_
                refine AL_p rfl rfl (S_assign rfl (AEv.tmp rfl)) ?_
                refine AL_nil ?_
                refine ⟨⟨i, u2, q2, wput c lw (putL l[i].2.2.1), c, putL l[i].2.2.1⟩, ⟨hq2, wput_mid hlw, by dsimp only; omega, by dsimp only; (first | omega | (simp; done) | (rw [List.length_append]; omega)), rfl⟩, Sub.l (.cons _ (List.Sublist.refl _)), (.cons rfl (Le.refl _) (.cons rfl (Le.refl _) (.cons rfl (Le.refl _) (.cons rfl (Le.refl _) (.cons rfl (Le.refl _) (.cons rfl (Le.refl _) .nil))))))⟩
              · try simp only [Bool.and_eq_true, Bool.or_eq_true, Bool.not_eq_true', Bool.not_eq_false', Bool.and_eq_false_iff, Bool.or_eq_false_iff, decide_eq_true_eq, decide_eq_false_iff_not, gd] at hb22
                refine AC_seq ?_
                refine AC_region ?_
                refine AL_p rfl rfl (S_eql rfl (AEv.tmp rfl) (AEv.const _)) ?_
                refine AL_p rfl rfl (S_assign rfl (AEv.tmp rfl)) ?_
                refine AL_nil ?_
                refine AC_cond (AEv.tmp rfl) (fun hb23 => ?_) (fun hb23 => ?_)
                · try simp only [Bool.and_eq_true, Bool.or_eq_true, Bool.not_eq_true', Bool.not_eq_false', Bool.and_eq_false_iff, Bool.or_eq_false_iff, decide_eq_true_eq, decide_eq_false_iff_not, gd] at hb23
                  refine AC_seq ?_
                  refine AC_region ?_
                  refine AL_p rfl rfl (S_move rfl (AEv.tmp rfl)) ?_
                  refine AL_p rfl rfl (S_field 3 rfl (AEv.tmp rfl) (by kernel_rfl)) ?_
                  refine AL_p rfl rfl (S_load 0 rfl (AEv.tmp rfl) rfl rfl (by kernel_rfl)) ?_
                  refine AL_step rfl rfl (S_call rfl (AEvs.cons (AEv.tmp rfl) (AEvs.cons (AEv.tmp rfl) AEvs.nil)) (ACalls.pre (w_Text_ok b1 u q lw c hq l[i].2.2.2 (by omega)) [_] st)) ?_
                  rintro _ _ ⟨_, ⟨u2, q2, hq2, rfl, rfl⟩, rfl⟩
                  refine AL_nil ?_
                  refine AC_region ?_
                  refine AL_p rfl rfl (S_field 3 rfl (AEv.tmp rfl) (by kernel_rfl)) ?_
                  refine AL_p rfl rfl (S_load 0 rfl (AEv.tmp rfl) rfl rfl (by kernel_rfl)) ?_
                  refine AL_p rfl rfl (S_pcall rfl (AEvs.cons (AEv.tmp rfl) AEvs.nil) (ref04_Bytes_ok l[i].2.2.2 (by omega))) ?_
                  refine AL_p rfl rfl (S_assign rfl (AEv.tmp rfl)) ?_
                  refine AL_nil ?_
                  refine ⟨⟨i, u2, q2, wput c lw (putL l[i].2.2.2.length ++ l[i].2.2.2), c, putL l[i].2.2.2.length ++ l[i].2.2.2⟩, ⟨hq2, wput_mid hlw, by dsimp only; omega, by dsimp only; (first | omega | (simp; done) | (rw [List.length_append]; omega)), rfl⟩, Sub.l (.cons _ (List.Sublist.refl _)), (.cons rfl (Le.refl _) (.cons rfl (Le.refl _) (.cons rfl (Le.refl _) (.cons rfl (Le.refl _) (.cons rfl (Le.refl _) (.cons rfl (Le.refl _) .nil))))))⟩
                · try simp only [Bool.and_eq_true, Bool.or_eq_true, Bool.not_eq_true', Bool.not_eq_false', Bool.and_eq_false_iff, Bool.or_eq_false_iff, decide_eq_true_eq, decide_eq_false_iff_not, gd] at hb23
                  refine AC_seq ?_
                  refine AC_region ?_
                  refine AL_p rfl rfl (S_eql rfl (AEv.tmp rfl) (AEv.const _)) ?_
                  refine AL_p rfl rfl (S_assign rfl (AEv.tmp rfl)) ?_
                  refine AL_nil ?_
                  refine AC_cond (AEv.tmp rfl) (fun hb24 => ?_) (fun hb24 => ?_)
                  · try simp only [Bool.and_eq_true, Bool.or_eq_true, Bool.not_eq_true', Bool.not_eq_false', Bool.and_eq_false_iff, Bool.or_eq_false_iff, decide_eq_true_eq, decide_eq_false_iff_not, gd] at hb24
                    refine AC_seq ?_
                    refine AC_region ?_
                    refine AL_p rfl rfl (S_move rfl (AEv.tmp rfl)) ?_
                    refine AL_p rfl rfl (S_field 1 rfl (AEv.tmp rfl) (by kernel_rfl)) ?_
                    refine AL_p rfl rfl (S_load 0 rfl (AEv.tmp rfl) rfl rfl (by kernel_rfl)) ?_
                    refine AL_p rfl rfl (S_gtr rfl (AEv.tmp rfl) (AEv.const _)) ?_
                    refine AL_step rfl rfl (S_call rfl (AEvs.cons (AEv.tmp rfl) (AEvs.cons (AEv.tmp rfl) AEvs.nil)) (ACalls.pre (w_Bool_ok b1 u q lw c hq (decide (0 < l[i].2.1)) (by omega)) [_] st)) ?_
                    rintro _ _ ⟨_, ⟨u2, q2, hq2, rfl, rfl⟩, rfl⟩
                    refine AL_nil ?_
                    refine AC_seq ?_
                    refine AC_region ?_
                    refine AL_p rfl rfl (S_assign rfl (AEv.S _)) ?_
                    refine AL_nil ?_
                    refine AC_seq ?_
                    refine AC_region ?_
                    refine AL_p rfl rfl (S_field 1 rfl (AEv.tmp rfl) (by kernel_rfl)) ?_
                    refine AL_p rfl rfl (S_load 0 rfl (AEv.tmp rfl) rfl rfl (by kernel_rfl)) ?_
                    refine AL_p rfl rfl (S_gtr rfl (AEv.tmp rfl) (AEv.const _)) ?_
                    refine AL_nil ?_
                    refine AC_cond (AEv.tmp rfl) (fun hb25 => ?_) (fun hb25 => ?_)
                    · try simp only [Bool.and_eq_true, Bool.or_eq_true, Bool.not_eq_true', Bool.not_eq_false', Bool.and_eq_false_iff, Bool.or_eq_false_iff, decide_eq_true_eq, decide_eq_false_iff_not, gd] at hb25
                      have hd : (if decide (0 < l[i].2.1) then (1 : UInt8) else 0) = 1 := by rw [if_pos (by simpa using hb25)]
                      refine AC_region ?_
                      refine AL_p rfl rfl (S_assign rfl (AEv.S _)) ?_
                      refine AL_nil ?_
                      refine ⟨⟨i, u2, q2, wput c lw [if decide (0 < l[i].2.1) then 1 else 0], c, [1]⟩, ⟨hq2, by rw [hd]; exact wput_mid hlw, by dsimp only; omega, by dsimp only; (first | omega | (simp; done) | (rw [List.length_append]; omega)), rfl⟩, Sub.l (.cons _ (List.Sublist.refl _)), (.cons rfl (Le.refl _) (.cons rfl (Le.refl _) (.cons rfl (Le.refl _) (.cons rfl (Le.refl _) (.cons rfl (Le.refl _) (.cons rfl (Le.refl _) .nil))))))⟩
                    · try simp only [Bool.and_eq_true, Bool.or_eq_true, Bool.not_eq_true', Bool.not_eq_false', Bool.and_eq_false_iff, Bool.or_eq_false_iff, decide_eq_true_eq, decide_eq_false_iff_not, gd] at hb25
                      have hd : (if decide (0 < l[i].2.1) then (1 : UInt8) else 0) = 0 := by rw [if_neg (by simpa using hb25)]
                      refine AC_skip ?_
                      refine ⟨⟨i, u2, q2, wput c lw [if decide (0 < l[i].2.1) then 1 else 0], c, [0]⟩, ⟨hq2, by rw [hd]; exact wput_mid hlw, by dsimp only; omega, by dsimp only; (first | omega | (simp; done) | (rw [List.length_append]; omega)), rfl⟩, Sub.l (.cons _ (List.Sublist.refl _)), (.cons rfl (Le.refl _) (.cons rfl (Le.refl _) (.cons rfl (Le.refl _) (.cons rfl (Le.refl _) (.cons rfl (Le.refl _) (.cons rfl (Le.refl _) .nil))))))⟩
                  · try simp only [Bool.and_eq_true, Bool.or_eq_true, Bool.not_eq_true', Bool.not_eq_false', Bool.and_eq_false_iff, Bool.or_eq_false_iff, decide_eq_true_eq, decide_eq_false_iff_not, gd] at hb24
                    refine AC_seq ?_
                    refine AC_plan (σ := [(0, 0), (1, 0), (2, 0), (3, 0), (4, 0), (5, 2)]) (by kernel_rfl) _ (by kernel_rfl) (fun _ h => h) ?_
                    refine AG.f rfl rfl (fun st' hst => Q_p rfl (S_move rfl (AEv.tmp rfl))) ?_
                    refine AG.f rfl rfl (fun st' hst => Q_p rfl (S_nilCheck rfl (AEv.tmp rfl))) ?_
                    refine AG.f rfl rfl (fun st' hst => Q_p rfl (S_field 2 rfl (AEv.tmp rfl) (by kernel_rfl))) ?_
                    refine AG.f rfl rfl (fun st' hst => Q_p rfl (S_field 1 rfl (AEv.tmp rfl) (by kernel_rfl))) ?_
                    refine AG.f rfl rfl (fun st' hst => Q_p rfl (S_loadM rfl (AEv.tmp rfl) (hst _ (List.mem_of_getElem? (i := 0) rfl)) rfl (by kernel_rfl))) ?_
                    refine AG.h rfl rfl rfl (S_call rfl (AEvs.cons (AEv.tmp rfl) (AEvs.cons (AEv.tmp rfl) AEvs.nil)) (ACalls.pre (foot := [(b1, Ob.cells [addrB u b1 44 3, bufAV q lw, .int .i64 c])]) (K := fun x st' => x = .tup [] ∧ st' = [(b1, Ob.cells [addrB u b1 44 3, bufAV q lw, .int .i64 (failC c l[i].2.1)])]) (fun F => (sticks_Fail_ok b1 2 [addrB u b1 44 3, bufAV q lw, .int .i64 c] c l[i].2.1 rfl F).mono fun x st' h => ⟨_, ⟨h.1, rfl⟩, h.2⟩) [_] _)) ?_
                    rintro _ _ ⟨_, ⟨rfl, rfl⟩, rfl⟩
                    refine AG.nil ?_
                    refine AC_seq ?_
                    refine AC_region ?_
                    refine AL_p rfl rfl (S_move rfl (AEv.tmp rfl)) ?_
                    refine AL_p rfl rfl (S_eql rfl (AEv.tmp rfl) (AEv.const _)) ?_
                    refine AL_nil ?_
                    refine AC_cond (AEv.tmp rfl) (fun hb26 => ?_) (fun hb26 => ?_)
                    · try simp only [Bool.and_eq_true, Bool.or_eq_true, Bool.not_eq_true', Bool.not_eq_false', Bool.and_eq_false_iff, Bool.or_eq_false_iff, decide_eq_true_eq, decide_eq_false_iff_not, gd] at hb26
                      refine AC_region ?_
                      refine AL_p rfl rfl (S_field 1 rfl (AEv.tmp rfl) (by kernel_rfl)) ?_
                      refine AL_p rfl rfl (S_load 0 rfl (AEv.tmp rfl) rfl rfl (by kernel_rfl)) ?_
                      refine AL_p rfl rfl (S_assign rfl (AEv.tmp rfl)) ?_
                      refine AL_nil ?_
                      refine ⟨⟨i, u, q, lw, failC c l[i].2.1, []⟩, ⟨hq, fun h => by rw [hlw (by assumption)]; simp, by dsimp only; omega, by dsimp only; (first | omega | (simp; done) | (rw [List.length_append]; omega)), rfl⟩, Sub.l (.cons _ (List.Sublist.refl _)), (.cons rfl (Le.refl _) (.cons rfl (Le.refl _) (.cons rfl (Le.refl _) (.cons rfl (Le.of_eq (by rw [failC, if_pos (by assumption)])) (.cons rfl (Le.refl _) (.cons rfl (Le.refl _) .nil))))))⟩
                    · try simp only [Bool.and_eq_true, Bool.or_eq_true, Bool.not_eq_true', Bool.not_eq_false', Bool.and_eq_false_iff, Bool.or_eq_false_iff, decide_eq_true_eq, decide_eq_false_iff_not, gd] at hb26
                      have hcn : c ≠ 0 := by omega
                      have hfc : failC c l[i].2.1 = c := by rw [failC, if_neg hcn]
                      refine AC_skip ?_
                      refine ⟨⟨i, u, q, lw, failC c l[i].2.1, []⟩, ⟨hq, fun h => by rw [hfc] at h; exact absurd h hcn, by dsimp only; omega, by dsimp only; (first | omega | (simp; done) | (rw [List.length_append]; omega)), rfl⟩, Sub.l (.cons _ (List.Sublist.refl _)), (.cons rfl (Le.refl _) (.cons rfl (Le.refl _) (.cons rfl (Le.refl _) (.cons rfl (Le.of_eq (by rw [hfc])) (.cons rfl (Le.refl _) (.cons rfl (Le.refl _) .nil))))))⟩
          · rintro ⟨i', u2, q2, lw2, c2, s⟩ hI
            try dsimp only
            dsimp only [WG.mid] at hI
            obtain ⟨hq2, hlw2, hm1, hm2, hi'⟩ := hI
            try dsimp only at hq2 hlw2 hm1 hm2 hi'
            subst hi'
            refine AC_region ?_
            refine AL_p rfl rfl (S_move rfl (AEv.tmp rfl)) ?_
            refine AL_p rfl rfl (S_move rfl (AEv.tmp rfl)) ?_
            refine AL_p rfl rfl (S_cat rfl (AEv.tmp rfl) (AEv.tmp rfl) (by first | omega | (simp; done) | (simp; omega))) ?_
            refine AL_p rfl rfl (S_assign rfl (AEv.tmp rfl)) ?_
            refine AL_nil ?_
            refine AC_region ?_
            refine AL_p rfl rfl (S_move rfl (AEv.tmp rfl)) ?_
            refine AL_p rfl rfl (S_addI rfl (AEv.tmp rfl) (AEv.const _) (by omega) (by omega)) ?_
            refine AL_p rfl rfl (S_assign rfl (AEv.tmp rfl)) ?_
            refine AL_nil ?_
            refine ⟨⟨i' + 1, u2, q2, lw2, c2, want ++ s⟩, ⟨hq2, hlw2, by dsimp only; omega, by dsimp only; simp; omega, by dsimp only; omega⟩, by dsimp only; omega, Sub.l (List.Sublist.refl _), (.cons rfl (Le.refl _) (.cons rfl (Le.refl _) (.cons rfl (Le.refl _) (.cons rfl (Le.refl _) (.cons rfl (Le.of_eq (by dsimp only; rw [Int.natCast_add]; rfl)) .nil)))))⟩
      · try simp only [Bool.and_eq_true, Bool.or_eq_true, Bool.not_eq_true', Bool.not_eq_false', Bool.and_eq_false_iff, Bool.or_eq_false_iff, decide_eq_true_eq, decide_eq_false_iff_not, gd] at hb9
        refine AC_exit ?_
        refine AC_seq ?_
        refine AC_region ?_
        refine AL_p rfl rfl (S_move rfl (AEv.tmp rfl)) ?_
        refine AL_step rfl rfl (S_call rfl (AEvs.cons (AEv.tmp rfl) AEvs.nil) (w_End_ok b1 u q lw c hq st)) ?_
        rintro _ _ ⟨_, ⟨cs1, rfl, rfl⟩, rfl⟩
        refine AL_p rfl rfl (S_move rfl (AEv.tmp rfl)) ?_
        refine AL_p rfl rfl (S_extract 0 rfl (AEv.tmp rfl) rfl) ?_
        refine AL_p rfl rfl (S_extract 1 rfl (AEv.tmp rfl) rfl) ?_
        refine AL_p rfl rfl (S_assign rfl (AEv.tmp rfl)) ?_
        refine AL_p rfl rfl (S_assign rfl (AEv.tmp rfl)) ?_
        refine AL_nil ?_
        refine AC_seq ?_
        refine AC_seq ?_
        refine AC_region ?_
        refine AL_p rfl rfl (S_move rfl (AEv.tmp rfl)) ?_
        refine AL_p rfl rfl (S_neq rfl (AEv.tmp rfl) (AEv.const _)) ?_
        refine AL_nil ?_
        refine AC_cond (AEv.tmp rfl) (fun hb27 => ?_) (fun hb27 => ?_)
        · try simp only [Bool.and_eq_true, Bool.or_eq_true, Bool.not_eq_true', Bool.not_eq_false', Bool.and_eq_false_iff, Bool.or_eq_false_iff, decide_eq_true_eq, decide_eq_false_iff_not, gd] at hb27
          refine AC_seq ?_
          refine AC_region ?_
          refine AL_p rfl rfl (S_move rfl (AEv.tmp rfl)) ?_
          refine AL_p rfl rfl (S_eqS rfl (AEv.tmp rfl) (AEv.S _)) ?_
          refine AL_p rfl rfl (S_move rfl (AEv.tmp rfl)) ?_
          refine AL_g rfl rfl (AEv.tmp rfl) rfl (fun hg28 => S_move rfl (AEv.tmp rfl)) ?_
          refine AL_g rfl rfl (AEv.tmp rfl) rfl (fun hg31 => S_move rfl (AEv.tmp rfl)) ?_
          refine AL_g rfl rfl (AEv.tmp rfl) rfl (fun hg34 => S_eql rfl (AEv.cond (AEv.tmp rfl) (by first | assumption | exact gdAnd (by assumption) (by assumption))) (AEv.cond (AEv.tmp rfl) (by first | assumption | exact gdAnd (by assumption) (by assumption)))) ?_
          refine AL_p rfl rfl (S_and rfl (AEv.tmp rfl) (fun hp37 => (AEv.cond (AEv.tmp rfl) (by first | assumption | exact gdT hp37 | exact gdF hp37 | exact gdAnd (by assumption) (gdT hp37) | exact gdAnd (by assumption) (gdF hp37))))) ?_
          refine AL_p rfl rfl (S_move rfl (AEv.tmp rfl)) ?_
          refine AL_g rfl rfl (AEv.tmp rfl) rfl (fun hg38 => S_pcall rfl AEvs.nil (law_works)) ?_
          refine AL_p rfl rfl (S_and rfl (AEv.tmp rfl) (fun hp41 => (AEv.cond (AEv.tmp rfl) (by first | assumption | exact gdT hp41 | exact gdF hp41 | exact gdAnd (by assumption) (gdT hp41) | exact gdAnd (by assumption) (gdF hp41))))) ?_
          refine AL_p rfl rfl (S_assign rfl (AEv.tmp rfl)) ?_
          refine AL_nil ?_
          refine AC_ret ?_
          refine ret_tmp st rfl rfl (Sub.l (.cons _ (List.Sublist.refl _))) (Conv.refl (Sub.l (.cons _ (List.Sublist.refl _))) _) ⟨by rw [if_neg (by omega)]; simp, rfl⟩ (.inl rfl)
        · try simp only [Bool.and_eq_true, Bool.or_eq_true, Bool.not_eq_true', Bool.not_eq_false', Bool.and_eq_false_iff, Bool.or_eq_false_iff, decide_eq_true_eq, decide_eq_false_iff_not, gd] at hb27
          refine AC_skip ?_
          refine AC_seq ?_
          refine AC_region ?_
          refine AL_p rfl rfl (S_move rfl (AEv.tmp rfl)) ?_
          refine AL_p rfl rfl (S_move rfl (AEv.tmp rfl)) ?_
          refine AL_p rfl rfl (S_eqS rfl (AEv.tmp rfl) (AEv.tmp rfl)) ?_
          refine AL_p rfl rfl (S_move rfl (AEv.tmp rfl)) ?_
          refine AL_g rfl rfl (AEv.tmp rfl) rfl (fun hg42 => S_move rfl (AEv.tmp rfl)) ?_
          refine AL_g rfl rfl (AEv.tmp rfl) rfl (fun hg45 => S_eql rfl (AEv.cond (AEv.tmp rfl) (by first | assumption | exact gdAnd (by assumption) (by assumption))) (AEv.const _)) ?_
          refine AL_p rfl rfl (S_and rfl (AEv.tmp rfl) (fun hp48 => (AEv.cond (AEv.tmp rfl) (by first | assumption | exact gdT hp48 | exact gdF hp48 | exact gdAnd (by assumption) (gdT hp48) | exact gdAnd (by assumption) (gdF hp48))))) ?_
          refine AL_p rfl rfl (S_move rfl (AEv.tmp rfl)) ?_
          refine AL_g rfl rfl (AEv.tmp rfl) rfl (fun hg49 => S_pcall rfl AEvs.nil (law_works)) ?_
          refine AL_p rfl rfl (S_and rfl (AEv.tmp rfl) (fun hp52 => (AEv.cond (AEv.tmp rfl) (by first | assumption | exact gdT hp52 | exact gdF hp52 | exact gdAnd (by assumption) (gdT hp52) | exact gdAnd (by assumption) (gdF hp52))))) ?_
          refine AL_p rfl rfl (S_assign rfl (AEv.tmp rfl)) ?_
          refine AL_nil ?_
          refine AC_ret ?_
          refine ret_tmp st rfl rfl (Sub.l (.cons _ (List.Sublist.refl _))) (Conv.refl (Sub.l (.cons _ (List.Sublist.refl _))) _) ⟨by rw [if_pos (by omega), hlw (by omega)]; simp; omega, rfl⟩ (.inl rfl)

end Go.Proofs.Ytbnimcdcgmjeaaa
