/-
The walks of Go functions in the logic AL: what each of them answers.
Conditions: those of each theorem.
-/
import Derived.Test.YtbnimcdcgmjeaaaWire04c
set_option linter.unusedVariables false
set_option linter.unusedSimpArgs false
namespace Go.Proofs.Ytbnimcdcgmjeaaa
open Go.AL Go.NumSpec

set_option maxRecDepth 100000 in
/-- provost/provostlaw04.WireCanon -/
theorem law_WireCanon (s : List UInt8) (hs0 : s.length ≤ 9223372036854775807) (l : List Int) (hl : ∀ r, r ∈ l → fits r) : PCalls Try.prog 5 [.S s, .sl (l.map fun n => .int .i64 n)] (.bool true) := by
  intro st
  refine ACalls_of (N := 95) Try.func5 (by kernel_rfl) rfl rfl rfl ?_
  have hln : (l.map fun n => AV.int .i64 n).length = l.length := by simp
  refine AC_seq ?_
  refine AC_region ?_
  refine AL_p rfl rfl (S_assign rfl (AEv.const _)) ?_
  refine AL_nil ?_
  refine AC_seq ?_
  refine AC_seq ?_
  refine AC_region ?_
  refine AL_p rfl rfl (S_pcall rfl AEvs.nil (law_works)) ?_
  refine AL_p rfl rfl (S_not rfl (AEv.tmp rfl)) ?_
  refine AL_nil ?_
  refine AC_cond (AEv.tmp rfl) (fun hb1 => ?_) (fun hb1 => ?_)
  · simp at hb1; done
  · try simp only [Bool.and_eq_true, Bool.or_eq_true, Bool.not_eq_true', Bool.not_eq_false', Bool.and_eq_false_iff, Bool.or_eq_false_iff, decide_eq_true_eq, decide_eq_false_iff_not, gd] at hb1
    refine AC_skip ?_
    refine AC_seq ?_
    refine AC_seq ?_
    refine AC_region ?_
    refine AL_p rfl rfl (S_move rfl (AEv.tmp rfl)) ?_
    refine AL_p rfl rfl (S_lenS (ts := #[]) rfl (AEv.tmp rfl) (by kernel_rfl)) ?_
    refine AL_p rfl rfl (S_gtr rfl (AEv.tmp rfl) (AEv.const _)) ?_
    refine AL_nil ?_
    refine AC_cond (AEv.tmp rfl) (fun hb2 => ?_) (fun hb2 => ?_)
    · try simp only [Bool.and_eq_true, Bool.or_eq_true, Bool.not_eq_true', Bool.not_eq_false', Bool.and_eq_false_iff, Bool.or_eq_false_iff, decide_eq_true_eq, decide_eq_false_iff_not, gd] at hb2
      refine AC_seq ?_
      refine AC_region ?_
      refine AL_p rfl rfl (S_assign rfl (AEv.const _)) ?_
      refine AL_nil ?_
      refine AC_ret ?_
      refine ret_tmp st rfl rfl (Sub.l (List.Sublist.refl _)) (Conv.refl (Sub.l (List.Sublist.refl _)) _) ⟨rfl, rfl⟩ (.inl rfl)
    · try simp only [Bool.and_eq_true, Bool.or_eq_true, Bool.not_eq_true', Bool.not_eq_false', Bool.and_eq_false_iff, Bool.or_eq_false_iff, decide_eq_true_eq, decide_eq_false_iff_not, gd] at hb2
      refine AC_skip ?_
      refine AC_seq ?_
      refine AC_region ?_
      refine AL_p rfl rfl (S_move rfl (AEv.tmp rfl)) ?_
      refine AL_step rfl rfl (S_call rfl (AEvs.cons (AEv.tmp rfl) AEvs.nil) (wire_Read_ok s st)) ?_
      rintro _ _ ⟨_, ⟨b1, rfl, rfl⟩, rfl⟩
      refine AL_step rfl rfl (S_call rfl AEvs.nil (wire_Write_ok _)) ?_
      rintro _ _ ⟨_, ⟨b2, rfl, rfl⟩, rfl⟩
      refine AL_p rfl rfl (S_assign rfl (AEv.tmp rfl)) ?_
      refine AL_p rfl rfl (S_assign rfl (AEv.tmp rfl)) ?_
      refine AL_nil ?_
      refine AC_seq ?_
      refine AC_seq ?_
      refine AC_region ?_
      refine AL_p rfl rfl (S_move rfl (AEv.tmp rfl)) ?_
      refine AL_p rfl rfl (S_eqlNil rfl (AEv.tmp rfl) (AEv.const _) (by kernel_rfl)) ?_
      refine AL_p rfl rfl (S_move rfl (AEv.tmp rfl)) ?_
      refine AL_g rfl rfl (AEv.tmp rfl) rfl (fun hg3 => S_move rfl (AEv.tmp rfl)) ?_
      refine AL_g rfl rfl (AEv.tmp rfl) rfl (fun hg6 => S_eqlNil rfl (AEv.cond (AEv.tmp rfl) (by first | assumption | exact gdAnd (by assumption) (by assumption))) (AEv.const _) (by kernel_rfl)) ?_
      refine AL_p rfl rfl (S_or rfl (AEv.tmp rfl) (fun hp9 => (AEv.cond (AEv.tmp rfl) (by first | assumption | exact gdT hp9 | exact gdF hp9 | exact gdAnd (by assumption) (gdT hp9) | exact gdAnd (by assumption) (gdF hp9))))) ?_
      refine AL_nil ?_
      refine AC_cond (AEv.tmp rfl) (fun hb10 => ?_) (fun hb10 => ?_)
      · simp at hb10; done
      · try simp only [Bool.and_eq_true, Bool.or_eq_true, Bool.not_eq_true', Bool.not_eq_false', Bool.and_eq_false_iff, Bool.or_eq_false_iff, decide_eq_true_eq, decide_eq_false_iff_not, gd] at hb10
        refine AC_skip ?_
        refine AC_seq ?_
        refine AC_seq ?_
        refine AC_region ?_
        refine AL_p rfl rfl (S_assign rfl (AEv.const _)) ?_
        refine AL_nil ?_
        refine AC_block ?_
        refine AC_loopS (G := CG) (fun g => g.q.ok g.lw ∧ s = g.lw ++ g.s ∧ g.c = 0 ∧ g.i ≤ 60) (fun g => [(0, .S s), (1, .sl (l.map fun n => .int .i64 n)), (5, .ptr b1 0), (6, .ptr b2 0), (7, .int .i64 (g.i : Int))]) (fun g => ((b2, .cells [addrB g.u b2 44 3, bufAV g.q (g.lw), .int .i64 0]) :: (bufSt g.q 5 (g.lw) ++ ((b1, .cells [.S (g.s), .int .i64 (g.c)]) :: st)))) (fun g => 60 - g.i) (⟨0, false, .nil, [], s, 0⟩) (⟨rfl, rfl, rfl, by simp⟩) (Sub.l (List.Sublist.refl _)) ?_ ?_
        · exact (.cons rfl (Le.refl _) (.cons rfl (Le.refl _) (.cons rfl (Le.refl _) (.cons rfl (Le.refl _) (.cons rfl (Le.refl _) .nil)))))
        · rintro ⟨i, u, q, lw, sr, c⟩ ⟨hq, hs, hc, hi⟩
          try dsimp only
          dsimp only at hq hs hc hi
          subst hc
          have hlen : s.length = lw.length + sr.length := by rw [hs, List.length_append]
          refine AC_seq ?_
          refine AC_seq ?_
          refine AC_region ?_
          refine AL_p rfl rfl (S_move rfl (AEv.tmp rfl)) ?_
          refine AL_p rfl rfl (S_move rfl (AEv.tmp rfl)) ?_
          refine AL_p rfl rfl (S_len (e := 3) rfl (AEv.tmp rfl) (by kernel_rfl)) ?_
          refine AL_p rfl rfl (S_lss rfl (AEv.tmp rfl) (AEv.tmp rfl)) ?_
          refine AL_p rfl rfl (S_move rfl (AEv.tmp rfl)) ?_
          refine AL_g rfl rfl (AEv.tmp rfl) rfl (fun hg11 => S_move rfl (AEv.tmp rfl)) ?_
          refine AL_g rfl rfl (AEv.tmp rfl) rfl (fun hg14 => S_lss rfl (AEv.cond (AEv.tmp rfl) (by first | assumption | exact gdAnd (by assumption) (by assumption))) (AEv.const _)) ?_
          refine AL_p rfl rfl (S_and rfl (AEv.tmp rfl) (fun hp17 => (AEv.cond (AEv.tmp rfl) (by first | assumption | exact gdT hp17 | exact gdF hp17 | exact gdAnd (by assumption) (gdT hp17) | exact gdAnd (by assumption) (gdF hp17))))) ?_
          refine AL_nil ?_
          refine AC_cond (AEv.tmp rfl) (fun hb18 => ?_) (fun hb18 => ?_)
          · try simp only [Bool.and_eq_true, Bool.or_eq_true, Bool.not_eq_true', Bool.not_eq_false', Bool.and_eq_false_iff, Bool.or_eq_false_iff, decide_eq_true_eq, decide_eq_false_iff_not, gd] at hb18
            have hil : i < l.length := by omega
            have hb1 := bigR_lt sr 0
            have hb2 := putL_few (bigR sr 0).1 hb1
            have hb3 := numR_nonneg sr 0 9223372036854775807
            have hb4 := numR_le (s := sr) (c := 0) (most := 9223372036854775807)
            have hb5 := putL_few (numR sr 0 9223372036854775807).1.toNat (by omega)
            have hb6 := textR_len sr 0 2000
            have hb7 := putL_few (textR sr 0 2000).1.length (by omega)
            refine AC_skip ?_
            refine AC_seq ?_
            refine AC_block ?_
            refine AC_joinS (G := CG) (fun g => g.q.ok g.lw ∧ (g.c = 0 → s = g.lw ++ g.s) ∧ g.lw.length ≤ 3000 + 3000 ∧ g.i = i) (fun g => [(0, .S s), (1, .sl (l.map fun n => .int .i64 n)), (5, .ptr b1 0), (6, .ptr b2 0), (7, .int .i64 (g.i : Int))]) (fun g => ((b2, .cells [addrB g.u b2 44 3, bufAV g.q (g.lw), .int .i64 0]) :: (bufSt g.q 5 (g.lw) ++ ((b1, .cells [.S (g.s), .int .i64 (g.c)]) :: st)))) ?_ ?_
            · refine AC_seq ?_
              refine AC_region ?_
              refine AL_p rfl rfl (S_move rfl (AEv.tmp rfl)) ?_
              refine AL_p rfl rfl (S_move rfl (AEv.tmp rfl)) ?_
              refine AL_p rfl rfl (S_elem (e := 3) (c := .int .i64 (l[i]'hil)) (i := (i : Int)) 1 rfl (AEv.tmp rfl) (AEv.tmp rfl) (by kernel_rfl) (by kernel_rfl) (by omega) (by simp [hil]) rfl) ?_
              refine AL_p rfl rfl (S_loadP rfl (AEv.tmp rfl) rfl (by kernel_rfl)) ?_
              refine AL_p rfl rfl (S_bits rfl (by simp) (AEv.tmp rfl) (AEv.const _)) ?_
              refine AL_nil ?_
              refine AC_block ?_
              refine AC_seq ?_
              refine AC_region ?_
              refine AL_p rfl rfl (S_eql rfl (AEv.tmp rfl) (AEv.const _)) ?_
              refine AL_p rfl rfl (S_assign rfl (AEv.tmp rfl)) ?_
              refine AL_nil ?_
              refine AC_cond (AEv.tmp rfl) (fun hb19 => ?_) (fun hb19 => ?_)
              · try simp only [Bool.and_eq_true, Bool.or_eq_true, Bool.not_eq_true', Bool.not_eq_false', Bool.and_eq_false_iff, Bool.or_eq_false_iff, decide_eq_true_eq, decide_eq_false_iff_not, gd] at hb19
                refine AC_region ?_
                refine AL_p rfl rfl (S_move rfl (AEv.tmp rfl)) ?_
                refine AL_p rfl rfl (S_move rfl (AEv.tmp rfl)) ?_
                refine AL_step rfl rfl (S_call rfl (AEvs.cons (AEv.tmp rfl) (AEvs.cons (AEv.const _) AEvs.nil)) (ACalls.pre (foot := [(b1, Ob.cells [.S sr, .int .i64 0])]) (fun F => r_Num_ok b1 sr 0 9223372036854775807 (by decide) F) ((b2, Ob.cells [addrB u b2 44 3, bufAV q (lw), .int .i64 0]) :: bufSt q 5 lw) st)) ?_
                rintro _ _ ⟨_, ⟨rfl, rfl⟩, rfl⟩
                refine AL_step rfl rfl (S_call rfl (AEvs.cons (AEv.tmp rfl) (AEvs.cons (AEv.tmp rfl) AEvs.nil)) (w_Num_ok b2 u q lw 0 hq (numR sr 0 9223372036854775807).1 (by unfold fits; omega) (by omega) _)) ?_
                rintro _ _ ⟨_, ⟨u2, q2, hq2, rfl, rfl⟩, rfl⟩
                rw [if_neg (by omega)] at hq2
                simp only [if_neg (show ¬ (numR sr 0 9223372036854775807).1 < 0 by omega)]
                refine AL_nil ?_
                exact ⟨⟨i, u2, q2, lw ++ putL (numR sr 0 9223372036854775807).1.toNat, (numR sr 0 9223372036854775807).2.1, (numR sr 0 9223372036854775807).2.2⟩, ⟨hq2, fun h => by rw [hs, List.append_assoc]; exact congrArg (lw ++ ·) (canon_num h), by dsimp only; rw [List.length_append]; omega, rfl⟩, Sub.l (List.Sublist.refl _), (.cons rfl (Le.refl _) (.cons rfl (Le.refl _) (.cons rfl (Le.refl _) (.cons rfl (Le.refl _) (.cons rfl (Le.refl _) .nil)))))⟩
              · try simp only [Bool.and_eq_true, Bool.or_eq_true, Bool.not_eq_true', Bool.not_eq_false', Bool.and_eq_false_iff, Bool.or_eq_false_iff, decide_eq_true_eq, decide_eq_false_iff_not, gd] at hb19
                refine AC_seq ?_
                refine AC_region ?_
                refine AL_p rfl rfl (S_eql rfl (AEv.tmp rfl) (AEv.const _)) ?_
                refine AL_p rfl rfl (S_assign rfl (AEv.tmp rfl)) ?_
                refine AL_nil ?_
                refine AC_cond (AEv.tmp rfl) (fun hb20 => ?_) (fun hb20 => ?_)
                · try simp only [Bool.and_eq_true, Bool.or_eq_true, Bool.not_eq_true', Bool.not_eq_false', Bool.and_eq_false_iff, Bool.or_eq_false_iff, decide_eq_true_eq, decide_eq_false_iff_not, gd] at hb20
                  refine AC_region ?_
                  refine AL_p rfl rfl (S_move rfl (AEv.tmp rfl)) ?_
                  refine AL_p rfl rfl (S_move rfl (AEv.tmp rfl)) ?_
                  refine AL_step rfl rfl (S_call rfl (AEvs.cons (AEv.tmp rfl) AEvs.nil) (ACalls.pre (foot := [(b1, Ob.cells [.S sr, .int .i64 0])]) (fun F => r_Big_ok b1 sr 0 F) ((b2, Ob.cells [addrB u b2 44 3, bufAV q (lw), .int .i64 0]) :: bufSt q 5 lw) st)) ?_
                  rintro _ _ ⟨_, ⟨rfl, rfl⟩, rfl⟩
                  refine AL_step rfl rfl (S_call rfl (AEvs.cons (AEv.tmp rfl) (AEvs.cons (AEv.tmp rfl) AEvs.nil)) (w_Big_ok b2 u q lw 0 hq (bigR sr 0).1 hb1 (by omega) _)) ?_
                  rintro _ _ ⟨_, ⟨u2, q2, hq2, rfl, rfl⟩, rfl⟩
                  refine AL_nil ?_
                  exact ⟨⟨i, u2, q2, lw ++ putL (bigR sr 0).1, (bigR sr 0).2.1, (bigR sr 0).2.2⟩, ⟨hq2, fun h => by rw [hs, List.append_assoc]; exact congrArg (lw ++ ·) (canon_big h), by dsimp only; rw [List.length_append]; omega, rfl⟩, Sub.l (List.Sublist.refl _), (.cons rfl (Le.refl _) (.cons rfl (Le.refl _) (.cons rfl (Le.refl _) (.cons rfl (Le.refl _) (.cons rfl (Le.refl _) .nil)))))⟩
                · try simp only [Bool.and_eq_true, Bool.or_eq_true, Bool.not_eq_true', Bool.not_eq_false', Bool.and_eq_false_iff, Bool.or_eq_false_iff, decide_eq_true_eq, decide_eq_false_iff_not, gd] at hb20
                  refine AC_seq ?_
                  refine AC_region ?_
                  refine AL_p rfl rfl (S_eql rfl (AEv.tmp rfl) (AEv.const _)) ?_
                  refine AL_p rfl rfl (S_assign rfl (AEv.tmp rfl)) ?_
                  refine AL_nil ?_
                  refine AC_cond (AEv.tmp rfl) (fun hb21 => ?_) (fun hb21 => ?_)
                  · try simp only [Bool.and_eq_true, Bool.or_eq_true, Bool.not_eq_true', Bool.not_eq_false', Bool.and_eq_false_iff, Bool.or_eq_false_iff, decide_eq_true_eq, decide_eq_false_iff_not, gd] at hb21
                    refine AC_region ?_
                    refine AL_p rfl rfl (S_move rfl (AEv.tmp rfl)) ?_
                    refine AL_p rfl rfl (S_move rfl (AEv.tmp rfl)) ?_
                    refine AL_step rfl rfl (S_call rfl (AEvs.cons (AEv.tmp rfl) (AEvs.cons (AEv.const _) AEvs.nil)) (ACalls.pre (foot := [(b1, Ob.cells [.S sr, .int .i64 0])]) (fun F => r_Text_ok b1 sr 0 2000 (by decide) F) ((b2, Ob.cells [addrB u b2 44 3, bufAV q (lw), .int .i64 0]) :: bufSt q 5 lw) st)) ?_
                    rintro _ _ ⟨_, ⟨rfl, rfl⟩, rfl⟩
                    refine AL_step rfl rfl (S_call rfl (AEvs.cons (AEv.tmp rfl) (AEvs.cons (AEv.tmp rfl) AEvs.nil)) (w_Text_ok b2 u q lw 0 hq (textR sr 0 2000).1 (by omega) _)) ?_
                    rintro _ _ ⟨_, ⟨u2, q2, hq2, rfl, rfl⟩, rfl⟩
                    refine AL_nil ?_
                    exact ⟨⟨i, u2, q2, lw ++ (putL (textR sr 0 2000).1.length ++ (textR sr 0 2000).1), (textR sr 0 2000).2.1, (textR sr 0 2000).2.2⟩, ⟨hq2, fun h => by rw [hs, List.append_assoc]; exact congrArg (lw ++ ·) ((fun h => by rw [List.append_assoc]; exact canon_text h) h), by dsimp only; rw [List.length_append, List.length_append]; omega, rfl⟩, Sub.l (List.Sublist.refl _), (.cons rfl (Le.refl _) (.cons rfl (Le.refl _) (.cons rfl (Le.refl _) (.cons rfl (Le.refl _) (.cons rfl (Le.refl _) .nil)))))⟩
                  · try simp only [Bool.and_eq_true, Bool.or_eq_true, Bool.not_eq_true', Bool.not_eq_false', Bool.and_eq_false_iff, Bool.or_eq_false_iff, decide_eq_true_eq, decide_eq_false_iff_not, gd] at hb21
                    refine AC_region ?_
                    refine AL_p rfl rfl (S_move rfl (AEv.tmp rfl)) ?_
                    refine AL_p rfl rfl (S_move rfl (AEv.tmp rfl)) ?_
                    refine AL_step rfl rfl (S_call rfl (AEvs.cons (AEv.tmp rfl) AEvs.nil) (ACalls.pre (foot := [(b1, Ob.cells [.S sr, .int .i64 0])]) (fun F => r_Bool_ok b1 sr 0 F) ((b2, Ob.cells [addrB u b2 44 3, bufAV q (lw), .int .i64 0]) :: bufSt q 5 lw) st)) ?_
                    rintro _ _ ⟨_, ⟨rfl, rfl⟩, rfl⟩
                    refine AL_step rfl rfl (S_call rfl (AEvs.cons (AEv.tmp rfl) (AEvs.cons (AEv.tmp rfl) AEvs.nil)) (w_Bool_ok b2 u q lw 0 hq (boolR sr 0).1 (by omega) _)) ?_
                    rintro _ _ ⟨_, ⟨u2, q2, hq2, rfl, rfl⟩, rfl⟩
                    refine AL_nil ?_
                    exact ⟨⟨i, u2, q2, lw ++ [if (boolR sr 0).1 then 1 else 0], (boolR sr 0).2.1, (boolR sr 0).2.2⟩, ⟨hq2, fun h => by rw [hs, List.append_assoc]; exact congrArg (lw ++ ·) (canon_bool h), by dsimp only; rw [List.length_append, List.length_singleton]; omega, rfl⟩, Sub.l (List.Sublist.refl _), (.cons rfl (Le.refl _) (.cons rfl (Le.refl _) (.cons rfl (Le.refl _) (.cons rfl (Le.refl _) (.cons rfl (Le.refl _) .nil)))))⟩
            · rintro ⟨i', u, q, lw, sr, c⟩ ⟨hq, hs, hlw, hi'⟩
              try dsimp only
              dsimp only at hq hs hlw hi'
              subst hi'
              refine AC_seq ?_
              refine AC_region ?_
              refine AL_p rfl rfl (S_move rfl (AEv.tmp rfl)) ?_
              refine AL_p rfl rfl (S_keep (S_call rfl (AEvs.cons (AEv.tmp rfl) AEvs.nil) (ACalls.pre (foot := [(b1, Ob.cells [.S sr, .int .i64 c])]) (fun F => r_Code_ok b1 sr c F) ((b2, Ob.cells [addrB u b2 44 3, bufAV q (lw), .int .i64 0]) :: bufSt q 5 lw) st)) (by rintro _ _ ⟨_, ⟨rfl, rfl⟩, rfl⟩; skip; exact ⟨rfl, rfl⟩)) ?_
              refine AL_p rfl rfl (S_neq rfl (AEv.tmp rfl) (AEv.const _)) ?_
              refine AL_nil ?_
              refine AC_cond (AEv.tmp rfl) (fun hb22 => ?_) (fun hb22 => ?_)
              · try simp only [Bool.and_eq_true, Bool.or_eq_true, Bool.not_eq_true', Bool.not_eq_false', Bool.and_eq_false_iff, Bool.or_eq_false_iff, decide_eq_true_eq, decide_eq_false_iff_not, gd] at hb22
                have hcn : c ≠ 0 := hb22
                refine AC_seq ?_
                refine AC_region ?_
                refine AL_p rfl rfl (S_move rfl (AEv.tmp rfl)) ?_
                refine AL_p rfl rfl (S_keep (S_call rfl (AEvs.cons (AEv.tmp rfl) (AEvs.cons (AEv.const _) AEvs.nil)) (ACalls.pre (foot := [(b1, Ob.cells [.S sr, .int .i64 c])]) (fun F => r_Num_ok b1 sr c 5 (by decide) F) ((b2, Ob.cells [addrB u b2 44 3, bufAV q (lw), .int .i64 0]) :: bufSt q 5 lw) st)) (by rintro _ _ ⟨_, ⟨rfl, rfl⟩, rfl⟩; rw [numR_errR hcn]; exact ⟨rfl, rfl⟩)) ?_
                refine AL_p rfl rfl (S_eql rfl (AEv.tmp rfl) (AEv.const _)) ?_
                refine AL_p rfl rfl (S_move rfl (AEv.tmp rfl)) ?_
                refine AL_g rfl rfl (AEv.tmp rfl) rfl (fun hg23 => S_move rfl (AEv.tmp rfl)) ?_
                refine AL_g rfl rfl (AEv.tmp rfl) rfl (fun hg26 => S_keep (S_call rfl (AEvs.cons (AEv.cond (AEv.tmp rfl) (by first | assumption | exact gdAnd (by assumption) (by assumption))) (AEvs.cons (AEv.const _) AEvs.nil)) (ACalls.pre (foot := [(b1, Ob.cells [.S sr, .int .i64 c])]) (fun F => r_Text_ok b1 sr c 5 (by decide) F) ((b2, Ob.cells [addrB u b2 44 3, bufAV q (lw), .int .i64 0]) :: bufSt q 5 lw) st)) (by rintro _ _ ⟨_, ⟨rfl, rfl⟩, rfl⟩; rw [textR_errR hcn]; exact ⟨rfl, rfl⟩)) ?_
                refine AL_g rfl rfl (AEv.tmp rfl) rfl (fun hg29 => S_eqS rfl (AEv.cond (AEv.tmp rfl) (by first | assumption | exact gdAnd (by assumption) (by assumption))) (AEv.S _)) ?_
                refine AL_p rfl rfl (S_and rfl (AEv.tmp rfl) (fun hp32 => (AEv.cond (AEv.tmp rfl) (by first | assumption | exact gdT hp32 | exact gdF hp32 | exact gdAnd (by assumption) (gdT hp32) | exact gdAnd (by assumption) (gdF hp32))))) ?_
                refine AL_p rfl rfl (S_move rfl (AEv.tmp rfl)) ?_
                refine AL_g rfl rfl (AEv.tmp rfl) rfl (fun hg33 => S_move rfl (AEv.tmp rfl)) ?_
                refine AL_g rfl rfl (AEv.tmp rfl) rfl (fun hg36 => S_keep (S_call rfl (AEvs.cons (AEv.cond (AEv.tmp rfl) (by first | assumption | exact gdAnd (by assumption) (by assumption))) AEvs.nil) (ACalls.pre (foot := [(b1, Ob.cells [.S sr, .int .i64 c])]) (fun F => r_Bool_ok b1 sr c F) ((b2, Ob.cells [addrB u b2 44 3, bufAV q (lw), .int .i64 0]) :: bufSt q 5 lw) st)) (by rintro _ _ ⟨_, ⟨rfl, rfl⟩, rfl⟩; rw [boolR_err hcn]; exact ⟨rfl, rfl⟩)) ?_
                refine AL_g rfl rfl (AEv.tmp rfl) rfl (fun hg39 => S_not rfl (AEv.cond (AEv.tmp rfl) (by first | assumption | exact gdAnd (by assumption) (by assumption)))) ?_
                refine AL_p rfl rfl (S_and rfl (AEv.tmp rfl) (fun hp42 => (AEv.cond (AEv.tmp rfl) (by first | assumption | exact gdT hp42 | exact gdF hp42 | exact gdAnd (by assumption) (gdT hp42) | exact gdAnd (by assumption) (gdF hp42))))) ?_
                refine AL_p rfl rfl (S_assign rfl (AEv.tmp rfl)) ?_
                refine AL_nil ?_
                refine AC_ret ?_
                refine ret_tmp st rfl rfl (Sub.l (.cons _ ((List.Sublist.cons _ (List.Sublist.refl _)).trans (List.sublist_append_right _ _)))) (Conv.refl (Sub.l (.cons _ ((List.Sublist.cons _ (List.Sublist.refl _)).trans (List.sublist_append_right _ _)))) _) ⟨rfl, rfl⟩ (.inl rfl)
              · try simp only [Bool.and_eq_true, Bool.or_eq_true, Bool.not_eq_true', Bool.not_eq_false', Bool.and_eq_false_iff, Bool.or_eq_false_iff, decide_eq_true_eq, decide_eq_false_iff_not, gd] at hb22
                have hc : c = 0 := by omega
                refine AC_skip ?_
                refine AC_region ?_
                refine AL_p rfl rfl (S_move rfl (AEv.tmp rfl)) ?_
                refine AL_p rfl rfl (S_addI rfl (AEv.tmp rfl) (AEv.const _) (by omega) (by omega)) ?_
                refine AL_p rfl rfl (S_assign rfl (AEv.tmp rfl)) ?_
                refine AL_nil ?_
                refine ⟨⟨i' + 1, u, q, lw, sr, 0⟩, ⟨hq, hs hc, rfl, by dsimp only; omega⟩, by dsimp only; omega, by rw [hc]; exact Sub.l (List.Sublist.refl _), (.cons rfl (Le.refl _) (.cons rfl (Le.refl _) (.cons rfl (Le.refl _) (.cons rfl (Le.refl _) (.cons rfl (Le.of_eq (by dsimp only; rw [Int.natCast_add]; rfl)) .nil)))))⟩
          · try simp only [Bool.and_eq_true, Bool.or_eq_true, Bool.not_eq_true', Bool.not_eq_false', Bool.and_eq_false_iff, Bool.or_eq_false_iff, decide_eq_true_eq, decide_eq_false_iff_not, gd] at hb18
            refine AC_exit ?_
            refine AC_seq ?_
            refine AC_region ?_
            refine AL_p rfl rfl (S_move rfl (AEv.tmp rfl)) ?_
            refine AL_step rfl rfl (S_call rfl (AEvs.cons (AEv.tmp rfl) AEvs.nil) (w_End_ok b2 u q lw 0 hq _)) ?_
            rintro _ _ ⟨_, ⟨cs1, rfl, rfl⟩, rfl⟩
            rw [if_pos rfl]
            refine AL_p rfl rfl (S_move rfl (AEv.tmp rfl)) ?_
            refine AL_p rfl rfl (S_extract 0 rfl (AEv.tmp rfl) rfl) ?_
            refine AL_p rfl rfl (S_extract 1 rfl (AEv.tmp rfl) rfl) ?_
            refine AL_p rfl rfl (S_assign rfl (AEv.tmp rfl)) ?_
            refine AL_p rfl rfl (S_assign rfl (AEv.tmp rfl)) ?_
            refine AL_nil ?_
            refine AC_seq ?_
            refine AC_region ?_
            refine AL_p rfl rfl (S_move rfl (AEv.tmp rfl)) ?_
            refine AL_p rfl rfl (S_eql rfl (AEv.tmp rfl) (AEv.const _)) ?_
            refine AL_p rfl rfl (S_move rfl (AEv.tmp rfl)) ?_
            refine AL_g rfl rfl (AEv.tmp rfl) rfl (fun hg43 => S_move rfl (AEv.tmp rfl)) ?_
            refine AL_g rfl rfl (AEv.tmp rfl) rfl (fun hg46 => S_move rfl (AEv.tmp rfl)) ?_
            refine AL_g rfl rfl (AEv.tmp rfl) rfl (fun hg49 => S_move rfl (AEv.tmp rfl)) ?_
            refine AL_g rfl rfl (AEv.tmp rfl) rfl (fun hg52 => S_lenS (ts := #[]) rfl (AEv.cond (AEv.tmp rfl) (by first | assumption | exact gdAnd (by assumption) (by assumption))) (by kernel_rfl)) ?_
            refine AL_g rfl rfl (AEv.tmp rfl) rfl (fun hg55 => S_move rfl (AEv.tmp rfl)) ?_
            refine AL_g rfl rfl (AEv.tmp rfl) rfl (fun hg58 => S_keep (S_call rfl (AEvs.cons (AEv.cond (AEv.tmp rfl) (by first | assumption | exact gdAnd (by assumption) (by assumption))) AEvs.nil) (ACalls.pre (foot := [(b1, Ob.cells [.S sr, .int .i64 0])]) (fun F => r_Left_ok b1 sr 0 F) [(b2, Ob.cells cs1)] st)) (by rintro _ _ ⟨_, ⟨rfl, rfl⟩, rfl⟩; exact ⟨rfl, rfl⟩)) ?_
            refine AL_g rfl rfl (AEv.tmp rfl) rfl (fun hg61 => S_subI rfl (AEv.cond (AEv.tmp rfl) (by first | assumption | exact gdAnd (by assumption) (by assumption))) (AEv.cond (AEv.tmp rfl) (by first | assumption | exact gdAnd (by assumption) (by assumption))) (by (try simp only [gd, Bool.and_eq_true, Bool.or_eq_true, Bool.not_eq_true', Bool.not_eq_false', decide_eq_true_eq, decide_eq_false_iff_not, Bool.or_eq_false_iff, Bool.and_eq_false_iff] at *); omega) (by (try simp only [gd, Bool.and_eq_true, Bool.or_eq_true, Bool.not_eq_true', Bool.not_eq_false', decide_eq_true_eq, decide_eq_false_iff_not, Bool.or_eq_false_iff, Bool.and_eq_false_iff] at *); omega)) ?_
            refine AL_g rfl rfl (AEv.tmp rfl) rfl (fun hg64 => S_sliceH rfl (AEv.cond (AEv.tmp rfl) (by first | assumption | exact gdAnd (by assumption) (by assumption))) (AEv.cond (AEv.tmp rfl) (by first | assumption | exact gdAnd (by assumption) (by assumption))) (by kernel_rfl) (by (try simp only [gd, Bool.and_eq_true, Bool.or_eq_true, Bool.not_eq_true', Bool.not_eq_false', decide_eq_true_eq, decide_eq_false_iff_not, Bool.or_eq_false_iff, Bool.and_eq_false_iff] at *); omega) (by (try simp only [gd, Bool.and_eq_true, Bool.or_eq_true, Bool.not_eq_true', Bool.not_eq_false', decide_eq_true_eq, decide_eq_false_iff_not, Bool.or_eq_false_iff, Bool.and_eq_false_iff] at *); omega)) ?_
            refine AL_g rfl rfl (AEv.tmp rfl) rfl (fun hg67 => S_eqS rfl (AEv.cond (AEv.tmp rfl) (by first | assumption | exact gdAnd (by assumption) (by assumption))) (AEv.cond (AEv.tmp rfl) (by first | assumption | exact gdAnd (by assumption) (by assumption)))) ?_
            refine AL_p rfl rfl (S_and rfl (AEv.tmp rfl) (fun hp70 => (AEv.cond (AEv.tmp rfl) (by first | assumption | exact gdT hp70 | exact gdF hp70 | exact gdAnd (by assumption) (gdT hp70) | exact gdAnd (by assumption) (gdF hp70))))) ?_
            refine AL_p rfl rfl (S_assign rfl (AEv.tmp rfl)) ?_
            refine AL_nil ?_
            refine AC_ret ?_
            refine ret_tmp st rfl rfl (Sub.l (.cons _ (.cons _ (List.Sublist.refl _)))) (Conv.refl (Sub.l (.cons _ (.cons _ (List.Sublist.refl _)))) _) ⟨by subst hs; rw [show (((lw ++ sr).length : Int) - (sr.length : Int)).toNat = lw.length by rw [List.length_append]; omega]; simp, rfl⟩ (.inl rfl)

end Go.Proofs.Ytbnimcdcgmjeaaa
