/-
The walks of Go functions in the logic AL: what each of them answers.
Conditions: those of each theorem.
-/
import Derived.Test.YthcpcbkipmocmaaDoorText03b
set_option linter.unusedVariables false
set_option linter.unusedSimpArgs false
namespace Go.Proofs.YthcpcbkipmocmaaDoor
open Go.AL Go.NumSpec

set_option maxRecDepth 100000 in
/-- provost/provostref03.Split -/
theorem ref03_Split_ok (s : List UInt8) (hs : s.length ≤ 1000000) : PCalls Tryd.prog 8 [.S s] (.tup [.S (tparts s).1, .S (tparts s).2.1, .bool (tparts s).2.2]) := by
  intro st
  refine ACalls_of (N := 80) Tryd.func8 (by kernel_rfl) rfl rfl rfl ?_
  have hxl := strsV_len (partsB 58 s)
  have hpp := parts_pos 58 s
  have hl0 : ((partsB 58 s).getD 0 []).length ≤ s.length := by
    have := parts_le (List.getElem_mem (l := partsB 58 s) (n := 0) hpp)
    rw [List.getD_eq_getElem?_getD, List.getElem?_eq_getElem hpp, Option.getD_some]; exact this
  refine AC_seq ?_
  refine AC_region ?_
  refine AL_p rfl rfl (S_assign rfl (AEv.S _)) ?_
  refine AL_p rfl rfl (S_assign rfl (AEv.S _)) ?_
  refine AL_p rfl rfl (S_assign rfl (AEv.const _)) ?_
  refine AL_nil ?_
  refine AC_seq ?_
  refine AC_seq ?_
  refine AC_region ?_
  refine AL_p rfl rfl (S_move rfl (AEv.tmp rfl)) ?_
  refine AL_p rfl rfl (S_lenS (ts := #[]) rfl (AEv.tmp rfl) (by kernel_rfl)) ?_
  refine AL_p rfl rfl (S_gtr rfl (AEv.tmp rfl) (AEv.const _)) ?_
  refine AL_nil ?_
  refine AC_cond (AEv.tmp rfl) (fun hb1 => ?_) (fun hb1 => ?_)
  · try simp only [Bool.and_eq_true, Bool.or_eq_true, Bool.not_eq_true', Bool.not_eq_false', Bool.and_eq_false_iff, Bool.or_eq_false_iff, decide_eq_true_eq, decide_eq_false_iff_not, gd] at hb1
    refine AC_seq ?_
    refine AC_region ?_
    refine AL_p rfl rfl (S_assign rfl (AEv.S _)) ?_
    refine AL_p rfl rfl (S_assign rfl (AEv.S _)) ?_
    refine AL_p rfl rfl (S_assign rfl (AEv.const _)) ?_
    refine AL_nil ?_
    refine AC_ret ?_
    refine ret_tmps (ts := [2, 3, 4]) st rfl (by decide) rfl (Sub.l (List.Sublist.refl _)) (Conv.refl (Sub.l (List.Sublist.refl _)) _) ⟨(show AV.tup [.S [], .S [], .bool false] = _ from by rw [← split_eq, splitRef, if_pos (by omega)]), rfl⟩ (.inl rfl)
  · try simp only [Bool.and_eq_true, Bool.or_eq_true, Bool.not_eq_true', Bool.not_eq_false', Bool.and_eq_false_iff, Bool.or_eq_false_iff, decide_eq_true_eq, decide_eq_false_iff_not, gd] at hb1
    refine AC_skip ?_
    refine AC_seq ?_
    refine AC_region ?_
    refine AL_p rfl rfl (S_move rfl (AEv.tmp rfl)) ?_
    refine AL_p rfl rfl (S_pcall rfl (AEvs.cons (AEv.tmp rfl) (AEvs.cons (AEv.const _) AEvs.nil)) (ref_parts_ok s 58 (by omega))) ?_
    refine AL_p rfl rfl (S_assign rfl (AEv.tmp rfl)) ?_
    refine AL_nil ?_
    refine AC_seq ?_
    refine AC_seq ?_
    refine AC_region ?_
    refine AL_p rfl rfl (S_move rfl (AEv.tmp rfl)) ?_
    refine AL_p rfl rfl (S_len (e := 9) rfl (AEv.tmp rfl) (by kernel_rfl)) ?_
    refine AL_p rfl rfl (S_neq rfl (AEv.tmp rfl) (AEv.const _)) ?_
    refine AL_p rfl rfl (S_move rfl (AEv.tmp rfl)) ?_
    refine AL_g rfl rfl (AEv.tmp rfl) rfl (fun hg2 => S_move rfl (AEv.tmp rfl)) ?_
    refine AL_g rfl rfl (AEv.tmp rfl) rfl (fun hg5 => S_elem (e := 9) (c := .S ((partsB 58 s).getD 0 [])) (i := 0) 1 rfl (AEv.cond (AEv.tmp rfl) (by first | assumption | exact gdAnd (by assumption) (by assumption))) (AEv.const _) (by kernel_rfl) (by kernel_rfl) (by omega) (strsV_at (by omega)) rfl) ?_
    refine AL_g rfl rfl (AEv.tmp rfl) rfl (fun hg8 => S_loadP rfl (AEv.cond (AEv.tmp rfl) (by first | assumption | exact gdAnd (by assumption) (by assumption))) rfl (by kernel_rfl)) ?_
    refine AL_g rfl rfl (AEv.tmp rfl) rfl (fun hg11 => S_lenS (ts := #[]) rfl (AEv.cond (AEv.tmp rfl) (by first | assumption | exact gdAnd (by assumption) (by assumption))) (by kernel_rfl)) ?_
    refine AL_g rfl rfl (AEv.tmp rfl) rfl (fun hg14 => S_gtr rfl (AEv.cond (AEv.tmp rfl) (by first | assumption | exact gdAnd (by assumption) (by assumption))) (AEv.const _)) ?_
    refine AL_p rfl rfl (S_or rfl (AEv.tmp rfl) (fun hp17 => (AEv.cond (AEv.tmp rfl) (by first | assumption | exact gdT hp17 | exact gdF hp17 | exact gdAnd (by assumption) (gdT hp17) | exact gdAnd (by assumption) (gdF hp17))))) ?_
    refine AL_p rfl rfl (S_move rfl (AEv.tmp rfl)) ?_
    refine AL_g rfl rfl (AEv.tmp rfl) rfl (fun hg18 => S_move rfl (AEv.tmp rfl)) ?_
    refine AL_g rfl rfl (AEv.tmp rfl) rfl (fun hg21 => S_elem (e := 9) (c := .S ((partsB 58 s).getD 1 [])) (i := 1) 1 rfl (AEv.cond (AEv.tmp rfl) (by first | assumption | exact gdAnd (by assumption) (by assumption))) (AEv.const _) (by kernel_rfl) (by kernel_rfl) (by omega) (strsV_at (by simp only [gd, Bool.or_eq_false_iff, Bool.not_eq_true', Bool.not_eq_false', decide_eq_true_eq, decide_eq_false_iff_not, Bool.and_eq_true] at *; omega)) rfl) ?_
    refine AL_g rfl rfl (AEv.tmp rfl) rfl (fun hg24 => S_loadP rfl (AEv.cond (AEv.tmp rfl) (by first | assumption | exact gdAnd (by assumption) (by assumption))) rfl (by kernel_rfl)) ?_
    refine AL_g rfl rfl (AEv.tmp rfl) rfl (fun hg27 => S_lenS (ts := #[]) rfl (AEv.cond (AEv.tmp rfl) (by first | assumption | exact gdAnd (by assumption) (by assumption))) (by kernel_rfl)) ?_
    refine AL_g rfl rfl (AEv.tmp rfl) rfl (fun hg30 => S_lss rfl (AEv.cond (AEv.tmp rfl) (by first | assumption | exact gdAnd (by assumption) (by assumption))) (AEv.const _)) ?_
    refine AL_p rfl rfl (S_or rfl (AEv.tmp rfl) (fun hp33 => (AEv.cond (AEv.tmp rfl) (by first | assumption | exact gdT hp33 | exact gdF hp33 | exact gdAnd (by assumption) (gdT hp33) | exact gdAnd (by assumption) (gdF hp33))))) ?_
    refine AL_p rfl rfl (S_move rfl (AEv.tmp rfl)) ?_
    refine AL_g rfl rfl (AEv.tmp rfl) rfl (fun hg34 => S_move rfl (AEv.tmp rfl)) ?_
    refine AL_g rfl rfl (AEv.tmp rfl) rfl (fun hg37 => S_elem (e := 9) (c := .S ((partsB 58 s).getD 1 [])) (i := 1) 1 rfl (AEv.cond (AEv.tmp rfl) (by first | assumption | exact gdAnd (by assumption) (by assumption))) (AEv.const _) (by kernel_rfl) (by kernel_rfl) (by omega) (strsV_at (by simp only [gd, Bool.or_eq_false_iff, Bool.not_eq_true', Bool.not_eq_false', decide_eq_true_eq, decide_eq_false_iff_not, Bool.and_eq_true] at *; omega)) rfl) ?_
    refine AL_g rfl rfl (AEv.tmp rfl) rfl (fun hg40 => S_loadP rfl (AEv.cond (AEv.tmp rfl) (by first | assumption | exact gdAnd (by assumption) (by assumption))) rfl (by kernel_rfl)) ?_
    refine AL_g rfl rfl (AEv.tmp rfl) rfl (fun hg43 => S_lenS (ts := #[]) rfl (AEv.cond (AEv.tmp rfl) (by first | assumption | exact gdAnd (by assumption) (by assumption))) (by kernel_rfl)) ?_
    refine AL_g rfl rfl (AEv.tmp rfl) rfl (fun hg46 => S_gtr rfl (AEv.cond (AEv.tmp rfl) (by first | assumption | exact gdAnd (by assumption) (by assumption))) (AEv.const _)) ?_
    refine AL_p rfl rfl (S_or rfl (AEv.tmp rfl) (fun hp49 => (AEv.cond (AEv.tmp rfl) (by first | assumption | exact gdT hp49 | exact gdF hp49 | exact gdAnd (by assumption) (gdT hp49) | exact gdAnd (by assumption) (gdF hp49))))) ?_
    refine AL_nil ?_
    refine AC_cond (AEv.tmp rfl) (fun hb50 => ?_) (fun hb50 => ?_)
    · try simp only [Bool.and_eq_true, Bool.or_eq_true, Bool.not_eq_true', Bool.not_eq_false', Bool.and_eq_false_iff, Bool.or_eq_false_iff, decide_eq_true_eq, decide_eq_false_iff_not, gd] at hb50
      have hno := splitRef_no (s := s) (by
        rcases hb50 with ((h | h) | h) | h
        · exact .inl (by omega)
        · exact .inr (.inl (by omega))
        · exact .inr (.inr (.inl (by omega)))
        · exact .inr (.inr (.inr (by omega))))
      refine AC_seq ?_
      refine AC_region ?_
      refine AL_p rfl rfl (S_assign rfl (AEv.S _)) ?_
      refine AL_p rfl rfl (S_assign rfl (AEv.S _)) ?_
      refine AL_p rfl rfl (S_assign rfl (AEv.const _)) ?_
      refine AL_nil ?_
      refine AC_ret ?_
      refine ret_tmps (ts := [2, 3, 4]) st rfl (by decide) rfl (Sub.l (List.Sublist.refl _)) (Conv.refl (Sub.l (List.Sublist.refl _)) _) ⟨(show AV.tup [.S [], .S [], .bool false] = _ from by rw [← split_eq, hno]), rfl⟩ (.inl rfl)
    · try simp only [Bool.and_eq_true, Bool.or_eq_true, Bool.not_eq_true', Bool.not_eq_false', Bool.and_eq_false_iff, Bool.or_eq_false_iff, decide_eq_true_eq, decide_eq_false_iff_not, gd] at hb50
      have hl2 : (partsB 58 s).length = 2 := by omega
      have hsp : splitRef s = if ((partsB 47 ((partsB 58 s).getD 0 [])).all nameV && ((partsB 58 s).getD 1 []).all (inC 2)) = true then ((partsB 58 s).getD 0 [], (partsB 58 s).getD 1 [], true) else ([], [], false) := by
        unfold splitRef
        rw [if_neg (by omega), if_neg (by omega)]
      refine AC_skip ?_
      refine AC_seq ?_
      refine AC_region ?_
      refine AL_p rfl rfl (S_move rfl (AEv.tmp rfl)) ?_
      refine AL_p rfl rfl (S_elem (e := 9) (c := .S ((partsB 58 s).getD 0 [])) (i := 0) 1 rfl (AEv.tmp rfl) (AEv.const _) (by kernel_rfl) (by kernel_rfl) (by omega) (strsV_at (by omega)) rfl) ?_
      refine AL_p rfl rfl (S_loadP rfl (AEv.tmp rfl) rfl (by kernel_rfl)) ?_
      refine AL_p rfl rfl (S_pcall rfl (AEvs.cons (AEv.tmp rfl) AEvs.nil) (ref_names_ok ((partsB 58 s).getD 0 []) (by omega))) ?_
      refine AL_p rfl rfl (S_move rfl (AEv.tmp rfl)) ?_
      refine AL_p rfl rfl (S_extract 0 rfl (AEv.tmp rfl) rfl) ?_
      refine AL_p rfl rfl (S_extract 1 rfl (AEv.tmp rfl) rfl) ?_
      refine AL_p rfl rfl (S_assign rfl (AEv.tmp rfl)) ?_
      refine AL_p rfl rfl (S_assign rfl (AEv.tmp rfl)) ?_
      refine AL_nil ?_
      refine AC_seq ?_
      refine AC_seq ?_
      refine AC_region ?_
      refine AL_p rfl rfl (S_assign rfl (AEv.const _)) ?_
      refine AL_nil ?_
      refine AC_block ?_
      refine AC_loop (G := Nat) (fun i => i ≤ ((partsB 58 s).getD 1 []).length) (fun i => [(0, .S s), (5, .sl (strsV (partsB 58 s))), (7, .bool ((partsB 47 ((partsB 58 s).getD 0 [])).all nameV && (((partsB 58 s).getD 1 []).take i).all (inC 2))), (8, .int .i64 (i : Int))]) (fun i => st) (fun i => ((partsB 58 s).getD 1 []).length - i) (0) (by simp) rfl ?_ ?_
      · exact .cons rfl (Le.refl _) (.cons rfl (Le.refl _) (.cons rfl (Le.of_eq (by simp)) (.cons rfl (Le.refl _) .nil)))
      · rintro i hi
        try dsimp only
        refine AC_seq ?_
        refine AC_seq ?_
        refine AC_region ?_
        refine AL_p rfl rfl (S_move rfl (AEv.tmp rfl)) ?_
        refine AL_p rfl rfl (S_move rfl (AEv.tmp rfl)) ?_
        refine AL_p rfl rfl (S_elem (e := 9) (c := .S ((partsB 58 s).getD 1 [])) (i := 1) 1 rfl (AEv.tmp rfl) (AEv.const _) (by kernel_rfl) (by kernel_rfl) (by omega) (strsV_at (by omega)) rfl) ?_
        refine AL_p rfl rfl (S_loadP rfl (AEv.tmp rfl) rfl (by kernel_rfl)) ?_
        refine AL_p rfl rfl (S_lenS (ts := #[]) rfl (AEv.tmp rfl) (by kernel_rfl)) ?_
        refine AL_p rfl rfl (S_lss rfl (AEv.tmp rfl) (AEv.tmp rfl)) ?_
        refine AL_nil ?_
        refine AC_cond (AEv.tmp rfl) (fun hb51 => ?_) (fun hb51 => ?_)
        · try simp only [Bool.and_eq_true, Bool.or_eq_true, Bool.not_eq_true', Bool.not_eq_false', Bool.and_eq_false_iff, Bool.or_eq_false_iff, decide_eq_true_eq, decide_eq_false_iff_not, gd] at hb51
          have hil : i < ((partsB 58 s).getD 1 []).length := by omega
          refine AC_skip ?_
          refine AC_seq ?_
          refine AC_block ?_
          refine AC_seq ?_
          refine AC_region ?_
          refine AL_p rfl rfl (S_move rfl (AEv.tmp rfl)) ?_
          refine AL_p rfl rfl (S_elem (e := 9) (c := .S ((partsB 58 s).getD 1 [])) (i := 1) 1 rfl (AEv.tmp rfl) (AEv.const _) (by kernel_rfl) (by kernel_rfl) (by omega) (strsV_at (by omega)) rfl) ?_
          refine AL_p rfl rfl (S_loadP rfl (AEv.tmp rfl) rfl (by kernel_rfl)) ?_
          refine AL_p rfl rfl (S_move rfl (AEv.tmp rfl)) ?_
          refine AL_p rfl rfl ((S_index rfl (AEv.tmp rfl) (AEv.tmp rfl) (by kernel_rfl) (by omega) (by omega)).ofV (congrArg _ (atL_get hil))) ?_
          refine AL_p rfl rfl (S_assign rfl (AEv.tmp rfl)) ?_
          refine AL_nil ?_
          refine AC_region ?_
          refine AL_p rfl rfl (S_move rfl (AEv.tmp rfl)) ?_
          refine AL_p rfl rfl (S_move rfl (AEv.tmp rfl)) ?_
          refine AL_g rfl rfl (AEv.tmp rfl) rfl (fun hg52 => S_move rfl (AEv.tmp rfl)) ?_
          refine AL_g rfl rfl (AEv.tmp rfl) rfl (fun hg55 => S_pcall rfl (AEvs.cons (y := .int .u8 ((((partsB 58 s).getD 1 [])[i]'hil).toNat : Int)) (AEv.cond (AEv.tmp rfl) (by first | assumption | exact gdAnd (by assumption) (by assumption))) AEvs.nil) (ref_small_ok (((partsB 58 s).getD 1 [])[i]'hil))) ?_
          refine AL_g rfl rfl (AEv.tmp rfl) rfl (fun hg58 => S_move rfl (AEv.cond (AEv.tmp rfl) (by first | assumption | exact gdAnd (by assumption) (by assumption)))) ?_
          refine AL_gg rfl rfl (AEv.tmp rfl) rfl (fun hg61 hg62 hg63 => S_move rfl (AEv.tmp rfl)) ?_
          refine AL_gg rfl rfl (AEv.tmp rfl) rfl (fun hg64 hg65 hg66 => S_eql rfl (AEv.cond (AEv.tmp rfl) (by first | assumption | exact gdAnd (by assumption) (by assumption))) (AEv.const _)) ?_
          refine AL_g rfl rfl (AEv.tmp rfl) rfl (fun hg67 => S_or rfl (AEv.cond (AEv.tmp rfl) (by first | assumption | exact gdAnd (by assumption) (by assumption))) (fun hp70 => (AEv.cond (AEv.tmp rfl) (by first | assumption | exact gdT hp70 | exact gdF hp70 | exact gdAnd (by assumption) (gdT hp70) | exact gdAnd (by assumption) (gdF hp70))))) ?_
          refine AL_g rfl rfl (AEv.tmp rfl) rfl (fun hg71 => S_move rfl (AEv.cond (AEv.tmp rfl) (by first | assumption | exact gdAnd (by assumption) (by assumption)))) ?_
          refine AL_gg rfl rfl (AEv.tmp rfl) rfl (fun hg74 hg75 hg76 => S_move rfl (AEv.tmp rfl)) ?_
          refine AL_gg rfl rfl (AEv.tmp rfl) rfl (fun hg77 hg78 hg79 => S_eql rfl (AEv.cond (AEv.tmp rfl) (by first | assumption | exact gdAnd (by assumption) (by assumption))) (AEv.const _)) ?_
          refine AL_g rfl rfl (AEv.tmp rfl) rfl (fun hg80 => S_or rfl (AEv.cond (AEv.tmp rfl) (by first | assumption | exact gdAnd (by assumption) (by assumption))) (fun hp83 => (AEv.cond (AEv.tmp rfl) (by first | assumption | exact gdT hp83 | exact gdF hp83 | exact gdAnd (by assumption) (gdT hp83) | exact gdAnd (by assumption) (gdF hp83))))) ?_
          refine AL_p rfl rfl (S_and rfl (AEv.tmp rfl) (fun hp84 => (AEv.cond (AEv.tmp rfl) (by first | assumption | exact gdT hp84 | exact gdF hp84 | exact gdAnd (by assumption) (gdT hp84) | exact gdAnd (by assumption) (gdF hp84))))) ?_
          refine AL_p rfl rfl (S_assign rfl (AEv.tmp rfl)) ?_
          refine AL_nil ?_
          refine AC_region ?_
          refine AL_p rfl rfl (S_move rfl (AEv.tmp rfl)) ?_
          refine AL_p rfl rfl (S_addI rfl (AEv.tmp rfl) (AEv.const _) (by omega) (by omega)) ?_
          refine AL_p rfl rfl (S_assign rfl (AEv.tmp rfl)) ?_
          refine AL_nil ?_
          refine ⟨i + 1, by omega, by omega, rfl, .cons rfl (Le.refl _) (.cons rfl (Le.refl _) (.cons rfl (Le.of_eq (by rw [all_take_succ hil, inC2, Bool.and_assoc])) (.cons rfl (Le.of_eq (by rw [Int.natCast_add]; rfl)) .nil)))⟩
        · try simp only [Bool.and_eq_true, Bool.or_eq_true, Bool.not_eq_true', Bool.not_eq_false', Bool.and_eq_false_iff, Bool.or_eq_false_iff, decide_eq_true_eq, decide_eq_false_iff_not, gd] at hb51
          rw [List.take_of_length_le (show ((partsB 58 s).getD 1 []).length ≤ i by omega)]
          refine AC_exit ?_
          refine AC_seq ?_
          refine AC_seq ?_
          refine AC_region ?_
          refine AL_p rfl rfl (S_move rfl (AEv.tmp rfl)) ?_
          refine AL_p rfl rfl (S_not rfl (AEv.tmp rfl)) ?_
          refine AL_nil ?_
          refine AC_cond (AEv.tmp rfl) (fun hb85 => ?_) (fun hb85 => ?_)
          · try simp only [Bool.and_eq_true, Bool.or_eq_true, Bool.not_eq_true', Bool.not_eq_false', Bool.and_eq_false_iff, Bool.or_eq_false_iff, decide_eq_true_eq, decide_eq_false_iff_not, gd] at hb85
            have hf : ¬ ((partsB 47 ((partsB 58 s).getD 0 [])).all nameV && ((partsB 58 s).getD 1 []).all (inC 2)) = true := by rcases hb85 with h | h <;> rw [h] <;> simp
            refine AC_seq ?_
            refine AC_region ?_
            refine AL_p rfl rfl (S_assign rfl (AEv.S _)) ?_
            refine AL_p rfl rfl (S_assign rfl (AEv.S _)) ?_
            refine AL_p rfl rfl (S_assign rfl (AEv.const _)) ?_
            refine AL_nil ?_
            refine AC_ret ?_
            refine ret_tmps (ts := [2, 3, 4]) st rfl (by decide) rfl (Sub.l (List.Sublist.refl _)) (Conv.refl (Sub.l (List.Sublist.refl _)) _) ⟨(show AV.tup [.S [], .S [], .bool false] = _ from by rw [← split_eq, hsp, if_neg hf]), rfl⟩ (.inl rfl)
          · try simp only [Bool.and_eq_true, Bool.or_eq_true, Bool.not_eq_true', Bool.not_eq_false', Bool.and_eq_false_iff, Bool.or_eq_false_iff, decide_eq_true_eq, decide_eq_false_iff_not, gd] at hb85
            have hf : ((partsB 47 ((partsB 58 s).getD 0 [])).all nameV && ((partsB 58 s).getD 1 []).all (inC 2)) = true := by rw [hb85.1, hb85.2]; rfl
            refine AC_skip ?_
            refine AC_seq ?_
            refine AC_draw (by kernel_rfl) (by kernel_rfl) (.cons rfl (Q_p rfl (S_move rfl (AEv.tmp rfl))) <|
                .cons rfl (Q_p rfl (S_elem (e := 9) (c := .S ((partsB 58 s).getD 0 [])) (i := 0) 1 rfl (AEv.tmp rfl) (AEv.const _) (by kernel_rfl) (by kernel_rfl) (by omega) (strsV_at (by omega)) rfl)) <|
                .cons rfl (Q_p rfl (S_loadP rfl (AEv.tmp rfl) rfl (by kernel_rfl))) <|
                .cons rfl (Q_p rfl (S_move rfl (AEv.tmp rfl))) <|
                .cons rfl (Q_p rfl (S_elem (e := 9) (c := .S ((partsB 58 s).getD 1 [])) (i := 1) 1 rfl (AEv.tmp rfl) (AEv.const _) (by kernel_rfl) (by kernel_rfl) (by omega) (strsV_at (by omega)) rfl)) <|
                .cons rfl (Q_p rfl (S_loadP rfl (AEv.tmp rfl) rfl (by kernel_rfl))) <|
                .cons rfl (Q_p rfl (S_assign rfl (AEv.tmp rfl))) <|
                .cons rfl (Q_p rfl (S_assign rfl (AEv.tmp rfl))) <|
                .cons rfl (Q_p rfl (S_assign rfl (AEv.const _))) <|
                .nil) ?_
            refine AC_ret ?_
            refine ret_tmps (ts := [2, 3, 4]) st rfl (by decide) rfl (Sub.l (List.Sublist.refl _)) (Conv.refl (Sub.l (List.Sublist.refl _)) _) ⟨(show AV.tup [.S ((partsB 58 s).getD 0 []), .S ((partsB 58 s).getD 1 []), .bool true] = _ from by rw [← split_eq, hsp, if_pos hf]), rfl⟩ (.inl rfl)

set_option maxRecDepth 100000 in
/-- provost/provostlaw03.says -/
theorem law_says_ok (b : Bool) (c : Int) : PCalls Tryd.prog 10 [.bool b, .int .i64 c] (.int .i64 (saysV b c)) := by
  intro st
  refine ACalls_of (N := 7) Tryd.func10 (by kernel_rfl) rfl rfl rfl ?_
  refine AC_seq ?_
  refine AC_region ?_
  refine AL_p rfl rfl (S_assign rfl (AEv.const _)) ?_
  refine AL_nil ?_
  refine AC_seq ?_
  refine AC_seq ?_
  refine AC_region ?_
  refine AL_p rfl rfl (S_move rfl (AEv.tmp rfl)) ?_
  refine AL_nil ?_
  refine AC_cond (AEv.tmp rfl) (fun hb1 => ?_) (fun hb1 => ?_)
  · try simp only [Bool.and_eq_true, Bool.or_eq_true, Bool.not_eq_true', Bool.not_eq_false', Bool.and_eq_false_iff, Bool.or_eq_false_iff, decide_eq_true_eq, decide_eq_false_iff_not, gd] at hb1
    have hb : b = true := hb1
    refine AC_seq ?_
    refine AC_region ?_
    refine AL_p rfl rfl (S_assign rfl (AEv.const _)) ?_
    refine AL_nil ?_
    refine AC_ret ?_
    refine ret_tmp st rfl rfl (Sub.l (List.Sublist.refl _)) (Conv.refl (Sub.l (List.Sublist.refl _)) _) ⟨by rw [saysV, if_pos (by assumption)], rfl⟩ (.inl rfl)
  · try simp only [Bool.and_eq_true, Bool.or_eq_true, Bool.not_eq_true', Bool.not_eq_false', Bool.and_eq_false_iff, Bool.or_eq_false_iff, decide_eq_true_eq, decide_eq_false_iff_not, gd] at hb1
    have hb : b = false := hb1
    refine AC_skip ?_
    refine AC_seq ?_
    refine AC_region ?_
    refine AL_p rfl rfl (S_move rfl (AEv.tmp rfl)) ?_
    refine AL_p rfl rfl (S_assign rfl (AEv.tmp rfl)) ?_
    refine AL_nil ?_
    refine AC_ret ?_
    refine ret_tmp st rfl rfl (Sub.l (List.Sublist.refl _)) (Conv.refl (Sub.l (List.Sublist.refl _)) _) ⟨by rw [saysV, if_neg (by simp_all)], rfl⟩ (.inl rfl)

set_option maxRecDepth 100000 in
/-- provost/provostlaw03.works -/
theorem law_works : GCalls Tryd.prog tabs 7 [] (.bool true) := by
  intro st hG
  refine ACalls_of (N := 37) Tryd.func7 (by kernel_rfl) rfl rfl rfl ?_
  refine AC_seq ?_
  refine AC_region ?_
  refine AL_p rfl rfl (S_assign rfl (AEv.const _)) ?_
  refine AL_nil ?_
  refine AC_seq ?_
  refine AC_region ?_
  refine AL_p rfl rfl (S_gcall rfl (AEvs.cons (AEv.S _) AEvs.nil) (text_Split_ok [108, 105, 98, 47, 119, 101, 98, 58, 49, 46, 48] (by decide) _ hG)) ?_
  refine AL_p rfl rfl (S_move rfl (AEv.tmp rfl)) ?_
  refine AL_p rfl rfl (S_extract 0 rfl (AEv.tmp rfl) rfl) ?_
  refine AL_p rfl rfl (S_extract 1 rfl (AEv.tmp rfl) rfl) ?_
  refine AL_p rfl rfl (S_assign rfl (AEv.tmp rfl)) ?_
  refine AL_p rfl rfl (S_assign rfl (AEv.tmp rfl)) ?_
  refine AL_nil ?_
  refine AC_seq ?_
  refine AC_region ?_
  refine AL_p rfl rfl (S_gcall rfl (AEvs.cons (AEv.S _) AEvs.nil) (text_Name_ok [119, 101, 98, 45, 49] _ hG)) ?_
  refine AL_p rfl rfl (S_eql rfl (AEv.tmp rfl) (AEv.const _)) ?_
  refine AL_p rfl rfl (S_move rfl (AEv.tmp rfl)) ?_
  refine AL_g rfl rfl (AEv.tmp rfl) rfl (fun hg1 => S_gcall rfl (AEvs.cons (AEv.S _) AEvs.nil) (text_Name_ok [45, 119, 101, 98] _ hG)) ?_
  refine AL_g rfl rfl (AEv.tmp rfl) rfl (fun hg4 => S_eql rfl (AEv.cond (AEv.tmp rfl) (by first | assumption | exact gdAnd (by assumption) (by assumption))) (AEv.const _)) ?_
  refine AL_p rfl rfl (S_and rfl (AEv.tmp rfl) (fun hp7 => (AEv.cond (AEv.tmp rfl) (by first | assumption | exact gdT hp7 | exact gdF hp7 | exact gdAnd (by assumption) (gdT hp7) | exact gdAnd (by assumption) (gdF hp7))))) ?_
  refine AL_p rfl rfl (S_move rfl (AEv.tmp rfl)) ?_
  refine AL_g rfl rfl (AEv.tmp rfl) rfl (fun hg8 => S_gcall rfl (AEvs.cons (AEv.S _) AEvs.nil) (text_Image_ok [108, 105, 98, 47, 119, 101, 98, 58, 49, 46, 48] (by decide) _ hG)) ?_
  refine AL_g rfl rfl (AEv.tmp rfl) rfl (fun hg11 => S_eql rfl (AEv.cond (AEv.tmp rfl) (by first | assumption | exact gdAnd (by assumption) (by assumption))) (AEv.const _)) ?_
  refine AL_p rfl rfl (S_and rfl (AEv.tmp rfl) (fun hp14 => (AEv.cond (AEv.tmp rfl) (by first | assumption | exact gdT hp14 | exact gdF hp14 | exact gdAnd (by assumption) (gdT hp14) | exact gdAnd (by assumption) (gdF hp14))))) ?_
  refine AL_p rfl rfl (S_move rfl (AEv.tmp rfl)) ?_
  refine AL_g rfl rfl (AEv.tmp rfl) rfl (fun hg15 => S_move rfl (AEv.tmp rfl)) ?_
  refine AL_g rfl rfl (AEv.tmp rfl) rfl (fun hg18 => S_eqS rfl (AEv.cond (AEv.tmp rfl) (by first | assumption | exact gdAnd (by assumption) (by assumption))) (AEv.S _)) ?_
  refine AL_p rfl rfl (S_and rfl (AEv.tmp rfl) (fun hp21 => (AEv.cond (AEv.tmp rfl) (by first | assumption | exact gdT hp21 | exact gdF hp21 | exact gdAnd (by assumption) (gdT hp21) | exact gdAnd (by assumption) (gdF hp21))))) ?_
  refine AL_p rfl rfl (S_move rfl (AEv.tmp rfl)) ?_
  refine AL_g rfl rfl (AEv.tmp rfl) rfl (fun hg22 => S_move rfl (AEv.tmp rfl)) ?_
  refine AL_g rfl rfl (AEv.tmp rfl) rfl (fun hg25 => S_eqS rfl (AEv.cond (AEv.tmp rfl) (by first | assumption | exact gdAnd (by assumption) (by assumption))) (AEv.S _)) ?_
  refine AL_p rfl rfl (S_and rfl (AEv.tmp rfl) (fun hp28 => (AEv.cond (AEv.tmp rfl) (by first | assumption | exact gdT hp28 | exact gdF hp28 | exact gdAnd (by assumption) (gdT hp28) | exact gdAnd (by assumption) (gdF hp28))))) ?_
  refine AL_p rfl rfl (S_move rfl (AEv.tmp rfl)) ?_
  refine AL_g rfl rfl (AEv.tmp rfl) rfl (fun hg29 => S_gcall rfl (AEvs.cons (AEv.S _) AEvs.nil) (text_Image_ok [119, 101, 98] (by decide) _ hG)) ?_
  refine AL_g rfl rfl (AEv.tmp rfl) rfl (fun hg32 => S_eql rfl (AEv.cond (AEv.tmp rfl) (by first | assumption | exact gdAnd (by assumption) (by assumption))) (AEv.const _)) ?_
  refine AL_p rfl rfl (S_and rfl (AEv.tmp rfl) (fun hp35 => (AEv.cond (AEv.tmp rfl) (by first | assumption | exact gdT hp35 | exact gdF hp35 | exact gdAnd (by assumption) (gdT hp35) | exact gdAnd (by assumption) (gdF hp35))))) ?_
  refine AL_p rfl rfl (S_move rfl (AEv.tmp rfl)) ?_
  refine AL_g rfl rfl (AEv.tmp rfl) rfl (fun hg36 => S_gcall rfl (AEvs.cons (AEv.S _) AEvs.nil) (text_Key_ok [97, 47, 98] (by decide) _ hG)) ?_
  refine AL_g rfl rfl (AEv.tmp rfl) rfl (fun hg39 => S_eql rfl (AEv.cond (AEv.tmp rfl) (by first | assumption | exact gdAnd (by assumption) (by assumption))) (AEv.const _)) ?_
  refine AL_p rfl rfl (S_and rfl (AEv.tmp rfl) (fun hp42 => (AEv.cond (AEv.tmp rfl) (by first | assumption | exact gdT hp42 | exact gdF hp42 | exact gdAnd (by assumption) (gdT hp42) | exact gdAnd (by assumption) (gdF hp42))))) ?_
  refine AL_p rfl rfl (S_move rfl (AEv.tmp rfl)) ?_
  refine AL_g rfl rfl (AEv.tmp rfl) rfl (fun hg43 => S_gcall rfl (AEvs.cons (AEv.S _) AEvs.nil) (text_Val_ok [88, 95, 49] (by decide) _ hG)) ?_
  refine AL_g rfl rfl (AEv.tmp rfl) rfl (fun hg46 => S_eql rfl (AEv.cond (AEv.tmp rfl) (by first | assumption | exact gdAnd (by assumption) (by assumption))) (AEv.const _)) ?_
  refine AL_p rfl rfl (S_and rfl (AEv.tmp rfl) (fun hp49 => (AEv.cond (AEv.tmp rfl) (by first | assumption | exact gdT hp49 | exact gdF hp49 | exact gdAnd (by assumption) (gdT hp49) | exact gdAnd (by assumption) (gdF hp49))))) ?_
  refine AL_p rfl rfl (S_assign rfl (AEv.tmp rfl)) ?_
  refine AL_nil ?_
  refine AC_ret ?_
  refine ret_tmp st rfl rfl (Sub.l (List.Sublist.refl _)) (Conv.refl (Sub.l (List.Sublist.refl _)) _) ⟨by rw [w03a, w03b, w03c, w03d, w03e, w03f]; rfl, rfl⟩ (.inl rfl)

set_option maxRecDepth 100000 in
/-- provost/provostlaw03.TextIs -/
theorem law_TextIs (s : List UInt8) (hs : s.length ≤ 9223372036854775807) : GCalls Tryd.prog tabs 3 [.S s] (.bool true) := by
  intro st hG
  refine ACalls_of (N := 48) Tryd.func3 (by kernel_rfl) rfl rfl rfl ?_
  refine AC_seq ?_
  refine AC_region ?_
  refine AL_p rfl rfl (S_assign rfl (AEv.const _)) ?_
  refine AL_nil ?_
  refine AC_seq ?_
  refine AC_seq ?_
  refine AC_region ?_
  refine AL_p rfl rfl (S_move rfl (AEv.tmp rfl)) ?_
  refine AL_p rfl rfl (S_lenS (ts := #[]) rfl (AEv.tmp rfl) (by kernel_rfl)) ?_
  refine AL_p rfl rfl (S_gtr rfl (AEv.tmp rfl) (AEv.const _)) ?_
  refine AL_nil ?_
  refine AC_cond (AEv.tmp rfl) (fun hb1 => ?_) (fun hb1 => ?_)
  · try simp only [Bool.and_eq_true, Bool.or_eq_true, Bool.not_eq_true', Bool.not_eq_false', Bool.and_eq_false_iff, Bool.or_eq_false_iff, decide_eq_true_eq, decide_eq_false_iff_not, gd] at hb1
    refine AC_seq ?_
    refine AC_region ?_
    refine AL_p rfl rfl (S_gcall rfl AEvs.nil ((law_works) _ (fun p hp => by first | exact hG p hp | (simp [hG p hp]; done)))) ?_
    refine AL_p rfl rfl (S_assign rfl (AEv.tmp rfl)) ?_
    refine AL_nil ?_
    refine AC_ret ?_
    refine ret_tmp st rfl rfl (Sub.l (List.Sublist.refl _)) (Conv.refl (Sub.l (List.Sublist.refl _)) _) ⟨rfl, rfl⟩ (.inl rfl)
  · try simp only [Bool.and_eq_true, Bool.or_eq_true, Bool.not_eq_true', Bool.not_eq_false', Bool.and_eq_false_iff, Bool.or_eq_false_iff, decide_eq_true_eq, decide_eq_false_iff_not, gd] at hb1
    refine AC_skip ?_
    refine AC_seq ?_
    refine AC_region ?_
    refine AL_p rfl rfl (S_move rfl (AEv.tmp rfl)) ?_
    refine AL_p rfl rfl (S_pcall rfl (AEvs.cons (AEv.tmp rfl) AEvs.nil) (ref03_Split_ok _ (by omega))) ?_
    refine AL_p rfl rfl (S_move rfl (AEv.tmp rfl)) ?_
    refine AL_p rfl rfl (S_extract 0 rfl (AEv.tmp rfl) rfl) ?_
    refine AL_p rfl rfl (S_extract 1 rfl (AEv.tmp rfl) rfl) ?_
    refine AL_p rfl rfl (S_extract 2 rfl (AEv.tmp rfl) rfl) ?_
    refine AL_p rfl rfl (S_assign rfl (AEv.tmp rfl)) ?_
    refine AL_p rfl rfl (S_assign rfl (AEv.tmp rfl)) ?_
    refine AL_p rfl rfl (S_assign rfl (AEv.tmp rfl)) ?_
    refine AL_nil ?_
    refine AC_seq ?_
    refine AC_region ?_
    refine AL_p rfl rfl (S_move rfl (AEv.tmp rfl)) ?_
    refine AL_p rfl rfl (S_gcall rfl (AEvs.cons (AEv.tmp rfl) AEvs.nil) ((text_Name_ok _) _ (fun p hp => by first | exact hG p hp | (simp [hG p hp]; done)))) ?_
    refine AL_p rfl rfl (S_move rfl (AEv.tmp rfl)) ?_
    refine AL_p rfl rfl (S_pcall rfl (AEvs.cons (AEv.tmp rfl) AEvs.nil) (ref03_Name_ok _ (by omega))) ?_
    refine AL_p rfl rfl (S_pcall rfl (AEvs.cons (AEv.tmp rfl) (AEvs.cons (AEv.const _) AEvs.nil)) (law_says_ok _ _)) ?_
    refine AL_p rfl rfl (S_eql rfl (AEv.tmp rfl) (AEv.tmp rfl)) ?_
    refine AL_p rfl rfl (S_move rfl (AEv.tmp rfl)) ?_
    refine AL_g rfl rfl (AEv.tmp rfl) rfl (fun hg2 => S_move rfl (AEv.tmp rfl)) ?_
    refine AL_g rfl rfl (AEv.tmp rfl) rfl (fun hg5 => S_gcall rfl (AEvs.cons (AEv.cond (AEv.tmp rfl) (by first | assumption | exact gdAnd (by assumption) (by assumption))) AEvs.nil) ((text_Key_ok _ (by omega)) _ (fun p hp => by first | exact hG p hp | (simp [hG p hp]; done)))) ?_
    refine AL_g rfl rfl (AEv.tmp rfl) rfl (fun hg8 => S_move rfl (AEv.tmp rfl)) ?_
    refine AL_g rfl rfl (AEv.tmp rfl) rfl (fun hg11 => S_pcall rfl (AEvs.cons (AEv.cond (AEv.tmp rfl) (by first | assumption | exact gdAnd (by assumption) (by assumption))) AEvs.nil) (ref03_Key_ok _ (by omega))) ?_
    refine AL_g rfl rfl (AEv.tmp rfl) rfl (fun hg14 => S_pcall rfl (AEvs.cons (AEv.cond (AEv.tmp rfl) (by first | assumption | exact gdAnd (by assumption) (by assumption))) (AEvs.cons (AEv.const _) AEvs.nil)) (law_says_ok _ _)) ?_
    refine AL_g rfl rfl (AEv.tmp rfl) rfl (fun hg17 => S_eql rfl (AEv.cond (AEv.tmp rfl) (by first | assumption | exact gdAnd (by assumption) (by assumption))) (AEv.cond (AEv.tmp rfl) (by first | assumption | exact gdAnd (by assumption) (by assumption)))) ?_
    refine AL_p rfl rfl (S_and rfl (AEv.tmp rfl) (fun hp20 => (AEv.cond (AEv.tmp rfl) (by first | assumption | exact gdT hp20 | exact gdF hp20 | exact gdAnd (by assumption) (gdT hp20) | exact gdAnd (by assumption) (gdF hp20))))) ?_
    refine AL_p rfl rfl (S_move rfl (AEv.tmp rfl)) ?_
    refine AL_g rfl rfl (AEv.tmp rfl) rfl (fun hg21 => S_move rfl (AEv.tmp rfl)) ?_
    refine AL_g rfl rfl (AEv.tmp rfl) rfl (fun hg24 => S_gcall rfl (AEvs.cons (AEv.cond (AEv.tmp rfl) (by first | assumption | exact gdAnd (by assumption) (by assumption))) AEvs.nil) ((text_Val_ok _ (by omega)) _ (fun p hp => by first | exact hG p hp | (simp [hG p hp]; done)))) ?_
    refine AL_g rfl rfl (AEv.tmp rfl) rfl (fun hg27 => S_move rfl (AEv.tmp rfl)) ?_
    refine AL_g rfl rfl (AEv.tmp rfl) rfl (fun hg30 => S_pcall rfl (AEvs.cons (AEv.cond (AEv.tmp rfl) (by first | assumption | exact gdAnd (by assumption) (by assumption))) AEvs.nil) (ref03_Val_ok _ (by omega))) ?_
    refine AL_g rfl rfl (AEv.tmp rfl) rfl (fun hg33 => S_pcall rfl (AEvs.cons (AEv.cond (AEv.tmp rfl) (by first | assumption | exact gdAnd (by assumption) (by assumption))) (AEvs.cons (AEv.const _) AEvs.nil)) (law_says_ok _ _)) ?_
    refine AL_g rfl rfl (AEv.tmp rfl) rfl (fun hg36 => S_eql rfl (AEv.cond (AEv.tmp rfl) (by first | assumption | exact gdAnd (by assumption) (by assumption))) (AEv.cond (AEv.tmp rfl) (by first | assumption | exact gdAnd (by assumption) (by assumption)))) ?_
    refine AL_p rfl rfl (S_and rfl (AEv.tmp rfl) (fun hp39 => (AEv.cond (AEv.tmp rfl) (by first | assumption | exact gdT hp39 | exact gdF hp39 | exact gdAnd (by assumption) (gdT hp39) | exact gdAnd (by assumption) (gdF hp39))))) ?_
    refine AL_p rfl rfl (S_move rfl (AEv.tmp rfl)) ?_
    refine AL_g rfl rfl (AEv.tmp rfl) rfl (fun hg40 => S_move rfl (AEv.tmp rfl)) ?_
    refine AL_g rfl rfl (AEv.tmp rfl) rfl (fun hg43 => S_gcall rfl (AEvs.cons (AEv.cond (AEv.tmp rfl) (by first | assumption | exact gdAnd (by assumption) (by assumption))) AEvs.nil) ((text_Image_ok _ (by omega)) _ (fun p hp => by first | exact hG p hp | (simp [hG p hp]; done)))) ?_
    refine AL_g rfl rfl (AEv.tmp rfl) rfl (fun hg46 => S_move rfl (AEv.tmp rfl)) ?_
    refine AL_g rfl rfl (AEv.tmp rfl) rfl (fun hg49 => S_pcall rfl (AEvs.cons (AEv.cond (AEv.tmp rfl) (by first | assumption | exact gdAnd (by assumption) (by assumption))) (AEvs.cons (AEv.const _) AEvs.nil)) (law_says_ok _ _)) ?_
    refine AL_g rfl rfl (AEv.tmp rfl) rfl (fun hg52 => S_eql rfl (AEv.cond (AEv.tmp rfl) (by first | assumption | exact gdAnd (by assumption) (by assumption))) (AEv.cond (AEv.tmp rfl) (by first | assumption | exact gdAnd (by assumption) (by assumption)))) ?_
    refine AL_p rfl rfl (S_and rfl (AEv.tmp rfl) (fun hp55 => (AEv.cond (AEv.tmp rfl) (by first | assumption | exact gdT hp55 | exact gdF hp55 | exact gdAnd (by assumption) (gdT hp55) | exact gdAnd (by assumption) (gdF hp55))))) ?_
    refine AL_p rfl rfl (S_move rfl (AEv.tmp rfl)) ?_
    refine AL_g rfl rfl (AEv.tmp rfl) rfl (fun hg56 => S_gcall rfl AEvs.nil ((law_works) _ (fun p hp => by first | exact hG p hp | (simp [hG p hp]; done)))) ?_
    refine AL_p rfl rfl (S_and rfl (AEv.tmp rfl) (fun hp59 => (AEv.cond (AEv.tmp rfl) (by first | assumption | exact gdT hp59 | exact gdF hp59 | exact gdAnd (by assumption) (gdT hp59) | exact gdAnd (by assumption) (gdF hp59))))) ?_
    refine AL_p rfl rfl (S_assign rfl (AEv.tmp rfl)) ?_
    refine AL_nil ?_
    refine AC_ret ?_
    refine ret_tmp st rfl rfl (Sub.l (List.Sublist.refl _)) (Conv.refl (Sub.l (List.Sublist.refl _)) _) ⟨by simp, rfl⟩ (.inl rfl)

set_option maxRecDepth 100000 in
/-- provost/provostlaw03.TextSplits -/
theorem law_TextSplits (a : List UInt8) (ha : a.length ≤ 9223372036854775807) (b : List UInt8) (hb : b.length ≤ 9223372036854775807) : GCalls Tryd.prog tabs 5 [.S a, .S b] (.bool true) := by
  intro st hG
  refine ACalls_of (N := 65) Tryd.func5 (by kernel_rfl) rfl rfl rfl ?_
  refine AC_seq ?_
  refine AC_region ?_
  refine AL_p rfl rfl (S_assign rfl (AEv.const _)) ?_
  refine AL_nil ?_
  refine AC_seq ?_
  refine AC_seq ?_
  refine AC_region ?_
  refine AL_p rfl rfl (S_move rfl (AEv.tmp rfl)) ?_
  refine AL_p rfl rfl (S_lenS (ts := #[]) rfl (AEv.tmp rfl) (by kernel_rfl)) ?_
  refine AL_p rfl rfl (S_gtr rfl (AEv.tmp rfl) (AEv.const _)) ?_
  refine AL_p rfl rfl (S_move rfl (AEv.tmp rfl)) ?_
  refine AL_g rfl rfl (AEv.tmp rfl) rfl (fun hg1 => S_move rfl (AEv.tmp rfl)) ?_
  refine AL_g rfl rfl (AEv.tmp rfl) rfl (fun hg4 => S_lenS (ts := #[]) rfl (AEv.cond (AEv.tmp rfl) (by first | assumption | exact gdAnd (by assumption) (by assumption))) (by kernel_rfl)) ?_
  refine AL_g rfl rfl (AEv.tmp rfl) rfl (fun hg7 => S_gtr rfl (AEv.cond (AEv.tmp rfl) (by first | assumption | exact gdAnd (by assumption) (by assumption))) (AEv.const _)) ?_
  refine AL_p rfl rfl (S_or rfl (AEv.tmp rfl) (fun hp10 => (AEv.cond (AEv.tmp rfl) (by first | assumption | exact gdT hp10 | exact gdF hp10 | exact gdAnd (by assumption) (gdT hp10) | exact gdAnd (by assumption) (gdF hp10))))) ?_
  refine AL_nil ?_
  refine AC_cond (AEv.tmp rfl) (fun hb11 => ?_) (fun hb11 => ?_)
  · try simp only [Bool.and_eq_true, Bool.or_eq_true, Bool.not_eq_true', Bool.not_eq_false', Bool.and_eq_false_iff, Bool.or_eq_false_iff, decide_eq_true_eq, decide_eq_false_iff_not, gd] at hb11
    refine AC_seq ?_
    refine AC_region ?_
    refine AL_p rfl rfl (S_gcall rfl AEvs.nil ((law_works) _ (fun p hp => by first | exact hG p hp | (simp [hG p hp]; done)))) ?_
    refine AL_p rfl rfl (S_assign rfl (AEv.tmp rfl)) ?_
    refine AL_nil ?_
    refine AC_ret ?_
    refine ret_tmp st rfl rfl (Sub.l (List.Sublist.refl _)) (Conv.refl (Sub.l (List.Sublist.refl _)) _) ⟨rfl, rfl⟩ (.inl rfl)
  · try simp only [Bool.and_eq_true, Bool.or_eq_true, Bool.not_eq_true', Bool.not_eq_false', Bool.and_eq_false_iff, Bool.or_eq_false_iff, decide_eq_true_eq, decide_eq_false_iff_not, gd] at hb11
    refine AC_skip ?_
    refine AC_seq ?_
    refine AC_region ?_
    refine AL_p rfl rfl (S_move rfl (AEv.tmp rfl)) ?_
    refine AL_p rfl rfl (S_gcall rfl (AEvs.cons (AEv.tmp rfl) AEvs.nil) ((text_Split_ok _ (by omega)) _ (fun p hp => by first | exact hG p hp | (simp [hG p hp]; done)))) ?_
    refine AL_p rfl rfl (S_move rfl (AEv.tmp rfl)) ?_
    refine AL_p rfl rfl (S_extract 0 rfl (AEv.tmp rfl) rfl) ?_
    refine AL_p rfl rfl (S_extract 1 rfl (AEv.tmp rfl) rfl) ?_
    refine AL_p rfl rfl (S_assign rfl (AEv.tmp rfl)) ?_
    refine AL_p rfl rfl (S_assign rfl (AEv.tmp rfl)) ?_
    refine AL_nil ?_
    refine AC_seq ?_
    refine AC_region ?_
    refine AL_p rfl rfl (S_move rfl (AEv.tmp rfl)) ?_
    refine AL_p rfl rfl (S_pcall rfl (AEvs.cons (AEv.tmp rfl) AEvs.nil) (ref03_Split_ok _ (by omega))) ?_
    refine AL_p rfl rfl (S_move rfl (AEv.tmp rfl)) ?_
    refine AL_p rfl rfl (S_extract 0 rfl (AEv.tmp rfl) rfl) ?_
    refine AL_p rfl rfl (S_extract 1 rfl (AEv.tmp rfl) rfl) ?_
    refine AL_p rfl rfl (S_extract 2 rfl (AEv.tmp rfl) rfl) ?_
    refine AL_p rfl rfl (S_assign rfl (AEv.tmp rfl)) ?_
    refine AL_p rfl rfl (S_assign rfl (AEv.tmp rfl)) ?_
    refine AL_p rfl rfl (S_assign rfl (AEv.tmp rfl)) ?_
    refine AL_nil ?_
    refine AC_seq ?_
    refine AC_region ?_
    refine AL_p rfl rfl (S_move rfl (AEv.tmp rfl)) ?_
    refine AL_p rfl rfl (S_pcall rfl (AEvs.cons (AEv.tmp rfl) AEvs.nil) (ref03_Split_ok _ (by omega))) ?_
    refine AL_p rfl rfl (S_move rfl (AEv.tmp rfl)) ?_
    refine AL_p rfl rfl (S_extract 0 rfl (AEv.tmp rfl) rfl) ?_
    refine AL_p rfl rfl (S_extract 1 rfl (AEv.tmp rfl) rfl) ?_
    refine AL_p rfl rfl (S_extract 2 rfl (AEv.tmp rfl) rfl) ?_
    refine AL_p rfl rfl (S_assign rfl (AEv.tmp rfl)) ?_
    refine AL_p rfl rfl (S_assign rfl (AEv.tmp rfl)) ?_
    refine AL_p rfl rfl (S_assign rfl (AEv.tmp rfl)) ?_
    refine AL_nil ?_
    refine AC_seq ?_
    refine AC_region ?_
    refine AL_p rfl rfl (S_move rfl (AEv.tmp rfl)) ?_
    refine AL_p rfl rfl (S_move rfl (AEv.tmp rfl)) ?_
    refine AL_p rfl rfl (S_eqS rfl (AEv.tmp rfl) (AEv.tmp rfl)) ?_
    refine AL_p rfl rfl (S_move rfl (AEv.tmp rfl)) ?_
    refine AL_g rfl rfl (AEv.tmp rfl) rfl (fun hg12 => S_move rfl (AEv.tmp rfl)) ?_
    refine AL_g rfl rfl (AEv.tmp rfl) rfl (fun hg15 => S_move rfl (AEv.tmp rfl)) ?_
    refine AL_g rfl rfl (AEv.tmp rfl) rfl (fun hg18 => S_eqS rfl (AEv.cond (AEv.tmp rfl) (by first | assumption | exact gdAnd (by assumption) (by assumption))) (AEv.cond (AEv.tmp rfl) (by first | assumption | exact gdAnd (by assumption) (by assumption)))) ?_
    refine AL_p rfl rfl (S_and rfl (AEv.tmp rfl) (fun hp21 => (AEv.cond (AEv.tmp rfl) (by first | assumption | exact gdT hp21 | exact gdF hp21 | exact gdAnd (by assumption) (gdT hp21) | exact gdAnd (by assumption) (gdF hp21))))) ?_
    refine AL_p rfl rfl (S_move rfl (AEv.tmp rfl)) ?_
    refine AL_g rfl rfl (AEv.tmp rfl) rfl (fun hg22 => S_move rfl (AEv.tmp rfl)) ?_
    refine AL_g rfl rfl (AEv.tmp rfl) rfl (fun hg25 => S_move rfl (AEv.tmp rfl)) ?_
    refine AL_g rfl rfl (AEv.tmp rfl) rfl (fun hg28 => S_gcall rfl (AEvs.cons (AEv.cond (AEv.tmp rfl) (by first | assumption | exact gdAnd (by assumption) (by assumption))) (AEvs.cons (AEv.cond (AEv.tmp rfl) (by first | assumption | exact gdAnd (by assumption) (by assumption))) AEvs.nil)) ((text_Same_ok _ _ (by omega) (by omega)) _ (fun p hp => by first | exact hG p hp | (simp [hG p hp]; done)))) ?_
    refine AL_g rfl rfl (AEv.tmp rfl) rfl (fun hg31 => S_move rfl (AEv.tmp rfl)) ?_
    refine AL_g rfl rfl (AEv.tmp rfl) rfl (fun hg34 => S_move rfl (AEv.cond (AEv.tmp rfl) (by first | assumption | exact gdAnd (by assumption) (by assumption)))) ?_
    refine AL_gg rfl rfl (AEv.tmp rfl) rfl (fun hg37 hg38 hg39 => S_move rfl (AEv.tmp rfl)) ?_
    refine AL_g rfl rfl (AEv.tmp rfl) rfl (fun hg40 => S_and rfl (AEv.cond (AEv.tmp rfl) (by first | assumption | exact gdAnd (by assumption) (by assumption))) (fun hp43 => (AEv.cond (AEv.tmp rfl) (by first | assumption | exact gdT hp43 | exact gdF hp43 | exact gdAnd (by assumption) (gdT hp43) | exact gdAnd (by assumption) (gdF hp43))))) ?_
    refine AL_g rfl rfl (AEv.tmp rfl) rfl (fun hg44 => S_move rfl (AEv.cond (AEv.tmp rfl) (by first | assumption | exact gdAnd (by assumption) (by assumption)))) ?_
    refine AL_gg rfl rfl (AEv.tmp rfl) rfl (fun hg47 hg48 hg49 => S_move rfl (AEv.tmp rfl)) ?_
    refine AL_gg rfl rfl (AEv.tmp rfl) rfl (fun hg50 hg51 hg52 => S_move rfl (AEv.tmp rfl)) ?_
    refine AL_gg rfl rfl (AEv.tmp rfl) rfl (fun hg53 hg54 hg55 => S_eqS rfl (AEv.cond (AEv.tmp rfl) (by first | assumption | exact gdAnd (by assumption) (by assumption))) (AEv.cond (AEv.tmp rfl) (by first | assumption | exact gdAnd (by assumption) (by assumption)))) ?_
    refine AL_g rfl rfl (AEv.tmp rfl) rfl (fun hg56 => S_and rfl (AEv.cond (AEv.tmp rfl) (by first | assumption | exact gdAnd (by assumption) (by assumption))) (fun hp59 => (AEv.cond (AEv.tmp rfl) (by first | assumption | exact gdT hp59 | exact gdF hp59 | exact gdAnd (by assumption) (gdT hp59) | exact gdAnd (by assumption) (gdF hp59))))) ?_
    refine AL_g rfl rfl (AEv.tmp rfl) rfl (fun hg60 => S_eqB rfl (AEv.cond (AEv.tmp rfl) (by first | assumption | exact gdAnd (by assumption) (by assumption))) (AEv.cond (AEv.tmp rfl) (by first | assumption | exact gdAnd (by assumption) (by assumption))) (by kernel_rfl)) ?_
    refine AL_p rfl rfl (S_and rfl (AEv.tmp rfl) (fun hp63 => (AEv.cond (AEv.tmp rfl) (by first | assumption | exact gdT hp63 | exact gdF hp63 | exact gdAnd (by assumption) (gdT hp63) | exact gdAnd (by assumption) (gdF hp63))))) ?_
    refine AL_p rfl rfl (S_move rfl (AEv.tmp rfl)) ?_
    refine AL_g rfl rfl (AEv.tmp rfl) rfl (fun hg64 => S_gcall rfl AEvs.nil ((law_works) _ (fun p hp => by first | exact hG p hp | (simp [hG p hp]; done)))) ?_
    refine AL_p rfl rfl (S_and rfl (AEv.tmp rfl) (fun hp67 => (AEv.cond (AEv.tmp rfl) (by first | assumption | exact gdT hp67 | exact gdF hp67 | exact gdAnd (by assumption) (gdT hp67) | exact gdAnd (by assumption) (gdF hp67))))) ?_
    refine AL_p rfl rfl (S_assign rfl (AEv.tmp rfl)) ?_
    refine AL_nil ?_
    refine AC_ret ?_
    refine ret_tmp st rfl rfl (Sub.l (List.Sublist.refl _)) (Conv.refl (Sub.l (List.Sublist.refl _)) _) ⟨by simp [sameV], rfl⟩ (.inl rfl)

set_option maxRecDepth 100000 in
/-- provost/provostlaw03.TextParts -/
theorem law_TextParts (s : List UInt8) (hs : s.length ≤ 9223372036854775807) (t : List UInt8) (ht : t.length ≤ 9223372036854775807) : GCalls Tryd.prog tabs 6 [.S s, .S t] (.bool true) := by
  intro st hG
  refine ACalls_of (N := 69) Tryd.func6 (by kernel_rfl) rfl rfl rfl ?_
  have htl := tparts_len s
  refine AC_seq ?_
  refine AC_region ?_
  refine AL_p rfl rfl (S_assign rfl (AEv.const _)) ?_
  refine AL_nil ?_
  refine AC_seq ?_
  refine AC_seq ?_
  refine AC_region ?_
  refine AL_p rfl rfl (S_gcall rfl AEvs.nil ((law_works) _ (fun p hp => by first | exact hG p hp | (simp [hG p hp]; done)))) ?_
  refine AL_p rfl rfl (S_not rfl (AEv.tmp rfl)) ?_
  refine AL_nil ?_
  refine AC_cond (AEv.tmp rfl) (fun hb1 => ?_) (fun hb1 => ?_)
  · simp at hb1; done
  · try simp only [Bool.and_eq_true, Bool.or_eq_true, Bool.not_eq_true', Bool.not_eq_false', Bool.and_eq_false_iff, Bool.or_eq_false_iff, decide_eq_true_eq, decide_eq_false_iff_not, gd] at hb1
    refine AC_skip ?_
    refine AC_seq ?_
    refine AC_seq ?_
    refine AC_region ?_
    refine AL_p rfl rfl (S_move rfl (AEv.tmp rfl)) ?_
    refine AL_p rfl rfl (S_lenS (ts := #[]) rfl (AEv.tmp rfl) (by kernel_rfl)) ?_
    refine AL_p rfl rfl (S_gtr rfl (AEv.tmp rfl) (AEv.const _)) ?_
    refine AL_p rfl rfl (S_move rfl (AEv.tmp rfl)) ?_
    refine AL_g rfl rfl (AEv.tmp rfl) rfl (fun hg2 => S_move rfl (AEv.tmp rfl)) ?_
    refine AL_g rfl rfl (AEv.tmp rfl) rfl (fun hg5 => S_lenS (ts := #[]) rfl (AEv.cond (AEv.tmp rfl) (by first | assumption | exact gdAnd (by assumption) (by assumption))) (by kernel_rfl)) ?_
    refine AL_g rfl rfl (AEv.tmp rfl) rfl (fun hg8 => S_gtr rfl (AEv.cond (AEv.tmp rfl) (by first | assumption | exact gdAnd (by assumption) (by assumption))) (AEv.const _)) ?_
    refine AL_p rfl rfl (S_or rfl (AEv.tmp rfl) (fun hp11 => (AEv.cond (AEv.tmp rfl) (by first | assumption | exact gdT hp11 | exact gdF hp11 | exact gdAnd (by assumption) (gdT hp11) | exact gdAnd (by assumption) (gdF hp11))))) ?_
    refine AL_nil ?_
    refine AC_cond (AEv.tmp rfl) (fun hb12 => ?_) (fun hb12 => ?_)
    · try simp only [Bool.and_eq_true, Bool.or_eq_true, Bool.not_eq_true', Bool.not_eq_false', Bool.and_eq_false_iff, Bool.or_eq_false_iff, decide_eq_true_eq, decide_eq_false_iff_not, gd] at hb12
      refine AC_seq ?_
      refine AC_region ?_
      refine AL_p rfl rfl (S_assign rfl (AEv.const _)) ?_
      refine AL_nil ?_
      refine AC_ret ?_
      refine ret_tmp st rfl rfl (Sub.l (List.Sublist.refl _)) (Conv.refl (Sub.l (List.Sublist.refl _)) _) ⟨rfl, rfl⟩ (.inl rfl)
    · try simp only [Bool.and_eq_true, Bool.or_eq_true, Bool.not_eq_true', Bool.not_eq_false', Bool.and_eq_false_iff, Bool.or_eq_false_iff, decide_eq_true_eq, decide_eq_false_iff_not, gd] at hb12
      refine AC_skip ?_
      refine AC_seq ?_
      refine AC_region ?_
      refine AL_p rfl rfl (S_move rfl (AEv.tmp rfl)) ?_
      refine AL_p rfl rfl (S_gcall rfl (AEvs.cons (AEv.tmp rfl) AEvs.nil) ((text_Split_ok _ (by omega)) _ (fun p hp => by first | exact hG p hp | (simp [hG p hp]; done)))) ?_
      refine AL_p rfl rfl (S_move rfl (AEv.tmp rfl)) ?_
      refine AL_p rfl rfl (S_extract 0 rfl (AEv.tmp rfl) rfl) ?_
      refine AL_p rfl rfl (S_extract 1 rfl (AEv.tmp rfl) rfl) ?_
      refine AL_p rfl rfl (S_assign rfl (AEv.tmp rfl)) ?_
      refine AL_p rfl rfl (S_assign rfl (AEv.tmp rfl)) ?_
      refine AL_nil ?_
      refine AC_seq ?_
      refine AC_seq ?_
      refine AC_region ?_
      refine AL_p rfl rfl (S_move rfl (AEv.tmp rfl)) ?_
      refine AL_p rfl rfl (S_gcall rfl (AEvs.cons (AEv.tmp rfl) AEvs.nil) ((text_Image_ok _ (by omega)) _ (fun p hp => by first | exact hG p hp | (simp [hG p hp]; done)))) ?_
      refine AL_p rfl rfl (S_neq rfl (AEv.tmp rfl) (AEv.const _)) ?_
      refine AL_nil ?_
      refine AC_cond (AEv.tmp rfl) (fun hb13 => ?_) (fun hb13 => ?_)
      · try simp only [Bool.and_eq_true, Bool.or_eq_true, Bool.not_eq_true', Bool.not_eq_false', Bool.and_eq_false_iff, Bool.or_eq_false_iff, decide_eq_true_eq, decide_eq_false_iff_not, gd] at hb13
        have hf : (tparts s).2.2 = false := by
          cases h : (tparts s).2.2 with
          | false => rfl
          | true => rw [h] at hb13; exact absurd rfl hb13
        obtain ⟨_, h1, h2⟩ : (tparts s).2.2 = false ∧ (tparts s).1 = [] ∧ (tparts s).2.1 = [] := by
          rcases tparts_cases s with h | h
          · exact h
          · rw [h.1] at hf; cases hf
        refine AC_seq ?_
        refine AC_region ?_
        refine AL_p rfl rfl (S_move rfl (AEv.tmp rfl)) ?_
        refine AL_p rfl rfl (S_eqS rfl (AEv.tmp rfl) (AEv.S _)) ?_
        refine AL_p rfl rfl (S_move rfl (AEv.tmp rfl)) ?_
        refine AL_g rfl rfl (AEv.tmp rfl) rfl (fun hg14 => S_move rfl (AEv.tmp rfl)) ?_
        refine AL_g rfl rfl (AEv.tmp rfl) rfl (fun hg17 => S_eqS rfl (AEv.cond (AEv.tmp rfl) (by first | assumption | exact gdAnd (by assumption) (by assumption))) (AEv.S _)) ?_
        refine AL_p rfl rfl (S_and rfl (AEv.tmp rfl) (fun hp20 => (AEv.cond (AEv.tmp rfl) (by first | assumption | exact gdT hp20 | exact gdF hp20 | exact gdAnd (by assumption) (gdT hp20) | exact gdAnd (by assumption) (gdF hp20))))) ?_
        refine AL_p rfl rfl (S_move rfl (AEv.tmp rfl)) ?_
        refine AL_g rfl rfl (AEv.tmp rfl) rfl (fun hg21 => S_move rfl (AEv.tmp rfl)) ?_
        refine AL_g rfl rfl (AEv.tmp rfl) rfl (fun hg24 => S_move rfl (AEv.tmp rfl)) ?_
        refine AL_g rfl rfl (AEv.tmp rfl) rfl (fun hg27 => S_gcall rfl (AEvs.cons (AEv.cond (AEv.tmp rfl) (by first | assumption | exact gdAnd (by assumption) (by assumption))) (AEvs.cons (AEv.cond (AEv.tmp rfl) (by first | assumption | exact gdAnd (by assumption) (by assumption))) AEvs.nil)) ((text_Same_ok _ _ (by omega) (by omega)) _ (fun p hp => by first | exact hG p hp | (simp [hG p hp]; done)))) ?_
        refine AL_g rfl rfl (AEv.tmp rfl) rfl (fun hg30 => S_not rfl (AEv.cond (AEv.tmp rfl) (by first | assumption | exact gdAnd (by assumption) (by assumption)))) ?_
        refine AL_p rfl rfl (S_and rfl (AEv.tmp rfl) (fun hp33 => (AEv.cond (AEv.tmp rfl) (by first | assumption | exact gdT hp33 | exact gdF hp33 | exact gdAnd (by assumption) (gdT hp33) | exact gdAnd (by assumption) (gdF hp33))))) ?_
        refine AL_p rfl rfl (S_move rfl (AEv.tmp rfl)) ?_
        refine AL_g rfl rfl (AEv.tmp rfl) rfl (fun hg34 => S_move rfl (AEv.tmp rfl)) ?_
        refine AL_g rfl rfl (AEv.tmp rfl) rfl (fun hg37 => S_move rfl (AEv.tmp rfl)) ?_
        refine AL_g rfl rfl (AEv.tmp rfl) rfl (fun hg40 => S_gcall rfl (AEvs.cons (AEv.cond (AEv.tmp rfl) (by first | assumption | exact gdAnd (by assumption) (by assumption))) (AEvs.cons (AEv.cond (AEv.tmp rfl) (by first | assumption | exact gdAnd (by assumption) (by assumption))) AEvs.nil)) ((text_Same_ok _ _ (by omega) (by omega)) _ (fun p hp => by first | exact hG p hp | (simp [hG p hp]; done)))) ?_
        refine AL_g rfl rfl (AEv.tmp rfl) rfl (fun hg43 => S_not rfl (AEv.cond (AEv.tmp rfl) (by first | assumption | exact gdAnd (by assumption) (by assumption)))) ?_
        refine AL_p rfl rfl (S_and rfl (AEv.tmp rfl) (fun hp46 => (AEv.cond (AEv.tmp rfl) (by first | assumption | exact gdT hp46 | exact gdF hp46 | exact gdAnd (by assumption) (gdT hp46) | exact gdAnd (by assumption) (gdF hp46))))) ?_
        refine AL_p rfl rfl (S_assign rfl (AEv.tmp rfl)) ?_
        refine AL_nil ?_
        refine AC_ret ?_
        refine ret_tmp st rfl rfl (Sub.l (List.Sublist.refl _)) (Conv.refl (Sub.l (List.Sublist.refl _)) _) ⟨by rw [h1, h2]; simp [sameV, hf], rfl⟩ (.inl rfl)
      · try simp only [Bool.and_eq_true, Bool.or_eq_true, Bool.not_eq_true', Bool.not_eq_false', Bool.and_eq_false_iff, Bool.or_eq_false_iff, decide_eq_true_eq, decide_eq_false_iff_not, gd] at hb13
        have hf : (tparts s).2.2 = true := (says_zero (c := 33) (by decide)).1 (by omega)
        obtain ⟨_, h1, h2⟩ : (tparts s).2.2 = true ∧ (tparts s).1 ++ [58] ++ (tparts s).2.1 = s ∧ repoV (tparts s).1 = true := by
          rcases tparts_cases s with h | h
          · rw [h.1] at hf; cases hf
          · exact h
        have hx := image_x h2
        have hc := sameV_comm s t
        refine AC_skip ?_
        refine AC_seq ?_
        refine AC_region ?_
        refine AL_p rfl rfl (S_move rfl (AEv.tmp rfl)) ?_
        refine AL_p rfl rfl (S_cat rfl (AEv.tmp rfl) (AEv.S _) (by first | omega | (simp only [List.length_append, List.length_cons, List.length_nil]; omega))) ?_
        refine AL_p rfl rfl (S_move rfl (AEv.tmp rfl)) ?_
        refine AL_p rfl rfl (S_cat rfl (AEv.tmp rfl) (AEv.tmp rfl) (by first | omega | (simp only [List.length_append, List.length_cons, List.length_nil]; omega))) ?_
        refine AL_p rfl rfl (S_move rfl (AEv.tmp rfl)) ?_
        refine AL_p rfl rfl (S_eqS rfl (AEv.tmp rfl) (AEv.tmp rfl)) ?_
        refine AL_p rfl rfl (S_move rfl (AEv.tmp rfl)) ?_
        refine AL_g rfl rfl (AEv.tmp rfl) rfl (fun hg47 => S_move rfl (AEv.tmp rfl)) ?_
        refine AL_g rfl rfl (AEv.tmp rfl) rfl (fun hg50 => S_move rfl (AEv.tmp rfl)) ?_
        refine AL_g rfl rfl (AEv.tmp rfl) rfl (fun hg53 => S_gcall rfl (AEvs.cons (AEv.cond (AEv.tmp rfl) (by first | assumption | exact gdAnd (by assumption) (by assumption))) (AEvs.cons (AEv.cond (AEv.tmp rfl) (by first | assumption | exact gdAnd (by assumption) (by assumption))) AEvs.nil)) ((text_Same_ok _ _ (by omega) (by omega)) _ (fun p hp => by first | exact hG p hp | (simp [hG p hp]; done)))) ?_
        refine AL_p rfl rfl (S_and rfl (AEv.tmp rfl) (fun hp56 => (AEv.cond (AEv.tmp rfl) (by first | assumption | exact gdT hp56 | exact gdF hp56 | exact gdAnd (by assumption) (gdT hp56) | exact gdAnd (by assumption) (gdF hp56))))) ?_
        refine AL_p rfl rfl (S_move rfl (AEv.tmp rfl)) ?_
        refine AL_g rfl rfl (AEv.tmp rfl) rfl (fun hg57 => S_move rfl (AEv.tmp rfl)) ?_
        refine AL_g rfl rfl (AEv.tmp rfl) rfl (fun hg60 => S_move rfl (AEv.tmp rfl)) ?_
        refine AL_g rfl rfl (AEv.tmp rfl) rfl (fun hg63 => S_cat rfl (AEv.cond (AEv.tmp rfl) (by first | assumption | exact gdAnd (by assumption) (by assumption))) (AEv.S _) (by first | omega | (simp only [List.length_append, List.length_cons, List.length_nil]; omega))) ?_
        refine AL_g rfl rfl (AEv.tmp rfl) rfl (fun hg66 => S_gcall rfl (AEvs.cons (AEv.cond (AEv.tmp rfl) (by first | assumption | exact gdAnd (by assumption) (by assumption))) (AEvs.cons (AEv.cond (AEv.tmp rfl) (by first | assumption | exact gdAnd (by assumption) (by assumption))) AEvs.nil)) (text_Same_ok s ((tparts s).1 ++ [58, 120]) (by omega) (by simp only [List.length_append, List.length_cons, List.length_nil]; omega) _ hG)) ?_
        refine AL_p rfl rfl (S_and rfl (AEv.tmp rfl) (fun hp69 => (AEv.cond (AEv.tmp rfl) (by first | assumption | exact gdT hp69 | exact gdF hp69 | exact gdAnd (by assumption) (gdT hp69) | exact gdAnd (by assumption) (gdF hp69))))) ?_
        refine AL_p rfl rfl (S_move rfl (AEv.tmp rfl)) ?_
        refine AL_g rfl rfl (AEv.tmp rfl) rfl (fun hg70 => S_move rfl (AEv.tmp rfl)) ?_
        refine AL_g rfl rfl (AEv.tmp rfl) rfl (fun hg73 => S_move rfl (AEv.tmp rfl)) ?_
        refine AL_g rfl rfl (AEv.tmp rfl) rfl (fun hg76 => S_gcall rfl (AEvs.cons (AEv.cond (AEv.tmp rfl) (by first | assumption | exact gdAnd (by assumption) (by assumption))) (AEvs.cons (AEv.cond (AEv.tmp rfl) (by first | assumption | exact gdAnd (by assumption) (by assumption))) AEvs.nil)) ((text_Same_ok _ _ (by omega) (by omega)) _ (fun p hp => by first | exact hG p hp | (simp [hG p hp]; done)))) ?_
        refine AL_g rfl rfl (AEv.tmp rfl) rfl (fun hg79 => S_move rfl (AEv.tmp rfl)) ?_
        refine AL_g rfl rfl (AEv.tmp rfl) rfl (fun hg82 => S_move rfl (AEv.tmp rfl)) ?_
        refine AL_g rfl rfl (AEv.tmp rfl) rfl (fun hg85 => S_gcall rfl (AEvs.cons (AEv.cond (AEv.tmp rfl) (by first | assumption | exact gdAnd (by assumption) (by assumption))) (AEvs.cons (AEv.cond (AEv.tmp rfl) (by first | assumption | exact gdAnd (by assumption) (by assumption))) AEvs.nil)) ((text_Same_ok _ _ (by omega) (by omega)) _ (fun p hp => by first | exact hG p hp | (simp [hG p hp]; done)))) ?_
        refine AL_g rfl rfl (AEv.tmp rfl) rfl (fun hg88 => S_eqB rfl (AEv.cond (AEv.tmp rfl) (by first | assumption | exact gdAnd (by assumption) (by assumption))) (AEv.cond (AEv.tmp rfl) (by first | assumption | exact gdAnd (by assumption) (by assumption))) (by kernel_rfl)) ?_
        refine AL_p rfl rfl (S_and rfl (AEv.tmp rfl) (fun hp91 => (AEv.cond (AEv.tmp rfl) (by first | assumption | exact gdT hp91 | exact gdF hp91 | exact gdAnd (by assumption) (gdT hp91) | exact gdAnd (by assumption) (gdF hp91))))) ?_
        refine AL_p rfl rfl (S_assign rfl (AEv.tmp rfl)) ?_
        refine AL_nil ?_
        refine AC_ret ?_
        refine ret_tmp st rfl rfl (Sub.l (List.Sublist.refl _)) (Conv.refl (Sub.l (List.Sublist.refl _)) _) ⟨by rw [h1, hc]; simp [sameV, hf, hx], rfl⟩ (.inl rfl)

set_option maxRecDepth 100000 in
/-- provost/provostlaw03.TextNames -/
theorem law_TextNames (s : List UInt8) (hs : s.length ≤ 9223372036854775807) (t : List UInt8) (ht : t.length ≤ 9223372036854775807) (at_ : Int) (hat : fits at_) : GCalls Tryd.prog tabs 4 [.S s, .S t, .int .i64 at_] (.bool true) := by
  intro st hG
  refine ACalls_of (N := 91) Tryd.func4 (by kernel_rfl) rfl rfl rfl ?_
  refine AC_seq ?_
  refine AC_region ?_
  refine AL_p rfl rfl (S_assign rfl (AEv.const _)) ?_
  refine AL_nil ?_
  refine AC_seq ?_
  refine AC_seq ?_
  refine AC_region ?_
  refine AL_p rfl rfl (S_gcall rfl AEvs.nil ((law_works) _ (fun p hp => by first | exact hG p hp | (simp [hG p hp]; done)))) ?_
  refine AL_p rfl rfl (S_not rfl (AEv.tmp rfl)) ?_
  refine AL_nil ?_
  refine AC_cond (AEv.tmp rfl) (fun hb1 => ?_) (fun hb1 => ?_)
  · simp at hb1; done
  · try simp only [Bool.and_eq_true, Bool.or_eq_true, Bool.not_eq_true', Bool.not_eq_false', Bool.and_eq_false_iff, Bool.or_eq_false_iff, decide_eq_true_eq, decide_eq_false_iff_not, gd] at hb1
    refine AC_skip ?_
    refine AC_seq ?_
    refine AC_seq ?_
    refine AC_region ?_
    refine AL_p rfl rfl (S_move rfl (AEv.tmp rfl)) ?_
    refine AL_p rfl rfl (S_gcall rfl (AEvs.cons (AEv.tmp rfl) AEvs.nil) ((text_Name_ok _) _ (fun p hp => by first | exact hG p hp | (simp [hG p hp]; done)))) ?_
    refine AL_p rfl rfl (S_neq rfl (AEv.tmp rfl) (AEv.const _)) ?_
    refine AL_p rfl rfl (S_move rfl (AEv.tmp rfl)) ?_
    refine AL_g rfl rfl (AEv.tmp rfl) rfl (fun hg2 => S_move rfl (AEv.tmp rfl)) ?_
    refine AL_g rfl rfl (AEv.tmp rfl) rfl (fun hg5 => S_gcall rfl (AEvs.cons (AEv.cond (AEv.tmp rfl) (by first | assumption | exact gdAnd (by assumption) (by assumption))) AEvs.nil) ((text_Name_ok _) _ (fun p hp => by first | exact hG p hp | (simp [hG p hp]; done)))) ?_
    refine AL_g rfl rfl (AEv.tmp rfl) rfl (fun hg8 => S_neq rfl (AEv.cond (AEv.tmp rfl) (by first | assumption | exact gdAnd (by assumption) (by assumption))) (AEv.const _)) ?_
    refine AL_p rfl rfl (S_or rfl (AEv.tmp rfl) (fun hp11 => (AEv.cond (AEv.tmp rfl) (by first | assumption | exact gdT hp11 | exact gdF hp11 | exact gdAnd (by assumption) (gdT hp11) | exact gdAnd (by assumption) (gdF hp11))))) ?_
    refine AL_nil ?_
    refine AC_cond (AEv.tmp rfl) (fun hb12 => ?_) (fun hb12 => ?_)
    · try simp only [Bool.and_eq_true, Bool.or_eq_true, Bool.not_eq_true', Bool.not_eq_false', Bool.and_eq_false_iff, Bool.or_eq_false_iff, decide_eq_true_eq, decide_eq_false_iff_not, gd] at hb12
      refine AC_seq ?_
      refine AC_region ?_
      refine AL_p rfl rfl (S_assign rfl (AEv.const _)) ?_
      refine AL_nil ?_
      refine AC_ret ?_
      refine ret_tmp st rfl rfl (Sub.l (List.Sublist.refl _)) (Conv.refl (Sub.l (List.Sublist.refl _)) _) ⟨rfl, rfl⟩ (.inl rfl)
    · try simp only [Bool.and_eq_true, Bool.or_eq_true, Bool.not_eq_true', Bool.not_eq_false', Bool.and_eq_false_iff, Bool.or_eq_false_iff, decide_eq_true_eq, decide_eq_false_iff_not, gd] at hb12
      have hns : nameV s = true := (says_zero (c := 30) (by decide)).1 (by omega)
      have hnt : nameV t = true := (says_zero (c := 30) (by decide)).1 (by omega)
      have hsl := nameV_len hns
      have htl := nameV_len hnt
      refine AC_skip ?_
      refine AC_seq ?_
      refine AC_seq ?_
      refine AC_region ?_
      refine AL_p rfl rfl (S_move rfl (AEv.tmp rfl)) ?_
      refine AL_p rfl rfl (S_gcall rfl (AEvs.cons (AEv.tmp rfl) AEvs.nil) ((text_Key_ok _ (by omega)) _ (fun p hp => by first | exact hG p hp | (simp [hG p hp]; done)))) ?_
      refine AL_p rfl rfl (S_neq rfl (AEv.tmp rfl) (AEv.const _)) ?_
      refine AL_p rfl rfl (S_move rfl (AEv.tmp rfl)) ?_
      refine AL_g rfl rfl (AEv.tmp rfl) rfl (fun hg13 => S_move rfl (AEv.tmp rfl)) ?_
      refine AL_g rfl rfl (AEv.tmp rfl) rfl (fun hg16 => S_gcall rfl (AEvs.cons (AEv.cond (AEv.tmp rfl) (by first | assumption | exact gdAnd (by assumption) (by assumption))) AEvs.nil) ((text_Val_ok _ (by omega)) _ (fun p hp => by first | exact hG p hp | (simp [hG p hp]; done)))) ?_
      refine AL_g rfl rfl (AEv.tmp rfl) rfl (fun hg19 => S_neq rfl (AEv.cond (AEv.tmp rfl) (by first | assumption | exact gdAnd (by assumption) (by assumption))) (AEv.const _)) ?_
      refine AL_p rfl rfl (S_or rfl (AEv.tmp rfl) (fun hp22 => (AEv.cond (AEv.tmp rfl) (by first | assumption | exact gdT hp22 | exact gdF hp22 | exact gdAnd (by assumption) (gdT hp22) | exact gdAnd (by assumption) (gdF hp22))))) ?_
      refine AL_p rfl rfl (S_move rfl (AEv.tmp rfl)) ?_
      refine AL_g rfl rfl (AEv.tmp rfl) rfl (fun hg23 => S_move rfl (AEv.tmp rfl)) ?_
      refine AL_g rfl rfl (AEv.tmp rfl) rfl (fun hg26 => S_cat rfl (AEv.cond (AEv.tmp rfl) (by first | assumption | exact gdAnd (by assumption) (by assumption))) (AEv.S _) (by first | omega | (simp only [List.length_append, List.length_cons, List.length_nil]; omega))) ?_
      refine AL_g rfl rfl (AEv.tmp rfl) rfl (fun hg29 => S_gcall rfl (AEvs.cons (AEv.cond (AEv.tmp rfl) (by first | assumption | exact gdAnd (by assumption) (by assumption))) AEvs.nil) ((text_Image_ok (s ++ [58, 49]) (by simp only [List.length_append, List.length_cons, List.length_nil]; omega)) _ (fun p hp => by first | exact hG p hp | (simp [hG p hp]; done)))) ?_
      refine AL_g rfl rfl (AEv.tmp rfl) rfl (fun hg32 => S_neq rfl (AEv.cond (AEv.tmp rfl) (by first | assumption | exact gdAnd (by assumption) (by assumption))) (AEv.const _)) ?_
      refine AL_p rfl rfl (S_or rfl (AEv.tmp rfl) (fun hp35 => (AEv.cond (AEv.tmp rfl) (by first | assumption | exact gdT hp35 | exact gdF hp35 | exact gdAnd (by assumption) (gdT hp35) | exact gdAnd (by assumption) (gdF hp35))))) ?_
      refine AL_p rfl rfl (S_move rfl (AEv.tmp rfl)) ?_
      refine AL_g rfl rfl (AEv.tmp rfl) rfl (fun hg36 => S_move rfl (AEv.tmp rfl)) ?_
      refine AL_g rfl rfl (AEv.tmp rfl) rfl (fun hg39 => S_cat rfl (AEv.cond (AEv.tmp rfl) (by first | assumption | exact gdAnd (by assumption) (by assumption))) (AEv.S _) (by first | omega | (simp only [List.length_append, List.length_cons, List.length_nil]; omega))) ?_
      refine AL_g rfl rfl (AEv.tmp rfl) rfl (fun hg42 => S_move rfl (AEv.tmp rfl)) ?_
      refine AL_g rfl rfl (AEv.tmp rfl) rfl (fun hg45 => S_cat rfl (AEv.cond (AEv.tmp rfl) (by first | assumption | exact gdAnd (by assumption) (by assumption))) (AEv.cond (AEv.tmp rfl) (by first | assumption | exact gdAnd (by assumption) (by assumption))) (by first | omega | (simp only [List.length_append, List.length_cons, List.length_nil]; omega))) ?_
      refine AL_g rfl rfl (AEv.tmp rfl) rfl (fun hg48 => S_gcall rfl (AEvs.cons (AEv.cond (AEv.tmp rfl) (by first | assumption | exact gdAnd (by assumption) (by assumption))) AEvs.nil) ((text_Key_ok (s ++ [47] ++ t) (by simp only [List.length_append, List.length_cons, List.length_nil]; omega)) _ (fun p hp => by first | exact hG p hp | (simp [hG p hp]; done)))) ?_
      refine AL_g rfl rfl (AEv.tmp rfl) rfl (fun hg51 => S_neq rfl (AEv.cond (AEv.tmp rfl) (by first | assumption | exact gdAnd (by assumption) (by assumption))) (AEv.const _)) ?_
      refine AL_p rfl rfl (S_or rfl (AEv.tmp rfl) (fun hp54 => (AEv.cond (AEv.tmp rfl) (by first | assumption | exact gdT hp54 | exact gdF hp54 | exact gdAnd (by assumption) (gdT hp54) | exact gdAnd (by assumption) (gdF hp54))))) ?_
      refine AL_p rfl rfl (S_move rfl (AEv.tmp rfl)) ?_
      refine AL_g rfl rfl (AEv.tmp rfl) rfl (fun hg55 => S_move rfl (AEv.tmp rfl)) ?_
      refine AL_g rfl rfl (AEv.tmp rfl) rfl (fun hg58 => S_cat rfl (AEv.cond (AEv.tmp rfl) (by first | assumption | exact gdAnd (by assumption) (by assumption))) (AEv.S _) (by first | omega | (simp only [List.length_append, List.length_cons, List.length_nil]; omega))) ?_
      refine AL_g rfl rfl (AEv.tmp rfl) rfl (fun hg61 => S_move rfl (AEv.tmp rfl)) ?_
      refine AL_g rfl rfl (AEv.tmp rfl) rfl (fun hg64 => S_cat rfl (AEv.cond (AEv.tmp rfl) (by first | assumption | exact gdAnd (by assumption) (by assumption))) (AEv.cond (AEv.tmp rfl) (by first | assumption | exact gdAnd (by assumption) (by assumption))) (by first | omega | (simp only [List.length_append, List.length_cons, List.length_nil]; omega))) ?_
      refine AL_g rfl rfl (AEv.tmp rfl) rfl (fun hg67 => S_cat rfl (AEv.cond (AEv.tmp rfl) (by first | assumption | exact gdAnd (by assumption) (by assumption))) (AEv.S _) (by first | omega | (simp only [List.length_append, List.length_cons, List.length_nil]; omega))) ?_
      refine AL_g rfl rfl (AEv.tmp rfl) rfl (fun hg70 => S_move rfl (AEv.tmp rfl)) ?_
      refine AL_g rfl rfl (AEv.tmp rfl) rfl (fun hg73 => S_cat rfl (AEv.cond (AEv.tmp rfl) (by first | assumption | exact gdAnd (by assumption) (by assumption))) (AEv.cond (AEv.tmp rfl) (by first | assumption | exact gdAnd (by assumption) (by assumption))) (by first | omega | (simp only [List.length_append, List.length_cons, List.length_nil]; omega))) ?_
      refine AL_g rfl rfl (AEv.tmp rfl) rfl (fun hg76 => S_gcall rfl (AEvs.cons (AEv.cond (AEv.tmp rfl) (by first | assumption | exact gdAnd (by assumption) (by assumption))) AEvs.nil) ((text_Key_ok (s ++ [47] ++ t ++ [47] ++ s) (by simp only [List.length_append, List.length_cons, List.length_nil]; omega)) _ (fun p hp => by first | exact hG p hp | (simp [hG p hp]; done)))) ?_
      refine AL_g rfl rfl (AEv.tmp rfl) rfl (fun hg79 => S_neq rfl (AEv.cond (AEv.tmp rfl) (by first | assumption | exact gdAnd (by assumption) (by assumption))) (AEv.const _)) ?_
      refine AL_p rfl rfl (S_or rfl (AEv.tmp rfl) (fun hp82 => (AEv.cond (AEv.tmp rfl) (by first | assumption | exact gdT hp82 | exact gdF hp82 | exact gdAnd (by assumption) (gdT hp82) | exact gdAnd (by assumption) (gdF hp82))))) ?_
      refine AL_p rfl rfl (S_move rfl (AEv.tmp rfl)) ?_
      refine AL_g rfl rfl (AEv.tmp rfl) rfl (fun hg83 => S_move rfl (AEv.tmp rfl)) ?_
      refine AL_g rfl rfl (AEv.tmp rfl) rfl (fun hg86 => S_cat rfl (AEv.cond (AEv.tmp rfl) (by first | assumption | exact gdAnd (by assumption) (by assumption))) (AEv.S _) (by first | omega | (simp only [List.length_append, List.length_cons, List.length_nil]; omega))) ?_
      refine AL_g rfl rfl (AEv.tmp rfl) rfl (fun hg89 => S_move rfl (AEv.tmp rfl)) ?_
      refine AL_g rfl rfl (AEv.tmp rfl) rfl (fun hg92 => S_cat rfl (AEv.cond (AEv.tmp rfl) (by first | assumption | exact gdAnd (by assumption) (by assumption))) (AEv.cond (AEv.tmp rfl) (by first | assumption | exact gdAnd (by assumption) (by assumption))) (by first | omega | (simp only [List.length_append, List.length_cons, List.length_nil]; omega))) ?_
      refine AL_g rfl rfl (AEv.tmp rfl) rfl (fun hg95 => S_gcall rfl (AEvs.cons (AEv.cond (AEv.tmp rfl) (by first | assumption | exact gdAnd (by assumption) (by assumption))) AEvs.nil) ((text_Name_ok _) _ (fun p hp => by first | exact hG p hp | (simp [hG p hp]; done)))) ?_
      refine AL_g rfl rfl (AEv.tmp rfl) rfl (fun hg98 => S_neq rfl (AEv.cond (AEv.tmp rfl) (by first | assumption | exact gdAnd (by assumption) (by assumption))) (AEv.const _)) ?_
      refine AL_p rfl rfl (S_or rfl (AEv.tmp rfl) (fun hp101 => (AEv.cond (AEv.tmp rfl) (by first | assumption | exact gdT hp101 | exact gdF hp101 | exact gdAnd (by assumption) (gdT hp101) | exact gdAnd (by assumption) (gdF hp101))))) ?_
      refine AL_nil ?_
      refine AC_cond (AEv.tmp rfl) (fun hb102 => ?_) (fun hb102 => ?_)
      · exfalso; rw [key_name hns, val_name hns, image_name hns, key_two hns hnt, key_three hns hnt, name_two s t] at hb102; simp [saysV] at hb102
      · try simp only [Bool.and_eq_true, Bool.or_eq_true, Bool.not_eq_true', Bool.not_eq_false', Bool.and_eq_false_iff, Bool.or_eq_false_iff, decide_eq_true_eq, decide_eq_false_iff_not, gd] at hb102
        refine AC_skip ?_
        refine AC_seq ?_
        refine AC_seq ?_
        refine AC_region ?_
        refine AL_p rfl rfl (S_move rfl (AEv.tmp rfl)) ?_
        refine AL_p rfl rfl (S_lss rfl (AEv.tmp rfl) (AEv.const _)) ?_
        refine AL_p rfl rfl (S_move rfl (AEv.tmp rfl)) ?_
        refine AL_g rfl rfl (AEv.tmp rfl) rfl (fun hg103 => S_move rfl (AEv.tmp rfl)) ?_
        refine AL_g rfl rfl (AEv.tmp rfl) rfl (fun hg106 => S_move rfl (AEv.tmp rfl)) ?_
        refine AL_g rfl rfl (AEv.tmp rfl) rfl (fun hg109 => S_lenS (ts := #[]) rfl (AEv.cond (AEv.tmp rfl) (by first | assumption | exact gdAnd (by assumption) (by assumption))) (by kernel_rfl)) ?_
        refine AL_g rfl rfl (AEv.tmp rfl) rfl (fun hg112 => S_geq rfl (AEv.cond (AEv.tmp rfl) (by first | assumption | exact gdAnd (by assumption) (by assumption))) (AEv.cond (AEv.tmp rfl) (by first | assumption | exact gdAnd (by assumption) (by assumption)))) ?_
        refine AL_p rfl rfl (S_or rfl (AEv.tmp rfl) (fun hp115 => (AEv.cond (AEv.tmp rfl) (by first | assumption | exact gdT hp115 | exact gdF hp115 | exact gdAnd (by assumption) (gdT hp115) | exact gdAnd (by assumption) (gdF hp115))))) ?_
        refine AL_p rfl rfl (S_move rfl (AEv.tmp rfl)) ?_
        refine AL_g rfl rfl (AEv.tmp rfl) rfl (fun hg116 => S_move rfl (AEv.tmp rfl)) ?_
        refine AL_g rfl rfl (AEv.tmp rfl) rfl (fun hg119 => S_move rfl (AEv.tmp rfl)) ?_
        refine AL_g rfl rfl (AEv.tmp rfl) rfl (fun hg122 => S_subI rfl (AEv.cond (AEv.tmp rfl) (by first | assumption | exact gdAnd (by assumption) (by assumption))) (AEv.const _) (by (try simp only [gd, Bool.and_eq_true, Bool.or_eq_true, Bool.not_eq_true', Bool.not_eq_false', decide_eq_true_eq, decide_eq_false_iff_not, Bool.or_eq_false_iff, Bool.and_eq_false_iff] at *); omega) (by (try simp only [gd, Bool.and_eq_true, Bool.or_eq_true, Bool.not_eq_true', Bool.not_eq_false', decide_eq_true_eq, decide_eq_false_iff_not, Bool.or_eq_false_iff, Bool.and_eq_false_iff] at *); omega)) ?_
        refine AL_g rfl rfl (AEv.tmp rfl) rfl (fun hg125 => S_index rfl (AEv.cond (AEv.tmp rfl) (by first | assumption | exact gdAnd (by assumption) (by assumption))) (AEv.cond (AEv.tmp rfl) (by first | assumption | exact gdAnd (by assumption) (by assumption))) (by kernel_rfl) (by (try simp only [gd, Bool.and_eq_true, Bool.or_eq_true, Bool.not_eq_true', Bool.not_eq_false', decide_eq_true_eq, decide_eq_false_iff_not, Bool.or_eq_false_iff, Bool.and_eq_false_iff] at *); omega) (by (try simp only [gd, Bool.and_eq_true, Bool.or_eq_true, Bool.not_eq_true', Bool.not_eq_false', decide_eq_true_eq, decide_eq_false_iff_not, Bool.or_eq_false_iff, Bool.and_eq_false_iff] at *); omega)) ?_
        refine AL_g rfl rfl (AEv.tmp rfl) rfl (fun hg128 => S_eql rfl (AEv.cond (AEv.tmp rfl) (by first | assumption | exact gdAnd (by assumption) (by assumption))) (AEv.const _)) ?_
        refine AL_p rfl rfl (S_or rfl (AEv.tmp rfl) (fun hp131 => (AEv.cond (AEv.tmp rfl) (by first | assumption | exact gdT hp131 | exact gdF hp131 | exact gdAnd (by assumption) (gdT hp131) | exact gdAnd (by assumption) (gdF hp131))))) ?_
        refine AL_p rfl rfl (S_move rfl (AEv.tmp rfl)) ?_
        refine AL_g rfl rfl (AEv.tmp rfl) rfl (fun hg132 => S_move rfl (AEv.tmp rfl)) ?_
        refine AL_g rfl rfl (AEv.tmp rfl) rfl (fun hg135 => S_move rfl (AEv.tmp rfl)) ?_
        refine AL_g rfl rfl (AEv.tmp rfl) rfl (fun hg138 => S_index rfl (AEv.cond (AEv.tmp rfl) (by first | assumption | exact gdAnd (by assumption) (by assumption))) (AEv.cond (AEv.tmp rfl) (by first | assumption | exact gdAnd (by assumption) (by assumption))) (by kernel_rfl) (by (try simp only [gd, Bool.and_eq_true, Bool.or_eq_true, Bool.not_eq_true', Bool.not_eq_false', decide_eq_true_eq, decide_eq_false_iff_not, Bool.or_eq_false_iff, Bool.and_eq_false_iff] at *); omega) (by (try simp only [gd, Bool.and_eq_true, Bool.or_eq_true, Bool.not_eq_true', Bool.not_eq_false', decide_eq_true_eq, decide_eq_false_iff_not, Bool.or_eq_false_iff, Bool.and_eq_false_iff] at *); omega)) ?_
        refine AL_g rfl rfl (AEv.tmp rfl) rfl (fun hg141 => S_eql rfl (AEv.cond (AEv.tmp rfl) (by first | assumption | exact gdAnd (by assumption) (by assumption))) (AEv.const _)) ?_
        refine AL_p rfl rfl (S_or rfl (AEv.tmp rfl) (fun hp144 => (AEv.cond (AEv.tmp rfl) (by first | assumption | exact gdT hp144 | exact gdF hp144 | exact gdAnd (by assumption) (gdT hp144) | exact gdAnd (by assumption) (gdF hp144))))) ?_
        refine AL_nil ?_
        refine AC_cond (AEv.tmp rfl) (fun hb145 => ?_) (fun hb145 => ?_)
        · try simp only [Bool.and_eq_true, Bool.or_eq_true, Bool.not_eq_true', Bool.not_eq_false', Bool.and_eq_false_iff, Bool.or_eq_false_iff, decide_eq_true_eq, decide_eq_false_iff_not, gd] at hb145
          refine AC_seq ?_
          refine AC_region ?_
          refine AL_p rfl rfl (S_assign rfl (AEv.const _)) ?_
          refine AL_nil ?_
          refine AC_ret ?_
          refine ret_tmp st rfl rfl (Sub.l (List.Sublist.refl _)) (Conv.refl (Sub.l (List.Sublist.refl _)) _) ⟨rfl, rfl⟩ (.inl rfl)
        · try simp only [Bool.and_eq_true, Bool.or_eq_true, Bool.not_eq_true', Bool.not_eq_false', Bool.and_eq_false_iff, Bool.or_eq_false_iff, decide_eq_true_eq, decide_eq_false_iff_not, gd] at hb145
          obtain ⟨n, rfl⟩ : ∃ n : Nat, at_ = (n : Int) := ⟨at_.toNat, by omega⟩
          have h1 := name_take (i := n) hns (by omega) (by omega) (by omega)
          have h2 := name_drop (i := n) hns (by omega) (by omega) (by omega)
          refine AC_skip ?_
          refine AC_seq ?_
          refine AC_region ?_
          refine AL_p rfl rfl (S_move rfl (AEv.tmp rfl)) ?_
          refine AL_p rfl rfl (S_move rfl (AEv.tmp rfl)) ?_
          refine AL_p rfl rfl (S_sliceH rfl (AEv.tmp rfl) (AEv.tmp rfl) (by kernel_rfl) (by omega) (by omega)) ?_
          refine AL_p rfl rfl (S_gcall rfl (AEvs.cons (AEv.tmp rfl) AEvs.nil) ((text_Name_ok _) _ (fun p hp => by first | exact hG p hp | (simp [hG p hp]; done)))) ?_
          refine AL_p rfl rfl (S_eql rfl (AEv.tmp rfl) (AEv.const _)) ?_
          refine AL_p rfl rfl (S_move rfl (AEv.tmp rfl)) ?_
          refine AL_g rfl rfl (AEv.tmp rfl) rfl (fun hg146 => S_move rfl (AEv.tmp rfl)) ?_
          refine AL_g rfl rfl (AEv.tmp rfl) rfl (fun hg149 => S_move rfl (AEv.tmp rfl)) ?_
          refine AL_g rfl rfl (AEv.tmp rfl) rfl (fun hg152 => S_sliceL rfl (AEv.cond (AEv.tmp rfl) (by first | assumption | exact gdAnd (by assumption) (by assumption))) (AEv.cond (AEv.tmp rfl) (by first | assumption | exact gdAnd (by assumption) (by assumption))) (by kernel_rfl) (by (try simp only [gd, Bool.and_eq_true, Bool.or_eq_true, Bool.not_eq_true', Bool.not_eq_false', decide_eq_true_eq, decide_eq_false_iff_not, Bool.or_eq_false_iff, Bool.and_eq_false_iff] at *); omega) (by (try simp only [gd, Bool.and_eq_true, Bool.or_eq_true, Bool.not_eq_true', Bool.not_eq_false', decide_eq_true_eq, decide_eq_false_iff_not, Bool.or_eq_false_iff, Bool.and_eq_false_iff] at *); omega)) ?_
          refine AL_g rfl rfl (AEv.tmp rfl) rfl (fun hg155 => S_gcall rfl (AEvs.cons (AEv.cond (AEv.tmp rfl) (by first | assumption | exact gdAnd (by assumption) (by assumption))) AEvs.nil) ((text_Name_ok _) _ (fun p hp => by first | exact hG p hp | (simp [hG p hp]; done)))) ?_
          refine AL_g rfl rfl (AEv.tmp rfl) rfl (fun hg158 => S_eql rfl (AEv.cond (AEv.tmp rfl) (by first | assumption | exact gdAnd (by assumption) (by assumption))) (AEv.const _)) ?_
          refine AL_p rfl rfl (S_and rfl (AEv.tmp rfl) (fun hp161 => (AEv.cond (AEv.tmp rfl) (by first | assumption | exact gdT hp161 | exact gdF hp161 | exact gdAnd (by assumption) (gdT hp161) | exact gdAnd (by assumption) (gdF hp161))))) ?_
          refine AL_p rfl rfl (S_assign rfl (AEv.tmp rfl)) ?_
          refine AL_nil ?_
          refine AC_ret ?_
          refine ret_tmp st rfl rfl (Sub.l (List.Sublist.refl _)) (Conv.refl (Sub.l (List.Sublist.refl _)) _) ⟨by simp only [Int.toNat_natCast, h1, h2]; rfl, rfl⟩ (.inl rfl)

end Go.Proofs.YthcpcbkipmocmaaDoor
