/-
The walks of Go functions in the logic AL: what each of them answers.
Conditions: those of each theorem.
-/
import Derived.Test.YtemlgeljgnmfeaaDoorFail02c
import Derived.Test.YtemlgeljgnmfeaaDoorShelf02
import Derived.Test.YtemlgeljgnmfeaaDoorAlLib
set_option linter.unusedVariables false
set_option linter.unusedSimpArgs false
namespace Go.Proofs.YtemlgeljgnmfeaaDoor
open Go.AL Go.NumSpec

theorem join_ok (ls : List (List UInt8)) (sep : List UInt8) (hN : ls.length ≤ 140737488355328) (hlen : (Lib.join ls sep).length ≤ 140737488355328) : PCalls Tryd.prog 21 [.sl (ls.map fun l => .S l), .S sep] (.S (Lib.join ls sep)) :=
  PCalls_join ⟨Tryd.f21, _, Tryd.func21, by kernel_rfl, rfl⟩ Tryd.strings_Join_none Tryd.strings_Join ls sep hN hlen

set_option maxRecDepth 100000 in
/-- provost/fail.Text -/
theorem fail_Text_ok (e : Er) (he : (erPath e).length ≤ 1000000) (hj : (Lib.join (erPath e) [46]).length ≤ 140737488355328) : GCalls Tryd.prog tabs 16 [erV 27 49 e] (.S (Lib.join (erPath e) [46])) := by
  intro st hG
  refine ACalls_of (N := 6) Tryd.func16 (by kernel_rfl) rfl rfl rfl ?_
  refine AC_seq ?_
  refine AC_region ?_
  refine AL_p rfl rfl (S_assign rfl (AEv.S _)) ?_
  refine AL_nil ?_
  refine AC_seq ?_
  refine AC_region ?_
  refine AL_p rfl rfl (S_move rfl (AEv.tmp rfl)) ?_
  refine AL_p rfl rfl (S_gcall rfl (AEvs.cons (AEv.tmp rfl) AEvs.nil) ((fail_Path_ok e he) _ (fun p hp => by first | exact hG p hp | (simp [hG p hp]; done)))) ?_
  refine AL_p rfl rfl (S_pcall rfl (AEvs.cons (AEv.tmp rfl) (AEvs.cons (AEv.S _) AEvs.nil)) (join_ok (erPath e) [46] (by omega) hj)) ?_
  refine AL_p rfl rfl (S_assign rfl (AEv.tmp rfl)) ?_
  refine AL_nil ?_
  refine AC_ret ?_
  refine ret_tmp st rfl rfl (Sub.l (List.Sublist.refl _)) (Conv.refl (Sub.l (List.Sublist.refl _)) _) ⟨by first | rfl | (simp; done), rfl⟩ (.inl rfl)

set_option maxRecDepth 100000 in
/-- provost/provostbook.SameTexts -/
theorem book_SameTexts_ok (a b : List (List UInt8)) (ha : a.length ≤ 9223372036854775807) (hb : b.length ≤ 9223372036854775807) : PCalls Tryd.prog 12 [.sl (strsV a), .sl (strsV b)] (.bool (decide (a = b))) := by
  intro st
  refine ACalls_of (N := 37) Tryd.func12 (by kernel_rfl) rfl rfl rfl ?_
  have hal := strsV_len a
  have hbl := strsV_len b
  refine AC_seq ?_
  refine AC_region ?_
  refine AL_p rfl rfl (S_assign rfl (AEv.const _)) ?_
  refine AL_nil ?_
  refine AC_seq ?_
  refine AC_region ?_
  refine AL_p rfl rfl (S_move rfl (AEv.tmp rfl)) ?_
  refine AL_p rfl rfl (S_len (e := 9) rfl (AEv.tmp rfl) (by kernel_rfl)) ?_
  refine AL_p rfl rfl (S_move rfl (AEv.tmp rfl)) ?_
  refine AL_p rfl rfl (S_len (e := 9) rfl (AEv.tmp rfl) (by kernel_rfl)) ?_
  refine AL_p rfl rfl (S_eql rfl (AEv.tmp rfl) (AEv.tmp rfl)) ?_
  refine AL_p rfl rfl (S_assign rfl (AEv.tmp rfl)) ?_
  refine AL_nil ?_
  refine AC_seq ?_
  refine AC_seq ?_
  refine AC_region ?_
  refine AL_p rfl rfl (S_assign rfl (AEv.const _)) ?_
  refine AL_nil ?_
  refine AC_block ?_
  refine AC_loop (G := Nat) (fun i => i ≤ a.length) (fun i => [(0, .sl (strsV a)), (1, .sl (strsV b)), (5, .bool (sameF a b i)), (6, .int .i64 (i : Int))]) (fun i => st) (fun i => a.length - i) (0) (Nat.zero_le _) rfl ?_ ?_
  · exact .cons rfl (Le.refl _) (.cons rfl (Le.refl _) (.cons rfl (Le.of_eq (by simp [sameF, hal, hbl]; omega)) (.cons rfl (Le.refl _) .nil)))
  · rintro i hi
    try dsimp only
    refine AC_seq ?_
    refine AC_seq ?_
    refine AC_region ?_
    refine AL_p rfl rfl (S_move rfl (AEv.tmp rfl)) ?_
    refine AL_p rfl rfl (S_move rfl (AEv.tmp rfl)) ?_
    refine AL_g rfl rfl (AEv.tmp rfl) rfl (fun hg1 => S_move rfl (AEv.tmp rfl)) ?_
    refine AL_g rfl rfl (AEv.tmp rfl) rfl (fun hg4 => S_move rfl (AEv.tmp rfl)) ?_
    refine AL_g rfl rfl (AEv.tmp rfl) rfl (fun hg7 => S_len (e := 9) rfl (AEv.cond (AEv.tmp rfl) (by first | assumption | exact gdAnd (by assumption) (by assumption))) (by kernel_rfl)) ?_
    refine AL_g rfl rfl (AEv.tmp rfl) rfl (fun hg10 => S_lss rfl (AEv.cond (AEv.tmp rfl) (by first | assumption | exact gdAnd (by assumption) (by assumption))) (AEv.cond (AEv.tmp rfl) (by first | assumption | exact gdAnd (by assumption) (by assumption)))) ?_
    refine AL_p rfl rfl (S_and rfl (AEv.tmp rfl) (fun hp13 => (AEv.cond (AEv.tmp rfl) (by first | assumption | exact gdT hp13 | exact gdF hp13 | exact gdAnd (by assumption) (gdT hp13) | exact gdAnd (by assumption) (gdF hp13))))) ?_
    refine AL_p rfl rfl (S_move rfl (AEv.tmp rfl)) ?_
    refine AL_g rfl rfl (AEv.tmp rfl) rfl (fun hg14 => S_move rfl (AEv.tmp rfl)) ?_
    refine AL_g rfl rfl (AEv.tmp rfl) rfl (fun hg17 => S_move rfl (AEv.tmp rfl)) ?_
    refine AL_g rfl rfl (AEv.tmp rfl) rfl (fun hg20 => S_len (e := 9) rfl (AEv.cond (AEv.tmp rfl) (by first | assumption | exact gdAnd (by assumption) (by assumption))) (by kernel_rfl)) ?_
    refine AL_g rfl rfl (AEv.tmp rfl) rfl (fun hg23 => S_lss rfl (AEv.cond (AEv.tmp rfl) (by first | assumption | exact gdAnd (by assumption) (by assumption))) (AEv.cond (AEv.tmp rfl) (by first | assumption | exact gdAnd (by assumption) (by assumption)))) ?_
    refine AL_p rfl rfl (S_and rfl (AEv.tmp rfl) (fun hp26 => (AEv.cond (AEv.tmp rfl) (by first | assumption | exact gdT hp26 | exact gdF hp26 | exact gdAnd (by assumption) (gdT hp26) | exact gdAnd (by assumption) (gdF hp26))))) ?_
    refine AL_nil ?_
    refine AC_cond (AEv.tmp rfl) (fun hb27 => ?_) (fun hb27 => ?_)
    · try simp only [Bool.and_eq_true, Bool.or_eq_true, Bool.not_eq_true', Bool.not_eq_false', Bool.and_eq_false_iff, Bool.or_eq_false_iff, decide_eq_true_eq, decide_eq_false_iff_not, gd] at hb27
      have hs : sameF a b i = true := hb27.1.1
      have hia : i < a.length := by have := hb27.1.2; omega
      have hib : i < b.length := by have := hb27.2; omega
      refine AC_skip ?_
      refine AC_seq ?_
      refine AC_block ?_
      refine AC_draw (by kernel_rfl) (by kernel_rfl) (.cons rfl (Q_p rfl (S_move rfl (AEv.tmp rfl))) <|
          .cons rfl (Q_p rfl (S_move rfl (AEv.tmp rfl))) <|
          .cons rfl (Q_p rfl (S_elem (e := 9) (c := .S (a[i]'hia)) (i := (i : Int)) 1 rfl (AEv.tmp rfl) (AEv.tmp rfl) (by kernel_rfl) (by kernel_rfl) (by omega) (by simp [strsV, hia]) rfl)) <|
          .cons rfl (Q_p rfl (S_loadP rfl (AEv.tmp rfl) rfl (by kernel_rfl))) <|
          .cons rfl (Q_p rfl (S_move rfl (AEv.tmp rfl))) <|
          .cons rfl (Q_p rfl (S_move rfl (AEv.tmp rfl))) <|
          .cons rfl (Q_p rfl (S_elem (e := 9) (c := .S (b[i]'hib)) (i := (i : Int)) 1 rfl (AEv.tmp rfl) (AEv.tmp rfl) (by kernel_rfl) (by kernel_rfl) (by omega) (by simp [strsV, hib]) rfl)) <|
          .cons rfl (Q_p rfl (S_loadP rfl (AEv.tmp rfl) rfl (by kernel_rfl))) <|
          .cons rfl (Q_p rfl ((S_eqS rfl (AEv.tmp rfl) (AEv.tmp rfl)).ofV (V' := .bool (decide (a[i]'hia = b[i]'hib))) (by first | rfl | (congr 2; done) | (by_cases h : a[i]'hia = b[i]'hib <;> simp [h])))) <|
          .cons rfl (Q_p rfl (S_assign rfl (AEv.tmp rfl))) <|
          .nil) ?_
      refine AC_region ?_
      refine AL_p rfl rfl (S_move rfl (AEv.tmp rfl)) ?_
      refine AL_p rfl rfl (S_addI rfl (AEv.tmp rfl) (AEv.const _) (by omega) (by omega)) ?_
      refine AL_p rfl rfl (S_assign rfl (AEv.tmp rfl)) ?_
      refine AL_nil ?_
      refine ⟨i + 1, by omega, by omega, rfl, .cons rfl (Le.refl _) (.cons rfl (Le.refl _) (.cons rfl (Le.of_eq (by rw [← sameF_next hs hia hib])) (.cons rfl (Le.of_eq (by rw [Int.natCast_add]; rfl)) .nil)))⟩
    · try simp only [Bool.and_eq_true, Bool.or_eq_true, Bool.not_eq_true', Bool.not_eq_false', Bool.and_eq_false_iff, Bool.or_eq_false_iff, decide_eq_true_eq, decide_eq_false_iff_not, gd] at hb27
      have hend := sameF_end (a := a) (b := b) (i := i) (by
        rcases hb27 with (h | h) | h
        · exact .inl h
        · exact .inr (.inl (by omega))
        · exact .inr (.inr (by omega)))
      refine AC_exit ?_
      refine AC_seq ?_
      refine AC_region ?_
      refine AL_p rfl rfl (S_move rfl (AEv.tmp rfl)) ?_
      refine AL_p rfl rfl (S_assign rfl (AEv.tmp rfl)) ?_
      refine AL_nil ?_
      refine AC_ret ?_
      refine ret_tmp st rfl rfl (Sub.l (List.Sublist.refl _)) (Conv.refl (Sub.l (List.Sublist.refl _)) _) ⟨by rw [hend], rfl⟩ (.inl rfl)

set_option maxRecDepth 100000 in
/-- provost/provostlaw02.works -/
theorem law_works : GCalls Tryd.prog tabs 10 [] (.bool true) := by
  intro st hG
  refine ACalls_of (N := 26) Tryd.func10 (by kernel_rfl) rfl rfl rfl ?_
  refine AC_seq ?_
  refine AC_region ?_
  refine AL_p rfl rfl (S_assign rfl (AEv.const _)) ?_
  refine AL_nil ?_
  refine AC_seq ?_
  refine AC_region ?_
  refine AL_p rfl rfl (S_buildSlice (e := 9) 1 rfl (AEvs.cons (AEv.S _) (AEvs.cons (AEv.S _) AEvs.nil)) rfl (by kernel_rfl) (by kernel_rfl) (by simp [AV.flat, AV.one, AV.cells, Value.oneCell']) (by decide) (by decide) (by decide)) ?_
  refine AL_p rfl rfl (S_pcall rfl (AEvs.cons (AEv.const _) (AEvs.cons (AEv.tmp rfl) AEvs.nil)) (fail_New_ok 30 [[115, 112, 101, 99], [109, 97, 105, 110]] (by decide))) ?_
  refine AL_p rfl rfl (S_assign rfl (AEv.tmp rfl)) ?_
  refine AL_nil ?_
  refine AC_seq ?_
  refine AC_region ?_
  refine AL_p rfl rfl (S_move rfl (AEv.tmp rfl)) ?_
  refine AL_p rfl rfl (S_gcall rfl (AEvs.cons (AEv.tmp rfl) AEvs.nil) ((fail_Text_ok (erNew 30 [[115, 112, 101, 99], [109, 97, 105, 110]]) (by decide) (by decide)) _ (fun p hp => by first | exact hG p hp | (simp [hG p hp]; done)))) ?_
  refine AL_p rfl rfl (S_eqS rfl (AEv.tmp rfl) (AEv.S _)) ?_
  refine AL_p rfl rfl (S_move rfl (AEv.tmp rfl)) ?_
  refine AL_g rfl rfl (AEv.tmp rfl) rfl (fun hg1 => S_move rfl (AEv.tmp rfl)) ?_
  refine AL_g rfl rfl (AEv.tmp rfl) rfl (fun hg4 => S_pcall rfl (AEvs.cons (AEv.cond (AEv.tmp rfl) (by first | assumption | exact gdAnd (by assumption) (by assumption))) (AEvs.cons (AEv.S _) AEvs.nil)) (fail_In_ok (erNew 30 [[115, 112, 101, 99], [109, 97, 105, 110]]) [114, 117, 110])) ?_
  refine AL_g rfl rfl (AEv.tmp rfl) rfl (fun hg7 => S_gcall rfl (AEvs.cons (AEv.cond (AEv.tmp rfl) (by first | assumption | exact gdAnd (by assumption) (by assumption))) AEvs.nil) ((fail_Text_ok (erIn (erNew 30 [[115, 112, 101, 99], [109, 97, 105, 110]]) [114, 117, 110]) (by decide) (by decide)) _ (fun p hp => by first | exact hG p hp | (simp [hG p hp]; done)))) ?_
  refine AL_g rfl rfl (AEv.tmp rfl) rfl (fun hg10 => S_eqS rfl (AEv.cond (AEv.tmp rfl) (by first | assumption | exact gdAnd (by assumption) (by assumption))) (AEv.S _)) ?_
  refine AL_p rfl rfl (S_and rfl (AEv.tmp rfl) (fun hp13 => (AEv.cond (AEv.tmp rfl) (by first | assumption | exact gdT hp13 | exact gdF hp13 | exact gdAnd (by assumption) (gdT hp13) | exact gdAnd (by assumption) (gdF hp13))))) ?_
  refine AL_p rfl rfl (S_move rfl (AEv.tmp rfl)) ?_
  refine AL_g rfl rfl (AEv.tmp rfl) rfl (fun hg14 => S_move rfl (AEv.tmp rfl)) ?_
  refine AL_g rfl rfl (AEv.tmp rfl) rfl (fun hg17 => S_gcall rfl (AEvs.cons (AEv.cond (AEv.tmp rfl) (by first | assumption | exact gdAnd (by assumption) (by assumption))) AEvs.nil) ((fail_Code_ok (erNew 30 [[115, 112, 101, 99], [109, 97, 105, 110]])) _ (fun p hp => by first | exact hG p hp | (simp [hG p hp]; done)))) ?_
  refine AL_g rfl rfl (AEv.tmp rfl) rfl (fun hg20 => S_eql rfl (AEv.cond (AEv.tmp rfl) (by first | assumption | exact gdAnd (by assumption) (by assumption))) (AEv.const _)) ?_
  refine AL_p rfl rfl (S_and rfl (AEv.tmp rfl) (fun hp23 => (AEv.cond (AEv.tmp rfl) (by first | assumption | exact gdT hp23 | exact gdF hp23 | exact gdAnd (by assumption) (gdT hp23) | exact gdAnd (by assumption) (gdF hp23))))) ?_
  refine AL_p rfl rfl (S_move rfl (AEv.tmp rfl)) ?_
  refine AL_g rfl rfl (AEv.tmp rfl) rfl (fun hg24 => S_pcall rfl (AEvs.cons (AEv.const _) (AEvs.cons (AEv.S _) AEvs.nil)) (fail_In_ok none [120])) ?_
  refine AL_g rfl rfl (AEv.tmp rfl) rfl (fun hg27 => S_eqlE (er_is 27 49 (erIn none [120])) rfl (AEv.cond (AEv.tmp rfl) (by first | assumption | exact gdAnd (by assumption) (by assumption))) (by kernel_rfl)) ?_
  refine AL_p rfl rfl (S_and rfl (AEv.tmp rfl) (fun hp30 => (AEv.cond (AEv.tmp rfl) (by first | assumption | exact gdT hp30 | exact gdF hp30 | exact gdAnd (by assumption) (gdT hp30) | exact gdAnd (by assumption) (gdF hp30))))) ?_
  refine AL_p rfl rfl (S_move rfl (AEv.tmp rfl)) ?_
  refine AL_g rfl rfl (AEv.tmp rfl) rfl (fun hg31 => S_pcall rfl (AEvs.cons ((AEv.const _).le Le.nils) AEvs.nil) (fail_First_ok [] (by decide))) ?_
  refine AL_g rfl rfl (AEv.tmp rfl) rfl (fun hg34 => S_eqlE (er_is 27 49 (firstE [])) rfl (AEv.cond (AEv.tmp rfl) (by first | assumption | exact gdAnd (by assumption) (by assumption))) (by kernel_rfl)) ?_
  refine AL_p rfl rfl (S_and rfl (AEv.tmp rfl) (fun hp37 => (AEv.cond (AEv.tmp rfl) (by first | assumption | exact gdT hp37 | exact gdF hp37 | exact gdAnd (by assumption) (gdT hp37) | exact gdAnd (by assumption) (gdF hp37))))) ?_
  refine AL_p rfl rfl (S_assign rfl (AEv.tmp rfl)) ?_
  refine AL_nil ?_
  refine AC_ret ?_
  refine ret_tmp st rfl rfl (Sub.l (List.Sublist.refl _)) (Conv.refl (Sub.l (List.Sublist.refl _)) _) ⟨by kernel_rfl, rfl⟩ (.inl rfl)

set_option maxRecDepth 100000 in
/-- provost/provostlaw02.FailFirst -/
theorem law_FailFirst (c0 c1 c2 c3 : Int) : GCalls Tryd.prog tabs 3 [.agg (intsV [c0, c1, c2, c3])] (.bool true) := by
  intro st hG
  refine ACalls_of (N := 47) Tryd.func3 (by kernel_rfl) rfl rfl rfl ?_
  refine AC_seq ?_
  refine AC_region ?_
  refine AL_step rfl rfl (S_box rfl (AEv.tmp rfl)) ?_
  rintro _ _ ⟨b1, rfl, rfl⟩
  refine AL_p rfl rfl (S_assign rfl (AEv.const _)) ?_
  refine AL_nil ?_
  refine AC_seq ?_
  refine AC_region ?_
  refine AL_p rfl rfl (S_assign rfl (AEv.const _)) ?_
  refine AL_nil ?_
  refine AC_seq ?_
  refine AC_seq ?_
  refine AC_region ?_
  refine AL_p rfl rfl (S_assign rfl (AEv.const _)) ?_
  refine AL_nil ?_
  refine AC_block ?_
  refine AC_loop (G := Nat) (fun i => i ≤ 4) (fun i => [(1, .ptr b1 0), (3, .int .i64 (wantC ([c0, c1, c2, c3].take i))), (4, .int .i64 (i : Int))]) (fun i => (b1, .cells (intsV [c0, c1, c2, c3])) :: st) (fun i => 4 - i) (0) (Nat.zero_le _) rfl ?_ ?_
  · exact .cons rfl (Le.refl _) (.cons rfl (Le.refl _) (.cons rfl (Le.refl _) .nil))
  · rintro i hi
    try dsimp only
    refine AC_seq ?_
    refine AC_seq ?_
    refine AC_region ?_
    refine AL_p rfl rfl (S_move rfl (AEv.tmp rfl)) ?_
    refine AL_p rfl rfl (S_lss rfl (AEv.tmp rfl) (AEv.const _)) ?_
    refine AL_nil ?_
    refine AC_cond (AEv.tmp rfl) (fun hb2 => ?_) (fun hb2 => ?_)
    · try simp only [Bool.and_eq_true, Bool.or_eq_true, Bool.not_eq_true', Bool.not_eq_false', Bool.and_eq_false_iff, Bool.or_eq_false_iff, decide_eq_true_eq, decide_eq_false_iff_not, gd] at hb2
      have hil : i < [c0, c1, c2, c3].length := by show i < 4; omega
      refine AC_skip ?_
      refine AC_seq ?_
      refine AC_block ?_
      refine AC_seq ?_
      refine AC_region ?_
      refine AL_p rfl rfl (S_move rfl (AEv.tmp rfl)) ?_
      refine AL_p rfl rfl (S_eql rfl (AEv.tmp rfl) (AEv.const _)) ?_
      refine AL_nil ?_
      refine AC_cond (AEv.tmp rfl) (fun hb3 => ?_) (fun hb3 => ?_)
      · try simp only [Bool.and_eq_true, Bool.or_eq_true, Bool.not_eq_true', Bool.not_eq_false', Bool.and_eq_false_iff, Bool.or_eq_false_iff, decide_eq_true_eq, decide_eq_false_iff_not, gd] at hb3
        have hw := hb3
        refine AC_region ?_
        refine AL_p rfl rfl (S_move rfl (AEv.tmp rfl)) ?_
        refine AL_p rfl rfl (S_elemA (e := 3) (len := 4) 1 rfl (AEv.tmp rfl) (AEv.tmp rfl) (by kernel_rfl) (by kernel_rfl) (by omega) (by omega)) ?_
        refine AL_p rfl rfl (S_load (c := .int .i64 ([c0, c1, c2, c3][i]'hil)) 0 rfl (AEv.tmp rfl) rfl (by rw [show 0 + ((i : Int)).toNat * 1 = i by omega]; simp only [intsV, List.getElem?_map, List.getElem?_eq_getElem hil, Option.map_some]) (by kernel_rfl)) ?_
        refine AL_p rfl rfl (S_assign rfl (AEv.tmp rfl)) ?_
        refine AL_nil ?_
        refine AC_region ?_
        refine AL_p rfl rfl (S_move rfl (AEv.tmp rfl)) ?_
        refine AL_p rfl rfl (S_addI rfl (AEv.tmp rfl) (AEv.const _) (by omega) (by omega)) ?_
        refine AL_p rfl rfl (S_assign rfl (AEv.tmp rfl)) ?_
        refine AL_nil ?_
        refine ⟨i + 1, by omega, by omega, rfl, .cons rfl (Le.refl _) (.cons rfl (Le.of_eq (by rw [want_next hil, if_pos hw])) (.cons rfl (Le.of_eq (by rw [Int.natCast_add]; rfl)) .nil))⟩
      · try simp only [Bool.and_eq_true, Bool.or_eq_true, Bool.not_eq_true', Bool.not_eq_false', Bool.and_eq_false_iff, Bool.or_eq_false_iff, decide_eq_true_eq, decide_eq_false_iff_not, gd] at hb3
        have hw := hb3
        refine AC_skip ?_
        refine AC_region ?_
        refine AL_p rfl rfl (S_move rfl (AEv.tmp rfl)) ?_
        refine AL_p rfl rfl (S_addI rfl (AEv.tmp rfl) (AEv.const _) (by omega) (by omega)) ?_
        refine AL_p rfl rfl (S_assign rfl (AEv.tmp rfl)) ?_
        refine AL_nil ?_
        refine ⟨i + 1, by omega, by omega, rfl, .cons rfl (Le.refl _) (.cons rfl (Le.of_eq (by rw [want_next hil, if_neg hw])) (.cons rfl (Le.of_eq (by rw [Int.natCast_add]; rfl)) .nil))⟩
    · try simp only [Bool.and_eq_true, Bool.or_eq_true, Bool.not_eq_true', Bool.not_eq_false', Bool.and_eq_false_iff, Bool.or_eq_false_iff, decide_eq_true_eq, decide_eq_false_iff_not, gd] at hb2
      obtain rfl : i = 4 := by omega
      obtain ⟨q1, q2⟩ := four c0 c1 c2 c3 [[97]] [[98]] [[99]] [[100]]
      refine AC_exit ?_
      refine AC_seq ?_
      refine AC_draw (by kernel_rfl) (by kernel_rfl) (.cons rfl (Q_p rfl (S_elemA (e := 3) (len := 4) 1 rfl (AEv.tmp rfl) (AEv.const _) (by kernel_rfl) (by kernel_rfl) (by omega) (by omega))) <|
          .cons rfl (Q_p rfl (S_load 0 rfl (AEv.tmp rfl) rfl rfl (by kernel_rfl))) <|
          .cons rfl (Q_p rfl (S_buildSlice (e := 9) 1 rfl (AEvs.cons (AEv.S _) AEvs.nil) rfl (by kernel_rfl) (by kernel_rfl) (by simp [AV.flat, AV.one, AV.cells, Value.oneCell']) (by decide) (by decide) (by decide))) <|
          .cons rfl (Q_p rfl (S_pcall rfl (AEvs.cons (AEv.tmp rfl) (AEvs.cons (AEv.tmp rfl) AEvs.nil)) (fail_New_ok c0 [[97]] (by decide)))) <|
          .cons rfl (Q_p rfl (S_elemA (e := 3) (len := 4) 1 rfl (AEv.tmp rfl) (AEv.const _) (by kernel_rfl) (by kernel_rfl) (by omega) (by omega))) <|
          .cons rfl (Q_p rfl (S_load 0 rfl (AEv.tmp rfl) rfl rfl (by kernel_rfl))) <|
          .cons rfl (Q_p rfl (S_buildSlice (e := 9) 1 rfl (AEvs.cons (AEv.S _) AEvs.nil) rfl (by kernel_rfl) (by kernel_rfl) (by simp [AV.flat, AV.one, AV.cells, Value.oneCell']) (by decide) (by decide) (by decide))) <|
          .cons rfl (Q_p rfl (S_pcall rfl (AEvs.cons (AEv.tmp rfl) (AEvs.cons (AEv.tmp rfl) AEvs.nil)) (fail_New_ok c1 [[98]] (by decide)))) <|
          .cons rfl (Q_p rfl (S_elemA (e := 3) (len := 4) 1 rfl (AEv.tmp rfl) (AEv.const _) (by kernel_rfl) (by kernel_rfl) (by omega) (by omega))) <|
          .cons rfl (Q_p rfl (S_load 0 rfl (AEv.tmp rfl) rfl rfl (by kernel_rfl))) <|
          .cons rfl (Q_p rfl (S_buildSlice (e := 9) 1 rfl (AEvs.cons (AEv.S _) AEvs.nil) rfl (by kernel_rfl) (by kernel_rfl) (by simp [AV.flat, AV.one, AV.cells, Value.oneCell']) (by decide) (by decide) (by decide))) <|
          .cons rfl (Q_p rfl (S_pcall rfl (AEvs.cons (AEv.tmp rfl) (AEvs.cons (AEv.tmp rfl) AEvs.nil)) (fail_New_ok c2 [[99]] (by decide)))) <|
          .cons rfl (Q_p rfl (S_elemA (e := 3) (len := 4) 1 rfl (AEv.tmp rfl) (AEv.const _) (by kernel_rfl) (by kernel_rfl) (by omega) (by omega))) <|
          .cons rfl (Q_p rfl (S_load 0 rfl (AEv.tmp rfl) rfl rfl (by kernel_rfl))) <|
          .cons rfl (Q_p rfl (S_buildSlice (e := 9) 1 rfl (AEvs.cons (AEv.S _) AEvs.nil) rfl (by kernel_rfl) (by kernel_rfl) (by simp [AV.flat, AV.one, AV.cells, Value.oneCell']) (by decide) (by decide) (by decide))) <|
          .cons rfl (Q_p rfl (S_pcall rfl (AEvs.cons (AEv.tmp rfl) (AEvs.cons (AEv.tmp rfl) AEvs.nil)) (fail_New_ok c3 [[100]] (by decide)))) <|
          .cons rfl (Q_p rfl (S_buildSlice (e := 24) 1 rfl (AEvs.cons (AEv.tmp rfl) (AEvs.cons (AEv.tmp rfl) (AEvs.cons (AEv.tmp rfl) (AEvs.cons (AEv.tmp rfl) AEvs.nil)))) rfl (by kernel_rfl) (by kernel_rfl) (by intro y hy; simp only [List.mem_cons, List.not_mem_nil, or_false] at hy; rcases hy with rfl | rfl | rfl | rfl <;> exact ⟨er_flat _ _ _, by rw [er_cells]; rfl⟩) (by decide) (by decide) (by decide))) <|
          .cons rfl (Q_p rfl (S_pcall rfl (AEvs.cons (AEv.tmp rfl) AEvs.nil) (fail_First_ok [erNew c0 [[97]], erNew c1 [[98]], erNew c2 [[99]], erNew c3 [[100]]] (by simp)))) <|
          .cons rfl (Q_p rfl (S_assign rfl (AEv.tmp rfl))) <|
          .nil) ?_
      refine AC_seq ?_
      refine AC_region ?_
      refine AL_p rfl rfl (S_move rfl (AEv.tmp rfl)) ?_
      refine AL_p rfl rfl (S_eqlE (er_is 27 49 (firstE [erNew c0 [[97]], erNew c1 [[98]], erNew c2 [[99]], erNew c3 [[100]]])) rfl (AEv.tmp rfl) (by kernel_rfl)) ?_
      refine AL_p rfl rfl (S_move rfl (AEv.tmp rfl)) ?_
      refine AL_p rfl rfl (S_eql rfl (AEv.tmp rfl) (AEv.const _)) ?_
      refine AL_p rfl rfl (S_eqB rfl (AEv.tmp rfl) (AEv.tmp rfl) (by kernel_rfl)) ?_
      refine AL_p rfl rfl (S_move rfl (AEv.tmp rfl)) ?_
      refine AL_g rfl rfl (AEv.tmp rfl) rfl (fun hg4 => S_move rfl (AEv.tmp rfl)) ?_
      refine AL_g rfl rfl (AEv.tmp rfl) rfl (fun hg7 => S_gcall rfl (AEvs.cons (AEv.cond (AEv.tmp rfl) (by first | assumption | exact gdAnd (by assumption) (by assumption))) AEvs.nil) ((fail_Code_ok (firstE [erNew c0 [[97]], erNew c1 [[98]], erNew c2 [[99]], erNew c3 [[100]]])) _ (fun p hp => by first | exact hG p hp | (simp [hG p hp]; done)))) ?_
      refine AL_g rfl rfl (AEv.tmp rfl) rfl (fun hg10 => S_move rfl (AEv.tmp rfl)) ?_
      refine AL_g rfl rfl (AEv.tmp rfl) rfl (fun hg13 => S_eql rfl (AEv.cond (AEv.tmp rfl) (by first | assumption | exact gdAnd (by assumption) (by assumption))) (AEv.cond (AEv.tmp rfl) (by first | assumption | exact gdAnd (by assumption) (by assumption)))) ?_
      refine AL_p rfl rfl (S_and rfl (AEv.tmp rfl) (fun hp16 => (AEv.cond (AEv.tmp rfl) (by first | assumption | exact gdT hp16 | exact gdF hp16 | exact gdAnd (by assumption) (gdT hp16) | exact gdAnd (by assumption) (gdF hp16))))) ?_
      refine AL_p rfl rfl (S_move rfl (AEv.tmp rfl)) ?_
      refine AL_g rfl rfl (AEv.tmp rfl) rfl (fun hg17 => S_gcall rfl AEvs.nil ((law_works) _ (fun p hp => by first | exact hG p hp | (simp [hG p hp]; done)))) ?_
      refine AL_p rfl rfl (S_and rfl (AEv.tmp rfl) (fun hp20 => (AEv.cond (AEv.tmp rfl) (by first | assumption | exact gdT hp20 | exact gdF hp20 | exact gdAnd (by assumption) (gdT hp20) | exact gdAnd (by assumption) (gdF hp20))))) ?_
      refine AL_p rfl rfl (S_assign rfl (AEv.tmp rfl)) ?_
      refine AL_nil ?_
      refine AC_ret ?_
      refine ret_tmp st rfl rfl (Sub.l (List.Sublist.cons _ (List.Sublist.refl _))) (Conv.refl (Sub.l (List.Sublist.cons _ (List.Sublist.refl _))) _) ⟨by rw [q1, q2]; simp [List.take_of_length_le], rfl⟩ (.inl rfl)

set_option maxRecDepth 100000 in
/-- provost/provostlaw02.FailIs -/
theorem law_FailIs (c0 c1 : Int) (at_ to : List (List UInt8)) : GCalls Tryd.prog tabs 6 [.agg (intsV [c0, c1]), .sl (strsV at_), .sl (strsV to)] (.bool true) := by
  intro st hG
  refine ACalls_of (N := 49) Tryd.func6 (by kernel_rfl) rfl rfl rfl ?_
  have hal := strsV_len at_
  have htl := strsV_len to
  refine AC_seq ?_
  refine AC_region ?_
  refine AL_step rfl rfl (S_box rfl (AEv.tmp rfl)) ?_
  rintro _ _ ⟨b1, rfl, rfl⟩
  refine AL_p rfl rfl (S_assign rfl (AEv.const _)) ?_
  refine AL_nil ?_
  refine AC_seq ?_
  refine AC_seq ?_
  refine AC_region ?_
  refine AL_p rfl rfl (S_gcall rfl AEvs.nil ((law_works) _ (fun p hp => by first | exact hG p hp | (simp [hG p hp]; done)))) ?_
  refine AL_p rfl rfl (S_not rfl (AEv.tmp rfl)) ?_
  refine AL_nil ?_
  refine AC_cond (AEv.tmp rfl) (fun hb2 => ?_) (fun hb2 => ?_)
  · simp at hb2; done
  · try simp only [Bool.and_eq_true, Bool.or_eq_true, Bool.not_eq_true', Bool.not_eq_false', Bool.and_eq_false_iff, Bool.or_eq_false_iff, decide_eq_true_eq, decide_eq_false_iff_not, gd] at hb2
    refine AC_skip ?_
    refine AC_seq ?_
    refine AC_seq ?_
    refine AC_region ?_
    refine AL_p rfl rfl (S_move rfl (AEv.tmp rfl)) ?_
    refine AL_p rfl rfl (S_len (e := 9) rfl (AEv.tmp rfl) (by kernel_rfl)) ?_
    refine AL_p rfl rfl (S_gtr rfl (AEv.tmp rfl) (AEv.const _)) ?_
    refine AL_p rfl rfl (S_move rfl (AEv.tmp rfl)) ?_
    refine AL_g rfl rfl (AEv.tmp rfl) rfl (fun hg3 => S_move rfl (AEv.tmp rfl)) ?_
    refine AL_g rfl rfl (AEv.tmp rfl) rfl (fun hg6 => S_len (e := 9) rfl (AEv.cond (AEv.tmp rfl) (by first | assumption | exact gdAnd (by assumption) (by assumption))) (by kernel_rfl)) ?_
    refine AL_g rfl rfl (AEv.tmp rfl) rfl (fun hg9 => S_gtr rfl (AEv.cond (AEv.tmp rfl) (by first | assumption | exact gdAnd (by assumption) (by assumption))) (AEv.const _)) ?_
    refine AL_p rfl rfl (S_or rfl (AEv.tmp rfl) (fun hp12 => (AEv.cond (AEv.tmp rfl) (by first | assumption | exact gdT hp12 | exact gdF hp12 | exact gdAnd (by assumption) (gdT hp12) | exact gdAnd (by assumption) (gdF hp12))))) ?_
    refine AL_nil ?_
    refine AC_cond (AEv.tmp rfl) (fun hb13 => ?_) (fun hb13 => ?_)
    · try simp only [Bool.and_eq_true, Bool.or_eq_true, Bool.not_eq_true', Bool.not_eq_false', Bool.and_eq_false_iff, Bool.or_eq_false_iff, decide_eq_true_eq, decide_eq_false_iff_not, gd] at hb13
      refine AC_seq ?_
      refine AC_region ?_
      refine AL_p rfl rfl (S_assign rfl (AEv.const _)) ?_
      refine AL_nil ?_
      refine AC_ret ?_
      refine ret_tmp st rfl rfl (Sub.l (List.Sublist.cons _ (List.Sublist.refl _))) (Conv.refl (Sub.l (List.Sublist.cons _ (List.Sublist.refl _))) _) ⟨rfl, rfl⟩ (.inl rfl)
    · try simp only [Bool.and_eq_true, Bool.or_eq_true, Bool.not_eq_true', Bool.not_eq_false', Bool.and_eq_false_iff, Bool.or_eq_false_iff, decide_eq_true_eq, decide_eq_false_iff_not, gd] at hb13
      have hbl : at_.length ≤ 50 ∧ to.length ≤ 50 := by omega
      refine AC_skip ?_
      refine AC_seq ?_
      refine AC_draw (by kernel_rfl) (by kernel_rfl) (.cons rfl (Q_p rfl (S_elemA (e := 3) (len := 2) 1 rfl (AEv.tmp rfl) (AEv.const _) (by kernel_rfl) (by kernel_rfl) (by omega) (by omega))) <|
          .cons rfl (Q_p rfl (S_load 0 rfl (AEv.tmp rfl) rfl rfl (by kernel_rfl))) <|
          .cons rfl (Q_p rfl (S_elemA (e := 3) (len := 2) 1 rfl (AEv.tmp rfl) (AEv.const _) (by kernel_rfl) (by kernel_rfl) (by omega) (by omega))) <|
          .cons rfl (Q_p rfl (S_load 0 rfl (AEv.tmp rfl) rfl rfl (by kernel_rfl))) <|
          .cons rfl (Q_p rfl (S_assign rfl (AEv.tmp rfl))) <|
          .cons rfl (Q_p rfl (S_assign rfl (AEv.tmp rfl))) <|
          .nil) ?_
      refine AC_seq ?_
      refine AC_region ?_
      refine AL_p rfl rfl (S_move rfl (AEv.tmp rfl)) ?_
      refine AL_p rfl rfl (S_move rfl (AEv.tmp rfl)) ?_
      refine AL_p rfl rfl (S_pcall rfl (AEvs.cons (AEv.tmp rfl) (AEvs.cons (AEv.tmp rfl) AEvs.nil)) (fail_New_ok c0 at_ (by omega))) ?_
      refine AL_p rfl rfl (S_move rfl (AEv.tmp rfl)) ?_
      refine AL_p rfl rfl (S_move rfl (AEv.tmp rfl)) ?_
      refine AL_p rfl rfl (S_pcall rfl (AEvs.cons (AEv.tmp rfl) (AEvs.cons (AEv.tmp rfl) AEvs.nil)) (fail_New_ok c1 to (by omega))) ?_
      refine AL_p rfl rfl (S_assign rfl (AEv.tmp rfl)) ?_
      refine AL_p rfl rfl (S_assign rfl (AEv.tmp rfl)) ?_
      refine AL_nil ?_
      refine AC_seq ?_
      refine AC_region ?_
      refine AL_p rfl rfl (S_move rfl (AEv.tmp rfl)) ?_
      refine AL_p rfl rfl (S_move rfl (AEv.tmp rfl)) ?_
      refine AL_p rfl rfl (S_gcall rfl (AEvs.cons (AEv.tmp rfl) AEvs.nil) ((fail_Code_ok (erNew c1 to)) _ (fun p hp => by first | exact hG p hp | (simp [hG p hp]; done)))) ?_
      refine AL_p rfl rfl (S_pcall rfl (AEvs.cons (AEv.tmp rfl) (AEvs.cons (AEv.tmp rfl) AEvs.nil)) (fail_Has_ok (erNew c0 at_) (erCode (erNew c1 to)))) ?_
      refine AL_p rfl rfl (S_move rfl (AEv.tmp rfl)) ?_
      refine AL_p rfl rfl (S_move rfl (AEv.tmp rfl)) ?_
      refine AL_p rfl rfl (S_eql rfl (AEv.tmp rfl) (AEv.tmp rfl)) ?_
      refine AL_p rfl rfl (S_eqB rfl (AEv.tmp rfl) (AEv.tmp rfl) (by kernel_rfl)) ?_
      refine AL_p rfl rfl (S_move rfl (AEv.tmp rfl)) ?_
      refine AL_g rfl rfl (AEv.tmp rfl) rfl (fun hg14 => S_move rfl (AEv.tmp rfl)) ?_
      refine AL_g rfl rfl (AEv.tmp rfl) rfl (fun hg17 => S_move rfl (AEv.tmp rfl)) ?_
      refine AL_g rfl rfl (AEv.tmp rfl) rfl (fun hg20 => S_gcall rfl (AEvs.cons (AEv.cond (AEv.tmp rfl) (by first | assumption | exact gdAnd (by assumption) (by assumption))) AEvs.nil) ((fail_Code_ok (erNew c0 at_)) _ (fun p hp => by first | exact hG p hp | (simp [hG p hp]; done)))) ?_
      refine AL_g rfl rfl (AEv.tmp rfl) rfl (fun hg23 => S_pcall rfl (AEvs.cons (AEv.cond (AEv.tmp rfl) (by first | assumption | exact gdAnd (by assumption) (by assumption))) (AEvs.cons (AEv.cond (AEv.tmp rfl) (by first | assumption | exact gdAnd (by assumption) (by assumption))) AEvs.nil)) (fail_Has_ok (erNew c1 to) (erCode (erNew c0 at_)))) ?_
      refine AL_g rfl rfl (AEv.tmp rfl) rfl (fun hg26 => S_move rfl (AEv.tmp rfl)) ?_
      refine AL_g rfl rfl (AEv.tmp rfl) rfl (fun hg29 => S_move rfl (AEv.tmp rfl)) ?_
      refine AL_g rfl rfl (AEv.tmp rfl) rfl (fun hg32 => S_eql rfl (AEv.cond (AEv.tmp rfl) (by first | assumption | exact gdAnd (by assumption) (by assumption))) (AEv.cond (AEv.tmp rfl) (by first | assumption | exact gdAnd (by assumption) (by assumption)))) ?_
      refine AL_g rfl rfl (AEv.tmp rfl) rfl (fun hg35 => S_eqB rfl (AEv.cond (AEv.tmp rfl) (by first | assumption | exact gdAnd (by assumption) (by assumption))) (AEv.cond (AEv.tmp rfl) (by first | assumption | exact gdAnd (by assumption) (by assumption))) (by kernel_rfl)) ?_
      refine AL_p rfl rfl (S_and rfl (AEv.tmp rfl) (fun hp38 => (AEv.cond (AEv.tmp rfl) (by first | assumption | exact gdT hp38 | exact gdF hp38 | exact gdAnd (by assumption) (gdT hp38) | exact gdAnd (by assumption) (gdF hp38))))) ?_
      refine AL_p rfl rfl (S_assign rfl (AEv.tmp rfl)) ?_
      refine AL_nil ?_
      refine AC_ret ?_
      refine ret_tmp st rfl rfl (Sub.l (List.Sublist.cons _ (List.Sublist.refl _))) (Conv.refl (Sub.l (List.Sublist.cons _ (List.Sublist.refl _))) _) ⟨by rw [erNew_code, erNew_code, erHas_new, erHas_new]; simp [eq_comm], rfl⟩ (.inl rfl)

theorem row_FailFirst (l : List Int) (h : l.length = 4) : GCalls Tryd.prog tabs 3 [.agg (intsV l)] (.bool true) := by
  match l, h with
  | [a, b, c, d], _ => exact law_FailFirst a b c d

theorem row_FailIs (l : List Int) (h : l.length = 2) (a b : List (List UInt8)) : GCalls Tryd.prog tabs 6 [.agg (intsV l), .sl (strsV a), .sl (strsV b)] (.bool true) := by
  match l, h with
  | [c, d], _ => exact law_FailIs c d a b

end Go.Proofs.YtemlgeljgnmfeaaDoor
